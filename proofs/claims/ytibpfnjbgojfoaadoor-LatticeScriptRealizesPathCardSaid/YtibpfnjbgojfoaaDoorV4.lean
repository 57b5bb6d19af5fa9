/- What a step leaves behind it, and what steps come to together. -/
import Derived.Test.YtibpfnjbgojfoaaDoorV3
import Derived.Laws.CopyRow
set_option linter.all false
namespace Go.Vm
open Go
variable [Gl]

def Alive (H : Heap) (id : Nat) : Prop := ∃ o, H[id]? = some (some o)

structure Post (μ : Locs) (F : Nat → Prop) (w : World) (H : Heap) (μ' : Locs) (F' : Nat → Prop) (w' : World) (H' : Heap) : Prop where
  rel : Rel μ' F' w' H'
  ext : Ext μ F w μ' F' w' (Alive H)
  len : H.length ≤ H'.length
  alive : ∀ id, id < H.length → Alive H' id → Alive H id

section
variable {μ μ1 μ2 : Locs} {F F1 F2 : Nat → Prop} {w w1 w2 : World} {H H1 H2 : Heap}

theorem Post.refl (hR : Rel μ F w H) : Post μ F w H μ F w H := ⟨hR, Ext.refl _ _ _ _, Nat.le_refl _, fun _ _ h => h⟩

theorem Ext.trans {T T2 : Nat → Prop} (e1 : Ext μ F w μ1 F1 w1 T) (e2 : Ext μ1 F1 w1 μ2 F2 w2 T2) (hT : ∀ id l, T2 id → μ id = some l → T id) : Ext μ F w μ2 F2 w2 T := by
  -- a block that the second step may have written
  have cls : ∀ id l, T2 id → μ1 id = some l → w.heap.size ≤ l.blk ∨ ∃ id0 l0, T id0 ∧ μ id0 = some l0 ∧ l0.blk = l.blk := by
    intro id l ht hm
    rcases e1.newl id l hm with h | ⟨_, h⟩
    · exact .inr ⟨id, l, hT id l ht h, h, rfl⟩
    · exact h
  refine ⟨fun id l h => e2.locs _ _ (e1.locs _ _ h), fun b h => e2.fro _ (e1.fro _ h), Nat.le_trans e1.size e2.size, e2.os.trans e1.os, e2.tape.trans e1.tape, ⟨e2.output.1.trans e1.output.1, Nat.le_trans e1.output.2 e2.output.2⟩, ?_, ?_, ?_⟩
  · intro b hb hn
    rw [e2.keep b (Nat.lt_of_lt_of_le hb e1.size) (fun id l ht hm hbl => ?_), e1.keep b hb hn]
    rcases cls id l ht hm with h | ⟨id0, l0, h1, h2, h3⟩
    · omega
    · exact hn id0 l0 h1 h2 (h3.trans hbl)
  · intro id l hm
    have none_of : μ1 id = none → μ id = none := by
      intro h
      cases hh : μ id with
      | none => rfl
      | some l0 => rw [e1.locs _ _ hh] at h; cases h
    rcases e2.newl id l hm with h | ⟨h0, h | ⟨id0, l0, h1, h2, h3⟩⟩
    · exact e1.newl id l h
    · exact .inr ⟨none_of h0, .inl (Nat.le_trans e1.size h)⟩
    · refine .inr ⟨none_of h0, ?_⟩
      rcases cls id0 l0 h1 h2 with h | ⟨id1, l1, h4, h5, h6⟩
      · exact .inl (h3 ▸ h)
      · exact .inr ⟨id1, l1, h4, h5, h6.trans h3⟩
  · intro b hb
    rcases e2.newf b hb with h | h | ⟨id0, l0, h1, h2, h3⟩
    · exact e1.newf b h
    · exact .inr (.inl (Nat.le_trans e1.size h))
    · rcases cls id0 l0 h1 h2 with h | ⟨id1, l1, h4, h5, h6⟩
      · exact .inr (.inl (h3 ▸ h))
      · exact .inr (.inr ⟨id1, l1, h4, h5, h6.trans h3⟩)

theorem Post.trans (hR : Rel μ F w H) (p : Post μ F w H μ1 F1 w1 H1) (q : Post μ1 F1 w1 H1 μ2 F2 w2 H2) : Post μ F w H μ2 F2 w2 H2 :=
  ⟨q.rel, p.ext.trans q.ext (fun id l ha hm => p.alive id (hR.idlt id l hm) ha), Nat.le_trans p.len q.len,
   fun id hid ha => p.alive id hid (q.alive id (Nat.lt_of_lt_of_le hid p.len) ha)⟩

/-- Whatever stood for a value stands for it still. -/
theorem Post.keep (hR : Rel μ F w H) (p : Post μ F w H μ1 F1 w1 H1) {x : AV} {u : Value} (h : RepA μ F w x u) : RepA μ1 F1 w1 x u :=
  h.mono p.ext.locs p.ext.fro (p.ext.keepF hR (fun _ h => h))
theorem Post.keepCw (hR : Rel μ F w H) (p : Post μ F w H μ1 F1 w1 H1) {x : List AV} {u : Array Value} (h : Cw μ F w x u) : Cw μ1 F1 w1 x u :=
  ⟨h.1, fun j y u hy hu => p.keep hR (h.2 j y u hy hu)⟩

theorem alive_set_none {id i : Nat} (h : Alive (H.set id none) i) : i ≠ id ∧ Alive H i := by
  obtain ⟨o, ho⟩ := h
  by_cases e : i = id
  · subst e
    rw [List.getElem?_set] at ho
    simp at ho
  · exact ⟨e, o, by rwa [List.getElem?_set_ne (fun h => e h.symm)] at ho⟩

/-- One object written, where it lies. -/
theorem Rel.write {id : Nat} {l : Loc} {ob : Ob} (hR : Rel μ F w H) (hm : μ id = some l) (ha : Alive H id) (hs : w1.heap.size = w.heap.size) (hos : w1.os = w.os) (ht : w1.tape = w.tape)
    (hout : w1.output = w.output ∧ w.drawn ≤ w1.drawn) (hk : ∀ b, b ≠ l.blk → w1.heap[b]? = w.heap[b]?) (ho : ObAt μ F w1 l ob) : Post μ F w H μ F w1 (H.set id (some ob)) := by
  obtain ⟨o0, ho0⟩ := ha
  have hF : ∀ b, F b → w1.heap[b]? = w.heap[b]? := fun b hb => hk b (fun e => hR.nF id l o0 hm ho0 (e ▸ hb))
  have old : ∀ i o, (H.set id (some ob))[i]? = some (some o) → i ≠ id → H[i]? = some (some o) := fun i o h hne => by
    rwa [List.getElem?_set_ne (fun h => hne h.symm)] at h
  have al : ∀ i o, (H.set id (some ob))[i]? = some (some o) → ∃ o', H[i]? = some (some o') := fun i o h => by
    by_cases e : i = id
    · subst e; exact ⟨o0, ho0⟩
    · exact ⟨o, old i o h e⟩
  refine ⟨⟨fun i l' o hm' h => ?_, fun i j l1 l2 o o' h1 h2 h3 h4 h5 => ?_, fun i l' o hm' h => ?_, fun i l' h => by rw [hs]; exact hR.lt i l' h, fun b hb => by rw [hs]; exact hR.Flt b hb, fun i l' h => by simpa using hR.idlt i l' h, hR.gl.mono (fun _ h => h) hF⟩, ?_, by simp, ?_⟩
  · by_cases e : i = id
    · subst e
      rw [hm] at hm'; cases hm'
      have hlt : i < H.length := hR.idlt i l hm
      rw [List.getElem?_set_self hlt] at h
      cases h; exact ho
    · have h' := old i o h e
      refine (hR.ob i l' o hm' h').mono (fun _ _ h => h) (fun _ h => h) hF (hk _ (fun eb => ?_))
      exact e (hR.inj i id l' l o o0 hm' hm h' ho0 eb)
  · obtain ⟨a1, b1⟩ := al i o h3
    obtain ⟨a2, b2⟩ := al j o' h4
    exact hR.inj i j l1 l2 a1 a2 h1 h2 b1 b2 h5
  · obtain ⟨a1, b1⟩ := al i o h
    exact hR.nF i l' a1 hm' b1
  · exact ⟨fun _ _ h => h, fun _ h => h, by rw [hs]; exact Nat.le_refl _, hos, ht, hout, fun b _ hn => hk b (fun e => hn id l ⟨o0, ho0⟩ hm e.symm), fun _ _ h => .inl h, fun _ h => .inl h⟩
  · rintro i hi ⟨o, h⟩
    exact al i o h

theorem Rel.kill (hR : Rel μ F w H) (id : Nat) : Post μ F w H μ F w (H.set id none) := by
  have old : ∀ i o, (H.set id none)[i]? = some (some o) → H[i]? = some (some o) := fun i o h => by
    have ⟨hne, _⟩ := alive_set_none ⟨o, h⟩
    rwa [List.getElem?_set_ne (fun h => hne h.symm)] at h
  exact ⟨⟨fun i l' o hm' h => hR.ob i l' o hm' (old i o h), fun i j l1 l2 o o' h1 h2 h3 h4 h5 => hR.inj i j l1 l2 o o' h1 h2 (old i o h3) (old j o' h4) h5, fun i l' o hm' h => hR.nF i l' o hm' (old i o h),
    hR.lt, hR.Flt, fun i l' h => by simpa using hR.idlt i l' h, hR.gl⟩, Ext.refl _ _ _ _, by simp, fun i _ ⟨o, h⟩ => ⟨o, old i o h⟩⟩

/-- Places, one more. -/
def upd (μ : Locs) (id : Nat) (l : Loc) : Locs := fun i => if i = id then some l else μ i
theorem upd_same (μ : Locs) (id : Nat) (l : Loc) : upd μ id l id = some l := by simp [upd]
theorem Rel.fresh (hR : Rel μ F w H) {i : Nat} (h : H.length ≤ i) : μ i = none := by
  cases hh : μ i with
  | none => rfl
  | some l => exact absurd (hR.idlt i l hh) (by omega)
theorem upd_old {id : Nat} (hn : μ id = none) (l : Loc) : ∀ i l', μ i = some l' → upd μ id l i = some l' := by
  intro i l' h
  unfold upd; split
  · rename_i e; subst e; rw [hn] at h; cases h
  · exact h

/-- A new object in a new block. -/
theorem Rel.new {l : Loc} {ob : Ob} {oc : Obj} (hR : Rel μ F w H) (hl : l.blk = w.heap.size) (ho : ObAt (upd μ H.length l) F (w.alloc oc) l ob) :
    Post μ F w H (upd μ H.length l) F (w.alloc oc) (H ++ [some ob]) := by
  have hn : μ H.length = none := hR.fresh (Nat.le_refl _)
  have hold := upd_old hn l
  have hk : ∀ b, b < w.heap.size → (w.alloc oc).heap[b]? = w.heap[b]? := fun b hb => RowKit.Below.heap_alloc w oc b hb
  have inv : ∀ i l', upd μ H.length l i = some l' → (i = H.length ∧ l' = l) ∨ (i < H.length ∧ μ i = some l') := by
    intro i l' h
    unfold upd at h
    split at h
    · rename_i e; cases h; exact .inl ⟨e, rfl⟩
    · exact .inr ⟨hR.idlt i l' h, h⟩
  have geto : ∀ i o, i < H.length → (H ++ [some ob])[i]? = some (some o) → H[i]? = some (some o) := fun i o hi h => by rwa [List.getElem?_append_left hi] at h
  refine ⟨⟨fun i l' o hm' h => ?_, fun i j l1 l2 o o' h1 h2 h3 h4 h5 => ?_, fun i l' o hm' h => ?_, fun i l' h => ?_, fun b hb => by simp; have := hR.Flt b hb; omega, fun i l' h => ?_, hR.gl.mono (fun _ h => h) (fun b hb => hk b (hR.Flt b hb))⟩, ?_, by simp, fun i hi ⟨o, h⟩ => ⟨o, geto i o hi h⟩⟩
  · rcases inv i l' hm' with ⟨rfl, rfl⟩ | ⟨hi, hm⟩
    · simp at h; subst h; exact ho
    · exact (hR.ob i l' o hm (geto i o hi h)).mono hold (fun _ h => h) (fun b hb => hk b (hR.Flt b hb)) (hk _ (hR.lt i l' hm))
  · rcases inv i l1 h1 with ⟨rfl, rfl⟩ | ⟨hi, hm⟩ <;> rcases inv j l2 h2 with ⟨rfl, rfl⟩ | ⟨hj, hm2⟩
    · rfl
    · have := hR.lt j l2 hm2; omega
    · have := hR.lt i l1 hm; omega
    · exact hR.inj i j l1 l2 o o' hm hm2 (geto i o hi h3) (geto j o' hj h4) h5
  · rcases inv i l' hm' with ⟨rfl, rfl⟩ | ⟨hi, hm⟩
    · intro hb; have := hR.Flt _ hb; omega
    · exact hR.nF i l' o hm (geto i o hi h)
  · rcases inv i l' h with ⟨rfl, rfl⟩ | ⟨hi, hm⟩
    · simp; omega
    · have := hR.lt i l' hm; simp; omega
  · rcases inv i l' h with ⟨rfl, rfl⟩ | ⟨hi, hm⟩
    · simp
    · simp; omega
  · refine ⟨hold, fun _ h => h, by simp, rfl, rfl, ⟨rfl, Nat.le_refl _⟩, fun b hb _ => hk b hb, fun i l' h => ?_, fun _ h => .inl h⟩
    rcases inv i l' h with ⟨rfl, rfl⟩ | ⟨hi, hm⟩
    · exact .inr ⟨hn, .inl (by omega)⟩
    · exact .inl hm

/-- A new block that nobody will write. -/
theorem Rel.newF {oc : Obj} (hR : Rel μ F w H) : Post μ F w H μ (fun b => F b ∨ b = w.heap.size) (w.alloc oc) H := by
  have hk : ∀ b, b < w.heap.size → (w.alloc oc).heap[b]? = w.heap[b]? := fun b hb => RowKit.Below.heap_alloc w oc b hb
  refine ⟨⟨fun i l o hm h => (hR.ob i l o hm h).mono (fun _ _ h => h) (fun _ h => .inl h) (fun b hb => hk b (hR.Flt b hb)) (hk _ (hR.lt i l hm)), hR.inj, fun i l o hm h hb => ?_, fun i l h => ?_, fun b hb => ?_, hR.idlt, hR.gl.mono (fun _ h => .inl h) (fun b hb => hk b (hR.Flt b hb))⟩,
    ⟨fun _ _ h => h, fun _ h => .inl h, by simp, rfl, rfl, ⟨rfl, Nat.le_refl _⟩, fun b hb _ => hk b hb, fun _ _ h => .inl h, fun b hb => ?_⟩, Nat.le_refl _, fun _ _ h => h⟩
  · rcases hb with hb | hb
    · exact hR.nF i l o hm h hb
    · have := hR.lt i l hm; omega
  · have := hR.lt i l h; simp; omega
  · rcases hb with hb | hb
    · have := hR.Flt b hb; simp; omega
    · simp; omega
  · rcases hb with hb | hb
    · exact .inl hb
    · exact .inr (.inl (by omega))

/-- A draw. -/
theorem Rel.drew (hR : Rel μ F w H) : Post μ F w H μ F w.drew H :=
  ⟨⟨fun i l o hm h => ObAt.mono (w := w) (w' := w.drew) (fun _ _ h => h) (fun _ h => h) (fun _ _ => rfl) rfl (hR.ob i l o hm h), hR.inj, hR.nF, hR.lt, hR.Flt, hR.idlt, hR.gl.mono (fun _ h => h) (fun _ _ => rfl)⟩,
   ⟨fun _ _ h => h, fun _ h => h, Nat.le_refl _, rfl, rfl, ⟨rfl, Nat.le_succ _⟩, fun _ _ _ => rfl, fun _ _ h => .inl h, fun _ h => .inl h⟩, Nat.le_refl _, fun _ _ h => h⟩

/-- An object goes on under another number, in its block. -/
theorem Rel.move {id : Nat} {l l' : Loc} {ob : Ob} (hR : Rel μ F w H) (hm : μ id = some l) (ha : Alive H id) (hb : l'.blk = l.blk) (hs : w1.heap.size = w.heap.size) (hos : w1.os = w.os) (ht : w1.tape = w.tape)
    (hout : w1.output = w.output ∧ w.drawn ≤ w1.drawn) (hk : ∀ b, b ≠ l.blk → w1.heap[b]? = w.heap[b]?) (ho : ObAt (upd μ H.length l') F w1 l' ob) :
    Post μ F w H (upd μ H.length l') F w1 (H.set id none ++ [some ob]) := by
  obtain ⟨o0, ho0⟩ := ha
  have hn : μ H.length = none := hR.fresh (Nat.le_refl _)
  have hold := upd_old hn l'
  have hidlt := hR.idlt id l hm
  have hF : ∀ b, F b → w1.heap[b]? = w.heap[b]? := fun b hb' => hk b (fun e => hR.nF id l o0 hm ho0 (e ▸ hb'))
  have inv : ∀ i l2, upd μ H.length l' i = some l2 → (i = H.length ∧ l2 = l') ∨ (i < H.length ∧ μ i = some l2) := by
    intro i l2 h
    unfold upd at h
    split at h
    · rename_i e; cases h; exact .inl ⟨e, rfl⟩
    · exact .inr ⟨hR.idlt i l2 h, h⟩
  have geto : ∀ i o, i < H.length → (H.set id none ++ [some ob])[i]? = some (some o) → i ≠ id ∧ H[i]? = some (some o) := fun i o hi h => by
    rw [List.getElem?_append_left (by simpa using hi)] at h
    obtain ⟨hne, _⟩ := alive_set_none ⟨o, h⟩
    exact ⟨hne, by rwa [List.getElem?_set_ne (fun h => hne h.symm)] at h⟩
  refine ⟨⟨fun i l2 o hm' h => ?_, fun i j l1 l2 o o' h1 h2 h3 h4 h5 => ?_, fun i l2 o hm' h => ?_, fun i l2 h => ?_, fun b hb' => by rw [hs]; exact hR.Flt b hb', fun i l2 h => ?_, hR.gl.mono (fun _ h => h) hF⟩, ?_, by simp, fun i hi ⟨o, h⟩ => ⟨o, (geto i o hi h).2⟩⟩
  · rcases inv i l2 hm' with ⟨rfl, rfl⟩ | ⟨hi, hmi⟩
    · rw [List.getElem?_append_right (by simp)] at h
      simp at h; subst h; exact ho
    · obtain ⟨hne, h'⟩ := geto i o hi h
      exact (hR.ob i l2 o hmi h').mono hold (fun _ h => h) hF (hk _ (fun e => hne (hR.inj i id l2 l o o0 hmi hm h' ho0 e)))
  · rcases inv i l1 h1 with ⟨rfl, rfl⟩ | ⟨hi, hmi⟩ <;> rcases inv j l2 h2 with ⟨rfl, rfl⟩ | ⟨hj, hmj⟩
    · rfl
    · obtain ⟨hne, h'⟩ := geto j o' hj h4
      exact absurd (hR.inj j id l2 l o' o0 hmj hm h' ho0 (h5.symm.trans hb)) hne
    · obtain ⟨hne, h'⟩ := geto i o hi h3
      exact absurd (hR.inj i id l1 l o o0 hmi hm h' ho0 (h5.trans hb)) hne
    · exact hR.inj i j l1 l2 o o' hmi hmj (geto i o hi h3).2 (geto j o' hj h4).2 h5
  · rcases inv i l2 hm' with ⟨rfl, rfl⟩ | ⟨hi, hmi⟩
    · rw [hb]; exact hR.nF id l o0 hm ho0
    · exact hR.nF i l2 o hmi (geto i o hi h).2
  · rw [hs]
    rcases inv i l2 h with ⟨rfl, rfl⟩ | ⟨hi, hmi⟩
    · rw [hb]; exact hR.lt id l hm
    · exact hR.lt i l2 hmi
  · rcases inv i l2 h with ⟨rfl, rfl⟩ | ⟨hi, hmi⟩
    · simp
    · simp; omega
  · refine ⟨hold, fun _ h => h, by rw [hs]; exact Nat.le_refl _, hos, ht, hout, fun b _ hnb => hk b (fun e => hnb id l ⟨o0, ho0⟩ hm e.symm), fun i l2 h => ?_, fun _ h => .inl h⟩
    rcases inv i l2 h with ⟨rfl, rfl⟩ | ⟨hi, hmi⟩
    · exact .inr ⟨hn, .inr ⟨id, l, ⟨o0, ho0⟩, hm, hb.symm⟩⟩
    · exact .inl hmi

/-- Some cells of an object's block written. -/
theorem write_cells {P : Program} {g p : Nat} {cur : Array Value} {t : TypeId} (hg : w.heap[g]? = some (.cells cur t (0, 0))) (vs : List Value) (hp : p + vs.length ≤ cur.size) (h1 : ∀ v ∈ vs, v.oneCell' = true) :
    ∃ w1 cur', (storeCells ⟨g, p, none⟩ vs).run P w = .ok () w1 ∧ w1.heap.size = w.heap.size ∧ w1.os = w.os ∧ w1.tape = w.tape ∧ (w1.output = w.output ∧ w.drawn ≤ w1.drawn) ∧ (∀ b, b ≠ g → w1.heap[b]? = w.heap[b]?) ∧
      w1.heap[g]? = some (.cells cur' t (0, 0)) ∧ cur'.size = cur.size ∧ ∀ q, w1.cell? ⟨g, q, none⟩ = if p ≤ q ∧ q < p + vs.length then vs[q - p]? else w.cell? ⟨g, q, none⟩ := by
  have hr := run_storeCells_at P g p t vs 0 cur w hg (by simpa using hp) h1
  simp only [Nat.add_zero] at hr
  have hh := setRow_heap w g cur (cur.toList.take p ++ vs ++ cur.toList.drop (p + vs.length)).toArray t (0, 0) hg
  refine ⟨_, _, hr, by simp [World.setRow], rfl, rfl, ⟨rfl, Nat.le_refl _⟩, fun b hb => ?_, hh, by simp; omega, fun q => ?_⟩
  · simp only [World.setRow, Array.getElem?_modify]
    rw [if_neg (fun e => hb e.symm)]
  · have e1 : (w.setRow g (cur.toList.take p ++ vs ++ cur.toList.drop (p + vs.length)).toArray).cell? ⟨g, q, none⟩ = (cur.toList.take p ++ vs ++ cur.toList.drop (p + vs.length))[q]? := by
      rw [cell_setRow_same w g q cur _ t (0, 0) hg]; simp
    have e2 : w.cell? ⟨g, q, none⟩ = cur[q]? := by simp [World.cell?, hg]
    rw [e1, e2]
    by_cases hq : q < p
    · rw [if_neg (by omega), List.append_assoc, List.getElem?_append_left (by simp; omega), List.getElem?_take, if_pos hq, Array.getElem?_toList]
    · by_cases hq2 : q < p + vs.length
      · rw [if_pos (by omega), List.append_assoc, List.getElem?_append_right (by simp; omega)]
        simp only [List.length_take, Array.length_toList]
        rw [Nat.min_eq_left (by omega), List.getElem?_append_left (by omega)]
      · rw [if_neg (by omega), List.getElem?_append_right (by simp; omega)]
        simp only [List.length_append, List.length_take, Array.length_toList, List.getElem?_drop]
        rw [Nat.min_eq_left (by omega)]
        rw [show p + vs.length + (q - (p + vs.length)) = q from by omega, Array.getElem?_toList]

end
end Go.Vm
/- Operations that write. -/
namespace Go.Vm
open Go
variable [Gl]

/-- What an operation that writes has done, whatever follows. -/
def EOut (P : Program) (o : Oper) (a : Act) (μ : Locs) (F : Nat → Prop) (w : World) (H : Heap) (K : AV → Heap → Prop) : Prop :=
  ∀ (next : Act → World → Prop) (Q : Exit → Act → World → Prop),
    (∀ v H' u μ' F' w', K v H' → RepA μ' F' w' v u → Post μ F w H μ' F' w' H' → next (a.put o.dst u) w') → o.wp P a w next Q

def arrOf (H : Heap) (id : Nat) : Option (Nat × List AV) := match H.ob id with
  | some (.arr sz es) => some (sz, es)
  | _ => none
def mapOf (H : Heap) (id : Nat) : Option (KS × List (DV × AV)) := match H.ob id with
  | some (.map ks es) => some (ks, es)
  | _ => none

def wpStore (H : Heap) (n : Nat) (x v : AV) (K : AV → Heap → Prop) : Prop := match x with
  | .ptr id ix o => match arrOf H id with
    | some (sz, es) => ix < es.length ∧ o + n ≤ sz ∧ v.fits n = true ∧ (updA sz (es.getD ix .undef) o n v).fits sz = true ∧ K .undef (H.set id (some (.arr sz (es.set ix (updA sz (es.getD ix .undef) o n v)))))
    | none => False
  | _ => False

def wpAppend (H : Heap) (sz bytes : Nat) (s x : AV) (K : AV → Heap → Prop) : Prop := match srcE H sz x with
  | some (p, news) => p ∧ (match s with
    | .nils => (news.length * bytes ≤ 140737488355328 ∧ news.length ≤ 4611686018427387904) ∧ K (.hs H.length 0 news.length sz) (H ++ [some (.arr sz news)])
    | .hs id off len sz' => match arrOf H id with
      | some (sz'', es) => sz' = sz ∧ sz'' = sz ∧ off + len = es.length ∧ ((len + news.length) * bytes ≤ 140737488355328 ∧ len + news.length ≤ 4611686018427387904) ∧
          K (.hs H.length 0 (len + news.length) sz) (H.set id none ++ [some (.arr sz (es.drop off ++ news))])
      | none => False
    | _ => False)
  | none => False

def wpMapUpd (H : Heap) (ks : KS) (m k v : AV) (K : AV → Heap → Prop) : Prop := match m, k with
  | .mp id, .d k => match mapOf H id with
    | some (ks', es) => ks' = ks ∧ k.conf ks = true ∧ K .undef (H.set id (some (.map ks (assocSet es k v))))
    | none => False
  | _, _ => False

def wpDelete (H : Heap) (ks : KS) (m k : AV) (K : AV → Heap → Prop) : Prop := match m, k with
  | .mp id, .d k => match mapOf H id with
    | some (ks', es) => ks' = ks ∧ k.conf ks = true ∧ K .undef (H.set id (some (.map ks (assocDel es k))))
    | none => False
  | _, _ => False

section
variable {P : Program} {μ : Locs} {F : Nat → Prop} {w : World} {H : Heap} {a : Act} {t : TypeId} {K : AV → Heap → Prop}

theorem arrOf_some {id sz : Nat} {es : List AV} (h : arrOf H id = some (sz, es)) : H[id]? = some (some (.arr sz es)) := by
  unfold arrOf at h; split at h
  · rename_i sz' es' ho; cases h; exact Heap.ob_some ho
  · cases h
theorem mapOf_some {id : Nat} {ks : KS} {es : List (DV × AV)} (h : mapOf H id = some (ks, es)) : H[id]? = some (some (.map ks es)) := by
  unfold mapOf at h; split at h
  · rename_i ks' es' ho; cases h; exact Heap.ob_some ho
  · cases h

/-- An operation with a value. -/
theorem EOut.value {o : Oper} {u : Value} {w' : World} {μ' : Locs} {F' : Nat → Prop} {v : AV} {H' : Heap} (hr : (execOp a.eval o).run P w = .ok (.value u) w')
    (hk : K v H') (hv : RepA μ' F' w' v u) (hp : Post μ F w H μ' F' w' H') : EOut P o a μ F w H K := fun next Q h => by
  unfold Oper.wp; rw [hr]; exact h v H' u μ' F' w' hk hv hp
theorem EOut.skip {o : Oper} {w' : World} {μ' : Locs} {F' : Nat → Prop} {H' : Heap} (hr : (execOp a.eval o).run P w = .ok .skip w')
    (hk : K .undef H') (hp : Post μ F w H μ' F' w' H') : EOut P o a μ F w H K := fun next Q h => by
  unfold Oper.wp; rw [hr]; exact h .undef H' _ μ' F' w' hk (.undef _) hp

theorem updA_cells {sz : Nat} {e v : AV} {o n : Nat} (he : e.cells.length = sz) (hv : v.cells.length = n) (ho : o + n ≤ sz) :
    ∀ j y, (updA sz e o n v).cells[j]? = some y → (o ≤ j ∧ j < o + n ∧ v.cells[j - o]? = some y) ∨ ((j < o ∨ o + n ≤ j) ∧ e.cells[j]? = some y) := by
  have mk : ∀ cs : List AV, (AV.mkAgg cs).cells = cs := by
    intro cs
    unfold AV.mkAgg
    split
    · rename_i ds hd; rw [allD_some hd]; rfl
    · rfl
  intro j y hy
  unfold updA at hy
  split at hy
  · rename_i hw
    obtain ⟨rfl, rfl⟩ := hw
    have : j < n := by rw [← hv]; exact (List.getElem?_eq_some_iff.1 hy).1
    exact .inl ⟨by omega, by omega, by simpa using hy⟩
  · rw [mk] at hy
    by_cases hj : j < o
    · rw [List.append_assoc, List.getElem?_append_left (by simp; omega), List.getElem?_take, if_pos hj] at hy
      exact .inr ⟨.inl hj, hy⟩
    · by_cases hj2 : j < o + n
      · rw [List.append_assoc, List.getElem?_append_right (by simp; omega)] at hy
        simp only [List.length_take] at hy
        rw [Nat.min_eq_left (by omega), List.getElem?_append_left (by omega)] at hy
        exact .inl ⟨by omega, hj2, hy⟩
      · rw [List.getElem?_append_right (by simp; omega)] at hy
        simp only [List.length_append, List.length_take, List.getElem?_drop] at hy
        rw [Nat.min_eq_left (by omega), show o + n + (j - (o + v.cells.length)) = j from by omega] at hy
        exact .inr ⟨.inr (by omega), hy⟩

theorem run_storeVar {n : Nat} (hs : sizeT P t = some n) {v : Value} (hv : v.cells.size = n) {b p : Nat} {w' : World} (h : (storeCells ⟨b, p, none⟩ v.cells.toList).run P w = .ok () w') :
    (storeVar t ⟨b, p, none⟩ v).run P w = .ok () w' := by
  simp [storeVar, run_sizeT hs, hv, h]

theorem store_sound (o : Oper) (x y : Operand) (ho : o.op = .store t x y) {n : Nat} (hs : sizeT P t = some n) (hR : Rel μ F w H) {vx vy : AV} (hx : RepA μ F w vx (a.eval x))
    (hy : RepA μ F w vy (a.eval y)) (h : wpStore H n vx vy K) : EOut P o a μ F w H K := by
  unfold wpStore at h
  split at h
  · rename_i id ix off
    split at h
    · rename_i sz es hG
      obtain ⟨hix, hoff, hf, hf2, hk⟩ := h
      have hH := arrOf_some hG
      generalize hu : a.eval x = u at hx
      cases hx with
      | ptr _ _ _ l hm =>
        have hA : ArrAt μ F w l sz es := hR.ob id l _ hm hH
        obtain ⟨c, ty, hblk, hsize⟩ := hA.blk
        obtain ⟨h1, h2⟩ := hy.cells hf
        have hone : ∀ v ∈ (a.eval y).cells.toList, v.oneCell' = true := by
          intro v hv
          obtain ⟨j, hj⟩ := List.getElem?_of_mem hv
          have hjn : j < vy.cells.length := by
            rw [AV.fits_length hf, ← h1]; have := (List.getElem?_eq_some_iff.1 hj).1; simpa using this
          exact (h2 j vy.cells[j] v (by simp [hjn]) (by simpa using hj)).1
        have hle : ix * sz + sz ≤ l.cap * sz := by
          have : (ix + 1) * sz ≤ l.cap * sz := Nat.mul_le_mul_right _ (by have := hA.room; omega)
          rw [Nat.add_mul] at this; omega
        rw [hA.hsz] at hsize
        obtain ⟨w1, cur', hr, hs1, hos, htp, hout, hk1, hblk', hsz', hcell⟩ := write_cells (P := P) hblk (a.eval y).cells.toList (p := l.off + (ix * sz + off)) (by simp; rw [h1]; omega) hone
        have hlen : (a.eval y).cells.toList.length = n := by simp [h1]
        rw [hlen] at hcell
        have hF : ∀ b, F b → w1.heap[b]? = w.heap[b]? := fun b hb => hk1 b (fun e => hR.nF id l _ hm hH (e ▸ hb))
        have hrun : (execOp a.eval o).run P w = .ok .skip w1 := by
          simp only [execOp, ho, hu, Instr.storeAt, Instr.sureAddr, Sem.run_bind, Sem.run_pure, Result.andThen_ok]
          rw [hA.hsz, run_storeVar hs h1 hr]; rfl
        refine EOut.skip hrun hk (hR.write hm ⟨_, hH⟩ hs1 hos htp hout hk1 ?_)
        have hget : es.getD ix .undef = es[ix] := getD_lt _ _ _ hix
        rw [hget] at hf2 ⊢
        refine ⟨hA.hsz, by simpa using hA.room, fun z hz => ?_, ⟨cur', ty, hblk', by rw [hsz', hA.hsz]; exact hsize⟩, fun i j z y' hz hy' => ?_⟩
        · rcases List.mem_or_eq_of_mem_set hz with hz | rfl
          · exact hA.cells z hz
          · exact hf2
        · have hfz : z.fits sz = true := by
            rcases List.mem_or_eq_of_mem_set (List.mem_of_getElem? hz) with hz' | rfl
            · exact hA.cells z hz'
            · exact hf2
          have hj : j < sz := by
            have := (List.getElem?_eq_some_iff.1 hy').1; rwa [AV.fits_length hfz] at this
          by_cases hi : i = ix
          · subst hi
            rw [List.getElem?_set_self hix] at hz
            obtain rfl := Option.some.inj hz
            rcases updA_cells (AV.fits_length (hA.cells es[i] (List.getElem_mem hix))) (AV.fits_length hf) hoff j y' hy' with ⟨ha, hb, hc⟩ | ⟨ha, hc⟩
            · have hv : (a.eval y).cells[j - off]? = some ((a.eval y).cells[j - off]'(by rw [h1]; omega)) := by simp
              obtain ⟨h3, h4⟩ := h2 (j - off) y' _ hc hv
              refine ⟨_, ?_, h3, h4.mono (fun _ _ h => h) (fun _ h => h) hF⟩
              rw [hcell, if_pos (by omega), show l.off + (i * sz + j) - (l.off + (i * sz + off)) = j - off from by omega]
              simp
            · obtain ⟨u', h3, h4, h5⟩ := hA.rep i j es[i] y' (by simp [hix]) hc
              refine ⟨u', ?_, h4, h5.mono (fun _ _ h => h) (fun _ h => h) hF⟩
              rw [hcell, if_neg (by omega)]; exact h3
          · rw [List.getElem?_set_ne (fun e => hi e.symm)] at hz
            obtain ⟨u', h3, h4, h5⟩ := hA.rep i j z y' hz hy'
            refine ⟨u', ?_, h4, h5.mono (fun _ _ h => h) (fun _ h => h) hF⟩
            rw [hcell, if_neg]
            · exact h3
            · rintro ⟨ha, hb⟩
              have : i * sz + j = ix * sz + (i * sz + j - ix * sz) := by omega
              exact hi (idx_eq hj (by omega) this).1
    · exact h.elim
  · exact h.elim

end
end Go.Vm
/- append. -/
namespace Go.Vm
open Go
variable [Gl]

section
variable {P : Program} {μ : Locs} {F : Nat → Prop} {w w' : World} {H : Heap} {a : Act} {t : TypeId} {K : AV → Heap → Prop}

/-- An object without a place: a slice of no room. -/
theorem Rel.virt (hR : Rel μ F w H) (ob : Ob) : Post μ F w H μ F w (H ++ [some ob]) := by
  have hn : μ H.length = none := hR.fresh (Nat.le_refl _)
  have geto : ∀ i l o, μ i = some l → (H ++ [some ob])[i]? = some (some o) → H[i]? = some (some o) := fun i l o hm h => by
    rwa [List.getElem?_append_left (hR.idlt i l hm)] at h
  exact ⟨⟨fun i l o hm h => hR.ob i l o hm (geto i l o hm h), fun i j l1 l2 o o' h1 h2 h3 h4 => hR.inj i j l1 l2 o o' h1 h2 (geto i l1 o h1 h3) (geto j l2 o' h2 h4), fun i l o hm h => hR.nF i l o hm (geto i l o hm h), hR.lt, hR.Flt,
    fun i l h => by have := hR.idlt i l h; simp; omega, hR.gl⟩, Ext.refl _ _ _ _, by simp, fun i hi ⟨o, h⟩ => ⟨o, by rwa [List.getElem?_append_left hi] at h⟩⟩

theorem RepA.world {x : AV} {u : Value} (hh : w'.heap = w.heap) (h : RepA μ F w x u) : RepA μ F w' x u := h.mono (fun _ _ h => h) (fun _ h => h) (fun _ _ => by rw [hh])

/-- The elements of a slice, and the cells that they are. -/
theorem src_cells {sz : Nat} (hsz : sz ≠ 0) (hR : Rel μ F w H) {vx : AV} {u : Value} (hx : RepA μ F w vx u) {p : Prop} {news : List AV} (hs : srcE H sz vx = some (p, news)) (hp : p) :
    ∃ (ad : Option Addr) (c : Nat) (us : List Value), u = .slice ad news.length c ∧ us.length = news.length * sz ∧ Ew μ F w sz news us.toArray ∧
      (news ≠ [] → ∃ a0, ad = some a0) ∧ (∀ a0, ad = some a0 → ∀ (j : Nat) (v : Value), us[j]? = some v → w.cell? (a0.add j) = some v) := by
  -- one value for each cell
  have pick : ∀ (n : Nat) (g : Nat → Option Value), (∀ k, k < n → ∃ v, g k = some v) → ∃ us : List Value, us.length = n ∧ ∀ j v, us[j]? = some v → g j = some v := by
    intro n g hg
    refine ⟨(List.range n).map fun k => (g k).getD default, by simp, fun j v hv => ?_⟩
    simp only [List.getElem?_map, Option.map_eq_some_iff] at hv
    obtain ⟨k, hk, rfl⟩ := hv
    have hkn : j < n := by have := (List.getElem?_eq_some_iff.1 hk).1; simpa using this
    have : k = j := by have := (List.getElem?_eq_some_iff.1 hk).2; simpa using this.symm
    subst this
    obtain ⟨v, hv⟩ := hg k hkn
    simp [hv]
  have split_idx : ∀ k n : Nat, k < n * sz → k / sz < n ∧ k % sz < sz ∧ k / sz * sz + k % sz = k := by
    intro k n hk
    refine ⟨Nat.div_lt_of_lt_mul (by rwa [Nat.mul_comm] at hk), Nat.mod_lt _ (by omega), ?_⟩
    rw [Nat.mul_comm]; exact Nat.div_add_mod k sz
  -- from cells at an address
  have fin : ∀ (b o0 c : Nat), u = .slice (some ⟨b, o0, none⟩) news.length c → (∀ x ∈ news, x.fits sz = true) →
      (∀ (i j : Nat) (x y : AV), news[i]? = some x → x.cells[j]? = some y → ∃ v, w.cell? ⟨b, o0 + (i * sz + j), none⟩ = some v ∧ v.oneCell' = true ∧ RepA μ F w y v) →
      ∃ (ad : Option Addr) (c : Nat) (us : List Value), u = .slice ad news.length c ∧ us.length = news.length * sz ∧ Ew μ F w sz news us.toArray ∧
      (news ≠ [] → ∃ a0, ad = some a0) ∧ (∀ a0, ad = some a0 → ∀ (j : Nat) (v : Value), us[j]? = some v → w.cell? (a0.add j) = some v) := by
    intro b o0 c hu hf hcell
    obtain ⟨us, hl, hus⟩ := pick (news.length * sz) (fun k => w.cell? ⟨b, o0 + k, none⟩) (fun k hk => by
      obtain ⟨h1, h2, h3⟩ := split_idx k _ hk
      have hfx := hf news[k / sz] (List.getElem_mem h1)
      have hj : k % sz < news[k / sz].cells.length := by rw [AV.fits_length hfx]; exact h2
      obtain ⟨v, hv, _⟩ := hcell (k / sz) (k % sz) news[k / sz] news[k / sz].cells[k % sz] (by simp [h1]) (by simp [hj])
      rw [h3] at hv
      exact ⟨v, hv⟩)
    refine ⟨_, c, us, hu, hl, ⟨by simp [hl], hf, fun i j x y v hx hy hv => ?_⟩, fun _ => ⟨_, rfl⟩, fun a0 ha j v hv => ?_⟩
    · obtain ⟨v', h1, h2, h3⟩ := hcell i j x y hx hy
      have := hus (i * sz + j) v (by simpa using hv)
      rw [h1] at this
      cases this
      exact ⟨h2, h3⟩
    · cases ha
      rw [addr_add]
      exact hus j v hv
  have empty : news = [] → (∃ ad c, u = .slice ad 0 c) → ∃ (ad : Option Addr) (c : Nat) (us : List Value), u = .slice ad news.length c ∧ us.length = news.length * sz ∧ Ew μ F w sz news us.toArray ∧
      (news ≠ [] → ∃ a0, ad = some a0) ∧ (∀ a0, ad = some a0 → ∀ (j : Nat) (v : Value), us[j]? = some v → w.cell? (a0.add j) = some v) := by
    rintro rfl ⟨ad, c, hu⟩
    exact ⟨ad, c, [], hu, by simp, ⟨by simp, by simp, by simp⟩, fun h => absurd rfl h, by simp⟩
  unfold srcE at hs
  split at hs
  · rename_i xs
    cases hs
    have hd := hx.inv_d
    cases hd with
    | vs _ ad n c sz' f hn hc hszz ha hcell hrep =>
      by_cases hne : xs = []
      · subst hne
        simp at hn; subst hn
        exact empty rfl ⟨_, _, rfl⟩
      · obtain ⟨ad0, h3, h4, h5⟩ := ha hne
        subst h3
        obtain ⟨b0, o0, s0⟩ := ad0
        simp only at h4 h5
        subst h5
        refine fin b0 o0 c (by simp [hn]) (fun x hx => ?_) (fun i j x y hx hy => ?_)
        · obtain ⟨d, hd, rfl⟩ := List.mem_map.1 hx
          simpa [AV.fits] using hp d hd
        · simp only [List.getElem?_map, Option.map_eq_some_iff] at hx
          obtain ⟨d, hd, rfl⟩ := hx
          simp only [AV.cells, List.getElem?_map, Option.map_eq_some_iff] at hy
          obtain ⟨y', hy', rfl⟩ := hy
          have hm := List.mem_of_getElem? hd
          have hss : sz' = sz := by
            have := AV.fits_length (x := .d d) (by simpa [AV.fits] using hszz d hm)
            have h6 := AV.fits_length (x := .d d) (by simpa [AV.fits] using hp d hm)
            omega
          have h7 := hcell ⟨b0, o0, none⟩ rfl i j d y' hd hy'
          rw [hss] at h7
          have hy1 : y'.one = true := by
            have := hp d hm
            simp only [DV.fits, Bool.and_eq_true, List.all_eq_true] at this
            exact this.2 y' (List.mem_of_getElem? hy')
          have hr := hrep i j d y' hd hy'
          exact ⟨f i j, h7, oneCell_of_repD hr hy1, .d _ _ hr⟩
  · cases hs
    cases hx
    exact empty rfl ⟨_, _, rfl⟩
  · rename_i id off len sz'
    split at hs
    · rename_i sz'' es hG
      cases hs
      obtain ⟨rfl, hle⟩ := hp
      have hlen : ((es.drop off).take len).length = len := by simp; omega
      cases hx with
      | hs _ _ _ _ l c hm hlsz hl hc =>
        have hA : ArrAt μ F w l sz'' es := hR.ob id l _ hm (Heap.ob_some hG)
        have hss : sz'' = sz' := by rw [← hA.hsz, hlsz]
        subst hss
        refine fin l.blk (l.off + off * sz'') c (by rw [hlen]) (fun x hx => hA.cells x (List.mem_of_mem_drop (List.mem_of_mem_take hx))) (fun i j x y hx hy => ?_)
        rw [drop_take_get] at hx
        split at hx
        · obtain ⟨v, h1, h2, h3⟩ := hA.rep (off + i) j x y hx hy
          refine ⟨v, ?_, h2, h3⟩
          rw [Nat.add_mul] at h1
          rwa [show l.off + off * sz'' + (i * sz'' + j) = l.off + (off * sz'' + i * sz'' + j) from by omega]
        · cases hx
      | hs0 => exact empty (by simp) ⟨_, _, rfl⟩
    · cases hs
  · cases hs

theorem grownCap_pos (w : World) (need old : Nat) (e : TypeId) : need ≤ grownCap w need old e := grownCap_ge w need old e

/-- A new row: the old elements, the new ones, spare ones. -/
theorem Ew.append {sz : Nat} {es fs : List AV} {us vs : Array Value} (h1 : Ew μ F w sz es us) (h2 : Ew μ F w sz fs vs) : Ew μ F w sz (es ++ fs) (us ++ vs) := by
  refine ⟨by simp [h1.1, h2.1, Nat.add_mul], fun x hx => ?_, fun i j x y u hx hy hu => ?_⟩
  · rcases List.mem_append.1 hx with hx | hx
    · exact h1.2.1 x hx
    · exact h2.2.1 x hx
  · by_cases hi : i < es.length
    · rw [List.getElem?_append_left hi] at hx
      have hj : j < sz := by
        have := (List.getElem?_eq_some_iff.1 hy).1
        rwa [AV.fits_length (h1.2.1 x (List.mem_of_getElem? hx))] at this
      have := idx_lt hi hj
      rw [Array.getElem?_append_left (by rw [h1.1]; exact this)] at hu
      exact h1.2.2 i j x y u hx hy hu
    · rw [List.getElem?_append_right (by omega)] at hx
      have e : i * sz + j - us.size = (i - es.length) * sz + j := by
        rw [h1.1, Nat.sub_mul]
        have : es.length * sz ≤ i * sz := Nat.mul_le_mul_right _ (by omega)
        omega
      rw [Array.getElem?_append_right (by rw [h1.1]; have : es.length * sz ≤ i * sz := Nat.mul_le_mul_right _ (by omega); omega), e] at hu
      exact h2.2.2 _ j x y u hx hy hu

theorem Ew.nil (sz : Nat) : Ew μ F w sz [] #[] := ⟨by simp, by simp, by simp⟩
theorem Ew.world {sz : Nat} {es : List AV} {us : Array Value} (hh : w'.heap = w.heap) (h : Ew μ F w sz es us) : Ew μ F w' sz es us :=
  ⟨h.1, h.2.1, fun i j x y u hx hy hu => ⟨(h.2.2 i j x y u hx hy hu).1, (h.2.2 i j x y u hx hy hu).2.world hh⟩⟩

theorem exec_append (o : Oper) (args : Array Operand) (argTypes : Array TypeId) (ho : o.op = .call { callee := .builtin .append, args, argTypes }) {x y : Operand} (ha : args.toList = [x, y]) (htt : argTypes.toList = [t, t])
    {u : Value} (h : (Builtin.append_ #[t, t] o.type #[a.eval x, a.eval y]).run P w = .ok u w') : (execOp a.eval o).run P w = .ok (.value u) w' := by
  have e1 : args = #[x, y] := by rw [← Array.toList_inj]; simpa using ha
  have e2 : argTypes = #[t, t] := by rw [← Array.toList_inj]; simpa using htt
  subst e1; subst e2
  simp only [execOp, ho, resolve, Sem.run_bind, Sem.run_pure, Result.andThen_ok, invoke, builtin]
  simp [h]


/-- The outcome of an append that makes a new row. -/
theorem app_new {e : TypeId} {sz cap : Nat} {es : List AV} {us : Array Value} {rest : Array Value} (hR : Rel μ F w H) (hE : Ew μ F w sz es us) (hcap : es.length ≤ cap) (hrest : us.size + rest.size = cap * sz) :
    Post μ F w H (upd μ H.length ⟨w.heap.size, 0, sz, cap⟩) F (w.drew.alloc (.cells (us ++ rest) e)) (H ++ [some (.arr sz es)]) ∧
    RepA (upd μ H.length ⟨w.heap.size, 0, sz, cap⟩) F (w.drew.alloc (.cells (us ++ rest) e)) (.hs H.length 0 es.length sz) (.slice (some ⟨w.heap.size, 0, none⟩) es.length cap) := by
  have hd := hR.drew
  have hR' := hd.rel
  have hn : μ H.length = none := hR.fresh (Nat.le_refl _)
  have hA : ArrAt (upd μ H.length ⟨w.heap.size, 0, sz, cap⟩) F (w.drew.alloc (.cells (us ++ rest) e)) ⟨w.heap.size, 0, sz, cap⟩ sz es :=
    (Ew.world (w := w) (w' := w.drew) rfl hE).obj hR' hcap (by simp; omega) e _ (upd_old hn _)
  refine ⟨hd.trans hR (hR'.new rfl hA), ?_⟩
  have := RepA.hs (μ := upd μ H.length ⟨w.heap.size, 0, sz, cap⟩) (F := F) (w := w.drew.alloc (.cells (us ++ rest) e)) H.length 0 es.length sz ⟨w.heap.size, 0, sz, cap⟩ cap (upd_same _ _ _) rfl hcap (by simp)
  simpa using this

theorem append_sound (o : Oper) (args : Array Operand) (argTypes : Array TypeId) (ho : o.op = .call { callee := .builtin .append, args, argTypes }) {x y : Operand} (ha : args.toList = [x, y]) (htt : argTypes.toList = [t, t])
    {e : TypeId} (he : elemT P t = some e) {sz b : Nat} (hs : sizeT P e = some sz) (hb : bytesT P e = some b) {z : AV} (hz : zeroT P e = some z) (hsz : sz ≠ 0) (hzf : z.fits sz = true)
    (hR : Rel μ F w H) {vx vy : AV} (hx : RepA μ F w vx (a.eval x)) (hy : RepA μ F w vy (a.eval y)) (h : wpAppend H sz b vx vy K) : EOut P o a μ F w H K := by
  have ht := elemT_some he
  obtain ⟨i, zv, hi, hzv, hkz⟩ := zeroT_some hz
  have his : i.size = sz := by unfold sizeT at hs; simp [hi] at hs; exact hs
  have hib : i.bytes = b := by unfold bytesT at hb; simp [hi] at hb; exact hb
  have hzc : zv.cells.size = sz := ((kVal_rep (μ := μ) (F := F) (w := w) hkz).cells hzf).1
  unfold wpAppend at h
  split at h
  case h_2 => exact h.elim
  rename_i p news hsrc
  obtain ⟨hp, h⟩ := h
  obtain ⟨ad, cx, us, huy, hul, hE, hne, hcell⟩ := src_cells hsz hR hy hsrc hp
  have hones : ∀ v ∈ us, v.oneCell' = true := by
    intro v hv
    obtain ⟨j, hj⟩ := List.getElem?_of_mem hv
    have hjl : j < news.length * sz := by rw [← hul]; exact (List.getElem?_eq_some_iff.1 hj).1
    have h1 : j / sz < news.length := Nat.div_lt_of_lt_mul (by rwa [Nat.mul_comm] at hjl)
    have h2 : j % sz < sz := Nat.mod_lt _ (by omega)
    have h3 : j / sz * sz + j % sz = j := by rw [Nat.mul_comm]; exact Nat.div_add_mod j sz
    have hfx := hE.2.1 news[j / sz] (List.getElem_mem h1)
    exact (hE.2.2 (j / sz) (j % sz) news[j / sz] (news[j / sz].cells[j % sz]'(by rw [AV.fits_length hfx]; exact h2)) v (by simp [h1]) (by simp) (by rw [h3]; simpa using hj)).1
  have hfirst : ∀ w' : World, w'.heap = w.heap → (Builtin.firstCells sz news.length (a.eval y)).run P w' = .ok us.toArray w' := by
    intro w' hw
    rw [huy]
    cases ad with
    | some a0 => exact run_firstCells_some w' sz news.length a0 news.length cx us hul (fun j v hj => by simpa [World.cell?, hw] using hcell a0 rfl j v hj)
    | none =>
      have : news = [] := by
        by_cases hn : news = []
        · exact hn
        · obtain ⟨a0, h0⟩ := hne hn; cases h0
      subst this
      have : us = [] := List.length_eq_zero_iff.1 (by simpa using hul)
      subst this
      exact run_firstCells_none w' _ _ _ _
  split at h
  · -- nil
    obtain ⟨⟨hbytes, hlen⟩, hk⟩ := h
    have hux : a.eval x = .slice none 0 0 := by
      generalize hu : a.eval x = u at hx
      cases hx; rfl
    by_cases h0 : news.length = 0
    · have hn0 : news = [] := List.length_eq_zero_iff.1 h0
      subst hn0
      have hrun : (Builtin.append_ #[t, t] o.type #[a.eval x, a.eval y]).run P w = .ok (.slice none 0 0) w := by
        have hf := hfirst w rfl
        rw [hux, huy] at *
        simp only [List.length_nil] at hf
        simp [Builtin.append_, run_underlying ht, sizeOf, typeInfo, hi, his, Builtin.lenOf, hf]
      exact EOut.value (exec_append o args argTypes ho ha htt hrun) hk (.hs0 _ _ _ _) (hR.virt _)
    · have hnn : news ≠ [] := fun e => h0 (by simp [e])
      obtain ⟨a0, ha0⟩ := hne hnn
      subst ha0
      have hrun := run_append_nil (P := P) w t o.type e i zv ht hi hzv a0 news.length cx us (by rw [his]; exact hul) (hcell a0 rfl) (by omega) (by omega) (by rw [hib]; omega)
      have hg := grownCap_pos w news.length 0 e
      obtain ⟨hP, hV⟩ := app_new (e := e) (cap := grownCap w news.length 0 e) (rest := Builtin.zeroCells zv.cells (grownCap w news.length 0 e - news.length)) hR hE hg (by
        rw [size_zeroCells, hzc, hE.1, ← Nat.add_mul]; congr 1; omega)
      refine EOut.value (exec_append o args argTypes ho ha htt (by rw [hux, huy]; exact hrun)) hk hV hP
  · rename_i id off len sz'
    split at h
    · rename_i sz'' es hG
      obtain ⟨rfl, rfl, hfr, ⟨hbytes, hlen⟩, hk⟩ := h
      have hH := arrOf_some hG
      have hdl : (es.drop off).length = len := by simp; omega
      generalize hu : a.eval x = u at hx
      cases hx with
      | hs _ _ _ _ l c hm hlsz hl hc =>
        have hA : ArrAt μ F w l sz'' es := hR.ob id l _ hm hH
        obtain ⟨cur, ty, hblk, hsize⟩ := hA.blk
        rw [hA.hsz] at hsize
        by_cases hroom : len + news.length ≤ c
        · -- in place
          have hoffc : (off + c) * sz'' ≤ l.cap * sz'' := Nat.mul_le_mul_right _ hc
          have hmul : (off + c) * sz'' = off * sz'' + c * sz'' := Nat.add_mul _ _ _
          have hmul2 : (len + news.length) * sz'' ≤ c * sz'' := Nat.mul_le_mul_right _ hroom
          rw [Nat.add_mul] at hmul2
          obtain ⟨w1, cur', hr, hs1, hos, htp, hout, hk1, hblk', hsz', hcl⟩ := write_cells (P := P) hblk us (p := l.off + off * sz'' + len * sz'') (by rw [hul]; omega) hones
          have hrun : (Builtin.append_ #[t, t] o.type #[a.eval x, a.eval y]).run P w = .ok (.slice (some ⟨l.blk, l.off + off * sz'', none⟩) (len + news.length) c) w1 := by
            have hf := hfirst w rfl
            rw [hu, huy] at *
            simp [Builtin.append_, run_underlying ht, sizeOf, typeInfo, hi, his, Builtin.lenOf, hf, hroom, addr_add, hr]
          have hF : ∀ b, F b → w1.heap[b]? = w.heap[b]? := fun b hb => hk1 b (fun e => hR.nF id l _ hm hH (e ▸ hb))
          have hn : μ H.length = none := hR.fresh (Nat.le_refl _)
          let l' : Loc := ⟨l.blk, l.off + off * sz'', sz'', l.cap - off⟩
          have hcap' : l.cap - off + off = l.cap := by omega
          have hAn : ArrAt (upd μ H.length l') F w1 l' sz'' (es.drop off ++ news) := by
            refine ⟨rfl, by simp [l']; omega, fun x hx => ?_, ⟨cur', ty, hblk', ?_⟩, fun i j x y hx hy => ?_⟩
            · rcases List.mem_append.1 hx with hx | hx
              · exact hA.cells x (List.mem_of_mem_drop hx)
              · exact hE.2.1 x hx
            · show l.off + off * sz'' + (l.cap - off) * sz'' ≤ cur'.size
              have : (l.cap - off + off) * sz'' = l.cap * sz'' := by rw [hcap']
              rw [Nat.add_mul] at this
              omega
            · show ∃ u, w1.cell? ⟨l.blk, l.off + off * sz'' + (i * sz'' + j), none⟩ = some u ∧ _
              by_cases hi' : i < len
              · rw [List.getElem?_append_left (by omega), List.getElem?_drop] at hx
                have hj : j < sz'' := by
                  have := (List.getElem?_eq_some_iff.1 hy).1
                  rwa [AV.fits_length (hA.cells x (List.mem_of_getElem? hx))] at this
                have hlt := idx_lt hi' hj
                obtain ⟨v, h1, h2, h3⟩ := hA.rep (off + i) j x y hx hy
                refine ⟨v, ?_, h2, h3.mono (upd_old hn _) (fun _ h => h) hF⟩
                rw [hcl, if_neg (by omega)]
                rw [Nat.add_mul] at h1
                rwa [show l.off + off * sz'' + (i * sz'' + j) = l.off + (off * sz'' + i * sz'' + j) from by omega]
              · rw [List.getElem?_append_right (by omega), hdl] at hx
                have hil : i - len < news.length := (List.getElem?_eq_some_iff.1 hx).1
                have hj : j < sz'' := by
                  have := (List.getElem?_eq_some_iff.1 hy).1
                  rwa [AV.fits_length (hE.2.1 x (List.mem_of_getElem? hx))] at this
                have hlt := idx_lt hil hj
                have hsub : i * sz'' = len * sz'' + (i - len) * sz'' := by rw [← Nat.add_mul]; congr 1; omega
                have hv : us[(i - len) * sz'' + j]? = some (us[(i - len) * sz'' + j]'(by rw [hul]; exact hlt)) := by simp
                obtain ⟨h2, h3⟩ := hE.2.2 (i - len) j x y _ hx hy (by rw [List.getElem?_toArray]; exact hv)
                refine ⟨_, ?_, h2, h3.mono (upd_old hn _) (fun _ h => h) hF⟩
                rw [hcl, if_pos (by rw [hul]; omega), show l.off + off * sz'' + (i * sz'' + j) - (l.off + off * sz'' + len * sz'') = (i - len) * sz'' + j from by omega]
                exact hv
          refine EOut.value (exec_append o args argTypes ho ha htt hrun) hk ?_ (hR.move (l' := l') hm ⟨_, hH⟩ rfl hs1 hos htp hout hk1 hAn)
          have := RepA.hs (μ := upd μ H.length l') (F := F) (w := w1) H.length 0 (len + news.length) sz'' l' c (upd_same _ _ _) rfl hroom (by simp [l']; omega)
          simpa [l'] using this
        · -- a new row
          have hEold : ∃ olds : List Value, olds.length = len * sz'' ∧ Ew μ F w sz'' (es.drop off) olds.toArray ∧ ∀ (j : Nat) (v : Value), olds[j]? = some v → w.cell? ((⟨l.blk, l.off + off * sz'', none⟩ : Addr).add j) = some v := by
            have hsrc' : srcE H sz'' (.hs id off len sz'') = some (sz'' = sz'' ∧ off + len ≤ es.length, (es.drop off).take len) := by
              simp only [srcE]; rw [show H.ob id = some (.arr sz'' es) from by unfold Heap.ob; rw [hH]; rfl]
            obtain ⟨ad2, c2, olds, h1, h2, h3, h4, h5⟩ := src_cells hsz hR (.hs id off len sz'' l c hm hlsz hl hc) hsrc' ⟨rfl, by omega⟩
            have htake : (es.drop off).take len = es.drop off := List.take_of_length_le (by omega)
            rw [htake] at h2 h3
            rw [hdl] at h2
            injection h1 with e1 e2 e3
            exact ⟨olds, h2, h3, h5 _ e1.symm⟩
          obtain ⟨olds, hol, hEo, hoc⟩ := hEold
          have hnn : news ≠ [] := fun e => hroom (by simp [e]; exact hl)
          obtain ⟨a0, ha0⟩ := hne hnn
          subst ha0
          have hnb : (len + news.length) * i.bytes ≤ 140737488355328 := by rw [hib]; exact hbytes
          have hrun := run_append_grow (P := P) w t o.type e i zv ht hi hzv ⟨l.blk, l.off + off * sz'', none⟩ len c olds (by rw [his]; exact hol) hoc a0 news.length cx us (by rw [his]; exact hul) (hcell a0 rfl)
            (by omega) (by omega) (growslice_fits (by omega) hnb)
          have hg := grownCap_pos w (len + news.length) c e
          have hEn := hEo.append hE
          have hlen' : (es.drop off ++ news).length = len + news.length := by simp; omega
          obtain ⟨hP, hV⟩ := app_new (e := e) (cap := grownCap w (len + news.length) c e) (rest := Builtin.zeroCells zv.cells (grownCap w (len + news.length) c e - (len + news.length))) (hR.kill id).rel hEn (by rw [hlen']; exact hg) (by
            rw [size_zeroCells, hzc, hEn.1, hlen', ← Nat.add_mul]; congr 1; omega)
          rw [hlen'] at hV
          simp only [List.length_set] at hP hV
          refine EOut.value (exec_append o args argTypes ho ha htt (by rw [hu, huy]; exact hrun)) hk hV ((hR.kill id).trans hR hP)
      | hs0 _ _ _ ad2 =>
        have hd0 : es.drop off = [] := List.length_eq_zero_iff.1 hdl
        rw [hd0, List.nil_append, Nat.zero_add] at hk
        rw [Nat.zero_add] at hbytes hlen
        by_cases h0 : news.length = 0
        · have hn0 : news = [] := List.length_eq_zero_iff.1 h0
          subst hn0
          have hus0 : us = [] := List.length_eq_zero_iff.1 (by simpa using hul)
          subst hus0
          have hrun : (Builtin.append_ #[t, t] o.type #[a.eval x, a.eval y]).run P w = .ok (.slice ad2 0 0) w := by
            have hf := hfirst w rfl
            rw [hu, huy] at *
            simp only [List.length_nil] at hf
            cases ad2 <;> simp [Builtin.append_, run_underlying ht, sizeOf, typeInfo, hi, his, Builtin.lenOf, hf, storeCells]
          exact EOut.value (μ' := μ) (F' := F) (exec_append o args argTypes ho ha htt hrun) hk (.hs0 _ _ _ _) ((hR.kill id).trans hR ((hR.kill id).rel.virt _))
        · have hnn : news ≠ [] := fun e => h0 (by simp [e])
          obtain ⟨a0, ha0⟩ := hne hnn
          subst ha0
          have hnb : news.length * i.bytes ≤ 140737488355328 := by rw [hib]; exact hbytes
          have hg := grownCap_pos w news.length 0 e
          have hrun : (Builtin.append_ #[t, t] o.type #[.slice ad2 0 0, .slice (some a0) news.length cx]).run P w = .ok (.slice (some ⟨w.heap.size, 0, none⟩) news.length (grownCap w news.length 0 e))
              (w.drew.alloc (.cells (us.toArray ++ Builtin.zeroCells zv.cells (grownCap w news.length 0 e - news.length)) e)) := by
            cases ad2 with
            | none => exact run_append_nil (P := P) w t o.type e i zv ht hi hzv a0 news.length cx us (by rw [his]; exact hul) (hcell a0 rfl) (by omega) (by omega) (by omega)
            | some a2 =>
              have := run_append_grow (P := P) w t o.type e i zv ht hi hzv a2 0 0 [] (by simp) (by simp) a0 news.length cx us (by rw [his]; exact hul) (hcell a0 rfl) (by omega) (by omega) (by
                rw [Nat.zero_add]; exact growslice_fits (by omega) hnb)
              simpa using this
          have hEn : Ew μ F w sz'' news us.toArray := hE
          obtain ⟨hP, hV⟩ := app_new (e := e) (cap := grownCap w news.length 0 e) (rest := Builtin.zeroCells zv.cells (grownCap w news.length 0 e - news.length)) (hR.kill id).rel hEn hg (by
            rw [size_zeroCells, hzc, hEn.1, ← Nat.add_mul]; congr 1; omega)
          simp only [List.length_set] at hP hV
          exact EOut.value (exec_append o args argTypes ho ha htt (by rw [hu, huy]; exact hrun)) hk hV ((hR.kill id).trans hR hP)
    · exact h.elim
  · exact h.elim

end
end Go.Vm
/- Maps written; copies; calls. -/
namespace Go.Vm
open Go
variable [Gl]

def wpIsNil (neg : Bool) (H : Heap) (x : AV) (K : AV → Heap → Prop) : Prop := match x with
  | .nils => K (.d (.bool (!neg))) H
  | .d (.vs xs) => ∀ b : Bool, (xs ≠ [] → b = false) → K (.d (.bool (if neg then !b else b))) H
  | .hs _ _ len _ => ∀ b : Bool, (len ≠ 0 → b = false) → K (.d (.bool (if neg then !b else b))) H
  | _ => False

section
variable {P : Program} {μ : Locs} {F : Nat → Prop} {w w' : World} {H : Heap} {a : Act} {t : TypeId} {K : AV → Heap → Prop}

theorem eqk_eq {ks : KS} {x y : DV} (hx : x.conf ks = true) (hy : y.conf ks = true) (h : x.eqk y = true) : x = y := by
  have one : ∀ {k : KT} {x y : DV}, x.conf1 k = true → y.conf1 k = true → eq1 x y = true → x = y := by
    intro k x y hx hy h
    cases k <;> cases x <;> simp [DV.conf1] at hx <;> cases y <;> simp [DV.conf1] at hy <;> simp [eq1] at h <;> simp_all
  have lst : ∀ (ts : List KT) (xs ys : List DV), confL ts xs = true → confL ts ys = true → eqL xs ys = true → xs = ys := by
    intro ts
    induction ts with
    | nil => intro xs ys hx hy _; cases xs <;> cases ys <;> first | rfl | (cases hx; done) | (cases hy; done)
    | cons t ts ih =>
      intro xs ys hx hy h
      cases xs <;> cases ys <;> first | (cases hx; done) | (cases hy; done) | skip
      simp only [confL, Bool.and_eq_true, eqL] at hx hy h
      rw [one hx.1 hy.1 h.1, ih _ _ hx.2 hy.2 h.2]
  cases ks with
  | one k => rw [eqk_of_one hx hy] at h; exact one hx hy h
  | many ts =>
    cases x <;> simp [DV.conf] at hx
    cases y <;> simp [DV.conf] at hy
    rw [lst ts _ _ hx hy h]

/-- Equal keys are the same bits. -/
theorem repD_unique {ks : KS} {x : DV} (hx : x.conf ks = true) {u v : Value} (h1 : RepD F w x u) (h2 : RepD F w x v) : u = v := by
  have one : ∀ {k : KT} {x : DV} {u v : Value}, x.conf1 k = true → RepD F w x u → RepD F w x v → u = v := by
    intro k x u v hx h1 h2
    cases x <;> first | (cases k <;> simp [DV.conf1] at hx; done) | skip
    · rw [h1.inv_bool, h2.inv_bool]
    · rw [h1.inv_int, h2.inv_int]
    · rw [h1.inv_str, h2.inv_str]
  cases ks with
  | one k => exact one hx h1 h2
  | many ts =>
    cases x <;> simp [DV.conf] at hx
    rename_i cs
    cases h1 with
    | agg _ us hus r1 =>
      cases h2 with
      | agg _ vs hvs r2 =>
        congr 1
        apply Array.ext (by rw [hus, hvs])
        intro i hi hj
        have hc : ∀ (ts : List KT) (xs : List DV), confL ts xs = true → ∀ (i : Nat) (x : DV), xs[i]? = some x → ∃ k : KT, x.conf1 k = true := by
          intro ts
          induction ts with
          | nil => intro xs h i x hx; cases xs <;> first | (simp at hx; done) | cases h
          | cons t ts ih =>
            intro xs h i x hx
            cases xs with
            | nil => cases h
            | cons y ys =>
              simp only [confL, Bool.and_eq_true] at h
              cases i with
              | zero => simp at hx; subst hx; exact ⟨t, h.1⟩
              | succ i => exact ih ys h.2 i x (by simpa using hx)
        have hil : i < cs.length := by rw [← hus]; exact hi
        obtain ⟨k, hk⟩ := hc ts cs hx i cs[i] (by simp [hil])
        exact one hk (r1 i cs[i] us[i] (by simp [hil]) (by simp [hi])) (r2 i cs[i] vs[i] (by simp [hil]) (by simp [hj]))

theorem sameBits_self {ks : KS} {x : DV} (hx : x.conf ks = true) {u : Value} (h : RepD F w x u) : Instr.sameBits 10000 u u = true := by
  have one : ∀ {k : KT} {x : DV} {u : Value} (n : Nat), x.conf1 k = true → RepD F w x u → Instr.sameBits n u u = true := by
    intro k x u n hx h
    cases x <;> first | (cases k <;> simp [DV.conf1] at hx; done) | skip
    · rw [h.inv_bool]; cases n <;> simp [Instr.sameBits]
    · rw [h.inv_int]; cases n <;> simp [Instr.sameBits]
    · rw [h.inv_str]; cases n <;> simp [Instr.sameBits, beq_toListBytes]
  cases ks with
  | one k => exact one _ hx h
  | many ts =>
    cases x <;> simp [DV.conf] at hx
    rename_i cs
    cases h with
    | agg _ us hus r1 =>
      have hc : ∀ (ts : List KT) (xs : List DV), confL ts xs = true → ∀ (i : Nat) (x : DV), xs[i]? = some x → ∃ k : KT, x.conf1 k = true := by
        intro ts
        induction ts with
        | nil => intro xs h i x hx; cases xs <;> first | (simp at hx; done) | cases h
        | cons t ts ih =>
          intro xs h i x hx
          cases xs with
          | nil => cases h
          | cons y ys =>
            simp only [confL, Bool.and_eq_true] at h
            cases i with
            | zero => simp at hx; subst hx; exact ⟨t, h.1⟩
            | succ i => exact ih ys h.2 i x (by simpa using hx)
      have key : ∀ n, Instr.sameBits (n + 1) (.agg us) (.agg us) = true := by
        intro n
        simp only [Instr.sameBits, beq_self_eq_true, Bool.true_and, List.all_eq_true]
        intro ⟨p, q⟩ hpq
        obtain ⟨i, hi⟩ := List.getElem?_of_mem hpq
        rw [List.getElem?_zip_eq_some] at hi
        obtain ⟨h1, h2⟩ := hi
        simp at h1 h2
        have e : p = q := by rw [h1] at h2; exact Option.some.inj h2
        subst e
        have hil : i < cs.length := by rw [← hus]; exact (Array.getElem?_eq_some_iff.1 h1).1
        obtain ⟨k, hk⟩ := hc ts cs hx i cs[i] (by simp [hil])
        exact one n hk (r1 i cs[i] p (by simp [hil]) h1)
      exact key 9999

theorem run_setObj {g : Nat} {ents : Array MapEntry} {clock : Nat} (hg : w.heap[g]? = some (.map ents clock)) (o : Obj) :
    (setObj g o).run P w = .ok () { w with heap := w.heap.setIfInBounds g o } := by
  simp [setObj, Sem.run, hg]

theorem setObj_heap {g : Nat} (hg : g < w.heap.size) (o : Obj) : ({ w with heap := w.heap.setIfInBounds g o } : World).heap[g]? = some o := by
  simp [hg]
theorem setObj_other {g : Nat} (o : Obj) (b : Nat) (hb : b ≠ g) : ({ w with heap := w.heap.setIfInBounds g o } : World).heap[b]? = w.heap[b]? := by
  show (w.heap.setIfInBounds g o)[b]? = _
  rw [Array.getElem?_setIfInBounds_ne (fun h => hb h.symm)]

theorem mapUpd_sound (o : Oper) (m k v : Operand) (ho : o.op = .mapUpdate t m k v ∨ o.op = .insert t m k v) {kt e : TypeId} (ht : P.underlying t = some (.map kt e)) {ks : KS} (hks : ksT P kt = some ks)
    (hR : Rel μ F w H) {vm vk vv : AV} (hm : RepA μ F w vm (a.eval m)) (hk : RepA μ F w vk (a.eval k)) (hv : RepA μ F w vv (a.eval v)) (h : wpMapUpd H ks vm vk vv K) : EOut P o a μ F w H K := by
  unfold wpMapUpd at h
  split at h
  case h_2 => exact h.elim
  rename_i id kd
  split at h
  case h_2 => exact h.elim
  rename_i ks' es hG
  obtain ⟨rfl, ck, hK⟩ := h
  have hH := mapOf_some hG
  have hkD := hk.inv_d
  generalize hu : a.eval m = u at hm
  cases hm with
  | mp _ l hml =>
    obtain ⟨hconf, ents, clock, hb, hsz, hrep, hborn, hinj⟩ : MapAt μ F w l ks' es := hR.ob id l _ hml hH
    have hlt := hR.lt id l hml
    have hg : (getObj l.blk).run P w = .ok (.map ents clock) w := by simp [getObj, Sem.run, hb]
    have hck : (Instr.checkKey false 10000 kt (a.eval k)).run P w = .ok () w := check_key hks hkD ck _ 9998
    have hfk := findKey_run (ents := ents.toList) hks hkD ck (es := es) (by simpa using hsz) hconf (fun j x e hx he => (hrep j x e hx (by simpa using he)).1)
    -- the world with another map
    have fin : ∀ (ents' : Array MapEntry) (clock' : Nat), (execOp a.eval o).run P w = .ok .skip { w with heap := w.heap.setIfInBounds l.blk (.map ents' clock') } →
        ents'.size = (assocSet es kd vv).length → (∀ x ∈ assocSet es kd vv, x.1.conf ks' = true) →
        (∀ (i : Nat) (x : DV × AV) (e : MapEntry), (assocSet es kd vv)[i]? = some x → ents'[i]? = some e → RepD F w x.1 e.key ∧ RepA μ F w x.2 e.val) →
        (∀ (i : Nat) (e : MapEntry), ents'[i]? = some e → e.born < clock') →
        (∀ (i j : Nat) (e e' : MapEntry), ents'[i]? = some e → ents'[j]? = some e' → e.born = e'.born → i = j) → EOut P o a μ F w H K := by
      intro ents' clock' hr h1 h2 h3 h4 h5
      refine EOut.skip hr hK (hR.write hml ⟨_, hH⟩ (by simp) rfl rfl ⟨rfl, Nat.le_refl _⟩ (fun b hb => setObj_other _ b hb) ?_)
      have hF : ∀ b, F b → ({ w with heap := w.heap.setIfInBounds l.blk (.map ents' clock') } : World).heap[b]? = w.heap[b]? := fun b hb => setObj_other _ b (fun e => hR.nF id l _ hml hH (e ▸ hb))
      exact ⟨h2, ents', clock', setObj_heap hlt _, h1, fun i x e hx he => ⟨(h3 i x e hx he).1.mono (fun _ h => h) hF, (h3 i x e hx he).2.mono (fun _ _ h => h) (fun _ h => h) hF⟩, h4, h5⟩
    rcases findIx_get es ents.toList kd 0 (by simpa using hsz) with ⟨h1, h2⟩ | ⟨j, x', e', h1, h2, h3, h4, h5, h6, _⟩
    · obtain ⟨hs1, _⟩ := findIx_none es ents.toList kd 0 (by simpa using hsz) h1
      rw [h1] at hfk
      refine fin (ents.push { key := a.eval k, val := a.eval v, born := clock }) (clock + 1) ?_ ?_ ?_ ?_ ?_ ?_
      · rcases ho with ho | ho <;> simp [execOp, ho, hu, Instr.mapUpdate, run_underlying ht, hg, hck, hfk, run_setObj hb]
      · rw [hs1]; simp [hsz]
      · intro x hx
        rw [hs1] at hx
        rcases List.mem_append.1 hx with hx | hx
        · exact hconf x hx
        · simp at hx; subst hx; exact ck
      · intro i x e hx he
        rw [hs1] at hx
        by_cases hi : i < es.length
        · rw [List.getElem?_append_left hi] at hx
          rw [Array.getElem?_push_lt (by omega)] at he
          exact hrep i x e hx (by simpa [show i < ents.size from by omega] using he)
        · have hie : i = es.length := by
            have := (List.getElem?_eq_some_iff.1 hx).1; simp at this; omega
          subst hie
          simp at hx; subst hx
          rw [← hsz] at he
          simp at he; subst he
          exact ⟨hkD, hv⟩
      · intro i e he
        rw [Array.getElem?_push] at he
        split at he
        · cases he; simp
        · have := hborn i e he; omega
      · intro i j e e' he he' hbb
        rw [Array.getElem?_push] at he he'
        split at he <;> split at he'
        · omega
        · cases he; have := hborn j e' he'; simp at hbb; omega
        · cases he'; have := hborn i e he; simp at hbb; omega
        · exact hinj i j e e' he he' hbb
    · rw [h1] at hfk
      have hj : ents[j]? = some e' := by simpa using h3
      have hkey := (hrep j x' e' h2 hj).1
      have hxe : kd = x'.1 := eqk_eq ck (hconf x' (List.mem_of_getElem? h2)) h4
      rw [← hxe] at hkey
      have hke : e'.key = a.eval k := repD_unique ck hkey hkD
      have hstay : (Instr.keyThatStays (((ents[j]?).map (·.key)).getD (a.eval k)) (a.eval k)).run P w = .ok (a.eval k) w := by
        rw [hj]
        simp [Instr.keyThatStays, hke, sameBits_self ck hkD]
      refine fin (ents.modify j fun e => { e with key := a.eval k, val := a.eval v }) clock ?_ ?_ ?_ ?_ ?_ ?_
      · rcases ho with ho | ho <;> simp [execOp, ho, hu, Instr.mapUpdate, run_underlying ht, hg, hck, hfk, hstay, run_setObj hb]
      · rw [h6]; simp [hsz]
      · intro x hx
        rw [h6] at hx
        rcases List.mem_or_eq_of_mem_set hx with hx | rfl
        · exact hconf x hx
        · exact ck
      · intro i x e hx he
        rw [h6] at hx
        rw [Array.getElem?_modify] at he
        by_cases hi : i = j
        · subst hi
          have hil : i < es.length := (List.getElem?_eq_some_iff.1 h2).1
          rw [List.getElem?_set_self hil] at hx
          obtain rfl := Option.some.inj hx
          rw [if_pos rfl, hj] at he
          simp at he; subst he
          exact ⟨hkD, hv⟩
        · rw [List.getElem?_set_ne (fun e => hi e.symm)] at hx
          rw [if_neg (fun e => hi e.symm)] at he
          exact hrep i x e hx he
      · intro i e he
        rw [Array.getElem?_modify] at he
        split at he
        · rename_i hi
          subst hi
          simp only [Option.map_eq_some_iff] at he
          obtain ⟨e0, he0, rfl⟩ := he
          exact hborn j e0 he0
        · exact hborn i e he
      · intro i1 i2 e1 e2 he1 he2 hbb
        have bornOf : ∀ (i : Nat) (e : MapEntry), (ents.modify j fun e => { e with key := a.eval k, val := a.eval v })[i]? = some e → ∃ e0, ents[i]? = some e0 ∧ e0.born = e.born := by
          intro i e he
          rw [Array.getElem?_modify] at he
          split at he
          · simp only [Option.map_eq_some_iff] at he
            obtain ⟨e0, he0, rfl⟩ := he
            exact ⟨e0, he0, rfl⟩
          · exact ⟨e, he, rfl⟩
        obtain ⟨a1, b1, c1⟩ := bornOf i1 e1 he1
        obtain ⟨a2, b2, c2⟩ := bornOf i2 e2 he2
        exact hinj i1 i2 a1 a2 b1 b2 (by omega)

theorem isNil_sound (o : Oper) (b : BinOp) (x y : Operand) (yt : TypeId) (ho : o.op = .binOp b t x y yt) (hy : isNilSlice y = true) {e : TypeId} (he : elemT P t = some e) (hb : b = .eql ∨ b = .neq)
    (hR : Rel μ F w H) {vx : AV} (hx : RepA μ F w vx (a.eval x)) (h : wpIsNil (b == .neq) H vx K) : EOut P o a μ F w H K := by
  have ht := elemT_some he
  have hyv : a.eval y = .slice none 0 0 := by
    unfold isNilSlice at hy; split at hy
    · rfl
    · cases hy
  have run : ∀ (ad : Option Addr) (n c : Nat), a.eval x = .slice ad n c → (n = 0 → True) → (execOp a.eval o).run P w = .ok (.value (.bool (if (b == .neq) then !ad.isNone else ad.isNone))) w := by
    intro ad n c hxv _
    have heq : ∀ d, (Op.equalIn (d + 1) t (.slice ad n c) (.slice none 0 0)).run P w = .ok ad.isNone w := by
      intro d
      cases ad <;> simp [Op.equalIn, run_underlying ht]
    have heq' : (Op.equal t (.slice ad n c) (.slice none 0 0)).run P w = .ok ad.isNone w := heq 9999
    rcases hb with rfl | rfl
    · simp only [execOp, ho, hxv, hyv, Sem.run_bind, run_guard_plain (u := .slice ad n c) _ _ _ _ rfl, Result.andThen_ok]
      simp [binOp, heq']
    · simp only [execOp, ho, hxv, hyv, Sem.run_bind, run_guard_plain (u := .slice ad n c) _ _ _ _ rfl, Result.andThen_ok]
      simp [binOp, heq']
  unfold wpIsNil at h
  split at h
  · generalize hu : a.eval x = u at hx
    cases hx
    have := run none 0 0 hu (fun _ => trivial)
    refine EOut.value this h ?_ (Post.refl hR)
    cases (b == BinOp.neq) <;> exact .d _ _ (.bool _)
  · rename_i xs
    have hd := hx.inv_d
    generalize hu : a.eval x = u at hd
    cases hd with
    | vs _ ad n c sz' f hn hc hsz ha =>
      refine EOut.value (run ad n c hu (fun _ => trivial)) (h ad.isNone (fun hne => ?_)) (.d _ _ (.bool _)) (Post.refl hR)
      obtain ⟨ad0, h3, _⟩ := ha hne
      subst h3; rfl
  · rename_i id off len sz
    generalize hu : a.eval x = u at hx
    cases hx with
    | hs => exact EOut.value (run _ _ _ hu (fun _ => trivial)) (h false (fun _ => rfl)) (.d _ _ (.bool _)) (Post.refl hR)
    | hs0 _ _ _ ad => exact EOut.value (run ad 0 0 hu (fun _ => trivial)) (h ad.isNone (fun hne => absurd rfl hne)) (.d _ _ (.bool _)) (Post.refl hR)
  · exact h.elim

end
end Go.Vm
