/- Operations that write nothing that was there: the machine's word is the model's. -/
import Derived.Test.YtibpfnjbgojfoaaDoorV1
import Derived.WalkKit
import Derived.Laws.MakeOwn
set_option linter.all false
namespace Go.Vm
open Go
variable [Gl]

theorem RepA.strip {μ : Locs} {F : Nat → Prop} {w : World} {x : AV} {u : Value} (h : RepA μ F w x u) (hs : x.sob) : RepA μ F w x.strip u := by
  cases h with
  | when b y v h _ => exact h hs
  | _ => constructor <;> assumption

theorem RepA.inv_d {μ : Locs} {F : Nat → Prop} {w : World} {x : DV} {u : Value} (h : RepA μ F w (.d x) u) : RepD F w x u := by
  cases h with
  | d _ _ h => exact h

theorem RepD.inv_bool {F : Nat → Prop} {w : World} {b : Bool} {u : Value} (h : RepD F w (.bool b) u) : u = .bool b := by cases h; rfl
theorem RepD.inv_int {F : Nat → Prop} {w : World} {k : IntKind} {n : Int} {u : Value} (h : RepD F w (.int k n) u) : u = .int k n := by cases h; rfl
theorem RepD.inv_str {F : Nat → Prop} {w : World} {s : List UInt8} {u : Value} (h : RepD F w (.str s) u) : u = .string ⟨s.toArray⟩ := by cases h; rfl

/-- What an operation that writes nothing has done. -/
def NOut (P : Program) (μ : Locs) (F : Nat → Prop) (w : World) (o : Oper) (a : Act) (fresh : Nat) (x : NR) : Prop := match x.new with
  | .none => ∃ u, (execOp a.eval o).run P w = .ok (.value u) w ∧ RepA μ F w x.v u
  | .obj ob => ∃ u oc l, (execOp a.eval o).run P w = .ok (.value u) (w.alloc oc) ∧ l.blk = w.heap.size ∧
      ∀ μ' : Locs, (∀ id l, μ id = some l → μ' id = some l) → μ' fresh = some l → RepA μ' F (w.alloc oc) x.v u ∧ ObAt μ' F (w.alloc oc) l ob
  | .frozen => ∃ u oc, (execOp a.eval o).run P w = .ok (.value u) (w.alloc oc) ∧ RepA μ (fun b => F b ∨ b = w.heap.size) (w.alloc oc) x.v u

section
variable {P : Program} {μ : Locs} {F : Nat → Prop} {w : World} {a : Act} {fresh : Nat} {t : TypeId}

theorem NOut.none {o : Oper} {x : NR} {u : Value} (hn : x.new = .none) (hr : (execOp a.eval o).run P w = .ok (.value u) w) (h : RepA μ F w x.v u) : NOut P μ F w o a fresh x := by
  unfold NOut; rw [hn]; exact ⟨u, hr, h⟩

/-! numbers, bools, strings -/
theorem run_equal_bool (ht : P.underlying t = some .bool) (a b : Bool) : (Op.equal t (.bool a) (.bool b)).run P w = .ok (a == b) w := by
  have h : ∀ n, (Op.equalIn (n + 1) t (.bool a) (.bool b)).run P w = .ok (a == b) w := fun n => by simp [Op.equalIn, run_underlying ht]
  exact h 9999
theorem run_equal_str (ht : P.underlying t = some .string) (a b : ByteArray) : (Op.equal t (.string a) (.string b)).run P w = .ok (a == b) w := by
  have h : ∀ n, (Op.equalIn (n + 1) t (.string a) (.string b)).run P w = .ok (a == b) w := fun n => by simp [Op.equalIn, run_underlying ht]
  exact h 9999
theorem run_equal_int {k0 : IntKind} (ht : P.underlying t = some (.int k0)) (k : IntKind) (a b : Int) : (Op.equal t (.int k a) (.int k b)).run P w = .ok (a == b) w := by
  have h : ∀ n, (Op.equalIn (n + 1) t (.int k a) (.int k b)).run P w = .ok (a == b) w := fun n => by simp [Op.equalIn, run_underlying ht]
  exact h 9999

def plainV : Value → Bool
  | .agg _ | .nilIface => false
  | _ => true
theorem run_guard_plain (b : BinOp) (t : TypeId) (x y : Operand) {u v : Value} (h : plainV u = true) : (eqGuard b t x y u v).run P w = .ok () w := by
  cases u <;> first
    | (cases h; done)
    | (unfold eqGuard; cases b <;> rfl)

theorem exec_bin (o : Oper) (b : BinOp) (t : TypeId) (x y : Operand) (yt : TypeId) (ho : o.op = .binOp b t x y yt) {ux uy u : Value}
    (e1 : a.eval x = ux) (e2 : a.eval y = uy) (h : plainV ux = true) (hr : (binOp b t ux uy).run P w = .ok u w) :
    (execOp a.eval o).run P w = .ok (.value u) w := by
  simp only [execOp, ho, e1, e2, Sem.run_bind, run_guard_plain b t x y h, Result.andThen_ok, hr, Sem.run_pure]

theorem binInt_sound (b : BinOp) (t : TypeId) (k : IntKind) (a0 : Int) (k' : IntKind) (b0 : Int) (h : (binInt b k a0 k' b0).ob) :
    (binInt b k a0 k' b0).new = .none ∧ ∃ u, (binOp b t (.int k a0) (.int k' b0)).run P w = .ok u w ∧ RepA μ F w (binInt b k a0 k' b0).v u := by
  cases b <;> simp only [binInt] at h ⊢ <;> refine ⟨trivial, ?_⟩
  case quo => obtain ⟨rfl, hb⟩ := h; exact ⟨_, by simp [binOp, Op.intDiv, hb], .d _ _ (.int _ _)⟩
  case rem => obtain ⟨rfl, hb⟩ := h; exact ⟨_, by simp [binOp, Op.intDiv, hb], .d _ _ (.int _ _)⟩
  case shl => exact ⟨_, by simp [binOp, Op.shift, Int.not_lt.mpr h], .d _ _ (.int _ _)⟩
  case shr => exact ⟨_, by simp [binOp, Op.shift, Int.not_lt.mpr h], .d _ _ (.int _ _)⟩
  all_goals subst h
  case and | or | xor | andNot => exact ⟨_, by simp [binOp, Op.intBits], .d _ _ (.int _ _)⟩
  case add | sub | mul => exact ⟨_, by simp [binOp, Op.intArith], .d _ _ (.int _ _)⟩
  all_goals exact ⟨_, by simp [binOp, Op.intCmp], .d _ _ (.bool _)⟩

theorem bin_sound (o : Oper) (b : BinOp) (t : TypeId) (x y : Operand) (yt : TypeId) (ho : o.op = .binOp b t x y yt) (k : KT) (hk : ktT P t = some k)
    {vx vy : AV} (hx : RepA μ F w vx (a.eval x)) (hy : RepA μ F w vy (a.eval y)) (hob : (binV b k vx vy).ob) : NOut P μ F w o a fresh (binV b k vx vy) := by
  unfold binV at hob ⊢
  split at hob
  · rename_i k0 k a0 k' b0
    obtain ⟨hn, u, hr, hv⟩ := binInt_sound (P := P) (w := w) (μ := μ) (F := F) b t k a0 k' b0 hob
    exact NOut.none hn (exec_bin o b t x y yt ho hx.inv_d.inv_int hy.inv_d.inv_int rfl hr) hv
  · rename_i a0 b0
    have ht : P.underlying t = some .bool := by
      unfold ktT at hk; split at hk <;> first | assumption | cases hk
    have E := fun u hr => exec_bin (P := P) (w := w) (u := u) o b t x y yt ho hx.inv_d.inv_bool hy.inv_d.inv_bool rfl hr
    cases b <;> first
      | exact hob.elim
      | exact NOut.none rfl (E (.bool (a0 == b0)) (by simp only [binOp, Sem.run_bind, run_equal_bool ht, Result.andThen_ok, Sem.run_pure])) (.d _ _ (.bool _))
      | exact NOut.none rfl (E (.bool (a0 != b0)) (by simp only [binOp, Sem.run_bind, run_equal_bool ht, Result.andThen_ok, Sem.run_pure, bne])) (.d _ _ (.bool _))
  · rename_i a0 b0
    have E := fun u hr => exec_bin (P := P) (w := w) (u := u) o b t x y yt ho hx.inv_d.inv_str hy.inv_d.inv_str rfl hr
    have hl : ∀ l : List UInt8, (⟨l.toArray⟩ : ByteArray).toList = l := fun l => by rw [ByteArray.toList_eq]
    cases b <;> first
      | exact hob.elim
      | exact NOut.none rfl (E (.bool (a0 == b0)) (by simp only [binOp, Op.stringOp, Sem.run_pure, hl])) (.d _ _ (.bool _))
      | exact NOut.none rfl (E (.bool (a0 != b0)) (by simp only [binOp, Op.stringOp, Sem.run_pure, hl, bne])) (.d _ _ (.bool _))
      | skip
    refine NOut.none rfl (E (.string ⟨(a0 ++ b0).toArray⟩) ?_) (.d _ _ (.str _))
    have h1 : ¬ (((⟨a0.toArray⟩ : ByteArray).size + (⟨b0.toArray⟩ : ByteArray).size : Nat) : Int) > IntKind.i64.max := by
      have e : ∀ l : List UInt8, (⟨l.toArray⟩ : ByteArray).size = l.length := fun l => rfl
      rw [e, e]; exact Int.not_lt.mpr hob
    simp only [binOp, Op.stringOp, if_neg h1, Sem.run_pure]
    congr 2
  · exact hob.elim

end
end Go.Vm
/- Addresses, loads, parts of structs. -/
namespace Go.Vm
open Go
variable [Gl]

theorem addr_add (b o j : Nat) : (⟨b, o, none⟩ : Addr).add j = ⟨b, o + j, none⟩ := by
  unfold Addr.add; split
  · rename_i h; subst h; rfl
  · rfl

theorem getD_lt {α : Type} (l : List α) (i : Nat) (d : α) (h : i < l.length) : l.getD i d = l[i] := by simp [List.getD_eq_getElem?_getD, h]

section
variable {P : Program} {μ : Locs} {F : Nat → Prop} {w : World} {a : Act} {fresh : Nat} {t : TypeId}

theorem run_isAggT {g : Bool} (h : aggT P t = some g) : (isAgg t).run P w = .ok g w := by
  unfold aggT at h
  split at h <;> simp at h
  · rename_i fs hu; subst h; simp [isAgg, run_underlying hu]
  · rename_i fs hu; subst h; simp [isAgg, run_underlying hu]
  · rename_i d hd hn hu; subst h
    simp only [isAgg, Sem.run_bind, run_underlying hu, Result.andThen_ok]
    cases d <;> first | rfl | (exact absurd rfl (hd _)) | (exact absurd rfl (hn _ _))
theorem run_sizeT {n : Nat} (h : sizeT P t = some n) : (Go.sizeOf t).run P w = .ok n w := by
  unfold sizeT at h
  cases hi : P.info? t with
  | none => simp [hi] at h
  | some i => simp [hi] at h; simp [Go.sizeOf, typeInfo, hi, h]

/-- The values of some cells. -/
theorem pick_cells {b o0 : Nat} {cs : List AV} (hc : ∀ (j : Nat) (y : AV), cs[j]? = some y → ∃ u, w.cell? ⟨b, o0 + j, none⟩ = some u ∧ RepA μ F w y u) :
    ∃ f : Nat → Value, ∀ (j : Nat) (y : AV), cs[j]? = some y → w.cell? ⟨b, o0 + j, none⟩ = some (f j) ∧ RepA μ F w y (f j) := by
  have : ∀ j : Nat, ∃ u : Value, ∀ y, cs[j]? = some y → w.cell? ⟨b, o0 + j, none⟩ = some u ∧ RepA μ F w y u := by
    intro j
    cases hj : cs[j]? with
    | none => exact ⟨default, fun y h => by cases h⟩
    | some y =>
      obtain ⟨u, h⟩ := hc j y hj
      exact ⟨u, fun y' h' => by cases h'; exact h⟩
  exact ⟨fun j => Classical.choose (this j), fun j => Classical.choose_spec (this j)⟩

/-- A load of n cells from the o-th on. -/
theorem load_cells {b o0 : Nat} {cs : List AV} (hc : ∀ (j : Nat) (y : AV), cs[j]? = some y → ∃ u, w.cell? ⟨b, o0 + j, none⟩ = some u ∧ RepA μ F w y u)
    {n o : Nat} {g : Bool} (hg : aggT P t = some g) (hs : sizeT P t = some n) (h1 : g = true ∨ n = 1) (ho : o + n ≤ cs.length) :
    (g = true ∧ ∃ us : Array Value, (loadVar t ⟨b, o0 + o, none⟩).run P w = .ok (.agg us) w ∧ us.size = n ∧
      ∀ (j : Nat) (y : AV) (u : Value), ((cs.drop o).take n)[j]? = some y → us[j]? = some u → RepA μ F w y u) ∨
    (g = false ∧ n = 1 ∧ ∃ u, (loadVar t ⟨b, o0 + o, none⟩).run P w = .ok u w ∧ RepA μ F w (cs.getD o .undef) u) := by
  obtain ⟨f, hf⟩ := pick_cells hc
  cases g with
  | true =>
    refine .inl ⟨rfl, ((List.range n).map fun j => f (o + j)).toArray, ?_, by simp, ?_⟩
    · have hl := run_loadCells_list (P := P) w ⟨b, o0 + o, none⟩ ((List.range n).map fun j => f (o + j)) (fun j v hj => by
        rw [addr_add]
        simp only [List.getElem?_map, Option.map_eq_some_iff] at hj
        obtain ⟨j', hj', rfl⟩ := hj
        have hjn : j < n := by
          have := (List.getElem?_eq_some_iff.1 hj').1; simpa using this
        have : j' = j := by
          have := (List.getElem?_eq_some_iff.1 hj').2; simpa using this.symm
        subst this
        have hlt : o + j' < cs.length := by omega
        have := (hf (o + j') cs[o + j'] (by simp [hlt])).1
        rwa [← Nat.add_assoc] at this)
      simp only [List.length_map, List.length_range] at hl
      simp [loadVar, run_isAggT hg, run_sizeT hs, hl]
    · intro j y u hy hu
      simp only [List.getElem?_take, List.getElem?_drop] at hy
      split at hy
      · rename_i hj
        have := (hf (o + j) y hy).2
        simp [hj] at hu
        rwa [hu] at this
      · cases hy
  | false =>
    have hn : n = 1 := by simpa using h1
    subst hn
    refine .inr ⟨rfl, rfl, f o, ?_, ?_⟩
    · have hlt : o < cs.length := by omega
      have := (hf o cs[o] (by simp [hlt])).1
      simp [loadVar, run_isAggT hg, this]
    · have hlt : o < cs.length := by omega
      have := (hf o cs[o] (by simp [hlt])).2
      rwa [getD_lt _ _ _ hlt]

theorem RepD.agg_of {cs : List DV} {us : Array Value} (hs : us.size = cs.length) (h : ∀ (j : Nat) (y : AV) (u : Value), (cs.map AV.d)[j]? = some y → us[j]? = some u → RepA μ F w y u) :
    RepD F w (.agg cs) (.agg us) := by
  refine .agg cs us hs (fun i x u hx hu => ?_)
  exact (h i (.d x) u (by simp [hx]) hu).inv_d

theorem allD_some {cs : List AV} {ds : List DV} (h : AV.allD cs = some ds) : cs = ds.map .d := by
  induction cs generalizing ds with
  | nil => simp [AV.allD] at h; simp [h]
  | cons x r ih =>
    cases x <;> simp [AV.allD] at h
    obtain ⟨ds', h', rfl⟩ := h
    simp [ih h']

theorem RepA.mkAgg_of {cs : List AV} {us : Array Value} (hs : us.size = cs.length) (h : ∀ (j : Nat) (y : AV) (u : Value), cs[j]? = some y → us[j]? = some u → RepA μ F w y u) :
    RepA μ F w (.mkAgg cs) (.agg us) := by
  unfold AV.mkAgg
  split
  · rename_i ds hd
    have e := allD_some hd
    subst e
    exact .d _ _ (RepD.agg_of (by simpa using hs) h)
  · exact .agg cs us hs h

theorem partA_agg {e : AV} {o n : Nat} {us : Array Value} (hob : partAOb e o n true) (hs : us.size = n)
    (h : ∀ (j : Nat) (y : AV) (u : Value), ((e.cells.drop o).take n)[j]? = some y → us[j]? = some u → RepA μ F w y u) : RepA μ F w (partA e o n true) (.agg us) := by
  have gen : ∀ e : AV, o + n ≤ e.cells.length → (o = 0 ∧ n = e.cells.length → e.isAgg = true) → (∀ x, e ≠ .d x) →
      (∀ (j : Nat) (y : AV) (u : Value), ((e.cells.drop o).take n)[j]? = some y → us[j]? = some u → RepA μ F w y u) →
      RepA μ F w (if o = 0 ∧ n = e.cells.length then e else .mkAgg ((e.cells.drop o).take n)) (.agg us) := by
    intro e hl ha hnd h
    split
    · rename_i hw
      obtain ⟨rfl, rfl⟩ := hw
      have := ha ⟨rfl, rfl⟩
      cases e with
      | agg cs => exact .agg cs us hs (fun i x u hx hu => h i x u (by simpa [AV.cells] using hx) hu)
      | d x => exact absurd rfl (hnd x)
      | _ => cases this
    · exact RepA.mkAgg_of (by simp; omega) h
  cases e with
  | d x =>
    simp only [partA, partAOb, partDOb, partD, if_true, AV.cells] at *
    refine .d _ _ ?_
    split
    · rename_i hw
      obtain ⟨rfl, rfl⟩ := hw
      have := hob.2 ⟨rfl, rfl⟩
      cases x with
      | agg cs => exact RepD.agg_of hs (fun j y u hy hu => h j y u (by rw [List.drop_zero, List.take_of_length_le (by simp [DV.cells])]; simpa [DV.cells] using hy) hu)
      | _ => cases this
    · exact RepD.agg_of (by simp; omega) (fun j y u hy hu => h j y u (by simpa [List.map_take, List.map_drop] using hy) hu)
  | _ => exact gen _ hob.1 (by simpa using hob.2) (fun _ h => by cases h) h

theorem partA_one {e : AV} {o n : Nat} {u : Value} (hob : partAOb e o n false) (hn : n = 1) (h : RepA μ F w (e.cells.getD o .undef) u) : RepA μ F w (partA e o n false) u := by
  cases e with
  | d x =>
    simp only [partA, partAOb, partDOb, partD, AV.cells] at *
    have hl : o < x.cells.length := by omega
    refine .d _ _ ?_
    simp only [Bool.false_eq_true, if_false]
    rw [getD_lt _ _ _ hl]
    rw [getD_lt _ _ _ (by simpa using hl)] at h
    rw [List.getElem_map] at h
    exact h.inv_d
  | _ => simpa [partA] using h

/-- A load through a pointer. -/
theorem load_sound (o : Oper) (x : Operand) (ho : o.op = .load t x) {n : Nat} {g : Bool} (hs : sizeT P t = some n) (hg : aggT P t = some g) (h1 : g = true ∨ n = 1)
    {H : Heap} (hR : Rel μ F w H) {vx : AV} (hx : RepA μ F w vx (a.eval x)) (hob : (loadV H.ob n g vx).ob) : NOut P μ F w o a fresh (loadV H.ob n g vx) := by
  have fin : ∀ (b o0 off : Nat) (e : AV), a.eval x = .pointer (some ⟨b, o0 + off, none⟩) → partAOb e off n g →
      (∀ (j : Nat) (y : AV), e.cells[j]? = some y → ∃ u, w.cell? ⟨b, o0 + j, none⟩ = some u ∧ RepA μ F w y u) → ∀ ob, NOut P μ F w o a fresh ⟨ob, partA e off n g, .none⟩ := by
    intro b o0 off e he hp hc ob
    have hlen : off + n ≤ e.cells.length := by
      cases e with
      | d x => simpa [AV.cells] using hp.1
      | _ => exact hp.1
    rcases load_cells (P := P) hc hg hs h1 hlen with ⟨rfl, us, hr, hsz, hrep⟩ | ⟨rfl, hn, u, hr, hrep⟩
    · exact NOut.none rfl (u := .agg us) (by simp [execOp, ho, he, Instr.loadAt, Instr.sureAddr, hr]) (partA_agg hp hsz hrep)
    · exact NOut.none rfl (u := u) (by simp [execOp, ho, he, Instr.loadAt, Instr.sureAddr, hr]) (partA_one hp hn hrep)
  unfold loadV at hob ⊢
  split at hob
  · rename_i y off
    generalize hu : a.eval x = u at hx
    cases hx with
    | fp _ _ b o0 f hF hcell hrep =>
      exact fin b o0 off (.d y) hu hob (fun j z hz => by
        simp only [AV.cells, List.getElem?_map, Option.map_eq_some_iff] at hz
        obtain ⟨z', hz', rfl⟩ := hz
        exact ⟨f j, hcell j z' hz', .d _ _ (hrep j z' hz')⟩) _
  · rename_i id ix off
    split at hob
    · rename_i sz es hG
      generalize hu : a.eval x = u at hx
      cases hx with
      | ptr _ _ _ l hm =>
        have hH : H[id]? = some (some (.arr sz es)) := by
          unfold Heap.ob at hG
          cases hh : H[id]? with
          | none => simp [hh] at hG
          | some oo => simp [hh] at hG; rw [hG]
        have hA : ArrAt μ F w l sz es := hR.ob id l _ hm hH
        obtain ⟨hix, hp⟩ := hob
        have hget : es.getD ix .undef = es[ix] := getD_lt _ _ _ hix
        rw [hget] at hp ⊢
        refine fin l.blk (l.off + ix * l.sz) off es[ix] (by rw [hu, Nat.add_assoc]) hp (fun j y hy => ?_) _
        obtain ⟨u, h1, _, h2⟩ := hA.rep ix j es[ix] y (by simp [hix]) hy
        exact ⟨u, by rw [hA.hsz, Nat.add_assoc]; exact h1, h2⟩
    · exact hob.elim
  · exact hob.elim

end
end Go.Vm
/- What is made: boxes, structs, slices, maps, functions; and what is read off values. -/
namespace Go.Vm
open Go
variable [Gl]

section
variable {P : Program} {μ : Locs} {F : Nat → Prop} {w : World} {a : Act} {fresh : Nat} {t : TypeId}

theorem run_zeroV {i : TypeInfo} {z : Value} (hi : P.info? t = some i) (hz : i.zero = some z) : (zeroValue t).run P w = .ok z w := by
  simp [zeroValue, typeInfo, hi, hz]

/-- A constant means itself. -/
theorem kAV_rep {v : Value} {x : AV} (h : kAV v = some x) : RepA μ F w x v := by
  unfold kAV at h
  split at h <;> first | (cases h; done) | skip
  all_goals obtain rfl := Option.some.inj h
  · exact .d _ _ (.bool _)
  · exact .d _ _ (.int _ _)
  · rename_i s
    have : RepD F w (.str s.data.toList) (.string ⟨s.data.toList.toArray⟩) := .str _
    exact .d _ _ (by simpa using this)
  · exact .d _ _ .nilp
  · exact .nils
  · exact .d _ _ .nilm
  · exact .d _ _ .nilf
  · exact .d _ _ .nili

theorem kAs_rep : ∀ {vs : List Value} {xs : List AV}, kAs vs = some xs → xs.length = vs.length ∧ ∀ (i : Nat) (x : AV) (u : Value), xs[i]? = some x → vs[i]? = some u → RepA μ F w x u
  | [], xs, h => by simp [kAs] at h; subst h; simp
  | v :: r, xs, h => by
    unfold kAs at h
    split at h
    · rename_i x xs' h1 h2
      obtain rfl := Option.some.inj h
      obtain ⟨h3, h4⟩ := kAs_rep h2
      refine ⟨by simp [h3], fun i x' u hx hu => ?_⟩
      cases i with
      | zero => simp at hx hu; subst hx; subst hu; exact kAV_rep h1
      | succ i => simp at hx hu; exact h4 i x' u hx hu
    · cases h

theorem kVal_rep {v : Value} {x : AV} (h : kVal v = some x) : RepA μ F w x v := by
  unfold kVal at h
  split at h
  · rename_i cs
    simp only [Option.map_eq_some_iff] at h
    obtain ⟨xs, h1, rfl⟩ := h
    obtain ⟨h2, h3⟩ := kAs_rep (μ := μ) (F := F) (w := w) h1
    exact RepA.mkAgg_of (by simp [h2]) (fun j y u hy hu => h3 j y u hy (by simpa using hu))
  · exact kAV_rep h

/-! cells of a value -/
theorem Value.cells_agg (cs : Array Value) : (Value.agg cs).cells = cs := rfl
theorem oneCell_of_repD {x : DV} {u : Value} (h : RepD F w x u) (hx : x.one = true) : u.oneCell' = true := by
  cases h <;> first | rfl | (cases hx; done)
theorem oneCell_of_repA {x : AV} {u : Value} (h : RepA μ F w x u) (hx : x.one = true) : u.oneCell' = true := by
  cases h with
  | d x v h => exact oneCell_of_repD h hx
  | _ => first | rfl | (cases hx; done)
theorem cells_of_oneCell {u : Value} (h : u.oneCell' = true) : u.cells = #[u] := by cases u <;> first | rfl | (cases h; done)

theorem AV.fits_length {n : Nat} {x : AV} (h : x.fits n = true) : x.cells.length = n := by
  cases x <;> simp [AV.fits, DV.fits, AV.cells] at h ⊢ <;> first | exact h.1 | exact h
theorem AV.fits_one {n : Nat} {x : AV} (h : x.fits n = true) : ∀ y ∈ x.cells, y.one = true := by
  cases x with
  | d x =>
    simp only [AV.fits, DV.fits, Bool.and_eq_true, List.all_eq_true, AV.cells] at h ⊢
    intro y hy
    obtain ⟨z, hz, rfl⟩ := List.mem_map.1 hy
    exact h.2 z hz
  | _ => simp only [AV.fits, Bool.and_eq_true, List.all_eq_true] at h; exact h.2

/-- The cells of a value mean the cells of its Go value. -/
theorem RepA.cells {x : AV} {u : Value} {n : Nat} (h : RepA μ F w x u) (hf : x.fits n = true) :
    u.cells.size = n ∧ ∀ (j : Nat) (y : AV) (v : Value), x.cells[j]? = some y → u.cells[j]? = some v → v.oneCell' = true ∧ RepA μ F w y v := by
  have hl := AV.fits_length hf
  have ho := AV.fits_one hf
  have one : ∀ {x : AV} {u : Value}, RepA μ F w x u → x.cells = [x] → x.one = true → u.cells.size = x.cells.length ∧
      ∀ (j : Nat) (y : AV) (v : Value), x.cells[j]? = some y → u.cells[j]? = some v → v.oneCell' = true ∧ RepA μ F w y v := by
    intro x u h hc h1
    have hu := oneCell_of_repA h h1
    rw [cells_of_oneCell hu, hc]
    refine ⟨rfl, fun j y v hy hv => ?_⟩
    cases j with
    | zero => simp at hy hv; subst hy; subst hv; exact ⟨hu, h⟩
    | succ j => simp at hy
  rw [← hl]
  cases h with
  | agg cs us hs h =>
    refine ⟨hs, fun j y v hy hv => ?_⟩
    have := h j y v hy hv
    exact ⟨oneCell_of_repA this (ho y (List.mem_of_getElem? hy)), this⟩
  | d x v h =>
    cases h with
    | agg cs us hs h =>
      refine ⟨by rw [Value.cells_agg]; simpa [AV.cells, DV.cells] using hs, fun j y v hy hv => ?_⟩
      have hy' := hy
      simp only [AV.cells, DV.cells, List.getElem?_map, Option.map_eq_some_iff] at hy'
      obtain ⟨z, hz, rfl⟩ := hy'
      have := RepA.d (μ := μ) _ _ (h j z v hz hv)
      exact ⟨oneCell_of_repA this (ho _ (List.mem_of_getElem? hy)), this⟩
    | _ =>
      refine one (by constructor; constructor <;> assumption) rfl ?_
      exact ho _ (by simp [AV.cells, DV.cells])
  | _ =>
    first
      | (refine one (by constructor <;> assumption) rfl (ho _ (by simp [AV.cells])); done)
      | exact absurd (ho _ (by simp [AV.cells]; rfl)) (by simp [AV.one])

/-- A new block of cells holds what it was made of. -/
theorem ArrAt.new {sz : Nat} {es : List AV} {c : Array Value} {e : TypeId} {cap : Nat} {μ' : Locs} (hcap : es.length ≤ cap) (hsize : cap * sz ≤ c.size) (hf : ∀ x ∈ es, x.fits sz = true)
    (h : ∀ (i j : Nat) (x y : AV), es[i]? = some x → x.cells[j]? = some y → ∃ u, c[i * sz + j]? = some u ∧ u.oneCell' = true ∧ RepA μ' F (w.alloc (.cells c e)) y u) :
    ArrAt μ' F (w.alloc (.cells c e)) ⟨w.heap.size, 0, sz, cap⟩ sz es :=
  ⟨rfl, hcap, hf, ⟨c, e, heap_alloc_new w _, by simpa using hsize⟩, fun i j x y hx hy => by
    obtain ⟨u, h1, h2, h3⟩ := h i j x y hx hy
    exact ⟨u, by simpa using h1, h2, h3⟩⟩

theorem alloc_keep {F : Nat → Prop} {H : Heap} (hR : Rel μ F w H) (oc : Obj) : ∀ b, F b → (w.alloc oc).heap[b]? = w.heap[b]? := fun b hb => RowKit.Below.heap_alloc w oc b (hR.Flt b hb)

/-- One value in a block of its own. -/
theorem box_obj {x : AV} {u : Value} {sz : Nat} {H : Heap} (hR : Rel μ F w H) (h : RepA μ F w x u) (hf : x.fits sz = true) (μ' : Locs) (hμ : ∀ id l, μ id = some l → μ' id = some l) :
    ArrAt μ' F (w.alloc (.cells u.cells t)) ⟨w.heap.size, 0, sz, 1⟩ sz [x] := by
  obtain ⟨h1, h2⟩ := h.cells hf
  refine ArrAt.new (Nat.le_refl _) (by omega) (fun y hy => by simp at hy; subst hy; exact hf) (fun i j x' y hx hy => ?_)
  have hi : i = 0 := by
    cases i with
    | zero => rfl
    | succ i => simp at hx
  subst hi
  simp at hx; subst hx
  have hj : j < u.cells.size := by
    have := (List.getElem?_eq_some_iff.1 hy).1
    rw [AV.fits_length hf] at this; omega
  refine ⟨u.cells[j], by simp [hj], ?_⟩
  obtain ⟨h3, h4⟩ := h2 j y u.cells[j] hy (by simp [hj])
  exact ⟨h3, h4.mono hμ (fun _ h => h) (alloc_keep hR _)⟩

theorem box_sound (o : Oper) (x : Operand) (ho : o.op = .box t x) {n : Nat} {H : Heap} (hR : Rel μ F w H) {vx : AV} (hx : RepA μ F w vx (a.eval x)) (hf : vx.fits n = true) (ob : Prop) :
    NOut P μ F w o a fresh ⟨ob, .ptr fresh 0 0, .obj (.arr n [vx])⟩ := by
  refine ⟨.pointer (some ⟨w.heap.size, 0, none⟩), .cells (a.eval x).cells t, ⟨w.heap.size, 0, n, 1⟩, ?_, rfl, fun μ' hμ hm => ⟨?_, box_obj hR hx hf μ' hμ⟩⟩
  · simp [execOp, ho, Instr.box, newVar, newRow]
  · have := RepA.ptr (μ := μ') (F := F) (w := w.alloc (.cells (a.eval x).cells t)) fresh 0 0 _ hm
    simpa using this

theorem alloc_sound (o : Oper) (ho : o.op = .alloc t) {n : Nat} {z : AV} (hz : zeroT P t = some z) {H : Heap} (hR : Rel μ F w H) (hf : z.fits n = true) (ob : Prop) :
    NOut P μ F w o a fresh ⟨ob, .ptr fresh 0 0, .obj (.arr n [z])⟩ := by
  unfold zeroT at hz
  simp only [Option.bind_eq_some_iff] at hz
  obtain ⟨v, ⟨i, hi, hv⟩, hk⟩ := hz
  refine ⟨.pointer (some ⟨w.heap.size, 0, none⟩), .cells v.cells t, ⟨w.heap.size, 0, n, 1⟩, ?_, rfl, fun μ' hμ hm => ⟨?_, box_obj hR (kVal_rep hk) hf μ' hμ⟩⟩
  · simp [execOp, ho, Instr.alloc, run_zeroV hi hv, newVar, newRow]
  · have := RepA.ptr (μ := μ') (F := F) (w := w.alloc (.cells v.cells t)) fresh 0 0 _ hm
    simpa using this

end
end Go.Vm
/- Struct and slice literals. -/
namespace Go.Vm
open Go
variable [Gl]

/-- Cells laid one behind the other. -/
theorem lay_list (off : Nat) : ∀ (vs : List Value) (k : Nat) (cs : Array Value), (∀ j, j < vs.length → off + k + j < cs.size) →
    ((vs.zipIdx k).foldl (fun cs (c, j) => cs.setIfInBounds (off + j) c) cs).size = cs.size ∧
    ∀ i, ((vs.zipIdx k).foldl (fun cs (c, j) => cs.setIfInBounds (off + j) c) cs)[i]? = if off + k ≤ i ∧ i < off + k + vs.length then vs[i - (off + k)]? else cs[i]?
  | [], k, cs, _ => ⟨rfl, fun i => by simp; intro h1 h2; omega⟩
  | v :: vs, k, cs, h => by
    simp only [List.zipIdx_cons, List.foldl_cons]
    obtain ⟨h1, h2⟩ := lay_list off vs (k + 1) (cs.setIfInBounds (off + k) v) (fun j hj => by
      have := h (j + 1) (by simp; omega)
      simp; omega)
    refine ⟨by rw [h1]; simp, fun i => ?_⟩
    rw [h2 i]
    have h0 : off + k < cs.size := by simpa using h 0 (by simp)
    simp only [List.length_cons]
    by_cases hi : i = off + k
    · subst hi
      rw [if_neg (by omega), if_pos (by omega)]
      simp [h0]
    · by_cases hin : off + k ≤ i ∧ i < off + k + (vs.length + 1)
      · rw [if_pos (by omega), if_pos hin]
        have : i - (off + k) = (i - (off + (k + 1))) + 1 := by omega
        rw [this, List.getElem?_cons_succ]
      · rw [if_neg (by omega), if_neg hin, Array.getElem?_setIfInBounds_ne (by omega)]

theorem lay_array (off : Nat) (vs cs : Array Value) (h : off + vs.size ≤ cs.size) :
    (vs.zipIdx.foldl (fun cs (c, j) => cs.setIfInBounds (off + j) c) cs).size = cs.size ∧
    ∀ i, (vs.zipIdx.foldl (fun cs (c, j) => cs.setIfInBounds (off + j) c) cs)[i]? = if off ≤ i ∧ i < off + vs.size then vs[i - off]? else cs[i]? := by
  have := lay_list off vs.toList 0 cs (fun j hj => by simp at hj; omega)
  rw [← Array.foldl_toList, Array.toList_zipIdx]
  simpa using this

section
variable {P : Program} {μ : Locs} {F : Nat → Prop} {w : World} {a : Act} {fresh : Nat} {t : TypeId}

/-- Values cell by cell. -/
def Cw (μ : Locs) (F : Nat → Prop) (w : World) (cs : List AV) (us : Array Value) : Prop :=
  us.size = cs.length ∧ ∀ (j : Nat) (y : AV) (u : Value), cs[j]? = some y → us[j]? = some u → RepA μ F w y u

theorem Cw.put {cs : List AV} {us : Array Value} (h : Cw μ F w cs us) {x : AV} {v : Value} {s off : Nat} (hv : RepA μ F w x v) (hf : x.fits s = true) (ho : off + s ≤ cs.length) :
    Cw μ F w (cs.take off ++ x.cells ++ cs.drop (off + x.cells.length)) (v.cells.zipIdx.foldl (fun cs (c, j) => cs.setIfInBounds (off + j) c) us) := by
  obtain ⟨h1, h2⟩ := hv.cells hf
  have hl := AV.fits_length hf
  obtain ⟨h3, h4⟩ := lay_array off v.cells us (by rw [h1, h.1]; exact ho)
  refine ⟨by rw [h3, h.1]; simp; omega, fun j y u hy hu => ?_⟩
  rw [h4 j] at hu
  rw [h1] at hu
  by_cases hj : j < off
  · rw [if_neg (by omega)] at hu
    rw [List.append_assoc, List.getElem?_append_left (by simp; omega)] at hy
    rw [List.getElem?_take, if_pos hj] at hy
    exact h.2 j y u hy hu
  · by_cases hj2 : j < off + s
    · rw [if_pos (by omega)] at hu
      rw [List.append_assoc, List.getElem?_append_right (by simp; omega)] at hy
      simp only [List.length_take] at hy
      rw [Nat.min_eq_left (by omega), List.getElem?_append_left (by omega)] at hy
      exact (h2 _ y u hy hu).2
    · rw [if_neg (by omega)] at hu
      rw [List.getElem?_append_right (by simp; omega)] at hy
      simp only [List.length_append, List.length_take, List.getElem?_drop] at hy
      rw [Nat.min_eq_left (by omega)] at hy
      have : off + x.cells.length + (j - (off + x.cells.length)) = j := by omega
      rw [this] at hy
      exact h.2 j y u hy hu

/-- 'fill' as the machine has it. -/
theorem fill_sound (place : Nat → Option (Nat × Nat)) : ∀ (ps : List (Nat × Value)) (qs : List (Nat × Nat × AV)) (cs : List AV) (us : Array Value),
    ps.length = qs.length → (∀ (i : Nat) (p : Nat × Value) (q : Nat × Nat × AV), ps[i]? = some p → qs[i]? = some q → place p.1 = some (q.1, q.2.1) ∧ RepA μ F w q.2.2 p.2) →
    fillOb cs.length qs → Cw μ F w cs us → ∃ us', Instr.fill place us ps = some us' ∧ Cw μ F w (fillC cs qs) us'
  | [], [], cs, us, _, _, _, hc => ⟨us, rfl, hc⟩
  | [], _ :: _, _, _, h, _, _, _ => by cases h
  | _ :: _, [], _, _, h, _, _, _ => by cases h
  | (i, v) :: ps, (off, s, x) :: qs, cs, us, hl, h, hob, hc => by
    obtain ⟨hp, hr⟩ := h 0 (i, v) (off, s, x) rfl rfl
    obtain ⟨hf, ho, hob'⟩ := hob
    obtain ⟨h1, _⟩ := hr.cells hf
    have hxl := AV.fits_length hf
    have hlen : (cs.take off ++ x.cells ++ cs.drop (off + x.cells.length)).length = cs.length := by simp; omega
    obtain ⟨us', h2, h3⟩ := fill_sound place ps qs (cs.take off ++ x.cells ++ cs.drop (off + x.cells.length)) _ (by simpa using hl)
      (fun j p q hp hq => h (j + 1) p q (by simpa using hp) (by simpa using hq)) (by rw [hlen]; exact hob') (hc.put hr hf ho)
    refine ⟨us', ?_, by simpa [fillC] using h3⟩
    simp only at hp h1
    simp only [Instr.fill, hp]
    rw [if_neg]
    · exact h2
    · simp only [h1, ne_eq, not_true_eq_false, decide_false, Bool.false_or, decide_eq_true_eq]
      rw [hc.1]; omega

theorem resAll_some {res : Operand → Option Arg} : ∀ {xs : List Operand} {as : List Arg}, resAll res xs = some as → as.length = xs.length ∧ ∀ (i : Nat) (x : Operand) (b : Arg), xs[i]? = some x → as[i]? = some b → res x = some b
  | [], as, h => by simp [resAll] at h; subst h; simp
  | x :: r, as, h => by
    unfold resAll at h
    split at h
    · rename_i b bs h1 h2
      obtain rfl := Option.some.inj h
      obtain ⟨h3, h4⟩ := resAll_some h2
      refine ⟨by simp [h3], fun i x' b' hx hb => ?_⟩
      cases i with
      | zero => simp at hx hb; subst hx; subst hb; exact h1
      | succ i => simp at hx hb; exact h4 i x' b' hx hb
    · cases h

theorem fieldParts_some {res : Operand → Option Arg} : ∀ {xs : List (Nat × Operand)} {as : List (Nat × Nat × Arg)}, fieldParts P res t xs = some as →
    as.length = xs.length ∧ ∀ (i : Nat) (x : Nat × Operand) (b : Nat × Nat × Arg), xs[i]? = some x → as[i]? = some b →
      ∃ f, fieldT P t x.1 = some f ∧ f.offset = b.1 ∧ sizeT P f.type = some b.2.1 ∧ res x.2 = some b.2.2
  | [], as, h => by simp [fieldParts] at h; subst h; simp
  | (k, x) :: r, as, h => by
    unfold fieldParts at h
    split at h
    · rename_i f b bs h0 h1 h2
      simp only [Option.map_eq_some_iff] at h
      obtain ⟨s, hs, rfl⟩ := h
      obtain ⟨h3, h4⟩ := fieldParts_some h2
      refine ⟨by simp [h3], fun i x' b' hx hb => ?_⟩
      cases i with
      | zero => simp at hx hb; subst hx; subst hb; exact ⟨f, h0, rfl, hs, h1⟩
      | succ i => simp at hx hb; exact h4 i x' b' hx hb
    · cases h

theorem mapM_sizes {fs : Array Field} (hs : ∀ (i : Nat) (f : Field), fs[i]? = some f → ∃ s, sizeT P f.type = some s) :
    ∃ places : Array (Nat × Nat), (fs.mapM fun f => (do pure (f.offset, ← Go.sizeOf f.type) : Sem (Nat × Nat))).run P w = .ok places w ∧
      ∀ (i : Nat) (f : Field) (s : Nat), fs[i]? = some f → sizeT P f.type = some s → places[i]? = some (f.offset, s) := by
  have gen : ∀ l : List Field, (∀ (i : Nat) (f : Field), l[i]? = some f → ∃ s, sizeT P f.type = some s) →
      ∃ ps : List (Nat × Nat), (l.mapM fun f => (do pure (f.offset, ← Go.sizeOf f.type) : Sem (Nat × Nat))).run P w = .ok ps w ∧
        ∀ (i : Nat) (f : Field) (s : Nat), l[i]? = some f → sizeT P f.type = some s → ps[i]? = some (f.offset, s) := by
    intro l
    induction l with
    | nil => exact fun _ => ⟨[], by simp, by simp⟩
    | cons f r ih =>
      intro h
      obtain ⟨s, hs⟩ := h 0 f rfl
      obtain ⟨ps, h1, h2⟩ := ih (fun i f hf => h (i + 1) f (by simpa using hf))
      refine ⟨(f.offset, s) :: ps, ?_, fun i f' s' hf hs' => ?_⟩
      · rw [List.mapM_cons]
        simp [run_sizeT hs]
        simp at h1
        rw [h1]
        rfl
      · cases i with
        | zero => simp at hf; subst hf; rw [hs] at hs'; simp; exact Option.some.inj hs'
        | succ i => simp at hf; simpa using h2 i f' s' hf hs'
  obtain ⟨ps, h1, h2⟩ := gen fs.toList (fun i f hf => hs i f (by simpa using hf))
  refine ⟨ps.toArray, ?_, fun i f s hf hs => by simpa using h2 i f s (by simpa using hf) hs⟩
  rw [Array.mapM_eq_mapM_toList]
  simp only [Sem.run_map, h1, Result.andThen_ok]

end
end Go.Vm
/- Struct and slice literals, make. -/
namespace Go.Vm
open Go
variable [Gl]

section
variable {P : Program} {μ : Locs} {F : Nat → Prop} {w : World} {a : Act} {fresh : Nat} {t : TypeId}

theorem build_sound (o : Oper) (ps : Array (Nat × Operand)) (ho : o.op = .build t ps) {i : TypeInfo} {cs : Array Value} (hi : P.info? t = some i) (hz : i.zero = some (.agg cs))
    {fs : Array Field} (hfs : P.underlying t = some (.struct fs)) (hall : fs.toList.all (fun f => (sizeT P f.type).isSome) = true)
    {z : List AV} (hk : kAs cs.toList = some z) {res : Operand → Option Arg} {ρ : Arg → AV} (hρ : ∀ x b, res x = some b → RepA μ F w (ρ b) (a.eval x))
    {parts : List (Nat × Nat × Arg)} (hp : fieldParts P res t ps.toList = some parts) {x : NR}
    (hx : x = ⟨fillOb z.length (parts.map fun p => (p.1, p.2.1, ρ p.2.2)), .mkAgg (fillC z (parts.map fun p => (p.1, p.2.1, ρ p.2.2))), .none⟩) (hob : x.ob) :
    NOut P μ F w o a fresh x := by
  subst hx
  obtain ⟨hl, hpp⟩ := fieldParts_some hp
  obtain ⟨places, hpl, hpl2⟩ := mapM_sizes (P := P) (w := w) (fs := fs) (fun i f hf => by
    have := List.all_eq_true.1 hall f (by
      have := Array.mem_of_getElem? hf; simpa using this)
    exact Option.isSome_iff_exists.1 this)
  obtain ⟨hz1, hz2⟩ := kAs_rep (μ := μ) (F := F) (w := w) hk
  obtain ⟨us, hus, hc⟩ := fill_sound (places[·]?) (ps.toList.map fun p => (p.1, a.eval p.2)) (parts.map fun p => (p.1, p.2.1, ρ p.2.2)) z cs (by simp [hl])
    (fun i p q hp' hq' => by
      simp only [List.getElem?_map, Option.map_eq_some_iff] at hp' hq'
      obtain ⟨p0, hp0, rfl⟩ := hp'
      obtain ⟨q0, hq0, rfl⟩ := hq'
      obtain ⟨f, h1, h2, h3, h4⟩ := hpp i p0 q0 hp0 hq0
      refine ⟨?_, hρ _ _ h4⟩
      have hf : fs[p0.1]? = some f := by unfold fieldT at h1; rw [hfs] at h1; exact h1
      have := hpl2 p0.1 f q0.2.1 hf h3
      rw [← h2]; exact this) hob ⟨by simpa using hz1.symm, fun j y u hy hu => hz2 j y u hy (by simpa using hu)⟩
  refine NOut.none rfl (u := .agg us) ?_ (RepA.mkAgg_of hc.1 hc.2)
  have hmap : (ps.map fun p => (p.1, a.eval p.2)).toList = ps.toList.map fun p => (p.1, a.eval p.2) := by simp
  simp only [execOp, ho, Instr.build, Sem.run_bind, run_zeroV hi hz, Result.andThen_ok, Value.cells_agg, run_underlying hfs, hpl]
  rw [show (Array.map (fun x => match x with | (i, x) => (i, a.eval x)) ps).toList = ps.toList.map fun p => (p.1, a.eval p.2) from hmap]
  simp [hus]

/-- Elements cell by cell. -/
def Ew (μ : Locs) (F : Nat → Prop) (w : World) (sz : Nat) (es : List AV) (us : Array Value) : Prop :=
  us.size = es.length * sz ∧ (∀ x ∈ es, x.fits sz = true) ∧
  ∀ (i j : Nat) (x y : AV) (u : Value), es[i]? = some x → x.cells[j]? = some y → us[i * sz + j]? = some u → u.oneCell' = true ∧ RepA μ F w y u

theorem idx_lt {i j n sz : Nat} (hi : i < n) (hj : j < sz) : i * sz + j < n * sz := by
  have : (i + 1) * sz ≤ n * sz := Nat.mul_le_mul_right _ hi
  rw [Nat.add_mul] at this; omega
theorem idx_eq {i j i' j' sz : Nat} (hj : j < sz) (hj' : j' < sz) (h : i * sz + j = i' * sz + j') : i = i' ∧ j = j' := by
  have h1 : (i * sz + j) / sz = i := by rw [Nat.mul_comm, Nat.mul_add_div (by omega), Nat.div_eq_of_lt hj]; omega
  have h2 : (i' * sz + j') / sz = i' := by rw [Nat.mul_comm, Nat.mul_add_div (by omega), Nat.div_eq_of_lt hj']; omega
  have : i = i' := by rw [← h1, h, h2]
  subst this
  exact ⟨rfl, by omega⟩

theorem Ew.put {sz : Nat} {es : List AV} {us : Array Value} (h : Ew μ F w sz es us) {i : Nat} (hi : i < es.length) {x : AV} {v : Value} (hv : RepA μ F w x v) (hf : x.fits sz = true) :
    Ew μ F w sz (es.set i x) (v.cells.zipIdx.foldl (fun cs (c, j) => cs.setIfInBounds (i * sz + j) c) us) := by
  obtain ⟨h1, h2⟩ := hv.cells hf
  have hle : i * sz + sz ≤ us.size := by
    rw [h.1]
    have : (i + 1) * sz ≤ es.length * sz := Nat.mul_le_mul_right _ hi
    rw [Nat.add_mul] at this; omega
  obtain ⟨h3, h4⟩ := lay_array (i * sz) v.cells us (by rw [h1]; exact hle)
  refine ⟨by rw [h3, h.1]; simp, fun y hy => ?_, fun i' j x' y u hx hy hu => ?_⟩
  · rcases List.mem_or_eq_of_mem_set hy with hy | rfl
    · exact h.2.1 y hy
    · exact hf
  · rw [h4, h1] at hu
    by_cases hii : i' = i
    · subst hii
      rw [List.getElem?_set_self (by simpa using hi)] at hx
      obtain rfl := Option.some.inj hx
      have hj : j < sz := by
        have := (List.getElem?_eq_some_iff.1 hy).1
        rwa [AV.fits_length hf] at this
      rw [if_pos (by omega)] at hu
      have e : i' * sz + j - i' * sz = j := by omega
      rw [e] at hu
      exact h2 j y u hy hu
    · rw [List.getElem?_set_ne (by omega)] at hx
      have hfx := h.2.1 x' (List.mem_of_getElem? hx)
      have hj : j < sz := by
        have := (List.getElem?_eq_some_iff.1 hy).1
        rwa [AV.fits_length hfx] at this
      rw [if_neg] at hu
      · exact h.2.2 i' j x' y u hx hy hu
      · rintro ⟨ha, hb⟩
        have : i' * sz + j = i * sz + (i' * sz + j - i * sz) := by omega
        exact hii (idx_eq hj (by omega) this).1

theorem fillE_sound {sz : Nat} : ∀ (ps : List (Nat × Value)) (qs : List (Nat × AV)) (es : List AV) (us : Array Value),
    ps.length = qs.length → (∀ (i : Nat) (p : Nat × Value) (q : Nat × AV), ps[i]? = some p → qs[i]? = some q → p.1 = q.1 ∧ RepA μ F w q.2 p.2) →
    litOb es.length sz qs → Ew μ F w sz es us → ∃ us', Instr.fill (fun i => some (i * sz, sz)) us ps = some us' ∧ Ew μ F w sz (litE es qs) us'
  | [], [], es, us, _, _, _, hc => ⟨us, rfl, hc⟩
  | [], _ :: _, _, _, h, _, _, _ => by cases h
  | _ :: _, [], _, _, h, _, _, _ => by cases h
  | (i, v) :: ps, (i', x) :: qs, es, us, hl, h, hob, hc => by
    obtain ⟨hp, hr⟩ := h 0 (i, v) (i', x) rfl rfl
    simp only at hp
    subst hp
    obtain ⟨hi, hf, hob'⟩ := hob
    obtain ⟨h1, _⟩ := hr.cells hf
    obtain ⟨us', h2, h3⟩ := fillE_sound ps qs (es.set i x) _ (by simpa using hl)
      (fun j p q hp hq => h (j + 1) p q (by simpa using hp) (by simpa using hq)) (by simpa using hob') (hc.put hi hr hf)
    refine ⟨us', ?_, by simpa [litE] using h3⟩
    simp only at h1
    simp only [Instr.fill]
    rw [if_neg]
    · exact h2
    · simp only [h1, ne_eq, not_true_eq_false, decide_false, Bool.false_or, decide_eq_true_eq]
      rw [hc.1]
      have : (i + 1) * sz ≤ es.length * sz := Nat.mul_le_mul_right _ hi
      rw [Nat.add_mul] at this; omega

/-- So many zero elements. -/
theorem Ew.zeros {z : AV} {v : Value} {sz : Nat} (hz : RepA μ F w z v) (hf : z.fits sz = true) (_hsz : sz ≠ 0) (n : Nat) :
    Ew μ F w sz (List.replicate n z) ((Array.range (n * sz)).map (v.cells[· % v.cells.size]!)) := by
  obtain ⟨h1, h2⟩ := hz.cells hf
  refine ⟨by simp, fun x hx => by rw [List.eq_of_mem_replicate hx]; exact hf, fun i j x y u hx hy hu => ?_⟩
  have hin : i < n := by
    have := (List.getElem?_eq_some_iff.1 hx).1; simpa using this
  have hxz : x = z := List.eq_of_mem_replicate (List.mem_of_getElem? hx)
  subst hxz
  have hj : j < sz := by
    have := (List.getElem?_eq_some_iff.1 hy).1
    rwa [AV.fits_length hf] at this
  have hlt := idx_lt hin hj
  have hmod : (i * sz + j) % sz = j := by rw [Nat.mul_comm, Nat.mul_add_mod, Nat.mod_eq_of_lt hj]
  simp only [Array.getElem?_map, Option.map_eq_some_iff] at hu
  obtain ⟨k, hk, rfl⟩ := hu
  have hk' : k = i * sz + j := by
    have h0 : i * sz + j < (Array.range (n * sz)).size := by simpa using hlt
    rw [Array.getElem?_eq_getElem h0] at hk
    simpa using (Option.some.inj hk).symm
  subst hk'
  have hjs : j < v.cells.size := by omega
  refine h2 j y _ hy ?_
  rw [h1, hmod]
  simp [hjs]

theorem datL_some : ∀ {cs : List AV} {ds : List DV}, datL cs = some ds → ds.length = cs.length ∧ ∀ (i : Nat) (x : AV) (d : DV), cs[i]? = some x → ds[i]? = some d → x.dat = some d
  | [], ds, h => by simp [datL] at h; subst h; simp
  | x :: r, ds, h => by
    unfold datL at h
    split at h
    · rename_i y ys h1 h2
      obtain rfl := Option.some.inj h
      obtain ⟨h3, h4⟩ := datL_some h2
      refine ⟨by simp [h3], fun i x' d hx hd => ?_⟩
      cases i with
      | zero => simp at hx hd; subst hx; subst hd; exact h1
      | succ i => simp at hx hd; exact h4 i x' d hx hd
    · cases h

theorem dat_rep {x : AV} {d : DV} {u : Value} (h : x.dat = some d) (hr : RepA μ F w x u) : RepD F w d u := by
  cases x <;> simp [AV.dat] at h
  · subst h; exact hr.inv_d
  · subst h
    cases hr
    exact .vs [] none 0 0 0 (fun _ _ => default) rfl (Nat.le_refl _) (by simp) (by simp) (by simp) (by simp)

theorem norm_rep {x : AV} {u : Value} (hr : RepA μ F w x u) : RepA μ F w x.norm u := by
  cases x with
  | nils => exact .d _ _ (dat_rep rfl hr)
  | agg cs =>
    simp only [AV.norm]
    split
    · rename_i ds hd
      obtain ⟨h1, h2⟩ := datL_some hd
      cases hr with
      | agg _ us hs h =>
        refine .d _ _ (.agg ds us (by rw [hs, h1]) (fun i d u hdi hu => ?_))
        have hi : i < cs.length := by rw [← h1]; exact (List.getElem?_eq_some_iff.1 hdi).1
        exact dat_rep (h2 i cs[i] d (by simp [hi]) hdi) (h i cs[i] u (by simp [hi]) hu)
    · exact hr
  | _ => exact hr

theorem toD_rep {x : AV} {d : DV} {u : Value} (h : x.toD = some d) (hr : RepA μ F w x u) : RepD F w d u := by
  have := norm_rep hr
  unfold AV.toD at h
  split at h
  · rename_i y hy
    obtain rfl := Option.some.inj h
    rw [hy] at this; exact this.inv_d
  · cases h

theorem dat_cells {x : AV} {d : DV} (h : x.dat = some d) (ho : x.one = true) : d.one = true := by
  cases x <;> simp [AV.dat] at h
  · subst h; exact ho
  · subst h; rfl

theorem toD_cells {x : AV} {d : DV} {sz : Nat} (h : x.toD = some d) (hf : x.fits sz = true) :
    d.fits sz = true ∧ ∀ (j : Nat) (y : DV), d.cells[j]? = some y → ∃ y', x.cells[j]? = some y' ∧ y'.dat = some y := by
  unfold AV.toD at h
  cases x with
  | d x =>
    simp only [AV.norm] at h
    obtain rfl := Option.some.inj h
    refine ⟨by simpa [AV.fits] using hf, fun j y hy => ⟨.d y, by simp [AV.cells, hy], rfl⟩⟩
  | nils =>
    simp only [AV.norm] at h
    obtain rfl := Option.some.inj h
    simp [AV.fits, AV.cells, AV.one] at hf
    subst hf
    refine ⟨rfl, fun j y hy => ?_⟩
    cases j with
    | zero => simp [DV.cells] at hy; subst hy; exact ⟨.nils, rfl, rfl⟩
    | succ j => simp [DV.cells] at hy
  | agg cs =>
    simp only [AV.norm] at h
    split at h
    · rename_i y hy
      obtain rfl := Option.some.inj h
      split at hy
      · rename_i ds hd
        cases hy
        obtain ⟨h1, h2⟩ := datL_some hd
        simp only [AV.fits, AV.cells, Bool.and_eq_true, List.all_eq_true, beq_iff_eq] at hf
        refine ⟨?_, fun j y hy => ?_⟩
        · simp only [DV.fits, DV.cells, Bool.and_eq_true, List.all_eq_true, beq_iff_eq]
          refine ⟨by rw [h1]; exact hf.1, fun d hd' => ?_⟩
          obtain ⟨i, hi⟩ := List.getElem?_of_mem hd'
          have hil : i < cs.length := by rw [← h1]; exact (List.getElem?_eq_some_iff.1 hi).1
          exact dat_cells (h2 i cs[i] d (by simp [hil]) hi) (hf.2 _ (List.getElem_mem hil))
        · simp only [DV.cells] at hy
          have hil : j < cs.length := by rw [← h1]; exact (List.getElem?_eq_some_iff.1 hy).1
          exact ⟨cs[j], by simp [AV.cells, hil], h2 j cs[j] y (by simp [hil]) hy⟩
      · cases hy
    · cases h
  | _ => simp [AV.norm] at h

theorem toDL_some : ∀ {cs : List AV} {ds : List DV}, toDL cs = some ds → ds.length = cs.length ∧ ∀ (i : Nat) (x : AV) (d : DV), cs[i]? = some x → ds[i]? = some d → x.toD = some d
  | [], ds, h => by simp [toDL] at h; subst h; simp
  | x :: r, ds, h => by
    unfold toDL at h
    split at h
    · rename_i y ys h1 h2
      obtain rfl := Option.some.inj h
      obtain ⟨h3, h4⟩ := toDL_some h2
      refine ⟨by simp [h3], fun i x' d hx hd => ?_⟩
      cases i with
      | zero => simp at hx hd; subst hx; subst hd; exact h1
      | succ i => simp at hx hd; exact h4 i x' d hx hd
    · cases h

/-- A row of data in a block that nobody will write. -/
theorem frozen_row {F' : Nat → Prop} {b o n c sz : Nat} {es : List AV} {ds : List DV} (hb : F' b) (hd : toDL es = some ds) (hn : n = es.length) (hc : n ≤ c)
    (hf : ∀ x ∈ es, x.fits sz = true)
    (h : ∀ (i j : Nat) (x y : AV), es[i]? = some x → x.cells[j]? = some y → ∃ u, w.cell? ⟨b, o + (i * sz + j), none⟩ = some u ∧ RepA μ F' w y u) :
    RepD F' w (.vs ds) (.slice (some ⟨b, o, none⟩) n c) := by
  obtain ⟨h1, h2⟩ := toDL_some hd
  have key : ∀ i j : Nat, ∃ u, ∀ d y, ds[i]? = some d → d.cells[j]? = some y → w.cell? ⟨b, o + (i * sz + j), none⟩ = some u ∧ RepD F' w y u := by
    intro i j
    cases hdi : ds[i]? with
    | none => exact ⟨default, fun d y hd => by cases hd⟩
    | some d =>
      have hil : i < es.length := by rw [← h1]; exact (List.getElem?_eq_some_iff.1 hdi).1
      obtain ⟨_, hcells⟩ := toD_cells (h2 i es[i] d (by simp [hil]) hdi) (hf _ (List.getElem_mem hil))
      cases hy : d.cells[j]? with
      | none => exact ⟨default, fun d' y hd' hy' => by cases hd'; rw [hy] at hy'; cases hy'⟩
      | some y =>
        obtain ⟨y', hy1, hy2⟩ := hcells j y hy
        obtain ⟨u, hu1, hu2⟩ := h i j es[i] y' (by simp [hil]) hy1
        exact ⟨u, fun d' y'' hd' hy'' => by cases hd'; rw [hy] at hy''; cases hy''; exact ⟨hu1, dat_rep hy2 hu2⟩⟩
  refine .vs ds _ n c sz (fun i j => Classical.choose (key i j)) (by rw [hn, h1]) hc (fun d hd => ?_) (fun _ => ⟨_, rfl, hb, rfl⟩) (fun ad had i j d y hdi hy => ?_) (fun i j d y hdi hy => ?_)
  · obtain ⟨i, hi⟩ := List.getElem?_of_mem hd
    have hil : i < es.length := by rw [← h1]; exact (List.getElem?_eq_some_iff.1 hi).1
    exact (toD_cells (h2 i es[i] d (by simp [hil]) hi) (hf _ (List.getElem_mem hil))).1
  · obtain rfl := Option.some.inj had
    exact (Classical.choose_spec (key i j) d y hdi hy).1
  · exact (Classical.choose_spec (key i j) d y hdi hy).2

end
end Go.Vm
/- Slice literals, make, maps, functions, slices of slices, indexes. -/
namespace Go.Vm
open Go
variable [Gl]

section
variable {P : Program} {μ : Locs} {F : Nat → Prop} {w : World} {a : Act} {fresh : Nat} {t : TypeId}

theorem elemParts_some {res : Operand → Option Arg} : ∀ {xs : List (Nat × Operand)} {as : List (Nat × Arg)}, elemParts res xs = some as →
    as.length = xs.length ∧ ∀ (i : Nat) (x : Nat × Operand) (b : Nat × Arg), xs[i]? = some x → as[i]? = some b → x.1 = b.1 ∧ res x.2 = some b.2
  | [], as, h => by simp [elemParts] at h; subst h; simp
  | (k, x) :: r, as, h => by
    unfold elemParts at h
    split at h
    · rename_i b bs h1 h2
      obtain rfl := Option.some.inj h
      obtain ⟨h3, h4⟩ := elemParts_some h2
      refine ⟨by simp [h3], fun i x' b' hx hb => ?_⟩
      cases i with
      | zero => simp at hx hb; subst hx; subst hb; exact ⟨rfl, h1⟩
      | succ i => simp at hx hb; exact h4 i x' b' hx hb
    · cases h

theorem elemT_some {e : TypeId} (h : elemT P t = some e) : P.underlying t = some (.slice e) := by
  unfold elemT at h; split at h
  · rename_i e' he; cases h; exact he
  · cases h

theorem zeroT_some {z : AV} (h : zeroT P t = some z) : ∃ i v, P.info? t = some i ∧ i.zero = some v ∧ kVal v = some z := by
  unfold zeroT at h
  simp only [Option.bind_eq_some_iff] at h
  obtain ⟨v, ⟨i, hi, hv⟩, hk⟩ := h
  exact ⟨i, v, hi, hv, hk⟩

/-- A new row of cells that stand for elements. -/
theorem Ew.obj {H : Heap} (hR : Rel μ F w H) {sz cap : Nat} {es : List AV} {us rest : Array Value} (h : Ew μ F w sz es us) (hcap : es.length ≤ cap) (hsz : (us ++ rest).size ≥ cap * sz)
    (e : TypeId) (μ' : Locs) (hμ : ∀ id l, μ id = some l → μ' id = some l) : ArrAt μ' F (w.alloc (.cells (us ++ rest) e)) ⟨w.heap.size, 0, sz, cap⟩ sz es := by
  refine ArrAt.new hcap hsz h.2.1 (fun i j x y hx hy => ?_)
  have hi : i < es.length := (List.getElem?_eq_some_iff.1 hx).1
  have hj : j < sz := by
    have := (List.getElem?_eq_some_iff.1 hy).1
    rwa [AV.fits_length (h.2.1 x (List.mem_of_getElem? hx))] at this
  have hlt : i * sz + j < us.size := by rw [h.1]; exact idx_lt hi hj
  refine ⟨us[i * sz + j], by rw [Array.getElem?_append_left hlt]; simp [hlt], ?_⟩
  obtain ⟨h1, h2⟩ := h.2.2 i j x y us[i * sz + j] hx hy (by simp [hlt])
  exact ⟨h1, h2.mono hμ (fun _ h => h) (alloc_keep hR _)⟩

/-- The same, of data, for good. -/
theorem Ew.frozen {H : Heap} (hR : Rel μ F w H) {sz n : Nat} {es : List AV} {ds : List DV} {us : Array Value} (h : Ew μ F w sz es us) (hd : toDL es = some ds) (hn : n = es.length)
    (e : TypeId) : RepD (fun b => F b ∨ b = w.heap.size) (w.alloc (.cells us e)) (.vs ds) (.slice (some ⟨w.heap.size, 0, none⟩) n n) := by
  refine frozen_row (μ := μ) (.inr rfl) hd hn (Nat.le_refl _) h.2.1 (fun i j x y hx hy => ?_)
  have hi : i < es.length := (List.getElem?_eq_some_iff.1 hx).1
  have hj : j < sz := by
    have := (List.getElem?_eq_some_iff.1 hy).1
    rwa [AV.fits_length (h.2.1 x (List.mem_of_getElem? hx))] at this
  have hlt : i * sz + j < us.size := by rw [h.1]; exact idx_lt hi hj
  refine ⟨us[i * sz + j], by simp [hlt], ?_⟩
  exact (h.2.2 i j x y us[i * sz + j] hx hy (by simp [hlt])).2.mono (fun _ _ h => h) (fun _ h => .inl h) (alloc_keep hR _)

theorem litE_length : ∀ (ps : List (Nat × AV)) (es : List AV), (litE es ps).length = es.length
  | [], _ => rfl
  | (i, v) :: r, es => by simp [litE, litE_length r]

theorem lit_sound (o : Oper) (n : Nat) (ps : Array (Nat × Operand)) (ho : o.op = .buildSlice t n ps) {e : TypeId} (he : elemT P t = some e) {sz : Nat} (hs : sizeT P e = some sz)
    {z : AV} (hz : zeroT P e = some z) (hb : n * sz ≤ 16777216 ∧ sz ≠ 0) {res : Operand → Option Arg} {ρ : Arg → AV} (hρ : ∀ x b, res x = some b → RepA μ F w (ρ b) (a.eval x))
    {parts : List (Nat × Arg)} (hp : elemParts res ps.toList = some parts) (keep : Bool) {H : Heap} (hR : Rel μ F w H)
    (hob : (litV fresh sz z n (parts.map fun p => (p.1, ρ p.2)) keep).ob) : NOut P μ F w o a fresh (litV fresh sz z n (parts.map fun p => (p.1, ρ p.2)) keep) := by
  obtain ⟨i, v, hi, hv, hk⟩ := zeroT_some hz
  have hob' : litOb n sz (parts.map fun p => (p.1, ρ p.2)) ∧ z.fits sz = true := by
    unfold litV at hob
    split at hob
    · exact hob
    · split at hob <;> exact hob
  obtain ⟨hl, hpp⟩ := elemParts_some hp
  have hzr : RepA μ F w z v := kVal_rep hk
  obtain ⟨hvs, _⟩ := hzr.cells hob'.2
  obtain ⟨us, hus, hE⟩ := fillE_sound (μ := μ) (F := F) (w := w) (sz := sz) (ps.toList.map fun p => (p.1, a.eval p.2)) (parts.map fun p => (p.1, ρ p.2)) (List.replicate n z)
    ((Array.range (n * sz)).map (v.cells[· % v.cells.size]!)) (by simp [hl])
    (fun i p q hp' hq' => by
      simp only [List.getElem?_map, Option.map_eq_some_iff] at hp' hq'
      obtain ⟨p0, hp0, rfl⟩ := hp'
      obtain ⟨q0, hq0, rfl⟩ := hq'
      obtain ⟨h1, h2⟩ := hpp i p0 q0 hp0 hq0
      exact ⟨h1, hρ _ _ h2⟩) (by simpa using hob'.1) (Ew.zeros hzr hob'.2 hb.2 n)
  have hlen : (litE (List.replicate n z) (parts.map fun p => (p.1, ρ p.2))).length = n := by simp [litE_length]
  have hrun : (execOp a.eval o).run P w = .ok (.value (.slice (some ⟨w.heap.size, 0, none⟩) n n)) (w.alloc (.cells us e)) := by
    have hnot : ¬ (16777216 < n * sz) := by omega
    have hmap : (ps.map fun p => (p.1, a.eval p.2)).toList = ps.toList.map fun p => (p.1, a.eval p.2) := by simp
    by_cases h0 : n * sz = 0
    · have hus' : Instr.fill (fun i => some (i * sz, sz)) ((Array.range (n * sz)).map ((#[] : Array Value)[· % (#[] : Array Value).size]!)) (ps.toList.map fun p => (p.1, a.eval p.2)) = some us := by
        have e1 : (Array.range (n * sz)).map ((#[] : Array Value)[· % (#[] : Array Value).size]!) = (Array.range (n * sz)).map (v.cells[· % v.cells.size]!) := by rw [h0]; simp
        rw [e1]; exact hus
      simp only [execOp, ho, Instr.buildSlice, Sem.run_bind, run_underlying (elemT_some he), Result.andThen_ok, run_sizeT hs, Sem.run_ite, if_neg hnot, if_pos h0, Sem.run_pure]
      rw [show (Array.map (fun x => match x with | (i, x) => (i, a.eval x)) ps).toList = ps.toList.map fun p => (p.1, a.eval p.2) from hmap, hus']
      simp [newRow]
    · simp only [execOp, ho, Instr.buildSlice, Sem.run_bind, run_underlying (elemT_some he), Result.andThen_ok, run_sizeT hs, Sem.run_ite, if_neg hnot, if_neg h0, Sem.run_pure, run_zeroV hi hv]
      rw [show (Array.map (fun x => match x with | (i, x) => (i, a.eval x)) ps).toList = ps.toList.map fun p => (p.1, a.eval p.2) from hmap, hus]
      simp [newRow]
  have hobj : ∀ ob, NOut P μ F w o a fresh ⟨ob, .hs fresh 0 n sz, .obj (.arr sz (litE (List.replicate n z) (parts.map fun p => (p.1, ρ p.2))))⟩ := by
    intro ob
    refine ⟨_, _, ⟨w.heap.size, 0, sz, n⟩, hrun, rfl, fun μ' hμ hm => ⟨?_, ?_⟩⟩
    · have := RepA.hs (μ := μ') (F := F) (w := w.alloc (.cells us e)) fresh 0 n sz _ n hm rfl (Nat.le_refl _) (by simp)
      simpa using this
    · have := hE.obj hR (cap := n) (rest := #[]) (by rw [hlen]; exact Nat.le_refl _) (by simp; rw [hE.1, hlen]; exact Nat.le_refl _) e μ' hμ
      rw [Array.append_empty] at this
      exact this
  unfold litV
  split
  · exact hobj _
  · split
    · rename_i ds hd
      exact ⟨_, _, hrun, .d _ _ (hE.frozen hR hd hlen.symm e)⟩
    · exact hobj _

theorem mkSlice_sound (o : Oper) (x y : Operand) (ho : o.op = .makeSlice t x y) {e : TypeId} (he : elemT P t = some e) {sz b : Nat} (hs : sizeT P e = some sz) (hb : bytesT P e = some b)
    {z : AV} (hz : zeroT P e = some z) (hsz : sz ≠ 0) {H : Heap} (hR : Rel μ F w H) {vx vy : AV} (hx : RepA μ F w vx (a.eval x)) (hy : RepA μ F w vy (a.eval y))
    (hob : (mkSliceV fresh sz b z vx vy).ob) : NOut P μ F w o a fresh (mkSliceV fresh sz b z vx vy) := by
  obtain ⟨i, v, hi, hv, hk⟩ := zeroT_some hz
  unfold mkSliceV at hob ⊢
  split at hob
  · rename_i k1 n k2 c
    obtain ⟨h0, hnc, hby, hc63, hzf⟩ := hob
    have hzr : RepA μ F w z v := kVal_rep hk
    have e1 := hx.inv_d.inv_int
    have e2 := hy.inv_d.inv_int
    have his : i.size = sz := by unfold sizeT at hs; simp [hi] at hs; exact hs
    have hib : i.bytes = b := by unfold bytesT at hb; simp [hi] at hb; exact hb
    have hrun := run_make (P := P) w t e i v (elemT_some he) hi hv k1 k2 n c h0 hnc (by rw [hib, Int.mul_comm]; omega) (by omega)
    rw [his] at hrun
    have hE := Ew.zeros hzr hzf hsz c.toNat
    have hE' : Ew μ F w sz (List.replicate c.toNat z) (madeCells v.cells (c.toNat * sz)) := hE
    refine ⟨.slice (some ⟨w.heap.size, 0, none⟩) n.toNat c.toNat, .cells (madeCells v.cells (c.toNat * sz)) e, ⟨w.heap.size, 0, sz, c.toNat⟩, ?_, rfl, fun μ' hμ hm => ⟨?_, ?_⟩⟩
    · simp [execOp, ho, e1, e2, hrun]
    · have := RepA.hs (μ := μ') (F := F) (w := w.alloc (.cells (madeCells v.cells (c.toNat * sz)) e)) fresh 0 n.toNat sz _ c.toNat hm rfl (by omega) (by simp)
      simpa using this
    · have h2 := hE'.obj hR (cap := c.toNat) (rest := #[]) (by simp) (by simp; rw [hE'.1]; simp) e μ' hμ
      simp only [Array.append_empty] at h2
      refine ⟨h2.hsz, by simp; omega, fun x hx => by rw [List.eq_of_mem_replicate hx]; exact hzf, h2.blk, fun i j x' y' hx' hy' => h2.rep i j x' y' ?_ hy'⟩
      have hi' : i < n.toNat := by
        have := (List.getElem?_eq_some_iff.1 hx').1; simpa using this
      rw [List.getElem?_replicate, if_pos hi'] at hx'
      rw [List.getElem?_replicate, if_pos (by omega)]; exact hx'
  · exact hob.elim

theorem mkMap_sound (o : Oper) (ho : o.op = .makeMap t none) (ks : KS) (ob : Prop) : NOut P μ F w o a fresh ⟨ob, .mp fresh, .obj (.map ks [])⟩ := by
  refine ⟨.map (some w.heap.size), .map #[] 0, ⟨w.heap.size, 0, 0, 0⟩, ?_, rfl, fun μ' hμ hm => ⟨.mp fresh _ hm, ?_⟩⟩
  · simp [execOp, ho, Instr.makeMap]
  · exact ⟨by simp, #[], 0, heap_alloc_new w _, rfl, by simp, by simp, by simp⟩

theorem mkFunc_sound (o : Oper) (f : FuncId) (first caps : Array Operand) (ho : o.op = .makeFunc (.func f) first caps) (hf : first.size = 0) {res : Operand → Option Arg} {ρ : Arg → AV}
    (hρ : ∀ x b, res x = some b → RepA μ F w (ρ b) (a.eval x)) {as : List Arg} (ha : resAll res caps.toList = some as) : NOut P μ F w o a fresh (mkFuncV f (as.map ρ)) := by
  obtain ⟨h1, h2⟩ := resAll_some ha
  have hfe : first = #[] := by simpa using hf
  have hr : (execOp a.eval o).run P w = .ok (.value (.func (.func f) #[] (caps.map a.eval))) w := by
    simp [execOp, ho, Instr.makeFunc, hfe]
  have hcl : ∀ (i : Nat) (x : AV) (u : Value), (as.map ρ)[i]? = some x → (caps.map a.eval)[i]? = some u → RepA μ F w x u := by
    intro i x u hx hu
    simp only [List.getElem?_map, Option.map_eq_some_iff] at hx
    simp only [Array.getElem?_map, Option.map_eq_some_iff] at hu
    obtain ⟨b, hb, rfl⟩ := hx
    obtain ⟨c, hc, rfl⟩ := hu
    exact hρ _ _ (h2 i c b (by simpa using hc) hb)
  cases as with
  | nil =>
    have : caps = #[] := by
      have : caps.toList = [] := List.length_eq_zero_iff.1 (by simpa using h1.symm)
      simpa using this
    subst this
    exact NOut.none rfl (u := .func (.func f) #[] #[]) (by simpa using hr) (.d _ _ (.fn f))
  | cons b bs => exact NOut.none rfl hr (.clo f _ _ (by simpa using h1.symm) hcl)

end
end Go.Vm
/- Slices of slices, indexes, look-ups, lengths, and the rest. -/
namespace Go.Vm
open Go
variable [Gl]

section
variable {P : Program} {μ : Locs} {F : Nat → Prop} {w : World} {a : Act} {fresh : Nat} {t : TypeId}

theorem run_bound_in (k : IntKind) (i : Int) (y : Nat) (code : BoundsCode) (h0 : 0 ≤ i) (h1 : i ≤ y) : (Instr.sliceBound (.int k i) y code).run P w = .ok i.toNat w := by
  simp [Instr.sliceBound, asIntOf, h0, h1]

theorem intOf?_val {x : Option AV} {d : Int} {l : Int} (h : intOf? x (some d) = some l) : (x = none ∧ l = d) ∨ ∃ k, x = some (.d (.int k l)) := by
  unfold intOf? at h
  split at h
  · cases h; exact .inl ⟨rfl, rfl⟩
  · cases h; exact .inr ⟨_, rfl⟩
  · cases h

/-- The bounds of a slice expression. -/
theorem run_bounds {isSl : Bool} {len cap : Nat} {lo hi : Option Operand} {vlo vhi : Option AV} {l h : Int}
    (hlo : ∀ v, vlo = some v → ∃ x, lo = some x ∧ RepA μ F w v (a.eval x)) (hhi : ∀ v, vhi = some v → ∃ x, hi = some x ∧ RepA μ F w v (a.eval x))
    (nlo : vlo = none → lo = none) (nhi : vhi = none → hi = none)
    (e1 : intOf? vlo (some 0) = some l) (e2 : intOf? vhi (some len) = some h) (h0 : 0 ≤ l) (h1 : l ≤ h) (h2 : h ≤ len) (hc : len ≤ cap) :
    (Instr.sliceBounds isSl len cap (lo.map a.eval) (hi.map a.eval) none).run P w = .ok (l.toNat, h.toNat, cap) w := by
  rcases intOf?_val e1 with ⟨n1, rfl⟩ | ⟨k1, n1⟩
  · have := nlo n1; subst this
    rcases intOf?_val e2 with ⟨n2, rfl⟩ | ⟨k2, n2⟩
    · have := nhi n2; subst this
      simp [Instr.sliceBounds]
    · obtain ⟨x, rfl, hx⟩ := hhi _ n2
      have ex := hx.inv_d.inv_int
      simp [Instr.sliceBounds, ex, run_bound_in (P := P) (w := w) k2 h cap _ (by omega) (by omega)]
  · obtain ⟨y, rfl, hy⟩ := hlo _ n1
    have ey := hy.inv_d.inv_int
    rcases intOf?_val e2 with ⟨n2, rfl⟩ | ⟨k2, n2⟩
    · have := nhi n2; subst this
      simp [Instr.sliceBounds, ey, run_bound_in (P := P) (w := w) k1 l len _ h0 h1]
    · obtain ⟨x, rfl, hx⟩ := hhi _ n2
      have ex := hx.inv_d.inv_int
      simp [Instr.sliceBounds, ex, ey, run_bound_in (P := P) (w := w) k2 h cap _ (by omega) (by omega), run_bound_in (P := P) (w := w) k1 l h.toNat _ h0 (by omega)]

theorem drop_take_get {α : Type} (xs : List α) (l n i : Nat) : ((xs.drop l).take n)[i]? = if i < n then xs[l + i]? else none := by
  rw [List.getElem?_take, List.getElem?_drop]

theorem slice_sound (o : Oper) (x : Operand) (lo hi : Option Operand) (ho : o.op = .slice t x lo hi none) {sz : Nat}
    (ht : (∃ e, P.underlying t = some (.slice e) ∧ sizeT P e = some sz ∧ sz ≠ 0) ∨ (P.underlying t = some .string ∧ sz = 0)) {vx : AV} (hx : RepA μ F w vx (a.eval x)) {vlo vhi : Option AV}
    (hlo : ∀ v, vlo = some v → ∃ x, lo = some x ∧ RepA μ F w v (a.eval x)) (hhi : ∀ v, vhi = some v → ∃ x, hi = some x ∧ RepA μ F w v (a.eval x))
    (nlo : vlo = none → lo = none) (nhi : vhi = none → hi = none) (hob : (sliceV sz vlo vhi vx).ob) : NOut P μ F w o a fresh (sliceV sz vlo vhi vx) := by
  unfold sliceV at hob ⊢
  split at hob
  · rename_i xs
    split at hob
    · rename_i l h e1 e2
      obtain ⟨h0, h1, h2, hsz0, hfit⟩ := hob
      rcases ht with ⟨e, ht, hs, _⟩ | ⟨_, rfl⟩
      case inr => exact absurd rfl hsz0
      have hd := hx.inv_d
      generalize hu : a.eval x = u at hd
      cases hd with
      | vs _ ad n c sz' f hn hc hsz ha hcell hrep =>
        have hb := run_bounds (P := P) (isSl := true) (cap := c) hlo hhi nlo nhi e1 e2 h0 h1 h2 (by omega)
        refine NOut.none rfl (u := .slice (if c = l.toNat then ad else ad.map (·.add (l.toNat * sz))) (h.toNat - l.toNat) (c - l.toNat)) ?_ (.d _ _ ?_)
        · simp [execOp, ho, hu, Instr.sliceAt, Instr.slice, run_underlying ht, hn, hb, run_sizeT hs]
        · have hlen : ((xs.drop l.toNat).take (h.toNat - l.toNat)).length = h.toNat - l.toNat := by simp; omega
          refine .vs _ _ _ _ sz (fun i j => f (l.toNat + i) j) hlen.symm (by omega) (fun y hy => hfit y (List.mem_of_mem_drop (List.mem_of_mem_take hy))) (fun hne => ?_) (fun ad' had i j y z hy hz => ?_) (fun i j y z hy hz => ?_)
          · have hxs : xs ≠ [] := fun e => by simp [e] at hne
            obtain ⟨ad0, h3, h4, h5⟩ := ha hxs
            subst h3
            split
            · exact ⟨ad0, rfl, h4, h5⟩
            · refine ⟨ad0.add (l.toNat * sz), rfl, ?_, ?_⟩
              · unfold Addr.add; split <;> exact h4
              · unfold Addr.add; split
                · exact h5
                · rfl
          · rw [drop_take_get] at hy
            split at hy
            · rename_i hi'
              have hxs : xs ≠ [] := fun e => by simp [e] at hy
              obtain ⟨ad0, h3, h4, h5⟩ := ha hxs
              subst h3
              have hmem := List.mem_of_getElem? hy
              have hszz : sz' = sz := by
                have := AV.fits_length (x := .d y) (by simpa [AV.fits] using hsz y hmem)
                have h6 := AV.fits_length (x := .d y) (by simpa [AV.fits] using hfit y hmem)
                omega
              have hne : c ≠ l.toNat := by
                have := (List.getElem?_eq_some_iff.1 hy).1
                omega
              rw [if_neg hne] at had
              obtain rfl := Option.some.inj had
              have h7 := hcell ad0 rfl (l.toNat + i) j y z hy hz
              rw [hszz] at h7
              rw [← h7]
              show w.cell? ⟨(ad0.add (l.toNat * sz)).block, (ad0.add (l.toNat * sz)).off + (i * sz + j), none⟩ = _
              have h8 : ad0.add (l.toNat * sz) = ⟨ad0.block, ad0.off + l.toNat * sz, none⟩ := by
                obtain ⟨b0, o0, s0⟩ := ad0
                simp only at h5
                subst h5
                exact addr_add b0 o0 _
              rw [h8]
              congr 2
              simp only [Nat.add_mul]; omega
            · cases hy
          · rw [drop_take_get] at hy
            split at hy
            · exact hrep _ j y z hy hz
            · cases hy
    · exact hob.elim
  · rename_i id off len sz'
    split at hob
    · rename_i l h e1 e2
      obtain ⟨h0, h1, h2, rfl, hsz0⟩ := hob
      rcases ht with ⟨e, ht, hs, _⟩ | ⟨_, rfl⟩
      case inr => exact absurd rfl hsz0
      generalize hu : a.eval x = u at hx
      cases hx with
      | hs _ _ _ _ lc c hm hlsz hl hc =>
        have hb := run_bounds (P := P) (isSl := true) (cap := c) hlo hhi nlo nhi e1 e2 h0 h1 h2 hl
        refine NOut.none rfl (u := .slice (if c = l.toNat then some ⟨lc.blk, lc.off + off * sz', none⟩ else some ((⟨lc.blk, lc.off + off * sz', none⟩ : Addr).add (l.toNat * sz'))) (h.toNat - l.toNat) (c - l.toNat)) ?_ ?_
        · simp [execOp, ho, hu, Instr.sliceAt, Instr.slice, run_underlying ht, hb, run_sizeT hs]
        · by_cases hcl : c = l.toNat
          · have hz : h.toNat - l.toNat = 0 := by omega
            rw [if_pos hcl, hz, hcl, Nat.sub_self]
            exact .hs0 _ _ _ _
          · rw [if_neg hcl, addr_add]
            have := RepA.hs (μ := μ) (F := F) (w := w) id (off + l.toNat) (h.toNat - l.toNat) sz' lc (c - l.toNat) hm hlsz (by omega) (by omega)
            rw [Nat.add_mul, ← Nat.add_assoc] at this
            exact this
      | hs0 _ _ _ ad =>
        have hb := run_bounds (P := P) (isSl := true) (len := 0) (cap := 0) hlo hhi nlo nhi e1 e2 h0 h1 h2 (Nat.le_refl _)
        have hl0 : l.toNat = 0 := by omega
        have hh0 : h.toNat = 0 := by omega
        rw [hl0, hh0] at hb ⊢
        refine NOut.none rfl (u := .slice ad 0 0) ?_ (.hs0 _ _ _ _)
        simp [execOp, ho, hu, Instr.sliceAt, Instr.slice, run_underlying ht, hb, run_sizeT hs]
    · exact hob.elim
  · rename_i s
    split at hob
    · rename_i l h e1 e2
      obtain ⟨h0, h1, h2, rfl⟩ := hob
      have hu := hx.inv_d.inv_str
      rcases ht with ⟨e, ht, hs, hne⟩ | ⟨ht, _⟩
      · exact absurd rfl hne
      · have hb := run_bounds (P := P) (isSl := false) (len := s.length) (cap := s.length) hlo hhi nlo nhi e1 e2 h0 h1 h2 (Nat.le_refl _)
        refine NOut.none rfl (u := .string ((⟨s.toArray⟩ : ByteArray).extract l.toNat h.toNat)) ?_ (.d _ _ ?_)
        · have e : (⟨s.toArray⟩ : ByteArray).size = s.length := rfl
          simp [execOp, ho, hu, Instr.sliceAt, Instr.slice, run_underlying ht, e, hb]
        · have : (⟨s.toArray⟩ : ByteArray).extract l.toNat h.toNat = ⟨((s.drop l.toNat).take (h.toNat - l.toNat)).toArray⟩ := by
            apply ByteArray.ext
            simp [List.extract_eq_take_drop]
          rw [this]; exact .str _
    · exact hob.elim
  · exact hob.elim

end
end Go.Vm
