/- A range over a map that nobody writes any more: in whatever order. -/
import Derived.Test.YtibpfnjbgojfoaaDoorV4
set_option linter.all false
namespace Go.Vm
open Go
variable [Gl]

def wpRange (H : Heap) (x : AV) (K : AV → Heap → Prop) : Prop := match x with
  | .d (.fm as bs) => K (.it H.length) (H ++ [some (.iter none (as.zip bs))])
  | _ => False
def wpNext (H : Heap) (x : AV) (K : AV → Heap → Prop) : Prop := match x with
  | .it id => match H.ob id with
    | some (.iter _ left) => (left = [] → K (.tup [.d (.bool false)]) H) ∧
        ∀ (j : Nat) (k v : DV), left[j]? = some (k, v) → K (.tup [.d (.bool true), .d k, .d v]) (H.set id (some (.iter (some (k, v)) (left.eraseIdx j))))
    | _ => False
  | _ => False
def wpEntry (H : Heap) (x : AV) (K : AV → Heap → Prop) : Prop := match x with
  | .it id => match H.ob id with
    | some (.iter (some (k, v)) _) => K (.tup [.d k, .d v]) H
    | _ => False
  | _ => False

theorem filter_erase : ∀ (M : List MapEntry) (c : Nat) (e : MapEntry), (M.map (·.born)).Nodup → M[c]? = some e → M.filter (fun x => x.born != e.born) = M.eraseIdx c
  | [], _, _, _, h => by simp at h
  | x :: M, 0, e, hn, h => by
    simp at h; subst h
    simp only [List.map_cons, List.nodup_cons, List.mem_map, not_exists, not_and] at hn
    simp only [List.eraseIdx_zero, List.tail_cons, List.filter_cons, bne_self_eq_false, Bool.false_eq_true, if_false]
    refine List.filter_eq_self.2 fun y hy => ?_
    simpa using hn.1 y hy
  | x :: M, c + 1, e, hn, h => by
    simp only [List.getElem?_cons_succ] at h
    simp only [List.map_cons, List.nodup_cons, List.mem_map, not_exists, not_and] at hn
    have hx : x.born ≠ e.born := fun hb => hn.1 e (List.mem_of_getElem? h) hb.symm
    simp only [List.eraseIdx_cons_succ, List.filter_cons]
    rw [if_pos (by simpa using hx), filter_erase M c e hn.2 h]

section
variable {P : Program} {μ : Locs} {F : Nat → Prop} {w w' : World} {H : Heap} {a : Act} {t : TypeId} {K : AV → Heap → Prop}

theorem range_sound (o : Oper) (x : Operand) (ho : o.op = .range t x) {kt e : TypeId} (ht : P.underlying t = some (.map kt e)) (hR : Rel μ F w H) {vx : AV} (hx : RepA μ F w vx (a.eval x)) (h : wpRange H vx K) : EOut P o a μ F w H K := by
  unfold wpRange at h
  split at h
  · rename_i as bs
    have hxD := hx.inv_d
    generalize hu : a.eval x = u at hxD
    cases hxD with
    | fm _ _ b ents clock hF hb h1 h2 hk hv hborn hinj =>
      have hg : (getObj b).run P w = .ok (.map ents clock) w := by simp [getObj, Sem.run, hb]
      have hbl : b < w.heap.size := hR.Flt b hF
      have hrun : (execOp a.eval o).run P w = .ok (.value (.pointer (some ⟨w.heap.size, 0, none⟩))) (w.alloc (.mapIter (some b) clock #[] clock)) := by
        simp [execOp, ho, hu, Instr.range, run_underlying ht, hg]
      have hn : μ H.length = none := hR.fresh (Nat.le_refl _)
      have hk' : (w.alloc (.mapIter (some b) clock #[] clock)).heap[b]? = w.heap[b]? := RowKit.Below.heap_alloc w _ b hbl
      have hkF : ∀ g, F g → (w.alloc (.mapIter (some b) clock #[] clock)).heap[g]? = w.heap[g]? := fun g hg => RowKit.Below.heap_alloc w _ g (hR.Flt g hg)
      refine EOut.value hrun h (.it _ ⟨w.heap.size, 0, 0, 0⟩ (upd_same _ _ _)) (hR.new rfl ?_)
      have hall : ents.toList.filter (fun e => !(#[] : Array Nat).contains e.born) = ents.toList := List.filter_eq_self.2 fun y hy => by simp
      refine ⟨b, clock, #[], ents, heap_alloc_new w _, hF, by rw [hk']; exact hb, hborn, ?_, ?_, ?_, by simp⟩
      · rw [List.Nodup, List.pairwise_iff_getElem]
        intro i j hi hj hij he
        simp only [List.length_map, Array.length_toList] at hi hj
        simp only [List.getElem_map, Array.getElem_toList] at he
        have := hinj i j ents[i] ents[j] (by simp [hi]) (by simp [hj]) he
        omega
      · rw [hall]; simp; omega
      · intro j x e hx he
        rw [hall] at he
        rw [List.getElem?_zip_eq_some] at hx
        have he' : ents[j]? = some e := by simpa using he
        exact ⟨(hk j x.1 e hx.1 he').mono (fun _ h => h) hkF, (hv j x.2 e hx.2 he').mono (fun _ h => h) hkF⟩
  · exact h.elim

theorem next_sound (o : Oper) (x : Operand) (ho : o.op = .next x false) (hR : Rel μ F w H) {vx : AV} (hx : RepA μ F w vx (a.eval x)) (h : wpNext H vx K) : EOut P o a μ F w H K := by
  unfold wpNext at h
  split at h
  · rename_i id
    split at h
    · rename_i cur left hG
      obtain ⟨h0, h1⟩ := h
      have hH := Heap.ob_some hG
      generalize hu : a.eval x = u at hx
      cases hx with
      | it _ l hm =>
        obtain ⟨b, clock, seen, ents, hb1, hF, hb2, hborn, hnd, hlen, hrep, _⟩ := hR.ob id l _ hm hH
        have hg1 : (getObj l.blk).run P w = .ok (.mapIter (some b) clock seen clock) w := by simp [getObj, Sem.run, hb1]
        have hg2 : (getObj b).run P w = .ok (.map ents clock) w := by simp [getObj, Sem.run, hb2]
        have hlt : ∀ e ∈ ents.toList, e.born < clock := fun e he => by
          obtain ⟨i, hi⟩ := List.getElem?_of_mem he
          exact hborn i e (by simpa using hi)
        have hgd : (!seen.isEmpty && !ents.isEmpty && ents.all (fun e => decide (e.born ≥ clock))) = false := by
          by_cases he : ents.isEmpty = true
          · simp [he]
          · have hs : 0 < ents.size := by
              rcases Nat.eq_zero_or_pos ents.size with h | h
              · exact absurd (by simpa [Array.isEmpty] using h) he
              · exact h
            have : ents.all (fun e => decide (e.born ≥ clock)) = false := by
              rw [Array.all_eq_false]
              refine ⟨0, hs, ?_⟩
              have := hlt ents[0] (by simp)
              simp; omega
            simp [this]
        generalize hM : ents.filter (fun e => !seen.contains e.born) = M
        have hML : M.toList = ents.toList.filter (fun e => !seen.contains e.born) := by rw [← hM]; simp
        rw [← hML] at hlen hrep
        have hMlt : ∀ e ∈ M, e.born < clock := fun e he => hlt e (by
          have : e ∈ M.toList := by simpa using he
          rw [hML] at this
          exact (List.mem_filter.1 this).1)
        have hold : M.filter (fun e => decide (e.born < clock)) = M := by
          rw [Array.filter_eq_self]
          intro e he; simpa using hMlt e he
        have hnew : M.filter (fun e => decide (e.born ≥ clock)) = #[] := by
          rw [Array.filter_eq_empty_iff]
          intro e he; have := hMlt e he; simp; omega
        have hgo : (1 = 1 → ents.filter (fun e => !seen.contains e.born) = M) → (execOp a.eval o).run P w = (do
            let candidates := (if (M.filter fun e => decide (e.born < clock)).isEmpty then #[none] else #[]) ++ ((M.filter fun e => decide (e.born < clock)) ++ (M.filter fun e => decide (e.born ≥ clock))).map some
            match candidates[← choose (.mapNext candidates.size)]? with
            | some (some e) =>
              setObj l.blk (.mapIter (some b) clock (seen.push e.born) clock)
              pure (Next.value (.tuple #[.bool true, e.key, e.val]))
            | some none => pure (Next.value (.tuple #[.bool false]))
            | none => stuck "Next: no such candidate" : Sem Next).run P w := by
          intro hM
          rw [← hM rfl]
          simp only [execOp, ho, hu, Instr.next, Sem.run_bind, hg1, hg2, Result.andThen_ok, hgd]
          rw [if_neg (by simp)]
          simp only [Sem.run_bind]
          generalize Sem.run P (choose (Question.mapNext _)) w = R
          cases R with
          | halt h w' => rfl
          | ok i w' =>
            simp only [Result.andThen_ok]
            split
            · rename_i hq
              simp only [hq, Sem.run_bind]
              generalize Sem.run P (setObj _ _) w' = R
              cases R <;> rfl
            · rename_i hq
              simp only [hq]; rfl
            · rename_i hq
              simp only [hq]; rfl
        by_cases hne : left = []
        · have hM0 : M = #[] := by
            have : M.toList.length = 0 := by rw [hlen, hne]; rfl
            simpa using this
          subst hM0
          have hrun : (execOp a.eval o).run P w = .ok (.value (.tuple #[.bool false])) w := by
            have := hgo (fun _ => hM)
            rw [this]
            simp only [hold, hnew]
            simp [Question.forced]
          refine EOut.value hrun (h0 hne) (.tup _ _ rfl fun i x u hx hu => ?_) (Post.refl hR)
          cases i with
          | zero => simp at hx hu; subst hx; subst hu; exact .d _ _ (.bool _)
          | succ i => simp at hx
        · have hMs : 0 < M.size := by
            have : M.toList.length ≠ 0 := by rw [hlen]; simpa using hne
            simp at this; exact Nat.pos_of_ne_zero (by simpa using this)
          have hMe : M.isEmpty = false := by
            cases h : M.isEmpty with
            | false => rfl
            | true => simp only [Array.isEmpty, decide_eq_true_eq] at h; omega
          -- whatever is drawn
          have key : ∀ (c : Nat) (w2 : World) (hc : c < M.size), (w2 = w ∨ w2 = w.drew) → (execOp a.eval o).run P w = .ok (.value (.tuple #[.bool true, M[c].key, M[c].val])) { w2 with heap := w2.heap.setIfInBounds l.blk (.mapIter (some b) clock (seen.push M[c].born) clock) } → EOut P o a μ F w H K := by
            intro c w2 hc hw2 hrun
            have hcl : c < left.length := by rw [← hlen]; simpa using hc
            have hce : left[c]? = some (left[c].1, left[c].2) := by simp [hcl]
            have hMc : M.toList[c]? = some M[c] := by simp [hc]
            have hrc := hrep c left[c] M[c] (by simp [hcl]) hMc
            have hP2 : Post μ F w H μ F w2 H := by
              rcases hw2 with rfl | rfl
              · exact Post.refl hR
              · exact hR.drew
            have hheap : w2.heap = w.heap := by rcases hw2 with rfl | rfl <;> rfl
            have hnb : b ≠ l.blk := fun e => hR.nF id l _ hm hH (e ▸ hF)
            have hbl : l.blk < w.heap.size := hR.lt id l hm
            have hkk : ∀ g, g ≠ l.blk → ({ w2 with heap := w2.heap.setIfInBounds l.blk (.mapIter (some b) clock (seen.push M[c].born) clock) } : World).heap[g]? = w.heap[g]? := by
              intro g hg
              show (w2.heap.setIfInBounds l.blk _)[g]? = _
              rw [hheap, Array.getElem?_setIfInBounds_ne (fun e => hg e.symm)]
            have hkF : ∀ g, F g → ({ w2 with heap := w2.heap.setIfInBounds l.blk (.mapIter (some b) clock (seen.push M[c].born) clock) } : World).heap[g]? = w.heap[g]? := fun g hg => hkk g (fun e => hR.nF id l _ hm hH (e ▸ hg))
            have hwos : w2.os = w.os ∧ w2.tape = w.tape ∧ (w2.output = w.output ∧ w.drawn ≤ w2.drawn) := by
              rcases hw2 with e | e
              · rw [e]; exact ⟨rfl, rfl, rfl, Nat.le_refl _⟩
              · rw [e]; exact ⟨rfl, rfl, rfl, Nat.le_succ _⟩
            have hnM : (M.toList.map (·.born)).Nodup := by
              rw [hML]
              exact (List.filter_sublist.map _).nodup hnd
            have hfil : ents.toList.filter (fun e => !(seen.push M[c].born).contains e.born) = M.toList.eraseIdx c := by
              rw [← filter_erase M.toList c M[c] hnM hMc, hML, List.filter_filter]
              congr 1
              funext e
              simp only [Array.contains_push]
              by_cases he : e.born = M[c].born
              · simp [he]
              · have : (e.born == M[c].born) = false := by simpa using he
                simp [bne, this]
            refine EOut.value hrun (h1 c left[c].1 left[c].2 hce) ?_ (hR.write hm ⟨_, hH⟩ (by show (w2.heap.setIfInBounds l.blk _).size = _; rw [hheap]; simp) hwos.1 hwos.2.1 hwos.2.2 hkk ⟨b, clock, seen.push M[c].born, ents, ?_, hF, ?_, hborn, hnd, ?_, ?_, fun x hx => ?_⟩)
            · refine .tup _ _ rfl fun i x u hx hu => ?_
              match i with
              | 0 => simp at hx hu; subst hx; subst hu; exact .d _ _ (.bool _)
              | 1 => simp at hx hu; subst hx; subst hu; exact .d _ _ (hrc.1.mono (fun _ h => h) hkF)
              | 2 => simp at hx hu; subst hx; subst hu; exact .d _ _ (hrc.2.mono (fun _ h => h) hkF)
              | i + 3 => simp at hx
            · show (w2.heap.setIfInBounds l.blk _)[l.blk]? = _
              rw [hheap]; simp [hbl]
            · rw [hkF b hF]; exact hb2
            · rw [hfil, List.length_eraseIdx, List.length_eraseIdx, hlen]
            · intro j x e hx he
              rw [hfil] at he
              rw [List.getElem?_eraseIdx] at hx he
              by_cases hj : j < c
              · rw [if_pos hj] at hx he
                have := hrep j x e hx he
                exact ⟨this.1.mono (fun _ h => h) hkF, this.2.mono (fun _ h => h) hkF⟩
              · rw [if_neg hj] at hx he
                have := hrep (j + 1) x e hx he
                exact ⟨this.1.mono (fun _ h => h) hkF, this.2.mono (fun _ h => h) hkF⟩
            · cases hx
              have hmem : M[c] ∈ ents.toList := by
                have : M[c] ∈ M.toList := List.mem_of_getElem? hMc
                rw [hML] at this
                exact (List.mem_filter.1 this).1
              exact ⟨M[c], hmem, by simp, hrc.1.mono (fun _ h => h) hkF, hrc.2.mono (fun _ h => h) hkF⟩
          have hset : ∀ (w2 : World) (e : MapEntry), w2.heap = w.heap → (setObj l.blk (.mapIter (some b) clock (seen.push e.born) clock)).run P w2 = .ok () { w2 with heap := w2.heap.setIfInBounds l.blk (.mapIter (some b) clock (seen.push e.born) clock) } := by
            intro w2 e he
            simp [setObj, Sem.run, he, hb1]
          by_cases hfo : M.size ≤ 1
          · refine key 0 w hMs (.inl rfl) ?_
            have := hset w M[0] rfl
            have hl1 : (M.map some)[0]? = some (some M[0]) := by simp [hMs]
            rw [hgo (fun _ => hM)]
            simp only [hold, hnew, hMe]
            simp [Question.forced, hfo, hMs, this]
          · have hcut : (Question.mapNext M.size).cut (w.tape w.drawn (Question.mapNext M.size)) < M.size := Nat.mod_lt _ hMs
            refine key _ w.drew hcut (.inr rfl) ?_
            have := hset w.drew M[(Question.mapNext M.size).cut (w.tape w.drawn (Question.mapNext M.size))] rfl
            rw [hgo (fun _ => hM)]
            simp only [hold, hnew, hMe]
            simp [Question.forced, hfo, hcut, this]
    · exact h.elim
  · exact h.elim

theorem entry_sound (o : Oper) (x : Operand) (ho : o.op = .entry x) (hR : Rel μ F w H) {vx : AV} (hx : RepA μ F w vx (a.eval x)) (h : wpEntry H vx K) : EOut P o a μ F w H K := by
  unfold wpEntry at h
  split at h
  · rename_i id
    split at h
    · rename_i k v left hG
      have hH := Heap.ob_some hG
      generalize hu : a.eval x = u at hx
      cases hx with
      | it _ l hm =>
        obtain ⟨b, clock, seen, ents, hb1, hF, hb2, hborn, hnd, hlen, hrep, hcur⟩ := hR.ob id l _ hm hH
        obtain ⟨e, he, hs, hk, hv⟩ := hcur _ rfl
        have hg1 : (getObj l.blk).run P w = .ok (.mapIter (some b) clock seen clock) w := by simp [getObj, Sem.run, hb1]
        have hg2 : (getObj b).run P w = .ok (.map ents clock) w := by simp [getObj, Sem.run, hb2]
        have hfind : ents.find? (fun x => x.born == e.born) = some e := by
          rw [← Array.find?_toList]
          generalize ents.toList = L at he hnd
          induction L with
          | nil => cases he
          | cons y L ih =>
            simp only [List.map_cons, List.nodup_cons, List.mem_map, not_exists, not_and] at hnd
            rcases List.mem_cons.1 he with rfl | hm'
            · simp
            · have hne : (y.born == e.born) = false := by
                have := hnd.1 e hm'
                simpa using fun h => this h.symm
              rw [List.find?_cons, hne]
              exact ih hm' hnd.2
        have hrun : (execOp a.eval o).run P w = .ok (.value (.tuple #[e.key, e.val])) w := by
          simp [execOp, ho, hu, Instr.entry, hg1, hg2, hs, hfind]
        refine EOut.value hrun h (.tup _ _ rfl fun i x u hx hu => ?_) (Post.refl hR)
        match i with
        | 0 => simp at hx hu; subst hx; subst hu; exact .d _ _ hk
        | 1 => simp at hx hu; subst hx; subst hu; exact .d _ _ hv
        | i + 2 => simp at hx
    · exact h.elim
  · exact h.elim
end

/-! A map or a slice is let go: whoever holds it holds data. -/
mutual
def AV.subm (g : AV → AV) : AV → AV
  | .mp i => g (.mp i)
  | .hs i off len sz => g (.hs i off len sz)
  | .undef => .undef
  | .d x => .d x
  | .nils => .nils
  | .ptr i ix off => .ptr i ix off
  | .it i => .it i
  | .fp x off => .fp x off
  | .clo f caps => .clo f (submL g caps)
  | .ifc t v => .ifc t (v.subm g)
  | .agg cs => .agg (submL g cs)
  | .tup cs => .tup (submL g cs)
  | .when b v => .when b (v.subm g)
def submL (g : AV → AV) : List AV → List AV
  | [] => []
  | x :: r => x.subm g :: submL g r
end
def submE (g : AV → AV) : List (DV × AV) → List (DV × AV)
  | [] => []
  | (k, v) :: r => (k, v.subm g) :: submE g r
def Ob.subm (g : AV → AV) : Ob → Ob
  | .arr sz es => .arr sz (submL g es)
  | .map ks es => .map ks (submE g es)
  | .iter cur left => .iter cur left
def Heap.subm (g : AV → AV) (H : Heap) : Heap := H.map fun o => o.map (Ob.subm g)

structure OneG (g : AV → AV) : Prop where
  mpc : ∀ i, (g (.mp i)).cells = [g (.mp i)]
  hsc : ∀ i o l s, (g (.hs i o l s)).cells = [g (.hs i o l s)]
  mpo : ∀ i, (g (.mp i)).one = true
  hso : ∀ i o l s, (g (.hs i o l s)).one = true
structure SubG (μ : Locs) (F F' : Nat → Prop) (w : World) (g : AV → AV) : Prop where
  mp : ∀ i u, RepA μ F w (.mp i) u → RepA μ F' w (g (.mp i)) u
  hs : ∀ i o l s u, RepA μ F w (.hs i o l s) u → RepA μ F' w (g (.hs i o l s)) u

/-- A map's number, for data. -/
def gMap (id : Nat) (d : DV) : AV → AV
  | .mp i => if i = id then .d d else .mp i
  | x => x
/-- An array's number, for data. -/
def gArr (id : Nat) (ds : List DV) : AV → AV
  | .hs i off len sz => if i = id ∧ off + len ≤ ds.length then .d (.vs ((ds.drop off).take len)) else .hs i off len sz
  | x => x
theorem gMap_one {id : Nat} {d : DV} (hd : d.one = true) : OneG (gMap id d) := by
  have hc : d.cells = [d] := by cases d <;> first | rfl | (simp [DV.one] at hd)
  refine ⟨fun i => ?_, fun i o l s => rfl, fun i => ?_, fun i o l s => rfl⟩
  · simp only [gMap]; split <;> simp [AV.cells, hc]
  · simp only [gMap]; split <;> simp [AV.one, hd]
theorem gArr_one {id : Nat} {ds : List DV} : OneG (gArr id ds) := by
  refine ⟨fun i => rfl, fun i o l s => ?_, fun i => rfl, fun i o l s => ?_⟩
  · simp only [gArr]; split <;> simp [AV.cells, DV.cells]
  · simp only [gArr]; split <;> simp [AV.one, DV.one]

section
variable {μ : Locs} {F F' : Nat → Prop} {w : World} {H : Heap} {g : AV → AV} {id : Nat}
theorem submL_map : ∀ xs : List AV, submL g xs = xs.map (AV.subm g)
  | [] => by simp [submL]
  | x :: r => by simp [submL, submL_map r]
theorem submE_map : ∀ xs : List (DV × AV), submE g xs = xs.map fun x => (x.1, x.2.subm g)
  | [] => by simp [submE]
  | (k, v) :: r => by simp [submE, submE_map r]

theorem RepA.subm (hF : ∀ b, F b → F' b) (hg : SubG μ F F' w g) {x : AV} {u : Value} (h : RepA μ F w x u) : RepA μ F' w (x.subm g) u := by
  induction h with
  | undef v => exact .undef v
  | d x v h => exact .d x v (h.mono hF fun _ _ => rfl)
  | nils => exact .nils
  | ptr i ix off l h => exact .ptr _ ix off l h
  | hs i off len sz l c h hsz hl hc => exact hg.hs _ _ _ _ _ (.hs _ off len sz l c h hsz hl hc)
  | hs0 i off sz a => exact hg.hs _ _ _ _ _ (.hs0 _ off sz a)
  | mp i l h => exact hg.mp _ _ (.mp _ l h)
  | it i l h => exact .it _ l h
  | fp x off b o g h1 h2 h3 => exact .fp x off b o g (hF _ h1) h2 fun j y hy => (h3 j y hy).mono hF fun _ _ => rfl
  | clo f caps us hs _ ih =>
    simp only [AV.subm, submL_map]
    refine .clo f _ us (by simpa using hs) (fun i x u hx hu => ?_)
    simp only [List.getElem?_map, Option.map_eq_some_iff] at hx
    obtain ⟨y, hy, rfl⟩ := hx
    exact ih i y u hy hu
  | ifc t x v _ ih => exact .ifc t _ v ih
  | agg cs us hs _ ih =>
    simp only [AV.subm, submL_map]
    refine .agg _ us (by simpa using hs) (fun i x u hx hu => ?_)
    simp only [List.getElem?_map, Option.map_eq_some_iff] at hx
    obtain ⟨y, hy, rfl⟩ := hx
    exact ih i y u hy hu
  | tup cs us hs _ ih =>
    simp only [AV.subm, submL_map]
    refine .tup _ us (by simpa using hs) (fun i x u hx hu => ?_)
    simp only [List.getElem?_map, Option.map_eq_some_iff] at hx
    obtain ⟨y, hy, rfl⟩ := hx
    exact ih i y u hy hu
  | when b x v _ hn ih => exact .when b _ v ih hn

theorem subm_cells (hd : OneG g) (x : AV) : (x.subm g).cells = x.cells.map (AV.subm g) := by
  have h1 : ∀ i, AV.subm g (.mp i) = g (.mp i) := fun i => by simp [AV.subm]
  have h2 : ∀ i o l s, AV.subm g (.hs i o l s) = g (.hs i o l s) := fun i o l s => by simp [AV.subm]
  cases x
  case mp i => show _ = [AV.subm g (.mp i)]; rw [h1]; exact hd.mpc i
  case hs i o l s => show _ = [AV.subm g (.hs i o l s)]; rw [h2]; exact hd.hsc i o l s
  all_goals simp [AV.subm, AV.cells, submL_map, List.map_map, Function.comp_def]
theorem subm_one (hd : OneG g) (x : AV) : (x.subm g).one = x.one := by
  cases x
  case mp i => simp only [AV.subm]; exact hd.mpo i
  case hs i o l s => simp only [AV.subm]; exact hd.hso i o l s
  all_goals simp [AV.subm, AV.one]
theorem fits_cells : ∀ (n : Nat) (x : AV), x.fits n = (x.cells.length == n && x.cells.all AV.one)
  | n, .d x => by simp only [AV.fits, DV.fits, AV.cells, List.length_map, List.all_map]; rfl
  | n, .undef => rfl
  | n, .nils => rfl
  | n, .ptr _ _ _ => rfl
  | n, .hs _ _ _ _ => rfl
  | n, .mp _ => rfl
  | n, .it _ => rfl
  | n, .fp _ _ => rfl
  | n, .clo _ _ => rfl
  | n, .ifc _ _ => rfl
  | n, .agg _ => rfl
  | n, .tup _ => rfl
  | n, .when _ _ => rfl
theorem subm_fits (hd : OneG g) (n : Nat) (x : AV) : (x.subm g).fits n = x.fits n := by
  rw [fits_cells, fits_cells, subm_cells hd]
  simp only [List.length_map, List.all_map]
  congr 2
  funext y; exact subm_one hd y

theorem ObAt.subm (hF : ∀ b, F b → F' b) (hd1 : OneG g) (hd : SubG μ F F' w g) {l : Loc} {o : Ob} (h : ObAt μ F w l o) : ObAt μ F' w l (o.subm g) := by
  cases o with
  | arr sz es =>
    obtain ⟨h1, h2, h3, h4, h5⟩ := h
    refine ⟨h1, by simpa [submL_map] using h2, fun x hx => ?_, h4, fun i j x y hx hy => ?_⟩
    · simp only [submL_map] at hx
      obtain ⟨z, hz, rfl⟩ := List.mem_map.1 hx
      rw [subm_fits hd1]; exact h3 z hz
    · simp only [submL_map, List.getElem?_map, Option.map_eq_some_iff] at hx
      obtain ⟨z, hz, rfl⟩ := hx
      rw [subm_cells hd1] at hy
      simp only [List.getElem?_map, Option.map_eq_some_iff] at hy
      obtain ⟨z', hz', rfl⟩ := hy
      obtain ⟨u, h6, h7, h8⟩ := h5 i j z z' hz hz'
      exact ⟨u, h6, h7, h8.subm hF hd⟩
  | map ks es =>
    obtain ⟨h1, ents, clock, h2, h3, h4, h5, h6⟩ := h
    refine ⟨fun x hx => ?_, ents, clock, h2, by simpa [submE_map] using h3, fun i x e hx he => ?_, h5, h6⟩
    · simp only [submE_map] at hx
      obtain ⟨z, hz, rfl⟩ := List.mem_map.1 hx
      exact h1 z hz
    · simp only [submE_map, List.getElem?_map, Option.map_eq_some_iff] at hx
      obtain ⟨z, hz, rfl⟩ := hx
      exact ⟨(h4 i z e hz he).1.mono hF fun _ _ => rfl, (h4 i z e hz he).2.subm hF hd⟩
  | iter cur left =>
    exact ObAt.mono (μ' := μ) (o := .iter cur left) (fun _ _ h => h) hF (fun _ _ => rfl) rfl h

theorem Post.subm {H1 : Heap} (p : Post μ F w H μ F' w H1) (hd1 : OneG g) (hd : SubG μ F' F' w g) : Post μ F w H μ F' w (Heap.subm g H1) := by
  have get : ∀ (i : Nat) (o' : Ob), (Heap.subm g H1 : Heap)[i]? = some (some o') → ∃ o0 : Ob, (H1 : Heap)[i]? = some (some o0) ∧ o' = o0.subm g := by
    intro i o' h
    simp only [Heap.subm, List.getElem?_map, Option.map_eq_some_iff] at h
    obtain ⟨oo, h1, h2⟩ := h
    cases oo with
    | none => simp at h2
    | some o0 => simp at h2; exact ⟨o0, h1, h2.symm⟩
  refine ⟨⟨fun i l' o' hm' h => ?_, fun i j l1 l2 o1 o2 h1 h2 h3 h4 h5 => ?_, fun i l' o' hm' h => ?_, p.rel.lt, p.rel.Flt, fun i l' h => by simpa [Heap.subm] using p.rel.idlt i l' h, p.rel.gl⟩, p.ext, by simpa [Heap.subm] using p.len, fun i hi ⟨o', h⟩ => ?_⟩
  · obtain ⟨o0, h0, rfl⟩ := get i o' h
    exact (p.rel.ob i l' o0 hm' h0).subm (fun _ h => h) hd1 hd
  · obtain ⟨a, ha, _⟩ := get i o1 h3
    obtain ⟨b, hb, _⟩ := get j o2 h4
    exact p.rel.inj i j l1 l2 a b h1 h2 ha hb h5
  · obtain ⟨a, ha, _⟩ := get i o' h
    exact p.rel.nF i l' a hm' ha
  · obtain ⟨a, ha, _⟩ := get i o' h
    exact p.alive i hi ⟨a, ha⟩
/-- Where a map lies that will not be written any more: data. -/
theorem MapAt.fm {l : Loc} {ks : KS} {es : List (DV × AV)} {vs : List DV} (h : MapAt μ F w l ks es) (hv : es.map (·.2) = vs.map .d) (hF : ∀ b, F b → F' b) (hb : F' l.blk) : RepD F' w (.fm (es.map (·.1)) vs) (.map (some l.blk)) := by
  obtain ⟨_, ents, clock, h2, h3, h4, h5, h6⟩ := h
  have hl : vs.length = es.length := by have := congrArg List.length hv; simpa using this.symm
  refine .fm _ _ _ ents clock hb h2 (by simpa using h3) (by simpa using hl) (fun i x e hx he => ?_) (fun i x e hx he => ?_) h5 h6
  · simp only [List.getElem?_map, Option.map_eq_some_iff] at hx
    obtain ⟨y, hy, rfl⟩ := hx
    exact (h4 i y e hy he).1.mono hF fun _ _ => rfl
  · have h7 : (es.map (·.2))[i]? = some (.d x) := by rw [hv]; simp [hx]
    simp only [List.getElem?_map, Option.map_eq_some_iff] at h7
    obtain ⟨y, hy, hyx⟩ := h7
    have := (h4 i y e hy he).2
    rw [hyx] at this
    exact this.inv_d.mono hF fun _ _ => rfl
end
end Go.Vm
/- copy. -/
namespace Go.Vm
open Go
variable [Gl]

def wpCopy (H : Heap) (sz : Nat) (x y : AV) (K : AV → Heap → Prop) : Prop := match x, srcE H sz y with
  | .hs id off len sz', some (p, news) => p ∧ (match arrOf H id with
    | some (sz'', es) => sz' = sz ∧ sz'' = sz ∧ off + len ≤ es.length ∧
        K (.d (.int .i64 (min news.length len : Nat))) (H.set id (some (.arr sz (es.take off ++ news.take (min news.length len) ++ es.drop (off + min news.length len)))))
    | none => False)
  | _, _ => False

section
variable {P : Program} {μ : Locs} {F : Nat → Prop} {w w' : World} {H : Heap} {a : Act} {t t2 : TypeId} {K : AV → Heap → Prop}

theorem exec_copy (o : Oper) (args : Array Operand) (argTypes : Array TypeId) (ho : o.op = .call { callee := .builtin .copy, args, argTypes }) {x y : Operand} (ha : args.toList = [x, y]) (htt : argTypes.toList = [t, t2])
    {u : Value} (h : (Builtin.copy_ #[t, t2] o.type #[a.eval x, a.eval y]).run P w = .ok u w') : (execOp a.eval o).run P w = .ok (.value u) w' := by
  have e1 : args = #[x, y] := by rw [← Array.toList_inj]; simpa using ha
  have e2 : argTypes = #[t, t2] := by rw [← Array.toList_inj]; simpa using htt
  subst e1; subst e2
  simp only [execOp, ho, resolve, Sem.run_bind, Sem.run_pure, Result.andThen_ok, invoke, builtin]
  simp [h]

theorem copy_sound (o : Oper) (args : Array Operand) (argTypes : Array TypeId) (ho : o.op = .call { callee := .builtin .copy, args, argTypes }) {x y : Operand} (ha : args.toList = [x, y]) (htt : argTypes.toList = [t, t2])
    {e : TypeId} (he : elemT P t = some e) {sz : Nat} (hs : sizeT P e = some sz) (hsz : sz ≠ 0)
    (hR : Rel μ F w H) {vx vy : AV} (hx : RepA μ F w vx (a.eval x)) (hy : RepA μ F w vy (a.eval y)) (h : wpCopy H sz vx vy K) : EOut P o a μ F w H K := by
  have ht := elemT_some he
  have his : ∃ i, P.info? e = some i ∧ i.size = sz := by
    unfold sizeT at hs
    cases hi : P.info? e with
    | none => simp [hi] at hs
    | some i => exact ⟨i, rfl, by simpa [hi] using hs⟩
  obtain ⟨i0, hi, his⟩ := his
  unfold wpCopy at h
  split at h
  case h_2 => exact h.elim
  rename_i id off len sz' p news hsrc
  obtain ⟨hp, h⟩ := h
  obtain ⟨ad, cx, us, huy, hul, hE, hne, hcell⟩ := src_cells hsz hR hy hsrc hp
  split at h
  case h_2 => exact h.elim
  rename_i sz'' es hG
  obtain ⟨rfl, rfl, hfr, hk⟩ := h
  have hH := arrOf_some hG
  generalize hm : min news.length len = m at hk
  have hmn : m ≤ news.length := by omega
  have hml : m ≤ len := by omega
  have hones : ∀ v ∈ us, v.oneCell' = true := by
    intro v hv
    obtain ⟨j, hj⟩ := List.getElem?_of_mem hv
    have hjl : j < news.length * sz'' := by rw [← hul]; exact (List.getElem?_eq_some_iff.1 hj).1
    have h1 : j / sz'' < news.length := Nat.div_lt_of_lt_mul (by rwa [Nat.mul_comm] at hjl)
    have h2 : j % sz'' < sz'' := Nat.mod_lt _ (by omega)
    have h3 : j / sz'' * sz'' + j % sz'' = j := by rw [Nat.mul_comm]; exact Nat.div_add_mod j sz''
    have hfx := hE.2.1 news[j / sz''] (List.getElem_mem h1)
    exact (hE.2.2 (j / sz'') (j % sz'') news[j / sz''] (news[j / sz''].cells[j % sz'']'(by rw [AV.fits_length hfx]; exact h2)) v (by simp [h1]) (by simp) (by rw [h3]; simpa using hj)).1
  -- the cells that are copied
  have hmsz : m * sz'' ≤ news.length * sz'' := Nat.mul_le_mul_right _ hmn
  have hcl : (us.take (m * sz'')).length = m * sz'' := by simp; omega
  have hfirst : (Builtin.firstCells sz'' m (a.eval y)).run P w = .ok (us.take (m * sz'')).toArray w := by
    rw [huy]
    cases ad with
    | some a0 =>
      refine run_firstCells_some w sz'' m a0 news.length cx (us.take (m * sz'')) hcl (fun j v hj => ?_)
      rw [List.getElem?_take] at hj
      split at hj
      · exact hcell a0 rfl j v hj
      · cases hj
    | none =>
      have hn0 : news = [] := by
        by_cases hn : news = []
        · exact hn
        · obtain ⟨a0, h0⟩ := hne hn; cases h0
      subst hn0
      have : us = [] := List.length_eq_zero_iff.1 (by simpa using hul)
      subst this
      simpa using run_firstCells_none (P := P) w sz'' m _ _
  have hlen : (Builtin.lenOf (a.eval y)).run P w = .ok news.length w := by rw [huy]; rfl
  generalize hu : a.eval x = u at hx
  cases hx with
  | hs0 _ _ _ ad0 =>
    have hm0 : m = 0 := by omega
    subst hm0
    have hrun : (Builtin.copy_ #[t, t2] o.type #[a.eval x, a.eval y]).run P w = .ok (goInt (0 : Nat)) w := by
      simp only [Nat.zero_mul, List.take_zero] at hfirst
      rw [hu]
      cases ad0 <;> simp [Builtin.copy_, run_underlying ht, hlen, sizeOf, typeInfo, hi, his, hfirst, storeCells]
    refine EOut.value (μ' := μ) (F' := F) (exec_copy o args argTypes ho ha htt hrun) hk (.d _ _ (.int _ _)) ?_
    have e0 : es.take off ++ news.take 0 ++ es.drop (off + 0) = es := by simp
    rw [e0]
    have : H.set id (some (.arr sz'' es)) = H := by
      apply List.ext_getElem?
      intro j
      rw [List.getElem?_set]
      split
      · rename_i e; subst e
        rw [hH]
        have := (List.getElem?_eq_some_iff.1 hH).1
        simp [this]
      · rfl
    rw [this]; exact Post.refl hR
  | hs _ _ _ _ l c hmm hlsz hl hc =>
    have hA : ArrAt μ F w l sz'' es := hR.ob id l _ hmm hH
    obtain ⟨cur, ty, hblk, hsize⟩ := hA.blk
    rw [hA.hsz] at hsize
    have hlm : (off + m) * sz'' ≤ l.cap * sz'' := Nat.mul_le_mul_right _ (by have := hA.room; omega)
    rw [Nat.add_mul] at hlm
    obtain ⟨w1, cur', hr, hs1, hos, htp, hout, hk1, hblk', hsz', hcw⟩ := write_cells (P := P) hblk (us.take (m * sz'')) (p := l.off + off * sz'') (by rw [hcl]; omega) (fun v hv => hones v (List.mem_of_mem_take hv))
    rw [hcl] at hcw
    have hrun : (Builtin.copy_ #[t, t2] o.type #[a.eval x, a.eval y]).run P w = .ok (goInt m) w1 := by
      rw [hu]
      have hmin : Nat.min news.length len = m := hm
      simp [Builtin.copy_, run_underlying ht, hlen, hmin, sizeOf, typeInfo, hi, his, hfirst, hr]
    have hF : ∀ b, F b → w1.heap[b]? = w.heap[b]? := fun b hb => hk1 b (fun e => hR.nF id l _ hmm hH (e ▸ hb))
    refine EOut.value (exec_copy o args argTypes ho ha htt hrun) hk (.d _ _ (.int _ _)) (hR.write hmm ⟨_, hH⟩ hs1 hos htp hout hk1 ?_)
    have htl : (es.take off).length = off := by simp; omega
    have hnl : (news.take m).length = m := by simp; omega
    have mem : ∀ x ∈ es.take off ++ news.take m ++ es.drop (off + m), x.fits sz'' = true := by
      intro x hx
      rcases List.mem_append.1 hx with hx | hx
      · rcases List.mem_append.1 hx with hx | hx
        · exact hA.cells x (List.mem_of_mem_take hx)
        · exact hE.2.1 x (List.mem_of_mem_take hx)
      · exact hA.cells x (List.mem_of_mem_drop hx)
    refine ⟨hA.hsz, ?_, mem, ⟨cur', ty, hblk', by rw [hsz', hA.hsz]; exact hsize⟩, fun i j z y' hz hy' => ?_⟩
    · have := hA.room; simp; omega
    · have hj : j < sz'' := by
        have := (List.getElem?_eq_some_iff.1 hy').1
        rwa [AV.fits_length (mem z (List.mem_of_getElem? hz))] at this
      by_cases hi1 : i < off
      · rw [List.append_assoc, List.getElem?_append_left (by omega), List.getElem?_take, if_pos hi1] at hz
        obtain ⟨v, h1, h2, h3⟩ := hA.rep i j z y' hz hy'
        refine ⟨v, ?_, h2, h3.mono (fun _ _ h => h) (fun _ h => h) hF⟩
        have := idx_lt hi1 hj
        rw [hcw, if_neg (by omega)]; exact h1
      · by_cases hi2 : i < off + m
        · rw [List.append_assoc, List.getElem?_append_right (by omega), htl, List.getElem?_append_left (by omega), List.getElem?_take, if_pos (by omega)] at hz
          have hlt := idx_lt (show i - off < m by omega) hj
          have hlt2 : (i - off) * sz'' + j < us.length := by rw [hul]; omega
          obtain ⟨h2, h3⟩ := hE.2.2 (i - off) j z y' us[(i - off) * sz'' + j] hz hy' (by simp [hlt2])
          refine ⟨_, ?_, h2, h3.mono (fun _ _ h => h) (fun _ h => h) hF⟩
          have hsub : i * sz'' = off * sz'' + (i - off) * sz'' := by rw [← Nat.add_mul]; congr 1; omega
          rw [hcw, if_pos (by omega), show l.off + (i * sz'' + j) - (l.off + off * sz'') = (i - off) * sz'' + j from by omega, List.getElem?_take, if_pos hlt]
          simp [hlt2]
        · rw [List.getElem?_append_right (by simp only [List.length_append]; omega), List.length_append, htl, hnl, List.getElem?_drop, show off + m + (i - (off + m)) = i from by omega] at hz
          obtain ⟨v, h1, h2, h3⟩ := hA.rep i j z y' hz hy'
          refine ⟨v, ?_, h2, h3.mono (fun _ _ h => h) (fun _ h => h) hF⟩
          have : (off + m) * sz'' ≤ i * sz'' := Nat.mul_le_mul_right _ (by omega)
          rw [Nat.add_mul] at this
          rw [hcw, if_neg (by omega)]; exact h1
end
end Go.Vm
/- Calls: a contract's objects are some of the caller's. -/
namespace Go.Vm
open Go
variable [Gl]

/-- What a function does: for whatever stands for its arguments and its objects. -/
def Fn (P : Program) (f : FuncId) (args : List AV) (H : Heap) (R : AV → Heap → Prop) : Prop :=
  ∀ (μ : Locs) (F : Nat → Prop) (w : World) (us : Array Value), Rel μ F w H → Cw μ F w args us →
    Calls P f us w (fun e w' => ∃ r H' u μ' F', e = .returned u ∧ R r H' ∧ RepA μ' F' w' r u ∧ Post μ F w H μ' F' w' H')

theorem Fn.mono {P : Program} {f : FuncId} {args : List AV} {H : Heap} {R R' : AV → Heap → Prop} (h : Fn P f args H R) (hr : ∀ r H', R r H' → R' r H') : Fn P f args H R' :=
  fun μ F w us hR hc => (h μ F w us hR hc).mono fun _ _ ⟨r, H', u, μ', F', he, hk, rest⟩ => ⟨r, H', u, μ', F', he, hr _ _ hk, rest⟩

section
variable {P : Program} {μ μ' : Locs} {F F' : Nat → Prop} {w w' : World} {H Hc Hc' : Heap} {f : Nat → Nat}

theorem renL_map (f : Nat → Nat) : ∀ xs : List AV, renL f xs = xs.map (AV.ren f)
  | [] => by simp [renL]
  | x :: r => by simp [renL, renL_map f r]

theorem ren_cells (f : Nat → Nat) (x : AV) : (x.ren f).cells = x.cells.map (AV.ren f) := by
  cases x <;> simp [AV.ren, AV.cells, renL_map, List.map_map, Function.comp_def]
theorem ren_one (f : Nat → Nat) (x : AV) : (x.ren f).one = x.one := by cases x <;> rfl
theorem ren_fits (f : Nat → Nat) (n : Nat) (x : AV) : (x.ren f).fits n = x.fits n := by
  cases x <;> simp [AV.ren, AV.fits, AV.cells, renL_map, AV.one]
  all_goals first | rfl | (intro _; congr 1; funext y; simp [ren_one]) | skip
  all_goals simp [Function.comp_def, ren_one]

theorem RepA.ren (hf : ∀ i l, μ i = some l → μ' (f i) = some l) {x : AV} {u : Value} (h : RepA μ F w x u) : RepA μ' F w (x.ren f) u := by
  induction h with
  | undef v => exact .undef v
  | d x v h => exact .d x v h
  | nils => exact .nils
  | ptr id ix off l h => exact .ptr _ ix off l (hf _ _ h)
  | hs id off len sz l c h hsz hl hc => exact .hs _ off len sz l c (hf _ _ h) hsz hl hc
  | hs0 id off sz a => exact .hs0 _ off sz a
  | mp id l h => exact .mp _ l (hf _ _ h)
  | it id l h => exact .it _ l (hf _ _ h)
  | fp x off b o g h1 h2 h3 => exact .fp x off b o g h1 h2 h3
  | clo g caps us hs _ ih =>
    simp only [AV.ren, renL_map]
    refine .clo g _ us (by simpa using hs) (fun i x u hx hu => ?_)
    simp only [List.getElem?_map, Option.map_eq_some_iff] at hx
    obtain ⟨y, hy, rfl⟩ := hx
    exact ih i y u hy hu
  | ifc t x v _ ih => exact .ifc t _ v ih
  | agg cs us hs _ ih =>
    simp only [AV.ren, renL_map]
    refine .agg _ us (by simpa using hs) (fun i x u hx hu => ?_)
    simp only [List.getElem?_map, Option.map_eq_some_iff] at hx
    obtain ⟨y, hy, rfl⟩ := hx
    exact ih i y u hy hu
  | tup cs us hs _ ih =>
    simp only [AV.ren, renL_map]
    refine .tup _ us (by simpa using hs) (fun i x u hx hu => ?_)
    simp only [List.getElem?_map, Option.map_eq_some_iff] at hx
    obtain ⟨y, hy, rfl⟩ := hx
    exact ih i y u hy hu
  | when b x v _ hn ih => exact .when b _ v ih hn

theorem RepA.unren {x : AV} {u : Value} (h : RepA μ F w (x.ren f) u) : RepA (fun i => μ (f i)) F w x u := by
  generalize hy : x.ren f = y at h
  induction h generalizing x with
  | undef v => cases x <;> simp [AV.ren] at hy; exact .undef v
  | d z v h => cases x <;> simp [AV.ren] at hy; subst hy; exact .d _ v h
  | nils => cases x <;> simp [AV.ren] at hy; exact .nils
  | ptr id ix off l h =>
    cases x <;> simp [AV.ren] at hy
    obtain ⟨h1, rfl, rfl⟩ := hy
    subst h1; exact .ptr _ _ _ l h
  | hs id off len sz l c h hsz hl hc =>
    cases x <;> simp [AV.ren] at hy
    obtain ⟨h1, rfl, rfl, rfl⟩ := hy
    subst h1; exact .hs _ _ _ _ l c h hsz hl hc
  | hs0 id off sz a =>
    cases x <;> simp [AV.ren] at hy
    obtain ⟨h1, rfl, rfl, rfl⟩ := hy
    exact .hs0 _ _ _ a
  | mp id l h =>
    cases x <;> simp [AV.ren] at hy
    subst hy; exact .mp _ l h
  | it id l h =>
    cases x <;> simp [AV.ren] at hy
    subst hy; exact .it _ l h
  | fp z off b o g h1 h2 h3 =>
    cases x <;> simp [AV.ren] at hy
    obtain ⟨rfl, rfl⟩ := hy
    exact .fp _ _ b o g h1 h2 h3
  | clo g caps us hs _ ih =>
    cases x <;> simp [AV.ren, renL_map] at hy
    obtain ⟨rfl, rfl⟩ := hy
    exact .clo _ _ us (by simpa using hs) (fun i x u hx hu => ih i (x.ren f) u (by simp [hx]) hu rfl)
  | ifc t z v _ ih =>
    cases x <;> simp [AV.ren] at hy
    obtain ⟨rfl, h2⟩ := hy
    exact .ifc _ _ v (ih h2)
  | agg cs us hs _ ih =>
    cases x <;> simp [AV.ren, renL_map] at hy
    subst hy
    exact .agg _ us (by simpa using hs) (fun i x u hx hu => ih i (x.ren f) u (by simp [hx]) hu rfl)
  | tup cs us hs _ ih =>
    cases x <;> simp [AV.ren, renL_map] at hy
    subst hy
    exact .tup _ us (by simpa using hs) (fun i x u hx hu => ih i (x.ren f) u (by simp [hx]) hu rfl)
  | when b z v _ hn ih =>
    cases x <;> simp [AV.ren] at hy
    obtain ⟨rfl, h2⟩ := hy
    exact .when _ _ v (fun hb => ih hb h2) hn

theorem renE_map (f : Nat → Nat) : ∀ xs : List (DV × AV), renE f xs = xs.map fun x => (x.1, x.2.ren f)
  | [] => by simp [renE]
  | (k, v) :: r => by simp [renE, renE_map f r]

theorem ObAt.ren (hf : ∀ i l, μ i = some l → μ' (f i) = some l) {l : Loc} {o : Ob} (h : ObAt μ F w l o) : ObAt μ' F w l (o.ren f) := by
  cases o with
  | arr sz es =>
    obtain ⟨h1, h2, h3, h4, h5⟩ := h
    refine ⟨h1, by simpa [renL_map] using h2, fun x hx => ?_, h4, fun i j x y hx hy => ?_⟩
    · simp only [renL_map] at hx
      obtain ⟨z, hz, rfl⟩ := List.mem_map.1 hx
      rw [ren_fits]; exact h3 z hz
    · simp only [renL_map, List.getElem?_map, Option.map_eq_some_iff] at hx
      obtain ⟨z, hz, rfl⟩ := hx
      rw [ren_cells] at hy
      simp only [List.getElem?_map, Option.map_eq_some_iff] at hy
      obtain ⟨z', hz', rfl⟩ := hy
      obtain ⟨u, h6, h7, h8⟩ := h5 i j z z' hz hz'
      exact ⟨u, h6, h7, h8.ren hf⟩
  | map ks es =>
    obtain ⟨h1, ents, clock, h2, h3, h4, h5, h6⟩ := h
    refine ⟨fun x hx => ?_, ents, clock, h2, by simpa [renE_map] using h3, fun i x e hx he => ?_, h5, h6⟩
    · simp only [renE_map] at hx
      obtain ⟨z, hz, rfl⟩ := List.mem_map.1 hx
      exact h1 z hz
    · simp only [renE_map, List.getElem?_map, Option.map_eq_some_iff] at hx
      obtain ⟨z, hz, rfl⟩ := hx
      exact ⟨(h4 i z e hz he).1, (h4 i z e hz he).2.ren hf⟩
  | iter cur left => exact h

theorem ObAt.unren {l : Loc} {o : Ob} (h : ObAt μ F w l (o.ren f)) : ObAt (fun i => μ (f i)) F w l o := by
  cases o with
  | arr sz es =>
    obtain ⟨h1, h2, h3, h4, h5⟩ := h
    simp only [renL_map] at h2 h3 h5
    refine ⟨h1, by simpa using h2, fun x hx => ?_, h4, fun i j x y hx hy => ?_⟩
    · have := h3 (x.ren f) (List.mem_map_of_mem hx)
      rwa [ren_fits] at this
    · obtain ⟨u, h6, h7, h8⟩ := h5 i j (x.ren f) (y.ren f) (by simp [hx]) (by rw [ren_cells]; simp [hy])
      exact ⟨u, h6, h7, h8.unren⟩
  | map ks es =>
    obtain ⟨h1, ents, clock, h2, h3, h4, h5, h6⟩ := h
    simp only [renE_map] at h1 h3 h4
    refine ⟨fun x hx => ?_, ents, clock, h2, by simpa using h3, fun i x e hx he => ?_, h5, h6⟩
    · exact h1 (x.1, x.2.ren f) (List.mem_map_of_mem (f := fun x : DV × AV => (x.1, x.2.ren f)) hx)
    · have := h4 i (x.1, x.2.ren f) e (by simp [hx]) he
      exact ⟨this.1, this.2.unren⟩
  | iter cur left => exact h

/-! places in a list of numbers -/
theorem pos_some : ∀ {ns : List Nat} {k i : Nat}, pos ns k = some i → ns[i]? = some k
  | [], _, _, h => by cases h
  | x :: r, k, i, h => by
    unfold pos at h
    split at h
    · rename_i e; cases h; simp [e]
    · simp only [Option.map_eq_some_iff] at h
      obtain ⟨j, hj, rfl⟩ := h
      simpa using pos_some hj
theorem pos_of : ∀ {ns : List Nat} {k i : Nat}, ns.Nodup → ns[i]? = some k → pos ns k = some i
  | [], _, _, _, h => by simp at h
  | x :: r, k, i, hn, h => by
    have hn' := List.nodup_cons.1 hn
    cases i with
    | zero => simp at h; simp [pos, h]
    | succ i =>
      simp at h
      have hne : x ≠ k := fun e => hn'.1 (e ▸ List.mem_of_getElem? h)
      simp [pos, hne, pos_of hn'.2 h]
theorem putB_get (ns : List Nat) (f : Nat → Nat) (Hc : Heap) : ∀ (H : Heap) (k i : Nat), (putB ns f Hc k H)[i]? = (H[i]?).map fun o => match pos ns (k + i) with
    | some j => (Hc.getD j none).map (Ob.ren f)
    | none => o
  | [], k, i => by simp [putB]
  | o :: r, k, i => by
    cases i with
    | zero => simp [putB]; cases pos ns k <;> rfl
    | succ i =>
      simp only [putB, List.getElem?_cons_succ]
      rw [putB_get ns f Hc r (k + 1) i, show k + 1 + i = k + (i + 1) from by omega]
theorem putB_length (ns : List Nat) (f : Nat → Nat) (Hc : Heap) : ∀ (H : Heap) (k : Nat), (putB ns f Hc k H).length = H.length
  | [], _ => rfl
  | o :: r, k => by simp [putB, putB_length ns f Hc r]


/-- The caller's places behind a call. -/
def back (ns : List Nat) (n : Nat) (μ μ' : Locs) : Locs := fun id => if id < n then (match pos ns id with
  | some i => μ' i
  | none => μ id) else μ' (ns.length + (id - n))

theorem renOf_lt {ns : List Nat} {n i : Nat} (h : i < ns.length) : ∃ k, ns[i]? = some k ∧ renOf ns n i = k := by
  refine ⟨ns[i], by simp [h], ?_⟩
  unfold renOf
  rw [if_pos h]; simp [List.getD_eq_getElem?_getD, h]
theorem renOf_ge {ns : List Nat} {n i : Nat} (h : ns.length ≤ i) : renOf ns n i = n + (i - ns.length) := by
  unfold renOf; rw [if_neg (by omega)]

/-- The callee's objects among the caller's. -/
structure Handed (ns : List Nat) (H Hc : Heap) : Prop where
  len : ns.length = Hc.length
  nodup : ns.Nodup
  lt : ∀ n ∈ ns, n < H.length
  get : ∀ (i n : Nat) (o : Ob), ns[i]? = some n → Hc[i]? = some (some o) → H[n]? = some (some (o.ren (renOf ns H.length)))

theorem Handed.rel {ns : List Nat} (h : Handed ns H Hc) (hR : Rel μ F w H) : Rel (fun i => μ (renOf ns H.length i)) F w Hc := by
  have lt : ∀ i l, μ (renOf ns H.length i) = some l → i < ns.length := by
    intro i l hm
    by_cases hi : i < ns.length
    · exact hi
    · rw [renOf_ge (by omega)] at hm
      have := hR.idlt _ l hm
      omega
  have al : ∀ i l o, μ (renOf ns H.length i) = some l → Hc[i]? = some (some o) → ∃ n, ns[i]? = some n ∧ μ n = some l ∧ H[n]? = some (some (o.ren (renOf ns H.length))) := by
    intro i l o hm ho
    obtain ⟨n, h1, h2⟩ := renOf_lt (n := H.length) (lt i l hm)
    rw [h2] at hm
    exact ⟨n, h1, hm, h.get i n o h1 ho⟩
  refine ⟨fun i l o hm ho => ?_, fun i j l l' o o' hm hm' ho ho' hb => ?_, fun i l o hm ho => ?_, fun i l hm => hR.lt _ l hm, hR.Flt, fun i l hm => h.len ▸ lt i l hm, hR.gl⟩
  · obtain ⟨n, _, hn, ho2⟩ := al i l o hm ho
    exact (hR.ob n l _ hn ho2).unren
  · obtain ⟨n, h1, hn, ho2⟩ := al i l o hm ho
    obtain ⟨n', h1', hn', ho2'⟩ := al j l' o' hm' ho'
    have := hR.inj n n' l l' _ _ hn hn' ho2 ho2' hb
    subst this
    have e1 := pos_of h.nodup h1
    have e2 := pos_of h.nodup h1'
    rw [e1] at e2; exact Option.some.inj e2
  · obtain ⟨n, _, hn, ho2⟩ := al i l o hm ho
    exact hR.nF n l _ hn ho2

theorem Handed.post {ns : List Nat} (h : Handed ns H Hc) (hR : Rel μ F w H) (p : Post (fun i => μ (renOf ns H.length i)) F w Hc μ' F' w' Hc') :
    Post μ F w H (back ns H.length μ μ') F' w' (putBack ns H Hc') := by
  have hRc := h.rel hR
  -- a number of the call's, in the caller
  have fwd : ∀ i l, μ' i = some l → back ns H.length μ μ' (renOf ns H.length i) = some l := by
    intro i l hm
    by_cases hi : i < ns.length
    · obtain ⟨k, h1, h2⟩ := renOf_lt (n := H.length) hi
      rw [h2]
      unfold back
      rw [if_pos (h.lt k (List.mem_of_getElem? h1)), pos_of h.nodup h1]
      exact hm
    · rw [renOf_ge (by omega)]
      unfold back
      rw [if_neg (by omega), show ns.length + (H.length + (i - ns.length) - H.length) = i from by omega]
      exact hm
  have old : ∀ id l, μ id = some l → back ns H.length μ μ' id = some l := by
    intro id l hm
    have hid := hR.idlt id l hm
    unfold back
    rw [if_pos hid]
    cases hp : pos ns id with
    | none => exact hm
    | some i =>
      have h1 := pos_some hp
      have hi : i < ns.length := (List.getElem?_eq_some_iff.1 h1).1
      obtain ⟨k, h2, h3⟩ := renOf_lt (n := H.length) hi
      rw [h1] at h2
      obtain rfl := Option.some.inj h2
      exact p.ext.locs i l (by show μ (renOf ns H.length i) = _; rw [h3]; exact hm)
  -- whose number is it?
  have cls : ∀ id l, back ns H.length μ μ' id = some l → (∃ i, id = renOf ns H.length i ∧ μ' i = some l ∧ (i < ns.length → ns[i]? = some id)) ∨ (id < H.length ∧ pos ns id = none ∧ μ id = some l) := by
    intro id l hm
    unfold back at hm
    split at hm
    · rename_i hid
      cases hp : pos ns id with
      | none => rw [hp] at hm; exact .inr ⟨hid, rfl, hm⟩
      | some i =>
        rw [hp] at hm
        have h1 := pos_some hp
        have hi : i < ns.length := (List.getElem?_eq_some_iff.1 h1).1
        obtain ⟨k, h2, h3⟩ := renOf_lt (n := H.length) hi
        rw [h1] at h2
        obtain rfl := Option.some.inj h2
        exact .inl ⟨i, h3.symm, hm, fun _ => h1⟩
    · rename_i hid
      refine .inl ⟨ns.length + (id - H.length), ?_, hm, fun hlt => by omega⟩
      rw [renOf_ge (by omega)]; omega
  have getc : ∀ i o, (putBack ns H Hc')[renOf ns H.length i]? = some (some o) → ∃ o', Hc'[i]? = some (some o') ∧ o = o'.ren (renOf ns H.length) := by
    intro i o ho
    unfold putBack at ho
    by_cases hi : i < ns.length
    · obtain ⟨k, h1, h2⟩ := renOf_lt (n := H.length) hi
      rw [h2] at ho
      have hk := h.lt k (List.mem_of_getElem? h1)
      rw [List.getElem?_append_left (by rw [putB_length]; exact hk), putB_get] at ho
      simp only [Option.map_eq_some_iff, Nat.zero_add] at ho
      obtain ⟨oo, _, ho⟩ := ho
      rw [pos_of h.nodup h1] at ho
      simp only at ho
      have hil : i < Hc'.length := Nat.lt_of_lt_of_le (h.len ▸ hi) p.len
      rw [List.getD_eq_getElem?_getD] at ho
      cases hc : Hc'[i]? with
      | none => simp at hc; omega
      | some x =>
        rw [hc] at ho
        cases x with
        | none => cases ho
        | some o' => simp at ho; exact ⟨o', rfl, ho.symm⟩
    · rw [renOf_ge (by omega), List.getElem?_append_right (by rw [putB_length]; omega), putB_length] at ho
      rw [show H.length + (i - ns.length) - H.length = i - ns.length from by omega] at ho
      simp only [List.getElem?_map, List.getElem?_drop, Option.map_eq_some_iff] at ho
      obtain ⟨x, hx, ho⟩ := ho
      rw [show ns.length + (i - ns.length) = i from by omega] at hx
      cases x with
      | none => simp at ho
      | some o' => simp at ho; exact ⟨o', hx, ho.symm⟩
  have geto : ∀ id o, id < H.length → pos ns id = none → (putBack ns H Hc')[id]? = some (some o) → H[id]? = some (some o) := by
    intro id o hid hp ho
    unfold putBack at ho
    rw [List.getElem?_append_left (by rw [putB_length]; exact hid), putB_get] at ho
    simp only [Option.map_eq_some_iff, Nat.zero_add, hp] at ho
    obtain ⟨oo, h1, h2⟩ := ho
    rw [h1, h2]
  -- alive in the call: alive in the caller
  have aliveC : ∀ i l, Alive Hc i → μ (renOf ns H.length i) = some l → ∃ n o, ns[i]? = some n ∧ μ n = some l ∧ H[n]? = some (some o) := by
    rintro i l ⟨o, ho⟩ hm
    have hi : i < ns.length := h.len ▸ hRc.idlt i l hm
    obtain ⟨n, h1, h2⟩ := renOf_lt (n := H.length) hi
    rw [h2] at hm
    exact ⟨n, _, h1, hm, h.get i n o h1 ho⟩
  -- an old object that was not handed in lies elsewhere
  have apart : ∀ id l o, id < H.length → pos ns id = none → μ id = some l → H[id]? = some (some o) → ∀ i l0, Alive Hc i → μ (renOf ns H.length i) = some l0 → l0.blk ≠ l.blk := by
    intro id l o hid hp hm ho i l0 ha hm0 hb
    obtain ⟨n, o', h1, h2, h3⟩ := aliveC i l0 ha hm0
    have := hR.inj n id l0 l o' o h2 hm h3 ho hb
    subst this
    rw [pos_of h.nodup h1] at hp
    cases hp
  -- where a place of the call's lies
  have place : ∀ i l, μ' i = some l → Alive Hc' i → (∃ n o, ns[i]? = some n ∧ μ n = some l ∧ H[n]? = some (some o)) ∨ w.heap.size ≤ l.blk ∨ ∃ i0 l0, Alive Hc i0 ∧ μ (renOf ns H.length i0) = some l0 ∧ l0.blk = l.blk := by
    intro i l hm ha
    rcases p.ext.newl i l hm with h1 | ⟨_, h1⟩
    · have hi : i < Hc.length := hRc.idlt i l h1
      exact .inl (aliveC i l (p.alive i hi ha) h1)
    · exact .inr h1
  have keepF : ∀ b, F b → w'.heap[b]? = w.heap[b]? := p.ext.keepF hRc (fun _ h => h)
  refine ⟨⟨fun id l o hm ho => ?_, fun id id2 l l2 o o2 hm hm2 ho ho2 hb => ?_, fun id l o hm ho => ?_, fun id l hm => ?_, p.rel.Flt, fun id l hm => ?_, p.rel.gl⟩, ?_, ?_, ?_⟩
  · rcases cls id l hm with ⟨i, rfl, hmi, _⟩ | ⟨hid, hp, hmo⟩
    · obtain ⟨o', ho', rfl⟩ := getc i o ho
      exact (p.rel.ob i l o' hmi ho').ren fwd
    · have ho' := geto id o hid hp ho
      refine (hR.ob id l o hmo ho').mono old p.ext.fro keepF ?_
      exact p.ext.keep l.blk (hR.lt id l hmo) (fun i l0 ha hm0 => apart id l o hid hp hmo ho' i l0 ha hm0)
  · rcases cls id l hm with ⟨i, rfl, hmi, _⟩ | ⟨hid, hp, hmo⟩ <;> rcases cls id2 l2 hm2 with ⟨j, rfl, hmj, _⟩ | ⟨hid2, hp2, hmo2⟩
    · obtain ⟨o', ho', _⟩ := getc i o ho
      obtain ⟨o2', ho2', _⟩ := getc j o2 ho2
      rw [p.rel.inj i j l l2 o' o2' hmi hmj ho' ho2' hb]
    · exfalso
      obtain ⟨o', ho', _⟩ := getc i o ho
      have hoo := geto id2 o2 hid2 hp2 ho2
      rcases place i l hmi ⟨o', ho'⟩ with ⟨n, o3, h1, h2, h3⟩ | h1 | ⟨i0, l0, h1, h2, h3⟩
      · have := hR.inj n id2 l l2 o3 o2 h2 hmo2 h3 hoo hb
        subst this
        rw [pos_of h.nodup h1] at hp2; cases hp2
      · have := hR.lt id2 l2 hmo2; omega
      · exact apart id2 l2 o2 hid2 hp2 hmo2 hoo i0 l0 h1 h2 (h3.trans hb)
    · exfalso
      obtain ⟨o', ho', _⟩ := getc j o2 ho2
      have hoo := geto id o hid hp ho
      rcases place j l2 hmj ⟨o', ho'⟩ with ⟨n, o3, h1, h2, h3⟩ | h1 | ⟨i0, l0, h1, h2, h3⟩
      · have := hR.inj n id l2 l o3 o h2 hmo h3 hoo hb.symm
        subst this
        rw [pos_of h.nodup h1] at hp; cases hp
      · have := hR.lt id l hmo; omega
      · exact apart id l o hid hp hmo hoo i0 l0 h1 h2 (h3.trans hb.symm)
    · exact hR.inj id id2 l l2 o o2 hmo hmo2 (geto id o hid hp ho) (geto id2 o2 hid2 hp2 ho2) hb
  · rcases cls id l hm with ⟨i, rfl, hmi, _⟩ | ⟨hid, hp, hmo⟩
    · obtain ⟨o', ho', _⟩ := getc i o ho
      exact p.rel.nF i l o' hmi ho'
    · have hoo := geto id o hid hp ho
      intro hF'
      rcases p.ext.newf l.blk hF' with h1 | h1 | ⟨i0, l0, h1, h2, h3⟩
      · exact hR.nF id l o hmo hoo h1
      · have := hR.lt id l hmo; omega
      · exact apart id l o hid hp hmo hoo i0 l0 h1 h2 h3
  · rcases cls id l hm with ⟨i, rfl, hmi, _⟩ | ⟨hid, hp, hmo⟩
    · exact p.rel.lt i l hmi
    · exact Nat.lt_of_lt_of_le (hR.lt id l hmo) p.ext.size
  · have hlen : (putBack ns H Hc').length = H.length + (Hc'.length - ns.length) := by unfold putBack; simp [putB_length]
    rw [hlen]
    rcases cls id l hm with ⟨i, rfl, hmi, hlt⟩ | ⟨hid, hp, hmo⟩
    · have hil := p.rel.idlt i l hmi
      by_cases hi : i < ns.length
      · have := h.lt _ (List.mem_of_getElem? (hlt hi)); omega
      · rw [renOf_ge (by omega)]; omega
    · omega
  · refine ⟨old, p.ext.fro, p.ext.size, p.ext.os, p.ext.tape, p.ext.output, fun b hb hn => p.ext.keep b hb (fun i l0 ha hm0 => ?_), fun id l hm => ?_, fun b hb => ?_⟩
    · obtain ⟨n, o, h1, h2, h3⟩ := aliveC i l0 ha hm0
      exact hn n l0 ⟨o, h3⟩ h2
    · rcases cls id l hm with ⟨i, rfl, hmi, hlt⟩ | ⟨hid, hp, hmo⟩
      · rcases p.ext.newl i l hmi with h1 | ⟨h0, h1⟩
        · exact .inl h1
        · refine .inr ⟨h0, ?_⟩
          rcases h1 with h1 | ⟨i0, l0, h1, h2, h3⟩
          · exact .inl h1
          · obtain ⟨n, o, h4, h5, h6⟩ := aliveC i0 l0 h1 h2
            exact .inr ⟨n, l0, ⟨o, h6⟩, h5, h3⟩
      · exact .inl hmo
    · rcases p.ext.newf b hb with h1 | h1 | ⟨i0, l0, h1, h2, h3⟩
      · exact .inl h1
      · exact .inr (.inl h1)
      · obtain ⟨n, o, h4, h5, h6⟩ := aliveC i0 l0 h1 h2
        exact .inr (.inr ⟨n, l0, ⟨o, h6⟩, h5, h3⟩)
  · unfold putBack; simp [putB_length]
  · rintro id hid ⟨o, ho⟩
    cases hp : pos ns id with
    | none => exact ⟨o, geto id o hid hp ho⟩
    | some i =>
      have h1 := pos_some hp
      have hi : i < ns.length := (List.getElem?_eq_some_iff.1 h1).1
      obtain ⟨k, h2, h3⟩ := renOf_lt (n := H.length) hi
      rw [h1] at h2
      obtain rfl := Option.some.inj h2
      rw [← h3] at ho
      obtain ⟨o', ho', _⟩ := getc i o ho
      obtain ⟨o2, ho2⟩ := p.alive i (h.len ▸ hi) ⟨o', ho'⟩
      exact ⟨_, h.get i id o2 h1 ho2⟩

theorem Handed.rep {ns : List Nat} (h : Handed ns H Hc) {x : AV} {u : Value} (hx : RepA μ' F' w' x u) :
    RepA (back ns H.length μ μ') F' w' (x.ren (renOf ns H.length)) u := by
  refine hx.ren (fun i l hm => ?_)
  by_cases hi : i < ns.length
  · obtain ⟨k, h1, h2⟩ := renOf_lt (n := H.length) hi
    rw [h2]
    unfold back
    rw [if_pos (h.lt k (List.mem_of_getElem? h1)), pos_of h.nodup h1]
    exact hm
  · rw [renOf_ge (by omega)]
    unfold back
    rw [if_neg (by omega), show ns.length + (H.length + (i - ns.length) - H.length) = i from by omega]
    exact hm

end
end Go.Vm
/- Operations that write, in one theorem; regions. -/
namespace Go.Vm
open Go
variable [Gl]

def argsM (f : Nat → Nat) : List AV → List AV → Prop
  | [], [] => True
  | x :: xs, y :: ys => (y.ren f = x ∨ y.ren f = x.norm) ∧ argsM f xs ys
  | _, _ => False
def handM (f : Nat → Nat) (H : Heap) : List Nat → Heap → Prop
  | [], [] => True
  | n :: ns, o :: Hc => n < H.length ∧ H[n]? = some (o.map (Ob.ren f)) ∧ handM f H ns Hc
  | _, _ => False

/-- A call, by a contract. -/
def wpCall (P : Program) (f : FuncId) (as : List AV) (H : Heap) (K : AV → Heap → Prop) : Prop :=
  ∃ (as' : List AV) (Hc : Heap) (ns : List Nat) (R : AV → Heap → Prop), Fn P f as' Hc R ∧ argsM (renOf ns H.length) as as' ∧ handM (renOf ns H.length) H ns Hc ∧ ns.Nodup ∧
    ∀ r Hc', R r Hc' → Hc.length ≤ Hc'.length → K (r.ren (renOf ns H.length)) (putBack ns H Hc')

def callable (P : Program) (f : FuncId) : Bool := (P.funcs[f]?).any (fun fn => fn.body.isSome && fn.name != "runtime.NumGoroutine")

def wpE (P : Program) (H : Heap) (ρ : Arg → AV) : EOp → (AV → Heap → Prop) → Prop
  | .store n _ x v, K => wpStore H n (ρ x) (ρ v) K
  | .append sz b s x, K => wpAppend H sz b (ρ s) (ρ x) K
  | .mapUpd ks m k v, K => wpMapUpd H ks (ρ m) (ρ k) (ρ v) K
  | .isNil ng x, K => wpIsNil ng H (ρ x) K
  | .call f args, K => wpCall P f (args.map ρ) H K
  | .callv fv args, K => match ρ fv with
    | .d (.fn f) => callable P f = true ∧ wpCall P f (args.map ρ) H K
    | .clo f caps => callable P f = true ∧ wpCall P f (args.map ρ ++ caps) H K
    | _ => False
  | .copy sz x y, K => wpCopy H sz (ρ x) (ρ y) K
  | .range x, K => wpRange H (ρ x) K
  | .next x, K => wpNext H (ρ x) K
  | .entry x, K => wpEntry H (ρ x) K
  | _, _ => False

def EOp.args : EOp → List Arg
  | .store _ _ x v => [x, v]
  | .append _ _ s x => [s, x]
  | .mapUpd _ m k v => [m, k, v]
  | .isNil _ x | .range x | .next x | .entry x => [x]
  | .panic => []
  | .copy _ d s => [d, s]
  | .delete _ m k => [m, k]
  | .call _ args => args
  | .callv fv args => fv :: args
  | .mapEntry _ _ m k => [m, k]
  | .entryStore _ m s v => [m, s, v]

section
variable {P : Program} {μ : Locs} {F : Nat → Prop} {w : World} {H : Heap} {a : Act} {K : AV → Heap → Prop}

theorem argsM_cw {f : Nat → Nat} : ∀ {xs ys : List AV} {us : Array Value}, argsM f xs ys → Cw μ F w xs us → Cw (fun i => μ (f i)) F w ys us
  | [], [], us, _, h => ⟨h.1, by simp⟩
  | [], _ :: _, _, h, _ => h.elim
  | _ :: _, [], _, h, _ => h.elim
  | x :: xs, y :: ys, us, h, hc => by
    have hlen : ∀ {xs ys : List AV}, argsM f xs ys → xs.length = ys.length := by
      intro xs
      induction xs with
      | nil => intro ys h; cases ys <;> first | rfl | exact h.elim
      | cons x r ih => intro ys h; cases ys with
        | nil => exact h.elim
        | cons y s => simp [ih h.2]
    refine ⟨by rw [hc.1]; simp [hlen h.2], fun j z u hz hu => ?_⟩
    cases j with
    | zero =>
      simp at hz; subst hz
      have hx := hc.2 0 x u rfl hu
      rcases h.1 with e | e
      · rw [← e] at hx; exact hx.unren
      · have := norm_rep hx
        rw [← e] at this; exact this.unren
    | succ j =>
      simp at hz
      -- the rest, one by one
      have key : ∀ {xs ys : List AV}, argsM f xs ys → ∀ (j : Nat) (z : AV), ys[j]? = some z → ∃ x, xs[j]? = some x ∧ (z.ren f = x ∨ z.ren f = x.norm) := by
        intro xs
        induction xs with
        | nil => intro ys h j z hz; cases ys <;> first | (simp at hz; done) | exact h.elim
        | cons x r ih =>
          intro ys h j z hz
          cases ys with
          | nil => exact h.elim
          | cons y s =>
            cases j with
            | zero => simp at hz; subst hz; exact ⟨x, rfl, h.1⟩
            | succ j => simpa using ih h.2 j z (by simpa using hz)
      obtain ⟨x', hx', he⟩ := key h.2 j z hz
      have hx := hc.2 (j + 1) x' u (by simpa using hx') hu
      rcases he with e | e
      · rw [← e] at hx; exact hx.unren
      · have := norm_rep hx
        rw [← e] at this; exact this.unren

theorem handM_get {f : Nat → Nat} : ∀ {ns : List Nat} {Hc : Heap}, handM f H ns Hc → ns.length = Hc.length ∧ (∀ n ∈ ns, n < H.length) ∧ ∀ (i n : Nat) (o : Ob), ns[i]? = some n → Hc[i]? = some (some o) → H[n]? = some (some (o.ren f))
  | [], [], _ => ⟨rfl, by simp, by simp⟩
  | [], _ :: _, h => h.elim
  | _ :: _, [], h => h.elim
  | n :: ns, o :: Hc, h => by
    obtain ⟨h1, h2, h3⟩ := handM_get h.2.2
    refine ⟨by simp [h1], fun m hm => ?_, fun i m o' hm ho => ?_⟩
    · rcases List.mem_cons.1 hm with rfl | hm
      · exact h.1
      · exact h2 m hm
    · cases i with
      | zero => simp at hm ho; subst hm; subst ho; simpa using h.2.1
      | succ i => simp at hm ho; exact h3 i m o' hm ho

theorem callable_some {f : FuncId} (h : callable P f = true) : ∃ fn, P.funcs[f]? = some fn ∧ fn.body.isNone = false ∧ (fn.name == "runtime.NumGoroutine") = false := by
  unfold callable at h
  cases hf : P.funcs[f]? with
  | none => simp [hf] at h
  | some fn =>
    simp [hf] at h
    refine ⟨fn, rfl, ?_, by simpa using h.2⟩
    cases hb : fn.body with
    | none => simp [hb] at h
    | some _ => rfl

theorem run_callFunc {f : FuncId} (h : callable P f = true) (us : Array Value) : (callFunc f us).run P w = .ok (.enter f us) w := by
  obtain ⟨fn, h1, h2, h3⟩ := callable_some h
  simp only [callFunc, Sem.run_bind, run_program, Result.andThen_ok, h1, h2, h3, Bool.false_eq_true, if_false, Sem.run_pure]

/-- A call's outcome. -/
theorem call_sound {o : Oper} {f : FuncId} {as : List AV} {us : Array Value} (hr : (execOp a.eval o).run P w = .ok (.enter f us) w) (hR : Rel μ F w H) (hc : Cw μ F w as us) (h : wpCall P f as H K) : EOut P o a μ F w H K := by
  obtain ⟨as', Hc, ns, R, hfn, ha, hh, hnd, hk⟩ := h
  obtain ⟨h1, h2, h3⟩ := handM_get hh
  have hand : Handed ns H Hc := ⟨h1, hnd, h2, h3⟩
  intro next Q hnext
  unfold Oper.wp
  rw [hr]
  refine (hfn _ F w us (hand.rel hR) (argsM_cw ha hc)).mono ?_
  rintro e w' ⟨r, H', u, μ', F', rfl, hRr, hu, hp⟩
  exact hnext _ _ u _ F' w' (hk r H' hRr hp.len) (hand.rep hu) (hand.post hR hp)

theorem eop_sound {res : Operand → Option Arg} {keep : Bool} {o : Oper} {op : EOp} (h : compOp P res keep o = some (.inr op)) {ρ : Arg → AV} (hR : Rel μ F w H)
    (hρ : ∀ x b, res x = some b → RepA μ F w (ρ b) (a.eval x)) (ha : argsOb ρ op.args) (hw : wpE P H (fun x => (ρ x).strip) op K) : EOut P o a μ F w H K := by
  have arg : ∀ x b, res x = some b → b ∈ op.args → RepA μ F w (ρ b).strip (a.eval x) := fun x b hb hm => (hρ x b hb).strip (argsOb_mem ha b hm)
  have args : ∀ (xs : Array Operand) (bs : List Arg), resAll res xs.toList = some bs → (∀ b ∈ bs, b ∈ op.args) → Cw μ F w (bs.map fun x => (ρ x).strip) (xs.map a.eval) := by
    intro xs bs hb hm
    obtain ⟨h1, h2⟩ := resAll_some hb
    refine ⟨by simp [h1], fun j y u hy hu => ?_⟩
    simp only [List.getElem?_map, Option.map_eq_some_iff] at hy
    simp only [Array.getElem?_map, Option.map_eq_some_iff] at hu
    obtain ⟨b, hb', rfl⟩ := hy
    obtain ⟨x, hx', rfl⟩ := hu
    exact arg x b (h2 j x b (by simpa using hx') hb') (hm b (List.mem_of_getElem? hb'))
  unfold compOp at h
  split at h
  case h_4 b t x y yt ho =>
    split at h
    · rename_i hn
      split at h
      · rename_i e' bx he hx
        split at h
        · rename_i hb
          cases h; subst hb
          exact isNil_sound o .eql x y yt ho hn he (.inl rfl) hR (arg x bx hx (by simp [EOp.args])) hw
        · split at h
          · rename_i hb
            cases h; subst hb
            exact isNil_sound o .neq x y yt ho hn he (.inr rfl) hR (arg x bx hx (by simp [EOp.args])) hw
          · cases h
      · cases h
    · split at h <;> (try split at h) <;> (try split at h) <;> first | (cases h; done) | skip
  case h_25 t x v ho =>
    split at h
    · rename_i n g bx bv hn hg hx hv
      split at h
      · cases h
        exact store_sound o x v ho hn hR (arg x bx hx (by simp [EOp.args])) (arg v bv hv (by simp [EOp.args])) hw
      · cases h
    · cases h
  case h_26 t m k v ho =>
    split at h
    · rename_i kt e bm bk bv ht hm hk hv
      simp only [Option.map_eq_some_iff] at h
      obtain ⟨ks, hks, e⟩ := h; cases e
      exact mapUpd_sound o m k v (.inl ho) ht hks hR (arg m bm hm (by simp [EOp.args])) (arg k bk hk (by simp [EOp.args])) (arg v bv hv (by simp [EOp.args])) hw
    · cases h
  case h_27 t m k v ho =>
    split at h
    · rename_i kt e bm bk bv ht hm hk hv
      simp only [Option.map_eq_some_iff] at h
      obtain ⟨ks, hks, e⟩ := h; cases e
      exact mapUpd_sound o m k v (.inr ho) ht hks hR (arg m bm hm (by simp [EOp.args])) (arg k bk hk (by simp [EOp.args])) (arg v bv hv (by simp [EOp.args])) hw
    · cases h
  case h_30 t x ho =>
    split at h
    · rename_i kt e bx ht hx
      cases h
      exact range_sound o x ho ht hR (arg x bx hx (by simp [EOp.args])) hw
    · cases h
  case h_31 x ho =>
    simp only [Option.map_eq_some_iff] at h
    obtain ⟨bx, hx, e⟩ := h; cases e
    exact next_sound o x ho hR (arg x bx hx (by simp [EOp.args])) hw
  case h_32 x ho =>
    simp only [Option.map_eq_some_iff] at h
    obtain ⟨bx, hx, e⟩ := h; cases e
    exact entry_sound o x ho hR (arg x bx hx (by simp [EOp.args])) hw
  case h_36 args' argTypes ho =>
    split at h
    · rename_i x y t u hxy ht
      split at h
      · rename_i e bx by_ he hx hy
        split at h
        · rename_i n b z hs hb hz
          split at h
          · rename_i hc
            cases h
            obtain ⟨h1, rfl, h3⟩ := hc
            exact append_sound o args' argTypes ho hxy ht he hs hb hz h1 h3 hR (arg x bx hx (by simp [EOp.args])) (arg y by_ hy (by simp [EOp.args])) hw
          · cases h
        · cases h
      · cases h
    · cases h
  case h_37 args' argTypes ho =>
    split at h
    · rename_i x y t u hxy ht
      split at h
      · rename_i e e2 bx by_ he he2 hx hy
        split at h
        · rename_i n hs
          split at h
          · rename_i hc
            cases h
            exact copy_sound o args' argTypes ho hxy ht he hs hc.1 hR (arg x bx hx (by simp [EOp.args])) (arg y by_ hy (by simp [EOp.args])) hw
          · cases h
        · cases h
      · cases h
    · cases h
  case h_39 f args' argTypes ho =>
    split at h
    · rename_i hc
      simp only [Option.map_eq_some_iff] at h
      obtain ⟨as, has, e⟩ := h; cases e
      refine call_sound (f := f) (us := args'.map a.eval) ?_ hR (args args' as has (fun b hb => by simpa [EOp.args] using hb)) hw
      rw [execOp, ho]
      simp only [resolve, Act.eval, Deferred.ofValue, Sem.run_bind, Sem.run_pure, Result.andThen_ok, invoke]
      simp only [Array.append_empty, Array.empty_append]
      exact run_callFunc hc _
    · cases h
  case h_40 x args' argTypes hx0 ho =>
    split at h
    · rename_i fv as hfv has
      cases h
      have hrep := arg x fv hfv (by simp [EOp.args])
      have hargs := args args' as has (fun b hb => by simp [EOp.args, hb])
      simp only [wpE] at hw
      have step : ∀ (f : FuncId) (us : Array Value), a.eval x = .func (.func f) #[] us → callable P f = true → (execOp a.eval o).run P w = .ok (.enter f (args'.map a.eval ++ us)) w := by
        intro f us he hc
        rw [execOp, ho]
        simp only [resolve, he, Deferred.ofValue, Sem.run_bind, Sem.run_pure, Result.andThen_ok, invoke]
        simp only [Array.empty_append]
        exact run_callFunc hc _
      split at hw
      · rename_i f hf
        rw [hf] at hrep
        generalize hu : a.eval x = u at hrep step
        cases hrep
        rename_i hrep
        cases hrep
        have hs := step f #[] rfl hw.1
        simp only [Array.append_empty] at hs
        exact call_sound hs hR hargs hw.2
      · rename_i f caps hf
        rw [hf] at hrep
        generalize hu : a.eval x = u at hrep step
        cases hrep
        rename_i us hs hcap
        refine call_sound (step f us rfl hw.1) hR ⟨by simp [hargs.1, hs], fun j y v hy hv => ?_⟩ hw.2
        rw [List.getElem?_append] at hy
        rw [Array.getElem?_append] at hv
        have hl := hargs.1
        split at hy
        · rename_i hj
          rw [if_pos (by rw [hl]; exact hj)] at hv
          exact hargs.2 j y v hy hv
        · rename_i hj
          rw [if_neg (by rw [hl]; exact hj), hl] at hv
          exact hcap _ y v hy hv
      · exact hw.elim
    · cases h
  all_goals first | (cases h; done) | skip
  all_goals (repeat' split at h) <;> first | (cases h; done) | (cases h; exact hw.elim) | skip
  all_goals (simp only [Option.map_eq_some_iff, Option.bind_eq_some_iff] at h) <;> (obtain ⟨_, _, h⟩ := h) <;> (try split at h) <;> first | (cases h; done) | (cases h; exact hw.elim)


end
end Go.Vm
