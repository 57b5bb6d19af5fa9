/- Lattice: the lattice of an input, as the reference has it; its arcs before a boundary; the distances in it. -/
import Derived.Test.YtibpfnjbgojfoaaDoorZdV0
import Derived.Test.YtibpfnjbgojfoaaDoorZdAw
set_option linter.all false
set_option maxHeartbeats 8000000
namespace Go.Vm.L
open Go Go.Vm
def ltK (a b : Key) : Prop := a.frm < b.frm ∨ a.frm = b.frm ∧ (a.to < b.to ∨ a.to = b.to ∧ a.term < b.term)
theorem before_lt (a b : Arc) : beforeB a b = true ↔ ltK (keyOf a) (keyOf b) := by
  unfold beforeB ltK keyOf
  repeat' split
  all_goals (simp only [decide_eq_true_eq]; omega)
theorem ltK_irr (a : Key) : ¬ ltK a a := by unfold ltK; omega
theorem ltK_trans {a b c : Key} (h1 : ltK a b) (h2 : ltK b c) : ltK a c := by unfold ltK at *; omega
theorem ltK_tri (a b : Key) : ltK a b ∨ a = b ∨ ltK b a := by
  cases a; cases b
  simp only [ltK, Key.mk.injEq]; omega
def insA (a : Arc) : List Arc → List Arc
  | [] => [a]
  | x :: r => if keyOf x = keyOf a then (if a.cost < x.cost then a :: r else x :: r) else if beforeB a x = true then a :: x :: r else x :: insA a r
theorem putStep_done (a : Arc) : ∀ (l out : List Arc), l.foldl (putStep a) (true, out) = (true, out ++ l)
  | [], out => by simp
  | x :: r, out => by
    rw [List.foldl_cons, show putStep a (true, out) x = (true, out ++ [x]) by simp [putStep], putStep_done a r]; simp
theorem putStep_ins (a : Arc) : ∀ (l out : List Arc), (if (l.foldl (putStep a) (false, out)).1 then (l.foldl (putStep a) (false, out)).2 else (l.foldl (putStep a) (false, out)).2 ++ [a]) = out ++ insA a l
  | [], out => by simp [insA]
  | x :: r, out => by
    rw [List.foldl_cons]
    by_cases hk : keyOf x = keyOf a
    · have hk' : x.frm = a.frm ∧ x.to = a.to ∧ x.term = a.term := by simpa [keyOf] using hk
      by_cases hc : a.cost < x.cost
      · rw [show putStep a (false, out) x = (true, out ++ [a]) by simp [putStep, hk', hc], putStep_done]; simp [insA, hk, hc]
      · rw [show putStep a (false, out) x = (true, out ++ [x]) by simp [putStep, hk', hc], putStep_done]; simp [insA, hk, hc]
    · have hk' : ¬ (x.frm = a.frm ∧ x.to = a.to ∧ x.term = a.term) := by simpa [keyOf] using hk
      by_cases hb : beforeB a x = true
      · rw [show putStep a (false, out) x = (true, out ++ [a] ++ [x]) by simp [putStep, hk', hb], putStep_done]; simp [insA, hk, hb]
      · rw [show putStep a (false, out) x = (false, out ++ [x]) by simp [putStep, hk', hb], putStep_ins a r]; simp [insA, hk, hb]
theorem putL_ins (l : List Arc) (a : Arc) : putL l a = if a.cost ≥ 1099511627776 then l else insA a l := by
  unfold putL; split
  · rfl
  · exact putStep_ins a l []

/-- The cheapest of several candidates of one key. -/
def bst (o : Option Arc) (a : Arc) : Option Arc := if a.cost < 1099511627776 then match o with
    | none => some a
    | some old => if a.cost < old.cost then some a else some old
  else o
def getL : List Arc → Key → Option Arc
  | [], _ => none
  | a :: r, k => if k = keyOf a then some a else getL r k
def Sorted (L : List Arc) : Prop := L.Pairwise fun a b => ltK (keyOf a) (keyOf b)
theorem getM_setM (M : List (Key × Arc)) (k : Key) (a : Arc) (x : Key) : getM (setM M k a) x = if x = k then some a else getM M x := by
  induction M with
  | nil => simp [setM, getM]
  | cons p r ih =>
    obtain ⟨k', a'⟩ := p
    simp only [setM]
    by_cases h : k = k'
    · subst h
      simp only [if_true, getM]; split <;> simp_all
    · simp only [h, if_false, getM, ih]
      by_cases h1 : x = k'
      · subst h1; simp [Ne.symm h]
      · simp [h1]
theorem getM_addM (M : List (Key × Arc)) (a : Arc) (x : Key) : getM (addM M a) x = if x = keyOf a then bst (getM M x) a else getM M x := by
  unfold addM
  by_cases hc : a.cost < 1099511627776
  · rw [if_pos hc]
    cases hg : getM M (keyOf a) with
    | none =>
      simp only [getM_setM]
      by_cases h : x = keyOf a
      · subst h; simp [bst, hc, hg]
      · simp [h]
    | some old =>
      simp only
      by_cases ho : a.cost < old.cost
      · simp only [ho, if_true, getM_setM]
        by_cases h : x = keyOf a
        · subst h; simp [bst, hc, hg, ho]
        · simp [h]
      · simp only [ho, if_false]
        by_cases h : x = keyOf a
        · subst h; simp [bst, hc, hg, ho]
        · simp [h]
  · rw [if_neg hc]
    by_cases h : x = keyOf a
    · subst h; simp [bst, hc]
    · simp [h]
theorem getL_none {L : List Arc} {k : Key} (h : ∀ a ∈ L, k ≠ keyOf a) : getL L k = none := by
  induction L with
  | nil => rfl
  | cons a r ih => simp only [getL]; rw [if_neg (h a (by simp)), ih fun b hb => h b (by simp [hb])]
theorem getL_insA (a : Arc) (hc : a.cost < 1099511627776) (x : Key) : ∀ (L : List Arc), Sorted L → getL (insA a L) x = if x = keyOf a then bst (getL L x) a else getL L x
  | [], _ => by
    by_cases h : x = keyOf a <;> simp [insA, getL, h, bst, hc]
  | y :: r, hs => by
    have hs' := List.pairwise_cons.1 hs
    simp only [insA]
    by_cases hk : keyOf y = keyOf a
    · rw [if_pos hk]
      by_cases hcc : a.cost < y.cost
      · rw [if_pos hcc]
        by_cases h : x = keyOf a
        · subst h; simp [getL, hk, bst, hc, hcc]
        · simp [getL, h, hk]
      · rw [if_neg hcc]
        by_cases h : x = keyOf a
        · subst h; simp [getL, hk, bst, hc, hcc]
        · simp [getL, h, hk]
    · rw [if_neg hk]
      by_cases hb : beforeB a y = true
      · rw [if_pos hb]
        have hn : getL (y :: r) (keyOf a) = none := getL_none fun b hb' e => by
          have h1 := (before_lt a y).1 hb
          rcases List.mem_cons.1 hb' with rfl | hb'
          · exact hk e.symm
          · have := hs'.1 b hb'
            rw [e] at h1
            exact ltK_irr _ (ltK_trans h1 this)
        by_cases h : x = keyOf a
        · subst h; rw [hn]; simp [getL, bst, hc]
        · rw [if_neg h]; simp only [getL]; rw [if_neg h]
      · rw [if_neg hb]
        have ih := getL_insA a hc x r hs'.2
        simp only [getL]
        by_cases h : x = keyOf y
        · subst h; simp [hk]
        · rw [if_neg h, if_neg h, ih]
theorem insA_mem (a : Arc) : ∀ (L : List Arc) (b : Arc), b ∈ insA a L → b = a ∨ b ∈ L
  | [], b, h => by simp [insA] at h; exact .inl h
  | y :: r, b, h => by
    simp only [insA] at h
    split at h
    · split at h <;> simp only [List.mem_cons] at h ⊢ <;> rcases h with h | h <;> simp [h]
    · split at h
      · simpa using h
      · simp only [List.mem_cons] at h ⊢
        rcases h with h | h
        · exact .inr (.inl h)
        · rcases insA_mem a r b h with h | h <;> simp [h]
theorem insA_key (a : Arc) (L : List Arc) : ∀ b ∈ insA a L, keyOf b = keyOf a ∨ b ∈ L := fun b h => by
  rcases insA_mem a L b h with rfl | h
  · exact .inl rfl
  · exact .inr h
theorem Sorted.ins (a : Arc) : ∀ (L : List Arc), Sorted L → Sorted (insA a L)
  | [], _ => by simp [insA, Sorted]
  | y :: r, hs => by
    have hs' := List.pairwise_cons.1 hs
    simp only [insA]
    by_cases hk : keyOf y = keyOf a
    · rw [if_pos hk]
      split
      · exact List.pairwise_cons.2 ⟨fun b hb => by rw [← hk]; exact hs'.1 b hb, hs'.2⟩
      · exact hs
    · rw [if_neg hk]
      by_cases hb : beforeB a y = true
      · rw [if_pos hb]
        have h1 := (before_lt a y).1 hb
        refine List.pairwise_cons.2 ⟨fun b hb' => ?_, hs⟩
        rcases List.mem_cons.1 hb' with rfl | hb'
        · exact h1
        · exact ltK_trans h1 (hs'.1 b hb')
      · rw [if_neg hb]
        refine List.pairwise_cons.2 ⟨fun b hb' => ?_, Sorted.ins a r hs'.2⟩
        rcases insA_key a r b hb' with h | h
        · rw [h]
          rcases ltK_tri (keyOf y) (keyOf a) with h | h | h
          · exact h
          · exact absurd h hk
          · exact absurd ((before_lt a y).2 h) hb
        · exact hs'.1 b h
theorem Sorted.put {L : List Arc} (h : Sorted L) (a : Arc) : Sorted (putL L a) := by
  rw [putL_ins]; split
  · exact h
  · exact h.ins a
theorem getL_putL {L : List Arc} (h : Sorted L) (a : Arc) (x : Key) : getL (putL L a) x = if x = keyOf a then bst (getL L x) a else getL L x := by
  rw [putL_ins]; split
  · rename_i hc
    by_cases hx : x = keyOf a
    · simp [hx, bst, show ¬ a.cost < 1099511627776 by omega]
    · simp [hx]
  · exact getL_insA a (by omega) x L h
def fk (k : Key) (cs : List Arc) : List Arc := cs.filter fun a => decide (k = keyOf a)
theorem fk_append (k : Key) (a b : List Arc) : fk k (a ++ b) = fk k a ++ fk k b := List.filter_append ..
theorem fk_flatMap {α : Type} (k : Key) (f : α → List Arc) : ∀ l : List α, fk k (l.flatMap f) = l.flatMap fun i => fk k (f i)
  | [] => rfl
  | a :: r => by rw [List.flatMap_cons, List.flatMap_cons, fk_append, fk_flatMap k f r]
theorem getM_fold (k : Key) : ∀ (cs : List Arc) (M : List (Key × Arc)), getM (cs.foldl addM M) k = (fk k cs).foldl bst (getM M k)
  | [], M => rfl
  | a :: r, M => by
    rw [List.foldl_cons, getM_fold k r, getM_addM]
    by_cases h : k = keyOf a
    · rw [if_pos h]; simp only [fk]; rw [List.filter_cons_of_pos (by simpa using h)]; rfl
    · rw [if_neg h]; simp only [fk]; rw [List.filter_cons_of_neg (by simpa using h)]
theorem getL_fold (k : Key) : ∀ (cs : List Arc) (L : List Arc), Sorted L → Sorted (cs.foldl putL L) ∧ getL (cs.foldl putL L) k = (fk k cs).foldl bst (getL L k)
  | [], L, h => ⟨h, rfl⟩
  | a :: r, L, h => by
    have ih := getL_fold k r (putL L a) (h.put a)
    refine ⟨ih.1, ?_⟩
    rw [List.foldl_cons, ih.2, getL_putL h]
    by_cases h : k = keyOf a
    · rw [if_pos h]; simp only [fk]; rw [List.filter_cons_of_pos (by simpa using h)]; rfl
    · rw [if_neg h]; simp only [fk]; rw [List.filter_cons_of_neg (by simpa using h)]
theorem getL_mem {L : List Arc} {k : Key} {a : Arc} (h : getL L k = some a) : a ∈ L ∧ k = keyOf a := by
  induction L with
  | nil => cases h
  | cons b r ih =>
    simp only [getL] at h
    split at h
    · cases h; exact ⟨by simp, by assumption⟩
    · exact ⟨List.mem_cons_of_mem _ (ih h).1, (ih h).2⟩
theorem getL_of_mem {L : List Arc} (hs : Sorted L) {a : Arc} (h : a ∈ L) : getL L (keyOf a) = some a := by
  induction L with
  | nil => cases h
  | cons b r ih =>
    have hs' := List.pairwise_cons.1 hs
    simp only [getL]
    rcases List.mem_cons.1 h with rfl | h
    · simp
    · have := hs'.1 a h
      rw [if_neg (fun e => ltK_irr (keyOf a) (by rw [← e] at this; exact this)), ih hs'.2 h]
/-- Two lists in strict order that answer alike are alike. -/
theorem sorted_ext : ∀ {L L' : List Arc}, Sorted L → Sorted L' → (∀ k, getL L k = getL L' k) → L = L'
  | [], [], _, _, _ => rfl
  | [], b :: r, _, _, h => by have := h (keyOf b); simp [getL] at this
  | b :: r, [], _, _, h => by have := h (keyOf b); simp [getL] at this
  | a :: r, b :: s, h1, h2, h => by
    have h1' := List.pairwise_cons.1 h1
    have h2' := List.pairwise_cons.1 h2
    have hab : a = b := by
      rcases ltK_tri (keyOf a) (keyOf b) with hl | he | hl
      · exfalso
        have := h (keyOf a)
        rw [getL_of_mem h1 (by simp)] at this
        obtain ⟨hm, _⟩ := getL_mem this.symm
        rcases List.mem_cons.1 hm with rfl | hm
        · exact ltK_irr _ hl
        · exact ltK_irr _ (ltK_trans hl (h2'.1 a hm))
      · have := h (keyOf a)
        rw [getL_of_mem h1 (by simp)] at this
        simp only [getL, he, if_true, Option.some.injEq] at this
        exact this
      · exfalso
        have := h (keyOf b)
        rw [getL_of_mem h2 (by simp)] at this
        obtain ⟨hm, _⟩ := getL_mem this
        rcases List.mem_cons.1 hm with rfl | hm
        · exact ltK_irr _ hl
        · exact ltK_irr _ (ltK_trans hl (h1'.1 b hm))
    subst hab
    congr 1
    refine sorted_ext h1'.2 h2'.2 fun k => ?_
    have := h k
    simp only [getL] at this
    by_cases hk : k = keyOf a
    · subst hk
      rw [getL_none fun b hb e => ltK_irr _ (e ▸ h1'.1 b hb), getL_none fun b hb e => ltK_irr _ (e ▸ h2'.1 b hb)]
    · rw [if_neg hk, if_neg hk] at this; exact this
def readC (x : Inp) (i m : Nat) : List Arc := if m < x.cols.length then ((List.range x.insert.length).filter fun t => decide ((readAt x m).getD t 0 ≥ 0)).map (readArc i m (delS x i m) (delOps (m - i)) (readAt x m)) else []
def insC (x : Inp) (i m : Nat) : List Arc := (List.range x.insert.length).map (insArc x i m)
def swC (x : Inp) (i m : Nat) : List Arc := if swapB x m then [swapArc x i m] else []
def laC (x : Inp) (i : Nat) : List Arc := if swapB x i then [lastArc x i] else []
def stepC (x : Inp) (i m : Nat) : List Arc := (if m > i then readC x i (m - 1) else []) ++ insC x i m ++ swC x i m
def fromC (x : Inp) (i : Nat) : List Arc := ((List.range (x.cols.length + 1 - i)).flatMap fun j => stepC x i (i + j)) ++ laC x i
def bC (x : Inp) : List Arc := (List.range (x.cols.length + 1)).flatMap (fromC x)
def rC1 (x : Inp) (i : Nat) : List Arc := ((List.range (x.cols.length + 1 - i)).flatMap fun j => readC x i (i + j) ++ swC x i (i + j)) ++ laC x i
def rC2 (x : Inp) (i : Nat) : List Arc := (List.range (x.cols.length + 1 - i)).flatMap fun j => insC x i (i + j)
def rC (x : Inp) : List Arc := (List.range (x.cols.length + 1)).flatMap (rC1 x) ++ (List.range (x.cols.length + 1)).flatMap (rC2 x)

theorem foldl_flat {α β γ : Type} (f : β → γ → β) (g : α → List γ) : ∀ (l : List α) (b : β), (l.flatMap g).foldl f b = l.foldl (fun b a => (g a).foldl f b) b
  | [], b => rfl
  | a :: r, b => by rw [List.flatMap_cons, List.foldl_append, foldl_flat f g r]; rfl
theorem foldl_ext {α β : Type} {f g : β → α → β} (h : ∀ b a, f b a = g b a) : ∀ (l : List α) (b : β), l.foldl f b = l.foldl g b
  | [], b => rfl
  | a :: r, b => by rw [List.foldl_cons, List.foldl_cons, h, foldl_ext h r]
theorem foldl_filt {α β : Type} {p : α → Bool} {f : β → α → β} : ∀ (l : List α) (b : β), (l.filter p).foldl f b = l.foldl (fun b a => if p a then f b a else b) b
  | [], b => rfl
  | a :: r, b => by
    by_cases h : p a
    · rw [List.filter_cons_of_pos h, List.foldl_cons, List.foldl_cons, foldl_filt r, if_pos h]
    · rw [List.filter_cons_of_neg h, List.foldl_cons, foldl_filt r, if_neg h]
theorem insL_C (x : Inp) (i m : Nat) (M : List (Key × Arc)) : insL x i m M x.insert.length = (insC x i m).foldl addM M := by
  rw [insL, insC, List.foldl_map]
theorem stepRead_C {x : Inp} {i m : Nat} (M : List (Key × Arc)) (hm : m ≤ x.cols.length) : stepRead x i m M = (if m > i then readC x i (m - 1) else []).foldl addM M := by
  unfold stepRead
  by_cases h : m > i
  · rw [if_pos h, if_pos h, readC, if_pos (by omega), readsL, List.foldl_map, foldl_filt]
    refine foldl_ext (fun b a => ?_) _ _
    simp only [readStep, decide_eq_true_eq]
  · rw [if_neg h, if_neg h]; rfl
theorem swC_fold (x : Inp) (i m : Nat) {α : Type} (f : α → Arc → α) (b : α) : (swC x i m).foldl f b = if swapB x m then f b (swapArc x i m) else b := by
  unfold swC; split <;> rfl
theorem laC_fold (x : Inp) (i : Nat) {α : Type} (f : α → Arc → α) (b : α) : (laC x i).foldl f b = if swapB x i then f b (lastArc x i) else b := by
  unfold laC; split <;> rfl
theorem stepFrom_C {x : Inp} {i m : Nat} (M : List (Key × Arc)) (hm : m ≤ x.cols.length) : stepFrom x i M m = (stepC x i m).foldl addM M := by
  rw [stepC, List.foldl_append, List.foldl_append, ← stepRead_C M hm, ← insL_C, swC_fold]; rfl
theorem foldl_mem {α β : Type} {f g : β → α → β} : ∀ (l : List α) (b : β), (∀ a ∈ l, ∀ b, f b a = g b a) → l.foldl f b = l.foldl g b
  | [], b, _ => rfl
  | a :: r, b, h => by rw [List.foldl_cons, List.foldl_cons, h a (by simp), foldl_mem r _ fun a ha => h a (by simp [ha])]
theorem fromTo_C {x : Inp} {i : Nat} (M : List (Key × Arc)) : fromTo x i M (x.cols.length + 1 - i) = ((List.range (x.cols.length + 1 - i)).flatMap fun j => stepC x i (i + j)).foldl addM M := by
  rw [foldl_flat, fromTo]
  refine foldl_mem _ _ fun j hj b => ?_
  have := List.mem_range.1 hj
  exact stepFrom_C b (by omega)
theorem fromL_C {x : Inp} {i : Nat} (M : List (Key × Arc)) : fromL x i M = (fromC x i).foldl addM M := by
  rw [fromC, List.foldl_append, laC_fold, ← fromTo_C]; rfl
theorem buildM_C (x : Inp) : buildM x (x.cols.length + 1) = (bC x).foldl addM [] := by
  rw [bC, foldl_flat, buildM]
  exact foldl_ext (fun b a => fromL_C b) _ _
theorem rTs_C (x : Inp) (i m : Nat) (L : List Arc) : rTs x i m L x.insert.length = (readC x i m).foldl putL L := by
  unfold readC rTs
  by_cases h : m < x.cols.length
  · rw [if_pos h, List.foldl_map, foldl_filt]
    refine foldl_ext (fun b a => ?_) _ _
    simp only [rT, h, true_and, decide_eq_true_eq]
  · rw [if_neg h]
    have : ∀ (l : List Nat) (L : List Arc), l.foldl (rT x i m) L = L := by
      intro l
      induction l with
      | nil => intro L; rfl
      | cons a r ih => intro L; rw [List.foldl_cons, ih]; simp [rT, h]
    exact this _ _
theorem rI_C (x : Inp) (L : List Arc) (i : Nat) : rI x L i = (rC1 x i).foldl putL L := by
  rw [rC1, List.foldl_append, laC_fold, foldl_flat]
  have : rMs x i L (x.cols.length + 1 - i) = (List.range (x.cols.length + 1 - i)).foldl (fun b a => (readC x i (i + a) ++ swC x i (i + a)).foldl putL b) L := by
    refine foldl_ext (fun b j => ?_) _ _
    rw [List.foldl_append, swC_fold, ← rTs_C]; rfl
  rw [← this]; rfl
theorem refA_C (x : Inp) : refA x = (rC x).foldl putL [] := by
  rw [rC, List.foldl_append, foldl_flat, foldl_flat, refA, iIs]
  have h1 : rIs x (x.cols.length + 1) = (List.range (x.cols.length + 1)).foldl (fun b a => (rC1 x a).foldl putL b) [] := foldl_ext (fun b i => rI_C x b i) _ _
  rw [h1]
  refine foldl_ext (fun b i => ?_) _ _
  rw [rC2, foldl_flat, iMs]
  refine foldl_ext (fun b j => ?_) _ _
  rw [insC, List.foldl_map]; rfl

/-- Only one of the parts says something. -/
theorem flat_one {β : Type} (f : Nat → List β) (j : Nat) : ∀ (n : Nat), (∀ i, i < n → i ≠ j → f i = []) → (List.range n).flatMap f = if j < n then f j else []
  | 0, _ => rfl
  | n + 1, h => by
    rw [List.range_succ, List.flatMap_append, flat_one f j n fun i hi => h i (by omega)]
    by_cases hj : j < n
    · rw [if_pos hj, if_pos (by omega)]
      simp [h n (by omega) (by omega)]
    · rw [if_neg hj]
      by_cases hn : j = n
      · subst hn; simp
      · rw [if_neg (by omega)]; simp [h n (by omega) (Ne.symm hn)]
theorem flat_none {β : Type} (f : Nat → List β) (n : Nat) (h : ∀ i, i < n → f i = []) : (List.range n).flatMap f = [] := by
  rw [flat_one f n n fun i hi _ => h i hi]; simp
theorem fk_nil {k : Key} {cs : List Arc} (h : ∀ a ∈ cs, k ≠ keyOf a) : fk k cs = [] := by
  simp only [fk, List.filter_eq_nil_iff, decide_eq_true_eq]; exact h
theorem mem_readC {x : Inp} {i m : Nat} {a : Arc} (h : a ∈ readC x i m) : m < x.cols.length ∧ ∃ t, t < x.insert.length ∧ (readAt x m).getD t 0 ≥ 0 ∧ a = readArc i m (delS x i m) (delOps (m - i)) (readAt x m) t := by
  unfold readC at h
  split at h
  · rename_i hm
    obtain ⟨t, ht, rfl⟩ := List.mem_map.1 h
    have := List.mem_filter.1 ht
    exact ⟨hm, t, List.mem_range.1 this.1, by simpa using this.2, rfl⟩
  · cases h
theorem mem_insC {x : Inp} {i m : Nat} {a : Arc} (h : a ∈ insC x i m) : ∃ t, t < x.insert.length ∧ a = insArc x i m t := by
  obtain ⟨t, ht, rfl⟩ := List.mem_map.1 h
  exact ⟨t, List.mem_range.1 ht, rfl⟩
theorem mem_swC {x : Inp} {i m : Nat} {a : Arc} (h : a ∈ swC x i m) : swapB x m = true ∧ a = swapArc x i m := by
  unfold swC at h; split at h
  · exact ⟨by assumption, by simpa using h⟩
  · cases h
theorem mem_laC {x : Inp} {i : Nat} {a : Arc} (h : a ∈ laC x i) : swapB x i = true ∧ a = lastArc x i := by
  unfold laC at h; split at h
  · exact ⟨by assumption, by simpa using h⟩
  · cases h
theorem fk_readC {x : Inp} {i m : Nat} {k : Key} (h : ¬ (k.frm = 2 * i ∧ k.to = 2 * m + 2)) : fk k (readC x i m) = [] := fk_nil fun a ha e => by
  obtain ⟨_, t, _, _, rfl⟩ := mem_readC ha
  exact h (by rw [e]; exact ⟨rfl, rfl⟩)
theorem fk_insC {x : Inp} {i m : Nat} {k : Key} (h : ¬ (k.frm = 2 * i ∧ k.to = 2 * m)) : fk k (insC x i m) = [] := fk_nil fun a ha e => by
  obtain ⟨t, _, rfl⟩ := mem_insC ha
  exact h (by rw [e]; exact ⟨rfl, rfl⟩)
theorem fk_swC {x : Inp} {i m : Nat} {k : Key} (h : ¬ (k.frm = 2 * i ∧ k.to = 2 * m + 1)) : fk k (swC x i m) = [] := fk_nil fun a ha e => by
  obtain ⟨_, rfl⟩ := mem_swC ha
  exact h (by rw [e]; exact ⟨rfl, rfl⟩)
theorem fk_laC {x : Inp} {i : Nat} {k : Key} (h : ¬ (k.frm = 2 * i + 1 ∧ k.to = 2 * i + 4)) : fk k (laC x i) = [] := fk_nil fun a ha e => by
  obtain ⟨_, rfl⟩ := mem_laC ha
  exact h (by rw [e]; exact ⟨rfl, rfl⟩)
theorem fk_stepC {x : Inp} {i m : Nat} {k : Key} (him : i ≤ m) (h : ¬ (k.frm = 2 * i ∧ (k.to = 2 * m ∨ k.to = 2 * m + 1))) : fk k (stepC x i m) = [] := by
  rw [stepC, fk_append, fk_append, fk_insC (by omega), fk_swC (by omega)]
  split
  · rw [fk_readC (by omega)]; rfl
  · rfl
theorem fk_rs {x : Inp} {i m : Nat} {k : Key} (h : ¬ (k.frm = 2 * i ∧ (k.to = 2 * m + 2 ∨ k.to = 2 * m + 1))) : fk k (readC x i m ++ swC x i m) = [] := by
  rw [fk_append, fk_readC (by omega), fk_swC (by omega)]; rfl
theorem fk_if (k : Key) (p : Prop) [Decidable p] (a b : List Arc) : fk k (if p then a else b) = if p then fk k a else fk k b := by split <;> rfl

theorem fb_even (x : Inp) {i m : Nat} (t : Int) (him : i ≤ m) (hm : m ≤ x.cols.length) : fk ⟨2 * i, 2 * m, t⟩ (bC x) = (if m > i then fk ⟨2 * i, 2 * m, t⟩ (readC x i (m - 1)) else []) ++ fk ⟨2 * i, 2 * m, t⟩ (insC x i m) := by
  rw [bC, fk_flatMap, flat_one _ i, if_pos (by omega), fromC, fk_append, fk_flatMap, fk_laC (by simp only; omega), List.append_nil, flat_one _ (m - i), if_pos (by omega)]
  · rw [show i + (m - i) = m by omega, stepC, fk_append, fk_append, fk_swC (by simp only; omega), List.append_nil, fk_if]; rfl
  · intro j hj hne; exact fk_stepC (by omega) (by simp only; omega)
  · intro j hj hne
    rw [fromC, fk_append, fk_laC (by simp only; omega), fk_flatMap, List.append_nil]
    exact flat_none _ _ fun j' _ => fk_stepC (by omega) (by simp only; omega)
theorem fb_odd (x : Inp) {i m : Nat} (t : Int) (him : i ≤ m) (hm : m ≤ x.cols.length) : fk ⟨2 * i, 2 * m + 1, t⟩ (bC x) = fk ⟨2 * i, 2 * m + 1, t⟩ (swC x i m) := by
  rw [bC, fk_flatMap, flat_one _ i, if_pos (by omega), fromC, fk_append, fk_flatMap, fk_laC (by simp only; omega), List.append_nil, flat_one _ (m - i), if_pos (by omega)]
  · rw [show i + (m - i) = m by omega, stepC, fk_append, fk_append, fk_insC (by simp only; omega), List.append_nil, fk_if, fk_readC (by simp only; omega)]
    simp [fk]
  · intro j hj hne; exact fk_stepC (by omega) (by simp only; omega)
  · intro j hj hne
    rw [fromC, fk_append, fk_laC (by simp only; omega), fk_flatMap, List.append_nil]
    exact flat_none _ _ fun j' _ => fk_stepC (by omega) (by simp only; omega)
theorem fb_la (x : Inp) {i : Nat} (t : Int) (hi : i ≤ x.cols.length) : fk ⟨2 * i + 1, 2 * i + 4, t⟩ (bC x) = fk ⟨2 * i + 1, 2 * i + 4, t⟩ (laC x i) := by
  rw [bC, fk_flatMap, flat_one _ i, if_pos (by omega), fromC, fk_append, fk_flatMap, flat_none, List.nil_append]
  · intro j hj; exact fk_stepC (by omega) (by simp only; omega)
  · intro j hj hne
    rw [fromC, fk_append, fk_laC (by simp only; omega), fk_flatMap, List.append_nil]
    exact flat_none _ _ fun j' _ => fk_stepC (by omega) (by simp only; omega)
theorem fr_even (x : Inp) {i m : Nat} (t : Int) (him : i ≤ m) (hm : m ≤ x.cols.length) : fk ⟨2 * i, 2 * m, t⟩ (rC x) = (if m > i then fk ⟨2 * i, 2 * m, t⟩ (readC x i (m - 1)) else []) ++ fk ⟨2 * i, 2 * m, t⟩ (insC x i m) := by
  rw [rC, fk_append, fk_flatMap, fk_flatMap, flat_one _ i, if_pos (by omega), flat_one (fun i_1 => fk _ (rC2 x i_1)) i, if_pos (by omega)]
  · congr 1
    · rw [rC1, fk_append, fk_flatMap, fk_laC (by simp only; omega), List.append_nil]
      by_cases h : m > i
      · rw [flat_one _ (m - 1 - i), if_pos (by omega), if_pos h, show i + (m - 1 - i) = m - 1 by omega, fk_append, fk_swC (by simp only; omega), List.append_nil]
        intro j hj hne; exact fk_rs (by simp only; omega)
      · rw [if_neg h]
        exact flat_none _ _ fun j hj => fk_rs (by simp only; omega)
    · rw [rC2, fk_flatMap, flat_one _ (m - i), if_pos (by omega), show i + (m - i) = m by omega]
      intro j hj hne; exact fk_insC (by simp only; omega)
  · intro j hj hne
    rw [rC2, fk_flatMap]
    exact flat_none _ _ fun j' _ => fk_insC (by simp only; omega)
  · intro j hj hne
    rw [rC1, fk_append, fk_laC (by simp only; omega), fk_flatMap, List.append_nil]
    exact flat_none _ _ fun j' _ => fk_rs (by simp only; omega)
theorem rC2_odd (x : Inp) {k : Key} (h : ∀ m : Nat, k.to ≠ 2 * m) (i : Nat) : fk k (rC2 x i) = [] := by
  rw [rC2, fk_flatMap]; exact flat_none _ _ fun j _ => fk_insC (fun e => h _ (by have := e.2; omega))
theorem fr_odd (x : Inp) {i m : Nat} (t : Int) (him : i ≤ m) (hm : m ≤ x.cols.length) : fk ⟨2 * i, 2 * m + 1, t⟩ (rC x) = fk ⟨2 * i, 2 * m + 1, t⟩ (swC x i m) := by
  rw [rC, fk_append, fk_flatMap, fk_flatMap, flat_one _ i, if_pos (by omega), flat_none (fun i_1 => fk _ (rC2 x i_1)), List.append_nil, rC1, fk_append, fk_flatMap, fk_laC (by simp only; omega), List.append_nil, flat_one _ (m - i), if_pos (by omega), show i + (m - i) = m by omega, fk_append, fk_readC (by simp only; omega), List.nil_append]
  · intro j hj hne; exact fk_rs (by simp only; omega)
  · intro j _; exact rC2_odd x (fun m' => by simp only; omega) j
  · intro j hj hne
    rw [rC1, fk_append, fk_laC (by simp only; omega), fk_flatMap, List.append_nil]
    exact flat_none _ _ fun j' _ => fk_rs (by simp only; omega)
theorem fr_la (x : Inp) {i : Nat} (t : Int) (hi : i ≤ x.cols.length) : fk ⟨2 * i + 1, 2 * i + 4, t⟩ (rC x) = fk ⟨2 * i + 1, 2 * i + 4, t⟩ (laC x i) := by
  rw [rC, fk_append, fk_flatMap, fk_flatMap, flat_one _ i, if_pos (by omega), flat_none (fun i_1 => fk _ (rC2 x i_1)), List.append_nil, rC1, fk_append, fk_flatMap, flat_none, List.nil_append]
  · intro j hj; exact fk_rs (by simp only; omega)
  · intro j _; rw [rC2, fk_flatMap]; exact flat_none _ _ fun j' _ => fk_insC (by simp only; omega)
  · intro j hj hne
    rw [rC1, fk_append, fk_laC (by simp only; omega), fk_flatMap, List.append_nil]
    exact flat_none _ _ fun j' _ => fk_rs (by simp only; omega)

/-- Which keys the candidates have. -/
def shp (x : Inp) (k : Key) : Prop := (∃ i m : Nat, i ≤ m ∧ m ≤ x.cols.length ∧ k.frm = 2 * i ∧ (k.to = 2 * m ∨ k.to = 2 * m + 1)) ∨ ∃ i : Nat, i ≤ x.cols.length ∧ k.frm = 2 * i + 1 ∧ k.to = 2 * i + 4
theorem fb_none (x : Inp) {k : Key} (h : ¬ shp x k) : fk k (bC x) = [] := by
  rw [bC, fk_flatMap]
  refine flat_none _ _ fun i hi => ?_
  rw [fromC, fk_append, fk_laC (fun e => h (.inr ⟨i, by omega, e⟩)), List.append_nil, fk_flatMap]
  exact flat_none _ _ fun j hj => fk_stepC (by omega) fun e => h (.inl ⟨i, i + j, by omega, by omega, e⟩)
theorem fr_none (x : Inp) {k : Key} (h : ¬ shp x k) : fk k (rC x) = [] := by
  rw [rC, fk_append, fk_flatMap, fk_flatMap, flat_none, flat_none]; rfl
  · intro i hi
    rw [rC2, fk_flatMap]
    exact flat_none _ _ fun j hj => fk_insC fun e => h (.inl ⟨i, i + j, by omega, by omega, e.1, .inl e.2⟩)
  · intro i hi
    rw [rC1, fk_append, fk_laC (fun e => h (.inr ⟨i, by omega, e⟩)), List.append_nil, fk_flatMap]
    refine flat_none _ _ fun j hj => ?_
    by_cases hn : i + j < x.cols.length
    · refine fk_rs fun e => ?_
      rcases e with ⟨e1, e2 | e2⟩
      · exact h (.inl ⟨i, i + j + 1, by omega, by omega, e1, .inl (by omega)⟩)
      · exact h (.inl ⟨i, i + j, by omega, by omega, e1, .inr e2⟩)
    · rw [fk_append, fk_swC fun e => h (.inl ⟨i, i + j, by omega, by omega, e.1, .inr e.2⟩), readC, if_neg hn]; rfl
theorem fb_eq_fr (x : Inp) (k : Key) : fk k (bC x) = fk k (rC x) := by
  by_cases h : shp x k
  · obtain ⟨kf, kt, t⟩ := k
    rcases h with ⟨i, m, h1, h2, h3, h4 | h4⟩ | ⟨i, h1, h3, h4⟩
    · simp only at h3 h4; subst h3; subst h4; rw [fb_even x t h1 h2, fr_even x t h1 h2]
    · simp only at h3 h4; subst h3; subst h4; rw [fb_odd x t h1 h2, fr_odd x t h1 h2]
    · simp only at h3 h4; subst h3; subst h4; rw [fb_la x t h1, fr_la x t h1]
  · rw [fb_none x h, fr_none x h]
def bestC (x : Inp) (k : Key) : Option Arc := (fk k (bC x)).foldl bst none
theorem getM_build (x : Inp) (k : Key) : getM (buildM x (x.cols.length + 1)) k = bestC x k := by rw [buildM_C, getM_fold]; rfl
theorem refA_sorted (x : Inp) : Sorted (refA x) := by rw [refA_C]; exact (getL_fold ⟨0, 0, 0⟩ (rC x) [] List.Pairwise.nil).1
theorem getL_ref (x : Inp) (k : Key) : getL (refA x) k = bestC x k := by rw [refA_C, (getL_fold k (rC x) [] List.Pairwise.nil).2, ← fb_eq_fr]; rfl
theorem setM_keys (M : List (Key × Arc)) (k : Key) (a : Arc) : (setM M k a).map (·.1) = if k ∈ M.map (·.1) then M.map (·.1) else M.map (·.1) ++ [k] := by
  induction M with
  | nil => simp [setM]
  | cons p r ih =>
    obtain ⟨k', a'⟩ := p
    simp only [setM]
    by_cases h : k = k'
    · subst h; simp
    · rw [if_neg h, List.map_cons, ih]
      by_cases h2 : k ∈ r.map (·.1)
      · rw [if_pos h2, if_pos (by simp at h2 ⊢; exact .inr h2)]; rfl
      · rw [if_neg h2, if_neg (by simp at h2 ⊢; exact ⟨h, h2⟩)]; simp
theorem addM_nodup {M : List (Key × Arc)} (h : (M.map (·.1)).Nodup) (a : Arc) : ((addM M a).map (·.1)).Nodup := by
  have hs : ((setM M (keyOf a) a).map (·.1)).Nodup := by
    rw [setM_keys]; split
    · exact h
    · rename_i hn
      rw [List.nodup_append]
      exact ⟨h, by simp, fun x hx y hy e => by simp at hy; subst hy; subst e; exact hn hx⟩
  unfold addM
  split
  · split
    · exact hs
    · split
      · exact hs
      · exact h
  · exact h
theorem foldM_nodup : ∀ (cs : List Arc) {M : List (Key × Arc)}, (M.map (·.1)).Nodup → ((cs.foldl addM M).map (·.1)).Nodup
  | [], _, h => h
  | a :: r, _, h => foldM_nodup r (addM_nodup h a)
theorem getM_some_iff (M : List (Key × Arc)) (k : Key) : k ∈ M.map (·.1) ↔ (getM M k).isSome := by
  induction M with
  | nil => simp [getM]
  | cons p r ih =>
    obtain ⟨k', a'⟩ := p
    simp only [getM, List.map_cons, List.mem_cons, ih]
    by_cases h : k = k' <;> simp [h]
theorem buildA_ref (x : Inp) : buildA x = refA x := by
  unfold buildA
  have hk : sortK ((buildM x (x.cols.length + 1)).map (·.1)) = (refA x).map keyOf := by
    have hsr := refA_sorted x
    refine sortK_eq ?_ ?_
    · refine (List.perm_ext_iff_of_nodup ?_ ?_).2 fun k => ?_
      · exact List.pairwise_map.2 (hsr.imp fun {a b} h (e : keyOf a = keyOf b) => by rw [e] at h; exact ltK_irr _ h)
      · rw [buildM_C]; exact foldM_nodup _ List.nodup_nil
      · rw [getM_some_iff, getM_build, ← getL_ref]
        constructor
        · intro h
          obtain ⟨a, ha, rfl⟩ := List.mem_map.1 h
          rw [getL_of_mem hsr ha]; rfl
        · intro h
          obtain ⟨a, ha⟩ := Option.isSome_iff_exists.1 h
          have := getL_mem ha
          rw [this.2]; exact List.mem_map_of_mem this.1
    · refine List.pairwise_map.2 (hsr.imp fun {a b} h => (leK_iff _ _).2 fun h2 => ?_)
      exact ltK_irr _ (ltK_trans h h2)
  rw [hk, List.map_map]
  conv => rhs; rw [← List.map_id (refA x)]
  refine List.map_congr_left fun a ha => ?_
  simp only [Function.comp, arcOf, getM_build, ← getL_ref]
  rw [getL_of_mem (refA_sorted x) ha]; rfl
theorem buildL_ref (x : Inp) : buildL x = refL x := by rw [buildL, refL, buildA_ref]
theorem bst_mem : ∀ (cs : List Arc) (o : Option Arc) (a : Arc), cs.foldl bst o = some a → (a ∈ cs ∧ a.cost < 1099511627776) ∨ o = some a
  | [], o, a, h => .inr h
  | c :: r, o, a, h => by
    rcases bst_mem r (bst o c) a h with h | h
    · exact .inl ⟨List.mem_cons_of_mem _ h.1, h.2⟩
    · unfold bst at h
      split at h
      · split at h
        · cases h; exact .inl ⟨by simp, by assumption⟩
        · split at h
          · cases h; exact .inl ⟨by simp, by assumption⟩
          · exact .inr h
      · exact .inr h
theorem fk_mem {k : Key} {cs : List Arc} {a : Arc} (h : a ∈ fk k cs) : a ∈ cs ∧ k = keyOf a := by
  have := List.mem_filter.1 h
  exact ⟨this.1, by simpa using this.2⟩
theorem refA_mem {x : Inp} {a : Arc} (h : a ∈ refA x) : a ∈ bC x ∧ a.cost < 1099511627776 := by
  have h1 := getL_of_mem (refA_sorted x) h
  rw [getL_ref, bestC] at h1
  rcases bst_mem _ _ _ h1 with h | h
  · exact ⟨(fk_mem h.1).1, h.2⟩
  · cases h
theorem mem_bC {x : Inp} {a : Arc} (h : a ∈ bC x) : ∃ i m : Nat, i ≤ m ∧ m ≤ x.cols.length ∧ (a ∈ readC x i m ∨ a ∈ insC x i m ∨ a ∈ swC x i m ∨ a ∈ laC x i) := by
  obtain ⟨i, hi, h⟩ := List.mem_flatMap.1 h
  have hi := List.mem_range.1 hi
  rcases List.mem_append.1 h with h | h
  · obtain ⟨j, hj, h⟩ := List.mem_flatMap.1 h
    have hj := List.mem_range.1 hj
    rcases List.mem_append.1 h with h | h
    · rcases List.mem_append.1 h with h | h
      · split at h
        · exact ⟨i, i + j - 1, by omega, by omega, .inl h⟩
        · cases h
      · exact ⟨i, i + j, by omega, by omega, .inr (.inl h)⟩
    · exact ⟨i, i + j, by omega, by omega, .inr (.inr (.inl h))⟩
  · exact ⟨i, i, by omega, by omega, .inr (.inr (.inr h))⟩
theorem getD_bd {P : Int → Prop} {xs : List Int} {i : Nat} (hi : i < xs.length) (h : ∀ p ∈ xs, P p) : P (xs.getD i 0) := by
  have : xs.getD i 0 = xs[i] := by simp [List.getD_eq_getElem?_getD, hi]
  rw [this]; exact h _ (List.getElem_mem hi)
theorem kind_bd {x : Inp} (hx : WF x) {m : Nat} (h : m < x.cols.length) : kindAt x m < x.insert.length := by
  have := hx.cols x.cols[m] (List.getElem_mem h)
  simp only [kindAt, List.getElem?_eq_getElem h]; exact this.2.1
theorem swapB_kind {x : Inp} {m : Nat} (h : swapB x m = true) : 0 ≤ kindAt x m ∧ 0 ≤ kindAt x (m + 1) ∧ x.swap > 0 := by
  unfold swapB at h
  simp only [Bool.and_eq_true, decide_eq_true_eq] at h
  obtain ⟨h1, h⟩ := h
  split at h
  · rename_i a b ha hb
    simp only [Bool.and_eq_true, decide_eq_true_eq] at h
    exact ⟨by simp [kindAt, ha]; omega, by simp [kindAt, hb]; omega, h1⟩
  · cases h
theorem readAt_bd {x : Inp} (hx : WF x) {m t : Nat} (h : m < x.cols.length) (ht : t < x.insert.length) : -1 ≤ (readAt x m).getD t 0 ∧ (readAt x m).getD t 0 ≤ 60000 := by
  have := hx.cols x.cols[m] (List.getElem_mem h)
  have e : readAt x m = x.cols[m].read := by simp [readAt, List.getElem?_eq_getElem h]
  rw [e]
  exact getD_bd (P := fun p => -1 ≤ p ∧ p ≤ 60000) (by omega) this.2.2.2.2.2
structure ArcW (x : Inp) (a : Arc) : Prop where
  f : 0 ≤ a.frm
  ft : a.frm ≤ a.to
  t : a.to ≤ 2 * x.cols.length
  k : 0 ≤ a.term ∧ a.term < x.insert.length
  c : 0 ≤ a.cost ∧ (a.frm = a.to → 0 < a.cost)
  o : a.ops.length ≤ x.cols.length + 1
theorem bC_ok {x : Inp} (hx : WF x) {a : Arc} (h : a ∈ bC x) : ArcW x a := by
  obtain ⟨i, m, him, hm, h⟩ := mem_bC h
  have hd := delS_bd hx him hm
  rcases h with h | h | h | h
  · obtain ⟨hm', t, ht, hr, rfl⟩ := mem_readC h
    refine ⟨?_, ?_, ?_, ?_, ?_, ?_⟩ <;> simp only [readArc, delOps, List.length_append, List.length_replicate, List.length_singleton] <;> omega
  · obtain ⟨t, ht, rfl⟩ := mem_insC h
    have := getD_bd (P := fun p => 1 ≤ p ∧ p ≤ 60000) ht hx.ins
    refine ⟨?_, ?_, ?_, ?_, ?_, ?_⟩ <;> simp only [insArc, delOps, List.length_append, List.length_replicate, List.length_singleton] <;> omega
  · obtain ⟨hs, rfl⟩ := mem_swC h
    have h1 := swapB_lt hs
    have h2 := swapB_kind hs
    have h3 := kind_bd hx h1
    have h4 := hx.swap
    refine ⟨?_, ?_, ?_, ?_, ?_, ?_⟩ <;> simp only [swapArc, delOps, List.length_append, List.length_replicate, List.length_singleton] <;> omega
  · obtain ⟨hs, rfl⟩ := mem_laC h
    have h1 := swapB_lt hs
    have h2 := swapB_kind hs
    have h3 := kind_bd hx (show i < x.cols.length by omega)
    refine ⟨?_, ?_, ?_, ?_, ?_, ?_⟩ <;> simp only [lastArc, List.length_nil] <;> omega
theorem refA_ok {x : Inp} (hx : WF x) {a : Arc} (h : a ∈ refA x) : ArcW x a ∧ a.cost < 1099511627776 := ⟨bC_ok hx (refA_mem h).1, (refA_mem h).2⟩
theorem finAt_bd {x : Inp} (hx : WF x) (i : Nat) {s : Nat} (hs : s < 2 * x.cols.length + 1) : 0 ≤ finAt x i s ∧ finAt x i s ≤ 1099511627776 := by
  unfold finAt; split
  · exact delS_bd hx (by omega) (by omega)
  · omega
theorem valid_build {x : Inp} (hx : WF x) : validB (refL x) x.insert.length = true := by
  unfold validB
  simp only [Bool.and_eq_true, decide_eq_true_eq, List.all_eq_true]
  refine ⟨⟨⟨?_, ?_⟩, ?_⟩, ?_⟩
  · simp only [refL]; omega
  · simp [refL, finTo]
  · intro f hf
    simp only [refL, finTo, List.mem_map, List.mem_range] at hf
    obtain ⟨s, hs, rfl⟩ := hf
    have := finAt_bd hx (x.cols.length + 1) hs
    simp [finOk, this]
  · intro i hi
    have hi : i < (refA x).length := by simpa [refL] using hi
    unfold arcOk
    simp only [refL, List.getElem?_eq_getElem hi, Bool.and_eq_true, Bool.or_eq_true, Bool.not_eq_true']
    obtain ⟨ha, hc⟩ := refA_ok hx (List.getElem_mem hi)
    constructor
    · have := ha.f; have := ha.ft; have := ha.t; have := ha.k; have := ha.c
      simp only [arcBad, Bool.or_eq_false_iff, decide_eq_false_iff_not, Bool.and_eq_false_iff]
      omega
    · cases i with
      | zero => exact .inl rfl
      | succ i =>
        refine .inr ?_
        have hi' : i < (refA x).length := by omega
        rw [Nat.add_sub_cancel, List.getElem?_eq_getElem hi']
        simp only
        rw [before_lt]
        exact List.pairwise_iff_getElem.1 (refA_sorted x) i (i + 1) hi' hi (by omega)

/-- The tokens before a boundary. -/
def cut (x : Inp) (k : Nat) : Inp := ⟨x.cols.take k, x.insert, x.swap⟩
theorem cut_len {x : Inp} {k : Nat} (hk : k ≤ x.cols.length) : (cut x k).cols.length = k := by simp [cut]; omega
theorem cut_wf {x : Inp} (hx : WF x) (k : Nat) : WF (cut x k) := by
  obtain ⟨h1, h2, h3, h4, h5⟩ := hx
  refine ⟨?_, fun c hc => h2 c (List.mem_of_mem_take hc), h3, h4, h5⟩
  simp only [cut, List.length_take]; omega
theorem cut_get {x : Inp} {k m : Nat} (hm : m < k) : (cut x k).cols[m]? = x.cols[m]? := by
  simp only [cut, List.getElem?_take, hm, if_true]
theorem cut_delS {x : Inp} {k i m : Nat} (hm : m ≤ k) : delS (cut x k) i m = delS x i m := by
  unfold delS
  congr 1
  simp only [cut]
  rw [List.drop_take, List.take_take]
  congr 1; omega
theorem cut_readAt {x : Inp} {k m : Nat} (hm : m < k) : readAt (cut x k) m = readAt x m := by simp only [readAt, cut_get hm]
theorem cut_kindAt {x : Inp} {k m : Nat} (hm : m < k) : kindAt (cut x k) m = kindAt x m := by simp only [kindAt, cut_get hm]
theorem cut_swapB {x : Inp} {k m : Nat} (hm : m + 1 < k) : swapB (cut x k) m = swapB x m := by
  simp only [swapB, cut_get hm, cut_get (show m < k by omega)]; rfl
theorem cut_swapB' {x : Inp} {k m : Nat} (hm : ¬ m + 1 < k) : swapB (cut x k) m = false := by
  cases h : swapB (cut x k) m with
  | false => rfl
  | true =>
    have := swapB_lt h
    simp only [cut, List.length_take] at this
    omega
theorem cut_readC {x : Inp} {k i m : Nat} (hk : k ≤ x.cols.length) (hm : m < k) : readC (cut x k) i m = readC x i m := by
  unfold readC
  rw [cut_len hk, if_pos hm, if_pos (by omega), cut_readAt hm, cut_delS (by omega)]; rfl
theorem cut_insC {x : Inp} {k i m : Nat} (hm : m ≤ k) : insC (cut x k) i m = insC x i m := by
  unfold insC insArc
  rw [cut_delS hm]; rfl
theorem cut_swC {x : Inp} {k i m : Nat} (hm : m + 1 < k) : swC (cut x k) i m = swC x i m := by
  unfold swC swapArc
  rw [cut_swapB hm, cut_kindAt hm, cut_delS (by omega)]; rfl
theorem cut_swC' {x : Inp} {k i m : Nat} (hm : ¬ m + 1 < k) : swC (cut x k) i m = [] := by
  unfold swC; rw [cut_swapB' hm]; rfl
theorem cut_laC {x : Inp} {k i : Nat} (hm : i + 1 < k) : laC (cut x k) i = laC x i := by
  unfold laC lastArc
  rw [cut_swapB hm, cut_kindAt (by omega)]
theorem cut_laC' {x : Inp} {k i : Nat} (hm : ¬ i + 1 < k) : laC (cut x k) i = [] := by
  unfold laC; rw [cut_swapB' hm]; rfl
/-- Does an arc lie before a boundary? -/
def befK (k : Nat) (a : Key) : Bool := !(decide (a.to > 2 * k) || decide (a.to = 2 * k - 1))
theorem befK_iff (k : Nat) (a : Key) : befK k a = true ↔ ¬ (a.to > 2 * k ∨ a.to = 2 * k - 1) := by
  simp [befK]
theorem fk_cut {x : Inp} {k : Nat} (hk : k ≤ x.cols.length) (q : Key) : fk q (bC (cut x k)) = if befK k q then fk q (bC x) else [] := by
  have hl := cut_len hk
  by_cases h : shp x q
  · obtain ⟨qf, qt, t⟩ := q
    rcases h with ⟨i, m, h1, h2, h3, h4 | h4⟩ | ⟨i, h1, h3, h4⟩
    · simp only at h3 h4; subst h3; subst h4
      by_cases hm : m ≤ k
      · rw [if_pos ((befK_iff _ _).2 (by simp only; omega)), fb_even x t h1 h2, fb_even (cut x k) t h1 (by omega), cut_insC hm]
        congr 1
        by_cases h : m > i
        · rw [if_pos h, if_pos h, cut_readC hk (by omega)]
        · rw [if_neg h, if_neg h]
      · rw [if_neg (by rw [befK_iff]; simp only; omega), fb_none]
        rintro (⟨i', m', a1, a2, a3, a4⟩ | ⟨i', a1, a2, a3⟩) <;> simp only at * <;> omega
    · simp only at h3 h4; subst h3; subst h4
      by_cases hm : m + 1 < k
      · rw [if_pos ((befK_iff _ _).2 (by simp only; omega)), fb_odd x t h1 h2, fb_odd (cut x k) t h1 (by omega), cut_swC hm]
      · rw [if_neg (by rw [befK_iff]; simp only; omega)]
        by_cases hm' : m ≤ k
        · rw [fb_odd (cut x k) t h1 (by omega), cut_swC' hm]; rfl
        · rw [fb_none]
          rintro (⟨i', m', a1, a2, a3, a4⟩ | ⟨i', a1, a2, a3⟩) <;> simp only at * <;> omega
    · simp only at h3 h4; subst h3; subst h4
      by_cases hm : i + 1 < k
      · rw [if_pos ((befK_iff _ _).2 (by simp only; omega)), fb_la x t h1, fb_la (cut x k) t (by omega), cut_laC hm]
      · rw [if_neg (by rw [befK_iff]; simp only; omega)]
        by_cases hm' : i ≤ k
        · rw [fb_la (cut x k) t (by omega), cut_laC' hm]; rfl
        · rw [fb_none]
          rintro (⟨i', m', a1, a2, a3, a4⟩ | ⟨i', a1, a2, a3⟩) <;> simp only at * <;> omega
  · rw [fb_none x h, fb_none, ite_self]
    rintro (⟨i', m', a1, a2, a3, a4⟩ | ⟨i', a1, a2, a3⟩)
    · exact h (.inl ⟨i', m', a1, by omega, a3, a4⟩)
    · exact h (.inr ⟨i', by omega, a2, a3⟩)
theorem getL_filter (p : Key → Bool) (k : Key) : ∀ L : List Arc, getL (L.filter fun a => p (keyOf a)) k = if p k then getL L k else none
  | [] => by simp [getL]
  | a :: r => by
    have ih := getL_filter p k r
    by_cases h : p (keyOf a) = true
    · rw [List.filter_cons_of_pos (by simpa using h)]
      simp only [getL, ih]
      by_cases hk : k = keyOf a
      · subst hk; simp [h]
      · simp [hk]
    · rw [List.filter_cons_of_neg (by simpa using h), ih]
      simp only [getL]
      by_cases hk : k = keyOf a
      · subst hk; simp [h]
      · simp [hk]
theorem local_cut {x : Inp} {k : Nat} (hk : k ≤ x.cols.length) : (refA x).filter (fun a => befK k (keyOf a)) = refA (cut x k) := by
  refine sorted_ext ((refA_sorted x).filter _) (refA_sorted _) fun q => ?_
  rw [getL_filter, getL_ref, getL_ref, bestC, bestC, fk_cut hk]
  split <;> rfl
theorem cut_sub {x : Inp} {k : Nat} (hk : k ≤ x.cols.length) {a : Arc} (h : a ∈ refA (cut x k)) : a ∈ refA x := by
  rw [← local_cut hk] at h; exact (List.mem_filter.1 h).1
theorem refL_flen (x : Inp) : (refL x).final.length = 2 * x.cols.length + 1 := by simp [refL, finTo]
theorem refA_len {x : Inp} (ht : x.insert.length ≤ 5) (hn : x.cols.length ≤ 8) : (refA x).length < 1000 := by
  have := iIs_len x (x.cols.length + 1) ht hn
  unfold refA; omega
theorem wl_ref {x : Inp} (hx : WF x) (ht : x.insert.length ≤ 5) (hn : x.cols.length ≤ 8) : WL (refL x) := by
  have hf := refL_flen x
  have hl := refA_len ht hn
  refine ⟨by omega, by omega, ?_, ?_, ?_, ?_⟩
  · rw [hf]; rfl
  · intro f hf
    simp only [refL, finTo, List.mem_map, List.mem_range] at hf
    obtain ⟨s, hs, rfl⟩ := hf
    exact finAt_bd hx _ hs
  · show (refA x).length < 100000; omega
  · intro a ha
    obtain ⟨h1, h2⟩ := refA_ok hx ha
    have := h1.f; have := h1.ft; have := h1.t; have := h1.c
    rw [hf]; omega
theorem ws_ref {x : Inp} (hx : WF x) (ht : x.insert.length ≤ 5) (hn : x.cols.length ≤ 8) : WS (refL x) := by
  have hf := refL_flen x
  have hl := refA_len ht hn
  refine ⟨by omega, by omega, ?_, ?_⟩
  · show (refA x).length < 100000; omega
  · intro a ha
    obtain ⟨h1, h2⟩ := refA_ok hx ha
    have := h1.f; have := h1.ft; have := h1.t; have := h1.o
    rw [hf]; omega

theorem getD_set_eq {xs : List Int} {i s : Nat} {v : Int} (hs : s < xs.length) : (xs.set i v).getD s 0 = if i = s then v else xs.getD s 0 := by
  simp only [List.getD_eq_getElem?_getD, List.getElem?_set]
  split
  · rename_i e; subst e; simp [hs]
  · rfl
/-- What is at most every way to a state. -/
theorem le_arcs {t : Int} {cur : List Int} {s : Nat} {v : Int} : ∀ (L : List Arc) (nx : List Int), s < nx.length → (∀ a ∈ L, 0 ≤ a.to) →
    (v ≤ (L.foldl (stepArc t cur) nx).getD s 0 ↔ v ≤ nx.getD s 0 ∧ ∀ a ∈ L, a.term = t → a.to = s → v ≤ cur.getD a.frm.toNat 0 + a.cost)
  | [], nx, _, _ => by simp
  | a :: r, nx, hs, hto => by
    have hlen : s < (stepArc t cur nx a).length := by unfold stepArc; split <;> simpa using hs
    rw [List.foldl_cons, le_arcs r _ hlen fun b hb => hto b (by simp [hb])]
    have ha := hto a (by simp)
    have key : v ≤ (stepArc t cur nx a).getD s 0 ↔ v ≤ nx.getD s 0 ∧ (a.term = t → a.to = s → v ≤ cur.getD a.frm.toNat 0 + a.cost) := by
      unfold stepArc
      by_cases h1 : a.term = t
      · rw [if_pos h1, getD_set_eq hs]
        by_cases h2 : a.to.toNat = s
        · rw [if_pos h2, h2]
          have : a.to = s := by omega
          constructor
          · intro h; exact ⟨by omega, fun _ _ => by omega⟩
          · intro h; have := h.2 h1 this; omega
        · rw [if_neg h2]
          constructor
          · intro h; exact ⟨h, fun _ h3 => absurd (by omega) h2⟩
          · exact fun h => h.1
      · rw [if_neg h1]
        exact ⟨fun h => ⟨h, fun h2 => absurd h2 h1⟩, fun h => h.1⟩
    rw [key]
    constructor
    · rintro ⟨⟨h1, h2⟩, h3⟩
      refine ⟨h1, fun b hb => ?_⟩
      rcases List.mem_cons.1 hb with rfl | hb
      · exact h2
      · exact h3 b hb
    · rintro ⟨h1, h2⟩
      exact ⟨⟨h1, h2 a (by simp)⟩, fun b hb => h2 b (by simp [hb])⟩
theorem getD_rep {n s : Nat} {v : Int} (h : s < n) : (List.replicate n v).getD s 0 = v := by simp [List.getD_eq_getElem?_getD, h]
theorem le_tok {l : Lat} (hl : WL l) {cur : List Int} {t v : Int} {s : Nat} (hs : s < l.final.length) :
    v ≤ (stepTok l cur t).getD s 0 ↔ v ≤ 1099511627776 ∧ ∀ a ∈ l.arcs, a.term = t → a.to = s → v ≤ cur.getD a.frm.toNat 0 + a.cost := by
  unfold stepTok
  rw [le_arcs _ _ (by simpa using hs) fun a ha => (hl.arc a ha).2.2.1, getD_rep hs]
theorem le_best (l : Lat) (c : List Int) (v : Int) : ∀ k : Nat, v ≤ bestTo l c k ↔ v ≤ 1099511627776 ∧ ∀ s, s < k → v ≤ c.getD s 0 + l.final.getD s 0
  | 0 => by simp [bestTo]
  | k + 1 => by
    have ih := le_best l c v k
    unfold bestTo at ih ⊢
    rw [List.range_succ, List.foldl_append, List.foldl_cons, List.foldl_nil]
    constructor
    · intro h
      have h1 := ih.1 (by omega)
      refine ⟨h1.1, fun s hs => ?_⟩
      rcases Nat.lt_or_ge s k with h2 | h2
      · exact h1.2 s h2
      · obtain rfl : s = k := by omega
        omega
    · rintro ⟨h1, h2⟩
      have h3 := ih.2 ⟨h1, fun s hs => h2 s (by omega)⟩
      have h4 := h2 k (by omega)
      omega
theorem le_dist {l : Lat} {y : List Int} {v : Int} : v ≤ distL l y ↔ v ≤ 1099511627776 ∧ ∀ s, s < l.final.length → v ≤ (atL l y).getD s 0 + l.final.getD s 0 := le_best ..

theorem tok_mono {l l' : Lat} (hl : WL l) (hl' : WL l') (hn : l'.final.length ≤ l.final.length) (hs : ∀ a ∈ l'.arcs, a ∈ l.arcs) : ∀ (y : List Int) (c c' : List Int), (∀ s, s < l'.final.length → c.getD s 0 ≤ c'.getD s 0) →
    ∀ s, s < l'.final.length → (y.foldl (stepTok l) c).getD s 0 ≤ (y.foldl (stepTok l') c').getD s 0
  | [], c, c', h => h
  | t :: r, c, c', h => by
    refine tok_mono hl hl' hn hs r _ _ fun s hs' => ?_
    rw [le_tok hl' hs']
    have h0 := (le_tok hl (cur := c) (t := t) (v := (stepTok l c t).getD s 0) (Nat.lt_of_lt_of_le hs' hn)).1 (Int.le_refl _)
    refine ⟨h0.1, fun a ha ht hto => ?_⟩
    have h1 := h0.2 a (hs a ha) ht hto
    have h2 := hl'.arc a ha
    have h3 := h a.frm.toNat (by omega)
    omega
theorem fin_get {x : Inp} {s : Nat} (hs : s < 2 * x.cols.length + 1) : (refL x).final.getD s 0 = finAt x (x.cols.length + 1) s := by
  simp [refL, finTo, List.getD_eq_getElem?_getD, hs]
theorem fin_even {x : Inp} {i : Nat} (hi : i ≤ x.cols.length) : (refL x).final.getD (2 * i) 0 = delS x i x.cols.length := by
  rw [fin_get (by omega), finAt, if_pos (by omega)]
  congr 1; omega
theorem fin_odd {x : Inp} {i : Nat} (hi : i < x.cols.length) : (refL x).final.getD (2 * i + 1) 0 = 1099511627776 := by
  rw [fin_get (by omega), finAt, if_neg (by omega)]
theorem triangle {x : Inp} (hx : WF x) (ht : x.insert.length ≤ 5) (hn : x.cols.length ≤ 8) (h1 : 1 ≤ x.cols.length) (y : List Int) (d : Int) (hd : d = (x.cols[x.cols.length - 1]'(by omega)).del) :
    distL (refL x) y ≤ distL (refL (cut x (x.cols.length - 1))) y + d := by
  have hcl := cut_len (x := x) (k := x.cols.length - 1) (by omega)
  have hx' := cut_wf hx (x.cols.length - 1)
  have hl := wl_ref hx ht hn
  have hl' := wl_ref hx' ht (by rw [hcl]; omega)
  have hf := refL_flen x
  have hf' := refL_flen (cut x (x.cols.length - 1))
  rw [hcl] at hf'
  have hdb := hx.cols _ (List.getElem_mem (show x.cols.length - 1 < x.cols.length by omega))
  have hnn : (refL (cut x (x.cols.length - 1))).final.length ≤ (refL x).final.length := by omega
  have hat : ∀ s, s < (refL (cut x (x.cols.length - 1))).final.length → (atL (refL x) y).getD s 0 ≤ (atL (refL (cut x (x.cols.length - 1))) y).getD s 0 := by
    refine tok_mono hl hl' hnn (fun a ha => cut_sub (by omega) ha) y _ _ fun s hs => ?_
    unfold at0
    rw [getD_set_eq (by simp; omega), getD_set_eq (by simp; omega), getD_rep (by omega), getD_rep (by omega)]
    exact Int.le_refl _
  have h0 := (le_dist (l := refL x) (y := y)).1 (Int.le_refl _)
  suffices h : distL (refL x) y - d ≤ distL (refL (cut x (x.cols.length - 1))) y by omega
  rw [le_dist]
  refine ⟨by omega, fun s hs => ?_⟩
  have h2 := h0.2 s (by omega)
  have h3 := hat s hs
  have hbd : ∀ v, v ∈ (refL (cut x (x.cols.length - 1))).final → 0 ≤ v ∧ v ≤ 1099511627776 := hl'.fin
  suffices hfin : (refL x).final.getD s 0 ≤ (refL (cut x (x.cols.length - 1))).final.getD s 0 + d by omega
  rcases Nat.mod_two_eq_zero_or_one s with he | ho
  · obtain ⟨i, rfl⟩ : ∃ i, s = 2 * i := ⟨s / 2, by omega⟩
    rw [fin_even (by omega), fin_even (by omega), hcl, cut_delS (by omega)]
    have hsu := delS_succ x (i := i) (k := x.cols.length - 1) (by omega) (by omega)
    rw [show x.cols.length - 1 + 1 = x.cols.length by omega, ← hd] at hsu
    rw [hsu, addW_min (delS_bd hx (by omega) (by omega)) (by omega)]
    omega
  · obtain ⟨i, rfl⟩ : ∃ i, s = 2 * i + 1 := ⟨s / 2, by omega⟩
    rw [fin_odd (by omega), fin_odd (by omega)]
    omega
end Go.Vm.L
