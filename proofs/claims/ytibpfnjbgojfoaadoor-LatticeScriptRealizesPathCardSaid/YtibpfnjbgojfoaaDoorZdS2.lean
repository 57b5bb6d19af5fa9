/- Scripts applied: the four operations. -/
import Derived.Test.YtibpfnjbgojfoaaDoorZdS1
set_option linter.all false
set_option maxHeartbeats 8000000
namespace Go.Vm
open Go
variable [Gl]
/-- Some objects kept, all others let go. -/
def keepH (ks : List Nat) (H : Heap) : Heap := H.mapIdx fun i o => if i ∈ ks then o else none
theorem keepH_get (ks : List Nat) (H : Heap) (i : Nat) : (keepH ks H)[i]? = (H[i]?).map fun o => if i ∈ ks then o else none := by
  simp [keepH, List.getElem?_mapIdx]
theorem keepH_ob {ks : List Nat} {H : Heap} {i : Nat} (h : i ∈ ks) : (keepH ks H).ob i = H.ob i := by
  simp only [Heap.ob, keepH_get, if_pos h]
  cases H[i]? <;> rfl
theorem keepH_some {ks : List Nat} {H : Heap} {i : Nat} {o : Ob} (h : (keepH ks H)[i]? = some (some o)) : i ∈ ks ∧ H[i]? = some (some o) := by
  rw [keepH_get] at h
  obtain ⟨o', h1, h2⟩ := Option.map_eq_some_iff.1 h
  split at h2
  · subst h2; exact ⟨by assumption, h1⟩
  · cases h2
theorem Rel.keepK {μ : Locs} {F : Nat → Prop} {w : World} {H : Heap} (hR : Rel μ F w H) (ks : List Nat) : Post μ F w H μ F w (keepH ks H) :=
  ⟨⟨fun i l o hm h => hR.ob i l o hm (keepH_some h).2, fun i j l1 l2 o o' h1 h2 h3 h4 h5 => hR.inj i j l1 l2 o o' h1 h2 (keepH_some h3).2 (keepH_some h4).2 h5, fun i l o hm h => hR.nF i l o hm (keepH_some h).2,
    hR.lt, hR.Flt, fun i l h => by simpa [keepH] using hR.idlt i l h, hR.gl⟩, Ext.refl _ _ _ _, by simp [keepH], fun i _ ⟨o, h⟩ => ⟨o, (keepH_some h).2⟩⟩
theorem Gh.keep {xs : List AV} {H : Heap} (ks : List Nat) : Gh ⟨xs, H⟩ ⟨xs, keepH ks H⟩ := fun μ F w hR => ⟨μ, F, hR.keepK ks, fun i x h => ⟨x, h, fun _ h => h⟩⟩
end Go.Vm
namespace Go.Vm.L
open Go Go.Vm

theorem hand_SH {H : Heap} {x : Inp} {at_ : Nat} {out : List Int} {cost : Int} {si oi : Nat} (h0 : H.ob si = some (.arr 6 [stV x at_ (.hs oi 0 out.length 1) cost])) (h1 : H.ob oi = some (.arr 1 ((out.map dI).map .d))) : handM (renOf [si, oi] H.length) H [si, oi] (SH x at_ out cost) := by
  refine ⟨ob_lt h0, ?_, ob_lt h1, ?_, trivial⟩
  · rw [ob_get h0]; simp [Ob.ren, AV.ren, renL, renOf]
  · rw [ob_get h1, Option.map_some, ren_data]
/-- What a caller's heap holds behind an operation. -/
theorem back_SX {H Hc' H' : Heap} {x : Inp} {at_ : Nat} {out : List Int} {cost : Int} {si oi : Nat} (hc : CallH [si, oi] H Hc' H') (h : SX x at_ out cost Hc') :
    ∃ o', H'.ob si = some (.arr 6 [stV x at_ (.hs o' 0 out.length 1) cost]) ∧ H'.ob o' = some (.arr 1 ((out.map dI).map .d)) ∧ (o' = oi ∨ H.length ≤ o') := by
  obtain ⟨id, hid, h0, h1⟩ := h
  have g0 := hc.inn 0 si _ rfl (ob_get h0)
  have er : (Ob.arr 6 [stV x at_ (.hs id 0 out.length 1) cost]).ren (renOf [si, oi] H.length) = .arr 6 [stV x at_ (.hs (renOf [si, oi] H.length id) 0 out.length 1) cost] := by simp [Ob.ren, AV.ren, renL]
  rw [er] at g0
  refine ⟨_, g0, ?_, ?_⟩
  · rcases Nat.lt_or_ge id 2 with hlt | hge
    · obtain rfl : id = 1 := by omega
      have := hc.inn 1 oi _ rfl (ob_get h1)
      rw [ren_data] at this
      simpa [renOf] using this
    · obtain ⟨k, rfl⟩ : ∃ k, id = 2 + k := ⟨id - 2, by omega⟩
      have := hc.new k (.arr 1 ((out.map dI).map .d)) (ob_get h1)
      rw [ren_data] at this
      have e : renOf [si, oi] H.length (2 + k) = H.length + k := by simp [renOf]; intro h; omega
      rw [e]; exact this
  · rcases Nat.lt_or_ge id 2 with hlt | hge
    · obtain rfl : id = 1 := by omega
      left; simp [renOf]
    · right
      show H.length ≤ renOf [si, oi] H.length id
      unfold renOf
      rw [if_neg (by simp; omega)]; omega
theorem atEnd_SX {r : List RV} {H0 : Heap} {x : Inp} {at_ : Nat} {out : List Int} {cost : Int} {vs : List AV} {H : Heap} {id : Nat} {d : DV} (hr : ∀ H, evRs ⟨vs, H⟩ r ∧ resV ⟨vs, H⟩ r = .d d) (hid : id ≠ 0) (hl : H0.length ≤ H.length)
    (h0 : H.ob 0 = some (.arr 6 [stV x at_ (.hs id 0 out.length 1) cost])) (h1 : H.ob id = some (.arr 1 ((out.map dI).map .d))) :
    atEnd r H0 (fun r H' => r = .d d ∧ SX x at_ out cost H') .ret ⟨vs, H⟩ := by
  have hln : (keepH [0, id] H).length = H.length := by simp [keepH]
  refine atEnd_Hr (s' := ⟨vs, keepH [0, id] H⟩) H.length (Gh.keep [0, id]) (hr _).1 hl (by rw [hln]; exact Nat.le_refl _) ?_ (by rw [(hr _).2]; rfl) ⟨(hr _).2, id, hid, ?_, ?_⟩
  · intro i o hi ho
    obtain ⟨hm, hg⟩ := keepH_some ho
    simp only [List.mem_cons, List.not_mem_nil, or_false] at hm
    rcases hm with rfl | rfl
    · rw [ob_get h0] at hg; cases hg
      have := ob_lt h1
      simp [Ob.und, undL, AV.und, this]
    · rw [ob_get h1] at hg; cases hg
      exact undL_data _
  · rw [← hln, List.take_length, keepH_ob (by simp)]; exact h0
  · rw [← hln, List.take_length, keepH_ob (by simp)]; exact h1
theorem SH_SX (x : Inp) (at_ : Nat) (out : List Int) (cost : Int) : SX x at_ out cost (SH x at_ out cost) := ⟨1, by omega, rfl, rfl⟩

/-- A call of one of the state's operations. -/
theorem st_op {vs env : List AV} {H : Heap} {K : AV → Heap → Prop} {x : Inp} {at_ at2 : Nat} {out out2 : List Int} {cost cost2 : Int} {oi : Nat} {f : FuncId} {args : List Arg} {ds xs : List AV} {r0 : AV}
    (h0 : H.ob 0 = some (.arr 6 [stV x at_ (.hs oi 0 out.length 1) cost])) (h1 : H.ob oi = some (.arr 1 ((out.map dI).map .d))) (hne : oi ≠ 0)
    (hf : Fn prog f (.ptr 0 0 0 :: ds) (SH x at_ out cost) (fun r H' => r = r0 ∧ SX x at2 out2 cost2 H'))
    (ho : argsOb (evalA vs env) args) (hx : (args.map fun a => (evalA vs env a).strip) = .ptr 0 0 0 :: xs) (hd : argsM (renOf [0, oi] H.length) xs ds)
    (hr : ∀ f, r0.ren f = r0)
    (hk : ∀ H' oi', H'.ob 0 = some (.arr 6 [stV x at2 (.hs oi' 0 out2.length 1) cost2]) → H'.ob oi' = some (.arr 1 ((out2.map dI).map .d)) → oi' ≠ 0 → H.length ≤ H'.length → (∀ j o, j ≠ 0 → j ≠ oi → H.ob j = some o → H'.ob j = some o ∧ j ≠ oi') → K r0 H') : wpEff prog (evalA vs env) H (.call f args) [] [] false K := by
  refine stA_call [0, oi] ⟨ho, trivial⟩ hx hf ⟨.inl (by simp [AV.ren, renOf]), hd⟩ (hand_SH h0 h1) (by simpa using fun h => hne h.symm) (fun r Hc H3 hr2 hH2 => ?_)
  obtain ⟨rfl, hs⟩ := hr2
  obtain ⟨o', g0, g1, g2⟩ := back_SX hH2 hs
  rw [hr]
  refine ⟨trivial, hk H3 o' g0 g1 ?_ (by have := hH2.len; omega) fun j o hj hj2 hjo => ⟨hH2.ob' (by simp [hj, hj2]) hjo, ?_⟩⟩
  · have := ob_lt h0
    rcases g2 with rfl | g2
    · exact hne
    · omega
  · have := ob_lt hjo
    rcases g2 with rfl | g2
    · exact hj2
    · omega
theorem emit_SX (x : Inp) (at_ : Nat) (out : List Int) (cost t : Int) (ho : out.length < 1000000) :
    Fn prog 78 [.ptr 0 0 0, .d (.int .i64 t)] (SH x at_ out cost) (fun r H' => r = .tup [] ∧ SX x at_ (out ++ [t]) cost H') := fun μ F w us hR hc =>
  (emit78 x at_ out cost t ho μ F w us hR hc).mono fun _ _ ⟨r, H', u, μ', F', he, ⟨hr, hH⟩, hu, hp⟩ => ⟨r, H', u, μ', F', he, ⟨hr, 2, by omega, by rw [hH]; rfl, by rw [hH]; rfl⟩, hu, hp⟩
theorem next_SX (x : Inp) (at_ : Nat) (out : List Int) (cost : Int) (c : Col) (hn : at_ < x.cols.length) (hc : c = x.cols[at_]) (hb : x.cols.length < 1000000) :
    Fn prog 84 [.ptr 0 0 0] (SH x at_ out cost) (fun r H' => r = .tup [.d (dCol c), .d (.bool true)] ∧ SX x at_ out cost H') := fun μ F w us hR hc2 =>
  (next84 x at_ out cost c hn hc hb μ F w us hR hc2).mono fun _ _ ⟨r, H', u, μ', F', he, ⟨hr, hH⟩, hu, hp⟩ => ⟨r, H', u, μ', F', he, ⟨hr, by rw [hH]; exact SH_SX x at_ out cost⟩, hu, hp⟩

theorem up3 (x : Inp) (at_ a1 : Nat) (a b c d : Nat) (cost : Int) : updA 6 (stV x at_ (.hs a b c d) cost) 3 1 (.d (.int .i64 a1)) = stV x a1 (.hs a b c d) cost := by
  simp [updA, AV.cells, DV.cells, AV.mkAgg, AV.allD]
theorem up5 (x : Inp) (at_ : Nat) (a b c d : Nat) (cost c2 : Int) : updA 6 (stV x at_ (.hs a b c d) cost) 5 1 (.d (.int .i64 c2)) = stV x at_ (.hs a b c d) c2 := by
  simp [updA, AV.cells, DV.cells, AV.mkAgg, AV.allD]
theorem fitV (x : Inp) (at_ : Nat) (a b c d : Nat) (cost : Int) : (stV x at_ (.hs a b c d) cost).fits 6 = true := by simp [AV.fits, AV.cells, AV.one, DV.one]

theorem read80 (x : Inp) (at_ : Nat) (out : List Int) (cost : Int) (t : Nat) (c : Col) (p : Int) (hn : at_ < x.cols.length) (hc : c = x.cols[at_]) (htl : t < c.read.length) (hp : p = c.read[t]) (hpb : 0 ≤ p ∧ p ≤ 100000000000000) (hco : 0 ≤ cost ∧ cost ≤ 1099511627776) (hb : x.cols.length < 1000000) (ho : out.length < 1000000) :
    Fn prog 80 [.ptr 0 0 0, .d (.int .i64 t)] (SH x at_ out cost) (fun r H' => r = .d (.bool true) ∧ SX x (at_ + 1) (out ++ [(t : Int)]) (min (cost + p) 1099511627776) H') := by
  refine fn_of e80 hm (by rfl) (vs := [.ptr 0 0 0, .d (.int .i64 t), .undef, .undef, .undef, .undef]) rfl ?_
  unfold c80
  have hpn : ¬ p < 0 := by omega
  have htn : ¬ (t : Int) < 0 := by omega
  have htl' : ¬ c.read.length ≤ t := by omega
  obtain ⟨a1, ha1⟩ : ∃ a1, a1 = at_ + 1 := ⟨_, rfl⟩
  have hwa : IntKind.i64.wrap ((at_ : Int) + 1) = (a1 : Int) := by rw [wrap64 (by omega) (by omega)]; omega
  rw [← ha1]
  obtain ⟨H0, hH0⟩ : ∃ H0, H0 = SH x at_ out cost := ⟨_, rfl⟩
  have k0 : H0.ob 0 = some (.arr 6 [stV x at_ (.hs 1 0 out.length 1) cost]) := by rw [hH0]; rfl
  have k1 : H0.ob 1 = some (.arr 1 ((out.map dI).map .d)) := by rw [hH0]; rfl
  have kl : H0.length = 2 := by rw [hH0]; rfl
  rw [← hH0]
  clear hH0 ha1
  repeat' (first | (with_reducible first | refine st_reg ?_ | refine sN (by conv => lhs; simp) ?_ | refine rN ?_ ?_ | refine rO ?_ ?_ | refine rF ?_ ?_ | refine sG (by conv => lhs; simp) ?_ | refine gF ?_ | refine gS rfl (by conv => lhs; simp) ?_ ?_ | (refine st_gef0 ?_ ?_; focus (conv => (lhs; simp)); done) | refine sE (by conv => lhs; simp) ?_ | refine Nx.go ?_ | refine st_blke' (by decide) ?_ | refine st_seq ?_ | refine st_blk ?_ | refine st_cond (by conv => lhs; simp) (by conv => lhs; simp) ?_ ?_ ?_ | refine st_lexit ?_) | (intro h_; try simp only [reduceCtorEq, y1, y2, y3, y4, y5, y6, y7, y8, y9, z1, z2, z3, z4, z5, z6, z7, ne_eq] at h_))
  all_goals try (first | contradiction | exact True.intro | omega | rfl | (simp [AV.fits, AV.cells, AV.one, DV.fits, DV.cells, DV.one, DV.conf, confL, DV.conf1]; done) | (simp [AV.fits, AV.cells, AV.one, DV.fits, DV.cells, DV.one, DV.conf, confL, DV.conf1, *] <;> omega))
  refine st_e (st_op (oi := 1) (ds := []) (xs := []) k0 k1 (by omega) (next_SX x at_ out cost c hn hc hb) (by simp) (by conv => lhs; simp) trivial (fun f => by simp [AV.ren, renL]) (fun H1 oi g0 g1 gne gl _ => ?_))
  repeat' (first | (with_reducible first | refine st_reg ?_ | refine sN (by conv => lhs; simp [litV, litE, litOb, toDL, AV.toD, AV.norm, List.replicate, fillC, fillOb, AV.mkAgg, AV.allD, AV.cells, DV.cells, dCol]) ?_ | refine rN ?_ ?_ | refine rO ?_ ?_ | refine rF ?_ ?_ | refine sG (by conv => lhs; simp [litV, litE, litOb, toDL, AV.toD, AV.norm, List.replicate, fillC, fillOb, AV.mkAgg, AV.allD, AV.cells, DV.cells, dCol]) ?_ | refine gF ?_ | refine gS rfl (by conv => lhs; simp [litV, litE, litOb, toDL, AV.toD, AV.norm, List.replicate, fillC, fillOb, AV.mkAgg, AV.allD, AV.cells, DV.cells, dCol]) ?_ ?_ | (refine st_gef0 ?_ ?_; focus (conv => (lhs; simp [litV, litE, litOb, toDL, AV.toD, AV.norm, List.replicate, fillC, fillOb, AV.mkAgg, AV.allD, AV.cells, DV.cells, dCol])); done) | refine sE (by conv => lhs; simp) ?_ | refine Nx.go ?_ | refine st_blke' (by decide) ?_ | refine st_seq ?_ | refine st_blk ?_ | refine st_cond (by conv => lhs; simp) (by conv => lhs; simp [litV, litE, litOb, toDL, AV.toD, AV.norm, List.replicate, fillC, fillOb, AV.mkAgg, AV.allD, AV.cells, DV.cells, dCol]) ?_ ?_ ?_ | refine st_lexit ?_) | (intro h_; try simp only [reduceCtorEq, y1, y2, y3, y4, y5, y6, y7, y8, y9, z1, z2, z3, z4, z5, z6, z7, ne_eq] at h_))
  all_goals try (first | contradiction | exact True.intro | omega | rfl | (simp [AV.fits, AV.cells, AV.one, DV.fits, DV.cells, DV.one, DV.conf, confL, DV.conf1]; done) | (simp [AV.fits, AV.cells, AV.one, DV.fits, DV.cells, DV.one, DV.conf, confL, DV.conf1, *] <;> omega))
  refine st_e (stA_store ⟨by simp, trivial⟩ (by conv => lhs; simp) (by conv => lhs; simp) (arrOf_ob ob_new) (by simp) (by simp [AV.fits, DV.fits, DV.cells, DV.one]) updA_whole (by simp [AV.fits, DV.fits, DV.cells, DV.one]) (fun H2 hW => ⟨trivial, ?_⟩))
  have l2 := hW.len
  simp at l2
  have i0 := hW.ob' (by have := ob_lt g0; omega) (ob_old g0)
  have i1 := hW.ob' (by have := ob_lt g1; omega) (ob_old g1)
  have ic := hW.self
  simp only [List.set_cons_zero] at ic
  clear hW
  have hci : H1.length ≠ 0 := by have := ob_lt g0; omega
  have hco2 : H1.length ≠ oi := by have := ob_lt g1; omega
  have i0' := i0
  simp only [stV] at i0'
  repeat' (first | (with_reducible first | refine st_reg ?_ | refine sN (by conv => lhs; simp [ic, htn, htl', getD_map_lt, htl, dI, ← hp, hpn, i0', hwa]) ?_ | refine rN ?_ ?_ | refine rO ?_ ?_ | refine rF ?_ ?_ | refine sG (by conv => lhs; simp [ic, htn, htl', getD_map_lt, htl, dI, ← hp, hpn, i0', hwa]) ?_ | refine gF ?_ | refine gS rfl (by conv => lhs; simp [ic, htn, htl', getD_map_lt, htl, dI, ← hp, hpn, i0', hwa]) ?_ ?_ | (refine st_gef0 ?_ ?_; focus (conv => (lhs; simp [ic, htn, htl', getD_map_lt, htl, dI, ← hp, hpn, i0', hwa])); done) | refine sE (by conv => lhs; simp) ?_ | refine Nx.go ?_ | refine st_blke' (by decide) ?_ | refine st_seq ?_ | refine st_blk ?_ | refine st_cond (by conv => lhs; simp) (by conv => lhs; simp [ic, htn, htl', getD_map_lt, htl, dI, ← hp, hpn, i0', hwa]) ?_ ?_ ?_ | refine st_lexit ?_) | (intro h_; try simp only [reduceCtorEq, y1, y2, y3, y4, y5, y6, y7, y8, y9, z1, z2, z3, z4, z5, z6, z7, ne_eq] at h_))
  all_goals try (first | contradiction | exact True.intro | omega | rfl | (simp [AV.fits, AV.cells, AV.one, DV.fits, DV.cells, DV.one, DV.conf, confL, DV.conf1]; done) | (simp [AV.fits, AV.cells, AV.one, DV.fits, DV.cells, DV.one, DV.conf, confL, DV.conf1, *] <;> omega))
  refine st_e (stA_store (id := 0) (ix := 0) (o := 3) (sz := 6) ⟨by simp, trivial⟩ (by conv => lhs; simp) (by conv => lhs; simp) (arrOf_ob i0) ⟨by simp, by simp⟩ (by simp [AV.fits, DV.fits, DV.cells, DV.one]) (up3 x at_ a1 oi 0 out.length 1 cost) (fitV ..) (fun H3 hW => ⟨trivial, ?_⟩))
  have l3 := hW.len
  have j0 := hW.self
  simp only [List.set_cons_zero] at j0
  have j1 := hW.ob' gne i1
  have jc := hW.ob' hci ic
  clear hW i0 i0' i1 ic
  repeat' (first | (with_reducible first | refine st_reg ?_ | refine sN (by conv => lhs; simp) ?_ | refine rN ?_ ?_ | refine rO ?_ ?_ | refine rF ?_ ?_ | refine sG (by conv => lhs; simp) ?_ | refine gF ?_ | refine gS rfl (by conv => lhs; simp) ?_ ?_ | (refine st_gef0 ?_ ?_; focus (conv => (lhs; simp)); done) | refine sE (by conv => lhs; simp) ?_ | refine Nx.go ?_ | refine st_blke' (by decide) ?_ | refine st_seq ?_ | refine st_blk ?_ | refine st_cond (by conv => lhs; simp) (by conv => lhs; simp) ?_ ?_ ?_ | refine st_lexit ?_) | (intro h_; try simp only [reduceCtorEq, y1, y2, y3, y4, y5, y6, y7, y8, y9, z1, z2, z3, z4, z5, z6, z7, ne_eq] at h_))
  all_goals try (first | contradiction | exact True.intro | omega | rfl | (simp [AV.fits, AV.cells, AV.one, DV.fits, DV.cells, DV.one, DV.conf, confL, DV.conf1]; done) | (simp [AV.fits, AV.cells, AV.one, DV.fits, DV.cells, DV.one, DV.conf, confL, DV.conf1, *] <;> omega))
  refine st_e (st_op (oi := oi) (ds := [.d (.int .i64 t)]) (xs := [.d (.int .i64 t)]) j0 j1 gne (emit_SX x a1 out cost t ho) (by simp) (by conv => lhs; simp) ⟨.inl rfl, trivial⟩ (fun f => by simp [AV.ren, renL]) (fun H4 oj m0 m1 mne ml mo => ?_))
  obtain ⟨mc, mcn⟩ := mo _ _ hci hco2 jc
  have m0' := m0
  simp only [stV] at m0'
  repeat' (first | (with_reducible first | refine st_reg ?_ | refine sN (by conv => lhs; simp [litV, litE, litOb, toDL, AV.toD, AV.norm, List.replicate, fillC, fillOb, AV.mkAgg, AV.allD, AV.cells, DV.cells, m0', mc, getD_map_lt, htl, dI, ← hp]) ?_ | refine rN ?_ ?_ | refine rO ?_ ?_ | refine rF ?_ ?_ | refine sG (by conv => lhs; simp [litV, litE, litOb, toDL, AV.toD, AV.norm, List.replicate, fillC, fillOb, AV.mkAgg, AV.allD, AV.cells, DV.cells, m0', mc, getD_map_lt, htl, dI, ← hp]) ?_ | refine gF ?_ | refine gS rfl (by conv => lhs; simp [litV, litE, litOb, toDL, AV.toD, AV.norm, List.replicate, fillC, fillOb, AV.mkAgg, AV.allD, AV.cells, DV.cells, m0', mc, getD_map_lt, htl, dI, ← hp]) ?_ ?_ | (refine st_gef0 ?_ ?_; focus (conv => (lhs; simp [litV, litE, litOb, toDL, AV.toD, AV.norm, List.replicate, fillC, fillOb, AV.mkAgg, AV.allD, AV.cells, DV.cells, m0', mc, getD_map_lt, htl, dI, ← hp])); done) | refine sE (by conv => lhs; simp) ?_ | refine Nx.go ?_ | refine st_blke' (by decide) ?_ | refine st_seq ?_ | refine st_blk ?_ | refine st_cond (by conv => lhs; simp) (by conv => lhs; simp [litV, litE, litOb, toDL, AV.toD, AV.norm, List.replicate, fillC, fillOb, AV.mkAgg, AV.allD, AV.cells, DV.cells, m0', mc, getD_map_lt, htl, dI, ← hp]) ?_ ?_ ?_ | refine st_lexit ?_) | (intro h_; try simp only [reduceCtorEq, y1, y2, y3, y4, y5, y6, y7, y8, y9, z1, z2, z3, z4, z5, z6, z7, ne_eq] at h_))
  all_goals try (first | contradiction | exact True.intro | omega | rfl | (simp [AV.fits, AV.cells, AV.one, DV.fits, DV.cells, DV.one, DV.conf, confL, DV.conf1]; done) | (simp [AV.fits, AV.cells, AV.one, DV.fits, DV.cells, DV.one, DV.conf, confL, DV.conf1, *] <;> omega))
  refine st_e (st_call (by simp [solidOk]) (by conv => lhs; simp) (add85 cost p (by omega) (by omega)) (by exact ⟨.inl rfl, .inl rfl, trivial⟩) (pendOk_refl _) ?_)
  repeat' (first | (with_reducible first | refine st_reg ?_ | refine sN (by conv => lhs; simp) ?_ | refine rN ?_ ?_ | refine rO ?_ ?_ | refine rF ?_ ?_ | refine sG (by conv => lhs; simp) ?_ | refine gF ?_ | refine gS rfl (by conv => lhs; simp) ?_ ?_ | (refine st_gef0 ?_ ?_; focus (conv => (lhs; simp)); done) | refine sE (by conv => lhs; simp) ?_ | refine Nx.go ?_ | refine st_blke' (by decide) ?_ | refine st_seq ?_ | refine st_blk ?_ | refine st_cond (by conv => lhs; simp) (by conv => lhs; simp) ?_ ?_ ?_ | refine st_lexit ?_) | (intro h_; try simp only [reduceCtorEq, y1, y2, y3, y4, y5, y6, y7, y8, y9, z1, z2, z3, z4, z5, z6, z7, ne_eq] at h_))
  all_goals try (first | contradiction | exact True.intro | omega | rfl | (simp [AV.fits, AV.cells, AV.one, DV.fits, DV.cells, DV.one, DV.conf, confL, DV.conf1]; done) | (simp [AV.fits, AV.cells, AV.one, DV.fits, DV.cells, DV.one, DV.conf, confL, DV.conf1, *] <;> omega))
  refine st_e (stA_store (id := 0) (ix := 0) (o := 5) (sz := 6) ⟨by simp, trivial⟩ (by conv => lhs; simp) (by conv => lhs; simp) (arrOf_ob m0) ⟨by simp, by simp⟩ (by simp [AV.fits, DV.fits, DV.cells, DV.one]) (up5 x a1 oj 0 _ 1 cost _) (fitV ..) (fun H5 hW => ⟨trivial, ?_⟩))
  have l5 := hW.len
  have n0 := hW.self
  simp only [List.set_cons_zero] at n0
  have n1 := hW.ob' mne m1
  clear hW
  repeat' (first | (with_reducible first | refine st_reg ?_ | refine sN (by conv => lhs; simp) ?_ | refine rN ?_ ?_ | refine rO ?_ ?_ | refine rF ?_ ?_ | refine sG (by conv => lhs; simp) ?_ | refine gF ?_ | refine gS rfl (by conv => lhs; simp) ?_ ?_ | (refine st_gef0 ?_ ?_; focus (conv => (lhs; simp)); done) | refine sE (by conv => lhs; simp) ?_ | refine Nx.go ?_ | refine st_blke' (by decide) ?_ | refine st_seq ?_ | refine st_blk ?_ | refine st_cond (by conv => lhs; simp) (by conv => lhs; simp) ?_ ?_ ?_ | refine st_lexit ?_) | (intro h_; try simp only [reduceCtorEq, y1, y2, y3, y4, y5, y6, y7, y8, y9, z1, z2, z3, z4, z5, z6, z7, ne_eq] at h_))
  all_goals try (first | contradiction | exact True.intro | omega | rfl | (simp [AV.fits, AV.cells, AV.one, DV.fits, DV.cells, DV.one, DV.conf, confL, DV.conf1]; done) | (simp [AV.fits, AV.cells, AV.one, DV.fits, DV.cells, DV.one, DV.conf, confL, DV.conf1, *] <;> omega))
  exact atEnd_SX (fun H => ⟨⟨trivial, trivial⟩, rfl⟩) mne (by omega) n0 n1
theorem remove81 (x : Inp) (at_ : Nat) (out : List Int) (cost : Int) (c : Col) (hn : at_ < x.cols.length) (hc : c = x.cols[at_]) (hpb : 0 ≤ c.del ∧ c.del < 1099511627776) (hco : 0 ≤ cost ∧ cost ≤ 1099511627776) (hb : x.cols.length < 1000000) (ho : out.length < 1000000) :
    Fn prog 81 [.ptr 0 0 0, .d (.int .i64 0)] (SH x at_ out cost) (fun r H' => r = .d (.bool true) ∧ SX x (at_ + 1) out (min (cost + c.del) 1099511627776) H') := by
  refine fn_of e81 hm (by rfl) (vs := [.ptr 0 0 0, .d (.int .i64 0), .undef, .undef, .undef, .undef]) rfl ?_
  unfold c81
  have hpn : ¬ 1099511627776 ≤ c.del := by omega
  obtain ⟨a1, ha1⟩ : ∃ a1, a1 = at_ + 1 := ⟨_, rfl⟩
  have hwa : IntKind.i64.wrap ((at_ : Int) + 1) = (a1 : Int) := by rw [wrap64 (by omega) (by omega)]; omega
  rw [← ha1]
  obtain ⟨H0, hH0⟩ : ∃ H0, H0 = SH x at_ out cost := ⟨_, rfl⟩
  have k0 : H0.ob 0 = some (.arr 6 [stV x at_ (.hs 1 0 out.length 1) cost]) := by rw [hH0]; rfl
  have k1 : H0.ob 1 = some (.arr 1 ((out.map dI).map .d)) := by rw [hH0]; rfl
  have kl : H0.length = 2 := by rw [hH0]; rfl
  rw [← hH0]
  clear hH0 ha1
  repeat' (first | (with_reducible first | refine st_reg ?_ | refine sN (by conv => lhs; simp) ?_ | refine rN ?_ ?_ | refine rO ?_ ?_ | refine rF ?_ ?_ | refine sG (by conv => lhs; simp) ?_ | refine gF ?_ | refine gS rfl (by conv => lhs; simp) ?_ ?_ | (refine st_gef0 ?_ ?_; focus (conv => (lhs; simp)); done) | refine sE (by conv => lhs; simp) ?_ | refine Nx.go ?_ | refine st_blke' (by decide) ?_ | refine st_seq ?_ | refine st_blk ?_ | refine st_cond (by conv => lhs; simp) (by conv => lhs; simp) ?_ ?_ ?_ | refine st_lexit ?_) | (intro h_; try simp only [reduceCtorEq, y1, y2, y3, y4, y5, y6, y7, y8, y9, z1, z2, z3, z4, z5, z6, z7, ne_eq] at h_))
  all_goals try (first | contradiction | exact True.intro | omega | rfl | (simp [AV.fits, AV.cells, AV.one, DV.fits, DV.cells, DV.one, DV.conf, confL, DV.conf1]; done) | (simp [AV.fits, AV.cells, AV.one, DV.fits, DV.cells, DV.one, DV.conf, confL, DV.conf1, *] <;> omega))
  refine st_e (st_op (oi := 1) (ds := []) (xs := []) k0 k1 (by omega) (next_SX x at_ out cost c hn hc hb) (by simp) (by conv => lhs; simp) trivial (fun f => by simp [AV.ren, renL]) (fun H1 oi g0 g1 gne gl _ => ?_))
  repeat' (first | (with_reducible first | refine st_reg ?_ | refine sN (by conv => lhs; simp [litV, litE, litOb, toDL, AV.toD, AV.norm, List.replicate, fillC, fillOb, AV.mkAgg, AV.allD, AV.cells, DV.cells, dCol]) ?_ | refine rN ?_ ?_ | refine rO ?_ ?_ | refine rF ?_ ?_ | refine sG (by conv => lhs; simp [litV, litE, litOb, toDL, AV.toD, AV.norm, List.replicate, fillC, fillOb, AV.mkAgg, AV.allD, AV.cells, DV.cells, dCol]) ?_ | refine gF ?_ | refine gS rfl (by conv => lhs; simp [litV, litE, litOb, toDL, AV.toD, AV.norm, List.replicate, fillC, fillOb, AV.mkAgg, AV.allD, AV.cells, DV.cells, dCol]) ?_ ?_ | (refine st_gef0 ?_ ?_; focus (conv => (lhs; simp [litV, litE, litOb, toDL, AV.toD, AV.norm, List.replicate, fillC, fillOb, AV.mkAgg, AV.allD, AV.cells, DV.cells, dCol])); done) | refine sE (by conv => lhs; simp) ?_ | refine Nx.go ?_ | refine st_blke' (by decide) ?_ | refine st_seq ?_ | refine st_blk ?_ | refine st_cond (by conv => lhs; simp) (by conv => lhs; simp [litV, litE, litOb, toDL, AV.toD, AV.norm, List.replicate, fillC, fillOb, AV.mkAgg, AV.allD, AV.cells, DV.cells, dCol]) ?_ ?_ ?_ | refine st_lexit ?_) | (intro h_; try simp only [reduceCtorEq, y1, y2, y3, y4, y5, y6, y7, y8, y9, z1, z2, z3, z4, z5, z6, z7, ne_eq] at h_))
  all_goals try (first | contradiction | exact True.intro | omega | rfl | (simp [AV.fits, AV.cells, AV.one, DV.fits, DV.cells, DV.one, DV.conf, confL, DV.conf1]; done) | (simp [AV.fits, AV.cells, AV.one, DV.fits, DV.cells, DV.one, DV.conf, confL, DV.conf1, *] <;> omega))
  refine st_e (stA_store ⟨by simp, trivial⟩ (by conv => lhs; simp) (by conv => lhs; simp) (arrOf_ob ob_new) (by simp) (by simp [AV.fits, DV.fits, DV.cells, DV.one]) updA_whole (by simp [AV.fits, DV.fits, DV.cells, DV.one]) (fun H2 hW => ⟨trivial, ?_⟩))
  have l2 := hW.len
  simp at l2
  have i0 := hW.ob' (by have := ob_lt g0; omega) (ob_old g0)
  have i1 := hW.ob' (by have := ob_lt g1; omega) (ob_old g1)
  have ic := hW.self
  simp only [List.set_cons_zero] at ic
  clear hW
  have hci : H1.length ≠ 0 := by have := ob_lt g0; omega
  have i0' := i0
  simp only [stV] at i0'
  repeat' (first | (with_reducible first | refine st_reg ?_ | refine sN (by conv => lhs; simp [ic, hpn, i0', hwa]) ?_ | refine rN ?_ ?_ | refine rO ?_ ?_ | refine rF ?_ ?_ | refine sG (by conv => lhs; simp [ic, hpn, i0', hwa]) ?_ | refine gF ?_ | refine gS rfl (by conv => lhs; simp [ic, hpn, i0', hwa]) ?_ ?_ | (refine st_gef0 ?_ ?_; focus (conv => (lhs; simp [ic, hpn, i0', hwa])); done) | refine sE (by conv => lhs; simp) ?_ | refine Nx.go ?_ | refine st_blke' (by decide) ?_ | refine st_seq ?_ | refine st_blk ?_ | refine st_cond (by conv => lhs; simp) (by conv => lhs; simp [ic, hpn, i0', hwa]) ?_ ?_ ?_ | refine st_lexit ?_) | (intro h_; try simp only [reduceCtorEq, y1, y2, y3, y4, y5, y6, y7, y8, y9, z1, z2, z3, z4, z5, z6, z7, ne_eq] at h_))
  all_goals try (first | contradiction | exact True.intro | omega | rfl | (simp [AV.fits, AV.cells, AV.one, DV.fits, DV.cells, DV.one, DV.conf, confL, DV.conf1]; done) | (simp [AV.fits, AV.cells, AV.one, DV.fits, DV.cells, DV.one, DV.conf, confL, DV.conf1, *] <;> omega))
  refine st_e (stA_store (id := 0) (ix := 0) (o := 3) (sz := 6) ⟨by simp, trivial⟩ (by conv => lhs; simp) (by conv => lhs; simp) (arrOf_ob i0) ⟨by simp, by simp⟩ (by simp [AV.fits, DV.fits, DV.cells, DV.one]) (up3 x at_ a1 oi 0 out.length 1 cost) (fitV ..) (fun H3 hW => ⟨trivial, ?_⟩))
  have l3 := hW.len
  have j0 := hW.self
  simp only [List.set_cons_zero] at j0
  have j1 := hW.ob' gne i1
  have jc := hW.ob' hci ic
  clear hW i0 i0' i1 ic
  have j0' := j0
  simp only [stV] at j0'
  repeat' (first | (with_reducible first | refine st_reg ?_ | refine sN (by conv => lhs; simp [litV, litE, litOb, toDL, AV.toD, AV.norm, List.replicate, fillC, fillOb, AV.mkAgg, AV.allD, AV.cells, DV.cells, j0', jc]) ?_ | refine rN ?_ ?_ | refine rO ?_ ?_ | refine rF ?_ ?_ | refine sG (by conv => lhs; simp [litV, litE, litOb, toDL, AV.toD, AV.norm, List.replicate, fillC, fillOb, AV.mkAgg, AV.allD, AV.cells, DV.cells, j0', jc]) ?_ | refine gF ?_ | refine gS rfl (by conv => lhs; simp [litV, litE, litOb, toDL, AV.toD, AV.norm, List.replicate, fillC, fillOb, AV.mkAgg, AV.allD, AV.cells, DV.cells, j0', jc]) ?_ ?_ | (refine st_gef0 ?_ ?_; focus (conv => (lhs; simp [litV, litE, litOb, toDL, AV.toD, AV.norm, List.replicate, fillC, fillOb, AV.mkAgg, AV.allD, AV.cells, DV.cells, j0', jc])); done) | refine sE (by conv => lhs; simp) ?_ | refine Nx.go ?_ | refine st_blke' (by decide) ?_ | refine st_seq ?_ | refine st_blk ?_ | refine st_cond (by conv => lhs; simp) (by conv => lhs; simp [litV, litE, litOb, toDL, AV.toD, AV.norm, List.replicate, fillC, fillOb, AV.mkAgg, AV.allD, AV.cells, DV.cells, j0', jc]) ?_ ?_ ?_ | refine st_lexit ?_) | (intro h_; try simp only [reduceCtorEq, y1, y2, y3, y4, y5, y6, y7, y8, y9, z1, z2, z3, z4, z5, z6, z7, ne_eq] at h_))
  all_goals try (first | contradiction | exact True.intro | omega | rfl | (simp [AV.fits, AV.cells, AV.one, DV.fits, DV.cells, DV.one, DV.conf, confL, DV.conf1]; done) | (simp [AV.fits, AV.cells, AV.one, DV.fits, DV.cells, DV.one, DV.conf, confL, DV.conf1, *] <;> omega))
  refine st_e (st_call (by simp [solidOk]) (by conv => lhs; simp) (add85 cost c.del (by omega) (by omega)) (by exact ⟨.inl rfl, .inl rfl, trivial⟩) (pendOk_refl _) ?_)
  repeat' (first | (with_reducible first | refine st_reg ?_ | refine sN (by conv => lhs; simp) ?_ | refine rN ?_ ?_ | refine rO ?_ ?_ | refine rF ?_ ?_ | refine sG (by conv => lhs; simp) ?_ | refine gF ?_ | refine gS rfl (by conv => lhs; simp) ?_ ?_ | (refine st_gef0 ?_ ?_; focus (conv => (lhs; simp)); done) | refine sE (by conv => lhs; simp) ?_ | refine Nx.go ?_ | refine st_blke' (by decide) ?_ | refine st_seq ?_ | refine st_blk ?_ | refine st_cond (by conv => lhs; simp) (by conv => lhs; simp) ?_ ?_ ?_ | refine st_lexit ?_) | (intro h_; try simp only [reduceCtorEq, y1, y2, y3, y4, y5, y6, y7, y8, y9, z1, z2, z3, z4, z5, z6, z7, ne_eq] at h_))
  all_goals try (first | contradiction | exact True.intro | omega | rfl | (simp [AV.fits, AV.cells, AV.one, DV.fits, DV.cells, DV.one, DV.conf, confL, DV.conf1]; done) | (simp [AV.fits, AV.cells, AV.one, DV.fits, DV.cells, DV.one, DV.conf, confL, DV.conf1, *] <;> omega))
  refine st_e (stA_store (id := 0) (ix := 0) (o := 5) (sz := 6) ⟨by simp, trivial⟩ (by conv => lhs; simp) (by conv => lhs; simp) (arrOf_ob j0) ⟨by simp, by simp⟩ (by simp [AV.fits, DV.fits, DV.cells, DV.one]) (up5 x a1 oi 0 _ 1 cost _) (fitV ..) (fun H5 hW => ⟨trivial, ?_⟩))
  have l5 := hW.len
  have n0 := hW.self
  simp only [List.set_cons_zero] at n0
  have n1 := hW.ob' gne j1
  clear hW
  repeat' (first | (with_reducible first | refine st_reg ?_ | refine sN (by conv => lhs; simp) ?_ | refine rN ?_ ?_ | refine rO ?_ ?_ | refine rF ?_ ?_ | refine sG (by conv => lhs; simp) ?_ | refine gF ?_ | refine gS rfl (by conv => lhs; simp) ?_ ?_ | (refine st_gef0 ?_ ?_; focus (conv => (lhs; simp)); done) | refine sE (by conv => lhs; simp) ?_ | refine Nx.go ?_ | refine st_blke' (by decide) ?_ | refine st_seq ?_ | refine st_blk ?_ | refine st_cond (by conv => lhs; simp) (by conv => lhs; simp) ?_ ?_ ?_ | refine st_lexit ?_) | (intro h_; try simp only [reduceCtorEq, y1, y2, y3, y4, y5, y6, y7, y8, y9, z1, z2, z3, z4, z5, z6, z7, ne_eq] at h_))
  all_goals try (first | contradiction | exact True.intro | omega | rfl | (simp [AV.fits, AV.cells, AV.one, DV.fits, DV.cells, DV.one, DV.conf, confL, DV.conf1]; done) | (simp [AV.fits, AV.cells, AV.one, DV.fits, DV.cells, DV.one, DV.conf, confL, DV.conf1, *] <;> omega))
  exact atEnd_SX (fun H => ⟨⟨trivial, trivial⟩, rfl⟩) gne (by omega) n0 n1
theorem insert82 (x : Inp) (at_ : Nat) (out : List Int) (cost : Int) (t : Nat) (p : Int) (htl : t < x.insert.length) (hp : p = x.insert[t]) (hpb : 0 ≤ p ∧ p ≤ 100000000000000) (hco : 0 ≤ cost ∧ cost ≤ 1099511627776) (ho : out.length < 1000000) :
    Fn prog 82 [.ptr 0 0 0, .d (.int .i64 t)] (SH x at_ out cost) (fun r H' => r = .d (.bool true) ∧ SX x at_ (out ++ [(t : Int)]) (min (cost + p) 1099511627776) H') := by
  refine fn_of e82 hm (by rfl) (vs := [.ptr 0 0 0, .d (.int .i64 t), .undef, .undef]) rfl ?_
  unfold c82
  have htn : ¬ (t : Int) < 0 := by omega
  have htl' : ¬ x.insert.length ≤ t := by omega
  obtain ⟨H0, hH0⟩ : ∃ H0, H0 = SH x at_ out cost := ⟨_, rfl⟩
  have k0 : H0.ob 0 = some (.arr 6 [stV x at_ (.hs 1 0 out.length 1) cost]) := by rw [hH0]; rfl
  have k1 : H0.ob 1 = some (.arr 1 ((out.map dI).map .d)) := by rw [hH0]; rfl
  have kl : H0.length = 2 := by rw [hH0]; rfl
  rw [← hH0]
  clear hH0
  have k0' := k0
  simp only [stV] at k0'
  repeat' (first | (with_reducible first | refine st_reg ?_ | refine sN (by conv => lhs; simp [litV, litE, litOb, toDL, AV.toD, AV.norm, List.replicate, fillC, fillOb, AV.mkAgg, AV.allD, AV.cells, DV.cells, k0', htn, htl']) ?_ | refine rN ?_ ?_ | refine rO ?_ ?_ | refine rF ?_ ?_ | refine sG (by conv => lhs; simp [litV, litE, litOb, toDL, AV.toD, AV.norm, List.replicate, fillC, fillOb, AV.mkAgg, AV.allD, AV.cells, DV.cells, k0', htn, htl']) ?_ | refine gF ?_ | refine gS rfl (by conv => lhs; simp [litV, litE, litOb, toDL, AV.toD, AV.norm, List.replicate, fillC, fillOb, AV.mkAgg, AV.allD, AV.cells, DV.cells, k0', htn, htl']) ?_ ?_ | (refine st_gef0 ?_ ?_; focus (conv => (lhs; simp [litV, litE, litOb, toDL, AV.toD, AV.norm, List.replicate, fillC, fillOb, AV.mkAgg, AV.allD, AV.cells, DV.cells, k0', htn, htl'])); done) | refine sE (by conv => lhs; simp) ?_ | refine Nx.go ?_ | refine st_blke' (by decide) ?_ | refine st_seq ?_ | refine st_blk ?_ | refine st_cond (by conv => lhs; simp) (by conv => lhs; simp [litV, litE, litOb, toDL, AV.toD, AV.norm, List.replicate, fillC, fillOb, AV.mkAgg, AV.allD, AV.cells, DV.cells, k0', htn, htl']) ?_ ?_ ?_ | refine st_lexit ?_) | (intro h_; try simp only [reduceCtorEq, y1, y2, y3, y4, y5, y6, y7, y8, y9, z1, z2, z3, z4, z5, z6, z7, ne_eq] at h_))
  all_goals try (first | contradiction | exact True.intro | omega | rfl | (simp [AV.fits, AV.cells, AV.one, DV.fits, DV.cells, DV.one, DV.conf, confL, DV.conf1]; done) | (simp [AV.fits, AV.cells, AV.one, DV.fits, DV.cells, DV.one, DV.conf, confL, DV.conf1, *] <;> omega))
  refine st_e (st_op (oi := 1) (ds := [.d (.int .i64 t)]) (xs := [.d (.int .i64 t)]) k0 k1 (by omega) (emit_SX x at_ out cost t ho) (by simp) (by conv => lhs; simp) ⟨.inl rfl, trivial⟩ (fun f => by simp [AV.ren, renL]) (fun H4 oj m0 m1 mne ml mo => ?_))
  have m0' := m0
  simp only [stV] at m0'
  repeat' (first | (with_reducible first | refine st_reg ?_ | refine sN (by conv => lhs; simp [litV, litE, litOb, toDL, AV.toD, AV.norm, List.replicate, fillC, fillOb, AV.mkAgg, AV.allD, AV.cells, DV.cells, m0', getD_map_lt, htl, dI, ← hp]) ?_ | refine rN ?_ ?_ | refine rO ?_ ?_ | refine rF ?_ ?_ | refine sG (by conv => lhs; simp [litV, litE, litOb, toDL, AV.toD, AV.norm, List.replicate, fillC, fillOb, AV.mkAgg, AV.allD, AV.cells, DV.cells, m0', getD_map_lt, htl, dI, ← hp]) ?_ | refine gF ?_ | refine gS rfl (by conv => lhs; simp [litV, litE, litOb, toDL, AV.toD, AV.norm, List.replicate, fillC, fillOb, AV.mkAgg, AV.allD, AV.cells, DV.cells, m0', getD_map_lt, htl, dI, ← hp]) ?_ ?_ | (refine st_gef0 ?_ ?_; focus (conv => (lhs; simp [litV, litE, litOb, toDL, AV.toD, AV.norm, List.replicate, fillC, fillOb, AV.mkAgg, AV.allD, AV.cells, DV.cells, m0', getD_map_lt, htl, dI, ← hp])); done) | refine sE (by conv => lhs; simp) ?_ | refine Nx.go ?_ | refine st_blke' (by decide) ?_ | refine st_seq ?_ | refine st_blk ?_ | refine st_cond (by conv => lhs; simp) (by conv => lhs; simp [litV, litE, litOb, toDL, AV.toD, AV.norm, List.replicate, fillC, fillOb, AV.mkAgg, AV.allD, AV.cells, DV.cells, m0', getD_map_lt, htl, dI, ← hp]) ?_ ?_ ?_ | refine st_lexit ?_) | (intro h_; try simp only [reduceCtorEq, y1, y2, y3, y4, y5, y6, y7, y8, y9, z1, z2, z3, z4, z5, z6, z7, ne_eq] at h_))
  all_goals try (first | contradiction | exact True.intro | omega | rfl | (simp [AV.fits, AV.cells, AV.one, DV.fits, DV.cells, DV.one, DV.conf, confL, DV.conf1]; done) | (simp [AV.fits, AV.cells, AV.one, DV.fits, DV.cells, DV.one, DV.conf, confL, DV.conf1, *] <;> omega))
  refine st_e (st_call (by simp [solidOk]) (by conv => lhs; simp) (add85 cost p (by omega) (by omega)) (by exact ⟨.inl rfl, .inl rfl, trivial⟩) (pendOk_refl _) ?_)
  repeat' (first | (with_reducible first | refine st_reg ?_ | refine sN (by conv => lhs; simp) ?_ | refine rN ?_ ?_ | refine rO ?_ ?_ | refine rF ?_ ?_ | refine sG (by conv => lhs; simp) ?_ | refine gF ?_ | refine gS rfl (by conv => lhs; simp) ?_ ?_ | (refine st_gef0 ?_ ?_; focus (conv => (lhs; simp)); done) | refine sE (by conv => lhs; simp) ?_ | refine Nx.go ?_ | refine st_blke' (by decide) ?_ | refine st_seq ?_ | refine st_blk ?_ | refine st_cond (by conv => lhs; simp) (by conv => lhs; simp) ?_ ?_ ?_ | refine st_lexit ?_) | (intro h_; try simp only [reduceCtorEq, y1, y2, y3, y4, y5, y6, y7, y8, y9, z1, z2, z3, z4, z5, z6, z7, ne_eq] at h_))
  all_goals try (first | contradiction | exact True.intro | omega | rfl | (simp [AV.fits, AV.cells, AV.one, DV.fits, DV.cells, DV.one, DV.conf, confL, DV.conf1]; done) | (simp [AV.fits, AV.cells, AV.one, DV.fits, DV.cells, DV.one, DV.conf, confL, DV.conf1, *] <;> omega))
  refine st_e (stA_store (id := 0) (ix := 0) (o := 5) (sz := 6) ⟨by simp, trivial⟩ (by conv => lhs; simp) (by conv => lhs; simp) (arrOf_ob m0) ⟨by simp, by simp⟩ (by simp [AV.fits, DV.fits, DV.cells, DV.one]) (up5 x at_ oj 0 _ 1 cost _) (fitV ..) (fun H5 hW => ⟨trivial, ?_⟩))
  have l5 := hW.len
  have n0 := hW.self
  simp only [List.set_cons_zero] at n0
  have n1 := hW.ob' mne m1
  clear hW
  repeat' (first | (with_reducible first | refine st_reg ?_ | refine sN (by conv => lhs; simp) ?_ | refine rN ?_ ?_ | refine rO ?_ ?_ | refine rF ?_ ?_ | refine sG (by conv => lhs; simp) ?_ | refine gF ?_ | refine gS rfl (by conv => lhs; simp) ?_ ?_ | (refine st_gef0 ?_ ?_; focus (conv => (lhs; simp)); done) | refine sE (by conv => lhs; simp) ?_ | refine Nx.go ?_ | refine st_blke' (by decide) ?_ | refine st_seq ?_ | refine st_blk ?_ | refine st_cond (by conv => lhs; simp) (by conv => lhs; simp) ?_ ?_ ?_ | refine st_lexit ?_) | (intro h_; try simp only [reduceCtorEq, y1, y2, y3, y4, y5, y6, y7, y8, y9, z1, z2, z3, z4, z5, z6, z7, ne_eq] at h_))
  all_goals try (first | contradiction | exact True.intro | omega | rfl | (simp [AV.fits, AV.cells, AV.one, DV.fits, DV.cells, DV.one, DV.conf, confL, DV.conf1]; done) | (simp [AV.fits, AV.cells, AV.one, DV.fits, DV.cells, DV.one, DV.conf, confL, DV.conf1, *] <;> omega))
  exact atEnd_SX (fun H => ⟨⟨trivial, trivial⟩, rfl⟩) mne (by omega) n0 n1
theorem pa03 {a b c e g : DV} {i j k l : Nat} : partA (.agg [.d a, .d b, .d c, .d e, .hs i j k l, .d g]) 0 3 true = .d (.agg [a, b, c]) := by simp [partA, AV.cells, AV.mkAgg, AV.allD]
theorem pao03 {a b c e g : DV} {i j k l : Nat} : partAOb (.agg [.d a, .d b, .d c, .d e, .hs i j k l, .d g]) 0 3 true = True := by simp [partAOb, AV.cells]
theorem swap83 (x : Inp) (at_ : Nat) (out : List Int) (cost : Int) (hs : swapB x at_ = true) (hsx : 0 ≤ x.swap ∧ x.swap ≤ 100000000000000) (hco : 0 ≤ cost ∧ cost ≤ 1099511627776) (hb : x.cols.length < 1000000) (ho : out.length < 900000) :
    Fn prog 83 [.ptr 0 0 0, .d (.int .i64 0)] (SH x at_ out cost) (fun r H' => r = .d (.bool true) ∧ SX x (at_ + 2) (out ++ [kindAt x (at_ + 1)] ++ [kindAt x at_]) (min (cost + x.swap) 1099511627776) H') := by
  have hsl := swapB_lt hs
  refine fn_of e83 hm (by rfl) (vs := [.ptr 0 0 0, .d (.int .i64 0), .undef, .undef]) rfl ?_
  unfold c83
  obtain ⟨a1, ha1⟩ : ∃ a1, a1 = at_ + 1 := ⟨_, rfl⟩
  obtain ⟨a2, ha2⟩ : ∃ a2, a2 = at_ + 2 := ⟨_, rfl⟩
  have hwa : IntKind.i64.wrap ((at_ : Int) + 1) = (a1 : Int) := by rw [wrap64 (by omega) (by omega)]; omega
  have hwa2 : IntKind.i64.wrap ((at_ : Int) + 2) = (a2 : Int) := by rw [wrap64 (by omega) (by omega)]; omega
  have hsw := swappable86 x at_ (by omega) (by omega)
  rw [hs] at hsw
  have h0 : at_ < x.cols.length := by omega
  have h1 : a1 < x.cols.length := by omega
  obtain ⟨c, hc⟩ : ∃ c, c = x.cols[at_] := ⟨_, rfl⟩
  obtain ⟨c1, hc1⟩ : ∃ c1, c1 = x.cols[a1] := ⟨_, rfl⟩
  have q0 : kindAt x at_ = c.kind := by simp [kindAt, List.getElem?_eq_getElem h0, ← hc]
  have q1 : kindAt x (at_ + 1) = c1.kind := by rw [← ha1]; simp [kindAt, List.getElem?_eq_getElem h1, ← hc1]
  rw [q0, q1, ← ha2]
  obtain ⟨H0, hH0⟩ : ∃ H0, H0 = SH x at_ out cost := ⟨_, rfl⟩
  have k0 : H0.ob 0 = some (.arr 6 [stV x at_ (.hs 1 0 out.length 1) cost]) := by rw [hH0]; rfl
  have k1 : H0.ob 1 = some (.arr 1 ((out.map dI).map .d)) := by rw [hH0]; rfl
  have kl : H0.length = 2 := by rw [hH0]; rfl
  rw [← hH0]
  clear hH0 ha1 ha2
  have k0' := k0
  simp only [stV] at k0'
  repeat' (first | (with_reducible first | refine st_reg ?_ | refine sN (by conv => lhs; simp [litV, litE, litOb, toDL, AV.toD, AV.norm, List.replicate, fillC, fillOb, AV.mkAgg, AV.allD, AV.cells, DV.cells, k0', pa03, pao03]) ?_ | refine rN ?_ ?_ | refine rO ?_ ?_ | refine rF ?_ ?_ | refine sG (by conv => lhs; simp [litV, litE, litOb, toDL, AV.toD, AV.norm, List.replicate, fillC, fillOb, AV.mkAgg, AV.allD, AV.cells, DV.cells, k0', pa03, pao03]) ?_ | refine gF ?_ | refine gS rfl (by conv => lhs; simp [litV, litE, litOb, toDL, AV.toD, AV.norm, List.replicate, fillC, fillOb, AV.mkAgg, AV.allD, AV.cells, DV.cells, k0', pa03, pao03]) ?_ ?_ | (refine st_gef0 ?_ ?_; focus (conv => (lhs; simp [litV, litE, litOb, toDL, AV.toD, AV.norm, List.replicate, fillC, fillOb, AV.mkAgg, AV.allD, AV.cells, DV.cells, k0', pa03, pao03])); done) | refine sE (by conv => lhs; simp) ?_ | refine Nx.go ?_ | refine st_blke' (by decide) ?_ | refine st_seq ?_ | refine st_blk ?_ | refine st_cond (by conv => lhs; simp) (by conv => lhs; simp [litV, litE, litOb, toDL, AV.toD, AV.norm, List.replicate, fillC, fillOb, AV.mkAgg, AV.allD, AV.cells, DV.cells, k0', pa03, pao03]) ?_ ?_ ?_ | refine st_lexit ?_) | (intro h_; try simp only [reduceCtorEq, y1, y2, y3, y4, y5, y6, y7, y8, y9, z1, z2, z3, z4, z5, z6, z7, ne_eq] at h_))
  all_goals try (first | contradiction | exact True.intro | omega | rfl | (simp [AV.fits, AV.cells, AV.one, DV.fits, DV.cells, DV.one, DV.conf, confL, DV.conf1]; done) | (simp [AV.fits, AV.cells, AV.one, DV.fits, DV.cells, DV.one, DV.conf, confL, DV.conf1, *] <;> omega))
  refine st_get (by conv => lhs; simp) (st_call (by simp [solidOk]) (by conv => lhs; simp) hsw (by exact ⟨.inl rfl, .inl rfl, trivial⟩) (pendOk_refl _) ?_)
  repeat' (first | (with_reducible first | refine st_reg ?_ | refine sN (by conv => lhs; simp [litV, litE, litOb, toDL, AV.toD, AV.norm, List.replicate, fillC, fillOb, AV.mkAgg, AV.allD, AV.cells, DV.cells, k0', hwa, h1, getD_map_lt, dCol, ← hc1]) ?_ | refine rN ?_ ?_ | refine rO ?_ ?_ | refine rF ?_ ?_ | refine sG (by conv => lhs; simp [litV, litE, litOb, toDL, AV.toD, AV.norm, List.replicate, fillC, fillOb, AV.mkAgg, AV.allD, AV.cells, DV.cells, k0', hwa, h1, getD_map_lt, dCol, ← hc1]) ?_ | refine gF ?_ | refine gS rfl (by conv => lhs; simp [litV, litE, litOb, toDL, AV.toD, AV.norm, List.replicate, fillC, fillOb, AV.mkAgg, AV.allD, AV.cells, DV.cells, k0', hwa, h1, getD_map_lt, dCol, ← hc1]) ?_ ?_ | (refine st_gef0 ?_ ?_; focus (conv => (lhs; simp [litV, litE, litOb, toDL, AV.toD, AV.norm, List.replicate, fillC, fillOb, AV.mkAgg, AV.allD, AV.cells, DV.cells, k0', hwa, h1, getD_map_lt, dCol, ← hc1])); done) | refine sE (by conv => lhs; simp) ?_ | refine Nx.go ?_ | refine st_blke' (by decide) ?_ | refine st_seq ?_ | refine st_blk ?_ | refine st_cond (by conv => lhs; simp) (by conv => lhs; simp [litV, litE, litOb, toDL, AV.toD, AV.norm, List.replicate, fillC, fillOb, AV.mkAgg, AV.allD, AV.cells, DV.cells, k0', hwa, h1, getD_map_lt, dCol, ← hc1]) ?_ ?_ ?_ | refine st_lexit ?_) | (intro h_; try simp only [reduceCtorEq, y1, y2, y3, y4, y5, y6, y7, y8, y9, z1, z2, z3, z4, z5, z6, z7, ne_eq] at h_))
  all_goals try (first | contradiction | exact True.intro | omega | rfl | (simp [AV.fits, AV.cells, AV.one, DV.fits, DV.cells, DV.one, DV.conf, confL, DV.conf1]; done) | (simp [AV.fits, AV.cells, AV.one, DV.fits, DV.cells, DV.one, DV.conf, confL, DV.conf1, *] <;> omega))
  refine st_e (st_op (oi := 1) (ds := [.d (.int .i64 c1.kind)]) (xs := [.d (.int .i64 c1.kind)]) k0 k1 (by omega) (emit_SX x at_ out cost c1.kind (by omega)) (by simp) (by conv => lhs; simp) ⟨.inl rfl, trivial⟩ (fun f => by simp [AV.ren, renL]) (fun H4 oj m0 m1 mne ml mo => ?_))
  have m0' := m0
  simp only [stV] at m0'
  repeat' (first | (with_reducible first | refine st_reg ?_ | refine sN (by conv => lhs; simp [litV, litE, litOb, toDL, AV.toD, AV.norm, List.replicate, fillC, fillOb, AV.mkAgg, AV.allD, AV.cells, DV.cells, m0', h0, getD_map_lt, dCol, ← hc]) ?_ | refine rN ?_ ?_ | refine rO ?_ ?_ | refine rF ?_ ?_ | refine sG (by conv => lhs; simp [litV, litE, litOb, toDL, AV.toD, AV.norm, List.replicate, fillC, fillOb, AV.mkAgg, AV.allD, AV.cells, DV.cells, m0', h0, getD_map_lt, dCol, ← hc]) ?_ | refine gF ?_ | refine gS rfl (by conv => lhs; simp [litV, litE, litOb, toDL, AV.toD, AV.norm, List.replicate, fillC, fillOb, AV.mkAgg, AV.allD, AV.cells, DV.cells, m0', h0, getD_map_lt, dCol, ← hc]) ?_ ?_ | (refine st_gef0 ?_ ?_; focus (conv => (lhs; simp [litV, litE, litOb, toDL, AV.toD, AV.norm, List.replicate, fillC, fillOb, AV.mkAgg, AV.allD, AV.cells, DV.cells, m0', h0, getD_map_lt, dCol, ← hc])); done) | refine sE (by conv => lhs; simp) ?_ | refine Nx.go ?_ | refine st_blke' (by decide) ?_ | refine st_seq ?_ | refine st_blk ?_ | refine st_cond (by conv => lhs; simp) (by conv => lhs; simp [litV, litE, litOb, toDL, AV.toD, AV.norm, List.replicate, fillC, fillOb, AV.mkAgg, AV.allD, AV.cells, DV.cells, m0', h0, getD_map_lt, dCol, ← hc]) ?_ ?_ ?_ | refine st_lexit ?_) | (intro h_; try simp only [reduceCtorEq, y1, y2, y3, y4, y5, y6, y7, y8, y9, z1, z2, z3, z4, z5, z6, z7, ne_eq] at h_))
  all_goals try (first | contradiction | exact True.intro | omega | rfl | (simp [AV.fits, AV.cells, AV.one, DV.fits, DV.cells, DV.one, DV.conf, confL, DV.conf1]; done) | (simp [AV.fits, AV.cells, AV.one, DV.fits, DV.cells, DV.one, DV.conf, confL, DV.conf1, *] <;> omega))
  refine st_e (st_op (oi := oj) (ds := [.d (.int .i64 c.kind)]) (xs := [.d (.int .i64 c.kind)]) m0 m1 mne (emit_SX x at_ (out ++ [c1.kind]) cost c.kind (by simp; omega)) (by simp) (by conv => lhs; simp) ⟨.inl rfl, trivial⟩ (fun f => by simp [AV.ren, renL]) (fun H5 ok n0 n1 nne nl no => ?_))
  have n0' := n0
  simp only [stV] at n0'
  repeat' (first | (with_reducible first | refine st_reg ?_ | refine sN (by conv => lhs; simp [litV, litE, litOb, toDL, AV.toD, AV.norm, List.replicate, fillC, fillOb, AV.mkAgg, AV.allD, AV.cells, DV.cells, n0', hwa2]) ?_ | refine rN ?_ ?_ | refine rO ?_ ?_ | refine rF ?_ ?_ | refine sG (by conv => lhs; simp [litV, litE, litOb, toDL, AV.toD, AV.norm, List.replicate, fillC, fillOb, AV.mkAgg, AV.allD, AV.cells, DV.cells, n0', hwa2]) ?_ | refine gF ?_ | refine gS rfl (by conv => lhs; simp [litV, litE, litOb, toDL, AV.toD, AV.norm, List.replicate, fillC, fillOb, AV.mkAgg, AV.allD, AV.cells, DV.cells, n0', hwa2]) ?_ ?_ | (refine st_gef0 ?_ ?_; focus (conv => (lhs; simp [litV, litE, litOb, toDL, AV.toD, AV.norm, List.replicate, fillC, fillOb, AV.mkAgg, AV.allD, AV.cells, DV.cells, n0', hwa2])); done) | refine sE (by conv => lhs; simp) ?_ | refine Nx.go ?_ | refine st_blke' (by decide) ?_ | refine st_seq ?_ | refine st_blk ?_ | refine st_cond (by conv => lhs; simp) (by conv => lhs; simp [litV, litE, litOb, toDL, AV.toD, AV.norm, List.replicate, fillC, fillOb, AV.mkAgg, AV.allD, AV.cells, DV.cells, n0', hwa2]) ?_ ?_ ?_ | refine st_lexit ?_) | (intro h_; try simp only [reduceCtorEq, y1, y2, y3, y4, y5, y6, y7, y8, y9, z1, z2, z3, z4, z5, z6, z7, ne_eq] at h_))
  all_goals try (first | contradiction | exact True.intro | omega | rfl | (simp [AV.fits, AV.cells, AV.one, DV.fits, DV.cells, DV.one, DV.conf, confL, DV.conf1]; done) | (simp [AV.fits, AV.cells, AV.one, DV.fits, DV.cells, DV.one, DV.conf, confL, DV.conf1, *] <;> omega))
  refine st_e (stA_store (id := 0) (ix := 0) (o := 3) (sz := 6) ⟨by simp, trivial⟩ (by conv => lhs; simp) (by conv => lhs; simp) (arrOf_ob n0) ⟨by simp, by simp⟩ (by simp [AV.fits, DV.fits, DV.cells, DV.one]) (up3 x at_ a2 ok 0 _ 1 cost) (fitV ..) (fun H6 hW => ⟨trivial, ?_⟩))
  have l6 := hW.len
  have j0 := hW.self
  simp only [List.set_cons_zero] at j0
  have j1 := hW.ob' nne n1
  clear hW
  have j0' := j0
  simp only [stV] at j0'
  repeat' (first | (with_reducible first | refine st_reg ?_ | refine sN (by conv => lhs; simp [litV, litE, litOb, toDL, AV.toD, AV.norm, List.replicate, fillC, fillOb, AV.mkAgg, AV.allD, AV.cells, DV.cells, j0']) ?_ | refine rN ?_ ?_ | refine rO ?_ ?_ | refine rF ?_ ?_ | refine sG (by conv => lhs; simp [litV, litE, litOb, toDL, AV.toD, AV.norm, List.replicate, fillC, fillOb, AV.mkAgg, AV.allD, AV.cells, DV.cells, j0']) ?_ | refine gF ?_ | refine gS rfl (by conv => lhs; simp [litV, litE, litOb, toDL, AV.toD, AV.norm, List.replicate, fillC, fillOb, AV.mkAgg, AV.allD, AV.cells, DV.cells, j0']) ?_ ?_ | (refine st_gef0 ?_ ?_; focus (conv => (lhs; simp [litV, litE, litOb, toDL, AV.toD, AV.norm, List.replicate, fillC, fillOb, AV.mkAgg, AV.allD, AV.cells, DV.cells, j0'])); done) | refine sE (by conv => lhs; simp) ?_ | refine Nx.go ?_ | refine st_blke' (by decide) ?_ | refine st_seq ?_ | refine st_blk ?_ | refine st_cond (by conv => lhs; simp) (by conv => lhs; simp [litV, litE, litOb, toDL, AV.toD, AV.norm, List.replicate, fillC, fillOb, AV.mkAgg, AV.allD, AV.cells, DV.cells, j0']) ?_ ?_ ?_ | refine st_lexit ?_) | (intro h_; try simp only [reduceCtorEq, y1, y2, y3, y4, y5, y6, y7, y8, y9, z1, z2, z3, z4, z5, z6, z7, ne_eq] at h_))
  all_goals try (first | contradiction | exact True.intro | omega | rfl | (simp [AV.fits, AV.cells, AV.one, DV.fits, DV.cells, DV.one, DV.conf, confL, DV.conf1]; done) | (simp [AV.fits, AV.cells, AV.one, DV.fits, DV.cells, DV.one, DV.conf, confL, DV.conf1, *] <;> omega))
  refine st_e (st_call (by simp [solidOk]) (by conv => lhs; simp) (add85 cost x.swap (by omega) (by omega)) (by exact ⟨.inl rfl, .inl rfl, trivial⟩) (pendOk_refl _) ?_)
  repeat' (first | (with_reducible first | refine st_reg ?_ | refine sN (by conv => lhs; simp) ?_ | refine rN ?_ ?_ | refine rO ?_ ?_ | refine rF ?_ ?_ | refine sG (by conv => lhs; simp) ?_ | refine gF ?_ | refine gS rfl (by conv => lhs; simp) ?_ ?_ | (refine st_gef0 ?_ ?_; focus (conv => (lhs; simp)); done) | refine sE (by conv => lhs; simp) ?_ | refine Nx.go ?_ | refine st_blke' (by decide) ?_ | refine st_seq ?_ | refine st_blk ?_ | refine st_cond (by conv => lhs; simp) (by conv => lhs; simp) ?_ ?_ ?_ | refine st_lexit ?_) | (intro h_; try simp only [reduceCtorEq, y1, y2, y3, y4, y5, y6, y7, y8, y9, z1, z2, z3, z4, z5, z6, z7, ne_eq] at h_))
  all_goals try (first | contradiction | exact True.intro | omega | rfl | (simp [AV.fits, AV.cells, AV.one, DV.fits, DV.cells, DV.one, DV.conf, confL, DV.conf1]; done) | (simp [AV.fits, AV.cells, AV.one, DV.fits, DV.cells, DV.one, DV.conf, confL, DV.conf1, *] <;> omega))
  refine st_e (stA_store (id := 0) (ix := 0) (o := 5) (sz := 6) ⟨by simp, trivial⟩ (by conv => lhs; simp) (by conv => lhs; simp) (arrOf_ob j0) ⟨by simp, by simp⟩ (by simp [AV.fits, DV.fits, DV.cells, DV.one]) (up5 x a2 ok 0 _ 1 cost _) (fitV ..) (fun H7 hW => ⟨trivial, ?_⟩))
  have l7 := hW.len
  have p0 := hW.self
  simp only [List.set_cons_zero] at p0
  have p1 := hW.ob' nne j1
  clear hW
  repeat' (first | (with_reducible first | refine st_reg ?_ | refine sN (by conv => lhs; simp) ?_ | refine rN ?_ ?_ | refine rO ?_ ?_ | refine rF ?_ ?_ | refine sG (by conv => lhs; simp) ?_ | refine gF ?_ | refine gS rfl (by conv => lhs; simp) ?_ ?_ | (refine st_gef0 ?_ ?_; focus (conv => (lhs; simp)); done) | refine sE (by conv => lhs; simp) ?_ | refine Nx.go ?_ | refine st_blke' (by decide) ?_ | refine st_seq ?_ | refine st_blk ?_ | refine st_cond (by conv => lhs; simp) (by conv => lhs; simp) ?_ ?_ ?_ | refine st_lexit ?_) | (intro h_; try simp only [reduceCtorEq, y1, y2, y3, y4, y5, y6, y7, y8, y9, z1, z2, z3, z4, z5, z6, z7, ne_eq] at h_))
  all_goals try (first | contradiction | exact True.intro | omega | rfl | (simp [AV.fits, AV.cells, AV.one, DV.fits, DV.cells, DV.one, DV.conf, confL, DV.conf1]; done) | (simp [AV.fits, AV.cells, AV.one, DV.fits, DV.cells, DV.one, DV.conf, confL, DV.conf1, *] <;> omega))
  exact atEnd_SX (fun H => ⟨⟨trivial, trivial⟩, rfl⟩) nne (by omega) p0 p1
end Go.Vm.L
