/- Lattice: slices.Repeat of one number. -/
import Derived.Test.YtibpfnjbgojfoaaDoorZdJ
import Derived.Test.YtibpfnjbgojfoaaDoorZdIr2
set_option linter.all false
set_option maxHeartbeats 4000000
namespace Go.Vm.L
open Go Go.Vm

theorem wrapU64 {n : Int} (h1 : 0 ≤ n) (h2 : n < 18446744073709551616) : IntKind.wrap .u64 n = n := IntWalk.u64_in n ⟨h1, by omega⟩
theorem andMask {b : Nat} (h : b < 4294967296) : bits2 .u64 (· &&& ·) (b : Int) 4294967295 = .d (.int .u64 (b : Int)) := by
  unfold bits2
  have e1 : BitVec.ofInt (IntKind.bits .u64) (b : Int) = BitVec.ofNat 64 b := by
    show BitVec.ofInt 64 (b : Int) = _
    simp
  have e2 : BitVec.ofInt (IntKind.bits .u64) (4294967295 : Int) = BitVec.ofNat 64 4294967295 := rfl
  have e3 : ((BitVec.ofNat 64 b) &&& (BitVec.ofNat 64 4294967295)).toNat = b := by
    rw [BitVec.toNat_and, BitVec.toNat_ofNat, BitVec.toNat_ofNat, Nat.mod_eq_of_lt (by omega), Nat.mod_eq_of_lt (by omega)]
    exact (Nat.and_two_pow_sub_one_eq_mod b 32).trans (Nat.mod_eq_of_lt h)
  rw [e1, e2]
  have e4 : (((BitVec.ofNat 64 b) &&& (BitVec.ofNat 64 4294967295)).toNat : Int) = b := by rw [e3]
  show AV.d (.int .u64 (IntKind.wrap .u64 (((BitVec.ofNat 64 b) &&& (BitVec.ofNat 64 4294967295)).toNat : Int))) = _
  rw [e4, wrapU64 (by omega) (by omega)]

theorem Mul60 (n : Nat) (hn : n < 1000000) : Pure prog 45 [.d (.int .u64 1), .d (.int .u64 n)] (.tup [.d (.int .u64 0), .d (.int .u64 n)]) := by
  refine fn_of e45 hm (by rfl) (vs := [.d (.int .u64 1), .d (.int .u64 n), .undef, .undef, .undef, .undef, .undef, .undef, .undef, .undef, .undef, .undef]) rfl ?_
  unfold c45
  have h1 : bits2 .u64 (· &&& ·) 1 4294967295 = .d (.int .u64 1) := andMask (b := 1) (by omega)
  have h2 := andMask (b := n) (by omega)
  have h0 : bits2 .u64 (· &&& ·) 0 4294967295 = .d (.int .u64 0) := andMask (b := 0) (by omega)
  have s1 : Int.fdiv 1 (2 ^ min 32 IntKind.u64.bits) = 0 := by decide
  have s0 : Int.fdiv 0 (2 ^ min 32 IntKind.u64.bits) = 0 := by decide
  have hb : min 32 IntKind.u64.bits = 32 := by decide
  have s2 : Int.fdiv (n : Int) (2 ^ min 32 IntKind.u64.bits) = 0 := by
    rw [hb, Int.fdiv_eq_ediv_of_nonneg _ (by decide)]
    exact Int.ediv_eq_zero_of_lt (by omega) (by omega)
  have hw : IntKind.u64.wrap (n : Int) = n := wrapU64 (by omega) (by omega)
  have hw0 : IntKind.u64.wrap 0 = 0 := wrapU64 (by omega) (by omega)
  repeat' (first | (with_reducible first | refine st_reg ?_ | refine sN (by conv => lhs; simp [h0, h1, h2, s0, s1, s2, hw, hw0]) ?_ | refine rN ?_ ?_ | refine rO ?_ ?_ | refine rF ?_ ?_ | refine sG (by conv => lhs; simp [h0, h1, h2, s0, s1, s2, hw, hw0]) ?_ | refine gF ?_ | refine gS rfl (by conv => lhs; simp [h0, h1, h2, s0, s1, s2, hw, hw0]) ?_ ?_ | (refine st_gef0 ?_ ?_; focus (conv => (lhs; simp [h0, h1, h2, s0, s1, s2, hw, hw0])); done) | refine sE (by conv => lhs; simp) ?_ | refine Nx.go ?_ | refine st_blke' (by decide) ?_ | refine st_seq ?_ | refine st_blk ?_ | refine st_cond (by conv => lhs; simp) (by conv => lhs; simp [h0, h1, h2, s0, s1, s2, hw, hw0]) ?_ ?_ ?_ | refine st_lexit ?_) | (intro h_; try simp only [reduceCtorEq, y1, y2, y3, y4, y5, y6, y7, y8, y9, z1, z2, z3, z4, z5, z6, z7, ne_eq] at h_))
  all_goals try (first | contradiction | exact True.intro | omega | rfl | (simp [AV.fits, AV.cells, AV.one, DV.fits, DV.cells, DV.one, DV.conf, confL, DV.conf1]; done) | (simp [AV.fits, AV.cells, AV.one, DV.fits, DV.cells, DV.one, DV.conf, confL, DV.conf1, *] <;> omega))
  exact atEnd_pure ⟨trivial, trivial, trivial⟩ rfl rfl

theorem Mul46 (n : Nat) (hn : n < 1000000) : Pure prog 33 [.d (.int .u64 1), .d (.int .u64 n)] (.tup [.d (.int .u64 0), .d (.int .u64 n)]) := by
  refine fn_of e33 hm (by rfl) (vs := [.d (.int .u64 1), .d (.int .u64 n), .undef, .undef, .undef, .undef, .undef, .undef]) rfl ?_
  unfold c33
  repeat' (first | (with_reducible first | refine st_reg ?_ | refine sN (by conv => lhs; simp) ?_ | refine rN ?_ ?_ | refine rO ?_ ?_ | refine rF ?_ ?_ | refine sG (by conv => lhs; simp) ?_ | refine gF ?_ | refine gS rfl (by conv => lhs; simp) ?_ ?_ | (refine st_gef0 ?_ ?_; focus (conv => (lhs; simp)); done) | refine sE (by conv => lhs; simp) ?_ | refine Nx.go ?_ | refine st_blke' (by decide) ?_ | refine st_seq ?_ | refine st_blk ?_ | refine st_cond (by conv => lhs; simp) (by conv => lhs; simp) ?_ ?_ ?_ | refine st_lexit ?_) | (intro h_; try simp only [reduceCtorEq, y1, y2, y3, y4, y5, y6, y7, y8, y9, z1, z2, z3, z4, z5, z6, z7, ne_eq] at h_))
  all_goals try (first | contradiction | exact True.intro | omega | rfl | (simp [AV.fits, AV.cells, AV.one, DV.fits, DV.cells, DV.one, DV.conf, confL, DV.conf1]; done) | (simp [AV.fits, AV.cells, AV.one, DV.fits, DV.cells, DV.one, DV.conf, confL, DV.conf1, *] <;> omega))
  refine st_e (stA_call [] ⟨by simp, trivial⟩ (by conv => lhs; simp) (Mul60 n hn) (by simp [argsM, AV.ren]) trivial List.nodup_nil (fun r Hc' H1 hr hH => ⟨trivial, ?_⟩))
  obtain ⟨rfl, rfl⟩ := hr
  have he : H1 = [] := by simpa using hH.len
  subst he
  repeat' (first | (with_reducible first | refine st_reg ?_ | refine sN (by conv => lhs; simp [AV.ren, renL]) ?_ | refine rN ?_ ?_ | refine rO ?_ ?_ | refine rF ?_ ?_ | refine sG (by conv => lhs; simp [AV.ren, renL]) ?_ | refine gF ?_ | refine gS rfl (by conv => lhs; simp [AV.ren, renL]) ?_ ?_ | (refine st_gef0 ?_ ?_; focus (conv => (lhs; simp [AV.ren, renL])); done) | refine sE (by conv => lhs; simp) ?_ | refine Nx.go ?_ | refine st_blke' (by decide) ?_ | refine st_seq ?_ | refine st_blk ?_ | refine st_cond (by conv => lhs; simp) (by conv => lhs; simp [AV.ren, renL]) ?_ ?_ ?_ | refine st_lexit ?_) | (intro h_; try simp only [reduceCtorEq, y1, y2, y3, y4, y5, y6, y7, y8, y9, z1, z2, z3, z4, z5, z6, z7, ne_eq] at h_))
  all_goals try (first | contradiction | exact True.intro | omega | rfl | (simp [AV.fits, AV.cells, AV.one, DV.fits, DV.cells, DV.one, DV.conf, confL, DV.conf1]; done) | (simp [AV.fits, AV.cells, AV.one, DV.fits, DV.cells, DV.one, DV.conf, confL, DV.conf1, *] <;> omega))
  exact atEnd_pure ⟨trivial, trivial, trivial⟩ rfl rfl

theorem slh_lo {sz id off len sz' : Nat} {k : IntKind} {l : Int} : sliceV sz (some (.d (.int k l))) none (.hs id off len sz') = ⟨0 ≤ l ∧ l ≤ (len : Int) ∧ (len : Int) ≤ len ∧ sz' = sz ∧ sz ≠ 0, .hs id (off + l.toNat) ((len : Int).toNat - l.toNat) sz, .none⟩ := (rfl)
theorem slh_hi {sz id off len sz' : Nat} {k : IntKind} {h : Int} : sliceV sz none (some (.d (.int k h))) (.hs id off len sz') = ⟨0 ≤ (0 : Int) ∧ 0 ≤ h ∧ h ≤ (len : Int) ∧ sz' = sz ∧ sz ≠ 0, .hs id (off + (0 : Int).toNat) (h.toNat - (0 : Int).toNat) sz, .none⟩ := (rfl)
def repA (v : Int) (n j : Nat) : List AV := List.replicate j (.d (dI v)) ++ List.replicate (n - j) (.d (.int .i64 0))
theorem repA_len {v : Int} {n j : Nat} (h : j ≤ n) : (repA v n j).length = n := by simp [repA]; omega
theorem repA_step {v : Int} {n j m : Nat} (h : j ≤ n) (hm : m ≤ j) (hjm : j + m ≤ n) : (repA v n j).take j ++ ((repA v n j).take j).take m ++ (repA v n j).drop (j + m) = repA v n (j + m) := by
  have e1 : (repA v n j).take j = List.replicate j (.d (dI v)) := by simp [repA]
  have e2 : (repA v n j).drop (j + m) = List.replicate (n - (j + m)) (.d (.int .i64 0)) := by
    simp only [repA, List.drop_append, List.drop_replicate, List.length_replicate]
    rw [show j - (j + m) = 0 by omega, show n - j - (j + m - j) = n - (j + m) by omega]
    simp
  rw [e1, e2, List.take_replicate, Nat.min_eq_left hm, repA, ← List.replicate_append_replicate]

theorem Repeat29 (v : Int) (n : Nat) (h1 : 1 ≤ n) (hn : n < 100000) :
    Fn prog 21 [.d (.vs [dI v]), .d (.int .i64 n)] [] (fun r H' => ∃ id, r = .hs id 0 n 1 ∧ H' = [some (.arr 1 (List.replicate n (.d (dI v))))] ∧ id = 0) := by
  refine fn_of e21 hm (by rfl) (vs := [.d (.vs [dI v]), .d (.int .i64 n), .undef, .undef, .undef, .undef, .undef, .undef, .undef, .undef]) rfl ?_
  unfold c21
  have hw1 : IntKind.u64.wrap 1 = 1 := wrapU64 (by omega) (by omega)
  have hwn : IntKind.u64.wrap (n : Int) = n := wrapU64 (by omega) (by omega)
  have hwi : IntKind.i64.wrap (n : Int) = n := wrap64 (by omega) (by omega)
  have hn0 : ¬ (n : Int) < 0 := by omega
  have hn1 : ¬ (n : Int) > 9223372036854775807 := by omega
  repeat' (first | (with_reducible first | refine st_reg ?_ | refine sN (by conv => lhs; simp [hw1, hwn, hwi, hn0, hn1]) ?_ | refine rN ?_ ?_ | refine rO ?_ ?_ | refine rF ?_ ?_ | refine sG (by conv => lhs; simp [hw1, hwn, hwi, hn0, hn1]) ?_ | refine gF ?_ | refine gS rfl (by conv => lhs; simp [hw1, hwn, hwi, hn0, hn1]) ?_ ?_ | (refine st_gef0 ?_ ?_; focus (conv => (lhs; simp [hw1, hwn, hwi, hn0, hn1])); done) | refine sE (by conv => lhs; simp) ?_ | refine Nx.go ?_ | refine st_blke' (by decide) ?_ | refine st_seq ?_ | refine st_blk ?_ | refine st_cond (by conv => lhs; simp) (by conv => lhs; simp [hw1, hwn, hwi, hn0, hn1]) ?_ ?_ ?_ | refine st_lexit ?_) | (intro h_; try simp only [reduceCtorEq, y1, y2, y3, y4, y5, y6, y7, y8, y9, z1, z2, z3, z4, z5, z6, z7, ne_eq] at h_))
  all_goals try (first | contradiction | exact True.intro | omega | rfl | (simp [AV.fits, AV.cells, AV.one, DV.fits, DV.cells, DV.one, DV.conf, confL, DV.conf1]; done) | (simp [AV.fits, AV.cells, AV.one, DV.fits, DV.cells, DV.one, DV.conf, confL, DV.conf1, *] <;> omega))
  refine st_e (stA_call [] ⟨by simp, trivial⟩ (by conv => lhs; simp [hw1, hwn]) (Mul46 n (by omega)) (by simp [argsM, AV.ren]) trivial List.nodup_nil (fun r Hc' H1 hr hH => ⟨trivial, ?_⟩))
  obtain ⟨rfl, rfl⟩ := hr
  have he : H1 = [] := by simpa using hH.len
  subst he
  repeat' (first | (with_reducible first | refine st_reg ?_ | refine sN (by conv => lhs; simp [AV.ren, renL, hw1, hwn, hwi, hn0, hn1]) ?_ | refine rN ?_ ?_ | refine rO ?_ ?_ | refine rF ?_ ?_ | refine sG (by conv => lhs; simp [AV.ren, renL, hw1, hwn, hwi, hn0, hn1]) ?_ | refine gF ?_ | refine gS rfl (by conv => lhs; simp [AV.ren, renL, hw1, hwn, hwi, hn0, hn1]) ?_ ?_ | (refine st_gef0 ?_ ?_; focus (conv => (lhs; simp [AV.ren, renL, hw1, hwn, hwi, hn0, hn1])); done) | refine sE (by conv => lhs; simp) ?_ | refine Nx.go ?_ | refine st_blke' (by decide) ?_ | refine st_seq ?_ | refine st_blk ?_ | refine st_cond (by conv => lhs; simp) (by conv => lhs; simp [AV.ren, renL, hw1, hwn, hwi, hn0, hn1]) ?_ ?_ ?_ | refine st_lexit ?_) | (intro h_; try simp only [reduceCtorEq, y1, y2, y3, y4, y5, y6, y7, y8, y9, z1, z2, z3, z4, z5, z6, z7, ne_eq] at h_))
  all_goals try (first | contradiction | exact True.intro | omega | rfl | (simp [AV.fits, AV.cells, AV.one, DV.fits, DV.cells, DV.one, DV.conf, confL, DV.conf1]; done) | (simp [AV.fits, AV.cells, AV.one, DV.fits, DV.cells, DV.one, DV.conf, confL, DV.conf1, *] <;> omega))
  refine st_e (st_copy (id := 0) (off := 0) (len := n) (m := 1) (es := List.replicate n (.d (.int .i64 0))) (news := [.d (dI v)]) (by simp) (by conv => lhs; simp) (by conv => lhs; simp [srcE]) (by simp [dI, DV.fits, DV.cells, DV.one]) rfl (by simp) (by simp; omega) ?_)
  have e0 : (List.replicate n (AV.d (.int .i64 0))).take 0 ++ ([AV.d (dI v)]).take 1 ++ (List.replicate n (AV.d (.int .i64 0))).drop (0 + 1) = repA v n 1 := by simp [repA]
  rw [e0]
  simp only [List.set_cons_zero]
  repeat' (first | (with_reducible first | refine st_reg ?_ | refine sN (by conv => lhs; simp) ?_ | refine rN ?_ ?_ | refine rO ?_ ?_ | refine rF ?_ ?_ | refine sG (by conv => lhs; simp) ?_ | refine gF ?_ | refine gS rfl (by conv => lhs; simp) ?_ ?_ | (refine st_gef0 ?_ ?_; focus (conv => (lhs; simp)); done) | refine sE (by conv => lhs; simp) ?_ | refine Nx.go ?_ | refine st_blke' (by decide) ?_ | refine st_seq ?_ | refine st_blk ?_ | refine st_cond (by conv => lhs; simp) (by conv => lhs; simp) ?_ ?_ ?_ | refine st_lexit ?_) | (intro h_; try simp only [reduceCtorEq, y1, y2, y3, y4, y5, y6, y7, y8, y9, z1, z2, z3, z4, z5, z6, z7, ne_eq] at h_))
  all_goals try (first | contradiction | exact True.intro | omega | rfl | (simp [AV.fits, AV.cells, AV.one, DV.fits, DV.cells, DV.one, DV.conf, confL, DV.conf1]; done) | (simp [AV.fits, AV.cells, AV.one, DV.fits, DV.cells, DV.one, DV.conf, confL, DV.conf1, *] <;> omega))
  refine wpC_loop (fun s => ∃ j : Nat, 1 ≤ j ∧ j ≤ n ∧ s = ⟨[.d (.vs [dI v]), .d (.int .i64 n), .nils, .undef, .undef, .hs 0 0 n 1, .d (.int .i64 j), .undef, .undef, .undef], [some (.arr 1 (repA v n j))]⟩)
    (fun s => n - (s.int 6).toNat) (s' := ⟨[.d (.vs [dI v]), .d (.int .i64 n), .nils, .undef, .undef, .hs 0 0 n 1, .d (.int .i64 (1 : Nat)), .undef, .undef, .undef], [some (.arr 1 (repA v n 1))]⟩)
    (Gh.weak (by simp [weak])) ⟨1, by omega, by omega, rfl⟩ ?_
  rintro _ ⟨j, hj1, hjn, rfl⟩
  rcases Nat.lt_or_ge j n with hlt | hlt
  · have hlen := repA_len (v := v) hjn
    obtain ⟨m, hm⟩ : ∃ m, m = min j (n - j) := ⟨_, rfl⟩
    have hwj : IntKind.i64.wrap ((j : Int) + m) = ((j + m : Nat) : Int) := by rw [wrap64 (by omega) (by omega)]; simp
    repeat' (first | (with_reducible first | refine st_reg ?_ | refine sN (by conv => lhs; simp [hlt, slh_lo, slh_hi]) ?_ | refine rN ?_ ?_ | refine rO ?_ ?_ | refine rF ?_ ?_ | refine sG (by conv => lhs; simp [hlt, slh_lo, slh_hi]) ?_ | refine gF ?_ | refine gS rfl (by conv => lhs; simp [hlt, slh_lo, slh_hi]) ?_ ?_ | (refine st_gef0 ?_ ?_; focus (conv => (lhs; simp [hlt, slh_lo, slh_hi])); done) | refine sE (by conv => lhs; simp) ?_ | refine Nx.go ?_ | refine st_blke' (by decide) ?_ | refine st_seq ?_ | refine st_blk ?_ | refine st_cond (by conv => lhs; simp) (by conv => lhs; simp [hlt, slh_lo, slh_hi]) ?_ ?_ ?_ | refine st_lexit ?_) | (intro h_; try simp only [reduceCtorEq, y1, y2, y3, y4, y5, y6, y7, y8, y9, z1, z2, z3, z4, z5, z6, z7, ne_eq] at h_))
    all_goals try (first | contradiction | exact True.intro | omega | rfl | (simp [AV.fits, AV.cells, AV.one, DV.fits, DV.cells, DV.one, DV.conf, confL, DV.conf1]; done) | (simp [AV.fits, AV.cells, AV.one, DV.fits, DV.cells, DV.one, DV.conf, confL, DV.conf1, *] <;> omega))
    refine st_e (st_copy (id := 0) (off := j) (len := n - j) (m := m) (es := repA v n j) (news := (repA v n j).take j) (by simp) (by conv => lhs; simp) (by conv => lhs; simp [srcE]) (by simp [hlen]; omega) rfl (by omega) (by simp [hlen]; omega) ?_)
    rw [repA_step hjn (by omega) (by omega)]
    simp only [List.set_cons_zero]
    repeat' (first | (with_reducible first | refine st_reg ?_ | refine sN (by conv => lhs; simp [hwj]) ?_ | refine rN ?_ ?_ | refine rO ?_ ?_ | refine rF ?_ ?_ | refine sG (by conv => lhs; simp [hwj]) ?_ | refine gF ?_ | refine gS rfl (by conv => lhs; simp [hwj]) ?_ ?_ | (refine st_gef0 ?_ ?_; focus (conv => (lhs; simp [hwj])); done) | refine sE (by conv => lhs; simp) ?_ | refine Nx.go ?_ | refine st_blke' (by decide) ?_ | refine st_seq ?_ | refine st_blk ?_ | refine st_cond (by conv => lhs; simp) (by conv => lhs; simp [hwj]) ?_ ?_ ?_ | refine st_lexit ?_) | (intro h_; try simp only [reduceCtorEq, y1, y2, y3, y4, y5, y6, y7, y8, y9, z1, z2, z3, z4, z5, z6, z7, ne_eq] at h_))
    all_goals try (first | contradiction | exact True.intro | omega | rfl | (simp [AV.fits, AV.cells, AV.one, DV.fits, DV.cells, DV.one, DV.conf, confL, DV.conf1]; done) | (simp [AV.fits, AV.cells, AV.one, DV.fits, DV.cells, DV.one, DV.conf, confL, DV.conf1, *] <;> omega))
    exact st_lnormw (ys := [.d (.vs [dI v]), .d (.int .i64 n), .nils, .undef, .undef, .hs 0 0 n 1, .d (.int .i64 (j + m : Nat)), .undef, .undef, .undef]) (by simp [weak]) ⟨j + m, by omega, by omega, rfl⟩ (by simp [St.int]; omega)
  · have hjn' : j = n := by omega
    subst hjn'
    repeat' (first | (with_reducible first | refine st_reg ?_ | refine sN (by conv => lhs; simp [hlt]) ?_ | refine rN ?_ ?_ | refine rO ?_ ?_ | refine rF ?_ ?_ | refine sG (by conv => lhs; simp [hlt]) ?_ | refine gF ?_ | refine gS rfl (by conv => lhs; simp [hlt]) ?_ ?_ | (refine st_gef0 ?_ ?_; focus (conv => (lhs; simp [hlt])); done) | refine sE (by conv => lhs; simp) ?_ | refine Nx.go ?_ | refine st_blke' (by decide) ?_ | refine st_seq ?_ | refine st_blk ?_ | refine st_cond (by conv => lhs; simp) (by conv => lhs; simp [hlt]) ?_ ?_ ?_ | refine st_lexit ?_) | (intro h_; try simp only [reduceCtorEq, y1, y2, y3, y4, y5, y6, y7, y8, y9, z1, z2, z3, z4, z5, z6, z7, ne_eq] at h_))
    all_goals try (first | contradiction | exact True.intro | omega | rfl | (simp [AV.fits, AV.cells, AV.one, DV.fits, DV.cells, DV.one, DV.conf, confL, DV.conf1]; done) | (simp [AV.fits, AV.cells, AV.one, DV.fits, DV.cells, DV.one, DV.conf, confL, DV.conf1, *] <;> omega))
    refine atEnd_Hr 1 (Gh.refl _) ⟨trivial, trivial⟩ (Nat.zero_le _) (Nat.le_refl _) ?_ rfl ⟨0, rfl, ?_, rfl⟩
    · intro i o hi ho
      match i with
      | 0 =>
        simp only [List.getElem?_cons_zero, Option.some.injEq] at ho
        subst ho
        have := undL_data (n := 1) (List.replicate j (dI v))
        simpa [repA, Ob.und] using this
      | i + 1 => omega
    · simp [repA]
end Go.Vm.L
