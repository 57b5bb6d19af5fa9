/- Lattice: Build comes to the reference's lattice. -/
import Derived.Test.YtibpfnjbgojfoaaDoorZdX
set_option linter.all false
set_option maxHeartbeats 8000000
namespace Go.Vm.L
open Go Go.Vm

theorem mtab_len {x : Inp} (ht : x.insert.length ≤ 5) (hn : x.cols.length ≤ 8) : ∀ M, M = buildM x (x.cols.length + 1) → M.length < 1000000 := by
  intro M hM
  have h1 : (sortK (M.map (·.1))).length = M.length := by rw [(sortK_perm _).length_eq]; simp
  have h2 : (buildA x).length = M.length := by rw [buildA, List.length_map, ← hM, h1]
  rw [buildA_ref] at h2
  have := refA_len ht hn
  omega
theorem Build12p (x : Inp) (hx : WF x) (ht : x.insert.length ≤ 5) (hn : x.cols.length ≤ 8) : Pure prog 6 [.d (dInp x)] (.d (dLat (refL x))) := by
  have := Build12 sortC x hx (mtab_len ht hn)
  rw [buildL_ref] at this
  exact this
end Go.Vm.L
