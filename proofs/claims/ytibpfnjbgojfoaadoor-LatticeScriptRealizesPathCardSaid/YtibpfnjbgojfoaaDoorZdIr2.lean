/- More functions in the code of the machine. -/
import Derived.Test.YtibpfnjbgojfoaaDoorZdIr
import Derived.Test.YtibpfnjbgojfoaaDoorChecked
import Derived.KernelRfl
namespace Go.Vm.L
open Go Go.Vm
set_option maxRecDepth 100000
/- math/bits.Mul params 2 free 0 -/
def v33 : List Tmp := [0, 1, 4, 5, 6, 7, 8, 9]
@[reducible] def c33r0 : Reg := ⟨[.n none (.mov (.k (.d (.int .u64 0)))),
  .n none (.mov (.k (.d (.int .u64 0))))], [(2, 1), (3, 0)]⟩
@[reducible] def c33r1 : Reg := ⟨[.n none (.mov (.var 0)),
  .n none (.conv .u32 (.loc 0)),
  .n none (.mov (.var 1)),
  .n none (.conv .u32 (.loc 0)),
  .e none (.call 44 [(.loc 2), (.loc 0)]) [] [] false,
  .n none (.mov (.loc 0)),
  .n none (.extract 0 (.loc 0)),
  .n none (.extract 1 (.loc 1)),
  .n none (.mov (.loc 1)),
  .n none (.mov (.loc 1))], [(4, 1), (5, 0)]⟩
@[reducible] def c33r2 : Reg := ⟨[.n none (.mov (.var 4)),
  .n none (.conv .u64 (.loc 0)),
  .n none (.mov (.var 5)),
  .n none (.conv .u64 (.loc 0)),
  .n none (.mov (.loc 2)),
  .n none (.mov (.loc 1))], [(2, 1), (3, 0)]⟩
@[reducible] def c33r3 : Reg := ⟨[.n none (.mov (.var 0)),
  .n none (.mov (.var 1)),
  .e none (.call 45 [(.loc 1), (.loc 0)]) [] [] false,
  .n none (.mov (.loc 0)),
  .n none (.extract 0 (.loc 0)),
  .n none (.extract 1 (.loc 1)),
  .n none (.mov (.loc 1)),
  .n none (.mov (.loc 1))], [(6, 1), (7, 0)]⟩
@[reducible] def c33r4 : Reg := ⟨[.n none (.mov (.var 6)),
  .n none (.mov (.var 7)),
  .n none (.mov (.loc 1)),
  .n none (.mov (.loc 1))], [(2, 1), (3, 0)]⟩
def c33 : C := (.seq (.reg c33r0) (.seq (.cond (.k (.d (.bool false))) (.seq (.reg c33r1) (.seq (.reg c33r2) .ret)) .skip) (.seq (.reg c33r3) (.seq (.reg c33r4) .ret))))
def r33 : List RV := [(.tmp 2), (.tmp 3)]
/- math/bits.Mul64 params 2 free 0 -/
def v45 : List Tmp := [0, 1, 4, 5, 6, 7, 8, 9, 10, 11, 12, 13]
@[reducible] def c45r0 : Reg := ⟨[.n none (.mov (.k (.d (.int .u64 0)))),
  .n none (.mov (.k (.d (.int .u64 0))))], [(2, 1), (3, 0)]⟩
@[reducible] def c45r1 : Reg := ⟨[.n none (.mov (.var 0)),
  .n none (.bin .and (.int .u64) (.loc 0) (.k (.d (.int .u64 4294967295)))),
  .n none (.mov (.loc 0))], [(4, 0)]⟩
@[reducible] def c45r2 : Reg := ⟨[.n none (.mov (.var 0)),
  .n none (.bin .shr (.int .u64) (.loc 0) (.k (.d (.int .u64 32)))),
  .n none (.mov (.loc 0))], [(5, 0)]⟩
@[reducible] def c45r3 : Reg := ⟨[.n none (.mov (.var 1)),
  .n none (.bin .and (.int .u64) (.loc 0) (.k (.d (.int .u64 4294967295)))),
  .n none (.mov (.loc 0))], [(6, 0)]⟩
@[reducible] def c45r4 : Reg := ⟨[.n none (.mov (.var 1)),
  .n none (.bin .shr (.int .u64) (.loc 0) (.k (.d (.int .u64 32)))),
  .n none (.mov (.loc 0))], [(7, 0)]⟩
@[reducible] def c45r5 : Reg := ⟨[.n none (.mov (.var 4)),
  .n none (.mov (.var 6)),
  .n none (.bin .mul (.int .u64) (.loc 1) (.loc 0)),
  .n none (.mov (.loc 0))], [(8, 0)]⟩
@[reducible] def c45r6 : Reg := ⟨[.n none (.mov (.var 5)),
  .n none (.mov (.var 6)),
  .n none (.bin .mul (.int .u64) (.loc 1) (.loc 0)),
  .n none (.mov (.var 8)),
  .n none (.bin .shr (.int .u64) (.loc 0) (.k (.d (.int .u64 32)))),
  .n none (.bin .add (.int .u64) (.loc 2) (.loc 0)),
  .n none (.mov (.loc 0))], [(9, 0)]⟩
@[reducible] def c45r7 : Reg := ⟨[.n none (.mov (.var 9)),
  .n none (.bin .and (.int .u64) (.loc 0) (.k (.d (.int .u64 4294967295)))),
  .n none (.mov (.loc 0))], [(10, 0)]⟩
@[reducible] def c45r8 : Reg := ⟨[.n none (.mov (.var 9)),
  .n none (.bin .shr (.int .u64) (.loc 0) (.k (.d (.int .u64 32)))),
  .n none (.mov (.loc 0))], [(11, 0)]⟩
@[reducible] def c45r9 : Reg := ⟨[.n none (.mov (.var 10)),
  .n none (.mov (.var 4)),
  .n none (.mov (.var 7)),
  .n none (.bin .mul (.int .u64) (.loc 1) (.loc 0)),
  .n none (.bin .add (.int .u64) (.loc 3) (.loc 0)),
  .n none (.mov (.loc 0))], [(10, 0)]⟩
@[reducible] def c45r10 : Reg := ⟨[.n none (.mov (.var 5)),
  .n none (.mov (.var 7)),
  .n none (.bin .mul (.int .u64) (.loc 1) (.loc 0)),
  .n none (.mov (.var 11)),
  .n none (.bin .add (.int .u64) (.loc 1) (.loc 0)),
  .n none (.mov (.var 10)),
  .n none (.bin .shr (.int .u64) (.loc 0) (.k (.d (.int .u64 32)))),
  .n none (.bin .add (.int .u64) (.loc 2) (.loc 0)),
  .n none (.mov (.loc 0))], [(2, 0)]⟩
@[reducible] def c45r11 : Reg := ⟨[.n none (.mov (.var 0)),
  .n none (.mov (.var 1)),
  .n none (.bin .mul (.int .u64) (.loc 1) (.loc 0)),
  .n none (.mov (.loc 0))], [(3, 0)]⟩
def c45 : C := (.seq (.reg c45r0) (.seq (.reg c45r1) (.seq (.reg c45r2) (.seq (.reg c45r3) (.seq (.reg c45r4) (.seq (.reg c45r5) (.seq (.reg c45r6) (.seq (.reg c45r7) (.seq (.reg c45r8) (.seq (.reg c45r9) (.seq (.reg c45r10) (.seq (.reg c45r11) .ret))))))))))))
def r45 : List RV := [(.tmp 2), (.tmp 3)]

theorem e33 : compFn Go.Proofs.Tryd.prog v33 [] 33 = some (c33, r33) := by kernel_rfl
theorem e45 : compFn Go.Proofs.Tryd.prog v45 [] 45 = some (c45, r45) := by kernel_rfl
end Go.Vm.L
