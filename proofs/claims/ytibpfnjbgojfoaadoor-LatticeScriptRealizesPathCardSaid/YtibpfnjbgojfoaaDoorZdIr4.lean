/- More functions in the code of the machine: the reference. -/
import Derived.Test.YtibpfnjbgojfoaaDoorZdIr
import Derived.Test.YtibpfnjbgojfoaaDoorChecked
import Derived.KernelRfl
namespace Go.Vm.L
open Go Go.Vm
set_option maxRecDepth 100000
/- emendate/emendateref37.Same params 2 free 0 -/
def v7 : List Tmp := [0, 1, 2, 3, 4, 5, 27, 32, 46]
@[reducible] def c7r0 : Reg := ⟨[.n none (.box 3 (.var 0)),
  .n none (.box 3 (.var 1)),
  .n none (.mov (.k (.d (.bool false))))], [(2, 2), (3, 1), (4, 0)]⟩
@[reducible] def c7r1 : Reg := ⟨[.n none (.fieldAddr 0 (.var 2)),
  .n none (.load 1 false (.loc 0)),
  .n none (.fieldAddr 0 (.var 3)),
  .n none (.load 1 false (.loc 0)),
  .n none (.bin .neq (.int .i64) (.loc 2) (.loc 0)),
  .n none (.mov (.loc 0)),
  .n (some ((.loc 0), false)) (.fieldAddr 1 (.var 2)),
  .n (some ((.loc 1), false)) (.load 1 false (.loc 0)),
  .n (some ((.loc 2), false)) (.len 0 (.loc 0)),
  .n (some ((.loc 3), false)) (.fieldAddr 1 (.var 3)),
  .n (some ((.loc 4), false)) (.load 1 false (.loc 0)),
  .n (some ((.loc 5), false)) (.len 0 (.loc 0)),
  .n (some ((.loc 6), false)) (.bin .neq (.int .i64) (.loc 3) (.loc 0)),
  .n none (.pick (.loc 7) (.k (.d (.bool true))) (.loc 0)),
  .n none (.mov (.loc 0)),
  .n (some ((.loc 0), false)) (.fieldAddr 2 (.var 2)),
  .n (some ((.loc 1), false)) (.load 1 false (.loc 0)),
  .n (some ((.loc 2), false)) (.fieldAddr 2 (.var 3)),
  .n (some ((.loc 3), false)) (.load 1 false (.loc 0)),
  .e (some ((.loc 4), false)) (.call 14 [(.loc 2), (.loc 0)]) [] [] false,
  .n (some ((.loc 5), false)) (.not (.loc 0)),
  .n none (.pick (.loc 6) (.k (.d (.bool true))) (.loc 0))], [(6, 0)]⟩
@[reducible] def c7r2 : Reg := ⟨[.n none (.mov (.k (.d (.bool false))))], [(4, 0)]⟩
@[reducible] def c7r3 : Reg := ⟨[.n none (.mov (.k (.d (.int .i64 0))))], [(5, 0)]⟩
@[reducible] def c7r4 : Reg := ⟨[.n none (.mov (.var 5)),
  .n none (.fieldAddr 1 (.var 2)),
  .n none (.load 1 false (.loc 0)),
  .n none (.len 0 (.loc 0)),
  .n none (.bin .lss (.int .i64) (.loc 3) (.loc 0))], [(7, 0)]⟩
@[reducible] def c7r5 : Reg := ⟨[.n none (.fieldAddr 1 (.var 2)),
  .n none (.load 1 false (.loc 0)),
  .n none (.mov (.var 5)),
  .n none (.idxAddr 5 (.loc 1) (.loc 0)),
  .n none (.load 5 true (.loc 0)),
  .n none (.fieldAddr 1 (.var 3)),
  .n none (.load 1 false (.loc 0)),
  .n none (.mov (.var 5)),
  .n none (.idxAddr 5 (.loc 1) (.loc 0)),
  .n none (.load 5 true (.loc 0)),
  .e none (.call 15 [(.loc 5), (.loc 0)]) [] [] false,
  .n none (.not (.loc 0))], [(8, 0)]⟩
@[reducible] def c7r6 : Reg := ⟨[.n none (.mov (.k (.d (.bool false))))], [(4, 0)]⟩
@[reducible] def c7r7 : Reg := ⟨[.n none (.mov (.var 5)),
  .n none (.bin .add (.int .i64) (.loc 0) (.k (.d (.int .i64 1)))),
  .n none (.mov (.loc 0))], [(5, 0)]⟩
@[reducible] def c7r8 : Reg := ⟨[.n none (.mov (.k (.d (.bool true))))], [(4, 0)]⟩
def c7 : C := (.seq (.reg c7r0) (.seq (.seq (.reg c7r1) (.cond (.var 6) (.seq (.reg c7r2) .ret) .skip)) (.seq (.seq (.reg c7r3) (.block 0 (.loop (.seq (.seq (.reg c7r4) (.cond (.var 7) .skip (.exit 0))) (.seq (.block 1 (.seq (.reg c7r5) (.cond (.var 8) (.seq (.reg c7r6) .ret) .skip))) (.reg c7r7)))))) (.seq (.reg c7r8) .ret))))
def r7 : List RV := [(.tmp 4)]
/- emendate/emendateref37.Build params 1 free 0 -/
def v8 : List Tmp := [0, 1, 2, 3, 4, 5, 6, 7, 8, 9, 10, 11, 12, 13, 14, 20, 26, 37, 54, 83, 110, 128, 134, 141, 180, 188]
@[reducible] def c8r0 : Reg := ⟨[.n none (.box 3 (.var 0)),
  .n none (.alloc 3 (.agg [(.d (.int .i64 0)), .nils, .nils]))], [(1, 1), (2, 0)]⟩
@[reducible] def c8r1 : Reg := ⟨[.n none (.fieldAddr 0 (.var 1)),
  .n none (.load 1 false (.loc 0)),
  .n none (.len 0 (.loc 0)),
  .n none (.mov (.loc 0))], [(3, 0)]⟩
@[reducible] def c8r2 : Reg := ⟨[.n none (.mov (.k .nils))], [(4, 0)]⟩
@[reducible] def c8r3 : Reg := ⟨[.n none (.mov (.k (.d (.int .i64 0))))], [(5, 0)]⟩
@[reducible] def c8r4 : Reg := ⟨[.n none (.mov (.var 5)),
  .n none (.mov (.var 3)),
  .n none (.bin .leq (.int .i64) (.loc 1) (.loc 0))], [(15, 0)]⟩
@[reducible] def c8r5 : Reg := ⟨[.n none (.mov (.var 5)),
  .n none (.mov (.loc 0))], [(6, 0)]⟩
@[reducible] def c8r6 : Reg := ⟨[.n none (.mov (.var 6)),
  .n none (.mov (.var 3)),
  .n none (.bin .leq (.int .i64) (.loc 1) (.loc 0))], [(16, 0)]⟩
@[reducible] def c8r7 : Reg := ⟨[.n none (.load 3 true (.var 1)),
  .n none (.mov (.var 5)),
  .n none (.mov (.var 6)),
  .e none (.call 26 [(.loc 2), (.loc 1), (.loc 0)]) [] [] false,
  .n none (.mov (.loc 0))], [(7, 0)]⟩
@[reducible] def c8r8 : Reg := ⟨[.n none (.mov (.k (.d (.int .i64 0))))], [(8, 0)]⟩
@[reducible] def c8r9 : Reg := ⟨[.n none (.mov (.var 8)),
  .n none (.fieldAddr 1 (.var 1)),
  .n none (.load 1 false (.loc 0)),
  .n none (.len 0 (.loc 0)),
  .n none (.bin .lss (.int .i64) (.loc 3) (.loc 0))], [(17, 0)]⟩
@[reducible] def c8r10 : Reg := ⟨[.n none (.mov (.var 6)),
  .n none (.mov (.var 3)),
  .n none (.bin .lss (.int .i64) (.loc 1) (.loc 0)),
  .n none (.mov (.loc 0)),
  .n (some ((.loc 0), true)) (.fieldAddr 0 (.var 1)),
  .n (some ((.loc 1), true)) (.load 1 false (.loc 0)),
  .n (some ((.loc 2), true)) (.mov (.var 6)),
  .n (some ((.loc 3), true)) (.idxAddr 3 (.loc 1) (.loc 0)),
  .n (some ((.loc 4), true)) (.fieldAddr 1 (.loc 0)),
  .n (some ((.loc 5), true)) (.load 1 false (.loc 0)),
  .n (some ((.loc 6), true)) (.mov (.var 8)),
  .n (some ((.loc 7), true)) (.idxAddr 1 (.loc 1) (.loc 0)),
  .n (some ((.loc 8), true)) (.load 1 false (.loc 0)),
  .n (some ((.loc 9), true)) (.bin .geq (.int .i64) (.loc 0) (.k (.d (.int .i64 0)))),
  .n none (.pick (.loc 10) (.loc 0) (.k (.d (.bool false))))], [(18, 0)]⟩
@[reducible] def c8r11 : Reg := ⟨[.n none (.mov (.var 4)),
  .n none (.mov (.var 5)),
  .n none (.bin .mul (.int .i64) (.k (.d (.int .i64 2))) (.loc 0)),
  .n none (.mov (.var 6)),
  .n none (.bin .mul (.int .i64) (.k (.d (.int .i64 2))) (.loc 0)),
  .n none (.bin .add (.int .i64) (.loc 0) (.k (.d (.int .i64 2)))),
  .n none (.mov (.var 8)),
  .n none (.mov (.var 7)),
  .n none (.fieldAddr 0 (.var 1)),
  .n none (.load 1 false (.loc 0)),
  .n none (.mov (.var 6)),
  .n none (.idxAddr 3 (.loc 1) (.loc 0)),
  .n none (.fieldAddr 1 (.loc 0)),
  .n none (.load 1 false (.loc 0)),
  .n none (.mov (.var 8)),
  .n none (.idxAddr 1 (.loc 1) (.loc 0)),
  .n none (.load 1 false (.loc 0)),
  .e none (.call 28 [(.loc 9), (.loc 0)]) [] [] false,
  .n none (.mov (.var 6)),
  .n none (.mov (.var 5)),
  .n none (.bin .sub (.int .i64) (.loc 1) (.loc 0)),
  .n none (.mov (.var 8)),
  .n none (.build [(.d (.int .i64 0)), (.d (.int .i64 0))] [(0, 1, (.k (.d (.int .i64 1)))), (1, 1, (.loc 0))]),
  .e none (.call 29 [(.loc 2), (.loc 0)]) [] [] false,
  .n none (.build [(.d (.int .i64 0)), (.d (.int .i64 0)), (.d (.int .i64 0)), (.d (.int .i64 0)), .nils] [(0, 1, (.loc 21)), (1, 1, (.loc 18)), (2, 1, (.loc 17)), (3, 1, (.loc 6)), (4, 1, (.loc 0))]),
  .e none (.call 27 [(.loc 24), (.loc 0)]) [] [] false,
  .n none (.mov (.loc 0))], [(4, 0)]⟩
@[reducible] def c8r12 : Reg := ⟨[.n none (.mov (.var 8)),
  .n none (.bin .add (.int .i64) (.loc 0) (.k (.d (.int .i64 1)))),
  .n none (.mov (.loc 0))], [(8, 0)]⟩
@[reducible] def c8r13 : Reg := ⟨[.n none (.load 3 true (.var 1)),
  .n none (.mov (.var 6)),
  .e none (.call 30 [(.loc 1), (.loc 0)]) [] [] false], [(19, 0)]⟩
@[reducible] def c8r14 : Reg := ⟨[.n none (.mov (.var 4)),
  .n none (.mov (.var 5)),
  .n none (.bin .mul (.int .i64) (.k (.d (.int .i64 2))) (.loc 0)),
  .n none (.mov (.var 6)),
  .n none (.bin .mul (.int .i64) (.k (.d (.int .i64 2))) (.loc 0)),
  .n none (.bin .add (.int .i64) (.loc 0) (.k (.d (.int .i64 1)))),
  .n none (.fieldAddr 0 (.var 1)),
  .n none (.load 1 false (.loc 0)),
  .n none (.mov (.var 6)),
  .n none (.bin .add (.int .i64) (.loc 0) (.k (.d (.int .i64 1)))),
  .n none (.idxAddr 3 (.loc 2) (.loc 0)),
  .n none (.fieldAddr 0 (.loc 0)),
  .n none (.load 1 false (.loc 0)),
  .n none (.mov (.var 7)),
  .n none (.fieldAddr 2 (.var 1)),
  .n none (.load 1 false (.loc 0)),
  .n none (.mov (.var 6)),
  .n none (.mov (.var 5)),
  .n none (.bin .sub (.int .i64) (.loc 1) (.loc 0)),
  .n none (.build [(.d (.int .i64 0)), (.d (.int .i64 0))] [(0, 1, (.k (.d (.int .i64 4))))]),
  .e none (.call 28 [(.loc 6), (.loc 4)]) [(.loc 13), (.loc 8)] [] false,
  .e none (.call 29 [(.loc 2), (.loc 1)]) [(.loc 14), (.loc 9)] [] false,
  .n none (.build [(.d (.int .i64 0)), (.d (.int .i64 0)), (.d (.int .i64 0)), (.d (.int .i64 0)), .nils] [(0, 1, (.loc 19)), (1, 1, (.loc 16)), (2, 1, (.loc 9)), (3, 1, (.loc 1)), (4, 1, (.loc 0))]),
  .e none (.call 27 [(.loc 22), (.loc 0)]) [] [] false,
  .n none (.mov (.loc 0))], [(4, 0)]⟩
@[reducible] def c8r15 : Reg := ⟨[.n none (.mov (.var 6)),
  .n none (.bin .add (.int .i64) (.loc 0) (.k (.d (.int .i64 1)))),
  .n none (.mov (.loc 0))], [(6, 0)]⟩
@[reducible] def c8r16 : Reg := ⟨[.n none (.load 3 true (.var 1)),
  .n none (.mov (.var 5)),
  .e none (.call 30 [(.loc 1), (.loc 0)]) [] [] false], [(20, 0)]⟩
@[reducible] def c8r17 : Reg := ⟨[.n none (.mov (.var 4)),
  .n none (.mov (.var 5)),
  .n none (.bin .mul (.int .i64) (.k (.d (.int .i64 2))) (.loc 0)),
  .n none (.bin .add (.int .i64) (.loc 0) (.k (.d (.int .i64 1)))),
  .n none (.mov (.var 5)),
  .n none (.bin .mul (.int .i64) (.k (.d (.int .i64 2))) (.loc 0)),
  .n none (.bin .add (.int .i64) (.loc 0) (.k (.d (.int .i64 4)))),
  .n none (.fieldAddr 0 (.var 1)),
  .n none (.load 1 false (.loc 0)),
  .n none (.mov (.var 5)),
  .n none (.idxAddr 3 (.loc 1) (.loc 0)),
  .n none (.fieldAddr 0 (.loc 0)),
  .n none (.load 1 false (.loc 0)),
  .n none (.build [(.d (.int .i64 0)), (.d (.int .i64 0)), (.d (.int .i64 0)), (.d (.int .i64 0)), .nils] [(0, 1, (.loc 9)), (1, 1, (.loc 6)), (2, 1, (.loc 0))]),
  .e none (.call 27 [(.loc 13), (.loc 0)]) [] [] false,
  .n none (.mov (.loc 0))], [(4, 0)]⟩
@[reducible] def c8r18 : Reg := ⟨[.n none (.mov (.var 5)),
  .n none (.bin .add (.int .i64) (.loc 0) (.k (.d (.int .i64 1)))),
  .n none (.mov (.loc 0))], [(5, 0)]⟩
@[reducible] def c8r19 : Reg := ⟨[.n none (.mov (.k (.d (.int .i64 0))))], [(9, 0)]⟩
@[reducible] def c8r20 : Reg := ⟨[.n none (.mov (.var 9)),
  .n none (.mov (.var 3)),
  .n none (.bin .leq (.int .i64) (.loc 1) (.loc 0))], [(21, 0)]⟩
@[reducible] def c8r21 : Reg := ⟨[.n none (.mov (.var 9)),
  .n none (.mov (.loc 0))], [(10, 0)]⟩
@[reducible] def c8r22 : Reg := ⟨[.n none (.mov (.var 10)),
  .n none (.mov (.var 3)),
  .n none (.bin .leq (.int .i64) (.loc 1) (.loc 0))], [(22, 0)]⟩
@[reducible] def c8r23 : Reg := ⟨[.n none (.mov (.k (.d (.int .i64 0))))], [(11, 0)]⟩
@[reducible] def c8r24 : Reg := ⟨[.n none (.mov (.var 11)),
  .n none (.fieldAddr 1 (.var 1)),
  .n none (.load 1 false (.loc 0)),
  .n none (.len 0 (.loc 0)),
  .n none (.bin .lss (.int .i64) (.loc 3) (.loc 0))], [(23, 0)]⟩
@[reducible] def c8r25 : Reg := ⟨[.n none (.mov (.var 4)),
  .n none (.mov (.var 9)),
  .n none (.bin .mul (.int .i64) (.k (.d (.int .i64 2))) (.loc 0)),
  .n none (.mov (.var 10)),
  .n none (.bin .mul (.int .i64) (.k (.d (.int .i64 2))) (.loc 0)),
  .n none (.mov (.var 11)),
  .n none (.load 3 true (.var 1)),
  .n none (.mov (.var 9)),
  .n none (.mov (.var 10)),
  .n none (.fieldAddr 1 (.var 1)),
  .n none (.load 1 false (.loc 0)),
  .n none (.mov (.var 11)),
  .n none (.idxAddr 1 (.loc 1) (.loc 0)),
  .n none (.load 1 false (.loc 0)),
  .n none (.mov (.var 10)),
  .n none (.mov (.var 9)),
  .n none (.bin .sub (.int .i64) (.loc 1) (.loc 0)),
  .n none (.mov (.var 11)),
  .n none (.build [(.d (.int .i64 0)), (.d (.int .i64 0))] [(0, 1, (.k (.d (.int .i64 3)))), (1, 1, (.loc 0))]),
  .e none (.call 26 [(.loc 12), (.loc 11), (.loc 10)]) [(.loc 9), (.loc 6)] [] false,
  .e none (.call 28 [(.loc 0), (.loc 6)]) [] [] false,
  .e none (.call 29 [(.loc 4), (.loc 2)]) [] [] false,
  .n none (.build [(.d (.int .i64 0)), (.d (.int .i64 0)), (.d (.int .i64 0)), (.d (.int .i64 0)), .nils] [(0, 1, (.loc 19)), (1, 1, (.loc 17)), (2, 1, (.loc 16)), (3, 1, (.loc 1)), (4, 1, (.loc 0))]),
  .e none (.call 27 [(.loc 22), (.loc 0)]) [] [] false,
  .n none (.mov (.loc 0))], [(4, 0)]⟩
@[reducible] def c8r26 : Reg := ⟨[.n none (.mov (.var 11)),
  .n none (.bin .add (.int .i64) (.loc 0) (.k (.d (.int .i64 1)))),
  .n none (.mov (.loc 0))], [(11, 0)]⟩
@[reducible] def c8r27 : Reg := ⟨[.n none (.mov (.var 10)),
  .n none (.bin .add (.int .i64) (.loc 0) (.k (.d (.int .i64 1)))),
  .n none (.mov (.loc 0))], [(10, 0)]⟩
@[reducible] def c8r28 : Reg := ⟨[.n none (.mov (.var 9)),
  .n none (.bin .add (.int .i64) (.loc 0) (.k (.d (.int .i64 1)))),
  .n none (.mov (.loc 0))], [(9, 0)]⟩
@[reducible] def c8r29 : Reg := ⟨[.n none (.mov (.var 3)),
  .n none (.bin .mul (.int .i64) (.k (.d (.int .i64 2))) (.loc 0)),
  .n none (.bin .add (.int .i64) (.loc 0) (.k (.d (.int .i64 1)))),
  .n none (.mov (.var 4)),
  .n none (.build [(.d (.int .i64 0)), .nils, .nils] [(0, 1, (.loc 1)), (1, 1, (.loc 0))]),
  .n none (.alloc 3 (.agg [(.d (.int .i64 0)), .nils, .nils])),
  .e none (.store 3 true (.loc 0) (.loc 1)) [] [] false], [(12, 1)]⟩
@[reducible] def c8r30 : Reg := ⟨[.n none (.mov (.var 3)),
  .n none (.bin .mul (.int .i64) (.k (.d (.int .i64 2))) (.loc 0)),
  .n none (.bin .add (.int .i64) (.loc 0) (.k (.d (.int .i64 1)))),
  .n none (.mkSlice 1 8 (.d (.int .i64 0)) (.loc 0) (.loc 0)),
  .n none (.mov (.loc 0))], [(13, 0)]⟩
@[reducible] def c8r31 : Reg := ⟨[.n none (.mov (.k (.d (.int .i64 0))))], [(14, 0)]⟩
@[reducible] def c8r32 : Reg := ⟨[.n none (.mov (.var 14)),
  .n none (.mov (.var 13)),
  .n none (.len 0 (.loc 0)),
  .n none (.bin .lss (.int .i64) (.loc 2) (.loc 0))], [(24, 0)]⟩
@[reducible] def c8r33 : Reg := ⟨[.n none (.mov (.var 13)),
  .n none (.mov (.var 14)),
  .n none (.idxAddr 1 (.loc 1) (.loc 0)),
  .e none (.store 1 false (.loc 0) (.k (.d (.int .i64 1099511627776)))) [] [] false], []⟩
@[reducible] def c8r34 : Reg := ⟨[.n none (.mov (.var 14)),
  .n none (.bin .rem (.int .i64) (.loc 0) (.k (.d (.int .i64 2)))),
  .n none (.bin .eql (.int .i64) (.loc 0) (.k (.d (.int .i64 0))))], [(25, 0)]⟩
@[reducible] def c8r35 : Reg := ⟨[.n none (.mov (.var 13)),
  .n none (.mov (.var 14)),
  .n none (.load 3 true (.var 1)),
  .n none (.mov (.var 14)),
  .n none (.bin .quo (.int .i64) (.loc 0) (.k (.d (.int .i64 2)))),
  .n none (.mov (.var 3)),
  .e none (.call 26 [(.loc 3), (.loc 1), (.loc 0)]) [] [] false,
  .n none (.idxAddr 1 (.loc 6) (.loc 5)),
  .e none (.store 1 false (.loc 0) (.loc 1)) [] [] false], []⟩
@[reducible] def c8r36 : Reg := ⟨[.n none (.mov (.var 14)),
  .n none (.bin .add (.int .i64) (.loc 0) (.k (.d (.int .i64 1)))),
  .n none (.mov (.loc 0))], [(14, 0)]⟩
@[reducible] def c8r37 : Reg := ⟨[.n none (.mov (.var 13)),
  .n none (.fieldAddr 2 (.var 12)),
  .e none (.store 1 false (.loc 0) (.loc 1)) [] [] false], []⟩
@[reducible] def c8r38 : Reg := ⟨[.n none (.load 3 true (.var 12)),
  .e none (.store 3 true (.var 2) (.loc 0)) [] [] false], []⟩
def c8 : C := (.seq (.reg c8r0) (.seq (.reg c8r1) (.seq (.reg c8r2) (.seq (.seq (.reg c8r3) (.block 0 (.loop (.seq (.seq (.reg c8r4) (.cond (.var 15) .skip (.exit 0))) (.seq (.block 1 (.seq (.seq (.reg c8r5) (.block 2 (.loop (.seq (.seq (.reg c8r6) (.cond (.var 16) .skip (.exit 2))) (.seq (.block 3 (.seq (.reg c8r7) (.seq (.seq (.reg c8r8) (.block 4 (.loop (.seq (.seq (.reg c8r9) (.cond (.var 17) .skip (.exit 4))) (.seq (.block 5 (.seq (.reg c8r10) (.cond (.var 18) (.reg c8r11) .skip))) (.reg c8r12)))))) (.seq (.reg c8r13) (.cond (.var 19) (.reg c8r14) .skip))))) (.reg c8r15)))))) (.seq (.reg c8r16) (.cond (.var 20) (.reg c8r17) .skip)))) (.reg c8r18)))))) (.seq (.seq (.reg c8r19) (.block 6 (.loop (.seq (.seq (.reg c8r20) (.cond (.var 21) .skip (.exit 6))) (.seq (.block 7 (.seq (.reg c8r21) (.block 8 (.loop (.seq (.seq (.reg c8r22) (.cond (.var 22) .skip (.exit 8))) (.seq (.block 9 (.seq (.reg c8r23) (.block 10 (.loop (.seq (.seq (.reg c8r24) (.cond (.var 23) .skip (.exit 10))) (.seq (.block 11 (.reg c8r25)) (.reg c8r26))))))) (.reg c8r27))))))) (.reg c8r28)))))) (.seq (.reg c8r29) (.seq (.reg c8r30) (.seq (.seq (.reg c8r31) (.block 12 (.loop (.seq (.seq (.reg c8r32) (.cond (.var 24) .skip (.exit 12))) (.seq (.block 13 (.seq (.reg c8r33) (.seq (.reg c8r34) (.cond (.var 25) (.reg c8r35) .skip)))) (.reg c8r36)))))) (.seq (.reg c8r37) (.seq (.reg c8r38) .ret))))))))))
def r8 : List RV := [(.cell 2 3 true)]
/- emendate/emendateref37.Path params 2 free 0 -/
def v10 : List Tmp := [0, 1, 2, 4, 5, 6, 7, 8, 9, 13, 43, 69]
@[reducible] def c10r0 : Reg := ⟨[.n none (.box 3 (.var 0)),
  .n none (.mov (.k (.d (.int .i64 0)))),
  .n none (.mov (.k (.d (.int .i64 0)))),
  .n none (.mov (.k (.d (.bool false))))], [(2, 3), (3, 2), (4, 1), (5, 0)]⟩
@[reducible] def c10r1 : Reg := ⟨[.n none (.mov (.k (.d (.int .i64 0))))], [(6, 0)]⟩
@[reducible] def c10r2 : Reg := ⟨[.n none (.mov (.k (.d (.int .i64 0))))], [(7, 0)]⟩
@[reducible] def c10r3 : Reg := ⟨[.n none (.mov (.k (.d (.int .i64 0))))], [(8, 0)]⟩
@[reducible] def c10r4 : Reg := ⟨[.n none (.mov (.var 8)),
  .n none (.mov (.var 1)),
  .n none (.len 0 (.loc 0)),
  .n none (.bin .lss (.int .i64) (.loc 2) (.loc 0))], [(9, 0)]⟩
@[reducible] def c10r5 : Reg := ⟨[.n none (.mov (.var 1)),
  .n none (.mov (.var 8)),
  .n none (.idxAddr 1 (.loc 1) (.loc 0)),
  .n none (.load 1 false (.loc 0)),
  .n none (.bin .lss (.int .i64) (.loc 0) (.k (.d (.int .i64 0)))),
  .n none (.mov (.loc 0)),
  .n (some ((.loc 0), false)) (.mov (.var 1)),
  .n (some ((.loc 1), false)) (.mov (.var 8)),
  .n (some ((.loc 2), false)) (.idxAddr 1 (.loc 1) (.loc 0)),
  .n (some ((.loc 3), false)) (.load 1 false (.loc 0)),
  .n (some ((.loc 4), false)) (.fieldAddr 1 (.var 2)),
  .n (some ((.loc 5), false)) (.load 1 false (.loc 0)),
  .n (some ((.loc 6), false)) (.len 0 (.loc 0)),
  .n (some ((.loc 7), false)) (.bin .geq (.int .i64) (.loc 3) (.loc 0)),
  .n none (.pick (.loc 8) (.k (.d (.bool true))) (.loc 0)),
  .n none (.mov (.loc 0)),
  .n (some ((.loc 0), false)) (.fieldAddr 1 (.var 2)),
  .n (some ((.loc 1), false)) (.load 1 false (.loc 0)),
  .n (some ((.loc 2), false)) (.mov (.var 1)),
  .n (some ((.loc 3), false)) (.mov (.var 8)),
  .n (some ((.loc 4), false)) (.idxAddr 1 (.loc 1) (.loc 0)),
  .n (some ((.loc 5), false)) (.load 1 false (.loc 0)),
  .n (some ((.loc 6), false)) (.idxAddr 5 (.loc 4) (.loc 0)),
  .n (some ((.loc 7), false)) (.fieldAddr 0 (.loc 0)),
  .n (some ((.loc 8), false)) (.load 1 false (.loc 0)),
  .n (some ((.loc 9), false)) (.mov (.var 6)),
  .n (some ((.loc 10), false)) (.bin .neq (.int .i64) (.loc 1) (.loc 0)),
  .n none (.pick (.loc 11) (.k (.d (.bool true))) (.loc 0))], [(10, 0)]⟩
@[reducible] def c10r6 : Reg := ⟨[.n none (.mov (.k (.d (.int .i64 0)))),
  .n none (.mov (.k (.d (.int .i64 0)))),
  .n none (.mov (.k (.d (.bool false))))], [(3, 2), (4, 1), (5, 0)]⟩
@[reducible] def c10r7 : Reg := ⟨[.n none (.fieldAddr 1 (.var 2)),
  .n none (.load 1 false (.loc 0)),
  .n none (.mov (.var 1)),
  .n none (.mov (.var 8)),
  .n none (.idxAddr 1 (.loc 1) (.loc 0)),
  .n none (.load 1 false (.loc 0)),
  .n none (.idxAddr 5 (.loc 4) (.loc 0)),
  .n none (.fieldAddr 1 (.loc 0)),
  .n none (.load 1 false (.loc 0)),
  .n none (.mov (.loc 0))], [(6, 0)]⟩
@[reducible] def c10r8 : Reg := ⟨[.n none (.mov (.var 7)),
  .n none (.fieldAddr 1 (.var 2)),
  .n none (.load 1 false (.loc 0)),
  .n none (.mov (.var 1)),
  .n none (.mov (.var 8)),
  .n none (.idxAddr 1 (.loc 1) (.loc 0)),
  .n none (.load 1 false (.loc 0)),
  .n none (.idxAddr 5 (.loc 4) (.loc 0)),
  .n none (.fieldAddr 3 (.loc 0)),
  .n none (.load 1 false (.loc 0)),
  .e none (.call 28 [(.loc 9), (.loc 0)]) [] [] false,
  .n none (.mov (.loc 0))], [(7, 0)]⟩
@[reducible] def c10r9 : Reg := ⟨[.n none (.mov (.var 8)),
  .n none (.bin .add (.int .i64) (.loc 0) (.k (.d (.int .i64 1)))),
  .n none (.mov (.loc 0))], [(8, 0)]⟩
@[reducible] def c10r10 : Reg := ⟨[.n none (.fieldAddr 2 (.var 2)),
  .n none (.load 1 false (.loc 0)),
  .n none (.mov (.var 6)),
  .n none (.idxAddr 1 (.loc 1) (.loc 0)),
  .n none (.load 1 false (.loc 0)),
  .n none (.bin .geq (.int .i64) (.loc 0) (.k (.d (.int .i64 1099511627776))))], [(11, 0)]⟩
@[reducible] def c10r11 : Reg := ⟨[.n none (.mov (.k (.d (.int .i64 0)))),
  .n none (.mov (.k (.d (.int .i64 0)))),
  .n none (.mov (.k (.d (.bool false))))], [(3, 2), (4, 1), (5, 0)]⟩
@[reducible] def c10r12 : Reg := ⟨[.n none (.mov (.var 6)),
  .n none (.mov (.var 7)),
  .n none (.fieldAddr 2 (.var 2)),
  .n none (.load 1 false (.loc 0)),
  .n none (.mov (.var 6)),
  .n none (.idxAddr 1 (.loc 1) (.loc 0)),
  .n none (.load 1 false (.loc 0)),
  .e none (.call 28 [(.loc 5), (.loc 0)]) [] [] false,
  .n none (.mov (.loc 7)),
  .n none (.mov (.loc 1)),
  .n none (.mov (.k (.d (.bool true))))], [(3, 2), (4, 1), (5, 0)]⟩
def c10 : C := (.seq (.reg c10r0) (.seq (.reg c10r1) (.seq (.reg c10r2) (.seq (.seq (.reg c10r3) (.block 0 (.loop (.seq (.seq (.reg c10r4) (.cond (.var 9) .skip (.exit 0))) (.seq (.block 1 (.seq (.seq (.reg c10r5) (.cond (.var 10) (.seq (.reg c10r6) .ret) .skip)) (.seq (.reg c10r7) (.reg c10r8)))) (.reg c10r9)))))) (.seq (.seq (.reg c10r10) (.cond (.var 11) (.seq (.reg c10r11) .ret) .skip)) (.seq (.reg c10r12) .ret))))))
def r10 : List RV := [(.tmp 3), (.tmp 4), (.tmp 5)]

theorem e7 : compFn Go.Proofs.Tryd.prog v7 [] 7 = some (c7, r7) := by kernel_rfl
theorem e8 : compFn Go.Proofs.Tryd.prog v8 [] 8 = some (c8, r8) := by kernel_rfl
theorem e10 : compFn Go.Proofs.Tryd.prog v10 [] 10 = some (c10, r10) := by kernel_rfl
end Go.Vm.L
