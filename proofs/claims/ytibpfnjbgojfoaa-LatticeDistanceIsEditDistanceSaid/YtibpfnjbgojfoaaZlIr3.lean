/- More functions in the machine's code: the edit distances. -/
import Derived.Test.YtibpfnjbgojfoaaZlIr
namespace Go.Vm.L
open Go Go.Vm
set_option maxRecDepth 100000
/- emendate/emendatelaw37.LatticeDistanceIsEditDistance params 2 free 0 -/
def v9 : List Tmp := [0, 1, 2, 4, 5, 7, 23]
@[reducible] def c9r0 : Reg := ⟨[.n none (.box 3 (.var 0)),
  .n none (.mov (.k (.d (.bool false))))], [(2, 1), (3, 0)]⟩
@[reducible] def c9r1 : Reg := ⟨[.e none (.call 10 []) [] [] false,
  .n none (.not (.loc 0))], [(5, 0)]⟩
@[reducible] def c9r2 : Reg := ⟨[.n none (.mov (.k (.d (.bool false))))], [(3, 0)]⟩
@[reducible] def c9r3 : Reg := ⟨[.n none (.load 3 true (.var 2)),
  .e none (.call 11 [(.loc 0), (.k (.d (.int .i64 6)))]) [] [] false,
  .n none (.not (.loc 0)),
  .n none (.mov (.loc 0)),
  .n (some ((.loc 0), false)) (.mov (.var 1)),
  .n (some ((.loc 1), false)) (.len 0 (.loc 0)),
  .n (some ((.loc 2), false)) (.bin .gtr (.int .i64) (.loc 0) (.k (.d (.int .i64 8)))),
  .n none (.pick (.loc 3) (.k (.d (.bool true))) (.loc 0)),
  .n none (.mov (.loc 0)),
  .n (some ((.loc 0), false)) (.mov (.var 1)),
  .n (some ((.loc 1), false)) (.fieldAddr 1 (.var 2)),
  .n (some ((.loc 2), false)) (.load 1 false (.loc 0)),
  .n (some ((.loc 3), false)) (.len 0 (.loc 0)),
  .e (some ((.loc 4), false)) (.call 17 [(.loc 3), (.loc 0)]) [] [] false,
  .n (some ((.loc 5), false)) (.not (.loc 0)),
  .n none (.pick (.loc 6) (.k (.d (.bool true))) (.loc 0))], [(6, 0)]⟩
@[reducible] def c9r4 : Reg := ⟨[.n none (.mov (.k (.d (.bool true))))], [(3, 0)]⟩
@[reducible] def c9r5 : Reg := ⟨[.n none (.load 3 true (.var 2)),
  .e none (.call 12 [(.loc 0)]) [] [] false,
  .n none (.mov (.var 1)),
  .e none (.call 18 [(.loc 1), (.loc 0)]) [] [] false,
  .n none (.mov (.loc 0))], [(4, 0)]⟩
@[reducible] def c9r6 : Reg := ⟨[.n none (.mov (.var 4)),
  .n none (.load 3 true (.var 2)),
  .n none (.mov (.var 1)),
  .e none (.call 24 [(.loc 1), (.loc 0)]) [] [] false,
  .n none (.bin .eql (.int .i64) (.loc 3) (.loc 0)),
  .n none (.mov (.loc 0)),
  .n (some ((.loc 0), true)) (.mov (.var 4)),
  .n (some ((.loc 1), true)) (.load 3 true (.var 2)),
  .n (some ((.loc 2), true)) (.mov (.var 1)),
  .e (some ((.loc 3), true)) (.call 25 [(.loc 1), (.loc 0)]) [] [] false,
  .n (some ((.loc 4), true)) (.bin .eql (.int .i64) (.loc 3) (.loc 0)),
  .n none (.pick (.loc 5) (.loc 0) (.k (.d (.bool false)))),
  .n none (.mov (.loc 0))], [(3, 0)]⟩
def c9 : C := (.seq (.reg c9r0) (.seq (.seq (.reg c9r1) (.cond (.var 5) (.seq (.reg c9r2) .ret) .skip)) (.seq (.seq (.reg c9r3) (.cond (.var 6) (.seq (.reg c9r4) .ret) .skip)) (.seq (.reg c9r5) (.seq (.reg c9r6) .ret)))))
def r9 : List RV := [(.tmp 3)]
/- emendate/emendateref36.Distance params 2 free 0 -/
def v24 : List Tmp := [0, 1, 2, 4, 8]
@[reducible] def c24r0 : Reg := ⟨[.n none (.box 3 (.var 0)),
  .n none (.mov (.k (.d (.int .i64 0))))], [(2, 1), (3, 0)]⟩
@[reducible] def c24r1 : Reg := ⟨[.n none (.load 3 true (.var 2)),
  .n none (.mov (.var 1)),
  .e none (.call 41 [(.loc 1), (.loc 0)]) [] [] false,
  .n none (.not (.loc 0))], [(4, 0)]⟩
@[reducible] def c24r2 : Reg := ⟨[.n none (.mov (.k (.d (.int .i64 1099511627776))))], [(3, 0)]⟩
@[reducible] def c24r3 : Reg := ⟨[.n none (.load 3 true (.var 2)),
  .n none (.mov (.var 1)),
  .e none (.call 42 [(.loc 1), (.loc 0)]) [] [] false,
  .n none (.idxAddr 1 (.loc 0) (.k (.d (.int .i64 0)))),
  .n none (.load 1 false (.loc 0)),
  .n none (.mov (.loc 0))], [(3, 0)]⟩
def c24 : C := (.seq (.reg c24r0) (.seq (.seq (.reg c24r1) (.cond (.var 4) (.seq (.reg c24r2) .ret) .skip)) (.seq (.reg c24r3) .ret)))
def r24 : List RV := [(.tmp 3)]
/- emendate/editscript.Distance params 2 free 0 -/
def v25 : List Tmp := [0, 1, 2, 4, 8]
@[reducible] def c25r0 : Reg := ⟨[.n none (.box 3 (.var 0)),
  .n none (.mov (.k (.d (.int .i64 0))))], [(2, 1), (3, 0)]⟩
@[reducible] def c25r1 : Reg := ⟨[.n none (.load 3 true (.var 2)),
  .n none (.mov (.var 1)),
  .e none (.call 43 [(.loc 1), (.loc 0)]) [] [] false,
  .n none (.not (.loc 0))], [(4, 0)]⟩
@[reducible] def c25r2 : Reg := ⟨[.n none (.mov (.k (.d (.int .i64 1099511627776))))], [(3, 0)]⟩
@[reducible] def c25r3 : Reg := ⟨[.n none (.load 3 true (.var 2)),
  .n none (.mov (.var 1)),
  .e none (.call 44 [(.loc 1), (.loc 0)]) [] [] false,
  .n none (.idxAddr 1 (.loc 0) (.k (.d (.int .i64 0)))),
  .n none (.load 1 false (.loc 0)),
  .n none (.idxAddr 1 (.loc 0) (.k (.d (.int .i64 0)))),
  .n none (.load 1 false (.loc 0)),
  .n none (.mov (.loc 0))], [(3, 0)]⟩
def c25 : C := (.seq (.reg c25r0) (.seq (.seq (.reg c25r1) (.cond (.var 4) (.seq (.reg c25r2) .ret) .skip)) (.seq (.reg c25r3) .ret)))
def r25 : List RV := [(.tmp 3)]
/- emendate/emendateref36.Terminals params 2 free 0 -/
def v41 : List Tmp := [0, 1, 2, 4, 5, 9, 26]
@[reducible] def c41r0 : Reg := ⟨[.n none (.box 3 (.var 0)),
  .n none (.mov (.k (.d (.bool false))))], [(2, 1), (3, 0)]⟩
@[reducible] def c41r1 : Reg := ⟨[.n none (.mov (.k (.d (.int .i64 0))))], [(4, 0)]⟩
@[reducible] def c41r2 : Reg := ⟨[.n none (.mov (.var 4)),
  .n none (.mov (.var 1)),
  .n none (.len 0 (.loc 0)),
  .n none (.bin .lss (.int .i64) (.loc 2) (.loc 0))], [(5, 0)]⟩
@[reducible] def c41r3 : Reg := ⟨[.n none (.mov (.var 1)),
  .n none (.mov (.var 4)),
  .n none (.idxAddr 1 (.loc 1) (.loc 0)),
  .n none (.load 1 false (.loc 0)),
  .n none (.bin .lss (.int .i64) (.loc 0) (.k (.d (.int .i64 0)))),
  .n none (.mov (.loc 0)),
  .n (some ((.loc 0), false)) (.mov (.var 1)),
  .n (some ((.loc 1), false)) (.mov (.var 4)),
  .n (some ((.loc 2), false)) (.idxAddr 1 (.loc 1) (.loc 0)),
  .n (some ((.loc 3), false)) (.load 1 false (.loc 0)),
  .n (some ((.loc 4), false)) (.fieldAddr 1 (.var 2)),
  .n (some ((.loc 5), false)) (.load 1 false (.loc 0)),
  .n (some ((.loc 6), false)) (.len 0 (.loc 0)),
  .n (some ((.loc 7), false)) (.bin .geq (.int .i64) (.loc 3) (.loc 0)),
  .n none (.pick (.loc 8) (.k (.d (.bool true))) (.loc 0))], [(6, 0)]⟩
@[reducible] def c41r4 : Reg := ⟨[.n none (.mov (.k (.d (.bool false))))], [(3, 0)]⟩
@[reducible] def c41r5 : Reg := ⟨[.n none (.mov (.var 4)),
  .n none (.bin .add (.int .i64) (.loc 0) (.k (.d (.int .i64 1)))),
  .n none (.mov (.loc 0))], [(4, 0)]⟩
@[reducible] def c41r6 : Reg := ⟨[.n none (.mov (.k (.d (.bool true))))], [(3, 0)]⟩
def c41 : C := (.seq (.reg c41r0) (.seq (.seq (.reg c41r1) (.block 0 (.loop (.seq (.seq (.reg c41r2) (.cond (.var 5) .skip (.exit 0))) (.seq (.block 1 (.seq (.reg c41r3) (.cond (.var 6) (.seq (.reg c41r4) .ret) .skip))) (.reg c41r5)))))) (.seq (.reg c41r6) .ret)))
def r41 : List RV := [(.tmp 3)]
/- emendate/emendateref36.table params 2 free 0 -/
def v42 : List Tmp := [0, 1, 2, 4, 5, 6, 7, 8, 9, 10, 11, 25, 31, 42, 44]
@[reducible] def c42r0 : Reg := ⟨[.n none (.box 3 (.var 0)),
  .n none (.mov (.k .nils))], [(2, 1), (3, 0)]⟩
@[reducible] def c42r1 : Reg := ⟨[.n none (.fieldAddr 0 (.var 2)),
  .n none (.load 1 false (.loc 0)),
  .n none (.len 0 (.loc 0)),
  .n none (.mov (.var 1)),
  .n none (.len 0 (.loc 0)),
  .n none (.bin .add (.int .i64) (.loc 0) (.k (.d (.int .i64 1)))),
  .n none (.mov (.loc 3)),
  .n none (.mov (.loc 1))], [(4, 1), (5, 0)]⟩
@[reducible] def c42r2 : Reg := ⟨[.n none (.mov (.var 4)),
  .n none (.bin .add (.int .i64) (.loc 0) (.k (.d (.int .i64 1)))),
  .n none (.mov (.var 5)),
  .n none (.bin .mul (.int .i64) (.loc 1) (.loc 0)),
  .n none (.mkSlice 1 8 (.d (.int .i64 0)) (.loc 0) (.loc 0)),
  .n none (.mov (.loc 0))], [(6, 0)]⟩
@[reducible] def c42r3 : Reg := ⟨[.n none (.mov (.var 4)),
  .n none (.mov (.loc 0))], [(7, 0)]⟩
@[reducible] def c42r4 : Reg := ⟨[.n none (.mov (.var 7)),
  .n none (.bin .geq (.int .i64) (.loc 0) (.k (.d (.int .i64 0))))], [(11, 0)]⟩
@[reducible] def c42r5 : Reg := ⟨[.n none (.mov (.var 1)),
  .n none (.len 0 (.loc 0)),
  .n none (.mov (.loc 0))], [(8, 0)]⟩
@[reducible] def c42r6 : Reg := ⟨[.n none (.mov (.var 8)),
  .n none (.bin .geq (.int .i64) (.loc 0) (.k (.d (.int .i64 0))))], [(12, 0)]⟩
@[reducible] def c42r7 : Reg := ⟨[.n none (.mov (.k (.d (.int .i64 1099511627776))))], [(9, 0)]⟩
@[reducible] def c42r8 : Reg := ⟨[.n none (.mov (.var 7)),
  .n none (.mov (.var 4)),
  .n none (.bin .eql (.int .i64) (.loc 1) (.loc 0)),
  .n none (.mov (.loc 0)),
  .n (some ((.loc 0), true)) (.mov (.var 8)),
  .n (some ((.loc 1), true)) (.mov (.var 1)),
  .n (some ((.loc 2), true)) (.len 0 (.loc 0)),
  .n (some ((.loc 3), true)) (.bin .eql (.int .i64) (.loc 2) (.loc 0)),
  .n none (.pick (.loc 4) (.loc 0) (.k (.d (.bool false))))], [(13, 0)]⟩
@[reducible] def c42r9 : Reg := ⟨[.n none (.mov (.k (.d (.int .i64 0))))], [(9, 0)]⟩
@[reducible] def c42r10 : Reg := ⟨[.n none (.mov (.k (.d (.int .i64 1))))], [(10, 0)]⟩
@[reducible] def c42r11 : Reg := ⟨[.n none (.mov (.var 10)),
  .n none (.bin .leq (.int .i64) (.loc 0) (.k (.d (.int .i64 4))))], [(14, 0)]⟩
@[reducible] def c42r12 : Reg := ⟨[.n none (.mov (.var 9)),
  .n none (.load 3 true (.var 2)),
  .n none (.mov (.var 1)),
  .n none (.mov (.var 6)),
  .n none (.mov (.var 5)),
  .n none (.mov (.var 7)),
  .n none (.mov (.var 8)),
  .n none (.mov (.var 10)),
  .e none (.call 55 [(.loc 6), (.loc 5), (.loc 4), (.loc 3), (.loc 2), (.loc 1), (.loc 0)]) [] [] false,
  .n none (.minmax true [(.loc 8), (.loc 0)]),
  .n none (.mov (.loc 0))], [(9, 0)]⟩
@[reducible] def c42r13 : Reg := ⟨[.n none (.mov (.var 10)),
  .n none (.bin .add (.int .i64) (.loc 0) (.k (.d (.int .i64 1)))),
  .n none (.mov (.loc 0))], [(10, 0)]⟩
@[reducible] def c42r14 : Reg := ⟨[.n none (.mov (.var 6)),
  .n none (.mov (.var 7)),
  .n none (.mov (.var 5)),
  .n none (.bin .mul (.int .i64) (.loc 1) (.loc 0)),
  .n none (.mov (.var 8)),
  .n none (.bin .add (.int .i64) (.loc 1) (.loc 0)),
  .n none (.mov (.var 9)),
  .n none (.idxAddr 1 (.loc 6) (.loc 1)),
  .e none (.store 1 false (.loc 0) (.loc 1)) [] [] false], []⟩
@[reducible] def c42r15 : Reg := ⟨[.n none (.mov (.var 8)),
  .n none (.bin .sub (.int .i64) (.loc 0) (.k (.d (.int .i64 1)))),
  .n none (.mov (.loc 0))], [(8, 0)]⟩
@[reducible] def c42r16 : Reg := ⟨[.n none (.mov (.var 7)),
  .n none (.bin .sub (.int .i64) (.loc 0) (.k (.d (.int .i64 1)))),
  .n none (.mov (.loc 0))], [(7, 0)]⟩
@[reducible] def c42r17 : Reg := ⟨[.n none (.mov (.var 6)),
  .n none (.mov (.loc 0))], [(3, 0)]⟩
def c42 : C := (.seq (.reg c42r0) (.seq (.reg c42r1) (.seq (.reg c42r2) (.seq (.seq (.reg c42r3) (.block 0 (.loop (.seq (.seq (.reg c42r4) (.cond (.var 11) .skip (.exit 0))) (.seq (.block 1 (.seq (.reg c42r5) (.block 2 (.loop (.seq (.seq (.reg c42r6) (.cond (.var 12) .skip (.exit 2))) (.seq (.block 3 (.seq (.reg c42r7) (.seq (.seq (.reg c42r8) (.cond (.var 13) (.reg c42r9) .skip)) (.seq (.seq (.reg c42r10) (.block 4 (.loop (.seq (.seq (.reg c42r11) (.cond (.var 14) .skip (.exit 4))) (.seq (.block 5 (.reg c42r12)) (.reg c42r13)))))) (.reg c42r14))))) (.reg c42r15))))))) (.reg c42r16)))))) (.seq (.reg c42r17) .ret)))))
def r42 : List RV := [(.tmp 3)]
/- emendate/editscript.proper params 2 free 0 -/
def v43 : List Tmp := [0, 1, 2, 4, 6, 7, 8, 9, 10, 21]
@[reducible] def c43r0 : Reg := ⟨[.n none (.box 3 (.var 0)),
  .n none (.mov (.k (.d (.bool false))))], [(2, 1), (3, 0)]⟩
@[reducible] def c43r1 : Reg := ⟨[.n none (.mov (.var 1)),
  .n none (.len 0 (.loc 0)),
  .n none (.mov (.k (.d (.int .i64 0))))], [(5, 2), (6, 1), (7, 0)]⟩
@[reducible] def c43r2 : Reg := ⟨[.n none (.bin .lss (.int .i64) (.var 7) (.var 6))], [(8, 0)]⟩
@[reducible] def c43r3 : Reg := ⟨[.n none (.idxAddr 1 (.var 5) (.var 7)),
  .n none (.load 1 false (.loc 0)),
  .n none (.mov (.loc 0))], [(4, 0)]⟩
@[reducible] def c43r4 : Reg := ⟨[.n none (.mov (.var 4)),
  .n none (.bin .lss (.int .i64) (.loc 0) (.k (.d (.int .i64 0)))),
  .n none (.mov (.loc 0)),
  .n (some ((.loc 0), false)) (.mov (.var 4)),
  .n (some ((.loc 1), false)) (.fieldAddr 1 (.var 2)),
  .n (some ((.loc 2), false)) (.load 1 false (.loc 0)),
  .n (some ((.loc 3), false)) (.len 0 (.loc 0)),
  .n (some ((.loc 4), false)) (.bin .geq (.int .i64) (.loc 3) (.loc 0)),
  .n none (.pick (.loc 5) (.k (.d (.bool true))) (.loc 0))], [(9, 0)]⟩
@[reducible] def c43r5 : Reg := ⟨[.n none (.mov (.k (.d (.bool false))))], [(3, 0)]⟩
@[reducible] def c43r6 : Reg := ⟨[.n none (.bin .add (.int .i64) (.var 7) (.k (.d (.int .i64 1)))),
  .n none (.mov (.loc 0))], [(7, 0)]⟩
@[reducible] def c43r7 : Reg := ⟨[.n none (.mov (.k (.d (.bool true))))], [(3, 0)]⟩
def c43 : C := (.seq (.reg c43r0) (.seq (.seq (.reg c43r1) (.block 0 (.loop (.seq (.reg c43r2) (.seq (.cond (.var 8) .skip (.exit 0)) (.seq (.block 1 (.seq (.reg c43r3) (.seq (.reg c43r4) (.cond (.var 9) (.seq (.reg c43r5) .ret) .skip)))) (.reg c43r6))))))) (.seq (.reg c43r7) .ret)))
def r43 : List RV := [(.tmp 3)]
/- emendate/editscript.table params 2 free 0 -/
def v44 : List Tmp := [0, 1, 2, 4, 5, 6, 7, 8, 9, 10, 12, 23, 34, 44, 49, 50, 51, 52]
@[reducible] def c44r0 : Reg := ⟨[.n none (.box 3 (.var 0)),
  .n none (.mov (.k .nils))], [(2, 1), (3, 0)]⟩
@[reducible] def c44r1 : Reg := ⟨[.n none (.fieldAddr 0 (.var 2)),
  .n none (.load 1 false (.loc 0)),
  .n none (.len 0 (.loc 0)),
  .n none (.mov (.var 1)),
  .n none (.len 0 (.loc 0)),
  .n none (.mov (.loc 2)),
  .n none (.mov (.loc 1))], [(4, 1), (5, 0)]⟩
@[reducible] def c44r2 : Reg := ⟨[.n none (.mov (.var 4)),
  .n none (.bin .add (.int .i64) (.loc 0) (.k (.d (.int .i64 1)))),
  .n none (.mkSlice 1 24 .nils (.loc 0) (.loc 0)),
  .n none (.mov (.loc 0))], [(6, 0)]⟩
@[reducible] def c44r3 : Reg := ⟨[.n none (.mov (.var 4)),
  .n none (.mov (.loc 0))], [(7, 0)]⟩
@[reducible] def c44r4 : Reg := ⟨[.n none (.mov (.var 7)),
  .n none (.bin .geq (.int .i64) (.loc 0) (.k (.d (.int .i64 0))))], [(11, 0)]⟩
@[reducible] def c44r5 : Reg := ⟨[.n none (.mov (.var 6)),
  .n none (.mov (.var 7)),
  .n none (.mov (.var 5)),
  .n none (.bin .add (.int .i64) (.loc 0) (.k (.d (.int .i64 1)))),
  .n none (.mkSlice 1 8 (.d (.int .i64 0)) (.loc 0) (.loc 0)),
  .n none (.idxAddr 1 (.loc 4) (.loc 3)),
  .e none (.store 1 false (.loc 0) (.loc 1)) [] [] false], []⟩
@[reducible] def c44r6 : Reg := ⟨[.n none (.mov (.var 5)),
  .n none (.mov (.loc 0))], [(8, 0)]⟩
@[reducible] def c44r7 : Reg := ⟨[.n none (.mov (.var 8)),
  .n none (.bin .geq (.int .i64) (.loc 0) (.k (.d (.int .i64 0))))], [(12, 0)]⟩
@[reducible] def c44r8 : Reg := ⟨[.n none (.mov (.var 7)),
  .n none (.mov (.var 4)),
  .n none (.bin .eql (.int .i64) (.loc 1) (.loc 0)),
  .n none (.mov (.loc 0)),
  .n (some ((.loc 0), true)) (.mov (.var 8)),
  .n (some ((.loc 1), true)) (.mov (.var 5)),
  .n (some ((.loc 2), true)) (.bin .eql (.int .i64) (.loc 1) (.loc 0)),
  .n none (.pick (.loc 3) (.loc 0) (.k (.d (.bool false))))], [(13, 0)]⟩
@[reducible] def c44r9 : Reg := ⟨[.n none (.mov (.k (.d (.int .i64 1099511627776))))], [(9, 0)]⟩
@[reducible] def c44r10 : Reg := ⟨[.n none (.load 3 true (.var 2)),
  .n none (.mov (.var 1)),
  .n none (.mov (.var 7)),
  .n none (.mov (.var 8)),
  .e none (.call 56 [(.loc 3), (.loc 2), (.loc 1), (.loc 0)]) [] [] false,
  .n none (.len 0 (.loc 0)),
  .n none (.mov (.k (.d (.int .i64 0))))], [(14, 2), (15, 1), (16, 0)]⟩
@[reducible] def c44r11 : Reg := ⟨[.n none (.bin .lss (.int .i64) (.var 16) (.var 15))], [(17, 0)]⟩
@[reducible] def c44r12 : Reg := ⟨[.n none (.idxAddr 5 (.var 14) (.var 16)),
  .n none (.load 5 true (.loc 0)),
  .n none (.alloc 5 (.d (.agg [(.int .i64 0), (.int .i64 0), (.int .i64 0), (.int .i64 0), (.int .i64 0)]))),
  .e none (.store 5 true (.loc 0) (.loc 1)) [] [] false], [(10, 1)]⟩
@[reducible] def c44r13 : Reg := ⟨[.n none (.mov (.var 9)),
  .n none (.fieldAddr 2 (.var 10)),
  .n none (.load 1 false (.loc 0)),
  .n none (.mov (.var 6)),
  .n none (.mov (.var 7)),
  .n none (.fieldAddr 3 (.var 10)),
  .n none (.load 1 false (.loc 0)),
  .n none (.bin .add (.int .i64) (.loc 2) (.loc 0)),
  .n none (.idxAddr 1 (.loc 4) (.loc 0)),
  .n none (.load 1 false (.loc 0)),
  .n none (.mov (.var 8)),
  .n none (.fieldAddr 4 (.var 10)),
  .n none (.load 1 false (.loc 0)),
  .n none (.bin .add (.int .i64) (.loc 2) (.loc 0)),
  .n none (.idxAddr 1 (.loc 4) (.loc 0)),
  .n none (.load 1 false (.loc 0)),
  .e none (.call 57 [(.loc 13), (.loc 0)]) [] [] false,
  .n none (.minmax true [(.loc 16), (.loc 0)]),
  .n none (.mov (.loc 0))], [(9, 0)]⟩
@[reducible] def c44r14 : Reg := ⟨[.n none (.bin .add (.int .i64) (.var 16) (.k (.d (.int .i64 1)))),
  .n none (.mov (.loc 0))], [(16, 0)]⟩
@[reducible] def c44r15 : Reg := ⟨[.n none (.mov (.var 6)),
  .n none (.mov (.var 7)),
  .n none (.idxAddr 1 (.loc 1) (.loc 0)),
  .n none (.load 1 false (.loc 0)),
  .n none (.mov (.var 8)),
  .n none (.mov (.var 9)),
  .n none (.idxAddr 1 (.loc 2) (.loc 1)),
  .e none (.store 1 false (.loc 0) (.loc 1)) [] [] false], []⟩
@[reducible] def c44r16 : Reg := ⟨[.n none (.mov (.var 8)),
  .n none (.bin .sub (.int .i64) (.loc 0) (.k (.d (.int .i64 1)))),
  .n none (.mov (.loc 0))], [(8, 0)]⟩
@[reducible] def c44r17 : Reg := ⟨[.n none (.mov (.var 7)),
  .n none (.bin .sub (.int .i64) (.loc 0) (.k (.d (.int .i64 1)))),
  .n none (.mov (.loc 0))], [(7, 0)]⟩
@[reducible] def c44r18 : Reg := ⟨[.n none (.mov (.var 6)),
  .n none (.mov (.loc 0))], [(3, 0)]⟩
def c44 : C := (.seq (.reg c44r0) (.seq (.reg c44r1) (.seq (.reg c44r2) (.seq (.seq (.reg c44r3) (.block 0 (.loop (.seq (.seq (.reg c44r4) (.cond (.var 11) .skip (.exit 0))) (.seq (.block 1 (.seq (.reg c44r5) (.seq (.reg c44r6) (.block 2 (.loop (.seq (.seq (.reg c44r7) (.cond (.var 12) .skip (.exit 2))) (.seq (.block 3 (.seq (.seq (.reg c44r8) (.cond (.var 13) (.exit 3) .skip)) (.seq (.reg c44r9) (.seq (.seq (.reg c44r10) (.block 4 (.loop (.seq (.reg c44r11) (.seq (.cond (.var 17) .skip (.exit 4)) (.seq (.block 5 (.seq (.reg c44r12) (.reg c44r13))) (.reg c44r14))))))) (.reg c44r15))))) (.reg c44r16)))))))) (.reg c44r17)))))) (.seq (.reg c44r18) .ret)))))
def r44 : List RV := [(.tmp 3)]
/- emendate/emendateref36.step params 7 free 0 -/
def v55 : List Tmp := [0, 1, 2, 3, 4, 5, 6, 7, 14, 15, 19, 71, 95, 122]
@[reducible] def c55r0 : Reg := ⟨[.n none (.box 3 (.var 0)),
  .n none (.mov (.k (.d (.int .i64 0))))], [(7, 1), (8, 0)]⟩
@[reducible] def c55r1 : Reg := ⟨[.n none (.fieldAddr 0 (.var 7)),
  .n none (.load 1 false (.loc 0)),
  .n none (.len 0 (.loc 0)),
  .n none (.mov (.loc 0))], [(9, 0)]⟩
@[reducible] def c55r2 : Reg := ⟨[.n none (.mov (.var 6)),
  .n none (.bin .eql (.int .i64) (.loc 0) (.k (.d (.int .i64 1)))),
  .n none (.mov (.loc 0)),
  .n (some ((.loc 0), true)) (.mov (.var 4)),
  .n (some ((.loc 1), true)) (.mov (.var 9)),
  .n (some ((.loc 2), true)) (.bin .lss (.int .i64) (.loc 1) (.loc 0)),
  .n none (.pick (.loc 3) (.loc 0) (.k (.d (.bool false)))),
  .n none (.mov (.loc 0)),
  .n (some ((.loc 0), true)) (.mov (.var 5)),
  .n (some ((.loc 1), true)) (.mov (.var 1)),
  .n (some ((.loc 2), true)) (.len 0 (.loc 0)),
  .n (some ((.loc 3), true)) (.bin .lss (.int .i64) (.loc 2) (.loc 0)),
  .n none (.pick (.loc 4) (.loc 0) (.k (.d (.bool false)))),
  .n none (.mov (.loc 0)),
  .n (some ((.loc 0), true)) (.fieldAddr 0 (.var 7)),
  .n (some ((.loc 1), true)) (.load 1 false (.loc 0)),
  .n (some ((.loc 2), true)) (.mov (.var 4)),
  .n (some ((.loc 3), true)) (.idxAddr 3 (.loc 1) (.loc 0)),
  .n (some ((.loc 4), true)) (.fieldAddr 1 (.loc 0)),
  .n (some ((.loc 5), true)) (.load 1 false (.loc 0)),
  .n (some ((.loc 6), true)) (.mov (.var 1)),
  .n (some ((.loc 7), true)) (.mov (.var 5)),
  .n (some ((.loc 8), true)) (.idxAddr 1 (.loc 1) (.loc 0)),
  .n (some ((.loc 9), true)) (.load 1 false (.loc 0)),
  .n (some ((.loc 10), true)) (.idxAddr 1 (.loc 4) (.loc 0)),
  .n (some ((.loc 11), true)) (.load 1 false (.loc 0)),
  .n (some ((.loc 12), true)) (.bin .geq (.int .i64) (.loc 0) (.k (.d (.int .i64 0)))),
  .n none (.pick (.loc 13) (.loc 0) (.k (.d (.bool false)))),
  .n none (.mov (.loc 0))], [(10, 0)]⟩
@[reducible] def c55r3 : Reg := ⟨[.n none (.fieldAddr 0 (.var 7)),
  .n none (.load 1 false (.loc 0)),
  .n none (.mov (.var 4)),
  .n none (.idxAddr 3 (.loc 1) (.loc 0)),
  .n none (.fieldAddr 1 (.loc 0)),
  .n none (.load 1 false (.loc 0)),
  .n none (.mov (.var 1)),
  .n none (.mov (.var 5)),
  .n none (.idxAddr 1 (.loc 1) (.loc 0)),
  .n none (.load 1 false (.loc 0)),
  .n none (.idxAddr 1 (.loc 4) (.loc 0)),
  .n none (.load 1 false (.loc 0)),
  .n none (.mov (.var 2)),
  .n none (.mov (.var 4)),
  .n none (.bin .add (.int .i64) (.loc 0) (.k (.d (.int .i64 1)))),
  .n none (.mov (.var 3)),
  .n none (.bin .mul (.int .i64) (.loc 1) (.loc 0)),
  .n none (.mov (.var 5)),
  .n none (.bin .add (.int .i64) (.loc 1) (.loc 0)),
  .n none (.bin .add (.int .i64) (.loc 0) (.k (.d (.int .i64 1)))),
  .n none (.idxAddr 1 (.loc 7) (.loc 0)),
  .n none (.load 1 false (.loc 0)),
  .e none (.call 72 [(.loc 10), (.loc 0)]) [] [] false,
  .n none (.mov (.loc 0))], [(8, 0)]⟩
@[reducible] def c55r4 : Reg := ⟨[.n none (.mov (.var 6)),
  .n none (.bin .eql (.int .i64) (.loc 0) (.k (.d (.int .i64 2)))),
  .n none (.mov (.loc 0)),
  .n (some ((.loc 0), true)) (.mov (.var 4)),
  .n (some ((.loc 1), true)) (.mov (.var 9)),
  .n (some ((.loc 2), true)) (.bin .lss (.int .i64) (.loc 1) (.loc 0)),
  .n none (.pick (.loc 3) (.loc 0) (.k (.d (.bool false)))),
  .n none (.mov (.loc 0))], [(11, 0)]⟩
@[reducible] def c55r5 : Reg := ⟨[.n none (.fieldAddr 0 (.var 7)),
  .n none (.load 1 false (.loc 0)),
  .n none (.mov (.var 4)),
  .n none (.idxAddr 3 (.loc 1) (.loc 0)),
  .n none (.fieldAddr 2 (.loc 0)),
  .n none (.load 1 false (.loc 0)),
  .n none (.mov (.var 2)),
  .n none (.mov (.var 4)),
  .n none (.bin .add (.int .i64) (.loc 0) (.k (.d (.int .i64 1)))),
  .n none (.mov (.var 3)),
  .n none (.bin .mul (.int .i64) (.loc 1) (.loc 0)),
  .n none (.mov (.var 5)),
  .n none (.bin .add (.int .i64) (.loc 1) (.loc 0)),
  .n none (.idxAddr 1 (.loc 6) (.loc 0)),
  .n none (.load 1 false (.loc 0)),
  .e none (.call 72 [(.loc 9), (.loc 0)]) [] [] false,
  .n none (.mov (.loc 0))], [(8, 0)]⟩
@[reducible] def c55r6 : Reg := ⟨[.n none (.mov (.var 6)),
  .n none (.bin .eql (.int .i64) (.loc 0) (.k (.d (.int .i64 3)))),
  .n none (.mov (.loc 0)),
  .n (some ((.loc 0), true)) (.mov (.var 5)),
  .n (some ((.loc 1), true)) (.mov (.var 1)),
  .n (some ((.loc 2), true)) (.len 0 (.loc 0)),
  .n (some ((.loc 3), true)) (.bin .lss (.int .i64) (.loc 2) (.loc 0)),
  .n none (.pick (.loc 4) (.loc 0) (.k (.d (.bool false)))),
  .n none (.mov (.loc 0))], [(12, 0)]⟩
@[reducible] def c55r7 : Reg := ⟨[.n none (.fieldAddr 1 (.var 7)),
  .n none (.load 1 false (.loc 0)),
  .n none (.mov (.var 1)),
  .n none (.mov (.var 5)),
  .n none (.idxAddr 1 (.loc 1) (.loc 0)),
  .n none (.load 1 false (.loc 0)),
  .n none (.idxAddr 1 (.loc 4) (.loc 0)),
  .n none (.load 1 false (.loc 0)),
  .n none (.mov (.var 2)),
  .n none (.mov (.var 4)),
  .n none (.mov (.var 3)),
  .n none (.bin .mul (.int .i64) (.loc 1) (.loc 0)),
  .n none (.mov (.var 5)),
  .n none (.bin .add (.int .i64) (.loc 1) (.loc 0)),
  .n none (.bin .add (.int .i64) (.loc 0) (.k (.d (.int .i64 1)))),
  .n none (.idxAddr 1 (.loc 6) (.loc 0)),
  .n none (.load 1 false (.loc 0)),
  .e none (.call 72 [(.loc 9), (.loc 0)]) [] [] false,
  .n none (.mov (.loc 0))], [(8, 0)]⟩
@[reducible] def c55r8 : Reg := ⟨[.n none (.mov (.var 6)),
  .n none (.bin .eql (.int .i64) (.loc 0) (.k (.d (.int .i64 4)))),
  .n none (.mov (.loc 0)),
  .n (some ((.loc 0), true)) (.load 3 true (.var 7)),
  .n (some ((.loc 1), true)) (.mov (.var 4)),
  .e (some ((.loc 2), true)) (.call 73 [(.loc 1), (.loc 0)]) [] [] false,
  .n none (.pick (.loc 3) (.loc 0) (.k (.d (.bool false)))),
  .n none (.mov (.loc 0)),
  .n (some ((.loc 0), true)) (.mov (.var 5)),
  .n (some ((.loc 1), true)) (.bin .add (.int .i64) (.loc 0) (.k (.d (.int .i64 1)))),
  .n (some ((.loc 2), true)) (.mov (.var 1)),
  .n (some ((.loc 3), true)) (.len 0 (.loc 0)),
  .n (some ((.loc 4), true)) (.bin .lss (.int .i64) (.loc 2) (.loc 0)),
  .n none (.pick (.loc 5) (.loc 0) (.k (.d (.bool false)))),
  .n none (.mov (.loc 0)),
  .n (some ((.loc 0), true)) (.mov (.var 1)),
  .n (some ((.loc 1), true)) (.mov (.var 5)),
  .n (some ((.loc 2), true)) (.idxAddr 1 (.loc 1) (.loc 0)),
  .n (some ((.loc 3), true)) (.load 1 false (.loc 0)),
  .n (some ((.loc 4), true)) (.fieldAddr 0 (.var 7)),
  .n (some ((.loc 5), true)) (.load 1 false (.loc 0)),
  .n (some ((.loc 6), true)) (.mov (.var 4)),
  .n (some ((.loc 7), true)) (.bin .add (.int .i64) (.loc 0) (.k (.d (.int .i64 1)))),
  .n (some ((.loc 8), true)) (.idxAddr 3 (.loc 2) (.loc 0)),
  .n (some ((.loc 9), true)) (.fieldAddr 0 (.loc 0)),
  .n (some ((.loc 10), true)) (.load 1 false (.loc 0)),
  .n (some ((.loc 11), true)) (.bin .eql (.int .i64) (.loc 7) (.loc 0)),
  .n none (.pick (.loc 12) (.loc 0) (.k (.d (.bool false)))),
  .n none (.mov (.loc 0)),
  .n (some ((.loc 0), true)) (.mov (.var 1)),
  .n (some ((.loc 1), true)) (.mov (.var 5)),
  .n (some ((.loc 2), true)) (.bin .add (.int .i64) (.loc 0) (.k (.d (.int .i64 1)))),
  .n (some ((.loc 3), true)) (.idxAddr 1 (.loc 2) (.loc 0)),
  .n (some ((.loc 4), true)) (.load 1 false (.loc 0)),
  .n (some ((.loc 5), true)) (.fieldAddr 0 (.var 7)),
  .n (some ((.loc 6), true)) (.load 1 false (.loc 0)),
  .n (some ((.loc 7), true)) (.mov (.var 4)),
  .n (some ((.loc 8), true)) (.idxAddr 3 (.loc 1) (.loc 0)),
  .n (some ((.loc 9), true)) (.fieldAddr 0 (.loc 0)),
  .n (some ((.loc 10), true)) (.load 1 false (.loc 0)),
  .n (some ((.loc 11), true)) (.bin .eql (.int .i64) (.loc 6) (.loc 0)),
  .n none (.pick (.loc 12) (.loc 0) (.k (.d (.bool false)))),
  .n none (.mov (.loc 0))], [(13, 0)]⟩
@[reducible] def c55r9 : Reg := ⟨[.n none (.fieldAddr 2 (.var 7)),
  .n none (.load 1 false (.loc 0)),
  .n none (.mov (.var 2)),
  .n none (.mov (.var 4)),
  .n none (.bin .add (.int .i64) (.loc 0) (.k (.d (.int .i64 2)))),
  .n none (.mov (.var 3)),
  .n none (.bin .mul (.int .i64) (.loc 1) (.loc 0)),
  .n none (.mov (.var 5)),
  .n none (.bin .add (.int .i64) (.loc 1) (.loc 0)),
  .n none (.bin .add (.int .i64) (.loc 0) (.k (.d (.int .i64 2)))),
  .n none (.idxAddr 1 (.loc 7) (.loc 0)),
  .n none (.load 1 false (.loc 0)),
  .e none (.call 72 [(.loc 10), (.loc 0)]) [] [] false,
  .n none (.mov (.loc 0))], [(8, 0)]⟩
@[reducible] def c55r10 : Reg := ⟨[.n none (.mov (.k (.d (.int .i64 1099511627776))))], [(8, 0)]⟩
def c55 : C := (.seq (.reg c55r0) (.seq (.reg c55r1) (.seq (.block 0 (.seq (.reg c55r2) (.cond (.var 10) (.seq (.reg c55r3) .ret) (.seq (.reg c55r4) (.cond (.var 11) (.seq (.reg c55r5) .ret) (.seq (.reg c55r6) (.cond (.var 12) (.seq (.reg c55r7) .ret) (.seq (.reg c55r8) (.cond (.var 13) (.seq (.reg c55r9) .ret) .skip))))))))) (.seq (.reg c55r10) .ret))))
def r55 : List RV := [(.tmp 8)]
/- emendate/editscript.steps params 4 free 0 -/
def v56 : List Tmp := [0, 1, 2, 3, 4, 8, 9, 10, 11, 40, 71, 84, 136]
@[reducible] def c56r0 : Reg := ⟨[.n none (.box 3 (.var 0)),
  .n none (.mov (.k .nils))], [(4, 1), (5, 0)]⟩
@[reducible] def c56r1 : Reg := ⟨[.n none (.mov (.k .nils))], [(6, 0)]⟩
@[reducible] def c56r2 : Reg := ⟨[.n none (.mov (.var 2)),
  .n none (.fieldAddr 0 (.var 4)),
  .n none (.load 1 false (.loc 0)),
  .n none (.len 0 (.loc 0)),
  .n none (.bin .lss (.int .i64) (.loc 3) (.loc 0)),
  .n none (.mov (.var 1)),
  .n none (.len 0 (.loc 0)),
  .n none (.mov (.var 3)),
  .n none (.bin .sub (.int .i64) (.loc 1) (.loc 0)),
  .n none (.mov (.loc 4)),
  .n none (.mov (.loc 1))], [(7, 1), (8, 0)]⟩
@[reducible] def c56r3 : Reg := ⟨[.n none (.mov (.var 7)),
  .n none (.mov (.loc 0)),
  .n (some ((.loc 0), true)) (.mov (.var 8)),
  .n (some ((.loc 1), true)) (.bin .gtr (.int .i64) (.loc 0) (.k (.d (.int .i64 0)))),
  .n none (.pick (.loc 2) (.loc 0) (.k (.d (.bool false)))),
  .n none (.mov (.loc 0)),
  .n (some ((.loc 0), true)) (.fieldAddr 0 (.var 4)),
  .n (some ((.loc 1), true)) (.load 1 false (.loc 0)),
  .n (some ((.loc 2), true)) (.mov (.var 2)),
  .n (some ((.loc 3), true)) (.idxAddr 3 (.loc 1) (.loc 0)),
  .n (some ((.loc 4), true)) (.fieldAddr 1 (.loc 0)),
  .n (some ((.loc 5), true)) (.load 1 false (.loc 0)),
  .n (some ((.loc 6), true)) (.mov (.var 1)),
  .n (some ((.loc 7), true)) (.mov (.var 3)),
  .n (some ((.loc 8), true)) (.idxAddr 1 (.loc 1) (.loc 0)),
  .n (some ((.loc 9), true)) (.load 1 false (.loc 0)),
  .n (some ((.loc 10), true)) (.idxAddr 1 (.loc 4) (.loc 0)),
  .n (some ((.loc 11), true)) (.load 1 false (.loc 0)),
  .n (some ((.loc 12), true)) (.bin .geq (.int .i64) (.loc 0) (.k (.d (.int .i64 0)))),
  .n none (.pick (.loc 13) (.loc 0) (.k (.d (.bool false))))], [(9, 0)]⟩
@[reducible] def c56r4 : Reg := ⟨[.n none (.mov (.var 6)),
  .n none (.mov (.var 1)),
  .n none (.mov (.var 3)),
  .n none (.idxAddr 1 (.loc 1) (.loc 0)),
  .n none (.load 1 false (.loc 0)),
  .n none (.build [(.d (.int .i64 0)), (.d (.int .i64 0))] [(0, 1, (.k (.d (.int .i64 1)))), (1, 1, (.loc 0))]),
  .n none (.fieldAddr 0 (.var 4)),
  .n none (.load 1 false (.loc 0)),
  .n none (.mov (.var 2)),
  .n none (.idxAddr 3 (.loc 1) (.loc 0)),
  .n none (.fieldAddr 1 (.loc 0)),
  .n none (.load 1 false (.loc 0)),
  .n none (.mov (.var 1)),
  .n none (.mov (.var 3)),
  .n none (.idxAddr 1 (.loc 1) (.loc 0)),
  .n none (.load 1 false (.loc 0)),
  .n none (.idxAddr 1 (.loc 4) (.loc 0)),
  .n none (.load 1 false (.loc 0)),
  .n none (.build [(.d (.int .i64 0)), (.d (.int .i64 0)), (.d (.int .i64 0)), (.d (.int .i64 0)), (.d (.int .i64 0))] [(0, 2, (.loc 12)), (2, 1, (.loc 0)), (3, 1, (.k (.d (.int .i64 1)))), (4, 1, (.k (.d (.int .i64 1))))]),
  .n none (.lit 5 (.d (.agg [(.int .i64 0), (.int .i64 0), (.int .i64 0), (.int .i64 0), (.int .i64 0)])) 1 [(0, (.loc 0))] false),
  .e none (.append 5 40 (.loc 19) (.loc 0)) [] [] false,
  .n none (.mov (.loc 0))], [(6, 0)]⟩
@[reducible] def c56r5 : Reg := ⟨[.n none (.mov (.var 7)),
  .n none (.mov (.loc 0)),
  .n (some ((.loc 0), true)) (.fieldAddr 0 (.var 4)),
  .n (some ((.loc 1), true)) (.load 1 false (.loc 0)),
  .n (some ((.loc 2), true)) (.mov (.var 2)),
  .n (some ((.loc 3), true)) (.idxAddr 3 (.loc 1) (.loc 0)),
  .n (some ((.loc 4), true)) (.fieldAddr 2 (.loc 0)),
  .n (some ((.loc 5), true)) (.load 1 false (.loc 0)),
  .n (some ((.loc 6), true)) (.bin .lss (.int .i64) (.loc 0) (.k (.d (.int .i64 1099511627776)))),
  .n none (.pick (.loc 7) (.loc 0) (.k (.d (.bool false))))], [(10, 0)]⟩
@[reducible] def c56r6 : Reg := ⟨[.n none (.mov (.var 6)),
  .n none (.build [(.d (.int .i64 0)), (.d (.int .i64 0))] [(0, 1, (.k (.d (.int .i64 2))))]),
  .n none (.fieldAddr 0 (.var 4)),
  .n none (.load 1 false (.loc 0)),
  .n none (.mov (.var 2)),
  .n none (.idxAddr 3 (.loc 1) (.loc 0)),
  .n none (.fieldAddr 2 (.loc 0)),
  .n none (.load 1 false (.loc 0)),
  .n none (.build [(.d (.int .i64 0)), (.d (.int .i64 0)), (.d (.int .i64 0)), (.d (.int .i64 0)), (.d (.int .i64 0))] [(0, 2, (.loc 6)), (2, 1, (.loc 0)), (3, 1, (.k (.d (.int .i64 1)))), (4, 1, (.k (.d (.int .i64 0))))]),
  .n none (.lit 5 (.d (.agg [(.int .i64 0), (.int .i64 0), (.int .i64 0), (.int .i64 0), (.int .i64 0)])) 1 [(0, (.loc 0))] false),
  .e none (.append 5 40 (.loc 9) (.loc 0)) [] [] false,
  .n none (.mov (.loc 0))], [(6, 0)]⟩
@[reducible] def c56r7 : Reg := ⟨[.n none (.mov (.var 8)),
  .n none (.bin .gtr (.int .i64) (.loc 0) (.k (.d (.int .i64 0))))], [(11, 0)]⟩
@[reducible] def c56r8 : Reg := ⟨[.n none (.mov (.var 6)),
  .n none (.mov (.var 1)),
  .n none (.mov (.var 3)),
  .n none (.idxAddr 1 (.loc 1) (.loc 0)),
  .n none (.load 1 false (.loc 0)),
  .n none (.build [(.d (.int .i64 0)), (.d (.int .i64 0))] [(0, 1, (.k (.d (.int .i64 3)))), (1, 1, (.loc 0))]),
  .n none (.fieldAddr 1 (.var 4)),
  .n none (.load 1 false (.loc 0)),
  .n none (.mov (.var 1)),
  .n none (.mov (.var 3)),
  .n none (.idxAddr 1 (.loc 1) (.loc 0)),
  .n none (.load 1 false (.loc 0)),
  .n none (.idxAddr 1 (.loc 4) (.loc 0)),
  .n none (.load 1 false (.loc 0)),
  .n none (.build [(.d (.int .i64 0)), (.d (.int .i64 0)), (.d (.int .i64 0)), (.d (.int .i64 0)), (.d (.int .i64 0))] [(0, 2, (.loc 8)), (2, 1, (.loc 0)), (3, 1, (.k (.d (.int .i64 0)))), (4, 1, (.k (.d (.int .i64 1))))]),
  .n none (.lit 5 (.d (.agg [(.int .i64 0), (.int .i64 0), (.int .i64 0), (.int .i64 0), (.int .i64 0)])) 1 [(0, (.loc 0))] false),
  .e none (.append 5 40 (.loc 15) (.loc 0)) [] [] false,
  .n none (.mov (.loc 0))], [(6, 0)]⟩
@[reducible] def c56r9 : Reg := ⟨[.n none (.mov (.var 8)),
  .n none (.bin .gtr (.int .i64) (.loc 0) (.k (.d (.int .i64 1)))),
  .n none (.mov (.loc 0)),
  .n (some ((.loc 0), true)) (.load 3 true (.var 4)),
  .n (some ((.loc 1), true)) (.mov (.var 2)),
  .e (some ((.loc 2), true)) (.call 74 [(.loc 1), (.loc 0)]) [] [] false,
  .n none (.pick (.loc 3) (.loc 0) (.k (.d (.bool false)))),
  .n none (.mov (.loc 0)),
  .n (some ((.loc 0), true)) (.fieldAddr 0 (.var 4)),
  .n (some ((.loc 1), true)) (.load 1 false (.loc 0)),
  .n (some ((.loc 2), true)) (.mov (.var 2)),
  .n (some ((.loc 3), true)) (.bin .add (.int .i64) (.loc 0) (.k (.d (.int .i64 1)))),
  .n (some ((.loc 4), true)) (.idxAddr 3 (.loc 2) (.loc 0)),
  .n (some ((.loc 5), true)) (.fieldAddr 0 (.loc 0)),
  .n (some ((.loc 6), true)) (.load 1 false (.loc 0)),
  .n (some ((.loc 7), true)) (.mov (.var 1)),
  .n (some ((.loc 8), true)) (.mov (.var 3)),
  .n (some ((.loc 9), true)) (.idxAddr 1 (.loc 1) (.loc 0)),
  .n (some ((.loc 10), true)) (.load 1 false (.loc 0)),
  .n (some ((.loc 11), true)) (.bin .eql (.int .i64) (.loc 4) (.loc 0)),
  .n none (.pick (.loc 12) (.loc 0) (.k (.d (.bool false)))),
  .n none (.mov (.loc 0)),
  .n (some ((.loc 0), true)) (.fieldAddr 0 (.var 4)),
  .n (some ((.loc 1), true)) (.load 1 false (.loc 0)),
  .n (some ((.loc 2), true)) (.mov (.var 2)),
  .n (some ((.loc 3), true)) (.idxAddr 3 (.loc 1) (.loc 0)),
  .n (some ((.loc 4), true)) (.fieldAddr 0 (.loc 0)),
  .n (some ((.loc 5), true)) (.load 1 false (.loc 0)),
  .n (some ((.loc 6), true)) (.mov (.var 1)),
  .n (some ((.loc 7), true)) (.mov (.var 3)),
  .n (some ((.loc 8), true)) (.bin .add (.int .i64) (.loc 0) (.k (.d (.int .i64 1)))),
  .n (some ((.loc 9), true)) (.idxAddr 1 (.loc 2) (.loc 0)),
  .n (some ((.loc 10), true)) (.load 1 false (.loc 0)),
  .n (some ((.loc 11), true)) (.bin .eql (.int .i64) (.loc 5) (.loc 0)),
  .n none (.pick (.loc 12) (.loc 0) (.k (.d (.bool false))))], [(12, 0)]⟩
@[reducible] def c56r10 : Reg := ⟨[.n none (.mov (.var 6)),
  .n none (.build [(.d (.int .i64 0)), (.d (.int .i64 0))] [(0, 1, (.k (.d (.int .i64 4))))]),
  .n none (.fieldAddr 2 (.var 4)),
  .n none (.load 1 false (.loc 0)),
  .n none (.build [(.d (.int .i64 0)), (.d (.int .i64 0)), (.d (.int .i64 0)), (.d (.int .i64 0)), (.d (.int .i64 0))] [(0, 2, (.loc 2)), (2, 1, (.loc 0)), (3, 1, (.k (.d (.int .i64 2)))), (4, 1, (.k (.d (.int .i64 2))))]),
  .n none (.lit 5 (.d (.agg [(.int .i64 0), (.int .i64 0), (.int .i64 0), (.int .i64 0), (.int .i64 0)])) 1 [(0, (.loc 0))] false),
  .e none (.append 5 40 (.loc 5) (.loc 0)) [] [] false,
  .n none (.mov (.loc 0))], [(6, 0)]⟩
@[reducible] def c56r11 : Reg := ⟨[.n none (.mov (.var 6)),
  .n none (.mov (.loc 0))], [(5, 0)]⟩
def c56 : C := (.seq (.reg c56r0) (.seq (.reg c56r1) (.seq (.reg c56r2) (.seq (.seq (.reg c56r3) (.cond (.var 9) (.reg c56r4) .skip)) (.seq (.seq (.reg c56r5) (.cond (.var 10) (.reg c56r6) .skip)) (.seq (.seq (.reg c56r7) (.cond (.var 11) (.reg c56r8) .skip)) (.seq (.seq (.reg c56r9) (.cond (.var 12) (.reg c56r10) .skip)) (.seq (.reg c56r11) .ret))))))))
def r56 : List RV := [(.tmp 5)]
/- emendate/editscript.add params 2 free 0 -/
def v57 : List Tmp := [0, 1, 4]
@[reducible] def c57r0 : Reg := ⟨[.n none (.mov (.k (.d (.int .i64 0))))], [(2, 0)]⟩
@[reducible] def c57r1 : Reg := ⟨[.n none (.mov (.var 0)),
  .n none (.mov (.var 1)),
  .n none (.bin .add (.int .i64) (.loc 1) (.loc 0)),
  .n none (.minmax true [(.loc 0), (.k (.d (.int .i64 1099511627776)))]),
  .n none (.mov (.loc 0))], [(2, 0)]⟩
def c57 : C := (.seq (.reg c57r0) (.seq (.reg c57r1) .ret))
def r57 : List RV := [(.tmp 2)]
/- emendate/emendateref36.plus params 2 free 0 -/
def v72 : List Tmp := [0, 1, 4]
@[reducible] def c72r0 : Reg := ⟨[.n none (.mov (.k (.d (.int .i64 0))))], [(2, 0)]⟩
@[reducible] def c72r1 : Reg := ⟨[.n none (.mov (.var 0)),
  .n none (.mov (.var 1)),
  .n none (.bin .add (.int .i64) (.loc 1) (.loc 0)),
  .n none (.minmax true [(.loc 0), (.k (.d (.int .i64 1099511627776)))]),
  .n none (.mov (.loc 0))], [(2, 0)]⟩
def c72 : C := (.seq (.reg c72r0) (.seq (.reg c72r1) .ret))
def r72 : List RV := [(.tmp 2)]
/- emendate/emendateref36.swappable params 2 free 0 -/
def v73 : List Tmp := [0, 1, 2, 4]
@[reducible] def c73r0 : Reg := ⟨[.n none (.box 3 (.var 0)),
  .n none (.mov (.k (.d (.bool false))))], [(2, 1), (3, 0)]⟩
@[reducible] def c73r1 : Reg := ⟨[.n none (.fieldAddr 2 (.var 2)),
  .n none (.load 1 false (.loc 0)),
  .n none (.bin .gtr (.int .i64) (.loc 0) (.k (.d (.int .i64 0)))),
  .n none (.mov (.loc 0)),
  .n (some ((.loc 0), true)) (.mov (.var 1)),
  .n (some ((.loc 1), true)) (.bin .add (.int .i64) (.loc 0) (.k (.d (.int .i64 1)))),
  .n (some ((.loc 2), true)) (.fieldAddr 0 (.var 2)),
  .n (some ((.loc 3), true)) (.load 1 false (.loc 0)),
  .n (some ((.loc 4), true)) (.len 0 (.loc 0)),
  .n (some ((.loc 5), true)) (.bin .lss (.int .i64) (.loc 3) (.loc 0)),
  .n none (.pick (.loc 6) (.loc 0) (.k (.d (.bool false)))),
  .n none (.mov (.loc 0)),
  .n (some ((.loc 0), true)) (.fieldAddr 0 (.var 2)),
  .n (some ((.loc 1), true)) (.load 1 false (.loc 0)),
  .n (some ((.loc 2), true)) (.mov (.var 1)),
  .n (some ((.loc 3), true)) (.idxAddr 3 (.loc 1) (.loc 0)),
  .n (some ((.loc 4), true)) (.fieldAddr 0 (.loc 0)),
  .n (some ((.loc 5), true)) (.load 1 false (.loc 0)),
  .n (some ((.loc 6), true)) (.bin .geq (.int .i64) (.loc 0) (.k (.d (.int .i64 0)))),
  .n none (.pick (.loc 7) (.loc 0) (.k (.d (.bool false)))),
  .n none (.mov (.loc 0)),
  .n (some ((.loc 0), true)) (.fieldAddr 0 (.var 2)),
  .n (some ((.loc 1), true)) (.load 1 false (.loc 0)),
  .n (some ((.loc 2), true)) (.mov (.var 1)),
  .n (some ((.loc 3), true)) (.bin .add (.int .i64) (.loc 0) (.k (.d (.int .i64 1)))),
  .n (some ((.loc 4), true)) (.idxAddr 3 (.loc 2) (.loc 0)),
  .n (some ((.loc 5), true)) (.fieldAddr 0 (.loc 0)),
  .n (some ((.loc 6), true)) (.load 1 false (.loc 0)),
  .n (some ((.loc 7), true)) (.bin .geq (.int .i64) (.loc 0) (.k (.d (.int .i64 0)))),
  .n none (.pick (.loc 8) (.loc 0) (.k (.d (.bool false)))),
  .n none (.mov (.loc 0))], [(3, 0)]⟩
def c73 : C := (.seq (.reg c73r0) (.seq (.reg c73r1) .ret))
def r73 : List RV := [(.tmp 3)]
/- emendate/editscript.swappable params 2 free 0 -/
def v74 : List Tmp := [0, 1, 2, 4]
@[reducible] def c74r0 : Reg := ⟨[.n none (.box 3 (.var 0)),
  .n none (.mov (.k (.d (.bool false))))], [(2, 1), (3, 0)]⟩
@[reducible] def c74r1 : Reg := ⟨[.n none (.fieldAddr 2 (.var 2)),
  .n none (.load 1 false (.loc 0)),
  .n none (.bin .gtr (.int .i64) (.loc 0) (.k (.d (.int .i64 0)))),
  .n none (.mov (.loc 0)),
  .n (some ((.loc 0), true)) (.mov (.var 1)),
  .n (some ((.loc 1), true)) (.bin .add (.int .i64) (.loc 0) (.k (.d (.int .i64 1)))),
  .n (some ((.loc 2), true)) (.fieldAddr 0 (.var 2)),
  .n (some ((.loc 3), true)) (.load 1 false (.loc 0)),
  .n (some ((.loc 4), true)) (.len 0 (.loc 0)),
  .n (some ((.loc 5), true)) (.bin .lss (.int .i64) (.loc 3) (.loc 0)),
  .n none (.pick (.loc 6) (.loc 0) (.k (.d (.bool false)))),
  .n none (.mov (.loc 0)),
  .n (some ((.loc 0), true)) (.fieldAddr 0 (.var 2)),
  .n (some ((.loc 1), true)) (.load 1 false (.loc 0)),
  .n (some ((.loc 2), true)) (.mov (.var 1)),
  .n (some ((.loc 3), true)) (.idxAddr 3 (.loc 1) (.loc 0)),
  .n (some ((.loc 4), true)) (.fieldAddr 0 (.loc 0)),
  .n (some ((.loc 5), true)) (.load 1 false (.loc 0)),
  .n (some ((.loc 6), true)) (.bin .geq (.int .i64) (.loc 0) (.k (.d (.int .i64 0)))),
  .n none (.pick (.loc 7) (.loc 0) (.k (.d (.bool false)))),
  .n none (.mov (.loc 0)),
  .n (some ((.loc 0), true)) (.fieldAddr 0 (.var 2)),
  .n (some ((.loc 1), true)) (.load 1 false (.loc 0)),
  .n (some ((.loc 2), true)) (.mov (.var 1)),
  .n (some ((.loc 3), true)) (.bin .add (.int .i64) (.loc 0) (.k (.d (.int .i64 1)))),
  .n (some ((.loc 4), true)) (.idxAddr 3 (.loc 2) (.loc 0)),
  .n (some ((.loc 5), true)) (.fieldAddr 0 (.loc 0)),
  .n (some ((.loc 6), true)) (.load 1 false (.loc 0)),
  .n (some ((.loc 7), true)) (.bin .geq (.int .i64) (.loc 0) (.k (.d (.int .i64 0)))),
  .n none (.pick (.loc 8) (.loc 0) (.k (.d (.bool false)))),
  .n none (.mov (.loc 0))], [(3, 0)]⟩
def c74 : C := (.seq (.reg c74r0) (.seq (.reg c74r1) .ret))
def r74 : List RV := [(.tmp 3)]

theorem e9 : compFn Go.Proofs.Try.prog v9 [] 9 = some (c9, r9) := by kernel_rfl
theorem e24 : compFn Go.Proofs.Try.prog v24 [] 24 = some (c24, r24) := by kernel_rfl
theorem e25 : compFn Go.Proofs.Try.prog v25 [] 25 = some (c25, r25) := by kernel_rfl
theorem e41 : compFn Go.Proofs.Try.prog v41 [] 41 = some (c41, r41) := by kernel_rfl
theorem e42 : compFn Go.Proofs.Try.prog v42 [] 42 = some (c42, r42) := by kernel_rfl
theorem e43 : compFn Go.Proofs.Try.prog v43 [] 43 = some (c43, r43) := by kernel_rfl
theorem e44 : compFn Go.Proofs.Try.prog v44 [] 44 = some (c44, r44) := by kernel_rfl
theorem e55 : compFn Go.Proofs.Try.prog v55 [] 55 = some (c55, r55) := by kernel_rfl
theorem e56 : compFn Go.Proofs.Try.prog v56 [] 56 = some (c56, r56) := by kernel_rfl
theorem e57 : compFn Go.Proofs.Try.prog v57 [] 57 = some (c57, r57) := by kernel_rfl
theorem e72 : compFn Go.Proofs.Try.prog v72 [] 72 = some (c72, r72) := by kernel_rfl
theorem e73 : compFn Go.Proofs.Try.prog v73 [] 73 = some (c73, r73) := by kernel_rfl
theorem e74 : compFn Go.Proofs.Try.prog v74 [] 74 = some (c74, r74) := by kernel_rfl
end Go.Vm.L
