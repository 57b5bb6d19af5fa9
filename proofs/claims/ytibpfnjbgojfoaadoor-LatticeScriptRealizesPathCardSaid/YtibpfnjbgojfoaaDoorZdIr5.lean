/- More functions in the code of the machine: scripts applied, and the law. -/
import Derived.Test.YtibpfnjbgojfoaaDoorZdIr
import Derived.Test.YtibpfnjbgojfoaaDoorChecked
import Derived.KernelRfl
namespace Go.Vm.L
open Go Go.Vm
set_option maxRecDepth 100000
/- emendate/emendatelaw37.LatticeScriptRealizesPath params 2 free 0 -/
def v3 : List Tmp := [0, 1, 2, 4, 5, 6, 8, 9, 10, 11, 12, 13, 14, 15, 16, 17, 19, 27, 34, 53, 59]
@[reducible] def c3r0 : Reg := ⟨[.n none (.box 3 (.var 0)),
  .n none (.mov (.k (.d (.bool false))))], [(2, 1), (3, 0)]⟩
@[reducible] def c3r1 : Reg := ⟨[.e none (.call 4 []) [] [] false,
  .n none (.not (.loc 0))], [(16, 0)]⟩
@[reducible] def c3r2 : Reg := ⟨[.n none (.mov (.k (.d (.bool false))))], [(3, 0)]⟩
@[reducible] def c3r3 : Reg := ⟨[.n none (.load 3 true (.var 2)),
  .e none (.call 5 [(.loc 0), (.k (.d (.int .i64 6)))]) [] [] false,
  .n none (.not (.loc 0)),
  .n none (.mov (.loc 0)),
  .n (some ((.loc 0), false)) (.mov (.var 1)),
  .n (some ((.loc 1), false)) (.len 0 (.loc 0)),
  .n (some ((.loc 2), false)) (.bin .gtr (.int .i64) (.loc 0) (.k (.d (.int .i64 12)))),
  .n none (.pick (.loc 3) (.k (.d (.bool true))) (.loc 0))], [(17, 0)]⟩
@[reducible] def c3r4 : Reg := ⟨[.n none (.mov (.k (.d (.bool true))))], [(3, 0)]⟩
@[reducible] def c3r5 : Reg := ⟨[.n none (.load 3 true (.var 2)),
  .e none (.call 6 [(.loc 0)]) [] [] false,
  .n none (.alloc 3 (.agg [(.d (.int .i64 0)), .nils, .nils])),
  .e none (.store 3 true (.loc 0) (.loc 1)) [] [] false], [(4, 1)]⟩
@[reducible] def c3r6 : Reg := ⟨[.n none (.load 3 true (.var 4)),
  .n none (.load 3 true (.var 2)),
  .e none (.call 8 [(.loc 0)]) [(.var 4)] [] false,
  .e none (.call 7 [(.loc 2), (.loc 0)]) [] [] false,
  .n none (.not (.loc 0))], [(18, 0)]⟩
@[reducible] def c3r7 : Reg := ⟨[.n none (.mov (.k (.d (.bool false))))], [(3, 0)]⟩
@[reducible] def c3r8 : Reg := ⟨[.n none (.load 3 true (.var 4)),
  .n none (.mov (.var 1)),
  .e none (.call 9 [(.loc 1), (.loc 0)]) [] [] false,
  .n none (.mov (.loc 0))], [(5, 0)]⟩
@[reducible] def c3r9 : Reg := ⟨[.n none (.load 3 true (.var 4)),
  .n none (.mov (.var 5)),
  .e none (.call 10 [(.loc 1), (.loc 0)]) [] [] false,
  .n none (.mov (.loc 0)),
  .n none (.extract 0 (.loc 0)),
  .n none (.extract 1 (.loc 1)),
  .n none (.extract 2 (.loc 2)),
  .n none (.mov (.loc 2)),
  .n none (.mov (.loc 2)),
  .n none (.mov (.loc 2))], [(6, 1), (7, 0)]⟩
@[reducible] def c3r10 : Reg := ⟨[.n none (.load 3 true (.var 2)),
  .n none (.load 3 true (.var 4)),
  .n none (.mov (.var 5)),
  .e none (.call 11 [(.loc 2), (.loc 1), (.loc 0)]) [] [] false,
  .n none (.mov (.loc 0)),
  .n none (.extract 0 (.loc 0)),
  .n none (.extract 1 (.loc 1)),
  .n none (.mov (.loc 1)),
  .n none (.mov (.loc 1))], [(8, 1), (9, 0)]⟩
@[reducible] def c3r11 : Reg := ⟨[.n none (.mov (.var 7)),
  .n none (.not (.loc 0))], [(19, 0)]⟩
@[reducible] def c3r12 : Reg := ⟨[.n none (.mov (.var 9)),
  .n none (.bin .eql (.int .i64) (.loc 0) (.k (.d (.int .i64 1)))),
  .n none (.mov (.loc 0))], [(3, 0)]⟩
@[reducible] def c3r13 : Reg := ⟨[.n none (.mov (.k .nils))], [(10, 0)]⟩
@[reducible] def c3r14 : Reg := ⟨[.n none (.mov (.k (.d (.int .i64 0))))], [(11, 0)]⟩
@[reducible] def c3r15 : Reg := ⟨[.n none (.mov (.var 11)),
  .n none (.mov (.var 5)),
  .n none (.len 0 (.loc 0)),
  .n none (.bin .lss (.int .i64) (.loc 2) (.loc 0))], [(20, 0)]⟩
@[reducible] def c3r16 : Reg := ⟨[.n none (.mov (.var 10)),
  .n none (.fieldAddr 1 (.var 4)),
  .n none (.load 1 false (.loc 0)),
  .n none (.mov (.var 5)),
  .n none (.mov (.var 11)),
  .n none (.idxAddr 1 (.loc 1) (.loc 0)),
  .n none (.load 1 false (.loc 0)),
  .n none (.idxAddr 5 (.loc 4) (.loc 0)),
  .n none (.fieldAddr 2 (.loc 0)),
  .n none (.load 1 false (.loc 0)),
  .n none (.lit 1 (.d (.int .i64 0)) 1 [(0, (.loc 0))] false),
  .e none (.append 1 8 (.loc 10) (.loc 0)) [] [] false,
  .n none (.mov (.loc 0))], [(10, 0)]⟩
@[reducible] def c3r17 : Reg := ⟨[.n none (.mov (.var 11)),
  .n none (.bin .add (.int .i64) (.loc 0) (.k (.d (.int .i64 1)))),
  .n none (.mov (.loc 0))], [(11, 0)]⟩
@[reducible] def c3r18 : Reg := ⟨[.n none (.load 3 true (.var 2)),
  .n none (.mov (.var 8)),
  .e none (.call 12 [(.loc 1), (.loc 0)]) [] [] false,
  .n none (.mov (.loc 0)),
  .n none (.extract 0 (.loc 0)),
  .n none (.extract 1 (.loc 1)),
  .n none (.mov (.loc 1)),
  .n none (.mov (.loc 1))], [(12, 1), (13, 0)]⟩
@[reducible] def c3r19 : Reg := ⟨[.n none (.load 3 true (.var 2)),
  .n none (.mov (.var 8)),
  .e none (.call 13 [(.loc 1), (.loc 0)]) [] [] false,
  .n none (.mov (.loc 0)),
  .n none (.extract 0 (.loc 0)),
  .n none (.extract 1 (.loc 1)),
  .n none (.mov (.loc 1)),
  .n none (.mov (.loc 1))], [(14, 1), (15, 0)]⟩
@[reducible] def c3r20 : Reg := ⟨[.n none (.mov (.var 9)),
  .n none (.bin .eql (.int .i64) (.loc 0) (.k (.d (.int .i64 0)))),
  .n none (.mov (.loc 0)),
  .n (some ((.loc 0), true)) (.mov (.var 13)),
  .n (some ((.loc 1), true)) (.bin .eql (.int .i64) (.loc 0) (.k (.d (.int .i64 0)))),
  .n none (.pick (.loc 2) (.loc 0) (.k (.d (.bool false)))),
  .n none (.mov (.loc 0)),
  .n (some ((.loc 0), true)) (.mov (.var 15)),
  .n (some ((.loc 1), true)) (.bin .eql (.int .i64) (.loc 0) (.k (.d (.int .i64 0)))),
  .n none (.pick (.loc 2) (.loc 0) (.k (.d (.bool false)))),
  .n none (.mov (.loc 0)),
  .n (some ((.loc 0), true)) (.mov (.var 12)),
  .n (some ((.loc 1), true)) (.mov (.var 10)),
  .e (some ((.loc 2), true)) (.call 14 [(.loc 1), (.loc 0)]) [] [] false,
  .n none (.pick (.loc 3) (.loc 0) (.k (.d (.bool false)))),
  .n none (.mov (.loc 0)),
  .n (some ((.loc 0), true)) (.mov (.var 14)),
  .n (some ((.loc 1), true)) (.mov (.var 6)),
  .n (some ((.loc 2), true)) (.bin .eql (.int .i64) (.loc 1) (.loc 0)),
  .n none (.pick (.loc 3) (.loc 0) (.k (.d (.bool false)))),
  .n none (.mov (.loc 0))], [(3, 0)]⟩
def c3 : C := (.seq (.reg c3r0) (.seq (.seq (.reg c3r1) (.cond (.var 16) (.seq (.reg c3r2) .ret) .skip)) (.seq (.seq (.reg c3r3) (.cond (.var 17) (.seq (.reg c3r4) .ret) .skip)) (.seq (.reg c3r5) (.seq (.seq (.reg c3r6) (.cond (.var 18) (.seq (.reg c3r7) .ret) .skip)) (.seq (.reg c3r8) (.seq (.reg c3r9) (.seq (.reg c3r10) (.seq (.seq (.reg c3r11) (.cond (.var 19) (.seq (.reg c3r12) .ret) .skip)) (.seq (.reg c3r13) (.seq (.seq (.reg c3r14) (.block 0 (.loop (.seq (.seq (.reg c3r15) (.cond (.var 20) .skip (.exit 0))) (.seq (.block 1 (.reg c3r16)) (.reg c3r17)))))) (.seq (.reg c3r18) (.seq (.reg c3r19) (.seq (.reg c3r20) .ret))))))))))))))
def r3 : List RV := [(.tmp 3)]
/- emendate/emendatelaw37.walk params 2 free 0 -/
def v9 : List Tmp := [0, 1, 2, 4, 5, 6, 7, 8, 9, 10, 14, 21, 31, 38]
@[reducible] def c9r0 : Reg := ⟨[.n none (.box 3 (.var 0)),
  .n none (.mov (.k .nils))], [(2, 1), (3, 0)]⟩
@[reducible] def c9r1 : Reg := ⟨[.n none (.mov (.k .nils))], [(4, 0)]⟩
@[reducible] def c9r2 : Reg := ⟨[.n none (.mov (.k (.d (.int .i64 0))))], [(5, 0)]⟩
@[reducible] def c9r3 : Reg := ⟨[.n none (.mov (.k (.d (.int .i64 0))))], [(6, 0)]⟩
@[reducible] def c9r4 : Reg := ⟨[.n none (.mov (.var 6)),
  .n none (.mov (.var 1)),
  .n none (.len 0 (.loc 0)),
  .n none (.bin .lss (.int .i64) (.loc 2) (.loc 0))], [(10, 0)]⟩
@[reducible] def c9r5 : Reg := ⟨[.n none (.mov (.k .nils))], [(7, 0)]⟩
@[reducible] def c9r6 : Reg := ⟨[.n none (.mov (.k (.d (.int .i64 0))))], [(8, 0)]⟩
@[reducible] def c9r7 : Reg := ⟨[.n none (.mov (.var 8)),
  .n none (.fieldAddr 1 (.var 2)),
  .n none (.load 1 false (.loc 0)),
  .n none (.len 0 (.loc 0)),
  .n none (.bin .lss (.int .i64) (.loc 3) (.loc 0))], [(11, 0)]⟩
@[reducible] def c9r8 : Reg := ⟨[.n none (.fieldAddr 1 (.var 2)),
  .n none (.load 1 false (.loc 0)),
  .n none (.mov (.var 8)),
  .n none (.idxAddr 5 (.loc 1) (.loc 0)),
  .n none (.fieldAddr 0 (.loc 0)),
  .n none (.load 1 false (.loc 0)),
  .n none (.mov (.var 5)),
  .n none (.bin .eql (.int .i64) (.loc 1) (.loc 0))], [(12, 0)]⟩
@[reducible] def c9r9 : Reg := ⟨[.n none (.mov (.var 7)),
  .n none (.mov (.var 8)),
  .n none (.lit 1 (.d (.int .i64 0)) 1 [(0, (.loc 0))] false),
  .e none (.append 1 8 (.loc 2) (.loc 0)) [] [] false,
  .n none (.mov (.loc 0))], [(7, 0)]⟩
@[reducible] def c9r10 : Reg := ⟨[.n none (.mov (.var 8)),
  .n none (.bin .add (.int .i64) (.loc 0) (.k (.d (.int .i64 1)))),
  .n none (.mov (.loc 0))], [(8, 0)]⟩
@[reducible] def c9r11 : Reg := ⟨[.n none (.mov (.var 7)),
  .n none (.len 0 (.loc 0)),
  .n none (.bin .eql (.int .i64) (.loc 0) (.k (.d (.int .i64 0))))], [(13, 0)]⟩
@[reducible] def c9r12 : Reg := ⟨[.n none (.mov (.var 4)),
  .n none (.mov (.loc 0))], [(3, 0)]⟩
@[reducible] def c9r13 : Reg := ⟨[.n none (.mov (.var 7)),
  .n none (.mov (.var 1)),
  .n none (.mov (.var 6)),
  .n none (.idxAddr 1 (.loc 1) (.loc 0)),
  .n none (.load 1 false (.loc 0)),
  .n none (.conv .i64 (.loc 0)),
  .n none (.mov (.var 7)),
  .n none (.len 0 (.loc 0)),
  .n none (.bin .rem (.int .i64) (.loc 2) (.loc 0)),
  .n none (.idxAddr 1 (.loc 8) (.loc 0)),
  .n none (.load 1 false (.loc 0)),
  .n none (.mov (.loc 0))], [(9, 0)]⟩
@[reducible] def c9r14 : Reg := ⟨[.n none (.mov (.var 4)),
  .n none (.mov (.var 9)),
  .n none (.lit 1 (.d (.int .i64 0)) 1 [(0, (.loc 0))] false),
  .e none (.append 1 8 (.loc 2) (.loc 0)) [] [] false,
  .n none (.mov (.loc 0))], [(4, 0)]⟩
@[reducible] def c9r15 : Reg := ⟨[.n none (.fieldAddr 1 (.var 2)),
  .n none (.load 1 false (.loc 0)),
  .n none (.mov (.var 9)),
  .n none (.idxAddr 5 (.loc 1) (.loc 0)),
  .n none (.fieldAddr 1 (.loc 0)),
  .n none (.load 1 false (.loc 0)),
  .n none (.mov (.loc 0))], [(5, 0)]⟩
@[reducible] def c9r16 : Reg := ⟨[.n none (.mov (.var 6)),
  .n none (.bin .add (.int .i64) (.loc 0) (.k (.d (.int .i64 1)))),
  .n none (.mov (.loc 0))], [(6, 0)]⟩
@[reducible] def c9r17 : Reg := ⟨[.n none (.mov (.var 4)),
  .n none (.mov (.loc 0))], [(3, 0)]⟩
def c9 : C := (.seq (.reg c9r0) (.seq (.reg c9r1) (.seq (.reg c9r2) (.seq (.seq (.reg c9r3) (.block 0 (.loop (.seq (.seq (.reg c9r4) (.cond (.var 10) .skip (.exit 0))) (.seq (.block 1 (.seq (.reg c9r5) (.seq (.seq (.reg c9r6) (.block 2 (.loop (.seq (.seq (.reg c9r7) (.cond (.var 11) .skip (.exit 2))) (.seq (.block 3 (.seq (.reg c9r8) (.cond (.var 12) (.reg c9r9) .skip))) (.reg c9r10)))))) (.seq (.seq (.reg c9r11) (.cond (.var 13) (.seq (.reg c9r12) .ret) .skip)) (.seq (.reg c9r13) (.seq (.reg c9r14) (.reg c9r15))))))) (.reg c9r16)))))) (.seq (.reg c9r17) .ret)))))
def r9 : List RV := [(.tmp 3)]
/- emendate/editscript.Apply params 2 free 0 -/
def v12 : List Tmp := [0, 1, 2, 4, 5, 6, 7, 15]
@[reducible] def c12r0 : Reg := ⟨[.n none (.box 3 (.var 0)),
  .n none (.mov (.k .nils)),
  .n none (.mov (.k (.d (.int .i64 0))))], [(2, 2), (3, 1), (4, 0)]⟩
@[reducible] def c12r1 : Reg := ⟨[.n none (.load 3 true (.var 2)),
  .n none (.mov (.var 1)),
  .e none (.call 31 [(.loc 1), (.loc 0)]) [] [] false,
  .n none (.mov (.loc 0)),
  .n none (.extract 0 (.loc 0)),
  .n none (.extract 1 (.loc 1)),
  .n none (.mov (.loc 1)),
  .n none (.mov (.loc 1))], [(5, 1), (6, 0)]⟩
@[reducible] def c12r2 : Reg := ⟨[.n none (.mov (.var 6)),
  .n none (.bin .neq (.int .i64) (.loc 0) (.k (.d (.int .i64 0))))], [(7, 0)]⟩
@[reducible] def c12r3 : Reg := ⟨[.n none (.mov (.var 6)),
  .n none (.mov (.k .nils)),
  .n none (.mov (.loc 1))], [(3, 1), (4, 0)]⟩
@[reducible] def c12r4 : Reg := ⟨[.n none (.mov (.var 5)),
  .n none (.nilCheck (.loc 0)),
  .n none (.fieldAddr 4 (.loc 0)),
  .n none (.load 1 false (.loc 0)),
  .n none (.mov (.loc 0)),
  .n none (.mov (.k (.d (.int .i64 0))))], [(3, 1), (4, 0)]⟩
def c12 : C := (.seq (.reg c12r0) (.seq (.reg c12r1) (.seq (.seq (.reg c12r2) (.cond (.var 7) (.seq (.reg c12r3) .ret) .skip)) (.seq (.reg c12r4) .ret))))
def r12 : List RV := [(.tmp 3), (.tmp 4)]
/- emendate/editscript.Cost params 2 free 0 -/
def v13 : List Tmp := [0, 1, 2, 4, 5, 6, 7, 15]
@[reducible] def c13r0 : Reg := ⟨[.n none (.box 3 (.var 0)),
  .n none (.mov (.k (.d (.int .i64 0)))),
  .n none (.mov (.k (.d (.int .i64 0))))], [(2, 2), (3, 1), (4, 0)]⟩
@[reducible] def c13r1 : Reg := ⟨[.n none (.load 3 true (.var 2)),
  .n none (.mov (.var 1)),
  .e none (.call 31 [(.loc 1), (.loc 0)]) [] [] false,
  .n none (.mov (.loc 0)),
  .n none (.extract 0 (.loc 0)),
  .n none (.extract 1 (.loc 1)),
  .n none (.mov (.loc 1)),
  .n none (.mov (.loc 1))], [(5, 1), (6, 0)]⟩
@[reducible] def c13r2 : Reg := ⟨[.n none (.mov (.var 6)),
  .n none (.bin .neq (.int .i64) (.loc 0) (.k (.d (.int .i64 0))))], [(7, 0)]⟩
@[reducible] def c13r3 : Reg := ⟨[.n none (.mov (.var 6)),
  .n none (.mov (.k (.d (.int .i64 0)))),
  .n none (.mov (.loc 1))], [(3, 1), (4, 0)]⟩
@[reducible] def c13r4 : Reg := ⟨[.n none (.mov (.var 5)),
  .n none (.nilCheck (.loc 0)),
  .n none (.fieldAddr 5 (.loc 0)),
  .n none (.load 1 false (.loc 0)),
  .n none (.mov (.loc 0)),
  .n none (.mov (.k (.d (.int .i64 0))))], [(3, 1), (4, 0)]⟩
def c13 : C := (.seq (.reg c13r0) (.seq (.reg c13r1) (.seq (.seq (.reg c13r2) (.cond (.var 7) (.seq (.reg c13r3) .ret) .skip)) (.seq (.reg c13r4) .ret))))
def r13 : List RV := [(.tmp 3), (.tmp 4)]
/- emendate/editscript.run params 2 free 0 -/
def v31 : List Tmp := [0, 1, 2, 4, 5, 6, 8, 12, 13, 14, 15, 36, 45]
@[reducible] def c31r0 : Reg := ⟨[.n none (.box 3 (.var 0)),
  .n none (.mov (.k (.d .nilp))),
  .n none (.mov (.k (.d (.int .i64 0))))], [(2, 2), (3, 1), (4, 0)]⟩
@[reducible] def c31r1 : Reg := ⟨[.n none (.load 3 true (.var 2)),
  .n none (.build [.nils, .nils, (.d (.int .i64 0)), (.d (.int .i64 0)), .nils, (.d (.int .i64 0))] [(0, 3, (.loc 0))]),
  .n none (.box 6 (.loc 0)),
  .n none (.mov (.loc 0))], [(5, 0)]⟩
@[reducible] def c31r2 : Reg := ⟨[.n none (.mov (.var 1)),
  .n none (.len 0 (.loc 0)),
  .n none (.mov (.k (.d (.int .i64 0))))], [(7, 2), (8, 1), (9, 0)]⟩
@[reducible] def c31r3 : Reg := ⟨[.n none (.bin .lss (.int .i64) (.var 9) (.var 8))], [(10, 0)]⟩
@[reducible] def c31r4 : Reg := ⟨[.n none (.idxAddr 2 (.var 7) (.var 9)),
  .n none (.load 2 true (.loc 0)),
  .n none (.alloc 2 (.d (.agg [(.int .i64 0), (.int .i64 0)]))),
  .e none (.store 2 true (.loc 0) (.loc 1)) [] [] false], [(6, 1)]⟩
@[reducible] def c31r5 : Reg := ⟨[.n none (.fieldAddr 0 (.var 6)),
  .n none (.load 1 false (.loc 0)),
  .n none (.bin .lss (.int .i64) (.loc 0) (.k (.d (.int .i64 1)))),
  .n none (.mov (.loc 0)),
  .n (some ((.loc 0), false)) (.fieldAddr 0 (.var 6)),
  .n (some ((.loc 1), false)) (.load 1 false (.loc 0)),
  .n (some ((.loc 2), false)) (.bin .gtr (.int .i64) (.loc 0) (.k (.d (.int .i64 4)))),
  .n none (.pick (.loc 3) (.k (.d (.bool true))) (.loc 0)),
  .n none (.mov (.loc 0)),
  .n (some ((.loc 0), false)) (.fieldAddr 0 (.var 6)),
  .n (some ((.loc 1), false)) (.load 1 false (.loc 0)),
  .n (some ((.loc 2), false)) (.idxArr 5 1 (.k (.fp (.agg [.nilf, (.fn 80), (.fn 81), (.fn 82), (.fn 83)]) 0)) (.loc 0)),
  .n (some ((.loc 3), false)) (.load 1 false (.loc 0)),
  .n (some ((.loc 4), false)) (.mov (.var 5)),
  .n (some ((.loc 5), false)) (.fieldAddr 1 (.var 6)),
  .n (some ((.loc 6), false)) (.load 1 false (.loc 0)),
  .e (some ((.loc 7), false)) (.callv (.loc 3) [(.loc 2), (.loc 0)]) [] [] false,
  .n (some ((.loc 8), false)) (.not (.loc 0)),
  .n none (.pick (.loc 9) (.k (.d (.bool true))) (.loc 0))], [(11, 0)]⟩
@[reducible] def c31r6 : Reg := ⟨[.n none (.mov (.k (.d .nilp))),
  .n none (.mov (.k (.d (.int .i64 1))))], [(3, 1), (4, 0)]⟩
@[reducible] def c31r7 : Reg := ⟨[.n none (.bin .add (.int .i64) (.var 9) (.k (.d (.int .i64 1)))),
  .n none (.mov (.loc 0))], [(9, 0)]⟩
@[reducible] def c31r8 : Reg := ⟨[.n none (.mov (.var 5)),
  .n none (.nilCheck (.loc 0)),
  .n none (.fieldAddr 3 (.loc 0)),
  .n none (.load 1 false (.loc 0)),
  .n none (.fieldAddr 0 (.var 2)),
  .n none (.load 1 false (.loc 0)),
  .n none (.len 0 (.loc 0)),
  .n none (.bin .neq (.int .i64) (.loc 3) (.loc 0))], [(12, 0)]⟩
@[reducible] def c31r9 : Reg := ⟨[.n none (.mov (.k (.d .nilp))),
  .n none (.mov (.k (.d (.int .i64 1))))], [(3, 1), (4, 0)]⟩
@[reducible] def c31r10 : Reg := ⟨[.n none (.mov (.var 5)),
  .n none (.mov (.loc 0)),
  .n none (.mov (.k (.d (.int .i64 0))))], [(3, 1), (4, 0)]⟩
def c31 : C := (.seq (.reg c31r0) (.seq (.reg c31r1) (.seq (.seq (.reg c31r2) (.block 0 (.loop (.seq (.reg c31r3) (.seq (.cond (.var 10) .skip (.exit 0)) (.seq (.block 1 (.seq (.reg c31r4) (.seq (.reg c31r5) (.cond (.var 11) (.seq (.reg c31r6) .ret) .skip)))) (.reg c31r7))))))) (.seq (.seq (.reg c31r8) (.cond (.var 12) (.seq (.reg c31r9) .ret) .skip)) (.seq (.reg c31r10) .ret)))))
def r31 : List RV := [(.tmp 3), (.tmp 4)]
/- (*emendate/editscript.state).emit params 2 free 0 -/
def v78 : List Tmp := [0, 1, 4]
@[reducible] def c78r0 : Reg := ⟨[.n none (.mov (.var 0)),
  .n none (.nilCheck (.loc 0)),
  .n none (.fieldAddr 4 (.loc 0)),
  .n none (.load 1 false (.loc 0)),
  .n none (.mov (.loc 0))], [(2, 0)]⟩
@[reducible] def c78r1 : Reg := ⟨[.n none (.mov (.var 0)),
  .n none (.mov (.var 2)),
  .n none (.mov (.var 1)),
  .n none (.lit 1 (.d (.int .i64 0)) 1 [(0, (.loc 0))] false),
  .e none (.append 1 8 (.loc 2) (.loc 0)) [] [] false,
  .n none (.nilCheck (.loc 4)),
  .n none (.fieldAddr 4 (.loc 0)),
  .e none (.store 1 false (.loc 0) (.loc 2)) [] [] false], []⟩
def c78 : C := (.seq (.reg c78r0) (.reg c78r1))
def r78 : List RV := []
/- (*emendate/editscript.state).read params 2 free 0 -/
def v80 : List Tmp := [0, 1, 4, 5, 6, 32]
@[reducible] def c80r0 : Reg := ⟨[.n none (.mov (.k (.d (.bool false))))], [(2, 0)]⟩
@[reducible] def c80r1 : Reg := ⟨[.n none (.mov (.var 0)),
  .e none (.call 84 [(.loc 0)]) [] [] false,
  .n none (.mov (.loc 0)),
  .n none (.extract 0 (.loc 0)),
  .n none (.extract 1 (.loc 1)),
  .n none (.alloc 3 (.agg [(.d (.int .i64 0)), .nils, (.d (.int .i64 0))])),
  .e none (.store 3 true (.loc 0) (.loc 2)) [] [] false,
  .n none (.mov (.loc 2))], [(3, 2), (4, 0)]⟩
@[reducible] def c80r2 : Reg := ⟨[.n none (.mov (.var 4)),
  .n none (.not (.loc 0)),
  .n none (.mov (.loc 0)),
  .n (some ((.loc 0), false)) (.mov (.var 1)),
  .n (some ((.loc 1), false)) (.bin .lss (.int .i64) (.loc 0) (.k (.d (.int .i64 0)))),
  .n none (.pick (.loc 2) (.k (.d (.bool true))) (.loc 0)),
  .n none (.mov (.loc 0)),
  .n (some ((.loc 0), false)) (.mov (.var 1)),
  .n (some ((.loc 1), false)) (.fieldAddr 1 (.var 3)),
  .n (some ((.loc 2), false)) (.load 1 false (.loc 0)),
  .n (some ((.loc 3), false)) (.len 0 (.loc 0)),
  .n (some ((.loc 4), false)) (.bin .geq (.int .i64) (.loc 3) (.loc 0)),
  .n none (.pick (.loc 5) (.k (.d (.bool true))) (.loc 0)),
  .n none (.mov (.loc 0)),
  .n (some ((.loc 0), false)) (.fieldAddr 1 (.var 3)),
  .n (some ((.loc 1), false)) (.load 1 false (.loc 0)),
  .n (some ((.loc 2), false)) (.mov (.var 1)),
  .n (some ((.loc 3), false)) (.idxAddr 1 (.loc 1) (.loc 0)),
  .n (some ((.loc 4), false)) (.load 1 false (.loc 0)),
  .n (some ((.loc 5), false)) (.bin .lss (.int .i64) (.loc 0) (.k (.d (.int .i64 0)))),
  .n none (.pick (.loc 6) (.k (.d (.bool true))) (.loc 0))], [(5, 0)]⟩
@[reducible] def c80r3 : Reg := ⟨[.n none (.mov (.k (.d (.bool false))))], [(2, 0)]⟩
@[reducible] def c80r4 : Reg := ⟨[.n none (.mov (.var 0)),
  .n none (.nilCheck (.loc 0)),
  .n none (.fieldAddr 3 (.loc 0)),
  .n none (.load 1 false (.loc 0)),
  .n none (.bin .add (.int .i64) (.loc 0) (.k (.d (.int .i64 1)))),
  .n none (.nilCheck (.loc 4)),
  .n none (.fieldAddr 3 (.loc 0)),
  .e none (.store 1 false (.loc 0) (.loc 2)) [] [] false], []⟩
@[reducible] def c80r5 : Reg := ⟨[.n none (.mov (.var 0)),
  .n none (.mov (.var 1)),
  .e none (.call 78 [(.loc 1), (.loc 0)]) [] [] false], []⟩
@[reducible] def c80r6 : Reg := ⟨[.n none (.mov (.var 0)),
  .n none (.mov (.var 0)),
  .n none (.nilCheck (.loc 0)),
  .n none (.fieldAddr 5 (.loc 0)),
  .n none (.load 1 false (.loc 0)),
  .n none (.fieldAddr 1 (.var 3)),
  .n none (.load 1 false (.loc 0)),
  .n none (.mov (.var 1)),
  .n none (.idxAddr 1 (.loc 1) (.loc 0)),
  .n none (.load 1 false (.loc 0)),
  .e none (.call 85 [(.loc 5), (.loc 0)]) [] [] false,
  .n none (.nilCheck (.loc 10)),
  .n none (.fieldAddr 5 (.loc 0)),
  .e none (.store 1 false (.loc 0) (.loc 2)) [] [] false], []⟩
@[reducible] def c80r7 : Reg := ⟨[.n none (.mov (.k (.d (.bool true))))], [(2, 0)]⟩
def c80 : C := (.seq (.reg c80r0) (.seq (.reg c80r1) (.seq (.seq (.reg c80r2) (.cond (.var 5) (.seq (.reg c80r3) .ret) .skip)) (.seq (.reg c80r4) (.seq (.reg c80r5) (.seq (.reg c80r6) (.seq (.reg c80r7) .ret)))))))
def r80 : List RV := [(.tmp 2)]
/- (*emendate/editscript.state).remove params 2 free 0 -/
def v81 : List Tmp := [0, 1, 4, 5, 6, 22]
@[reducible] def c81r0 : Reg := ⟨[.n none (.mov (.k (.d (.bool false))))], [(2, 0)]⟩
@[reducible] def c81r1 : Reg := ⟨[.n none (.mov (.var 0)),
  .e none (.call 84 [(.loc 0)]) [] [] false,
  .n none (.mov (.loc 0)),
  .n none (.extract 0 (.loc 0)),
  .n none (.extract 1 (.loc 1)),
  .n none (.alloc 3 (.agg [(.d (.int .i64 0)), .nils, (.d (.int .i64 0))])),
  .e none (.store 3 true (.loc 0) (.loc 2)) [] [] false,
  .n none (.mov (.loc 2))], [(3, 2), (4, 0)]⟩
@[reducible] def c81r2 : Reg := ⟨[.n none (.mov (.var 4)),
  .n none (.not (.loc 0)),
  .n none (.mov (.loc 0)),
  .n (some ((.loc 0), false)) (.mov (.var 1)),
  .n (some ((.loc 1), false)) (.bin .neq (.int .i64) (.loc 0) (.k (.d (.int .i64 0)))),
  .n none (.pick (.loc 2) (.k (.d (.bool true))) (.loc 0)),
  .n none (.mov (.loc 0)),
  .n (some ((.loc 0), false)) (.fieldAddr 2 (.var 3)),
  .n (some ((.loc 1), false)) (.load 1 false (.loc 0)),
  .n (some ((.loc 2), false)) (.bin .geq (.int .i64) (.loc 0) (.k (.d (.int .i64 1099511627776)))),
  .n none (.pick (.loc 3) (.k (.d (.bool true))) (.loc 0))], [(5, 0)]⟩
@[reducible] def c81r3 : Reg := ⟨[.n none (.mov (.k (.d (.bool false))))], [(2, 0)]⟩
@[reducible] def c81r4 : Reg := ⟨[.n none (.mov (.var 0)),
  .n none (.nilCheck (.loc 0)),
  .n none (.fieldAddr 3 (.loc 0)),
  .n none (.load 1 false (.loc 0)),
  .n none (.bin .add (.int .i64) (.loc 0) (.k (.d (.int .i64 1)))),
  .n none (.nilCheck (.loc 4)),
  .n none (.fieldAddr 3 (.loc 0)),
  .e none (.store 1 false (.loc 0) (.loc 2)) [] [] false], []⟩
@[reducible] def c81r5 : Reg := ⟨[.n none (.mov (.var 0)),
  .n none (.mov (.var 0)),
  .n none (.nilCheck (.loc 0)),
  .n none (.fieldAddr 5 (.loc 0)),
  .n none (.load 1 false (.loc 0)),
  .n none (.fieldAddr 2 (.var 3)),
  .n none (.load 1 false (.loc 0)),
  .e none (.call 85 [(.loc 2), (.loc 0)]) [] [] false,
  .n none (.nilCheck (.loc 7)),
  .n none (.fieldAddr 5 (.loc 0)),
  .e none (.store 1 false (.loc 0) (.loc 2)) [] [] false], []⟩
@[reducible] def c81r6 : Reg := ⟨[.n none (.mov (.k (.d (.bool true))))], [(2, 0)]⟩
def c81 : C := (.seq (.reg c81r0) (.seq (.reg c81r1) (.seq (.seq (.reg c81r2) (.cond (.var 5) (.seq (.reg c81r3) .ret) .skip)) (.seq (.reg c81r4) (.seq (.reg c81r5) (.seq (.reg c81r6) .ret))))))
def r81 : List RV := [(.tmp 2)]
/- (*emendate/editscript.state).insert params 2 free 0 -/
def v82 : List Tmp := [0, 1, 4, 16]
@[reducible] def c82r0 : Reg := ⟨[.n none (.mov (.k (.d (.bool false))))], [(2, 0)]⟩
@[reducible] def c82r1 : Reg := ⟨[.n none (.mov (.var 1)),
  .n none (.bin .lss (.int .i64) (.loc 0) (.k (.d (.int .i64 0)))),
  .n none (.mov (.loc 0)),
  .n (some ((.loc 0), false)) (.mov (.var 1)),
  .n (some ((.loc 1), false)) (.mov (.var 0)),
  .n (some ((.loc 2), false)) (.nilCheck (.loc 0)),
  .n (some ((.loc 3), false)) (.fieldAddr 0 (.loc 0)),
  .n (some ((.loc 4), false)) (.fieldAddr 1 (.loc 0)),
  .n (some ((.loc 5), false)) (.load 1 false (.loc 0)),
  .n (some ((.loc 6), false)) (.len 0 (.loc 0)),
  .n (some ((.loc 7), false)) (.bin .geq (.int .i64) (.loc 6) (.loc 0)),
  .n none (.pick (.loc 8) (.k (.d (.bool true))) (.loc 0))], [(3, 0)]⟩
@[reducible] def c82r2 : Reg := ⟨[.n none (.mov (.k (.d (.bool false))))], [(2, 0)]⟩
@[reducible] def c82r3 : Reg := ⟨[.n none (.mov (.var 0)),
  .n none (.mov (.var 1)),
  .e none (.call 78 [(.loc 1), (.loc 0)]) [] [] false], []⟩
@[reducible] def c82r4 : Reg := ⟨[.n none (.mov (.var 0)),
  .n none (.mov (.var 0)),
  .n none (.nilCheck (.loc 0)),
  .n none (.fieldAddr 5 (.loc 0)),
  .n none (.load 1 false (.loc 0)),
  .n none (.mov (.var 0)),
  .n none (.nilCheck (.loc 0)),
  .n none (.fieldAddr 0 (.loc 0)),
  .n none (.fieldAddr 1 (.loc 0)),
  .n none (.load 1 false (.loc 0)),
  .n none (.mov (.var 1)),
  .n none (.idxAddr 1 (.loc 1) (.loc 0)),
  .n none (.load 1 false (.loc 0)),
  .e none (.call 85 [(.loc 8), (.loc 0)]) [] [] false,
  .n none (.nilCheck (.loc 13)),
  .n none (.fieldAddr 5 (.loc 0)),
  .e none (.store 1 false (.loc 0) (.loc 2)) [] [] false], []⟩
@[reducible] def c82r5 : Reg := ⟨[.n none (.mov (.k (.d (.bool true))))], [(2, 0)]⟩
def c82 : C := (.seq (.reg c82r0) (.seq (.seq (.reg c82r1) (.cond (.var 3) (.seq (.reg c82r2) .ret) .skip)) (.seq (.reg c82r3) (.seq (.reg c82r4) (.seq (.reg c82r5) .ret)))))
def r82 : List RV := [(.tmp 2)]
/- (*emendate/editscript.state).swap params 2 free 0 -/
def v83 : List Tmp := [0, 1, 4, 18]
@[reducible] def c83r0 : Reg := ⟨[.n none (.mov (.k (.d (.bool false))))], [(2, 0)]⟩
@[reducible] def c83r1 : Reg := ⟨[.n none (.mov (.var 1)),
  .n none (.bin .neq (.int .i64) (.loc 0) (.k (.d (.int .i64 0)))),
  .n none (.mov (.loc 0)),
  .n (some ((.loc 0), false)) (.mov (.var 0)),
  .n (some ((.loc 1), false)) (.nilCheck (.loc 0)),
  .n (some ((.loc 2), false)) (.fieldAddr 0 (.loc 0)),
  .n (some ((.loc 3), false)) (.load 3 true (.loc 0)),
  .n (some ((.loc 4), false)) (.mov (.var 0)),
  .n (some ((.loc 5), false)) (.nilCheck (.loc 0)),
  .n (some ((.loc 6), false)) (.fieldAddr 3 (.loc 0)),
  .n (some ((.loc 7), false)) (.load 1 false (.loc 0)),
  .e (some ((.loc 8), false)) (.call 86 [(.loc 4), (.loc 0)]) [] [] false,
  .n (some ((.loc 9), false)) (.not (.loc 0)),
  .n none (.pick (.loc 10) (.k (.d (.bool true))) (.loc 0))], [(3, 0)]⟩
@[reducible] def c83r2 : Reg := ⟨[.n none (.mov (.k (.d (.bool false))))], [(2, 0)]⟩
@[reducible] def c83r3 : Reg := ⟨[.n none (.mov (.var 0)),
  .n none (.mov (.var 0)),
  .n none (.nilCheck (.loc 0)),
  .n none (.fieldAddr 0 (.loc 0)),
  .n none (.fieldAddr 0 (.loc 0)),
  .n none (.load 1 false (.loc 0)),
  .n none (.mov (.var 0)),
  .n none (.nilCheck (.loc 0)),
  .n none (.fieldAddr 3 (.loc 0)),
  .n none (.load 1 false (.loc 0)),
  .n none (.bin .add (.int .i64) (.loc 0) (.k (.d (.int .i64 1)))),
  .n none (.idxAddr 3 (.loc 5) (.loc 0)),
  .n none (.fieldAddr 0 (.loc 0)),
  .n none (.load 1 false (.loc 0)),
  .e none (.call 78 [(.loc 13), (.loc 0)]) [] [] false], []⟩
@[reducible] def c83r4 : Reg := ⟨[.n none (.mov (.var 0)),
  .n none (.mov (.var 0)),
  .n none (.nilCheck (.loc 0)),
  .n none (.fieldAddr 0 (.loc 0)),
  .n none (.fieldAddr 0 (.loc 0)),
  .n none (.load 1 false (.loc 0)),
  .n none (.mov (.var 0)),
  .n none (.nilCheck (.loc 0)),
  .n none (.fieldAddr 3 (.loc 0)),
  .n none (.load 1 false (.loc 0)),
  .n none (.idxAddr 3 (.loc 4) (.loc 0)),
  .n none (.fieldAddr 0 (.loc 0)),
  .n none (.load 1 false (.loc 0)),
  .e none (.call 78 [(.loc 12), (.loc 0)]) [] [] false], []⟩
@[reducible] def c83r5 : Reg := ⟨[.n none (.mov (.var 0)),
  .n none (.nilCheck (.loc 0)),
  .n none (.fieldAddr 3 (.loc 0)),
  .n none (.load 1 false (.loc 0)),
  .n none (.bin .add (.int .i64) (.loc 0) (.k (.d (.int .i64 2)))),
  .n none (.nilCheck (.loc 4)),
  .n none (.fieldAddr 3 (.loc 0)),
  .e none (.store 1 false (.loc 0) (.loc 2)) [] [] false], []⟩
@[reducible] def c83r6 : Reg := ⟨[.n none (.mov (.var 0)),
  .n none (.mov (.var 0)),
  .n none (.nilCheck (.loc 0)),
  .n none (.fieldAddr 5 (.loc 0)),
  .n none (.load 1 false (.loc 0)),
  .n none (.mov (.var 0)),
  .n none (.nilCheck (.loc 0)),
  .n none (.fieldAddr 0 (.loc 0)),
  .n none (.fieldAddr 2 (.loc 0)),
  .n none (.load 1 false (.loc 0)),
  .e none (.call 85 [(.loc 5), (.loc 0)]) [] [] false,
  .n none (.nilCheck (.loc 10)),
  .n none (.fieldAddr 5 (.loc 0)),
  .e none (.store 1 false (.loc 0) (.loc 2)) [] [] false], []⟩
@[reducible] def c83r7 : Reg := ⟨[.n none (.mov (.k (.d (.bool true))))], [(2, 0)]⟩
def c83 : C := (.seq (.reg c83r0) (.seq (.seq (.reg c83r1) (.cond (.var 3) (.seq (.reg c83r2) .ret) .skip)) (.seq (.reg c83r3) (.seq (.reg c83r4) (.seq (.reg c83r5) (.seq (.reg c83r6) (.seq (.reg c83r7) .ret)))))))
def r83 : List RV := [(.tmp 2)]
/- (*emendate/editscript.state).next params 1 free 0 -/
def v84 : List Tmp := [0, 2, 3, 14]
@[reducible] def c84r0 : Reg := ⟨[.n none (.alloc 3 (.agg [(.d (.int .i64 0)), .nils, (.d (.int .i64 0))])),
  .n none (.mov (.k (.d (.bool false))))], [(1, 1), (2, 0)]⟩
@[reducible] def c84r1 : Reg := ⟨[.n none (.mov (.var 0)),
  .n none (.nilCheck (.loc 0)),
  .n none (.fieldAddr 3 (.loc 0)),
  .n none (.load 1 false (.loc 0)),
  .n none (.mov (.var 0)),
  .n none (.nilCheck (.loc 0)),
  .n none (.fieldAddr 0 (.loc 0)),
  .n none (.fieldAddr 0 (.loc 0)),
  .n none (.load 1 false (.loc 0)),
  .n none (.len 0 (.loc 0)),
  .n none (.bin .geq (.int .i64) (.loc 6) (.loc 0))], [(3, 0)]⟩
@[reducible] def c84r2 : Reg := ⟨[.n none (.build [(.d (.int .i64 0)), .nils, (.d (.int .i64 0))] []),
  .e none (.store 3 true (.var 1) (.loc 0)) [] [] false,
  .n none (.mov (.k (.d (.bool false))))], [(2, 0)]⟩
@[reducible] def c84r3 : Reg := ⟨[.n none (.mov (.var 0)),
  .n none (.nilCheck (.loc 0)),
  .n none (.fieldAddr 0 (.loc 0)),
  .n none (.fieldAddr 0 (.loc 0)),
  .n none (.load 1 false (.loc 0)),
  .n none (.mov (.var 0)),
  .n none (.nilCheck (.loc 0)),
  .n none (.fieldAddr 3 (.loc 0)),
  .n none (.load 1 false (.loc 0)),
  .n none (.idxAddr 3 (.loc 4) (.loc 0)),
  .n none (.load 3 true (.loc 0)),
  .e none (.store 3 true (.var 1) (.loc 0)) [] [] false,
  .n none (.mov (.k (.d (.bool true))))], [(2, 0)]⟩
def c84 : C := (.seq (.reg c84r0) (.seq (.seq (.reg c84r1) (.cond (.var 3) (.seq (.reg c84r2) .ret) .skip)) (.seq (.reg c84r3) .ret)))
def r84 : List RV := [(.cell 1 3 true), (.tmp 2)]
/- emendate/editscript.add params 2 free 0 -/
def v85 : List Tmp := [0, 1, 4]
@[reducible] def c85r0 : Reg := ⟨[.n none (.mov (.k (.d (.int .i64 0))))], [(2, 0)]⟩
@[reducible] def c85r1 : Reg := ⟨[.n none (.mov (.var 0)),
  .n none (.mov (.var 1)),
  .n none (.bin .add (.int .i64) (.loc 1) (.loc 0)),
  .n none (.minmax true [(.loc 0), (.k (.d (.int .i64 1099511627776)))]),
  .n none (.mov (.loc 0))], [(2, 0)]⟩
def c85 : C := (.seq (.reg c85r0) (.seq (.reg c85r1) .ret))
def r85 : List RV := [(.tmp 2)]
/- emendate/editscript.swappable params 2 free 0 -/
def v86 : List Tmp := [0, 1, 2, 4]
@[reducible] def c86r0 : Reg := ⟨[.n none (.box 3 (.var 0)),
  .n none (.mov (.k (.d (.bool false))))], [(2, 1), (3, 0)]⟩
@[reducible] def c86r1 : Reg := ⟨[.n none (.fieldAddr 2 (.var 2)),
  .n none (.load 1 false (.loc 0)),
  .n none (.bin .gtr (.int .i64) (.loc 0) (.k (.d (.int .i64 0)))),
  .n none (.mov (.loc 0)),
  .n (some ((.loc 0), true)) (.mov (.var 1)),
  .n (some ((.loc 1), true)) (.bin .add (.int .i64) (.loc 0) (.k (.d (.int .i64 1)))),
  .n (some ((.loc 2), true)) (.fieldAddr 0 (.var 2)),
  .n (some ((.loc 3), true)) (.load 1 false (.loc 0)),
  .n (some ((.loc 4), true)) (.len 0 (.loc 0)),
  .n (some ((.loc 5), true)) (.bin .lss (.int .i64) (.loc 3) (.loc 0)),
  .n none (.pick (.loc 6) (.loc 0) (.k (.d (.bool false)))),
  .n none (.mov (.loc 0)),
  .n (some ((.loc 0), true)) (.fieldAddr 0 (.var 2)),
  .n (some ((.loc 1), true)) (.load 1 false (.loc 0)),
  .n (some ((.loc 2), true)) (.mov (.var 1)),
  .n (some ((.loc 3), true)) (.idxAddr 3 (.loc 1) (.loc 0)),
  .n (some ((.loc 4), true)) (.fieldAddr 0 (.loc 0)),
  .n (some ((.loc 5), true)) (.load 1 false (.loc 0)),
  .n (some ((.loc 6), true)) (.bin .geq (.int .i64) (.loc 0) (.k (.d (.int .i64 0)))),
  .n none (.pick (.loc 7) (.loc 0) (.k (.d (.bool false)))),
  .n none (.mov (.loc 0)),
  .n (some ((.loc 0), true)) (.fieldAddr 0 (.var 2)),
  .n (some ((.loc 1), true)) (.load 1 false (.loc 0)),
  .n (some ((.loc 2), true)) (.mov (.var 1)),
  .n (some ((.loc 3), true)) (.bin .add (.int .i64) (.loc 0) (.k (.d (.int .i64 1)))),
  .n (some ((.loc 4), true)) (.idxAddr 3 (.loc 2) (.loc 0)),
  .n (some ((.loc 5), true)) (.fieldAddr 0 (.loc 0)),
  .n (some ((.loc 6), true)) (.load 1 false (.loc 0)),
  .n (some ((.loc 7), true)) (.bin .geq (.int .i64) (.loc 0) (.k (.d (.int .i64 0)))),
  .n none (.pick (.loc 8) (.loc 0) (.k (.d (.bool false)))),
  .n none (.mov (.loc 0))], [(3, 0)]⟩
def c86 : C := (.seq (.reg c86r0) (.seq (.reg c86r1) .ret))
def r86 : List RV := [(.tmp 3)]

theorem e3 : compFn Go.Proofs.Tryd.prog v3 [] 3 = some (c3, r3) := by kernel_rfl
theorem e9 : compFn Go.Proofs.Tryd.prog v9 [] 9 = some (c9, r9) := by kernel_rfl
theorem e12 : compFn Go.Proofs.Tryd.prog v12 [] 12 = some (c12, r12) := by kernel_rfl
theorem e13 : compFn Go.Proofs.Tryd.prog v13 [] 13 = some (c13, r13) := by kernel_rfl
theorem e31 : compFn Go.Proofs.Tryd.prog v31 [] 31 = some (c31, r31) := by kernel_rfl
theorem e78 : compFn Go.Proofs.Tryd.prog v78 [] 78 = some (c78, r78) := by kernel_rfl
theorem e80 : compFn Go.Proofs.Tryd.prog v80 [] 80 = some (c80, r80) := by kernel_rfl
theorem e81 : compFn Go.Proofs.Tryd.prog v81 [] 81 = some (c81, r81) := by kernel_rfl
theorem e82 : compFn Go.Proofs.Tryd.prog v82 [] 82 = some (c82, r82) := by kernel_rfl
theorem e83 : compFn Go.Proofs.Tryd.prog v83 [] 83 = some (c83, r83) := by kernel_rfl
theorem e84 : compFn Go.Proofs.Tryd.prog v84 [] 84 = some (c84, r84) := by kernel_rfl
theorem e85 : compFn Go.Proofs.Tryd.prog v85 [] 85 = some (c85, r85) := by kernel_rfl
theorem e86 : compFn Go.Proofs.Tryd.prog v86 [] 86 = some (c86, r86) := by kernel_rfl
end Go.Vm.L
