/- The lattice functions in the machine's code, as the loaded program compiles to it. -/
import Derived.Test.YtibpfnjbgojfoaaV7
import Derived.Test.YtibpfnjbgojfoaaChecked
import Derived.KernelRfl
namespace Go.Vm.L
open Go Go.Vm
set_option maxRecDepth 100000
instance : Gl := ⟨[]⟩
/- emendate/emendatelaw37.awake params 0 free 0 -/
def v10 : List Tmp := [0, 1, 2, 4, 5, 6]
@[reducible] def c10r0 : Reg := ⟨[.n none (.mov (.k (.d (.bool false))))], [(0, 0)]⟩
@[reducible] def c10r1 : Reg := ⟨[.n none (.lit 1 (.d (.int .i64 0)) 2 [(0, (.k (.d (.int .i64 0)))), (1, (.k (.d (.int .i64 (-1)))))] false),
  .n none (.build [(.d (.int .i64 0)), .nils, (.d (.int .i64 0))] [(0, 1, (.k (.d (.int .i64 0)))), (1, 1, (.loc 0)), (2, 1, (.k (.d (.int .i64 5))))]),
  .n none (.lit 3 (.agg [(.d (.int .i64 0)), .nils, (.d (.int .i64 0))]) 1 [(0, (.loc 0))] false),
  .n none (.lit 1 (.d (.int .i64 0)) 2 [(0, (.k (.d (.int .i64 3)))), (1, (.k (.d (.int .i64 3))))] false),
  .n none (.build [.nils, .nils, (.d (.int .i64 0))] [(0, 1, (.loc 1)), (1, 1, (.loc 0)), (2, 1, (.k (.d (.int .i64 4))))]),
  .n none (.alloc 3 (.agg [.nils, .nils, (.d (.int .i64 0))])),
  .e none (.store 3 true (.loc 0) (.loc 1)) [] [] false], [(1, 1)]⟩
@[reducible] def c10r2 : Reg := ⟨[.n none (.load 3 true (.var 1)),
  .e none (.call 12 [(.loc 0)]) [] [] false,
  .n none (.alloc 3 (.agg [(.d (.int .i64 0)), .nils, .nils])),
  .e none (.store 3 true (.loc 0) (.loc 1)) [] [] false], [(2, 1)]⟩
@[reducible] def c10r3 : Reg := ⟨[.n none (.load 3 true (.var 1)),
  .n none (.load 3 true (.var 2)),
  .n none (.lit 1 (.d (.int .i64 0)) 1 [(0, (.k (.d (.int .i64 9))))] false),
  .e none (.call 20 [(.loc 2), (.loc 1), (.loc 0)]) [] [] false,
  .n none (.mov (.loc 0)),
  .n none (.extract 0 (.loc 0)),
  .n none (.extract 1 (.loc 1)),
  .n none (.mov (.loc 1)),
  .n none (.mov (.loc 1))], [(3, 0)]⟩
@[reducible] def c10r4 : Reg := ⟨[.n none (.load 3 true (.var 1)),
  .n none (.load 3 true (.var 2)),
  .n none (.lit 1 (.d (.int .i64 0)) 1 [(0, (.k (.d (.int .i64 3))))] false),
  .e none (.call 20 [(.loc 2), (.loc 1), (.loc 0)]) [] [] false,
  .n none (.mov (.loc 0)),
  .n none (.extract 0 (.loc 0)),
  .n none (.extract 1 (.loc 1)),
  .n none (.mov (.loc 1)),
  .n none (.mov (.loc 1))], [(4, 1), (5, 0)]⟩
@[reducible] def c10r5 : Reg := ⟨[.n none (.fieldAddr 0 (.var 2)),
  .n none (.load 1 false (.loc 0)),
  .n none (.bin .eql (.int .i64) (.loc 0) (.k (.d (.int .i64 3)))),
  .n none (.mov (.loc 0)),
  .n (some ((.loc 0), true)) (.fieldAddr 1 (.var 2)),
  .n (some ((.loc 1), true)) (.load 1 false (.loc 0)),
  .n (some ((.loc 2), true)) (.len 0 (.loc 0)),
  .n (some ((.loc 3), true)) (.bin .eql (.int .i64) (.loc 0) (.k (.d (.int .i64 6)))),
  .n none (.pick (.loc 4) (.loc 0) (.k (.d (.bool false)))),
  .n none (.mov (.loc 0)),
  .n (some ((.loc 0), true)) (.fieldAddr 1 (.var 2)),
  .n (some ((.loc 1), true)) (.load 1 false (.loc 0)),
  .n (some ((.loc 2), true)) (.idxAddr 5 (.loc 0) (.k (.d (.int .i64 3)))),
  .n (some ((.loc 3), true)) (.load 5 true (.loc 0)),
  .n (some ((.loc 4), true)) (.build [(.d (.int .i64 0)), (.d (.int .i64 0))] [(0, 1, (.k (.d (.int .i64 2))))]),
  .n (some ((.loc 5), true)) (.build [(.d (.int .i64 0)), (.d (.int .i64 0))] [(0, 1, (.k (.d (.int .i64 3)))), (1, 1, (.k (.d (.int .i64 1))))]),
  .n (some ((.loc 6), true)) (.lit 2 (.d (.agg [(.int .i64 0), (.int .i64 0)])) 2 [(0, (.loc 1)), (1, (.loc 0))] false),
  .n (some ((.loc 7), true)) (.build [(.d (.int .i64 0)), (.d (.int .i64 0)), (.d (.int .i64 0)), (.d (.int .i64 0)), .nils] [(0, 1, (.k (.d (.int .i64 0)))), (1, 1, (.k (.d (.int .i64 2)))), (2, 1, (.k (.d (.int .i64 1)))), (3, 1, (.k (.d (.int .i64 8)))), (4, 1, (.loc 0))]),
  .e (some ((.loc 8), true)) (.call 23 [(.loc 4), (.loc 0)]) [] [] false,
  .n none (.pick (.loc 9) (.loc 0) (.k (.d (.bool false)))),
  .n none (.mov (.loc 0)),
  .n (some ((.loc 0), true)) (.fieldAddr 2 (.var 2)),
  .n (some ((.loc 1), true)) (.load 1 false (.loc 0)),
  .n (some ((.loc 2), true)) (.lit 1 (.d (.int .i64 0)) 3 [(0, (.k (.d (.int .i64 5)))), (1, (.k (.d (.int .i64 1099511627776)))), (2, (.k (.d (.int .i64 0))))] false),
  .e (some ((.loc 3), true)) (.call 26 [(.loc 1), (.loc 0)]) [] [] false,
  .n none (.pick (.loc 4) (.loc 0) (.k (.d (.bool false)))),
  .n none (.mov (.loc 0)),
  .n (some ((.loc 0), true)) (.load 3 true (.var 2)),
  .n (some ((.loc 1), true)) (.lit 1 (.d (.int .i64 0)) 1 [(0, (.k (.d (.int .i64 1))))] false),
  .e (some ((.loc 2), true)) (.call 18 [(.loc 1), (.loc 0)]) [] [] false,
  .n (some ((.loc 3), true)) (.bin .eql (.int .i64) (.loc 0) (.k (.d (.int .i64 8)))),
  .n none (.pick (.loc 4) (.loc 0) (.k (.d (.bool false)))),
  .n none (.mov (.loc 0)),
  .n (some ((.loc 0), true)) (.load 3 true (.var 2)),
  .n (some ((.loc 1), true)) (.lit 1 (.d (.int .i64 0)) 1 [(0, (.k (.d (.int .i64 0))))] false),
  .e (some ((.loc 2), true)) (.call 18 [(.loc 1), (.loc 0)]) [] [] false,
  .n (some ((.loc 3), true)) (.bin .eql (.int .i64) (.loc 0) (.k (.d (.int .i64 0)))),
  .n none (.pick (.loc 4) (.loc 0) (.k (.d (.bool false)))),
  .n none (.mov (.loc 0)),
  .n (some ((.loc 0), true)) (.mov (.var 3)),
  .n (some ((.loc 1), true)) (.bin .eql (.int .i64) (.loc 0) (.k (.d (.int .i64 1)))),
  .n none (.pick (.loc 2) (.loc 0) (.k (.d (.bool false)))),
  .n none (.mov (.loc 0)),
  .n (some ((.loc 0), true)) (.mov (.var 5)),
  .n (some ((.loc 1), true)) (.bin .eql (.int .i64) (.loc 0) (.k (.d (.int .i64 0)))),
  .n none (.pick (.loc 2) (.loc 0) (.k (.d (.bool false)))),
  .n none (.mov (.loc 0)),
  .n (some ((.loc 0), true)) (.mov (.var 4)),
  .n (some ((.loc 1), true)) (.fieldAddr 1 (.var 2)),
  .n (some ((.loc 2), true)) (.load 1 false (.loc 0)),
  .n (some ((.loc 3), true)) (.idxAddr 5 (.loc 0) (.k (.d (.int .i64 3)))),
  .n (some ((.loc 4), true)) (.fieldAddr 4 (.loc 0)),
  .n (some ((.loc 5), true)) (.load 1 false (.loc 0)),
  .e (some ((.loc 6), true)) (.call 22 [(.loc 5), (.loc 0)]) [] [] false,
  .n none (.pick (.loc 7) (.loc 0) (.k (.d (.bool false)))),
  .n none (.mov (.loc 0)),
  .n (some ((.loc 0), true)) (.load 3 true (.var 2)),
  .e (some ((.loc 1), true)) (.call 15 [(.loc 0), (.k (.d (.int .i64 2)))]) [] [] false,
  .n none (.pick (.loc 2) (.loc 0) (.k (.d (.bool false)))),
  .n none (.mov (.loc 0)),
  .n (some ((.loc 0), true)) (.load 3 true (.var 2)),
  .e (some ((.loc 1), true)) (.call 15 [(.loc 0), (.k (.d (.int .i64 1)))]) [] [] false,
  .n (some ((.loc 2), true)) (.not (.loc 0)),
  .n none (.pick (.loc 3) (.loc 0) (.k (.d (.bool false)))),
  .n none (.mov (.loc 0))], [(0, 0)]⟩
def c10 : C := (.seq (.reg c10r0) (.seq (.reg c10r1) (.seq (.reg c10r2) (.seq (.reg c10r3) (.seq (.reg c10r4) (.seq (.reg c10r5) .ret))))))
def r10 : List RV := [(.tmp 0)]
/- emendate/emendatelaw37.fair params 2 free 0 -/
def v11 : List Tmp := [0, 1, 2, 4]
@[reducible] def c11r0 : Reg := ⟨[.n none (.box 3 (.var 0)),
  .n none (.mov (.k (.d (.bool false))))], [(2, 1), (3, 0)]⟩
@[reducible] def c11r1 : Reg := ⟨[.n none (.load 3 true (.var 2)),
  .n none (.mov (.var 1)),
  .e none (.call 27 [(.loc 1), (.loc 0), (.k (.d (.int .i64 5)))]) [] [] false,
  .n none (.mov (.loc 0)),
  .n (some ((.loc 0), true)) (.load 3 true (.var 2)),
  .n (some ((.loc 1), true)) (.fieldAddr 1 (.var 2)),
  .n (some ((.loc 2), true)) (.load 1 false (.loc 0)),
  .n (some ((.loc 3), true)) (.len 0 (.loc 0)),
  .e (some ((.loc 4), true)) (.call 28 [(.loc 3), (.loc 0)]) [] [] false,
  .n none (.pick (.loc 5) (.loc 0) (.k (.d (.bool false)))),
  .n none (.mov (.loc 0))], [(3, 0)]⟩
def c11 : C := (.seq (.reg c11r0) (.seq (.reg c11r1) .ret))
def r11 : List RV := [(.tmp 3)]
/- emendate/lattice.Build params 1 free 0 -/
def v12 : List Tmp := [0, 1, 2, 3, 4, 5, 6, 7, 8, 10, 28, 29, 30, 52, 54, 63, 64, 65, 66]
@[reducible] def c12r0 : Reg := ⟨[.n none (.box 3 (.var 0)),
  .n none (.alloc 3 (.agg [(.d (.int .i64 0)), .nils, .nils]))], [(1, 1), (2, 0)]⟩
@[reducible] def c12r1 : Reg := ⟨[.n none (.load 3 true (.var 1)),
  .n none (.mkMap (.many [(.int .i64), (.int .i64), (.int .i64)])),
  .n none (.build [.nils, .nils, (.d (.int .i64 0)), (.d .nilm)] [(0, 3, (.loc 1)), (3, 1, (.loc 0))]),
  .n none (.box 4 (.loc 0)),
  .n none (.mov (.loc 0))], [(3, 0)]⟩
@[reducible] def c12r2 : Reg := ⟨[.n none (.fieldAddr 0 (.var 1)),
  .n none (.load 1 false (.loc 0)),
  .n none (.len 0 (.loc 0)),
  .n none (.mov (.loc 0))], [(4, 0)]⟩
@[reducible] def c12r3 : Reg := ⟨[.n none (.mov (.var 4)),
  .n none (.bin .mul (.int .i64) (.k (.d (.int .i64 2))) (.loc 0)),
  .n none (.bin .add (.int .i64) (.loc 0) (.k (.d (.int .i64 1)))),
  .n none (.lit 1 (.d (.int .i64 0)) 1 [(0, (.k (.d (.int .i64 1099511627776))))] false),
  .n none (.mov (.var 4)),
  .n none (.bin .mul (.int .i64) (.k (.d (.int .i64 2))) (.loc 0)),
  .n none (.bin .add (.int .i64) (.loc 0) (.k (.d (.int .i64 1)))),
  .e none (.call 29 [(.loc 3), (.loc 0)]) [] [] false,
  .n none (.build [(.d (.int .i64 0)), .nils, .nils] [(0, 1, (.loc 5)), (2, 1, (.loc 0))]),
  .n none (.alloc 3 (.agg [(.d (.int .i64 0)), .nils, .nils])),
  .e none (.store 3 true (.loc 0) (.loc 1)) [] [] false], [(5, 1)]⟩
@[reducible] def c12r4 : Reg := ⟨[.n none (.mov (.var 4)),
  .n none (.bin .add (.int .i64) (.loc 0) (.k (.d (.int .i64 1)))),
  .n none (.mov (.k (.d (.int .i64 0))))], [(10, 1), (11, 0)]⟩
@[reducible] def c12r5 : Reg := ⟨[.n none (.bin .lss (.int .i64) (.var 11) (.var 10))], [(12, 0)]⟩
@[reducible] def c12r6 : Reg := ⟨[.n none (.mov (.var 11)),
  .n none (.mov (.loc 0))], [(6, 0)]⟩
@[reducible] def c12r7 : Reg := ⟨[.n none (.mov (.var 3)),
  .n none (.mov (.var 6)),
  .e none (.call 30 [(.loc 1), (.loc 0)]) [] [] false], []⟩
@[reducible] def c12r8 : Reg := ⟨[.n none (.fieldAddr 2 (.var 5)),
  .n none (.load 1 false (.loc 0)),
  .n none (.mov (.var 6)),
  .n none (.bin .mul (.int .i64) (.k (.d (.int .i64 2))) (.loc 0)),
  .n none (.mov (.var 3)),
  .n none (.mov (.var 6)),
  .n none (.mov (.var 4)),
  .e none (.call 31 [(.loc 2), (.loc 1), (.loc 0)]) [(.loc 6)] [] false,
  .n none (.mov (.loc 0)),
  .n none (.extract 0 (.loc 0)),
  .n none (.extract 1 (.loc 1)),
  .n none (.idxAddr 1 (.loc 9) (.loc 7)),
  .e none (.store 1 false (.loc 0) (.loc 2)) [] [] false], []⟩
@[reducible] def c12r9 : Reg := ⟨[.n none (.bin .add (.int .i64) (.var 11) (.k (.d (.int .i64 1)))),
  .n none (.mov (.loc 0))], [(11, 0)]⟩
@[reducible] def c12r10 : Reg := ⟨[.n none (.mov (.k .nils))], [(7, 0)]⟩
@[reducible] def c12r11 : Reg := ⟨[.n none (.mov (.var 3)),
  .n none (.nilCheck (.loc 0)),
  .n none (.fieldAddr 3 (.loc 0)),
  .n none (.load 1 false (.loc 0)),
  .e none (.range (.loc 0)) [] [] false], [(13, 0)]⟩
@[reducible] def c12r12 : Reg := ⟨[.e none (.next (.var 13)) [] [] false,
  .n none (.extract 0 (.loc 0))], [(14, 0)]⟩
@[reducible] def c12r13 : Reg := ⟨[.e none (.entry (.var 13)) [] [] false,
  .n none (.extract 0 (.loc 0)),
  .n none (.alloc 3 (.d (.agg [(.int .i64 0), (.int .i64 0), (.int .i64 0)]))),
  .e none (.store 3 true (.loc 0) (.loc 1)) [] [] false], [(8, 1)]⟩
@[reducible] def c12r14 : Reg := ⟨[.n none (.mov (.var 7)),
  .n none (.load 3 true (.var 8)),
  .n none (.lit 3 (.d (.agg [(.int .i64 0), (.int .i64 0), (.int .i64 0)])) 1 [(0, (.loc 0))] false),
  .e none (.append 3 24 (.loc 2) (.loc 0)) [] [] false,
  .n none (.mov (.loc 0))], [(7, 0)]⟩
@[reducible] def c12r15 : Reg := ⟨[.n none (.mov (.var 7)),
  .e none (.call 32 [(.loc 0), (.k (.d (.fn 33)))]) [] [] false], []⟩
@[reducible] def c12r16 : Reg := ⟨[.n none (.mov (.var 7)),
  .n none (.len 0 (.loc 0)),
  .n none (.mov (.k (.d (.int .i64 0))))], [(15, 2), (16, 1), (17, 0)]⟩
@[reducible] def c12r17 : Reg := ⟨[.n none (.bin .lss (.int .i64) (.var 17) (.var 16))], [(18, 0)]⟩
@[reducible] def c12r18 : Reg := ⟨[.n none (.idxAddr 3 (.var 15) (.var 17)),
  .n none (.load 3 true (.loc 0)),
  .n none (.alloc 3 (.d (.agg [(.int .i64 0), (.int .i64 0), (.int .i64 0)]))),
  .e none (.store 3 true (.loc 0) (.loc 1)) [] [] false], [(9, 1)]⟩
@[reducible] def c12r19 : Reg := ⟨[.n none (.fieldAddr 1 (.var 5)),
  .n none (.load 1 false (.loc 0)),
  .n none (.mov (.var 3)),
  .n none (.nilCheck (.loc 0)),
  .n none (.fieldAddr 3 (.loc 0)),
  .n none (.load 1 false (.loc 0)),
  .n none (.load 3 true (.var 9)),
  .n none (.lookup false (.many [(.int .i64), (.int .i64), (.int .i64)]) (.agg [(.d (.int .i64 0)), (.d (.int .i64 0)), (.d (.int .i64 0)), (.d (.int .i64 0)), .nils]) (.loc 1) (.loc 0)),
  .n none (.lit 5 (.agg [(.d (.int .i64 0)), (.d (.int .i64 0)), (.d (.int .i64 0)), (.d (.int .i64 0)), .nils]) 1 [(0, (.loc 0))] false),
  .e none (.append 5 56 (.loc 7) (.loc 0)) [] [] false,
  .n none (.fieldAddr 1 (.var 5)),
  .e none (.store 1 false (.loc 0) (.loc 1)) [] [] false], []⟩
@[reducible] def c12r20 : Reg := ⟨[.n none (.bin .add (.int .i64) (.var 17) (.k (.d (.int .i64 1)))),
  .n none (.mov (.loc 0))], [(17, 0)]⟩
@[reducible] def c12r21 : Reg := ⟨[.n none (.load 3 true (.var 5)),
  .e none (.store 3 true (.var 2) (.loc 0)) [] [] false], []⟩
def c12 : C := (.seq (.reg c12r0) (.seq (.reg c12r1) (.seq (.reg c12r2) (.seq (.reg c12r3) (.seq (.seq (.reg c12r4) (.block 0 (.loop (.seq (.reg c12r5) (.seq (.cond (.var 12) .skip (.exit 0)) (.seq (.block 1 (.seq (.reg c12r6) (.seq (.reg c12r7) (.reg c12r8)))) (.reg c12r9))))))) (.seq (.reg c12r10) (.seq (.seq (.reg c12r11) (.block 2 (.loop (.seq (.reg c12r12) (.seq (.cond (.var 14) .skip (.exit 2)) (.block 3 (.seq (.reg c12r13) (.reg c12r14)))))))) (.seq (.reg c12r15) (.seq (.seq (.reg c12r16) (.block 4 (.loop (.seq (.reg c12r17) (.seq (.cond (.var 18) .skip (.exit 4)) (.seq (.block 5 (.seq (.reg c12r18) (.reg c12r19))) (.reg c12r20))))))) (.seq (.reg c12r21) .ret))))))))))
def r12 : List RV := [(.cell 2 3 true)]
/- emendate/lattice.Valid params 2 free 0 -/
def v15 : List Tmp := [0, 1, 2, 4, 6, 7, 8, 9, 20, 22, 23, 24, 25, 33, 36, 37, 38, 39, 92, 94, 116]
@[reducible] def c15r0 : Reg := ⟨[.n none (.box 3 (.var 0)),
  .n none (.mov (.k (.d (.bool false))))], [(2, 1), (3, 0)]⟩
@[reducible] def c15r1 : Reg := ⟨[.n none (.fieldAddr 0 (.var 2)),
  .n none (.load 1 false (.loc 0)),
  .n none (.bin .lss (.int .i64) (.loc 0) (.k (.d (.int .i64 1)))),
  .n none (.mov (.loc 0)),
  .n (some ((.loc 0), false)) (.fieldAddr 2 (.var 2)),
  .n (some ((.loc 1), false)) (.load 1 false (.loc 0)),
  .n (some ((.loc 2), false)) (.len 0 (.loc 0)),
  .n (some ((.loc 3), false)) (.fieldAddr 0 (.var 2)),
  .n (some ((.loc 4), false)) (.load 1 false (.loc 0)),
  .n (some ((.loc 5), false)) (.bin .neq (.int .i64) (.loc 2) (.loc 0)),
  .n none (.pick (.loc 6) (.k (.d (.bool true))) (.loc 0))], [(8, 0)]⟩
@[reducible] def c15r2 : Reg := ⟨[.n none (.mov (.k (.d (.bool false))))], [(3, 0)]⟩
@[reducible] def c15r3 : Reg := ⟨[.n none (.fieldAddr 2 (.var 2)),
  .n none (.load 1 false (.loc 0)),
  .n none (.len 0 (.loc 0)),
  .n none (.mov (.k (.d (.int .i64 0))))], [(9, 2), (10, 1), (11, 0)]⟩
@[reducible] def c15r4 : Reg := ⟨[.n none (.bin .lss (.int .i64) (.var 11) (.var 10))], [(12, 0)]⟩
@[reducible] def c15r5 : Reg := ⟨[.n none (.idxAddr 1 (.var 9) (.var 11)),
  .n none (.load 1 false (.loc 0)),
  .n none (.mov (.loc 0))], [(4, 0)]⟩
@[reducible] def c15r6 : Reg := ⟨[.n none (.mov (.var 4)),
  .n none (.bin .lss (.int .i64) (.loc 0) (.k (.d (.int .i64 0)))),
  .n none (.mov (.loc 0)),
  .n (some ((.loc 0), false)) (.mov (.var 4)),
  .n (some ((.loc 1), false)) (.bin .gtr (.int .i64) (.loc 0) (.k (.d (.int .i64 1099511627776)))),
  .n none (.pick (.loc 2) (.k (.d (.bool true))) (.loc 0))], [(13, 0)]⟩
@[reducible] def c15r7 : Reg := ⟨[.n none (.mov (.k (.d (.bool false))))], [(3, 0)]⟩
@[reducible] def c15r8 : Reg := ⟨[.n none (.bin .add (.int .i64) (.var 11) (.k (.d (.int .i64 1)))),
  .n none (.mov (.loc 0))], [(11, 0)]⟩
@[reducible] def c15r9 : Reg := ⟨[.n none (.fieldAddr 1 (.var 2)),
  .n none (.load 1 false (.loc 0)),
  .n none (.len 0 (.loc 0)),
  .n none (.mov (.k (.d (.int .i64 0))))], [(14, 2), (15, 1), (16, 0)]⟩
@[reducible] def c15r10 : Reg := ⟨[.n none (.bin .lss (.int .i64) (.var 16) (.var 15))], [(17, 0)]⟩
@[reducible] def c15r11 : Reg := ⟨[.n none (.mov (.var 16)),
  .n none (.idxAddr 5 (.var 14) (.var 16)),
  .n none (.load 5 true (.loc 0)),
  .n none (.alloc 5 (.agg [(.d (.int .i64 0)), (.d (.int .i64 0)), (.d (.int .i64 0)), (.d (.int .i64 0)), .nils])),
  .n none (.mov (.loc 3)),
  .e none (.store 5 true (.loc 1) (.loc 2)) [] [] false], [(5, 1), (6, 2)]⟩
@[reducible] def c15r12 : Reg := ⟨[.n none (.fieldAddr 0 (.var 6)),
  .n none (.load 1 false (.loc 0)),
  .n none (.bin .lss (.int .i64) (.loc 0) (.k (.d (.int .i64 0)))),
  .n none (.mov (.loc 0)),
  .n (some ((.loc 0), false)) (.fieldAddr 0 (.var 6)),
  .n (some ((.loc 1), false)) (.load 1 false (.loc 0)),
  .n (some ((.loc 2), false)) (.fieldAddr 1 (.var 6)),
  .n (some ((.loc 3), false)) (.load 1 false (.loc 0)),
  .n (some ((.loc 4), false)) (.bin .gtr (.int .i64) (.loc 2) (.loc 0)),
  .n none (.pick (.loc 5) (.k (.d (.bool true))) (.loc 0)),
  .n none (.mov (.loc 0)),
  .n (some ((.loc 0), false)) (.fieldAddr 1 (.var 6)),
  .n (some ((.loc 1), false)) (.load 1 false (.loc 0)),
  .n (some ((.loc 2), false)) (.fieldAddr 0 (.var 2)),
  .n (some ((.loc 3), false)) (.load 1 false (.loc 0)),
  .n (some ((.loc 4), false)) (.bin .geq (.int .i64) (.loc 2) (.loc 0)),
  .n none (.pick (.loc 5) (.k (.d (.bool true))) (.loc 0)),
  .n none (.mov (.loc 0)),
  .n (some ((.loc 0), false)) (.fieldAddr 2 (.var 6)),
  .n (some ((.loc 1), false)) (.load 1 false (.loc 0)),
  .n (some ((.loc 2), false)) (.bin .lss (.int .i64) (.loc 0) (.k (.d (.int .i64 0)))),
  .n none (.pick (.loc 3) (.k (.d (.bool true))) (.loc 0)),
  .n none (.mov (.loc 0)),
  .n (some ((.loc 0), false)) (.fieldAddr 2 (.var 6)),
  .n (some ((.loc 1), false)) (.load 1 false (.loc 0)),
  .n (some ((.loc 2), false)) (.mov (.var 1)),
  .n (some ((.loc 3), false)) (.bin .geq (.int .i64) (.loc 1) (.loc 0)),
  .n none (.pick (.loc 4) (.k (.d (.bool true))) (.loc 0)),
  .n none (.mov (.loc 0)),
  .n (some ((.loc 0), false)) (.fieldAddr 3 (.var 6)),
  .n (some ((.loc 1), false)) (.load 1 false (.loc 0)),
  .n (some ((.loc 2), false)) (.bin .lss (.int .i64) (.loc 0) (.k (.d (.int .i64 0)))),
  .n none (.pick (.loc 3) (.k (.d (.bool true))) (.loc 0)),
  .n none (.mov (.loc 0)),
  .n (some ((.loc 0), false)) (.fieldAddr 3 (.var 6)),
  .n (some ((.loc 1), false)) (.load 1 false (.loc 0)),
  .n (some ((.loc 2), false)) (.bin .geq (.int .i64) (.loc 0) (.k (.d (.int .i64 1099511627776)))),
  .n none (.pick (.loc 3) (.k (.d (.bool true))) (.loc 0)),
  .n none (.mov (.loc 0)),
  .n (some ((.loc 0), false)) (.fieldAddr 0 (.var 6)),
  .n (some ((.loc 1), false)) (.load 1 false (.loc 0)),
  .n (some ((.loc 2), false)) (.fieldAddr 1 (.var 6)),
  .n (some ((.loc 3), false)) (.load 1 false (.loc 0)),
  .n (some ((.loc 4), false)) (.bin .eql (.int .i64) (.loc 2) (.loc 0)),
  .n (some ((.loc 5), false)) (.mov (.loc 0)),
  .n (some ((.loc 0), true)) (.fieldAddr 3 (.var 6)),
  .n (some ((.loc 1), true)) (.load 1 false (.loc 0)),
  .n (some ((.loc 2), true)) (.bin .eql (.int .i64) (.loc 0) (.k (.d (.int .i64 0)))),
  .n (some ((.loc 9), false)) (.pick (.loc 3) (.loc 0) (.k (.d (.bool false)))),
  .n none (.pick (.loc 10) (.k (.d (.bool true))) (.loc 0))], [(18, 0)]⟩
@[reducible] def c15r13 : Reg := ⟨[.n none (.mov (.k (.d (.bool false))))], [(3, 0)]⟩
@[reducible] def c15r14 : Reg := ⟨[.n none (.mov (.var 5)),
  .n none (.bin .gtr (.int .i64) (.loc 0) (.k (.d (.int .i64 0))))], [(19, 0)]⟩
@[reducible] def c15r15 : Reg := ⟨[.n none (.fieldAddr 1 (.var 2)),
  .n none (.load 1 false (.loc 0)),
  .n none (.mov (.var 5)),
  .n none (.bin .sub (.int .i64) (.loc 0) (.k (.d (.int .i64 1)))),
  .n none (.idxAddr 5 (.loc 2) (.loc 0)),
  .n none (.load 5 true (.loc 0)),
  .n none (.alloc 5 (.agg [(.d (.int .i64 0)), (.d (.int .i64 0)), (.d (.int .i64 0)), (.d (.int .i64 0)), .nils])),
  .e none (.store 5 true (.loc 0) (.loc 1)) [] [] false], [(7, 1)]⟩
@[reducible] def c15r16 : Reg := ⟨[.n none (.fieldAddr 0 (.var 7)),
  .n none (.load 1 false (.loc 0)),
  .n none (.fieldAddr 1 (.var 7)),
  .n none (.load 1 false (.loc 0)),
  .n none (.fieldAddr 2 (.var 7)),
  .n none (.load 1 false (.loc 0)),
  .n none (.build [(.d (.int .i64 0)), (.d (.int .i64 0)), (.d (.int .i64 0))] [(0, 1, (.loc 4)), (1, 1, (.loc 2)), (2, 1, (.loc 0))]),
  .n none (.fieldAddr 0 (.var 6)),
  .n none (.load 1 false (.loc 0)),
  .n none (.fieldAddr 1 (.var 6)),
  .n none (.load 1 false (.loc 0)),
  .n none (.fieldAddr 2 (.var 6)),
  .n none (.load 1 false (.loc 0)),
  .n none (.build [(.d (.int .i64 0)), (.d (.int .i64 0)), (.d (.int .i64 0))] [(0, 1, (.loc 4)), (1, 1, (.loc 2)), (2, 1, (.loc 0))]),
  .e none (.call 33 [(.loc 7), (.loc 0)]) [] [] false,
  .n none (.bin .geq (.int .i64) (.loc 0) (.k (.d (.int .i64 0))))], [(20, 0)]⟩
@[reducible] def c15r17 : Reg := ⟨[.n none (.mov (.k (.d (.bool false))))], [(3, 0)]⟩
@[reducible] def c15r18 : Reg := ⟨[.n none (.bin .add (.int .i64) (.var 16) (.k (.d (.int .i64 1)))),
  .n none (.mov (.loc 0))], [(16, 0)]⟩
@[reducible] def c15r19 : Reg := ⟨[.n none (.mov (.k (.d (.bool true))))], [(3, 0)]⟩
def c15 : C := (.seq (.reg c15r0) (.seq (.seq (.reg c15r1) (.cond (.var 8) (.seq (.reg c15r2) .ret) .skip)) (.seq (.seq (.reg c15r3) (.block 0 (.loop (.seq (.reg c15r4) (.seq (.cond (.var 12) .skip (.exit 0)) (.seq (.block 1 (.seq (.reg c15r5) (.seq (.reg c15r6) (.cond (.var 13) (.seq (.reg c15r7) .ret) .skip)))) (.reg c15r8))))))) (.seq (.seq (.reg c15r9) (.block 2 (.loop (.seq (.reg c15r10) (.seq (.cond (.var 17) .skip (.exit 2)) (.seq (.block 3 (.seq (.reg c15r11) (.seq (.seq (.reg c15r12) (.cond (.var 18) (.seq (.reg c15r13) .ret) .skip)) (.seq (.reg c15r14) (.cond (.var 19) (.seq (.reg c15r15) (.seq (.reg c15r16) (.cond (.var 20) (.seq (.reg c15r17) .ret) .skip))) .skip))))) (.reg c15r18))))))) (.seq (.reg c15r19) .ret)))))
def r15 : List RV := [(.tmp 3)]
/- emendate/emendatelaw37.below params 2 free 0 -/
def v17 : List Tmp := [0, 1, 4, 5, 9, 24]
@[reducible] def c17r0 : Reg := ⟨[.n none (.mov (.k (.d (.bool false))))], [(2, 0)]⟩
@[reducible] def c17r1 : Reg := ⟨[.n none (.mov (.k (.d (.int .i64 0))))], [(3, 0)]⟩
@[reducible] def c17r2 : Reg := ⟨[.n none (.mov (.var 3)),
  .n none (.mov (.var 0)),
  .n none (.len 0 (.loc 0)),
  .n none (.bin .lss (.int .i64) (.loc 2) (.loc 0))], [(4, 0)]⟩
@[reducible] def c17r3 : Reg := ⟨[.n none (.mov (.var 0)),
  .n none (.mov (.var 3)),
  .n none (.idxAddr 1 (.loc 1) (.loc 0)),
  .n none (.load 1 false (.loc 0)),
  .n none (.bin .lss (.int .i64) (.loc 0) (.k (.d (.int .i64 0)))),
  .n none (.mov (.loc 0)),
  .n (some ((.loc 0), false)) (.mov (.var 0)),
  .n (some ((.loc 1), false)) (.mov (.var 3)),
  .n (some ((.loc 2), false)) (.idxAddr 1 (.loc 1) (.loc 0)),
  .n (some ((.loc 3), false)) (.load 1 false (.loc 0)),
  .n (some ((.loc 4), false)) (.mov (.var 1)),
  .n (some ((.loc 5), false)) (.bin .geq (.int .i64) (.loc 1) (.loc 0)),
  .n none (.pick (.loc 6) (.k (.d (.bool true))) (.loc 0))], [(5, 0)]⟩
@[reducible] def c17r4 : Reg := ⟨[.n none (.mov (.k (.d (.bool false))))], [(2, 0)]⟩
@[reducible] def c17r5 : Reg := ⟨[.n none (.mov (.var 3)),
  .n none (.bin .add (.int .i64) (.loc 0) (.k (.d (.int .i64 1)))),
  .n none (.mov (.loc 0))], [(3, 0)]⟩
@[reducible] def c17r6 : Reg := ⟨[.n none (.mov (.k (.d (.bool true))))], [(2, 0)]⟩
def c17 : C := (.seq (.reg c17r0) (.seq (.seq (.reg c17r1) (.block 0 (.loop (.seq (.seq (.reg c17r2) (.cond (.var 4) .skip (.exit 0))) (.seq (.block 1 (.seq (.reg c17r3) (.cond (.var 5) (.seq (.reg c17r4) .ret) .skip))) (.reg c17r5)))))) (.seq (.reg c17r6) .ret)))
def r17 : List RV := [(.tmp 2)]
/- emendate/lattice.Distance params 2 free 0 -/
def v18 : List Tmp := [0, 1, 2, 4, 5, 7, 8, 10, 11, 12, 13, 20, 21, 22, 23, 31, 32, 33, 34, 40, 62, 63, 64, 65]
@[reducible] def c18r0 : Reg := ⟨[.n none (.box 3 (.var 0)),
  .n none (.mov (.k (.d (.int .i64 0))))], [(2, 1), (3, 0)]⟩
@[reducible] def c18r1 : Reg := ⟨[.n none (.lit 1 (.d (.int .i64 0)) 1 [(0, (.k (.d (.int .i64 1099511627776))))] false),
  .n none (.fieldAddr 0 (.var 2)),
  .n none (.load 1 false (.loc 0)),
  .e none (.call 29 [(.loc 2), (.loc 0)]) [] [] false,
  .n none (.mov (.loc 0))], [(4, 0)]⟩
@[reducible] def c18r2 : Reg := ⟨[.n none (.mov (.var 4)),
  .n none (.idxAddr 1 (.loc 0) (.k (.d (.int .i64 0)))),
  .e none (.store 1 false (.loc 0) (.k (.d (.int .i64 0)))) [] [] false], []⟩
@[reducible] def c18r3 : Reg := ⟨[.n none (.mov (.var 1)),
  .n none (.len 0 (.loc 0)),
  .n none (.mov (.k (.d (.int .i64 0))))], [(11, 2), (12, 1), (13, 0)]⟩
@[reducible] def c18r4 : Reg := ⟨[.n none (.bin .lss (.int .i64) (.var 13) (.var 12))], [(14, 0)]⟩
@[reducible] def c18r5 : Reg := ⟨[.n none (.idxAddr 1 (.var 11) (.var 13)),
  .n none (.load 1 false (.loc 0)),
  .n none (.mov (.loc 0))], [(5, 0)]⟩
@[reducible] def c18r6 : Reg := ⟨[.n none (.lit 1 (.d (.int .i64 0)) 1 [(0, (.k (.d (.int .i64 1099511627776))))] false),
  .n none (.fieldAddr 0 (.var 2)),
  .n none (.load 1 false (.loc 0)),
  .e none (.call 29 [(.loc 2), (.loc 0)]) [] [] false,
  .n none (.mov (.loc 0))], [(6, 0)]⟩
@[reducible] def c18r7 : Reg := ⟨[.n none (.fieldAddr 1 (.var 2)),
  .n none (.load 1 false (.loc 0)),
  .n none (.len 0 (.loc 0)),
  .n none (.mov (.k (.d (.int .i64 0))))], [(15, 2), (16, 1), (17, 0)]⟩
@[reducible] def c18r8 : Reg := ⟨[.n none (.bin .lss (.int .i64) (.var 17) (.var 16))], [(18, 0)]⟩
@[reducible] def c18r9 : Reg := ⟨[.n none (.idxAddr 5 (.var 15) (.var 17)),
  .n none (.load 5 true (.loc 0)),
  .n none (.alloc 5 (.agg [(.d (.int .i64 0)), (.d (.int .i64 0)), (.d (.int .i64 0)), (.d (.int .i64 0)), .nils])),
  .e none (.store 5 true (.loc 0) (.loc 1)) [] [] false], [(7, 1)]⟩
@[reducible] def c18r10 : Reg := ⟨[.n none (.fieldAddr 2 (.var 7)),
  .n none (.load 1 false (.loc 0)),
  .n none (.mov (.var 5)),
  .n none (.bin .eql (.int .i64) (.loc 1) (.loc 0))], [(19, 0)]⟩
@[reducible] def c18r11 : Reg := ⟨[.n none (.mov (.var 6)),
  .n none (.fieldAddr 1 (.var 7)),
  .n none (.load 1 false (.loc 0)),
  .n none (.mov (.var 6)),
  .n none (.fieldAddr 1 (.var 7)),
  .n none (.load 1 false (.loc 0)),
  .n none (.idxAddr 1 (.loc 2) (.loc 0)),
  .n none (.load 1 false (.loc 0)),
  .n none (.mov (.var 4)),
  .n none (.fieldAddr 0 (.var 7)),
  .n none (.load 1 false (.loc 0)),
  .n none (.idxAddr 1 (.loc 2) (.loc 0)),
  .n none (.load 1 false (.loc 0)),
  .n none (.fieldAddr 3 (.var 7)),
  .n none (.load 1 false (.loc 0)),
  .n none (.bin .add (.int .i64) (.loc 2) (.loc 0)),
  .n none (.minmax true [(.loc 8), (.loc 0)]),
  .n none (.idxAddr 1 (.loc 16) (.loc 14)),
  .e none (.store 1 false (.loc 0) (.loc 1)) [] [] false], []⟩
@[reducible] def c18r12 : Reg := ⟨[.n none (.bin .add (.int .i64) (.var 17) (.k (.d (.int .i64 1)))),
  .n none (.mov (.loc 0))], [(17, 0)]⟩
@[reducible] def c18r13 : Reg := ⟨[.n none (.mov (.var 6)),
  .n none (.mov (.loc 0))], [(4, 0)]⟩
@[reducible] def c18r14 : Reg := ⟨[.n none (.bin .add (.int .i64) (.var 13) (.k (.d (.int .i64 1)))),
  .n none (.mov (.loc 0))], [(13, 0)]⟩
@[reducible] def c18r15 : Reg := ⟨[.n none (.mov (.k (.d (.int .i64 1099511627776))))], [(8, 0)]⟩
@[reducible] def c18r16 : Reg := ⟨[.n none (.mov (.var 4)),
  .n none (.len 0 (.loc 0)),
  .n none (.mov (.k (.d (.int .i64 0))))], [(20, 2), (21, 1), (22, 0)]⟩
@[reducible] def c18r17 : Reg := ⟨[.n none (.bin .lss (.int .i64) (.var 22) (.var 21))], [(23, 0)]⟩
@[reducible] def c18r18 : Reg := ⟨[.n none (.mov (.var 22)),
  .n none (.idxAddr 1 (.var 20) (.var 22)),
  .n none (.load 1 false (.loc 0)),
  .n none (.mov (.loc 2)),
  .n none (.mov (.loc 1))], [(9, 1), (10, 0)]⟩
@[reducible] def c18r19 : Reg := ⟨[.n none (.mov (.var 8)),
  .n none (.mov (.var 10)),
  .n none (.fieldAddr 2 (.var 2)),
  .n none (.load 1 false (.loc 0)),
  .n none (.mov (.var 9)),
  .n none (.idxAddr 1 (.loc 1) (.loc 0)),
  .n none (.load 1 false (.loc 0)),
  .n none (.bin .add (.int .i64) (.loc 5) (.loc 0)),
  .n none (.minmax true [(.loc 7), (.loc 0)]),
  .n none (.mov (.loc 0))], [(8, 0)]⟩
@[reducible] def c18r20 : Reg := ⟨[.n none (.bin .add (.int .i64) (.var 22) (.k (.d (.int .i64 1)))),
  .n none (.mov (.loc 0))], [(22, 0)]⟩
@[reducible] def c18r21 : Reg := ⟨[.n none (.mov (.var 8)),
  .n none (.mov (.loc 0))], [(3, 0)]⟩
def c18 : C := (.seq (.reg c18r0) (.seq (.reg c18r1) (.seq (.reg c18r2) (.seq (.seq (.reg c18r3) (.block 0 (.loop (.seq (.reg c18r4) (.seq (.cond (.var 14) .skip (.exit 0)) (.seq (.block 1 (.seq (.reg c18r5) (.seq (.reg c18r6) (.seq (.seq (.reg c18r7) (.block 2 (.loop (.seq (.reg c18r8) (.seq (.cond (.var 18) .skip (.exit 2)) (.seq (.block 3 (.seq (.reg c18r9) (.seq (.reg c18r10) (.cond (.var 19) (.reg c18r11) .skip)))) (.reg c18r12))))))) (.reg c18r13))))) (.reg c18r14))))))) (.seq (.reg c18r15) (.seq (.seq (.reg c18r16) (.block 4 (.loop (.seq (.reg c18r17) (.seq (.cond (.var 23) .skip (.exit 4)) (.seq (.block 5 (.seq (.reg c18r18) (.reg c18r19))) (.reg c18r20))))))) (.seq (.reg c18r21) .ret)))))))
def r18 : List RV := [(.tmp 3)]
/- emendate/lattice.Script params 3 free 0 -/
def v20 : List Tmp := [0, 1, 2, 3, 4, 6, 7, 8, 9, 11, 12, 13, 14, 15, 36, 57, 63, 64, 65]
@[reducible] def c20r0 : Reg := ⟨[.n none (.box 3 (.var 0)),
  .n none (.box 3 (.var 1)),
  .n none (.mov (.k .nils)),
  .n none (.mov (.k (.d (.int .i64 0))))], [(3, 3), (4, 2), (5, 1), (6, 0)]⟩
@[reducible] def c20r1 : Reg := ⟨[.n none (.mov (.k (.d (.int .i64 0))))], [(7, 0)]⟩
@[reducible] def c20r2 : Reg := ⟨[.n none (.mov (.k .nils))], [(8, 0)]⟩
@[reducible] def c20r3 : Reg := ⟨[.n none (.mov (.var 2)),
  .n none (.len 0 (.loc 0)),
  .n none (.mov (.k (.d (.int .i64 0))))], [(10, 2), (11, 1), (12, 0)]⟩
@[reducible] def c20r4 : Reg := ⟨[.n none (.bin .lss (.int .i64) (.var 12) (.var 11))], [(13, 0)]⟩
@[reducible] def c20r5 : Reg := ⟨[.n none (.idxAddr 1 (.var 10) (.var 12)),
  .n none (.load 1 false (.loc 0)),
  .n none (.mov (.loc 0))], [(9, 0)]⟩
@[reducible] def c20r6 : Reg := ⟨[.n none (.mov (.var 9)),
  .n none (.bin .lss (.int .i64) (.loc 0) (.k (.d (.int .i64 0)))),
  .n none (.mov (.loc 0)),
  .n (some ((.loc 0), false)) (.mov (.var 9)),
  .n (some ((.loc 1), false)) (.fieldAddr 1 (.var 4)),
  .n (some ((.loc 2), false)) (.load 1 false (.loc 0)),
  .n (some ((.loc 3), false)) (.len 0 (.loc 0)),
  .n (some ((.loc 4), false)) (.bin .geq (.int .i64) (.loc 3) (.loc 0)),
  .n none (.pick (.loc 5) (.k (.d (.bool true))) (.loc 0)),
  .n none (.mov (.loc 0)),
  .n (some ((.loc 0), false)) (.fieldAddr 1 (.var 4)),
  .n (some ((.loc 1), false)) (.load 1 false (.loc 0)),
  .n (some ((.loc 2), false)) (.mov (.var 9)),
  .n (some ((.loc 3), false)) (.idxAddr 5 (.loc 1) (.loc 0)),
  .n (some ((.loc 4), false)) (.fieldAddr 0 (.loc 0)),
  .n (some ((.loc 5), false)) (.load 1 false (.loc 0)),
  .n (some ((.loc 6), false)) (.mov (.var 7)),
  .n (some ((.loc 7), false)) (.bin .neq (.int .i64) (.loc 1) (.loc 0)),
  .n none (.pick (.loc 8) (.k (.d (.bool true))) (.loc 0))], [(14, 0)]⟩
@[reducible] def c20r7 : Reg := ⟨[.n none (.mov (.k .nils)),
  .n none (.mov (.k (.d (.int .i64 1))))], [(5, 1), (6, 0)]⟩
@[reducible] def c20r8 : Reg := ⟨[.n none (.fieldAddr 1 (.var 4)),
  .n none (.load 1 false (.loc 0)),
  .n none (.mov (.var 9)),
  .n none (.idxAddr 5 (.loc 1) (.loc 0)),
  .n none (.fieldAddr 1 (.loc 0)),
  .n none (.load 1 false (.loc 0)),
  .n none (.mov (.loc 0))], [(7, 0)]⟩
@[reducible] def c20r9 : Reg := ⟨[.n none (.mov (.var 8)),
  .n none (.fieldAddr 1 (.var 4)),
  .n none (.load 1 false (.loc 0)),
  .n none (.mov (.var 9)),
  .n none (.idxAddr 5 (.loc 1) (.loc 0)),
  .n none (.fieldAddr 4 (.loc 0)),
  .n none (.load 1 false (.loc 0)),
  .e none (.append 2 16 (.loc 6) (.loc 0)) [] [] false,
  .n none (.mov (.loc 0))], [(8, 0)]⟩
@[reducible] def c20r10 : Reg := ⟨[.n none (.bin .add (.int .i64) (.var 12) (.k (.d (.int .i64 1)))),
  .n none (.mov (.loc 0))], [(12, 0)]⟩
@[reducible] def c20r11 : Reg := ⟨[.n none (.fieldAddr 2 (.var 4)),
  .n none (.load 1 false (.loc 0)),
  .n none (.mov (.var 7)),
  .n none (.idxAddr 1 (.loc 1) (.loc 0)),
  .n none (.load 1 false (.loc 0)),
  .n none (.bin .geq (.int .i64) (.loc 0) (.k (.d (.int .i64 1099511627776))))], [(15, 0)]⟩
@[reducible] def c20r12 : Reg := ⟨[.n none (.mov (.k .nils)),
  .n none (.mov (.k (.d (.int .i64 1))))], [(5, 1), (6, 0)]⟩
@[reducible] def c20r13 : Reg := ⟨[.n none (.fieldAddr 0 (.var 3)),
  .n none (.load 1 false (.loc 0)),
  .n none (.len 0 (.loc 0)),
  .n none (.mov (.var 7)),
  .n none (.bin .quo (.int .i64) (.loc 0) (.k (.d (.int .i64 2)))),
  .n none (.bin .sub (.int .i64) (.loc 2) (.loc 0)),
  .n none (.mov (.k (.d (.int .i64 0))))], [(16, 1), (17, 0)]⟩
@[reducible] def c20r14 : Reg := ⟨[.n none (.bin .lss (.int .i64) (.var 17) (.var 16))], [(18, 0)]⟩
@[reducible] def c20r15 : Reg := ⟨[.n none (.mov (.var 8)),
  .n none (.build [(.d (.int .i64 0)), (.d (.int .i64 0))] [(0, 1, (.k (.d (.int .i64 2))))]),
  .n none (.lit 2 (.d (.agg [(.int .i64 0), (.int .i64 0)])) 1 [(0, (.loc 0))] false),
  .e none (.append 2 16 (.loc 2) (.loc 0)) [] [] false,
  .n none (.mov (.loc 0))], [(8, 0)]⟩
@[reducible] def c20r16 : Reg := ⟨[.n none (.bin .add (.int .i64) (.var 17) (.k (.d (.int .i64 1)))),
  .n none (.mov (.loc 0))], [(17, 0)]⟩
@[reducible] def c20r17 : Reg := ⟨[.n none (.mov (.var 8)),
  .n none (.mov (.loc 0)),
  .n none (.mov (.k (.d (.int .i64 0))))], [(5, 1), (6, 0)]⟩
def c20 : C := (.seq (.reg c20r0) (.seq (.reg c20r1) (.seq (.reg c20r2) (.seq (.seq (.reg c20r3) (.block 0 (.loop (.seq (.reg c20r4) (.seq (.cond (.var 13) .skip (.exit 0)) (.seq (.block 1 (.seq (.reg c20r5) (.seq (.seq (.reg c20r6) (.cond (.var 14) (.seq (.reg c20r7) .ret) .skip)) (.seq (.reg c20r8) (.reg c20r9))))) (.reg c20r10))))))) (.seq (.seq (.reg c20r11) (.cond (.var 15) (.seq (.reg c20r12) .ret) .skip)) (.seq (.seq (.reg c20r13) (.block 2 (.loop (.seq (.reg c20r14) (.seq (.cond (.var 18) .skip (.exit 2)) (.seq (.block 3 (.reg c20r15)) (.reg c20r16))))))) (.seq (.reg c20r17) .ret)))))))
def r20 : List RV := [(.tmp 5), (.tmp 6)]
/- emendate/emendateref37.SameOps params 2 free 0 -/
def v22 : List Tmp := [0, 1, 4, 5, 10, 14, 25]
@[reducible] def c22r0 : Reg := ⟨[.n none (.mov (.k (.d (.bool false))))], [(2, 0)]⟩
@[reducible] def c22r1 : Reg := ⟨[.n none (.mov (.var 0)),
  .n none (.len 0 (.loc 0)),
  .n none (.mov (.var 1)),
  .n none (.len 0 (.loc 0)),
  .n none (.bin .neq (.int .i64) (.loc 2) (.loc 0))], [(4, 0)]⟩
@[reducible] def c22r2 : Reg := ⟨[.n none (.mov (.k (.d (.bool false))))], [(2, 0)]⟩
@[reducible] def c22r3 : Reg := ⟨[.n none (.mov (.k (.d (.int .i64 0))))], [(3, 0)]⟩
@[reducible] def c22r4 : Reg := ⟨[.n none (.mov (.var 3)),
  .n none (.mov (.var 0)),
  .n none (.len 0 (.loc 0)),
  .n none (.bin .lss (.int .i64) (.loc 2) (.loc 0))], [(5, 0)]⟩
@[reducible] def c22r5 : Reg := ⟨[.n none (.mov (.var 0)),
  .n none (.mov (.var 3)),
  .n none (.idxAddr 2 (.loc 1) (.loc 0)),
  .n none (.load 2 true (.loc 0)),
  .n none (.mov (.var 1)),
  .n none (.mov (.var 3)),
  .n none (.idxAddr 2 (.loc 1) (.loc 0)),
  .n none (.load 2 true (.loc 0)),
  .n none (.eqs true (.many [(.int .i64), (.int .i64)]) (.loc 4) (.loc 0))], [(6, 0)]⟩
@[reducible] def c22r6 : Reg := ⟨[.n none (.mov (.k (.d (.bool false))))], [(2, 0)]⟩
@[reducible] def c22r7 : Reg := ⟨[.n none (.mov (.var 3)),
  .n none (.bin .add (.int .i64) (.loc 0) (.k (.d (.int .i64 1)))),
  .n none (.mov (.loc 0))], [(3, 0)]⟩
@[reducible] def c22r8 : Reg := ⟨[.n none (.mov (.k (.d (.bool true))))], [(2, 0)]⟩
def c22 : C := (.seq (.reg c22r0) (.seq (.seq (.reg c22r1) (.cond (.var 4) (.seq (.reg c22r2) .ret) .skip)) (.seq (.seq (.reg c22r3) (.block 0 (.loop (.seq (.seq (.reg c22r4) (.cond (.var 5) .skip (.exit 0))) (.seq (.block 1 (.seq (.reg c22r5) (.cond (.var 6) (.seq (.reg c22r6) .ret) .skip))) (.reg c22r7)))))) (.seq (.reg c22r8) .ret))))
def r22 : List RV := [(.tmp 2)]
/- emendate/emendateref37.SameArc params 2 free 0 -/
def v23 : List Tmp := [0, 1, 2, 3, 4]
@[reducible] def c23r0 : Reg := ⟨[.n none (.box 5 (.var 0)),
  .n none (.box 5 (.var 1)),
  .n none (.mov (.k (.d (.bool false))))], [(2, 2), (3, 1), (4, 0)]⟩
@[reducible] def c23r1 : Reg := ⟨[.n none (.fieldAddr 0 (.var 2)),
  .n none (.load 1 false (.loc 0)),
  .n none (.fieldAddr 0 (.var 3)),
  .n none (.load 1 false (.loc 0)),
  .n none (.bin .eql (.int .i64) (.loc 2) (.loc 0)),
  .n none (.mov (.loc 0)),
  .n (some ((.loc 0), true)) (.fieldAddr 1 (.var 2)),
  .n (some ((.loc 1), true)) (.load 1 false (.loc 0)),
  .n (some ((.loc 2), true)) (.fieldAddr 1 (.var 3)),
  .n (some ((.loc 3), true)) (.load 1 false (.loc 0)),
  .n (some ((.loc 4), true)) (.bin .eql (.int .i64) (.loc 2) (.loc 0)),
  .n none (.pick (.loc 5) (.loc 0) (.k (.d (.bool false)))),
  .n none (.mov (.loc 0)),
  .n (some ((.loc 0), true)) (.fieldAddr 2 (.var 2)),
  .n (some ((.loc 1), true)) (.load 1 false (.loc 0)),
  .n (some ((.loc 2), true)) (.fieldAddr 2 (.var 3)),
  .n (some ((.loc 3), true)) (.load 1 false (.loc 0)),
  .n (some ((.loc 4), true)) (.bin .eql (.int .i64) (.loc 2) (.loc 0)),
  .n none (.pick (.loc 5) (.loc 0) (.k (.d (.bool false)))),
  .n none (.mov (.loc 0)),
  .n (some ((.loc 0), true)) (.fieldAddr 3 (.var 2)),
  .n (some ((.loc 1), true)) (.load 1 false (.loc 0)),
  .n (some ((.loc 2), true)) (.fieldAddr 3 (.var 3)),
  .n (some ((.loc 3), true)) (.load 1 false (.loc 0)),
  .n (some ((.loc 4), true)) (.bin .eql (.int .i64) (.loc 2) (.loc 0)),
  .n none (.pick (.loc 5) (.loc 0) (.k (.d (.bool false)))),
  .n none (.mov (.loc 0)),
  .n (some ((.loc 0), true)) (.fieldAddr 4 (.var 2)),
  .n (some ((.loc 1), true)) (.load 1 false (.loc 0)),
  .n (some ((.loc 2), true)) (.fieldAddr 4 (.var 3)),
  .n (some ((.loc 3), true)) (.load 1 false (.loc 0)),
  .e (some ((.loc 4), true)) (.call 22 [(.loc 2), (.loc 0)]) [] [] false,
  .n none (.pick (.loc 5) (.loc 0) (.k (.d (.bool false)))),
  .n none (.mov (.loc 0))], [(4, 0)]⟩
def c23 : C := (.seq (.reg c23r0) (.seq (.reg c23r1) .ret))
def r23 : List RV := [(.tmp 4)]
/- emendate/emendateref37.Ints params 2 free 0 -/
def v26 : List Tmp := [0, 1, 4, 5, 10, 14, 25]
@[reducible] def c26r0 : Reg := ⟨[.n none (.mov (.k (.d (.bool false))))], [(2, 0)]⟩
@[reducible] def c26r1 : Reg := ⟨[.n none (.mov (.var 0)),
  .n none (.len 0 (.loc 0)),
  .n none (.mov (.var 1)),
  .n none (.len 0 (.loc 0)),
  .n none (.bin .neq (.int .i64) (.loc 2) (.loc 0))], [(4, 0)]⟩
@[reducible] def c26r2 : Reg := ⟨[.n none (.mov (.k (.d (.bool false))))], [(2, 0)]⟩
@[reducible] def c26r3 : Reg := ⟨[.n none (.mov (.k (.d (.int .i64 0))))], [(3, 0)]⟩
@[reducible] def c26r4 : Reg := ⟨[.n none (.mov (.var 3)),
  .n none (.mov (.var 0)),
  .n none (.len 0 (.loc 0)),
  .n none (.bin .lss (.int .i64) (.loc 2) (.loc 0))], [(5, 0)]⟩
@[reducible] def c26r5 : Reg := ⟨[.n none (.mov (.var 0)),
  .n none (.mov (.var 3)),
  .n none (.idxAddr 1 (.loc 1) (.loc 0)),
  .n none (.load 1 false (.loc 0)),
  .n none (.mov (.var 1)),
  .n none (.mov (.var 3)),
  .n none (.idxAddr 1 (.loc 1) (.loc 0)),
  .n none (.load 1 false (.loc 0)),
  .n none (.bin .neq (.int .i64) (.loc 4) (.loc 0))], [(6, 0)]⟩
@[reducible] def c26r6 : Reg := ⟨[.n none (.mov (.k (.d (.bool false))))], [(2, 0)]⟩
@[reducible] def c26r7 : Reg := ⟨[.n none (.mov (.var 3)),
  .n none (.bin .add (.int .i64) (.loc 0) (.k (.d (.int .i64 1)))),
  .n none (.mov (.loc 0))], [(3, 0)]⟩
@[reducible] def c26r8 : Reg := ⟨[.n none (.mov (.k (.d (.bool true))))], [(2, 0)]⟩
def c26 : C := (.seq (.reg c26r0) (.seq (.seq (.reg c26r1) (.cond (.var 4) (.seq (.reg c26r2) .ret) .skip)) (.seq (.seq (.reg c26r3) (.block 0 (.loop (.seq (.seq (.reg c26r4) (.cond (.var 5) .skip (.exit 0))) (.seq (.block 1 (.seq (.reg c26r5) (.cond (.var 6) (.seq (.reg c26r6) .ret) .skip))) (.reg c26r7)))))) (.seq (.reg c26r8) .ret))))
def r26 : List RV := [(.tmp 2)]
/- emendate/emendateref37.Small params 3 free 0 -/
def v27 : List Tmp := [0, 1, 2, 3, 6]
@[reducible] def c27r0 : Reg := ⟨[.n none (.box 3 (.var 0)),
  .n none (.mov (.k (.d (.bool false))))], [(3, 1), (4, 0)]⟩
@[reducible] def c27r1 : Reg := ⟨[.n none (.fieldAddr 0 (.var 3)),
  .n none (.load 1 false (.loc 0)),
  .n none (.len 0 (.loc 0)),
  .n none (.mov (.var 1)),
  .n none (.bin .leq (.int .i64) (.loc 1) (.loc 0)),
  .n none (.mov (.loc 0)),
  .n (some ((.loc 0), true)) (.fieldAddr 1 (.var 3)),
  .n (some ((.loc 1), true)) (.load 1 false (.loc 0)),
  .n (some ((.loc 2), true)) (.len 0 (.loc 0)),
  .n (some ((.loc 3), true)) (.mov (.var 2)),
  .n (some ((.loc 4), true)) (.bin .leq (.int .i64) (.loc 1) (.loc 0)),
  .n none (.pick (.loc 5) (.loc 0) (.k (.d (.bool false)))),
  .n none (.mov (.loc 0))], [(4, 0)]⟩
def c27 : C := (.seq (.reg c27r0) (.seq (.reg c27r1) .ret))
def r27 : List RV := [(.tmp 4)]
/- emendate/emendateref35.Valid params 2 free 0 -/
def v28 : List Tmp := [0, 1, 2, 4, 5, 37, 40, 56]
@[reducible] def c28r0 : Reg := ⟨[.n none (.box 3 (.var 0)),
  .n none (.mov (.k (.d (.bool false))))], [(2, 1), (3, 0)]⟩
@[reducible] def c28r1 : Reg := ⟨[.n none (.mov (.var 1)),
  .n none (.bin .lss (.int .i64) (.loc 0) (.k (.d (.int .i64 0)))),
  .n none (.mov (.loc 0)),
  .n (some ((.loc 0), false)) (.fieldAddr 0 (.var 2)),
  .n (some ((.loc 1), false)) (.load 1 false (.loc 0)),
  .n (some ((.loc 2), false)) (.len 0 (.loc 0)),
  .n (some ((.loc 3), false)) (.bin .gtr (.int .i64) (.loc 0) (.k (.d (.int .i64 60)))),
  .n none (.pick (.loc 4) (.k (.d (.bool true))) (.loc 0)),
  .n none (.mov (.loc 0)),
  .n (some ((.loc 0), false)) (.fieldAddr 1 (.var 2)),
  .n (some ((.loc 1), false)) (.load 1 false (.loc 0)),
  .n (some ((.loc 2), false)) (.len 0 (.loc 0)),
  .n (some ((.loc 3), false)) (.mov (.var 1)),
  .n (some ((.loc 4), false)) (.bin .neq (.int .i64) (.loc 1) (.loc 0)),
  .n none (.pick (.loc 5) (.k (.d (.bool true))) (.loc 0)),
  .n none (.mov (.loc 0)),
  .n (some ((.loc 0), false)) (.fieldAddr 2 (.var 2)),
  .n (some ((.loc 1), false)) (.load 1 false (.loc 0)),
  .n (some ((.loc 2), false)) (.bin .lss (.int .i64) (.loc 0) (.k (.d (.int .i64 0)))),
  .n none (.pick (.loc 3) (.k (.d (.bool true))) (.loc 0)),
  .n none (.mov (.loc 0)),
  .n (some ((.loc 0), false)) (.fieldAddr 2 (.var 2)),
  .n (some ((.loc 1), false)) (.load 1 false (.loc 0)),
  .n (some ((.loc 2), false)) (.bin .gtr (.int .i64) (.loc 0) (.k (.d (.int .i64 60000)))),
  .n none (.pick (.loc 3) (.k (.d (.bool true))) (.loc 0)),
  .n none (.mov (.loc 0)),
  .n (some ((.loc 0), false)) (.fieldAddr 0 (.var 2)),
  .n (some ((.loc 1), false)) (.load 1 false (.loc 0)),
  .n (some ((.loc 2), false)) (.mov (.var 1)),
  .e (some ((.loc 3), false)) (.call 45 [(.loc 1), (.loc 0)]) [] [] false,
  .n (some ((.loc 4), false)) (.not (.loc 0)),
  .n none (.pick (.loc 5) (.k (.d (.bool true))) (.loc 0))], [(5, 0)]⟩
@[reducible] def c28r2 : Reg := ⟨[.n none (.mov (.k (.d (.bool false))))], [(3, 0)]⟩
@[reducible] def c28r3 : Reg := ⟨[.n none (.mov (.k (.d (.int .i64 0))))], [(4, 0)]⟩
@[reducible] def c28r4 : Reg := ⟨[.n none (.mov (.var 4)),
  .n none (.mov (.var 1)),
  .n none (.bin .lss (.int .i64) (.loc 1) (.loc 0))], [(6, 0)]⟩
@[reducible] def c28r5 : Reg := ⟨[.n none (.fieldAddr 1 (.var 2)),
  .n none (.load 1 false (.loc 0)),
  .n none (.mov (.var 4)),
  .n none (.idxAddr 1 (.loc 1) (.loc 0)),
  .n none (.load 1 false (.loc 0)),
  .n none (.bin .lss (.int .i64) (.loc 0) (.k (.d (.int .i64 1)))),
  .n none (.mov (.loc 0)),
  .n (some ((.loc 0), false)) (.fieldAddr 1 (.var 2)),
  .n (some ((.loc 1), false)) (.load 1 false (.loc 0)),
  .n (some ((.loc 2), false)) (.mov (.var 4)),
  .n (some ((.loc 3), false)) (.idxAddr 1 (.loc 1) (.loc 0)),
  .n (some ((.loc 4), false)) (.load 1 false (.loc 0)),
  .n (some ((.loc 5), false)) (.bin .gtr (.int .i64) (.loc 0) (.k (.d (.int .i64 60000)))),
  .n none (.pick (.loc 6) (.k (.d (.bool true))) (.loc 0))], [(7, 0)]⟩
@[reducible] def c28r6 : Reg := ⟨[.n none (.mov (.k (.d (.bool false))))], [(3, 0)]⟩
@[reducible] def c28r7 : Reg := ⟨[.n none (.mov (.var 4)),
  .n none (.bin .add (.int .i64) (.loc 0) (.k (.d (.int .i64 1)))),
  .n none (.mov (.loc 0))], [(4, 0)]⟩
@[reducible] def c28r8 : Reg := ⟨[.n none (.mov (.k (.d (.bool true))))], [(3, 0)]⟩
def c28 : C := (.seq (.reg c28r0) (.seq (.seq (.reg c28r1) (.cond (.var 5) (.seq (.reg c28r2) .ret) .skip)) (.seq (.seq (.reg c28r3) (.block 0 (.loop (.seq (.seq (.reg c28r4) (.cond (.var 6) .skip (.exit 0))) (.seq (.block 1 (.seq (.reg c28r5) (.cond (.var 7) (.seq (.reg c28r6) .ret) .skip))) (.reg c28r7)))))) (.seq (.reg c28r8) .ret))))
def r28 : List RV := [(.tmp 3)]
/- slices.Repeat[[]int,int] params 2 free 0 -/
def v29 : List Tmp := [0, 1, 4, 5, 6, 7, 8, 10, 26, 37]
@[reducible] def c29r0 : Reg := ⟨[.n none (.mov (.k .nils))], [(2, 0)]⟩
@[reducible] def c29r1 : Reg := ⟨[.n none (.mov (.var 1)),
  .n none (.bin .lss (.int .i64) (.loc 0) (.k (.d (.int .i64 0))))], [(7, 0)]⟩
@[reducible] def c29r2 : Reg := ⟨[.n none (.mkIface 9 (.k (.d (.str [99, 97, 110, 110, 111, 116, 32, 98, 101, 32, 110, 101, 103, 97, 116, 105, 118, 101])))),
  .e none .panic [] [] false], []⟩
@[reducible] def c29r3 : Reg := ⟨[.n none (.mov (.var 0)),
  .n none (.len 0 (.loc 0)),
  .n none (.conv .u64 (.loc 0)),
  .n none (.mov (.var 1)),
  .n none (.conv .u64 (.loc 0)),
  .e none (.call 46 [(.loc 2), (.loc 0)]) [] [] false,
  .n none (.mov (.loc 0)),
  .n none (.extract 0 (.loc 0)),
  .n none (.extract 1 (.loc 1)),
  .n none (.mov (.loc 1)),
  .n none (.mov (.loc 1))], [(3, 1), (4, 0)]⟩
@[reducible] def c29r4 : Reg := ⟨[.n none (.mov (.var 3)),
  .n none (.bin .gtr (.int .u64) (.loc 0) (.k (.d (.int .u64 0)))),
  .n none (.mov (.loc 0)),
  .n (some ((.loc 0), false)) (.mov (.var 4)),
  .n (some ((.loc 1), false)) (.bin .gtr (.int .u64) (.loc 0) (.k (.d (.int .u64 9223372036854775807)))),
  .n none (.pick (.loc 2) (.k (.d (.bool true))) (.loc 0))], [(8, 0)]⟩
@[reducible] def c29r5 : Reg := ⟨[.n none (.mkIface 9 (.k (.d (.str [116, 104, 101, 32, 114, 101, 115, 117, 108, 116, 32, 111, 102, 32, 40, 108, 101, 110, 40, 120, 41, 32, 42, 32, 99, 111, 117, 110, 116, 41, 32, 111, 118, 101, 114, 102, 108, 111, 119, 115])))),
  .e none .panic [] [] false], []⟩
@[reducible] def c29r6 : Reg := ⟨[.n none (.mov (.var 4)),
  .n none (.conv .i64 (.loc 0)),
  .n none (.mkSlice 1 8 (.d (.int .i64 0)) (.loc 0) (.loc 0)),
  .n none (.mov (.loc 0))], [(5, 0)]⟩
@[reducible] def c29r7 : Reg := ⟨[.n none (.mov (.var 5)),
  .n none (.mov (.var 0)),
  .e none (.copy 1 (.loc 1) (.loc 0)) [] [] false,
  .n none (.mov (.loc 0))], [(6, 0)]⟩
@[reducible] def c29r8 : Reg := ⟨[.n none (.mov (.var 6)),
  .n none (.mov (.var 5)),
  .n none (.len 0 (.loc 0)),
  .n none (.bin .lss (.int .i64) (.loc 2) (.loc 0))], [(9, 0)]⟩
@[reducible] def c29r9 : Reg := ⟨[.n none (.mov (.var 6)),
  .n none (.mov (.var 5)),
  .n none (.mov (.var 6)),
  .n none (.slice 1 (some (.loc 0)) none (.loc 1)),
  .n none (.mov (.var 5)),
  .n none (.mov (.var 6)),
  .n none (.slice 1 none (some (.loc 0)) (.loc 1)),
  .e none (.copy 1 (.loc 3) (.loc 0)) [] [] false,
  .n none (.bin .add (.int .i64) (.loc 7) (.loc 0)),
  .n none (.mov (.loc 0))], [(6, 0)]⟩
@[reducible] def c29r10 : Reg := ⟨[.n none (.mov (.var 5)),
  .n none (.mov (.loc 0))], [(2, 0)]⟩
def c29 : C := (.seq (.reg c29r0) (.seq (.seq (.reg c29r1) (.cond (.var 7) (.reg c29r2) .skip)) (.seq (.reg c29r3) (.seq (.seq (.reg c29r4) (.cond (.var 8) (.reg c29r5) .skip)) (.seq (.reg c29r6) (.seq (.reg c29r7) (.seq (.block 0 (.loop (.seq (.seq (.reg c29r8) (.cond (.var 9) .skip (.exit 0))) (.block 1 (.reg c29r9))))) (.seq (.reg c29r10) .ret))))))))
def r29 : List RV := [(.tmp 2)]
/- (*emendate/lattice.builder).from params 2 free 0 -/
def v30 : List Tmp := [0, 1, 4, 5, 6, 7, 8, 9, 10, 11, 21, 33, 53, 54, 55, 56, 80, 113]
@[reducible] def c30r0 : Reg := ⟨[.n none (.mov (.var 0)),
  .n none (.nilCheck (.loc 0)),
  .n none (.fieldAddr 0 (.loc 0)),
  .n none (.fieldAddr 0 (.loc 0)),
  .n none (.load 1 false (.loc 0)),
  .n none (.len 0 (.loc 0)),
  .n none (.mov (.loc 0))], [(2, 0)]⟩
@[reducible] def c30r1 : Reg := ⟨[.n none (.mov (.var 1)),
  .n none (.mov (.loc 0))], [(3, 0)]⟩
@[reducible] def c30r2 : Reg := ⟨[.n none (.mov (.var 3)),
  .n none (.mov (.var 2)),
  .n none (.bin .leq (.int .i64) (.loc 1) (.loc 0))], [(10, 0)]⟩
@[reducible] def c30r3 : Reg := ⟨[.n none (.mov (.var 0)),
  .n none (.mov (.var 1)),
  .n none (.mov (.var 3)),
  .e none (.call 31 [(.loc 2), (.loc 1), (.loc 0)]) [] [] false,
  .n none (.mov (.loc 0)),
  .n none (.extract 0 (.loc 0)),
  .n none (.extract 1 (.loc 1)),
  .n none (.mov (.loc 1)),
  .n none (.mov (.loc 1))], [(4, 1), (5, 0)]⟩
@[reducible] def c30r4 : Reg := ⟨[.n none (.mov (.var 3)),
  .n none (.mov (.var 1)),
  .n none (.bin .gtr (.int .i64) (.loc 1) (.loc 0))], [(11, 0)]⟩
@[reducible] def c30r5 : Reg := ⟨[.n none (.mov (.var 0)),
  .n none (.mov (.var 1)),
  .n none (.mov (.var 3)),
  .n none (.bin .sub (.int .i64) (.loc 0) (.k (.d (.int .i64 1)))),
  .e none (.call 31 [(.loc 3), (.loc 2), (.loc 0)]) [] [] false,
  .n none (.mov (.loc 0)),
  .n none (.extract 0 (.loc 0)),
  .n none (.extract 1 (.loc 1)),
  .n none (.mov (.loc 1)),
  .n none (.mov (.loc 1))], [(6, 1), (7, 0)]⟩
@[reducible] def c30r6 : Reg := ⟨[.n none (.mov (.var 0)),
  .n none (.mov (.var 1)),
  .n none (.mov (.var 3)),
  .n none (.bin .sub (.int .i64) (.loc 0) (.k (.d (.int .i64 1)))),
  .n none (.mov (.var 6)),
  .n none (.mov (.var 7)),
  .e none (.call 47 [(.loc 5), (.loc 4), (.loc 2), (.loc 1), (.loc 0)]) [] [] false], []⟩
@[reducible] def c30r7 : Reg := ⟨[.n none (.mov (.var 0)),
  .n none (.nilCheck (.loc 0)),
  .n none (.fieldAddr 0 (.loc 0)),
  .n none (.fieldAddr 1 (.loc 0)),
  .n none (.load 1 false (.loc 0)),
  .n none (.len 0 (.loc 0)),
  .n none (.mov (.k (.d (.int .i64 0))))], [(12, 2), (13, 1), (14, 0)]⟩
@[reducible] def c30r8 : Reg := ⟨[.n none (.bin .lss (.int .i64) (.var 14) (.var 13))], [(15, 0)]⟩
@[reducible] def c30r9 : Reg := ⟨[.n none (.mov (.var 14)),
  .n none (.idxAddr 1 (.var 12) (.var 14)),
  .n none (.load 1 false (.loc 0)),
  .n none (.mov (.loc 2)),
  .n none (.mov (.loc 1))], [(8, 1), (9, 0)]⟩
@[reducible] def c30r10 : Reg := ⟨[.n none (.mov (.var 0)),
  .n none (.mov (.var 1)),
  .n none (.bin .mul (.int .i64) (.k (.d (.int .i64 2))) (.loc 0)),
  .n none (.mov (.var 3)),
  .n none (.bin .mul (.int .i64) (.k (.d (.int .i64 2))) (.loc 0)),
  .n none (.mov (.var 8)),
  .n none (.mov (.var 4)),
  .n none (.mov (.var 9)),
  .n none (.bin .add (.int .i64) (.loc 1) (.loc 0)),
  .n none (.mov (.var 5)),
  .e none (.call 49 [(.loc 0)]) [] [] false,
  .n none (.mov (.var 8)),
  .n none (.build [(.d (.int .i64 0)), (.d (.int .i64 0))] [(0, 1, (.k (.d (.int .i64 3)))), (1, 1, (.loc 0))]),
  .n none (.lit 2 (.d (.agg [(.int .i64 0), (.int .i64 0)])) 1 [(0, (.loc 0))] false),
  .e none (.append 2 16 (.loc 3) (.loc 0)) [] [] true,
  .n none (.build [(.d (.int .i64 0)), (.d (.int .i64 0)), (.d (.int .i64 0)), (.d (.int .i64 0)), .nils] [(0, 1, (.loc 12)), (1, 1, (.loc 10)), (2, 1, (.loc 9)), (3, 1, (.loc 6)), (4, 1, (.loc 0))]),
  .e none (.call 48 [(.loc 15), (.loc 0)]) [] [] false], []⟩
@[reducible] def c30r11 : Reg := ⟨[.n none (.bin .add (.int .i64) (.var 14) (.k (.d (.int .i64 1)))),
  .n none (.mov (.loc 0))], [(14, 0)]⟩
@[reducible] def c30r12 : Reg := ⟨[.n none (.mov (.var 0)),
  .n none (.mov (.var 3)),
  .e none (.call 50 [(.loc 1), (.loc 0)]) [] [] false], [(16, 0)]⟩
@[reducible] def c30r13 : Reg := ⟨[.n none (.mov (.var 0)),
  .n none (.mov (.var 1)),
  .n none (.bin .mul (.int .i64) (.k (.d (.int .i64 2))) (.loc 0)),
  .n none (.mov (.var 3)),
  .n none (.bin .mul (.int .i64) (.k (.d (.int .i64 2))) (.loc 0)),
  .n none (.bin .add (.int .i64) (.loc 0) (.k (.d (.int .i64 1)))),
  .n none (.mov (.var 0)),
  .n none (.nilCheck (.loc 0)),
  .n none (.fieldAddr 0 (.loc 0)),
  .n none (.fieldAddr 0 (.loc 0)),
  .n none (.load 1 false (.loc 0)),
  .n none (.mov (.var 3)),
  .n none (.bin .add (.int .i64) (.loc 0) (.k (.d (.int .i64 1)))),
  .n none (.idxAddr 3 (.loc 2) (.loc 0)),
  .n none (.fieldAddr 0 (.loc 0)),
  .n none (.load 1 false (.loc 0)),
  .n none (.mov (.var 4)),
  .n none (.mov (.var 0)),
  .n none (.nilCheck (.loc 0)),
  .n none (.fieldAddr 0 (.loc 0)),
  .n none (.fieldAddr 2 (.loc 0)),
  .n none (.load 1 false (.loc 0)),
  .n none (.bin .add (.int .i64) (.loc 5) (.loc 0)),
  .n none (.mov (.var 5)),
  .n none (.build [(.d (.int .i64 0)), (.d (.int .i64 0))] [(0, 1, (.k (.d (.int .i64 4))))]),
  .n none (.lit 2 (.d (.agg [(.int .i64 0), (.int .i64 0)])) 1 [(0, (.loc 0))] false),
  .e none (.call 49 [(.loc 2)]) [(.loc 16), (.loc 11), (.loc 5)] [(.loc 0)] false,
  .e none (.append 2 16 (.loc 0) (.loc 1)) [(.loc 17), (.loc 12), (.loc 6)] [] true,
  .n none (.build [(.d (.int .i64 0)), (.d (.int .i64 0)), (.d (.int .i64 0)), (.d (.int .i64 0)), .nils] [(0, 1, (.loc 25)), (1, 1, (.loc 22)), (2, 1, (.loc 12)), (3, 1, (.loc 5)), (4, 1, (.loc 0))]),
  .e none (.call 48 [(.loc 28), (.loc 0)]) [] [] false], []⟩
@[reducible] def c30r14 : Reg := ⟨[.n none (.mov (.var 3)),
  .n none (.bin .add (.int .i64) (.loc 0) (.k (.d (.int .i64 1)))),
  .n none (.mov (.loc 0))], [(3, 0)]⟩
@[reducible] def c30r15 : Reg := ⟨[.n none (.mov (.var 0)),
  .n none (.mov (.var 1)),
  .e none (.call 50 [(.loc 1), (.loc 0)]) [] [] false], [(17, 0)]⟩
@[reducible] def c30r16 : Reg := ⟨[.n none (.mov (.var 0)),
  .n none (.mov (.var 1)),
  .n none (.bin .mul (.int .i64) (.k (.d (.int .i64 2))) (.loc 0)),
  .n none (.bin .add (.int .i64) (.loc 0) (.k (.d (.int .i64 1)))),
  .n none (.mov (.var 1)),
  .n none (.bin .mul (.int .i64) (.k (.d (.int .i64 2))) (.loc 0)),
  .n none (.bin .add (.int .i64) (.loc 0) (.k (.d (.int .i64 4)))),
  .n none (.mov (.var 0)),
  .n none (.nilCheck (.loc 0)),
  .n none (.fieldAddr 0 (.loc 0)),
  .n none (.fieldAddr 0 (.loc 0)),
  .n none (.load 1 false (.loc 0)),
  .n none (.mov (.var 1)),
  .n none (.idxAddr 3 (.loc 1) (.loc 0)),
  .n none (.fieldAddr 0 (.loc 0)),
  .n none (.load 1 false (.loc 0)),
  .n none (.build [(.d (.int .i64 0)), (.d (.int .i64 0)), (.d (.int .i64 0)), (.d (.int .i64 0)), .nils] [(0, 1, (.loc 12)), (1, 1, (.loc 9)), (2, 1, (.loc 0))]),
  .e none (.call 48 [(.loc 16), (.loc 0)]) [] [] false], []⟩
def c30 : C := (.seq (.reg c30r0) (.seq (.seq (.reg c30r1) (.block 0 (.loop (.seq (.seq (.reg c30r2) (.cond (.var 10) .skip (.exit 0))) (.seq (.block 1 (.seq (.reg c30r3) (.seq (.seq (.reg c30r4) (.cond (.var 11) (.seq (.reg c30r5) (.reg c30r6)) .skip)) (.seq (.seq (.reg c30r7) (.block 2 (.loop (.seq (.reg c30r8) (.seq (.cond (.var 15) .skip (.exit 2)) (.seq (.block 3 (.seq (.reg c30r9) (.reg c30r10))) (.reg c30r11))))))) (.seq (.reg c30r12) (.cond (.var 16) (.reg c30r13) .skip)))))) (.reg c30r14)))))) (.seq (.reg c30r15) (.cond (.var 17) (.reg c30r16) .skip))))
def r30 : List RV := []
/- (*emendate/lattice.builder).deleted params 3 free 0 -/
def v31 : List Tmp := [0, 1, 2, 6, 7, 8, 9, 11, 19, 20, 21, 22]
@[reducible] def c31r0 : Reg := ⟨[.n none (.mov (.k (.d (.int .i64 0)))),
  .n none (.mov (.k .nils))], [(3, 1), (4, 0)]⟩
@[reducible] def c31r1 : Reg := ⟨[.n none (.mov (.k (.d (.int .i64 0))))], [(5, 0)]⟩
@[reducible] def c31r2 : Reg := ⟨[.n none (.mov (.k .nils))], [(6, 0)]⟩
@[reducible] def c31r3 : Reg := ⟨[.n none (.mov (.var 0)),
  .n none (.nilCheck (.loc 0)),
  .n none (.fieldAddr 0 (.loc 0)),
  .n none (.fieldAddr 0 (.loc 0)),
  .n none (.load 1 false (.loc 0)),
  .n none (.mov (.var 1)),
  .n none (.mov (.var 2)),
  .n none (.slice 3 (some (.loc 1)) (some (.loc 0)) (.loc 2)),
  .n none (.len 0 (.loc 0)),
  .n none (.mov (.k (.d (.int .i64 0))))], [(8, 2), (9, 1), (10, 0)]⟩
@[reducible] def c31r4 : Reg := ⟨[.n none (.bin .lss (.int .i64) (.var 10) (.var 9))], [(11, 0)]⟩
@[reducible] def c31r5 : Reg := ⟨[.n none (.idxAddr 3 (.var 8) (.var 10)),
  .n none (.load 3 true (.loc 0)),
  .n none (.alloc 3 (.agg [(.d (.int .i64 0)), .nils, (.d (.int .i64 0))])),
  .e none (.store 3 true (.loc 0) (.loc 1)) [] [] false], [(7, 1)]⟩
@[reducible] def c31r6 : Reg := ⟨[.n none (.mov (.var 5)),
  .n none (.fieldAddr 2 (.var 7)),
  .n none (.load 1 false (.loc 0)),
  .n none (.bin .add (.int .i64) (.loc 2) (.loc 0)),
  .n none (.minmax true [(.loc 0), (.k (.d (.int .i64 1099511627776)))]),
  .n none (.mov (.loc 0))], [(5, 0)]⟩
@[reducible] def c31r7 : Reg := ⟨[.n none (.mov (.var 6)),
  .n none (.build [(.d (.int .i64 0)), (.d (.int .i64 0))] [(0, 1, (.k (.d (.int .i64 2))))]),
  .n none (.lit 2 (.d (.agg [(.int .i64 0), (.int .i64 0)])) 1 [(0, (.loc 0))] false),
  .e none (.append 2 16 (.loc 2) (.loc 0)) [] [] false,
  .n none (.mov (.loc 0))], [(6, 0)]⟩
@[reducible] def c31r8 : Reg := ⟨[.n none (.bin .add (.int .i64) (.var 10) (.k (.d (.int .i64 1)))),
  .n none (.mov (.loc 0))], [(10, 0)]⟩
@[reducible] def c31r9 : Reg := ⟨[.n none (.mov (.var 5)),
  .n none (.mov (.var 6)),
  .n none (.mov (.loc 1)),
  .n none (.mov (.loc 1))], [(3, 1), (4, 0)]⟩
def c31 : C := (.seq (.reg c31r0) (.seq (.reg c31r1) (.seq (.reg c31r2) (.seq (.seq (.reg c31r3) (.block 0 (.loop (.seq (.reg c31r4) (.seq (.cond (.var 11) .skip (.exit 0)) (.seq (.block 1 (.seq (.reg c31r5) (.seq (.reg c31r6) (.reg c31r7)))) (.reg c31r8))))))) (.seq (.reg c31r9) .ret)))))
def r31 : List RV := [(.tmp 3), (.tmp 4)]
/- emendate/lattice.compare params 2 free 0 -/
def v33 : List Tmp := [0, 1, 2, 3, 4]
@[reducible] def c33r0 : Reg := ⟨[.n none (.box 3 (.var 0)),
  .n none (.box 3 (.var 1)),
  .n none (.mov (.k (.d (.int .i64 0))))], [(2, 2), (3, 1), (4, 0)]⟩
@[reducible] def c33r1 : Reg := ⟨[.n none (.fieldAddr 0 (.var 2)),
  .n none (.load 1 false (.loc 0)),
  .n none (.fieldAddr 0 (.var 3)),
  .n none (.load 1 false (.loc 0)),
  .n none (.fieldAddr 1 (.var 2)),
  .n none (.load 1 false (.loc 0)),
  .n none (.fieldAddr 1 (.var 3)),
  .n none (.load 1 false (.loc 0)),
  .n none (.fieldAddr 2 (.var 2)),
  .n none (.load 1 false (.loc 0)),
  .n none (.fieldAddr 2 (.var 3)),
  .n none (.load 1 false (.loc 0)),
  .e none (.call 54 [(.loc 10), (.loc 8)]) [(.loc 7), (.loc 5), (.loc 3), (.loc 1)] [] false,
  .e none (.call 54 [(.loc 7), (.loc 5)]) [(.loc 4), (.loc 2)] [] false,
  .e none (.call 54 [(.loc 4), (.loc 2)]) [] [] false,
  .n none (.lit 1 (.d (.int .i64 0)) 3 [(0, (.loc 2)), (1, (.loc 1)), (2, (.loc 0))] false),
  .e none (.call 53 [(.loc 0)]) [] [] false,
  .n none (.mov (.loc 0))], [(4, 0)]⟩
def c33 : C := (.seq (.reg c33r0) (.seq (.reg c33r1) .ret))
def r33 : List RV := [(.tmp 4)]
/- emendate/emendateref37.Deletion params 3 free 0 -/
def v34 : List Tmp := [0, 1, 2, 3, 6, 7, 8, 12]
@[reducible] def c34r0 : Reg := ⟨[.n none (.box 3 (.var 0)),
  .n none (.mov (.k (.d (.int .i64 0))))], [(3, 1), (4, 0)]⟩
@[reducible] def c34r1 : Reg := ⟨[.n none (.mov (.k (.d (.int .i64 0))))], [(5, 0)]⟩
@[reducible] def c34r2 : Reg := ⟨[.n none (.mov (.var 1)),
  .n none (.mov (.loc 0))], [(6, 0)]⟩
@[reducible] def c34r3 : Reg := ⟨[.n none (.mov (.var 6)),
  .n none (.mov (.var 2)),
  .n none (.bin .lss (.int .i64) (.loc 1) (.loc 0))], [(7, 0)]⟩
@[reducible] def c34r4 : Reg := ⟨[.n none (.mov (.var 5)),
  .n none (.fieldAddr 0 (.var 3)),
  .n none (.load 1 false (.loc 0)),
  .n none (.mov (.var 6)),
  .n none (.idxAddr 3 (.loc 1) (.loc 0)),
  .n none (.fieldAddr 2 (.loc 0)),
  .n none (.load 1 false (.loc 0)),
  .e none (.call 36 [(.loc 6), (.loc 0)]) [] [] false,
  .n none (.mov (.loc 0))], [(5, 0)]⟩
@[reducible] def c34r5 : Reg := ⟨[.n none (.mov (.var 6)),
  .n none (.bin .add (.int .i64) (.loc 0) (.k (.d (.int .i64 1)))),
  .n none (.mov (.loc 0))], [(6, 0)]⟩
@[reducible] def c34r6 : Reg := ⟨[.n none (.mov (.var 5)),
  .n none (.mov (.loc 0))], [(4, 0)]⟩
def c34 : C := (.seq (.reg c34r0) (.seq (.reg c34r1) (.seq (.seq (.reg c34r2) (.block 0 (.loop (.seq (.seq (.reg c34r3) (.cond (.var 7) .skip (.exit 0))) (.seq (.block 1 (.reg c34r4)) (.reg c34r5)))))) (.seq (.reg c34r6) .ret))))
def r34 : List RV := [(.tmp 4)]
/- emendate/emendateref37.put params 2 free 0 -/
def v35 : List Tmp := [0, 1, 3, 4, 5, 6, 7, 10, 15, 49, 57, 71, 84]
@[reducible] def c35r0 : Reg := ⟨[.n none (.box 5 (.var 1)),
  .n none (.mov (.k .nils))], [(2, 1), (3, 0)]⟩
@[reducible] def c35r1 : Reg := ⟨[.n none (.fieldAddr 3 (.var 2)),
  .n none (.load 1 false (.loc 0)),
  .n none (.bin .geq (.int .i64) (.loc 0) (.k (.d (.int .i64 1099511627776))))], [(7, 0)]⟩
@[reducible] def c35r2 : Reg := ⟨[.n none (.mov (.var 0)),
  .n none (.mov (.loc 0))], [(3, 0)]⟩
@[reducible] def c35r3 : Reg := ⟨[.n none (.mov (.k .nils))], [(4, 0)]⟩
@[reducible] def c35r4 : Reg := ⟨[.n none (.mov (.k (.d (.bool false))))], [(5, 0)]⟩
@[reducible] def c35r5 : Reg := ⟨[.n none (.mov (.k (.d (.int .i64 0))))], [(6, 0)]⟩
@[reducible] def c35r6 : Reg := ⟨[.n none (.mov (.var 6)),
  .n none (.mov (.var 0)),
  .n none (.len 0 (.loc 0)),
  .n none (.bin .lss (.int .i64) (.loc 2) (.loc 0))], [(8, 0)]⟩
@[reducible] def c35r7 : Reg := ⟨[.n none (.mov (.var 5)),
  .n none (.not (.loc 0)),
  .n none (.mov (.loc 0)),
  .n (some ((.loc 0), true)) (.mov (.var 0)),
  .n (some ((.loc 1), true)) (.mov (.var 6)),
  .n (some ((.loc 2), true)) (.idxAddr 5 (.loc 1) (.loc 0)),
  .n (some ((.loc 3), true)) (.fieldAddr 0 (.loc 0)),
  .n (some ((.loc 4), true)) (.load 1 false (.loc 0)),
  .n (some ((.loc 5), true)) (.fieldAddr 0 (.var 2)),
  .n (some ((.loc 6), true)) (.load 1 false (.loc 0)),
  .n (some ((.loc 7), true)) (.bin .eql (.int .i64) (.loc 2) (.loc 0)),
  .n none (.pick (.loc 8) (.loc 0) (.k (.d (.bool false)))),
  .n none (.mov (.loc 0)),
  .n (some ((.loc 0), true)) (.mov (.var 0)),
  .n (some ((.loc 1), true)) (.mov (.var 6)),
  .n (some ((.loc 2), true)) (.idxAddr 5 (.loc 1) (.loc 0)),
  .n (some ((.loc 3), true)) (.fieldAddr 1 (.loc 0)),
  .n (some ((.loc 4), true)) (.load 1 false (.loc 0)),
  .n (some ((.loc 5), true)) (.fieldAddr 1 (.var 2)),
  .n (some ((.loc 6), true)) (.load 1 false (.loc 0)),
  .n (some ((.loc 7), true)) (.bin .eql (.int .i64) (.loc 2) (.loc 0)),
  .n none (.pick (.loc 8) (.loc 0) (.k (.d (.bool false)))),
  .n none (.mov (.loc 0)),
  .n (some ((.loc 0), true)) (.mov (.var 0)),
  .n (some ((.loc 1), true)) (.mov (.var 6)),
  .n (some ((.loc 2), true)) (.idxAddr 5 (.loc 1) (.loc 0)),
  .n (some ((.loc 3), true)) (.fieldAddr 2 (.loc 0)),
  .n (some ((.loc 4), true)) (.load 1 false (.loc 0)),
  .n (some ((.loc 5), true)) (.fieldAddr 2 (.var 2)),
  .n (some ((.loc 6), true)) (.load 1 false (.loc 0)),
  .n (some ((.loc 7), true)) (.bin .eql (.int .i64) (.loc 2) (.loc 0)),
  .n none (.pick (.loc 8) (.loc 0) (.k (.d (.bool false))))], [(9, 0)]⟩
@[reducible] def c35r8 : Reg := ⟨[.n none (.mov (.k (.d (.bool true))))], [(5, 0)]⟩
@[reducible] def c35r9 : Reg := ⟨[.n none (.fieldAddr 3 (.var 2)),
  .n none (.load 1 false (.loc 0)),
  .n none (.mov (.var 0)),
  .n none (.mov (.var 6)),
  .n none (.idxAddr 5 (.loc 1) (.loc 0)),
  .n none (.fieldAddr 3 (.loc 0)),
  .n none (.load 1 false (.loc 0)),
  .n none (.bin .lss (.int .i64) (.loc 5) (.loc 0))], [(10, 0)]⟩
@[reducible] def c35r10 : Reg := ⟨[.n none (.mov (.var 4)),
  .n none (.load 5 true (.var 2)),
  .n none (.lit 5 (.agg [(.d (.int .i64 0)), (.d (.int .i64 0)), (.d (.int .i64 0)), (.d (.int .i64 0)), .nils]) 1 [(0, (.loc 0))] false),
  .e none (.append 5 56 (.loc 2) (.loc 0)) [] [] false,
  .n none (.mov (.loc 0))], [(4, 0)]⟩
@[reducible] def c35r11 : Reg := ⟨[.n none (.mov (.var 5)),
  .n none (.not (.loc 0)),
  .n none (.mov (.loc 0)),
  .n (some ((.loc 0), true)) (.load 5 true (.var 2)),
  .n (some ((.loc 1), true)) (.mov (.var 0)),
  .n (some ((.loc 2), true)) (.mov (.var 6)),
  .n (some ((.loc 3), true)) (.idxAddr 5 (.loc 1) (.loc 0)),
  .n (some ((.loc 4), true)) (.load 5 true (.loc 0)),
  .e (some ((.loc 5), true)) (.call 39 [(.loc 4), (.loc 0)]) [] [] false,
  .n none (.pick (.loc 6) (.loc 0) (.k (.d (.bool false))))], [(11, 0)]⟩
@[reducible] def c35r12 : Reg := ⟨[.n none (.mov (.k (.d (.bool true))))], [(5, 0)]⟩
@[reducible] def c35r13 : Reg := ⟨[.n none (.mov (.var 4)),
  .n none (.load 5 true (.var 2)),
  .n none (.lit 5 (.agg [(.d (.int .i64 0)), (.d (.int .i64 0)), (.d (.int .i64 0)), (.d (.int .i64 0)), .nils]) 1 [(0, (.loc 0))] false),
  .e none (.append 5 56 (.loc 2) (.loc 0)) [] [] false,
  .n none (.mov (.loc 0))], [(4, 0)]⟩
@[reducible] def c35r14 : Reg := ⟨[.n none (.mov (.var 4)),
  .n none (.mov (.var 0)),
  .n none (.mov (.var 6)),
  .n none (.idxAddr 5 (.loc 1) (.loc 0)),
  .n none (.load 5 true (.loc 0)),
  .n none (.lit 5 (.agg [(.d (.int .i64 0)), (.d (.int .i64 0)), (.d (.int .i64 0)), (.d (.int .i64 0)), .nils]) 1 [(0, (.loc 0))] false),
  .e none (.append 5 56 (.loc 5) (.loc 0)) [] [] false,
  .n none (.mov (.loc 0))], [(4, 0)]⟩
@[reducible] def c35r15 : Reg := ⟨[.n none (.mov (.var 6)),
  .n none (.bin .add (.int .i64) (.loc 0) (.k (.d (.int .i64 1)))),
  .n none (.mov (.loc 0))], [(6, 0)]⟩
@[reducible] def c35r16 : Reg := ⟨[.n none (.mov (.var 5)),
  .n none (.not (.loc 0))], [(12, 0)]⟩
@[reducible] def c35r17 : Reg := ⟨[.n none (.mov (.var 4)),
  .n none (.load 5 true (.var 2)),
  .n none (.lit 5 (.agg [(.d (.int .i64 0)), (.d (.int .i64 0)), (.d (.int .i64 0)), (.d (.int .i64 0)), .nils]) 1 [(0, (.loc 0))] false),
  .e none (.append 5 56 (.loc 2) (.loc 0)) [] [] false,
  .n none (.mov (.loc 0))], [(4, 0)]⟩
@[reducible] def c35r18 : Reg := ⟨[.n none (.mov (.var 4)),
  .n none (.mov (.loc 0))], [(3, 0)]⟩
def c35 : C := (.seq (.reg c35r0) (.seq (.seq (.reg c35r1) (.cond (.var 7) (.seq (.reg c35r2) .ret) .skip)) (.seq (.reg c35r3) (.seq (.reg c35r4) (.seq (.seq (.reg c35r5) (.block 0 (.loop (.seq (.seq (.reg c35r6) (.cond (.var 8) .skip (.exit 0))) (.seq (.block 1 (.seq (.seq (.reg c35r7) (.cond (.var 9) (.seq (.reg c35r8) (.seq (.reg c35r9) (.cond (.var 10) (.seq (.reg c35r10) (.exit 1)) .skip))) .skip)) (.seq (.seq (.reg c35r11) (.cond (.var 11) (.seq (.reg c35r12) (.reg c35r13)) .skip)) (.reg c35r14)))) (.reg c35r15)))))) (.seq (.seq (.reg c35r16) (.cond (.var 12) (.reg c35r17) .skip)) (.seq (.reg c35r18) .ret)))))))
def r35 : List RV := [(.tmp 3)]
/- emendate/emendateref37.add params 2 free 0 -/
def v36 : List Tmp := [0, 1, 4, 16]
@[reducible] def c36r0 : Reg := ⟨[.n none (.mov (.k (.d (.int .i64 0))))], [(2, 0)]⟩
@[reducible] def c36r1 : Reg := ⟨[.n none (.mov (.var 0)),
  .n none (.bin .geq (.int .i64) (.loc 0) (.k (.d (.int .i64 1099511627776)))),
  .n none (.mov (.loc 0)),
  .n (some ((.loc 0), false)) (.mov (.var 1)),
  .n (some ((.loc 1), false)) (.bin .geq (.int .i64) (.loc 0) (.k (.d (.int .i64 1099511627776)))),
  .n none (.pick (.loc 2) (.k (.d (.bool true))) (.loc 0)),
  .n none (.mov (.loc 0)),
  .n (some ((.loc 0), false)) (.mov (.var 0)),
  .n (some ((.loc 1), false)) (.mov (.var 1)),
  .n (some ((.loc 2), false)) (.bin .add (.int .i64) (.loc 1) (.loc 0)),
  .n (some ((.loc 3), false)) (.bin .geq (.int .i64) (.loc 0) (.k (.d (.int .i64 1099511627776)))),
  .n none (.pick (.loc 4) (.k (.d (.bool true))) (.loc 0))], [(3, 0)]⟩
@[reducible] def c36r2 : Reg := ⟨[.n none (.mov (.k (.d (.int .i64 1099511627776))))], [(2, 0)]⟩
@[reducible] def c36r3 : Reg := ⟨[.n none (.mov (.var 0)),
  .n none (.mov (.var 1)),
  .n none (.bin .add (.int .i64) (.loc 1) (.loc 0)),
  .n none (.mov (.loc 0))], [(2, 0)]⟩
def c36 : C := (.seq (.reg c36r0) (.seq (.seq (.reg c36r1) (.cond (.var 3) (.seq (.reg c36r2) .ret) .skip)) (.seq (.reg c36r3) .ret)))
def r36 : List RV := [(.tmp 2)]
/- emendate/emendateref37.deletes params 2 free 0 -/
def v37 : List Tmp := [0, 1, 3, 4, 5, 6, 9]
@[reducible] def c37r0 : Reg := ⟨[.n none (.box 2 (.var 1)),
  .n none (.mov (.k .nils))], [(2, 1), (3, 0)]⟩
@[reducible] def c37r1 : Reg := ⟨[.n none (.mov (.k .nils))], [(4, 0)]⟩
@[reducible] def c37r2 : Reg := ⟨[.n none (.mov (.k (.d (.int .i64 0))))], [(5, 0)]⟩
@[reducible] def c37r3 : Reg := ⟨[.n none (.mov (.var 5)),
  .n none (.mov (.var 0)),
  .n none (.bin .lss (.int .i64) (.loc 1) (.loc 0))], [(6, 0)]⟩
@[reducible] def c37r4 : Reg := ⟨[.n none (.mov (.var 4)),
  .n none (.build [(.d (.int .i64 0)), (.d (.int .i64 0))] [(0, 1, (.k (.d (.int .i64 2))))]),
  .n none (.lit 2 (.d (.agg [(.int .i64 0), (.int .i64 0)])) 1 [(0, (.loc 0))] false),
  .e none (.append 2 16 (.loc 2) (.loc 0)) [] [] false,
  .n none (.mov (.loc 0))], [(4, 0)]⟩
@[reducible] def c37r5 : Reg := ⟨[.n none (.mov (.var 5)),
  .n none (.bin .add (.int .i64) (.loc 0) (.k (.d (.int .i64 1)))),
  .n none (.mov (.loc 0))], [(5, 0)]⟩
@[reducible] def c37r6 : Reg := ⟨[.n none (.mov (.var 4)),
  .n none (.load 2 true (.var 2)),
  .n none (.lit 2 (.d (.agg [(.int .i64 0), (.int .i64 0)])) 1 [(0, (.loc 0))] false),
  .e none (.append 2 16 (.loc 2) (.loc 0)) [] [] false,
  .n none (.mov (.loc 0))], [(3, 0)]⟩
def c37 : C := (.seq (.reg c37r0) (.seq (.reg c37r1) (.seq (.seq (.reg c37r2) (.block 0 (.loop (.seq (.seq (.reg c37r3) (.cond (.var 6) .skip (.exit 0))) (.seq (.block 1 (.reg c37r4)) (.reg c37r5)))))) (.seq (.reg c37r6) .ret))))
def r37 : List RV := [(.tmp 3)]
/- emendate/emendateref37.Swappable params 2 free 0 -/
def v38 : List Tmp := [0, 1, 2, 4]
@[reducible] def c38r0 : Reg := ⟨[.n none (.box 3 (.var 0)),
  .n none (.mov (.k (.d (.bool false))))], [(2, 1), (3, 0)]⟩
@[reducible] def c38r1 : Reg := ⟨[.n none (.mov (.var 1)),
  .n none (.bin .add (.int .i64) (.loc 0) (.k (.d (.int .i64 1)))),
  .n none (.fieldAddr 0 (.var 2)),
  .n none (.load 1 false (.loc 0)),
  .n none (.len 0 (.loc 0)),
  .n none (.bin .lss (.int .i64) (.loc 3) (.loc 0)),
  .n none (.mov (.loc 0)),
  .n (some ((.loc 0), true)) (.fieldAddr 2 (.var 2)),
  .n (some ((.loc 1), true)) (.load 1 false (.loc 0)),
  .n (some ((.loc 2), true)) (.bin .gtr (.int .i64) (.loc 0) (.k (.d (.int .i64 0)))),
  .n none (.pick (.loc 3) (.loc 0) (.k (.d (.bool false)))),
  .n none (.mov (.loc 0)),
  .n (some ((.loc 0), true)) (.fieldAddr 0 (.var 2)),
  .n (some ((.loc 1), true)) (.load 1 false (.loc 0)),
  .n (some ((.loc 2), true)) (.mov (.var 1)),
  .n (some ((.loc 3), true)) (.idxAddr 3 (.loc 1) (.loc 0)),
  .n (some ((.loc 4), true)) (.fieldAddr 0 (.loc 0)),
  .n (some ((.loc 5), true)) (.load 1 false (.loc 0)),
  .n (some ((.loc 6), true)) (.bin .geq (.int .i64) (.loc 0) (.k (.d (.int .i64 0)))),
  .n none (.pick (.loc 7) (.loc 0) (.k (.d (.bool false)))),
  .n none (.mov (.loc 0)),
  .n (some ((.loc 0), true)) (.fieldAddr 0 (.var 2)),
  .n (some ((.loc 1), true)) (.load 1 false (.loc 0)),
  .n (some ((.loc 2), true)) (.mov (.var 1)),
  .n (some ((.loc 3), true)) (.bin .add (.int .i64) (.loc 0) (.k (.d (.int .i64 1)))),
  .n (some ((.loc 4), true)) (.idxAddr 3 (.loc 2) (.loc 0)),
  .n (some ((.loc 5), true)) (.fieldAddr 0 (.loc 0)),
  .n (some ((.loc 6), true)) (.load 1 false (.loc 0)),
  .n (some ((.loc 7), true)) (.bin .geq (.int .i64) (.loc 0) (.k (.d (.int .i64 0)))),
  .n none (.pick (.loc 8) (.loc 0) (.k (.d (.bool false)))),
  .n none (.mov (.loc 0))], [(3, 0)]⟩
def c38 : C := (.seq (.reg c38r0) (.seq (.reg c38r1) .ret))
def r38 : List RV := [(.tmp 3)]
/- emendate/emendateref37.Before params 2 free 0 -/
def v39 : List Tmp := [0, 1, 2, 3, 4, 9, 19]
@[reducible] def c39r0 : Reg := ⟨[.n none (.box 5 (.var 0)),
  .n none (.box 5 (.var 1)),
  .n none (.mov (.k (.d (.bool false))))], [(2, 2), (3, 1), (4, 0)]⟩
@[reducible] def c39r1 : Reg := ⟨[.n none (.fieldAddr 0 (.var 2)),
  .n none (.load 1 false (.loc 0)),
  .n none (.fieldAddr 0 (.var 3)),
  .n none (.load 1 false (.loc 0)),
  .n none (.bin .neq (.int .i64) (.loc 2) (.loc 0))], [(5, 0)]⟩
@[reducible] def c39r2 : Reg := ⟨[.n none (.fieldAddr 0 (.var 2)),
  .n none (.load 1 false (.loc 0)),
  .n none (.fieldAddr 0 (.var 3)),
  .n none (.load 1 false (.loc 0)),
  .n none (.bin .lss (.int .i64) (.loc 2) (.loc 0)),
  .n none (.mov (.loc 0))], [(4, 0)]⟩
@[reducible] def c39r3 : Reg := ⟨[.n none (.fieldAddr 1 (.var 2)),
  .n none (.load 1 false (.loc 0)),
  .n none (.fieldAddr 1 (.var 3)),
  .n none (.load 1 false (.loc 0)),
  .n none (.bin .neq (.int .i64) (.loc 2) (.loc 0))], [(6, 0)]⟩
@[reducible] def c39r4 : Reg := ⟨[.n none (.fieldAddr 1 (.var 2)),
  .n none (.load 1 false (.loc 0)),
  .n none (.fieldAddr 1 (.var 3)),
  .n none (.load 1 false (.loc 0)),
  .n none (.bin .lss (.int .i64) (.loc 2) (.loc 0)),
  .n none (.mov (.loc 0))], [(4, 0)]⟩
@[reducible] def c39r5 : Reg := ⟨[.n none (.fieldAddr 2 (.var 2)),
  .n none (.load 1 false (.loc 0)),
  .n none (.fieldAddr 2 (.var 3)),
  .n none (.load 1 false (.loc 0)),
  .n none (.bin .lss (.int .i64) (.loc 2) (.loc 0)),
  .n none (.mov (.loc 0))], [(4, 0)]⟩
def c39 : C := (.seq (.reg c39r0) (.seq (.seq (.reg c39r1) (.cond (.var 5) (.seq (.reg c39r2) .ret) .skip)) (.seq (.seq (.reg c39r3) (.cond (.var 6) (.seq (.reg c39r4) .ret) .skip)) (.seq (.reg c39r5) .ret))))
def r39 : List RV := [(.tmp 4)]
/- emendate/emendateref35.columns params 2 free 0 -/
def v45 : List Tmp := [0, 1, 4, 5, 9, 18]
@[reducible] def c45r0 : Reg := ⟨[.n none (.mov (.k (.d (.bool false))))], [(2, 0)]⟩
@[reducible] def c45r1 : Reg := ⟨[.n none (.mov (.k (.d (.int .i64 0))))], [(3, 0)]⟩
@[reducible] def c45r2 : Reg := ⟨[.n none (.mov (.var 3)),
  .n none (.mov (.var 0)),
  .n none (.len 0 (.loc 0)),
  .n none (.bin .lss (.int .i64) (.loc 2) (.loc 0))], [(4, 0)]⟩
@[reducible] def c45r3 : Reg := ⟨[.n none (.mov (.var 0)),
  .n none (.mov (.var 3)),
  .n none (.idxAddr 3 (.loc 1) (.loc 0)),
  .n none (.load 3 true (.loc 0)),
  .n none (.mov (.var 1)),
  .e none (.call 58 [(.loc 1), (.loc 0)]) [] [] false,
  .n none (.not (.loc 0))], [(5, 0)]⟩
@[reducible] def c45r4 : Reg := ⟨[.n none (.mov (.k (.d (.bool false))))], [(2, 0)]⟩
@[reducible] def c45r5 : Reg := ⟨[.n none (.mov (.var 3)),
  .n none (.bin .add (.int .i64) (.loc 0) (.k (.d (.int .i64 1)))),
  .n none (.mov (.loc 0))], [(3, 0)]⟩
@[reducible] def c45r6 : Reg := ⟨[.n none (.mov (.k (.d (.bool true))))], [(2, 0)]⟩
def c45 : C := (.seq (.reg c45r0) (.seq (.seq (.reg c45r1) (.block 0 (.loop (.seq (.seq (.reg c45r2) (.cond (.var 4) .skip (.exit 0))) (.seq (.block 1 (.seq (.reg c45r3) (.cond (.var 5) (.seq (.reg c45r4) .ret) .skip))) (.reg c45r5)))))) (.seq (.reg c45r6) .ret)))
def r45 : List RV := [(.tmp 2)]
/- (*emendate/lattice.builder).reads params 5 free 0 -/
def v47 : List Tmp := [0, 1, 2, 3, 4, 10, 11, 20, 21, 22, 23, 28]
@[reducible] def c47r0 : Reg := ⟨[.n none (.mov (.var 0)),
  .n none (.nilCheck (.loc 0)),
  .n none (.fieldAddr 0 (.loc 0)),
  .n none (.fieldAddr 0 (.loc 0)),
  .n none (.load 1 false (.loc 0)),
  .n none (.mov (.var 2)),
  .n none (.idxAddr 3 (.loc 1) (.loc 0)),
  .n none (.fieldAddr 1 (.loc 0)),
  .n none (.load 1 false (.loc 0)),
  .n none (.len 0 (.loc 0)),
  .n none (.mov (.k (.d (.int .i64 0))))], [(7, 2), (8, 1), (9, 0)]⟩
@[reducible] def c47r1 : Reg := ⟨[.n none (.bin .lss (.int .i64) (.var 9) (.var 8))], [(10, 0)]⟩
@[reducible] def c47r2 : Reg := ⟨[.n none (.mov (.var 9)),
  .n none (.idxAddr 1 (.var 7) (.var 9)),
  .n none (.load 1 false (.loc 0)),
  .n none (.mov (.loc 2)),
  .n none (.mov (.loc 1))], [(5, 1), (6, 0)]⟩
@[reducible] def c47r3 : Reg := ⟨[.n none (.mov (.var 6)),
  .n none (.bin .geq (.int .i64) (.loc 0) (.k (.d (.int .i64 0))))], [(11, 0)]⟩
@[reducible] def c47r4 : Reg := ⟨[.n none (.mov (.var 0)),
  .n none (.mov (.var 1)),
  .n none (.bin .mul (.int .i64) (.k (.d (.int .i64 2))) (.loc 0)),
  .n none (.mov (.var 2)),
  .n none (.bin .mul (.int .i64) (.k (.d (.int .i64 2))) (.loc 0)),
  .n none (.bin .add (.int .i64) (.loc 0) (.k (.d (.int .i64 2)))),
  .n none (.mov (.var 5)),
  .n none (.mov (.var 3)),
  .n none (.mov (.var 6)),
  .n none (.bin .add (.int .i64) (.loc 1) (.loc 0)),
  .n none (.mov (.var 4)),
  .e none (.call 49 [(.loc 0)]) [] [] false,
  .n none (.mov (.var 5)),
  .n none (.build [(.d (.int .i64 0)), (.d (.int .i64 0))] [(0, 1, (.k (.d (.int .i64 1)))), (1, 1, (.loc 0))]),
  .n none (.lit 2 (.d (.agg [(.int .i64 0), (.int .i64 0)])) 1 [(0, (.loc 0))] false),
  .e none (.append 2 16 (.loc 3) (.loc 0)) [] [] true,
  .n none (.build [(.d (.int .i64 0)), (.d (.int .i64 0)), (.d (.int .i64 0)), (.d (.int .i64 0)), .nils] [(0, 1, (.loc 13)), (1, 1, (.loc 10)), (2, 1, (.loc 9)), (3, 1, (.loc 6)), (4, 1, (.loc 0))]),
  .e none (.call 48 [(.loc 16), (.loc 0)]) [] [] false], []⟩
@[reducible] def c47r5 : Reg := ⟨[.n none (.bin .add (.int .i64) (.var 9) (.k (.d (.int .i64 1)))),
  .n none (.mov (.loc 0))], [(9, 0)]⟩
def c47 : C := (.seq (.reg c47r0) (.block 0 (.loop (.seq (.reg c47r1) (.seq (.cond (.var 10) .skip (.exit 0)) (.seq (.block 1 (.seq (.reg c47r2) (.seq (.reg c47r3) (.cond (.var 11) (.reg c47r4) .skip)))) (.reg c47r5)))))))
def r47 : List RV := []
/- (*emendate/lattice.builder).add params 2 free 0 -/
def v48 : List Tmp := [0, 1, 3, 4, 5, 6, 36]
@[reducible] def c48r0 : Reg := ⟨[.n none (.box 5 (.var 1))], [(2, 0)]⟩
@[reducible] def c48r1 : Reg := ⟨[.n none (.fieldAddr 0 (.var 2)),
  .n none (.load 1 false (.loc 0)),
  .n none (.fieldAddr 1 (.var 2)),
  .n none (.load 1 false (.loc 0)),
  .n none (.fieldAddr 2 (.var 2)),
  .n none (.load 1 false (.loc 0)),
  .n none (.build [(.d (.int .i64 0)), (.d (.int .i64 0)), (.d (.int .i64 0))] [(0, 1, (.loc 4)), (1, 1, (.loc 2)), (2, 1, (.loc 0))]),
  .n none (.alloc 3 (.d (.agg [(.int .i64 0), (.int .i64 0), (.int .i64 0)]))),
  .e none (.store 3 true (.loc 0) (.loc 1)) [] [] false], [(3, 1)]⟩
@[reducible] def c48r2 : Reg := ⟨[.n none (.mov (.var 0)),
  .n none (.nilCheck (.loc 0)),
  .n none (.fieldAddr 3 (.loc 0)),
  .n none (.load 1 false (.loc 0)),
  .n none (.load 3 true (.var 3)),
  .n none (.lookup true (.many [(.int .i64), (.int .i64), (.int .i64)]) (.agg [(.d (.int .i64 0)), (.d (.int .i64 0)), (.d (.int .i64 0)), (.d (.int .i64 0)), .nils]) (.loc 1) (.loc 0)),
  .n none (.mov (.loc 0)),
  .n none (.extract 0 (.loc 0)),
  .n none (.extract 1 (.loc 1)),
  .n none (.alloc 5 (.agg [(.d (.int .i64 0)), (.d (.int .i64 0)), (.d (.int .i64 0)), (.d (.int .i64 0)), .nils])),
  .e none (.store 5 true (.loc 0) (.loc 2)) [] [] false,
  .n none (.mov (.loc 2))], [(4, 2), (5, 0)]⟩
@[reducible] def c48r3 : Reg := ⟨[.n none (.fieldAddr 3 (.var 2)),
  .n none (.load 1 false (.loc 0)),
  .n none (.bin .lss (.int .i64) (.loc 0) (.k (.d (.int .i64 1099511627776)))),
  .n none (.mov (.loc 0)),
  .n (some ((.loc 0), true)) (.mov (.var 5)),
  .n (some ((.loc 1), true)) (.not (.loc 0)),
  .n (some ((.loc 2), true)) (.mov (.loc 0)),
  .n (some ((.loc 0), false)) (.fieldAddr 3 (.var 2)),
  .n (some ((.loc 1), false)) (.load 1 false (.loc 0)),
  .n (some ((.loc 2), false)) (.fieldAddr 3 (.var 4)),
  .n (some ((.loc 3), false)) (.load 1 false (.loc 0)),
  .n (some ((.loc 4), false)) (.bin .lss (.int .i64) (.loc 2) (.loc 0)),
  .n (some ((.loc 8), true)) (.pick (.loc 5) (.k (.d (.bool true))) (.loc 0)),
  .n none (.pick (.loc 9) (.loc 0) (.k (.d (.bool false))))], [(6, 0)]⟩
@[reducible] def c48r4 : Reg := ⟨[.n none (.mov (.var 0)),
  .n none (.nilCheck (.loc 0)),
  .n none (.fieldAddr 3 (.loc 0)),
  .n none (.load 1 false (.loc 0)),
  .n none (.load 3 true (.var 3)),
  .n none (.load 5 true (.var 2)),
  .e none (.mapUpd (.many [(.int .i64), (.int .i64), (.int .i64)]) (.loc 2) (.loc 1) (.loc 0)) [] [] false], []⟩
def c48 : C := (.seq (.reg c48r0) (.seq (.reg c48r1) (.seq (.reg c48r2) (.seq (.reg c48r3) (.cond (.var 6) (.reg c48r4) .skip)))))
def r48 : List RV := []
/- slices.Clone[[]emendate/api.Op,emendate/api.Op] params 1 free 0 -/
def v49 : List Tmp := [0, 2, 4]
@[reducible] def c49r0 : Reg := ⟨[.n none (.mov (.k .nils))], [(1, 0)]⟩
@[reducible] def c49r1 : Reg := ⟨[.n none (.mov (.var 0)),
  .e none (.isNil false (.loc 0)) [] [] false], [(2, 0)]⟩
@[reducible] def c49r2 : Reg := ⟨[.n none (.mov (.k .nils))], [(1, 0)]⟩
@[reducible] def c49r3 : Reg := ⟨[.n none (.lit 2 (.d (.agg [(.int .i64 0), (.int .i64 0)])) 0 [] true),
  .n none (.mov (.var 0)),
  .e none (.append 2 16 (.loc 1) (.loc 0)) [] [] false,
  .n none (.mov (.loc 0))], [(1, 0)]⟩
def c49 : C := (.seq (.reg c49r0) (.seq (.seq (.reg c49r1) (.cond (.var 2) (.seq (.reg c49r2) .ret) .skip)) (.seq (.reg c49r3) .ret)))
def r49 : List RV := [(.tmp 1)]
/- (*emendate/lattice.builder).swap params 2 free 0 -/
def v50 : List Tmp := [0, 1, 4, 5]
@[reducible] def c50r0 : Reg := ⟨[.n none (.mov (.k (.d (.bool false))))], [(2, 0)]⟩
@[reducible] def c50r1 : Reg := ⟨[.n none (.mov (.var 0)),
  .n none (.nilCheck (.loc 0)),
  .n none (.fieldAddr 0 (.loc 0)),
  .n none (.fieldAddr 0 (.loc 0)),
  .n none (.load 1 false (.loc 0)),
  .n none (.mov (.loc 0))], [(3, 0)]⟩
@[reducible] def c50r2 : Reg := ⟨[.n none (.mov (.var 1)),
  .n none (.bin .add (.int .i64) (.loc 0) (.k (.d (.int .i64 1)))),
  .n none (.mov (.var 3)),
  .n none (.len 0 (.loc 0)),
  .n none (.bin .lss (.int .i64) (.loc 2) (.loc 0)),
  .n none (.mov (.loc 0)),
  .n (some ((.loc 0), true)) (.mov (.var 0)),
  .n (some ((.loc 1), true)) (.nilCheck (.loc 0)),
  .n (some ((.loc 2), true)) (.fieldAddr 0 (.loc 0)),
  .n (some ((.loc 3), true)) (.fieldAddr 2 (.loc 0)),
  .n (some ((.loc 4), true)) (.load 1 false (.loc 0)),
  .n (some ((.loc 5), true)) (.bin .gtr (.int .i64) (.loc 0) (.k (.d (.int .i64 0)))),
  .n none (.pick (.loc 6) (.loc 0) (.k (.d (.bool false)))),
  .n none (.mov (.loc 0)),
  .n (some ((.loc 0), true)) (.mov (.var 3)),
  .n (some ((.loc 1), true)) (.mov (.var 1)),
  .n (some ((.loc 2), true)) (.idxAddr 3 (.loc 1) (.loc 0)),
  .n (some ((.loc 3), true)) (.fieldAddr 0 (.loc 0)),
  .n (some ((.loc 4), true)) (.load 1 false (.loc 0)),
  .n (some ((.loc 5), true)) (.bin .geq (.int .i64) (.loc 0) (.k (.d (.int .i64 0)))),
  .n none (.pick (.loc 6) (.loc 0) (.k (.d (.bool false)))),
  .n none (.mov (.loc 0)),
  .n (some ((.loc 0), true)) (.mov (.var 3)),
  .n (some ((.loc 1), true)) (.mov (.var 1)),
  .n (some ((.loc 2), true)) (.bin .add (.int .i64) (.loc 0) (.k (.d (.int .i64 1)))),
  .n (some ((.loc 3), true)) (.idxAddr 3 (.loc 2) (.loc 0)),
  .n (some ((.loc 4), true)) (.fieldAddr 0 (.loc 0)),
  .n (some ((.loc 5), true)) (.load 1 false (.loc 0)),
  .n (some ((.loc 6), true)) (.bin .geq (.int .i64) (.loc 0) (.k (.d (.int .i64 0)))),
  .n none (.pick (.loc 7) (.loc 0) (.k (.d (.bool false)))),
  .n none (.mov (.loc 0))], [(2, 0)]⟩
def c50 : C := (.seq (.reg c50r0) (.seq (.reg c50r1) (.seq (.reg c50r2) .ret)))
def r50 : List RV := [(.tmp 2)]
/- cmp.Or[int] params 1 free 0 -/
def v53 : List Tmp := [0, 2, 3, 5, 6, 7, 8, 9, 14]
@[reducible] def c53r0 : Reg := ⟨[.n none (.mov (.k (.d (.int .i64 0))))], [(1, 0)]⟩
@[reducible] def c53r1 : Reg := ⟨[.n none (.mov (.k (.d (.int .i64 0))))], [(2, 0)]⟩
@[reducible] def c53r2 : Reg := ⟨[.n none (.mov (.var 0)),
  .n none (.len 0 (.loc 0)),
  .n none (.mov (.k (.d (.int .i64 0))))], [(4, 2), (5, 1), (6, 0)]⟩
@[reducible] def c53r3 : Reg := ⟨[.n none (.bin .lss (.int .i64) (.var 6) (.var 5))], [(7, 0)]⟩
@[reducible] def c53r4 : Reg := ⟨[.n none (.idxAddr 1 (.var 4) (.var 6)),
  .n none (.load 1 false (.loc 0)),
  .n none (.mov (.loc 0))], [(3, 0)]⟩
@[reducible] def c53r5 : Reg := ⟨[.n none (.mov (.var 3)),
  .n none (.mov (.var 2)),
  .n none (.bin .neq (.int .i64) (.loc 1) (.loc 0))], [(8, 0)]⟩
@[reducible] def c53r6 : Reg := ⟨[.n none (.mov (.var 3)),
  .n none (.mov (.loc 0))], [(1, 0)]⟩
@[reducible] def c53r7 : Reg := ⟨[.n none (.bin .add (.int .i64) (.var 6) (.k (.d (.int .i64 1)))),
  .n none (.mov (.loc 0))], [(6, 0)]⟩
@[reducible] def c53r8 : Reg := ⟨[.n none (.mov (.var 2)),
  .n none (.mov (.loc 0))], [(1, 0)]⟩
def c53 : C := (.seq (.reg c53r0) (.seq (.reg c53r1) (.seq (.seq (.reg c53r2) (.block 0 (.loop (.seq (.reg c53r3) (.seq (.cond (.var 7) .skip (.exit 0)) (.seq (.block 1 (.seq (.reg c53r4) (.seq (.reg c53r5) (.cond (.var 8) (.seq (.reg c53r6) .ret) .skip)))) (.reg c53r7))))))) (.seq (.reg c53r8) .ret))))
def r53 : List RV := [(.tmp 1)]
/- cmp.Compare[int] params 2 free 0 -/
def v54 : List Tmp := [0, 1, 4, 5, 6, 11, 12, 13, 16, 19]
@[reducible] def c54r0 : Reg := ⟨[.n none (.mov (.k (.d (.int .i64 0))))], [(2, 0)]⟩
@[reducible] def c54r1 : Reg := ⟨[.n none (.mov (.var 0)),
  .e none (.call 71 [(.loc 0)]) [] [] false,
  .n none (.mov (.loc 0))], [(3, 0)]⟩
@[reducible] def c54r2 : Reg := ⟨[.n none (.mov (.var 1)),
  .e none (.call 71 [(.loc 0)]) [] [] false,
  .n none (.mov (.loc 0))], [(4, 0)]⟩
@[reducible] def c54r3 : Reg := ⟨[.n none (.mov (.var 3))], [(5, 0)]⟩
@[reducible] def c54r4 : Reg := ⟨[.n none (.mov (.var 4))], [(6, 0)]⟩
@[reducible] def c54r5 : Reg := ⟨[.n none (.mov (.k (.d (.int .i64 0))))], [(2, 0)]⟩
@[reducible] def c54r6 : Reg := ⟨[.n none (.mov (.k (.d (.int .i64 (-1)))))], [(2, 0)]⟩
@[reducible] def c54r7 : Reg := ⟨[.n none (.mov (.var 4))], [(7, 0)]⟩
@[reducible] def c54r8 : Reg := ⟨[.n none (.mov (.k (.d (.int .i64 1))))], [(2, 0)]⟩
@[reducible] def c54r9 : Reg := ⟨[.n none (.mov (.var 0)),
  .n none (.mov (.var 1)),
  .n none (.bin .lss (.int .i64) (.loc 1) (.loc 0))], [(8, 0)]⟩
@[reducible] def c54r10 : Reg := ⟨[.n none (.mov (.k (.d (.int .i64 (-1)))))], [(2, 0)]⟩
@[reducible] def c54r11 : Reg := ⟨[.n none (.mov (.var 0)),
  .n none (.mov (.var 1)),
  .n none (.bin .gtr (.int .i64) (.loc 1) (.loc 0))], [(9, 0)]⟩
@[reducible] def c54r12 : Reg := ⟨[.n none (.mov (.k (.d (.int .i64 1))))], [(2, 0)]⟩
@[reducible] def c54r13 : Reg := ⟨[.n none (.mov (.k (.d (.int .i64 0))))], [(2, 0)]⟩
def c54 : C := (.seq (.reg c54r0) (.seq (.reg c54r1) (.seq (.reg c54r2) (.seq (.seq (.reg c54r3) (.cond (.var 5) (.seq (.seq (.reg c54r4) (.cond (.var 6) (.seq (.reg c54r5) .ret) .skip)) (.seq (.reg c54r6) .ret)) .skip)) (.seq (.seq (.reg c54r7) (.cond (.var 7) (.seq (.reg c54r8) .ret) .skip)) (.seq (.seq (.reg c54r9) (.cond (.var 8) (.seq (.reg c54r10) .ret) .skip)) (.seq (.seq (.reg c54r11) (.cond (.var 9) (.seq (.reg c54r12) .ret) .skip)) (.seq (.reg c54r13) .ret))))))))
def r54 : List RV := [(.tmp 2)]
/- emendate/emendateref35.Column params 2 free 0 -/
def v58 : List Tmp := [0, 1, 2, 4, 5, 6, 37, 40, 73]
@[reducible] def c58r0 : Reg := ⟨[.n none (.box 3 (.var 0)),
  .n none (.mov (.k (.d (.bool false))))], [(2, 1), (3, 0)]⟩
@[reducible] def c58r1 : Reg := ⟨[.n none (.fieldAddr 0 (.var 2)),
  .n none (.load 1 false (.loc 0)),
  .n none (.bin .lss (.int .i64) (.loc 0) (.k (.d (.int .i64 (-1))))),
  .n none (.mov (.loc 0)),
  .n (some ((.loc 0), false)) (.fieldAddr 0 (.var 2)),
  .n (some ((.loc 1), false)) (.load 1 false (.loc 0)),
  .n (some ((.loc 2), false)) (.mov (.var 1)),
  .n (some ((.loc 3), false)) (.bin .geq (.int .i64) (.loc 1) (.loc 0)),
  .n none (.pick (.loc 4) (.k (.d (.bool true))) (.loc 0)),
  .n none (.mov (.loc 0)),
  .n (some ((.loc 0), false)) (.fieldAddr 1 (.var 2)),
  .n (some ((.loc 1), false)) (.load 1 false (.loc 0)),
  .n (some ((.loc 2), false)) (.len 0 (.loc 0)),
  .n (some ((.loc 3), false)) (.mov (.var 1)),
  .n (some ((.loc 4), false)) (.bin .neq (.int .i64) (.loc 1) (.loc 0)),
  .n none (.pick (.loc 5) (.k (.d (.bool true))) (.loc 0)),
  .n none (.mov (.loc 0)),
  .n (some ((.loc 0), false)) (.fieldAddr 2 (.var 2)),
  .n (some ((.loc 1), false)) (.load 1 false (.loc 0)),
  .n (some ((.loc 2), false)) (.bin .lss (.int .i64) (.loc 0) (.k (.d (.int .i64 1)))),
  .n none (.pick (.loc 3) (.k (.d (.bool true))) (.loc 0)),
  .n none (.mov (.loc 0)),
  .n (some ((.loc 0), false)) (.fieldAddr 2 (.var 2)),
  .n (some ((.loc 1), false)) (.load 1 false (.loc 0)),
  .n (some ((.loc 2), false)) (.bin .gtr (.int .i64) (.loc 0) (.k (.d (.int .i64 60000)))),
  .n (some ((.loc 3), false)) (.mov (.loc 0)),
  .n (some ((.loc 0), true)) (.fieldAddr 2 (.var 2)),
  .n (some ((.loc 1), true)) (.load 1 false (.loc 0)),
  .n (some ((.loc 2), true)) (.bin .neq (.int .i64) (.loc 0) (.k (.d (.int .i64 1099511627776)))),
  .n (some ((.loc 7), false)) (.pick (.loc 3) (.loc 0) (.k (.d (.bool false)))),
  .n none (.pick (.loc 8) (.k (.d (.bool true))) (.loc 0))], [(6, 0)]⟩
@[reducible] def c58r2 : Reg := ⟨[.n none (.mov (.k (.d (.bool false))))], [(3, 0)]⟩
@[reducible] def c58r3 : Reg := ⟨[.n none (.mov (.k (.d (.int .i64 0))))], [(4, 0)]⟩
@[reducible] def c58r4 : Reg := ⟨[.n none (.mov (.var 4)),
  .n none (.mov (.var 1)),
  .n none (.bin .lss (.int .i64) (.loc 1) (.loc 0))], [(7, 0)]⟩
@[reducible] def c58r5 : Reg := ⟨[.n none (.fieldAddr 1 (.var 2)),
  .n none (.load 1 false (.loc 0)),
  .n none (.mov (.var 4)),
  .n none (.idxAddr 1 (.loc 1) (.loc 0)),
  .n none (.load 1 false (.loc 0)),
  .n none (.mov (.loc 0))], [(5, 0)]⟩
@[reducible] def c58r6 : Reg := ⟨[.n none (.mov (.var 4)),
  .n none (.fieldAddr 0 (.var 2)),
  .n none (.load 1 false (.loc 0)),
  .n none (.bin .eql (.int .i64) (.loc 2) (.loc 0)),
  .n none (.mov (.loc 0)),
  .n (some ((.loc 0), true)) (.mov (.var 5)),
  .n (some ((.loc 1), true)) (.bin .neq (.int .i64) (.loc 0) (.k (.d (.int .i64 0)))),
  .n none (.pick (.loc 2) (.loc 0) (.k (.d (.bool false)))),
  .n none (.mov (.loc 0)),
  .n (some ((.loc 0), false)) (.mov (.var 4)),
  .n (some ((.loc 1), false)) (.fieldAddr 0 (.var 2)),
  .n (some ((.loc 2), false)) (.load 1 false (.loc 0)),
  .n (some ((.loc 3), false)) (.bin .neq (.int .i64) (.loc 2) (.loc 0)),
  .n (some ((.loc 4), false)) (.mov (.loc 0)),
  .n (some ((.loc 0), true)) (.mov (.var 5)),
  .n (some ((.loc 1), true)) (.bin .neq (.int .i64) (.loc 0) (.k (.d (.int .i64 (-1))))),
  .n (some ((.loc 7), false)) (.pick (.loc 2) (.loc 0) (.k (.d (.bool false)))),
  .n (some ((.loc 8), false)) (.mov (.loc 0)),
  .n (some ((.loc 0), true)) (.mov (.var 5)),
  .n (some ((.loc 1), true)) (.bin .lss (.int .i64) (.loc 0) (.k (.d (.int .i64 1)))),
  .n (some ((.loc 2), true)) (.mov (.loc 0)),
  .n (some ((.loc 0), false)) (.mov (.var 5)),
  .n (some ((.loc 1), false)) (.bin .gtr (.int .i64) (.loc 0) (.k (.d (.int .i64 60000)))),
  .n (some ((.loc 5), true)) (.pick (.loc 2) (.k (.d (.bool true))) (.loc 0)),
  .n (some ((.loc 15), false)) (.pick (.loc 6) (.loc 0) (.k (.d (.bool false)))),
  .n none (.pick (.loc 16) (.k (.d (.bool true))) (.loc 0))], [(8, 0)]⟩
@[reducible] def c58r7 : Reg := ⟨[.n none (.mov (.k (.d (.bool false))))], [(3, 0)]⟩
@[reducible] def c58r8 : Reg := ⟨[.n none (.mov (.var 4)),
  .n none (.bin .add (.int .i64) (.loc 0) (.k (.d (.int .i64 1)))),
  .n none (.mov (.loc 0))], [(4, 0)]⟩
@[reducible] def c58r9 : Reg := ⟨[.n none (.mov (.k (.d (.bool true))))], [(3, 0)]⟩
def c58 : C := (.seq (.reg c58r0) (.seq (.seq (.reg c58r1) (.cond (.var 6) (.seq (.reg c58r2) .ret) .skip)) (.seq (.seq (.reg c58r3) (.block 0 (.loop (.seq (.seq (.reg c58r4) (.cond (.var 7) .skip (.exit 0))) (.seq (.block 1 (.seq (.reg c58r5) (.seq (.reg c58r6) (.cond (.var 8) (.seq (.reg c58r7) .ret) .skip)))) (.reg c58r8)))))) (.seq (.reg c58r9) .ret))))
def r58 : List RV := [(.tmp 3)]
/- cmp.isNaN[int] params 1 free 0 -/
def v71 : List Tmp := [0, 2]
@[reducible] def c71r0 : Reg := ⟨[.n none (.mov (.k (.d (.bool false))))], [(1, 0)]⟩
@[reducible] def c71r1 : Reg := ⟨[.n none (.mov (.var 0)),
  .n none (.mov (.var 0)),
  .n none (.bin .neq (.int .i64) (.loc 1) (.loc 0)),
  .n none (.mov (.loc 0))], [(1, 0)]⟩
def c71 : C := (.seq (.reg c71r0) (.seq (.reg c71r1) .ret))
def r71 : List RV := [(.tmp 1)]

theorem e10 : compFn Go.Proofs.Try.prog v10 [] 10 = some (c10, r10) := by kernel_rfl
theorem e11 : compFn Go.Proofs.Try.prog v11 [] 11 = some (c11, r11) := by kernel_rfl
theorem e12 : compFn Go.Proofs.Try.prog v12 [] 12 = some (c12, r12) := by kernel_rfl
theorem e15 : compFn Go.Proofs.Try.prog v15 [] 15 = some (c15, r15) := by kernel_rfl
theorem e17 : compFn Go.Proofs.Try.prog v17 [] 17 = some (c17, r17) := by kernel_rfl
theorem e18 : compFn Go.Proofs.Try.prog v18 [] 18 = some (c18, r18) := by kernel_rfl
theorem e20 : compFn Go.Proofs.Try.prog v20 [] 20 = some (c20, r20) := by kernel_rfl
theorem e22 : compFn Go.Proofs.Try.prog v22 [] 22 = some (c22, r22) := by kernel_rfl
theorem e23 : compFn Go.Proofs.Try.prog v23 [] 23 = some (c23, r23) := by kernel_rfl
theorem e26 : compFn Go.Proofs.Try.prog v26 [] 26 = some (c26, r26) := by kernel_rfl
theorem e27 : compFn Go.Proofs.Try.prog v27 [] 27 = some (c27, r27) := by kernel_rfl
theorem e28 : compFn Go.Proofs.Try.prog v28 [] 28 = some (c28, r28) := by kernel_rfl
theorem e29 : compFn Go.Proofs.Try.prog v29 [] 29 = some (c29, r29) := by kernel_rfl
theorem e30 : compFn Go.Proofs.Try.prog v30 [74, 108] 30 = some (c30, r30) := by kernel_rfl
theorem e31 : compFn Go.Proofs.Try.prog v31 [] 31 = some (c31, r31) := by kernel_rfl
theorem e33 : compFn Go.Proofs.Try.prog v33 [] 33 = some (c33, r33) := by kernel_rfl
theorem e34 : compFn Go.Proofs.Try.prog v34 [] 34 = some (c34, r34) := by kernel_rfl
theorem e35 : compFn Go.Proofs.Try.prog v35 [] 35 = some (c35, r35) := by kernel_rfl
theorem e36 : compFn Go.Proofs.Try.prog v36 [] 36 = some (c36, r36) := by kernel_rfl
theorem e37 : compFn Go.Proofs.Try.prog v37 [] 37 = some (c37, r37) := by kernel_rfl
theorem e38 : compFn Go.Proofs.Try.prog v38 [] 38 = some (c38, r38) := by kernel_rfl
theorem e39 : compFn Go.Proofs.Try.prog v39 [] 39 = some (c39, r39) := by kernel_rfl
theorem e45 : compFn Go.Proofs.Try.prog v45 [] 45 = some (c45, r45) := by kernel_rfl
theorem e47 : compFn Go.Proofs.Try.prog v47 [44] 47 = some (c47, r47) := by kernel_rfl
theorem e48 : compFn Go.Proofs.Try.prog v48 [] 48 = some (c48, r48) := by kernel_rfl
theorem e49 : compFn Go.Proofs.Try.prog v49 [5] 49 = some (c49, r49) := by kernel_rfl
theorem e50 : compFn Go.Proofs.Try.prog v50 [] 50 = some (c50, r50) := by kernel_rfl
theorem e53 : compFn Go.Proofs.Try.prog v53 [] 53 = some (c53, r53) := by kernel_rfl
theorem e54 : compFn Go.Proofs.Try.prog v54 [] 54 = some (c54, r54) := by kernel_rfl
theorem e58 : compFn Go.Proofs.Try.prog v58 [] 58 = some (c58, r58) := by kernel_rfl
theorem e71 : compFn Go.Proofs.Try.prog v71 [] 71 = some (c71, r71) := by kernel_rfl
end Go.Vm.L
