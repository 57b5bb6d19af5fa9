/- The lattice functions in the machine's code, as the loaded program compiles to it. -/
import Derived.Test.YtibpfnjbgojfoaaDoorV7
import Derived.Test.YtibpfnjbgojfoaaDoorChecked
import Derived.KernelRfl
namespace Go.Vm.L
open Go Go.Vm
set_option maxRecDepth 100000
instance : Gl := ⟨[(0, .agg [.nilf, .fn 80, .fn 81, .fn 82, .fn 83])]⟩
/- emendate/emendatelaw37.awake params 0 free 0 -/
def v4 : List Tmp := [0, 1, 2, 4, 5, 6]
@[reducible] def c4r0 : Reg := ⟨[.n none (.mov (.k (.d (.bool false))))], [(0, 0)]⟩
@[reducible] def c4r1 : Reg := ⟨[.n none (.lit 1 (.d (.int .i64 0)) 2 [(0, (.k (.d (.int .i64 0)))), (1, (.k (.d (.int .i64 (-1)))))] false),
  .n none (.build [(.d (.int .i64 0)), .nils, (.d (.int .i64 0))] [(0, 1, (.k (.d (.int .i64 0)))), (1, 1, (.loc 0)), (2, 1, (.k (.d (.int .i64 5))))]),
  .n none (.lit 3 (.agg [(.d (.int .i64 0)), .nils, (.d (.int .i64 0))]) 1 [(0, (.loc 0))] false),
  .n none (.lit 1 (.d (.int .i64 0)) 2 [(0, (.k (.d (.int .i64 3)))), (1, (.k (.d (.int .i64 3))))] false),
  .n none (.build [.nils, .nils, (.d (.int .i64 0))] [(0, 1, (.loc 1)), (1, 1, (.loc 0)), (2, 1, (.k (.d (.int .i64 4))))]),
  .n none (.alloc 3 (.agg [.nils, .nils, (.d (.int .i64 0))])),
  .e none (.store 3 true (.loc 0) (.loc 1)) [] [] false], [(1, 1)]⟩
@[reducible] def c4r2 : Reg := ⟨[.n none (.load 3 true (.var 1)),
  .e none (.call 6 [(.loc 0)]) [] [] false,
  .n none (.alloc 3 (.agg [(.d (.int .i64 0)), .nils, .nils])),
  .e none (.store 3 true (.loc 0) (.loc 1)) [] [] false], [(2, 1)]⟩
@[reducible] def c4r3 : Reg := ⟨[.n none (.load 3 true (.var 1)),
  .n none (.load 3 true (.var 2)),
  .n none (.lit 1 (.d (.int .i64 0)) 1 [(0, (.k (.d (.int .i64 9))))] false),
  .e none (.call 11 [(.loc 2), (.loc 1), (.loc 0)]) [] [] false,
  .n none (.mov (.loc 0)),
  .n none (.extract 0 (.loc 0)),
  .n none (.extract 1 (.loc 1)),
  .n none (.mov (.loc 1)),
  .n none (.mov (.loc 1))], [(3, 0)]⟩
@[reducible] def c4r4 : Reg := ⟨[.n none (.load 3 true (.var 1)),
  .n none (.load 3 true (.var 2)),
  .n none (.lit 1 (.d (.int .i64 0)) 1 [(0, (.k (.d (.int .i64 3))))] false),
  .e none (.call 11 [(.loc 2), (.loc 1), (.loc 0)]) [] [] false,
  .n none (.mov (.loc 0)),
  .n none (.extract 0 (.loc 0)),
  .n none (.extract 1 (.loc 1)),
  .n none (.mov (.loc 1)),
  .n none (.mov (.loc 1))], [(4, 1), (5, 0)]⟩
@[reducible] def c4r5 : Reg := ⟨[.n none (.fieldAddr 0 (.var 2)),
  .n none (.load 1 false (.loc 0)),
  .n none (.bin .eql (.int .i64) (.loc 0) (.k (.d (.int .i64 3)))),
  .n none (.mov (.loc 0)),
  .n (some ((.loc 0), true)) (.fieldAddr 1 (.var 2)),
  .n (some ((.loc 1), true)) (.load 1 false (.loc 0)),
  .n (some ((.loc 2), true)) (.len 0 (.loc 0)),
  .n (some ((.loc 3), true)) (.bin .eql (.int .i64) (.loc 0) (.k (.d (.int .i64 6)))),
  .n none (.pick (.loc 4) (.loc 0) (.k (.d (.bool false)))),
  .n none (.mov (.loc 0)),
  .n (some ((.loc 0), true)) (.fieldAddr 1 (.var 2)),
  .n (some ((.loc 1), true)) (.load 1 false (.loc 0)),
  .n (some ((.loc 2), true)) (.idxAddr 5 (.loc 0) (.k (.d (.int .i64 3)))),
  .n (some ((.loc 3), true)) (.load 5 true (.loc 0)),
  .n (some ((.loc 4), true)) (.build [(.d (.int .i64 0)), (.d (.int .i64 0))] [(0, 1, (.k (.d (.int .i64 2))))]),
  .n (some ((.loc 5), true)) (.build [(.d (.int .i64 0)), (.d (.int .i64 0))] [(0, 1, (.k (.d (.int .i64 3)))), (1, 1, (.k (.d (.int .i64 1))))]),
  .n (some ((.loc 6), true)) (.lit 2 (.d (.agg [(.int .i64 0), (.int .i64 0)])) 2 [(0, (.loc 1)), (1, (.loc 0))] false),
  .n (some ((.loc 7), true)) (.build [(.d (.int .i64 0)), (.d (.int .i64 0)), (.d (.int .i64 0)), (.d (.int .i64 0)), .nils] [(0, 1, (.k (.d (.int .i64 0)))), (1, 1, (.k (.d (.int .i64 2)))), (2, 1, (.k (.d (.int .i64 1)))), (3, 1, (.k (.d (.int .i64 8)))), (4, 1, (.loc 0))]),
  .e (some ((.loc 8), true)) (.call 15 [(.loc 4), (.loc 0)]) [] [] false,
  .n none (.pick (.loc 9) (.loc 0) (.k (.d (.bool false)))),
  .n none (.mov (.loc 0)),
  .n (some ((.loc 0), true)) (.fieldAddr 2 (.var 2)),
  .n (some ((.loc 1), true)) (.load 1 false (.loc 0)),
  .n (some ((.loc 2), true)) (.lit 1 (.d (.int .i64 0)) 3 [(0, (.k (.d (.int .i64 5)))), (1, (.k (.d (.int .i64 1099511627776)))), (2, (.k (.d (.int .i64 0))))] false),
  .e (some ((.loc 3), true)) (.call 14 [(.loc 1), (.loc 0)]) [] [] false,
  .n none (.pick (.loc 4) (.loc 0) (.k (.d (.bool false)))),
  .n none (.mov (.loc 0)),
  .n (some ((.loc 0), true)) (.load 3 true (.var 2)),
  .n (some ((.loc 1), true)) (.lit 1 (.d (.int .i64 0)) 1 [(0, (.k (.d (.int .i64 1))))] false),
  .e (some ((.loc 2), true)) (.call 16 [(.loc 1), (.loc 0)]) [] [] false,
  .n (some ((.loc 3), true)) (.bin .eql (.int .i64) (.loc 0) (.k (.d (.int .i64 8)))),
  .n none (.pick (.loc 4) (.loc 0) (.k (.d (.bool false)))),
  .n none (.mov (.loc 0)),
  .n (some ((.loc 0), true)) (.load 3 true (.var 2)),
  .n (some ((.loc 1), true)) (.lit 1 (.d (.int .i64 0)) 1 [(0, (.k (.d (.int .i64 0))))] false),
  .e (some ((.loc 2), true)) (.call 16 [(.loc 1), (.loc 0)]) [] [] false,
  .n (some ((.loc 3), true)) (.bin .eql (.int .i64) (.loc 0) (.k (.d (.int .i64 0)))),
  .n none (.pick (.loc 4) (.loc 0) (.k (.d (.bool false)))),
  .n none (.mov (.loc 0)),
  .n (some ((.loc 0), true)) (.mov (.var 3)),
  .n (some ((.loc 1), true)) (.bin .eql (.int .i64) (.loc 0) (.k (.d (.int .i64 1)))),
  .n none (.pick (.loc 2) (.loc 0) (.k (.d (.bool false)))),
  .n none (.mov (.loc 0)),
  .n (some ((.loc 0), true)) (.mov (.var 5)),
  .n (some ((.loc 1), true)) (.bin .eql (.int .i64) (.loc 0) (.k (.d (.int .i64 0)))),
  .n none (.pick (.loc 2) (.loc 0) (.k (.d (.bool false)))),
  .n none (.mov (.loc 0)),
  .n (some ((.loc 0), true)) (.mov (.var 4)),
  .n (some ((.loc 1), true)) (.fieldAddr 1 (.var 2)),
  .n (some ((.loc 2), true)) (.load 1 false (.loc 0)),
  .n (some ((.loc 3), true)) (.idxAddr 5 (.loc 0) (.k (.d (.int .i64 3)))),
  .n (some ((.loc 4), true)) (.fieldAddr 4 (.loc 0)),
  .n (some ((.loc 5), true)) (.load 1 false (.loc 0)),
  .e (some ((.loc 6), true)) (.call 17 [(.loc 5), (.loc 0)]) [] [] false,
  .n none (.pick (.loc 7) (.loc 0) (.k (.d (.bool false)))),
  .n none (.mov (.loc 0)),
  .n (some ((.loc 0), true)) (.load 3 true (.var 2)),
  .e (some ((.loc 1), true)) (.call 18 [(.loc 0), (.k (.d (.int .i64 2)))]) [] [] false,
  .n none (.pick (.loc 2) (.loc 0) (.k (.d (.bool false)))),
  .n none (.mov (.loc 0)),
  .n (some ((.loc 0), true)) (.load 3 true (.var 2)),
  .e (some ((.loc 1), true)) (.call 18 [(.loc 0), (.k (.d (.int .i64 1)))]) [] [] false,
  .n (some ((.loc 2), true)) (.not (.loc 0)),
  .n none (.pick (.loc 3) (.loc 0) (.k (.d (.bool false)))),
  .n none (.mov (.loc 0))], [(0, 0)]⟩
def c4 : C := (.seq (.reg c4r0) (.seq (.reg c4r1) (.seq (.reg c4r2) (.seq (.reg c4r3) (.seq (.reg c4r4) (.seq (.reg c4r5) .ret))))))
def r4 : List RV := [(.tmp 0)]
/- emendate/emendatelaw37.fair params 2 free 0 -/
def v5 : List Tmp := [0, 1, 2, 4]
@[reducible] def c5r0 : Reg := ⟨[.n none (.box 3 (.var 0)),
  .n none (.mov (.k (.d (.bool false))))], [(2, 1), (3, 0)]⟩
@[reducible] def c5r1 : Reg := ⟨[.n none (.load 3 true (.var 2)),
  .n none (.mov (.var 1)),
  .e none (.call 19 [(.loc 1), (.loc 0), (.k (.d (.int .i64 5)))]) [] [] false,
  .n none (.mov (.loc 0)),
  .n (some ((.loc 0), true)) (.load 3 true (.var 2)),
  .n (some ((.loc 1), true)) (.fieldAddr 1 (.var 2)),
  .n (some ((.loc 2), true)) (.load 1 false (.loc 0)),
  .n (some ((.loc 3), true)) (.len 0 (.loc 0)),
  .e (some ((.loc 4), true)) (.call 20 [(.loc 3), (.loc 0)]) [] [] false,
  .n none (.pick (.loc 5) (.loc 0) (.k (.d (.bool false)))),
  .n none (.mov (.loc 0))], [(3, 0)]⟩
def c5 : C := (.seq (.reg c5r0) (.seq (.reg c5r1) .ret))
def r5 : List RV := [(.tmp 3)]
/- emendate/lattice.Build params 1 free 0 -/
def v6 : List Tmp := [0, 1, 2, 3, 4, 5, 6, 7, 8, 10, 28, 29, 30, 52, 54, 63, 64, 65, 66]
@[reducible] def c6r0 : Reg := ⟨[.n none (.box 3 (.var 0)),
  .n none (.alloc 3 (.agg [(.d (.int .i64 0)), .nils, .nils]))], [(1, 1), (2, 0)]⟩
@[reducible] def c6r1 : Reg := ⟨[.n none (.load 3 true (.var 1)),
  .n none (.mkMap (.many [(.int .i64), (.int .i64), (.int .i64)])),
  .n none (.build [.nils, .nils, (.d (.int .i64 0)), (.d .nilm)] [(0, 3, (.loc 1)), (3, 1, (.loc 0))]),
  .n none (.box 4 (.loc 0)),
  .n none (.mov (.loc 0))], [(3, 0)]⟩
@[reducible] def c6r2 : Reg := ⟨[.n none (.fieldAddr 0 (.var 1)),
  .n none (.load 1 false (.loc 0)),
  .n none (.len 0 (.loc 0)),
  .n none (.mov (.loc 0))], [(4, 0)]⟩
@[reducible] def c6r3 : Reg := ⟨[.n none (.mov (.var 4)),
  .n none (.bin .mul (.int .i64) (.k (.d (.int .i64 2))) (.loc 0)),
  .n none (.bin .add (.int .i64) (.loc 0) (.k (.d (.int .i64 1)))),
  .n none (.lit 1 (.d (.int .i64 0)) 1 [(0, (.k (.d (.int .i64 1099511627776))))] false),
  .n none (.mov (.var 4)),
  .n none (.bin .mul (.int .i64) (.k (.d (.int .i64 2))) (.loc 0)),
  .n none (.bin .add (.int .i64) (.loc 0) (.k (.d (.int .i64 1)))),
  .e none (.call 21 [(.loc 3), (.loc 0)]) [] [] false,
  .n none (.build [(.d (.int .i64 0)), .nils, .nils] [(0, 1, (.loc 5)), (2, 1, (.loc 0))]),
  .n none (.alloc 3 (.agg [(.d (.int .i64 0)), .nils, .nils])),
  .e none (.store 3 true (.loc 0) (.loc 1)) [] [] false], [(5, 1)]⟩
@[reducible] def c6r4 : Reg := ⟨[.n none (.mov (.var 4)),
  .n none (.bin .add (.int .i64) (.loc 0) (.k (.d (.int .i64 1)))),
  .n none (.mov (.k (.d (.int .i64 0))))], [(10, 1), (11, 0)]⟩
@[reducible] def c6r5 : Reg := ⟨[.n none (.bin .lss (.int .i64) (.var 11) (.var 10))], [(12, 0)]⟩
@[reducible] def c6r6 : Reg := ⟨[.n none (.mov (.var 11)),
  .n none (.mov (.loc 0))], [(6, 0)]⟩
@[reducible] def c6r7 : Reg := ⟨[.n none (.mov (.var 3)),
  .n none (.mov (.var 6)),
  .e none (.call 22 [(.loc 1), (.loc 0)]) [] [] false], []⟩
@[reducible] def c6r8 : Reg := ⟨[.n none (.fieldAddr 2 (.var 5)),
  .n none (.load 1 false (.loc 0)),
  .n none (.mov (.var 6)),
  .n none (.bin .mul (.int .i64) (.k (.d (.int .i64 2))) (.loc 0)),
  .n none (.mov (.var 3)),
  .n none (.mov (.var 6)),
  .n none (.mov (.var 4)),
  .e none (.call 23 [(.loc 2), (.loc 1), (.loc 0)]) [(.loc 6)] [] false,
  .n none (.mov (.loc 0)),
  .n none (.extract 0 (.loc 0)),
  .n none (.extract 1 (.loc 1)),
  .n none (.idxAddr 1 (.loc 9) (.loc 7)),
  .e none (.store 1 false (.loc 0) (.loc 2)) [] [] false], []⟩
@[reducible] def c6r9 : Reg := ⟨[.n none (.bin .add (.int .i64) (.var 11) (.k (.d (.int .i64 1)))),
  .n none (.mov (.loc 0))], [(11, 0)]⟩
@[reducible] def c6r10 : Reg := ⟨[.n none (.mov (.k .nils))], [(7, 0)]⟩
@[reducible] def c6r11 : Reg := ⟨[.n none (.mov (.var 3)),
  .n none (.nilCheck (.loc 0)),
  .n none (.fieldAddr 3 (.loc 0)),
  .n none (.load 1 false (.loc 0)),
  .e none (.range (.loc 0)) [] [] false], [(13, 0)]⟩
@[reducible] def c6r12 : Reg := ⟨[.e none (.next (.var 13)) [] [] false,
  .n none (.extract 0 (.loc 0))], [(14, 0)]⟩
@[reducible] def c6r13 : Reg := ⟨[.e none (.entry (.var 13)) [] [] false,
  .n none (.extract 0 (.loc 0)),
  .n none (.alloc 3 (.d (.agg [(.int .i64 0), (.int .i64 0), (.int .i64 0)]))),
  .e none (.store 3 true (.loc 0) (.loc 1)) [] [] false], [(8, 1)]⟩
@[reducible] def c6r14 : Reg := ⟨[.n none (.mov (.var 7)),
  .n none (.load 3 true (.var 8)),
  .n none (.lit 3 (.d (.agg [(.int .i64 0), (.int .i64 0), (.int .i64 0)])) 1 [(0, (.loc 0))] false),
  .e none (.append 3 24 (.loc 2) (.loc 0)) [] [] false,
  .n none (.mov (.loc 0))], [(7, 0)]⟩
@[reducible] def c6r15 : Reg := ⟨[.n none (.mov (.var 7)),
  .e none (.call 24 [(.loc 0), (.k (.d (.fn 25)))]) [] [] false], []⟩
@[reducible] def c6r16 : Reg := ⟨[.n none (.mov (.var 7)),
  .n none (.len 0 (.loc 0)),
  .n none (.mov (.k (.d (.int .i64 0))))], [(15, 2), (16, 1), (17, 0)]⟩
@[reducible] def c6r17 : Reg := ⟨[.n none (.bin .lss (.int .i64) (.var 17) (.var 16))], [(18, 0)]⟩
@[reducible] def c6r18 : Reg := ⟨[.n none (.idxAddr 3 (.var 15) (.var 17)),
  .n none (.load 3 true (.loc 0)),
  .n none (.alloc 3 (.d (.agg [(.int .i64 0), (.int .i64 0), (.int .i64 0)]))),
  .e none (.store 3 true (.loc 0) (.loc 1)) [] [] false], [(9, 1)]⟩
@[reducible] def c6r19 : Reg := ⟨[.n none (.fieldAddr 1 (.var 5)),
  .n none (.load 1 false (.loc 0)),
  .n none (.mov (.var 3)),
  .n none (.nilCheck (.loc 0)),
  .n none (.fieldAddr 3 (.loc 0)),
  .n none (.load 1 false (.loc 0)),
  .n none (.load 3 true (.var 9)),
  .n none (.lookup false (.many [(.int .i64), (.int .i64), (.int .i64)]) (.agg [(.d (.int .i64 0)), (.d (.int .i64 0)), (.d (.int .i64 0)), (.d (.int .i64 0)), .nils]) (.loc 1) (.loc 0)),
  .n none (.lit 5 (.agg [(.d (.int .i64 0)), (.d (.int .i64 0)), (.d (.int .i64 0)), (.d (.int .i64 0)), .nils]) 1 [(0, (.loc 0))] false),
  .e none (.append 5 56 (.loc 7) (.loc 0)) [] [] false,
  .n none (.fieldAddr 1 (.var 5)),
  .e none (.store 1 false (.loc 0) (.loc 1)) [] [] false], []⟩
@[reducible] def c6r20 : Reg := ⟨[.n none (.bin .add (.int .i64) (.var 17) (.k (.d (.int .i64 1)))),
  .n none (.mov (.loc 0))], [(17, 0)]⟩
@[reducible] def c6r21 : Reg := ⟨[.n none (.load 3 true (.var 5)),
  .e none (.store 3 true (.var 2) (.loc 0)) [] [] false], []⟩
def c6 : C := (.seq (.reg c6r0) (.seq (.reg c6r1) (.seq (.reg c6r2) (.seq (.reg c6r3) (.seq (.seq (.reg c6r4) (.block 0 (.loop (.seq (.reg c6r5) (.seq (.cond (.var 12) .skip (.exit 0)) (.seq (.block 1 (.seq (.reg c6r6) (.seq (.reg c6r7) (.reg c6r8)))) (.reg c6r9))))))) (.seq (.reg c6r10) (.seq (.seq (.reg c6r11) (.block 2 (.loop (.seq (.reg c6r12) (.seq (.cond (.var 14) .skip (.exit 2)) (.block 3 (.seq (.reg c6r13) (.reg c6r14)))))))) (.seq (.reg c6r15) (.seq (.seq (.reg c6r16) (.block 4 (.loop (.seq (.reg c6r17) (.seq (.cond (.var 18) .skip (.exit 4)) (.seq (.block 5 (.seq (.reg c6r18) (.reg c6r19))) (.reg c6r20))))))) (.seq (.reg c6r21) .ret))))))))))
def r6 : List RV := [(.cell 2 3 true)]
/- emendate/lattice.Script params 3 free 0 -/
def v11 : List Tmp := [0, 1, 2, 3, 4, 6, 7, 8, 9, 11, 12, 13, 14, 15, 36, 57, 63, 64, 65]
@[reducible] def c11r0 : Reg := ⟨[.n none (.box 3 (.var 0)),
  .n none (.box 3 (.var 1)),
  .n none (.mov (.k .nils)),
  .n none (.mov (.k (.d (.int .i64 0))))], [(3, 3), (4, 2), (5, 1), (6, 0)]⟩
@[reducible] def c11r1 : Reg := ⟨[.n none (.mov (.k (.d (.int .i64 0))))], [(7, 0)]⟩
@[reducible] def c11r2 : Reg := ⟨[.n none (.mov (.k .nils))], [(8, 0)]⟩
@[reducible] def c11r3 : Reg := ⟨[.n none (.mov (.var 2)),
  .n none (.len 0 (.loc 0)),
  .n none (.mov (.k (.d (.int .i64 0))))], [(10, 2), (11, 1), (12, 0)]⟩
@[reducible] def c11r4 : Reg := ⟨[.n none (.bin .lss (.int .i64) (.var 12) (.var 11))], [(13, 0)]⟩
@[reducible] def c11r5 : Reg := ⟨[.n none (.idxAddr 1 (.var 10) (.var 12)),
  .n none (.load 1 false (.loc 0)),
  .n none (.mov (.loc 0))], [(9, 0)]⟩
@[reducible] def c11r6 : Reg := ⟨[.n none (.mov (.var 9)),
  .n none (.bin .lss (.int .i64) (.loc 0) (.k (.d (.int .i64 0)))),
  .n none (.mov (.loc 0)),
  .n (some ((.loc 0), false)) (.mov (.var 9)),
  .n (some ((.loc 1), false)) (.fieldAddr 1 (.var 4)),
  .n (some ((.loc 2), false)) (.load 1 false (.loc 0)),
  .n (some ((.loc 3), false)) (.len 0 (.loc 0)),
  .n (some ((.loc 4), false)) (.bin .geq (.int .i64) (.loc 3) (.loc 0)),
  .n none (.pick (.loc 5) (.k (.d (.bool true))) (.loc 0)),
  .n none (.mov (.loc 0)),
  .n (some ((.loc 0), false)) (.fieldAddr 1 (.var 4)),
  .n (some ((.loc 1), false)) (.load 1 false (.loc 0)),
  .n (some ((.loc 2), false)) (.mov (.var 9)),
  .n (some ((.loc 3), false)) (.idxAddr 5 (.loc 1) (.loc 0)),
  .n (some ((.loc 4), false)) (.fieldAddr 0 (.loc 0)),
  .n (some ((.loc 5), false)) (.load 1 false (.loc 0)),
  .n (some ((.loc 6), false)) (.mov (.var 7)),
  .n (some ((.loc 7), false)) (.bin .neq (.int .i64) (.loc 1) (.loc 0)),
  .n none (.pick (.loc 8) (.k (.d (.bool true))) (.loc 0))], [(14, 0)]⟩
@[reducible] def c11r7 : Reg := ⟨[.n none (.mov (.k .nils)),
  .n none (.mov (.k (.d (.int .i64 1))))], [(5, 1), (6, 0)]⟩
@[reducible] def c11r8 : Reg := ⟨[.n none (.fieldAddr 1 (.var 4)),
  .n none (.load 1 false (.loc 0)),
  .n none (.mov (.var 9)),
  .n none (.idxAddr 5 (.loc 1) (.loc 0)),
  .n none (.fieldAddr 1 (.loc 0)),
  .n none (.load 1 false (.loc 0)),
  .n none (.mov (.loc 0))], [(7, 0)]⟩
@[reducible] def c11r9 : Reg := ⟨[.n none (.mov (.var 8)),
  .n none (.fieldAddr 1 (.var 4)),
  .n none (.load 1 false (.loc 0)),
  .n none (.mov (.var 9)),
  .n none (.idxAddr 5 (.loc 1) (.loc 0)),
  .n none (.fieldAddr 4 (.loc 0)),
  .n none (.load 1 false (.loc 0)),
  .e none (.append 2 16 (.loc 6) (.loc 0)) [] [] false,
  .n none (.mov (.loc 0))], [(8, 0)]⟩
@[reducible] def c11r10 : Reg := ⟨[.n none (.bin .add (.int .i64) (.var 12) (.k (.d (.int .i64 1)))),
  .n none (.mov (.loc 0))], [(12, 0)]⟩
@[reducible] def c11r11 : Reg := ⟨[.n none (.fieldAddr 2 (.var 4)),
  .n none (.load 1 false (.loc 0)),
  .n none (.mov (.var 7)),
  .n none (.idxAddr 1 (.loc 1) (.loc 0)),
  .n none (.load 1 false (.loc 0)),
  .n none (.bin .geq (.int .i64) (.loc 0) (.k (.d (.int .i64 1099511627776))))], [(15, 0)]⟩
@[reducible] def c11r12 : Reg := ⟨[.n none (.mov (.k .nils)),
  .n none (.mov (.k (.d (.int .i64 1))))], [(5, 1), (6, 0)]⟩
@[reducible] def c11r13 : Reg := ⟨[.n none (.fieldAddr 0 (.var 3)),
  .n none (.load 1 false (.loc 0)),
  .n none (.len 0 (.loc 0)),
  .n none (.mov (.var 7)),
  .n none (.bin .quo (.int .i64) (.loc 0) (.k (.d (.int .i64 2)))),
  .n none (.bin .sub (.int .i64) (.loc 2) (.loc 0)),
  .n none (.mov (.k (.d (.int .i64 0))))], [(16, 1), (17, 0)]⟩
@[reducible] def c11r14 : Reg := ⟨[.n none (.bin .lss (.int .i64) (.var 17) (.var 16))], [(18, 0)]⟩
@[reducible] def c11r15 : Reg := ⟨[.n none (.mov (.var 8)),
  .n none (.build [(.d (.int .i64 0)), (.d (.int .i64 0))] [(0, 1, (.k (.d (.int .i64 2))))]),
  .n none (.lit 2 (.d (.agg [(.int .i64 0), (.int .i64 0)])) 1 [(0, (.loc 0))] false),
  .e none (.append 2 16 (.loc 2) (.loc 0)) [] [] false,
  .n none (.mov (.loc 0))], [(8, 0)]⟩
@[reducible] def c11r16 : Reg := ⟨[.n none (.bin .add (.int .i64) (.var 17) (.k (.d (.int .i64 1)))),
  .n none (.mov (.loc 0))], [(17, 0)]⟩
@[reducible] def c11r17 : Reg := ⟨[.n none (.mov (.var 8)),
  .n none (.mov (.loc 0)),
  .n none (.mov (.k (.d (.int .i64 0))))], [(5, 1), (6, 0)]⟩
def c11 : C := (.seq (.reg c11r0) (.seq (.reg c11r1) (.seq (.reg c11r2) (.seq (.seq (.reg c11r3) (.block 0 (.loop (.seq (.reg c11r4) (.seq (.cond (.var 13) .skip (.exit 0)) (.seq (.block 1 (.seq (.reg c11r5) (.seq (.seq (.reg c11r6) (.cond (.var 14) (.seq (.reg c11r7) .ret) .skip)) (.seq (.reg c11r8) (.reg c11r9))))) (.reg c11r10))))))) (.seq (.seq (.reg c11r11) (.cond (.var 15) (.seq (.reg c11r12) .ret) .skip)) (.seq (.seq (.reg c11r13) (.block 2 (.loop (.seq (.reg c11r14) (.seq (.cond (.var 18) .skip (.exit 2)) (.seq (.block 3 (.reg c11r15)) (.reg c11r16))))))) (.seq (.reg c11r17) .ret)))))))
def r11 : List RV := [(.tmp 5), (.tmp 6)]
/- emendate/emendateref37.Ints params 2 free 0 -/
def v14 : List Tmp := [0, 1, 4, 5, 10, 14, 25]
@[reducible] def c14r0 : Reg := ⟨[.n none (.mov (.k (.d (.bool false))))], [(2, 0)]⟩
@[reducible] def c14r1 : Reg := ⟨[.n none (.mov (.var 0)),
  .n none (.len 0 (.loc 0)),
  .n none (.mov (.var 1)),
  .n none (.len 0 (.loc 0)),
  .n none (.bin .neq (.int .i64) (.loc 2) (.loc 0))], [(4, 0)]⟩
@[reducible] def c14r2 : Reg := ⟨[.n none (.mov (.k (.d (.bool false))))], [(2, 0)]⟩
@[reducible] def c14r3 : Reg := ⟨[.n none (.mov (.k (.d (.int .i64 0))))], [(3, 0)]⟩
@[reducible] def c14r4 : Reg := ⟨[.n none (.mov (.var 3)),
  .n none (.mov (.var 0)),
  .n none (.len 0 (.loc 0)),
  .n none (.bin .lss (.int .i64) (.loc 2) (.loc 0))], [(5, 0)]⟩
@[reducible] def c14r5 : Reg := ⟨[.n none (.mov (.var 0)),
  .n none (.mov (.var 3)),
  .n none (.idxAddr 1 (.loc 1) (.loc 0)),
  .n none (.load 1 false (.loc 0)),
  .n none (.mov (.var 1)),
  .n none (.mov (.var 3)),
  .n none (.idxAddr 1 (.loc 1) (.loc 0)),
  .n none (.load 1 false (.loc 0)),
  .n none (.bin .neq (.int .i64) (.loc 4) (.loc 0))], [(6, 0)]⟩
@[reducible] def c14r6 : Reg := ⟨[.n none (.mov (.k (.d (.bool false))))], [(2, 0)]⟩
@[reducible] def c14r7 : Reg := ⟨[.n none (.mov (.var 3)),
  .n none (.bin .add (.int .i64) (.loc 0) (.k (.d (.int .i64 1)))),
  .n none (.mov (.loc 0))], [(3, 0)]⟩
@[reducible] def c14r8 : Reg := ⟨[.n none (.mov (.k (.d (.bool true))))], [(2, 0)]⟩
def c14 : C := (.seq (.reg c14r0) (.seq (.seq (.reg c14r1) (.cond (.var 4) (.seq (.reg c14r2) .ret) .skip)) (.seq (.seq (.reg c14r3) (.block 0 (.loop (.seq (.seq (.reg c14r4) (.cond (.var 5) .skip (.exit 0))) (.seq (.block 1 (.seq (.reg c14r5) (.cond (.var 6) (.seq (.reg c14r6) .ret) .skip))) (.reg c14r7)))))) (.seq (.reg c14r8) .ret))))
def r14 : List RV := [(.tmp 2)]
/- emendate/emendateref37.SameArc params 2 free 0 -/
def v15 : List Tmp := [0, 1, 2, 3, 4]
@[reducible] def c15r0 : Reg := ⟨[.n none (.box 5 (.var 0)),
  .n none (.box 5 (.var 1)),
  .n none (.mov (.k (.d (.bool false))))], [(2, 2), (3, 1), (4, 0)]⟩
@[reducible] def c15r1 : Reg := ⟨[.n none (.fieldAddr 0 (.var 2)),
  .n none (.load 1 false (.loc 0)),
  .n none (.fieldAddr 0 (.var 3)),
  .n none (.load 1 false (.loc 0)),
  .n none (.bin .eql (.int .i64) (.loc 2) (.loc 0)),
  .n none (.mov (.loc 0)),
  .n (some ((.loc 0), true)) (.fieldAddr 1 (.var 2)),
  .n (some ((.loc 1), true)) (.load 1 false (.loc 0)),
  .n (some ((.loc 2), true)) (.fieldAddr 1 (.var 3)),
  .n (some ((.loc 3), true)) (.load 1 false (.loc 0)),
  .n (some ((.loc 4), true)) (.bin .eql (.int .i64) (.loc 2) (.loc 0)),
  .n none (.pick (.loc 5) (.loc 0) (.k (.d (.bool false)))),
  .n none (.mov (.loc 0)),
  .n (some ((.loc 0), true)) (.fieldAddr 2 (.var 2)),
  .n (some ((.loc 1), true)) (.load 1 false (.loc 0)),
  .n (some ((.loc 2), true)) (.fieldAddr 2 (.var 3)),
  .n (some ((.loc 3), true)) (.load 1 false (.loc 0)),
  .n (some ((.loc 4), true)) (.bin .eql (.int .i64) (.loc 2) (.loc 0)),
  .n none (.pick (.loc 5) (.loc 0) (.k (.d (.bool false)))),
  .n none (.mov (.loc 0)),
  .n (some ((.loc 0), true)) (.fieldAddr 3 (.var 2)),
  .n (some ((.loc 1), true)) (.load 1 false (.loc 0)),
  .n (some ((.loc 2), true)) (.fieldAddr 3 (.var 3)),
  .n (some ((.loc 3), true)) (.load 1 false (.loc 0)),
  .n (some ((.loc 4), true)) (.bin .eql (.int .i64) (.loc 2) (.loc 0)),
  .n none (.pick (.loc 5) (.loc 0) (.k (.d (.bool false)))),
  .n none (.mov (.loc 0)),
  .n (some ((.loc 0), true)) (.fieldAddr 4 (.var 2)),
  .n (some ((.loc 1), true)) (.load 1 false (.loc 0)),
  .n (some ((.loc 2), true)) (.fieldAddr 4 (.var 3)),
  .n (some ((.loc 3), true)) (.load 1 false (.loc 0)),
  .e (some ((.loc 4), true)) (.call 17 [(.loc 2), (.loc 0)]) [] [] false,
  .n none (.pick (.loc 5) (.loc 0) (.k (.d (.bool false)))),
  .n none (.mov (.loc 0))], [(4, 0)]⟩
def c15 : C := (.seq (.reg c15r0) (.seq (.reg c15r1) .ret))
def r15 : List RV := [(.tmp 4)]
/- emendate/lattice.Distance params 2 free 0 -/
def v16 : List Tmp := [0, 1, 2, 4, 5, 7, 8, 10, 11, 12, 13, 20, 21, 22, 23, 31, 32, 33, 34, 40, 62, 63, 64, 65]
@[reducible] def c16r0 : Reg := ⟨[.n none (.box 3 (.var 0)),
  .n none (.mov (.k (.d (.int .i64 0))))], [(2, 1), (3, 0)]⟩
@[reducible] def c16r1 : Reg := ⟨[.n none (.lit 1 (.d (.int .i64 0)) 1 [(0, (.k (.d (.int .i64 1099511627776))))] false),
  .n none (.fieldAddr 0 (.var 2)),
  .n none (.load 1 false (.loc 0)),
  .e none (.call 21 [(.loc 2), (.loc 0)]) [] [] false,
  .n none (.mov (.loc 0))], [(4, 0)]⟩
@[reducible] def c16r2 : Reg := ⟨[.n none (.mov (.var 4)),
  .n none (.idxAddr 1 (.loc 0) (.k (.d (.int .i64 0)))),
  .e none (.store 1 false (.loc 0) (.k (.d (.int .i64 0)))) [] [] false], []⟩
@[reducible] def c16r3 : Reg := ⟨[.n none (.mov (.var 1)),
  .n none (.len 0 (.loc 0)),
  .n none (.mov (.k (.d (.int .i64 0))))], [(11, 2), (12, 1), (13, 0)]⟩
@[reducible] def c16r4 : Reg := ⟨[.n none (.bin .lss (.int .i64) (.var 13) (.var 12))], [(14, 0)]⟩
@[reducible] def c16r5 : Reg := ⟨[.n none (.idxAddr 1 (.var 11) (.var 13)),
  .n none (.load 1 false (.loc 0)),
  .n none (.mov (.loc 0))], [(5, 0)]⟩
@[reducible] def c16r6 : Reg := ⟨[.n none (.lit 1 (.d (.int .i64 0)) 1 [(0, (.k (.d (.int .i64 1099511627776))))] false),
  .n none (.fieldAddr 0 (.var 2)),
  .n none (.load 1 false (.loc 0)),
  .e none (.call 21 [(.loc 2), (.loc 0)]) [] [] false,
  .n none (.mov (.loc 0))], [(6, 0)]⟩
@[reducible] def c16r7 : Reg := ⟨[.n none (.fieldAddr 1 (.var 2)),
  .n none (.load 1 false (.loc 0)),
  .n none (.len 0 (.loc 0)),
  .n none (.mov (.k (.d (.int .i64 0))))], [(15, 2), (16, 1), (17, 0)]⟩
@[reducible] def c16r8 : Reg := ⟨[.n none (.bin .lss (.int .i64) (.var 17) (.var 16))], [(18, 0)]⟩
@[reducible] def c16r9 : Reg := ⟨[.n none (.idxAddr 5 (.var 15) (.var 17)),
  .n none (.load 5 true (.loc 0)),
  .n none (.alloc 5 (.agg [(.d (.int .i64 0)), (.d (.int .i64 0)), (.d (.int .i64 0)), (.d (.int .i64 0)), .nils])),
  .e none (.store 5 true (.loc 0) (.loc 1)) [] [] false], [(7, 1)]⟩
@[reducible] def c16r10 : Reg := ⟨[.n none (.fieldAddr 2 (.var 7)),
  .n none (.load 1 false (.loc 0)),
  .n none (.mov (.var 5)),
  .n none (.bin .eql (.int .i64) (.loc 1) (.loc 0))], [(19, 0)]⟩
@[reducible] def c16r11 : Reg := ⟨[.n none (.mov (.var 6)),
  .n none (.fieldAddr 1 (.var 7)),
  .n none (.load 1 false (.loc 0)),
  .n none (.mov (.var 6)),
  .n none (.fieldAddr 1 (.var 7)),
  .n none (.load 1 false (.loc 0)),
  .n none (.idxAddr 1 (.loc 2) (.loc 0)),
  .n none (.load 1 false (.loc 0)),
  .n none (.mov (.var 4)),
  .n none (.fieldAddr 0 (.var 7)),
  .n none (.load 1 false (.loc 0)),
  .n none (.idxAddr 1 (.loc 2) (.loc 0)),
  .n none (.load 1 false (.loc 0)),
  .n none (.fieldAddr 3 (.var 7)),
  .n none (.load 1 false (.loc 0)),
  .n none (.bin .add (.int .i64) (.loc 2) (.loc 0)),
  .n none (.minmax true [(.loc 8), (.loc 0)]),
  .n none (.idxAddr 1 (.loc 16) (.loc 14)),
  .e none (.store 1 false (.loc 0) (.loc 1)) [] [] false], []⟩
@[reducible] def c16r12 : Reg := ⟨[.n none (.bin .add (.int .i64) (.var 17) (.k (.d (.int .i64 1)))),
  .n none (.mov (.loc 0))], [(17, 0)]⟩
@[reducible] def c16r13 : Reg := ⟨[.n none (.mov (.var 6)),
  .n none (.mov (.loc 0))], [(4, 0)]⟩
@[reducible] def c16r14 : Reg := ⟨[.n none (.bin .add (.int .i64) (.var 13) (.k (.d (.int .i64 1)))),
  .n none (.mov (.loc 0))], [(13, 0)]⟩
@[reducible] def c16r15 : Reg := ⟨[.n none (.mov (.k (.d (.int .i64 1099511627776))))], [(8, 0)]⟩
@[reducible] def c16r16 : Reg := ⟨[.n none (.mov (.var 4)),
  .n none (.len 0 (.loc 0)),
  .n none (.mov (.k (.d (.int .i64 0))))], [(20, 2), (21, 1), (22, 0)]⟩
@[reducible] def c16r17 : Reg := ⟨[.n none (.bin .lss (.int .i64) (.var 22) (.var 21))], [(23, 0)]⟩
@[reducible] def c16r18 : Reg := ⟨[.n none (.mov (.var 22)),
  .n none (.idxAddr 1 (.var 20) (.var 22)),
  .n none (.load 1 false (.loc 0)),
  .n none (.mov (.loc 2)),
  .n none (.mov (.loc 1))], [(9, 1), (10, 0)]⟩
@[reducible] def c16r19 : Reg := ⟨[.n none (.mov (.var 8)),
  .n none (.mov (.var 10)),
  .n none (.fieldAddr 2 (.var 2)),
  .n none (.load 1 false (.loc 0)),
  .n none (.mov (.var 9)),
  .n none (.idxAddr 1 (.loc 1) (.loc 0)),
  .n none (.load 1 false (.loc 0)),
  .n none (.bin .add (.int .i64) (.loc 5) (.loc 0)),
  .n none (.minmax true [(.loc 7), (.loc 0)]),
  .n none (.mov (.loc 0))], [(8, 0)]⟩
@[reducible] def c16r20 : Reg := ⟨[.n none (.bin .add (.int .i64) (.var 22) (.k (.d (.int .i64 1)))),
  .n none (.mov (.loc 0))], [(22, 0)]⟩
@[reducible] def c16r21 : Reg := ⟨[.n none (.mov (.var 8)),
  .n none (.mov (.loc 0))], [(3, 0)]⟩
def c16 : C := (.seq (.reg c16r0) (.seq (.reg c16r1) (.seq (.reg c16r2) (.seq (.seq (.reg c16r3) (.block 0 (.loop (.seq (.reg c16r4) (.seq (.cond (.var 14) .skip (.exit 0)) (.seq (.block 1 (.seq (.reg c16r5) (.seq (.reg c16r6) (.seq (.seq (.reg c16r7) (.block 2 (.loop (.seq (.reg c16r8) (.seq (.cond (.var 18) .skip (.exit 2)) (.seq (.block 3 (.seq (.reg c16r9) (.seq (.reg c16r10) (.cond (.var 19) (.reg c16r11) .skip)))) (.reg c16r12))))))) (.reg c16r13))))) (.reg c16r14))))))) (.seq (.reg c16r15) (.seq (.seq (.reg c16r16) (.block 4 (.loop (.seq (.reg c16r17) (.seq (.cond (.var 23) .skip (.exit 4)) (.seq (.block 5 (.seq (.reg c16r18) (.reg c16r19))) (.reg c16r20))))))) (.seq (.reg c16r21) .ret)))))))
def r16 : List RV := [(.tmp 3)]
/- emendate/emendateref37.SameOps params 2 free 0 -/
def v17 : List Tmp := [0, 1, 4, 5, 10, 14, 25]
@[reducible] def c17r0 : Reg := ⟨[.n none (.mov (.k (.d (.bool false))))], [(2, 0)]⟩
@[reducible] def c17r1 : Reg := ⟨[.n none (.mov (.var 0)),
  .n none (.len 0 (.loc 0)),
  .n none (.mov (.var 1)),
  .n none (.len 0 (.loc 0)),
  .n none (.bin .neq (.int .i64) (.loc 2) (.loc 0))], [(4, 0)]⟩
@[reducible] def c17r2 : Reg := ⟨[.n none (.mov (.k (.d (.bool false))))], [(2, 0)]⟩
@[reducible] def c17r3 : Reg := ⟨[.n none (.mov (.k (.d (.int .i64 0))))], [(3, 0)]⟩
@[reducible] def c17r4 : Reg := ⟨[.n none (.mov (.var 3)),
  .n none (.mov (.var 0)),
  .n none (.len 0 (.loc 0)),
  .n none (.bin .lss (.int .i64) (.loc 2) (.loc 0))], [(5, 0)]⟩
@[reducible] def c17r5 : Reg := ⟨[.n none (.mov (.var 0)),
  .n none (.mov (.var 3)),
  .n none (.idxAddr 2 (.loc 1) (.loc 0)),
  .n none (.load 2 true (.loc 0)),
  .n none (.mov (.var 1)),
  .n none (.mov (.var 3)),
  .n none (.idxAddr 2 (.loc 1) (.loc 0)),
  .n none (.load 2 true (.loc 0)),
  .n none (.eqs true (.many [(.int .i64), (.int .i64)]) (.loc 4) (.loc 0))], [(6, 0)]⟩
@[reducible] def c17r6 : Reg := ⟨[.n none (.mov (.k (.d (.bool false))))], [(2, 0)]⟩
@[reducible] def c17r7 : Reg := ⟨[.n none (.mov (.var 3)),
  .n none (.bin .add (.int .i64) (.loc 0) (.k (.d (.int .i64 1)))),
  .n none (.mov (.loc 0))], [(3, 0)]⟩
@[reducible] def c17r8 : Reg := ⟨[.n none (.mov (.k (.d (.bool true))))], [(2, 0)]⟩
def c17 : C := (.seq (.reg c17r0) (.seq (.seq (.reg c17r1) (.cond (.var 4) (.seq (.reg c17r2) .ret) .skip)) (.seq (.seq (.reg c17r3) (.block 0 (.loop (.seq (.seq (.reg c17r4) (.cond (.var 5) .skip (.exit 0))) (.seq (.block 1 (.seq (.reg c17r5) (.cond (.var 6) (.seq (.reg c17r6) .ret) .skip))) (.reg c17r7)))))) (.seq (.reg c17r8) .ret))))
def r17 : List RV := [(.tmp 2)]
/- emendate/lattice.Valid params 2 free 0 -/
def v18 : List Tmp := [0, 1, 2, 4, 6, 7, 8, 9, 20, 22, 23, 24, 25, 33, 36, 37, 38, 39, 92, 94, 116]
@[reducible] def c18r0 : Reg := ⟨[.n none (.box 3 (.var 0)),
  .n none (.mov (.k (.d (.bool false))))], [(2, 1), (3, 0)]⟩
@[reducible] def c18r1 : Reg := ⟨[.n none (.fieldAddr 0 (.var 2)),
  .n none (.load 1 false (.loc 0)),
  .n none (.bin .lss (.int .i64) (.loc 0) (.k (.d (.int .i64 1)))),
  .n none (.mov (.loc 0)),
  .n (some ((.loc 0), false)) (.fieldAddr 2 (.var 2)),
  .n (some ((.loc 1), false)) (.load 1 false (.loc 0)),
  .n (some ((.loc 2), false)) (.len 0 (.loc 0)),
  .n (some ((.loc 3), false)) (.fieldAddr 0 (.var 2)),
  .n (some ((.loc 4), false)) (.load 1 false (.loc 0)),
  .n (some ((.loc 5), false)) (.bin .neq (.int .i64) (.loc 2) (.loc 0)),
  .n none (.pick (.loc 6) (.k (.d (.bool true))) (.loc 0))], [(8, 0)]⟩
@[reducible] def c18r2 : Reg := ⟨[.n none (.mov (.k (.d (.bool false))))], [(3, 0)]⟩
@[reducible] def c18r3 : Reg := ⟨[.n none (.fieldAddr 2 (.var 2)),
  .n none (.load 1 false (.loc 0)),
  .n none (.len 0 (.loc 0)),
  .n none (.mov (.k (.d (.int .i64 0))))], [(9, 2), (10, 1), (11, 0)]⟩
@[reducible] def c18r4 : Reg := ⟨[.n none (.bin .lss (.int .i64) (.var 11) (.var 10))], [(12, 0)]⟩
@[reducible] def c18r5 : Reg := ⟨[.n none (.idxAddr 1 (.var 9) (.var 11)),
  .n none (.load 1 false (.loc 0)),
  .n none (.mov (.loc 0))], [(4, 0)]⟩
@[reducible] def c18r6 : Reg := ⟨[.n none (.mov (.var 4)),
  .n none (.bin .lss (.int .i64) (.loc 0) (.k (.d (.int .i64 0)))),
  .n none (.mov (.loc 0)),
  .n (some ((.loc 0), false)) (.mov (.var 4)),
  .n (some ((.loc 1), false)) (.bin .gtr (.int .i64) (.loc 0) (.k (.d (.int .i64 1099511627776)))),
  .n none (.pick (.loc 2) (.k (.d (.bool true))) (.loc 0))], [(13, 0)]⟩
@[reducible] def c18r7 : Reg := ⟨[.n none (.mov (.k (.d (.bool false))))], [(3, 0)]⟩
@[reducible] def c18r8 : Reg := ⟨[.n none (.bin .add (.int .i64) (.var 11) (.k (.d (.int .i64 1)))),
  .n none (.mov (.loc 0))], [(11, 0)]⟩
@[reducible] def c18r9 : Reg := ⟨[.n none (.fieldAddr 1 (.var 2)),
  .n none (.load 1 false (.loc 0)),
  .n none (.len 0 (.loc 0)),
  .n none (.mov (.k (.d (.int .i64 0))))], [(14, 2), (15, 1), (16, 0)]⟩
@[reducible] def c18r10 : Reg := ⟨[.n none (.bin .lss (.int .i64) (.var 16) (.var 15))], [(17, 0)]⟩
@[reducible] def c18r11 : Reg := ⟨[.n none (.mov (.var 16)),
  .n none (.idxAddr 5 (.var 14) (.var 16)),
  .n none (.load 5 true (.loc 0)),
  .n none (.alloc 5 (.agg [(.d (.int .i64 0)), (.d (.int .i64 0)), (.d (.int .i64 0)), (.d (.int .i64 0)), .nils])),
  .n none (.mov (.loc 3)),
  .e none (.store 5 true (.loc 1) (.loc 2)) [] [] false], [(5, 1), (6, 2)]⟩
@[reducible] def c18r12 : Reg := ⟨[.n none (.fieldAddr 0 (.var 6)),
  .n none (.load 1 false (.loc 0)),
  .n none (.bin .lss (.int .i64) (.loc 0) (.k (.d (.int .i64 0)))),
  .n none (.mov (.loc 0)),
  .n (some ((.loc 0), false)) (.fieldAddr 0 (.var 6)),
  .n (some ((.loc 1), false)) (.load 1 false (.loc 0)),
  .n (some ((.loc 2), false)) (.fieldAddr 1 (.var 6)),
  .n (some ((.loc 3), false)) (.load 1 false (.loc 0)),
  .n (some ((.loc 4), false)) (.bin .gtr (.int .i64) (.loc 2) (.loc 0)),
  .n none (.pick (.loc 5) (.k (.d (.bool true))) (.loc 0)),
  .n none (.mov (.loc 0)),
  .n (some ((.loc 0), false)) (.fieldAddr 1 (.var 6)),
  .n (some ((.loc 1), false)) (.load 1 false (.loc 0)),
  .n (some ((.loc 2), false)) (.fieldAddr 0 (.var 2)),
  .n (some ((.loc 3), false)) (.load 1 false (.loc 0)),
  .n (some ((.loc 4), false)) (.bin .geq (.int .i64) (.loc 2) (.loc 0)),
  .n none (.pick (.loc 5) (.k (.d (.bool true))) (.loc 0)),
  .n none (.mov (.loc 0)),
  .n (some ((.loc 0), false)) (.fieldAddr 2 (.var 6)),
  .n (some ((.loc 1), false)) (.load 1 false (.loc 0)),
  .n (some ((.loc 2), false)) (.bin .lss (.int .i64) (.loc 0) (.k (.d (.int .i64 0)))),
  .n none (.pick (.loc 3) (.k (.d (.bool true))) (.loc 0)),
  .n none (.mov (.loc 0)),
  .n (some ((.loc 0), false)) (.fieldAddr 2 (.var 6)),
  .n (some ((.loc 1), false)) (.load 1 false (.loc 0)),
  .n (some ((.loc 2), false)) (.mov (.var 1)),
  .n (some ((.loc 3), false)) (.bin .geq (.int .i64) (.loc 1) (.loc 0)),
  .n none (.pick (.loc 4) (.k (.d (.bool true))) (.loc 0)),
  .n none (.mov (.loc 0)),
  .n (some ((.loc 0), false)) (.fieldAddr 3 (.var 6)),
  .n (some ((.loc 1), false)) (.load 1 false (.loc 0)),
  .n (some ((.loc 2), false)) (.bin .lss (.int .i64) (.loc 0) (.k (.d (.int .i64 0)))),
  .n none (.pick (.loc 3) (.k (.d (.bool true))) (.loc 0)),
  .n none (.mov (.loc 0)),
  .n (some ((.loc 0), false)) (.fieldAddr 3 (.var 6)),
  .n (some ((.loc 1), false)) (.load 1 false (.loc 0)),
  .n (some ((.loc 2), false)) (.bin .geq (.int .i64) (.loc 0) (.k (.d (.int .i64 1099511627776)))),
  .n none (.pick (.loc 3) (.k (.d (.bool true))) (.loc 0)),
  .n none (.mov (.loc 0)),
  .n (some ((.loc 0), false)) (.fieldAddr 0 (.var 6)),
  .n (some ((.loc 1), false)) (.load 1 false (.loc 0)),
  .n (some ((.loc 2), false)) (.fieldAddr 1 (.var 6)),
  .n (some ((.loc 3), false)) (.load 1 false (.loc 0)),
  .n (some ((.loc 4), false)) (.bin .eql (.int .i64) (.loc 2) (.loc 0)),
  .n (some ((.loc 5), false)) (.mov (.loc 0)),
  .n (some ((.loc 0), true)) (.fieldAddr 3 (.var 6)),
  .n (some ((.loc 1), true)) (.load 1 false (.loc 0)),
  .n (some ((.loc 2), true)) (.bin .eql (.int .i64) (.loc 0) (.k (.d (.int .i64 0)))),
  .n (some ((.loc 9), false)) (.pick (.loc 3) (.loc 0) (.k (.d (.bool false)))),
  .n none (.pick (.loc 10) (.k (.d (.bool true))) (.loc 0))], [(18, 0)]⟩
@[reducible] def c18r13 : Reg := ⟨[.n none (.mov (.k (.d (.bool false))))], [(3, 0)]⟩
@[reducible] def c18r14 : Reg := ⟨[.n none (.mov (.var 5)),
  .n none (.bin .gtr (.int .i64) (.loc 0) (.k (.d (.int .i64 0))))], [(19, 0)]⟩
@[reducible] def c18r15 : Reg := ⟨[.n none (.fieldAddr 1 (.var 2)),
  .n none (.load 1 false (.loc 0)),
  .n none (.mov (.var 5)),
  .n none (.bin .sub (.int .i64) (.loc 0) (.k (.d (.int .i64 1)))),
  .n none (.idxAddr 5 (.loc 2) (.loc 0)),
  .n none (.load 5 true (.loc 0)),
  .n none (.alloc 5 (.agg [(.d (.int .i64 0)), (.d (.int .i64 0)), (.d (.int .i64 0)), (.d (.int .i64 0)), .nils])),
  .e none (.store 5 true (.loc 0) (.loc 1)) [] [] false], [(7, 1)]⟩
@[reducible] def c18r16 : Reg := ⟨[.n none (.fieldAddr 0 (.var 7)),
  .n none (.load 1 false (.loc 0)),
  .n none (.fieldAddr 1 (.var 7)),
  .n none (.load 1 false (.loc 0)),
  .n none (.fieldAddr 2 (.var 7)),
  .n none (.load 1 false (.loc 0)),
  .n none (.build [(.d (.int .i64 0)), (.d (.int .i64 0)), (.d (.int .i64 0))] [(0, 1, (.loc 4)), (1, 1, (.loc 2)), (2, 1, (.loc 0))]),
  .n none (.fieldAddr 0 (.var 6)),
  .n none (.load 1 false (.loc 0)),
  .n none (.fieldAddr 1 (.var 6)),
  .n none (.load 1 false (.loc 0)),
  .n none (.fieldAddr 2 (.var 6)),
  .n none (.load 1 false (.loc 0)),
  .n none (.build [(.d (.int .i64 0)), (.d (.int .i64 0)), (.d (.int .i64 0))] [(0, 1, (.loc 4)), (1, 1, (.loc 2)), (2, 1, (.loc 0))]),
  .e none (.call 25 [(.loc 7), (.loc 0)]) [] [] false,
  .n none (.bin .geq (.int .i64) (.loc 0) (.k (.d (.int .i64 0))))], [(20, 0)]⟩
@[reducible] def c18r17 : Reg := ⟨[.n none (.mov (.k (.d (.bool false))))], [(3, 0)]⟩
@[reducible] def c18r18 : Reg := ⟨[.n none (.bin .add (.int .i64) (.var 16) (.k (.d (.int .i64 1)))),
  .n none (.mov (.loc 0))], [(16, 0)]⟩
@[reducible] def c18r19 : Reg := ⟨[.n none (.mov (.k (.d (.bool true))))], [(3, 0)]⟩
def c18 : C := (.seq (.reg c18r0) (.seq (.seq (.reg c18r1) (.cond (.var 8) (.seq (.reg c18r2) .ret) .skip)) (.seq (.seq (.reg c18r3) (.block 0 (.loop (.seq (.reg c18r4) (.seq (.cond (.var 12) .skip (.exit 0)) (.seq (.block 1 (.seq (.reg c18r5) (.seq (.reg c18r6) (.cond (.var 13) (.seq (.reg c18r7) .ret) .skip)))) (.reg c18r8))))))) (.seq (.seq (.reg c18r9) (.block 2 (.loop (.seq (.reg c18r10) (.seq (.cond (.var 17) .skip (.exit 2)) (.seq (.block 3 (.seq (.reg c18r11) (.seq (.seq (.reg c18r12) (.cond (.var 18) (.seq (.reg c18r13) .ret) .skip)) (.seq (.reg c18r14) (.cond (.var 19) (.seq (.reg c18r15) (.seq (.reg c18r16) (.cond (.var 20) (.seq (.reg c18r17) .ret) .skip))) .skip))))) (.reg c18r18))))))) (.seq (.reg c18r19) .ret)))))
def r18 : List RV := [(.tmp 3)]
/- emendate/emendateref37.Small params 3 free 0 -/
def v19 : List Tmp := [0, 1, 2, 3, 6]
@[reducible] def c19r0 : Reg := ⟨[.n none (.box 3 (.var 0)),
  .n none (.mov (.k (.d (.bool false))))], [(3, 1), (4, 0)]⟩
@[reducible] def c19r1 : Reg := ⟨[.n none (.fieldAddr 0 (.var 3)),
  .n none (.load 1 false (.loc 0)),
  .n none (.len 0 (.loc 0)),
  .n none (.mov (.var 1)),
  .n none (.bin .leq (.int .i64) (.loc 1) (.loc 0)),
  .n none (.mov (.loc 0)),
  .n (some ((.loc 0), true)) (.fieldAddr 1 (.var 3)),
  .n (some ((.loc 1), true)) (.load 1 false (.loc 0)),
  .n (some ((.loc 2), true)) (.len 0 (.loc 0)),
  .n (some ((.loc 3), true)) (.mov (.var 2)),
  .n (some ((.loc 4), true)) (.bin .leq (.int .i64) (.loc 1) (.loc 0)),
  .n none (.pick (.loc 5) (.loc 0) (.k (.d (.bool false)))),
  .n none (.mov (.loc 0))], [(4, 0)]⟩
def c19 : C := (.seq (.reg c19r0) (.seq (.reg c19r1) .ret))
def r19 : List RV := [(.tmp 4)]
/- emendate/emendateref35.Valid params 2 free 0 -/
def v20 : List Tmp := [0, 1, 2, 4, 5, 37, 40, 56]
@[reducible] def c20r0 : Reg := ⟨[.n none (.box 3 (.var 0)),
  .n none (.mov (.k (.d (.bool false))))], [(2, 1), (3, 0)]⟩
@[reducible] def c20r1 : Reg := ⟨[.n none (.mov (.var 1)),
  .n none (.bin .lss (.int .i64) (.loc 0) (.k (.d (.int .i64 0)))),
  .n none (.mov (.loc 0)),
  .n (some ((.loc 0), false)) (.fieldAddr 0 (.var 2)),
  .n (some ((.loc 1), false)) (.load 1 false (.loc 0)),
  .n (some ((.loc 2), false)) (.len 0 (.loc 0)),
  .n (some ((.loc 3), false)) (.bin .gtr (.int .i64) (.loc 0) (.k (.d (.int .i64 60)))),
  .n none (.pick (.loc 4) (.k (.d (.bool true))) (.loc 0)),
  .n none (.mov (.loc 0)),
  .n (some ((.loc 0), false)) (.fieldAddr 1 (.var 2)),
  .n (some ((.loc 1), false)) (.load 1 false (.loc 0)),
  .n (some ((.loc 2), false)) (.len 0 (.loc 0)),
  .n (some ((.loc 3), false)) (.mov (.var 1)),
  .n (some ((.loc 4), false)) (.bin .neq (.int .i64) (.loc 1) (.loc 0)),
  .n none (.pick (.loc 5) (.k (.d (.bool true))) (.loc 0)),
  .n none (.mov (.loc 0)),
  .n (some ((.loc 0), false)) (.fieldAddr 2 (.var 2)),
  .n (some ((.loc 1), false)) (.load 1 false (.loc 0)),
  .n (some ((.loc 2), false)) (.bin .lss (.int .i64) (.loc 0) (.k (.d (.int .i64 0)))),
  .n none (.pick (.loc 3) (.k (.d (.bool true))) (.loc 0)),
  .n none (.mov (.loc 0)),
  .n (some ((.loc 0), false)) (.fieldAddr 2 (.var 2)),
  .n (some ((.loc 1), false)) (.load 1 false (.loc 0)),
  .n (some ((.loc 2), false)) (.bin .gtr (.int .i64) (.loc 0) (.k (.d (.int .i64 60000)))),
  .n none (.pick (.loc 3) (.k (.d (.bool true))) (.loc 0)),
  .n none (.mov (.loc 0)),
  .n (some ((.loc 0), false)) (.fieldAddr 0 (.var 2)),
  .n (some ((.loc 1), false)) (.load 1 false (.loc 0)),
  .n (some ((.loc 2), false)) (.mov (.var 1)),
  .e (some ((.loc 3), false)) (.call 32 [(.loc 1), (.loc 0)]) [] [] false,
  .n (some ((.loc 4), false)) (.not (.loc 0)),
  .n none (.pick (.loc 5) (.k (.d (.bool true))) (.loc 0))], [(5, 0)]⟩
@[reducible] def c20r2 : Reg := ⟨[.n none (.mov (.k (.d (.bool false))))], [(3, 0)]⟩
@[reducible] def c20r3 : Reg := ⟨[.n none (.mov (.k (.d (.int .i64 0))))], [(4, 0)]⟩
@[reducible] def c20r4 : Reg := ⟨[.n none (.mov (.var 4)),
  .n none (.mov (.var 1)),
  .n none (.bin .lss (.int .i64) (.loc 1) (.loc 0))], [(6, 0)]⟩
@[reducible] def c20r5 : Reg := ⟨[.n none (.fieldAddr 1 (.var 2)),
  .n none (.load 1 false (.loc 0)),
  .n none (.mov (.var 4)),
  .n none (.idxAddr 1 (.loc 1) (.loc 0)),
  .n none (.load 1 false (.loc 0)),
  .n none (.bin .lss (.int .i64) (.loc 0) (.k (.d (.int .i64 1)))),
  .n none (.mov (.loc 0)),
  .n (some ((.loc 0), false)) (.fieldAddr 1 (.var 2)),
  .n (some ((.loc 1), false)) (.load 1 false (.loc 0)),
  .n (some ((.loc 2), false)) (.mov (.var 4)),
  .n (some ((.loc 3), false)) (.idxAddr 1 (.loc 1) (.loc 0)),
  .n (some ((.loc 4), false)) (.load 1 false (.loc 0)),
  .n (some ((.loc 5), false)) (.bin .gtr (.int .i64) (.loc 0) (.k (.d (.int .i64 60000)))),
  .n none (.pick (.loc 6) (.k (.d (.bool true))) (.loc 0))], [(7, 0)]⟩
@[reducible] def c20r6 : Reg := ⟨[.n none (.mov (.k (.d (.bool false))))], [(3, 0)]⟩
@[reducible] def c20r7 : Reg := ⟨[.n none (.mov (.var 4)),
  .n none (.bin .add (.int .i64) (.loc 0) (.k (.d (.int .i64 1)))),
  .n none (.mov (.loc 0))], [(4, 0)]⟩
@[reducible] def c20r8 : Reg := ⟨[.n none (.mov (.k (.d (.bool true))))], [(3, 0)]⟩
def c20 : C := (.seq (.reg c20r0) (.seq (.seq (.reg c20r1) (.cond (.var 5) (.seq (.reg c20r2) .ret) .skip)) (.seq (.seq (.reg c20r3) (.block 0 (.loop (.seq (.seq (.reg c20r4) (.cond (.var 6) .skip (.exit 0))) (.seq (.block 1 (.seq (.reg c20r5) (.cond (.var 7) (.seq (.reg c20r6) .ret) .skip))) (.reg c20r7)))))) (.seq (.reg c20r8) .ret))))
def r20 : List RV := [(.tmp 3)]
/- slices.Repeat[[]int,int] params 2 free 0 -/
def v21 : List Tmp := [0, 1, 4, 5, 6, 7, 8, 10, 26, 37]
@[reducible] def c21r0 : Reg := ⟨[.n none (.mov (.k .nils))], [(2, 0)]⟩
@[reducible] def c21r1 : Reg := ⟨[.n none (.mov (.var 1)),
  .n none (.bin .lss (.int .i64) (.loc 0) (.k (.d (.int .i64 0))))], [(7, 0)]⟩
@[reducible] def c21r2 : Reg := ⟨[.n none (.mkIface 9 (.k (.d (.str [99, 97, 110, 110, 111, 116, 32, 98, 101, 32, 110, 101, 103, 97, 116, 105, 118, 101])))),
  .e none .panic [] [] false], []⟩
@[reducible] def c21r3 : Reg := ⟨[.n none (.mov (.var 0)),
  .n none (.len 0 (.loc 0)),
  .n none (.conv .u64 (.loc 0)),
  .n none (.mov (.var 1)),
  .n none (.conv .u64 (.loc 0)),
  .e none (.call 33 [(.loc 2), (.loc 0)]) [] [] false,
  .n none (.mov (.loc 0)),
  .n none (.extract 0 (.loc 0)),
  .n none (.extract 1 (.loc 1)),
  .n none (.mov (.loc 1)),
  .n none (.mov (.loc 1))], [(3, 1), (4, 0)]⟩
@[reducible] def c21r4 : Reg := ⟨[.n none (.mov (.var 3)),
  .n none (.bin .gtr (.int .u64) (.loc 0) (.k (.d (.int .u64 0)))),
  .n none (.mov (.loc 0)),
  .n (some ((.loc 0), false)) (.mov (.var 4)),
  .n (some ((.loc 1), false)) (.bin .gtr (.int .u64) (.loc 0) (.k (.d (.int .u64 9223372036854775807)))),
  .n none (.pick (.loc 2) (.k (.d (.bool true))) (.loc 0))], [(8, 0)]⟩
@[reducible] def c21r5 : Reg := ⟨[.n none (.mkIface 9 (.k (.d (.str [116, 104, 101, 32, 114, 101, 115, 117, 108, 116, 32, 111, 102, 32, 40, 108, 101, 110, 40, 120, 41, 32, 42, 32, 99, 111, 117, 110, 116, 41, 32, 111, 118, 101, 114, 102, 108, 111, 119, 115])))),
  .e none .panic [] [] false], []⟩
@[reducible] def c21r6 : Reg := ⟨[.n none (.mov (.var 4)),
  .n none (.conv .i64 (.loc 0)),
  .n none (.mkSlice 1 8 (.d (.int .i64 0)) (.loc 0) (.loc 0)),
  .n none (.mov (.loc 0))], [(5, 0)]⟩
@[reducible] def c21r7 : Reg := ⟨[.n none (.mov (.var 5)),
  .n none (.mov (.var 0)),
  .e none (.copy 1 (.loc 1) (.loc 0)) [] [] false,
  .n none (.mov (.loc 0))], [(6, 0)]⟩
@[reducible] def c21r8 : Reg := ⟨[.n none (.mov (.var 6)),
  .n none (.mov (.var 5)),
  .n none (.len 0 (.loc 0)),
  .n none (.bin .lss (.int .i64) (.loc 2) (.loc 0))], [(9, 0)]⟩
@[reducible] def c21r9 : Reg := ⟨[.n none (.mov (.var 6)),
  .n none (.mov (.var 5)),
  .n none (.mov (.var 6)),
  .n none (.slice 1 (some (.loc 0)) none (.loc 1)),
  .n none (.mov (.var 5)),
  .n none (.mov (.var 6)),
  .n none (.slice 1 none (some (.loc 0)) (.loc 1)),
  .e none (.copy 1 (.loc 3) (.loc 0)) [] [] false,
  .n none (.bin .add (.int .i64) (.loc 7) (.loc 0)),
  .n none (.mov (.loc 0))], [(6, 0)]⟩
@[reducible] def c21r10 : Reg := ⟨[.n none (.mov (.var 5)),
  .n none (.mov (.loc 0))], [(2, 0)]⟩
def c21 : C := (.seq (.reg c21r0) (.seq (.seq (.reg c21r1) (.cond (.var 7) (.reg c21r2) .skip)) (.seq (.reg c21r3) (.seq (.seq (.reg c21r4) (.cond (.var 8) (.reg c21r5) .skip)) (.seq (.reg c21r6) (.seq (.reg c21r7) (.seq (.block 0 (.loop (.seq (.seq (.reg c21r8) (.cond (.var 9) .skip (.exit 0))) (.block 1 (.reg c21r9))))) (.seq (.reg c21r10) .ret))))))))
def r21 : List RV := [(.tmp 2)]
/- (*emendate/lattice.builder).from params 2 free 0 -/
def v22 : List Tmp := [0, 1, 4, 5, 6, 7, 8, 9, 10, 11, 21, 33, 53, 54, 55, 56, 80, 113]
@[reducible] def c22r0 : Reg := ⟨[.n none (.mov (.var 0)),
  .n none (.nilCheck (.loc 0)),
  .n none (.fieldAddr 0 (.loc 0)),
  .n none (.fieldAddr 0 (.loc 0)),
  .n none (.load 1 false (.loc 0)),
  .n none (.len 0 (.loc 0)),
  .n none (.mov (.loc 0))], [(2, 0)]⟩
@[reducible] def c22r1 : Reg := ⟨[.n none (.mov (.var 1)),
  .n none (.mov (.loc 0))], [(3, 0)]⟩
@[reducible] def c22r2 : Reg := ⟨[.n none (.mov (.var 3)),
  .n none (.mov (.var 2)),
  .n none (.bin .leq (.int .i64) (.loc 1) (.loc 0))], [(10, 0)]⟩
@[reducible] def c22r3 : Reg := ⟨[.n none (.mov (.var 0)),
  .n none (.mov (.var 1)),
  .n none (.mov (.var 3)),
  .e none (.call 23 [(.loc 2), (.loc 1), (.loc 0)]) [] [] false,
  .n none (.mov (.loc 0)),
  .n none (.extract 0 (.loc 0)),
  .n none (.extract 1 (.loc 1)),
  .n none (.mov (.loc 1)),
  .n none (.mov (.loc 1))], [(4, 1), (5, 0)]⟩
@[reducible] def c22r4 : Reg := ⟨[.n none (.mov (.var 3)),
  .n none (.mov (.var 1)),
  .n none (.bin .gtr (.int .i64) (.loc 1) (.loc 0))], [(11, 0)]⟩
@[reducible] def c22r5 : Reg := ⟨[.n none (.mov (.var 0)),
  .n none (.mov (.var 1)),
  .n none (.mov (.var 3)),
  .n none (.bin .sub (.int .i64) (.loc 0) (.k (.d (.int .i64 1)))),
  .e none (.call 23 [(.loc 3), (.loc 2), (.loc 0)]) [] [] false,
  .n none (.mov (.loc 0)),
  .n none (.extract 0 (.loc 0)),
  .n none (.extract 1 (.loc 1)),
  .n none (.mov (.loc 1)),
  .n none (.mov (.loc 1))], [(6, 1), (7, 0)]⟩
@[reducible] def c22r6 : Reg := ⟨[.n none (.mov (.var 0)),
  .n none (.mov (.var 1)),
  .n none (.mov (.var 3)),
  .n none (.bin .sub (.int .i64) (.loc 0) (.k (.d (.int .i64 1)))),
  .n none (.mov (.var 6)),
  .n none (.mov (.var 7)),
  .e none (.call 34 [(.loc 5), (.loc 4), (.loc 2), (.loc 1), (.loc 0)]) [] [] false], []⟩
@[reducible] def c22r7 : Reg := ⟨[.n none (.mov (.var 0)),
  .n none (.nilCheck (.loc 0)),
  .n none (.fieldAddr 0 (.loc 0)),
  .n none (.fieldAddr 1 (.loc 0)),
  .n none (.load 1 false (.loc 0)),
  .n none (.len 0 (.loc 0)),
  .n none (.mov (.k (.d (.int .i64 0))))], [(12, 2), (13, 1), (14, 0)]⟩
@[reducible] def c22r8 : Reg := ⟨[.n none (.bin .lss (.int .i64) (.var 14) (.var 13))], [(15, 0)]⟩
@[reducible] def c22r9 : Reg := ⟨[.n none (.mov (.var 14)),
  .n none (.idxAddr 1 (.var 12) (.var 14)),
  .n none (.load 1 false (.loc 0)),
  .n none (.mov (.loc 2)),
  .n none (.mov (.loc 1))], [(8, 1), (9, 0)]⟩
@[reducible] def c22r10 : Reg := ⟨[.n none (.mov (.var 0)),
  .n none (.mov (.var 1)),
  .n none (.bin .mul (.int .i64) (.k (.d (.int .i64 2))) (.loc 0)),
  .n none (.mov (.var 3)),
  .n none (.bin .mul (.int .i64) (.k (.d (.int .i64 2))) (.loc 0)),
  .n none (.mov (.var 8)),
  .n none (.mov (.var 4)),
  .n none (.mov (.var 9)),
  .n none (.bin .add (.int .i64) (.loc 1) (.loc 0)),
  .n none (.mov (.var 5)),
  .e none (.call 36 [(.loc 0)]) [] [] false,
  .n none (.mov (.var 8)),
  .n none (.build [(.d (.int .i64 0)), (.d (.int .i64 0))] [(0, 1, (.k (.d (.int .i64 3)))), (1, 1, (.loc 0))]),
  .n none (.lit 2 (.d (.agg [(.int .i64 0), (.int .i64 0)])) 1 [(0, (.loc 0))] false),
  .e none (.append 2 16 (.loc 3) (.loc 0)) [] [] true,
  .n none (.build [(.d (.int .i64 0)), (.d (.int .i64 0)), (.d (.int .i64 0)), (.d (.int .i64 0)), .nils] [(0, 1, (.loc 12)), (1, 1, (.loc 10)), (2, 1, (.loc 9)), (3, 1, (.loc 6)), (4, 1, (.loc 0))]),
  .e none (.call 35 [(.loc 15), (.loc 0)]) [] [] false], []⟩
@[reducible] def c22r11 : Reg := ⟨[.n none (.bin .add (.int .i64) (.var 14) (.k (.d (.int .i64 1)))),
  .n none (.mov (.loc 0))], [(14, 0)]⟩
@[reducible] def c22r12 : Reg := ⟨[.n none (.mov (.var 0)),
  .n none (.mov (.var 3)),
  .e none (.call 37 [(.loc 1), (.loc 0)]) [] [] false], [(16, 0)]⟩
@[reducible] def c22r13 : Reg := ⟨[.n none (.mov (.var 0)),
  .n none (.mov (.var 1)),
  .n none (.bin .mul (.int .i64) (.k (.d (.int .i64 2))) (.loc 0)),
  .n none (.mov (.var 3)),
  .n none (.bin .mul (.int .i64) (.k (.d (.int .i64 2))) (.loc 0)),
  .n none (.bin .add (.int .i64) (.loc 0) (.k (.d (.int .i64 1)))),
  .n none (.mov (.var 0)),
  .n none (.nilCheck (.loc 0)),
  .n none (.fieldAddr 0 (.loc 0)),
  .n none (.fieldAddr 0 (.loc 0)),
  .n none (.load 1 false (.loc 0)),
  .n none (.mov (.var 3)),
  .n none (.bin .add (.int .i64) (.loc 0) (.k (.d (.int .i64 1)))),
  .n none (.idxAddr 3 (.loc 2) (.loc 0)),
  .n none (.fieldAddr 0 (.loc 0)),
  .n none (.load 1 false (.loc 0)),
  .n none (.mov (.var 4)),
  .n none (.mov (.var 0)),
  .n none (.nilCheck (.loc 0)),
  .n none (.fieldAddr 0 (.loc 0)),
  .n none (.fieldAddr 2 (.loc 0)),
  .n none (.load 1 false (.loc 0)),
  .n none (.bin .add (.int .i64) (.loc 5) (.loc 0)),
  .n none (.mov (.var 5)),
  .n none (.build [(.d (.int .i64 0)), (.d (.int .i64 0))] [(0, 1, (.k (.d (.int .i64 4))))]),
  .n none (.lit 2 (.d (.agg [(.int .i64 0), (.int .i64 0)])) 1 [(0, (.loc 0))] false),
  .e none (.call 36 [(.loc 2)]) [(.loc 16), (.loc 11), (.loc 5)] [(.loc 0)] false,
  .e none (.append 2 16 (.loc 0) (.loc 1)) [(.loc 17), (.loc 12), (.loc 6)] [] true,
  .n none (.build [(.d (.int .i64 0)), (.d (.int .i64 0)), (.d (.int .i64 0)), (.d (.int .i64 0)), .nils] [(0, 1, (.loc 25)), (1, 1, (.loc 22)), (2, 1, (.loc 12)), (3, 1, (.loc 5)), (4, 1, (.loc 0))]),
  .e none (.call 35 [(.loc 28), (.loc 0)]) [] [] false], []⟩
@[reducible] def c22r14 : Reg := ⟨[.n none (.mov (.var 3)),
  .n none (.bin .add (.int .i64) (.loc 0) (.k (.d (.int .i64 1)))),
  .n none (.mov (.loc 0))], [(3, 0)]⟩
@[reducible] def c22r15 : Reg := ⟨[.n none (.mov (.var 0)),
  .n none (.mov (.var 1)),
  .e none (.call 37 [(.loc 1), (.loc 0)]) [] [] false], [(17, 0)]⟩
@[reducible] def c22r16 : Reg := ⟨[.n none (.mov (.var 0)),
  .n none (.mov (.var 1)),
  .n none (.bin .mul (.int .i64) (.k (.d (.int .i64 2))) (.loc 0)),
  .n none (.bin .add (.int .i64) (.loc 0) (.k (.d (.int .i64 1)))),
  .n none (.mov (.var 1)),
  .n none (.bin .mul (.int .i64) (.k (.d (.int .i64 2))) (.loc 0)),
  .n none (.bin .add (.int .i64) (.loc 0) (.k (.d (.int .i64 4)))),
  .n none (.mov (.var 0)),
  .n none (.nilCheck (.loc 0)),
  .n none (.fieldAddr 0 (.loc 0)),
  .n none (.fieldAddr 0 (.loc 0)),
  .n none (.load 1 false (.loc 0)),
  .n none (.mov (.var 1)),
  .n none (.idxAddr 3 (.loc 1) (.loc 0)),
  .n none (.fieldAddr 0 (.loc 0)),
  .n none (.load 1 false (.loc 0)),
  .n none (.build [(.d (.int .i64 0)), (.d (.int .i64 0)), (.d (.int .i64 0)), (.d (.int .i64 0)), .nils] [(0, 1, (.loc 12)), (1, 1, (.loc 9)), (2, 1, (.loc 0))]),
  .e none (.call 35 [(.loc 16), (.loc 0)]) [] [] false], []⟩
def c22 : C := (.seq (.reg c22r0) (.seq (.seq (.reg c22r1) (.block 0 (.loop (.seq (.seq (.reg c22r2) (.cond (.var 10) .skip (.exit 0))) (.seq (.block 1 (.seq (.reg c22r3) (.seq (.seq (.reg c22r4) (.cond (.var 11) (.seq (.reg c22r5) (.reg c22r6)) .skip)) (.seq (.seq (.reg c22r7) (.block 2 (.loop (.seq (.reg c22r8) (.seq (.cond (.var 15) .skip (.exit 2)) (.seq (.block 3 (.seq (.reg c22r9) (.reg c22r10))) (.reg c22r11))))))) (.seq (.reg c22r12) (.cond (.var 16) (.reg c22r13) .skip)))))) (.reg c22r14)))))) (.seq (.reg c22r15) (.cond (.var 17) (.reg c22r16) .skip))))
def r22 : List RV := []
/- (*emendate/lattice.builder).deleted params 3 free 0 -/
def v23 : List Tmp := [0, 1, 2, 6, 7, 8, 9, 11, 19, 20, 21, 22]
@[reducible] def c23r0 : Reg := ⟨[.n none (.mov (.k (.d (.int .i64 0)))),
  .n none (.mov (.k .nils))], [(3, 1), (4, 0)]⟩
@[reducible] def c23r1 : Reg := ⟨[.n none (.mov (.k (.d (.int .i64 0))))], [(5, 0)]⟩
@[reducible] def c23r2 : Reg := ⟨[.n none (.mov (.k .nils))], [(6, 0)]⟩
@[reducible] def c23r3 : Reg := ⟨[.n none (.mov (.var 0)),
  .n none (.nilCheck (.loc 0)),
  .n none (.fieldAddr 0 (.loc 0)),
  .n none (.fieldAddr 0 (.loc 0)),
  .n none (.load 1 false (.loc 0)),
  .n none (.mov (.var 1)),
  .n none (.mov (.var 2)),
  .n none (.slice 3 (some (.loc 1)) (some (.loc 0)) (.loc 2)),
  .n none (.len 0 (.loc 0)),
  .n none (.mov (.k (.d (.int .i64 0))))], [(8, 2), (9, 1), (10, 0)]⟩
@[reducible] def c23r4 : Reg := ⟨[.n none (.bin .lss (.int .i64) (.var 10) (.var 9))], [(11, 0)]⟩
@[reducible] def c23r5 : Reg := ⟨[.n none (.idxAddr 3 (.var 8) (.var 10)),
  .n none (.load 3 true (.loc 0)),
  .n none (.alloc 3 (.agg [(.d (.int .i64 0)), .nils, (.d (.int .i64 0))])),
  .e none (.store 3 true (.loc 0) (.loc 1)) [] [] false], [(7, 1)]⟩
@[reducible] def c23r6 : Reg := ⟨[.n none (.mov (.var 5)),
  .n none (.fieldAddr 2 (.var 7)),
  .n none (.load 1 false (.loc 0)),
  .n none (.bin .add (.int .i64) (.loc 2) (.loc 0)),
  .n none (.minmax true [(.loc 0), (.k (.d (.int .i64 1099511627776)))]),
  .n none (.mov (.loc 0))], [(5, 0)]⟩
@[reducible] def c23r7 : Reg := ⟨[.n none (.mov (.var 6)),
  .n none (.build [(.d (.int .i64 0)), (.d (.int .i64 0))] [(0, 1, (.k (.d (.int .i64 2))))]),
  .n none (.lit 2 (.d (.agg [(.int .i64 0), (.int .i64 0)])) 1 [(0, (.loc 0))] false),
  .e none (.append 2 16 (.loc 2) (.loc 0)) [] [] false,
  .n none (.mov (.loc 0))], [(6, 0)]⟩
@[reducible] def c23r8 : Reg := ⟨[.n none (.bin .add (.int .i64) (.var 10) (.k (.d (.int .i64 1)))),
  .n none (.mov (.loc 0))], [(10, 0)]⟩
@[reducible] def c23r9 : Reg := ⟨[.n none (.mov (.var 5)),
  .n none (.mov (.var 6)),
  .n none (.mov (.loc 1)),
  .n none (.mov (.loc 1))], [(3, 1), (4, 0)]⟩
def c23 : C := (.seq (.reg c23r0) (.seq (.reg c23r1) (.seq (.reg c23r2) (.seq (.seq (.reg c23r3) (.block 0 (.loop (.seq (.reg c23r4) (.seq (.cond (.var 11) .skip (.exit 0)) (.seq (.block 1 (.seq (.reg c23r5) (.seq (.reg c23r6) (.reg c23r7)))) (.reg c23r8))))))) (.seq (.reg c23r9) .ret)))))
def r23 : List RV := [(.tmp 3), (.tmp 4)]
/- emendate/lattice.compare params 2 free 0 -/
def v25 : List Tmp := [0, 1, 2, 3, 4]
@[reducible] def c25r0 : Reg := ⟨[.n none (.box 3 (.var 0)),
  .n none (.box 3 (.var 1)),
  .n none (.mov (.k (.d (.int .i64 0))))], [(2, 2), (3, 1), (4, 0)]⟩
@[reducible] def c25r1 : Reg := ⟨[.n none (.fieldAddr 0 (.var 2)),
  .n none (.load 1 false (.loc 0)),
  .n none (.fieldAddr 0 (.var 3)),
  .n none (.load 1 false (.loc 0)),
  .n none (.fieldAddr 1 (.var 2)),
  .n none (.load 1 false (.loc 0)),
  .n none (.fieldAddr 1 (.var 3)),
  .n none (.load 1 false (.loc 0)),
  .n none (.fieldAddr 2 (.var 2)),
  .n none (.load 1 false (.loc 0)),
  .n none (.fieldAddr 2 (.var 3)),
  .n none (.load 1 false (.loc 0)),
  .e none (.call 41 [(.loc 10), (.loc 8)]) [(.loc 7), (.loc 5), (.loc 3), (.loc 1)] [] false,
  .e none (.call 41 [(.loc 7), (.loc 5)]) [(.loc 4), (.loc 2)] [] false,
  .e none (.call 41 [(.loc 4), (.loc 2)]) [] [] false,
  .n none (.lit 1 (.d (.int .i64 0)) 3 [(0, (.loc 2)), (1, (.loc 1)), (2, (.loc 0))] false),
  .e none (.call 40 [(.loc 0)]) [] [] false,
  .n none (.mov (.loc 0))], [(4, 0)]⟩
def c25 : C := (.seq (.reg c25r0) (.seq (.reg c25r1) .ret))
def r25 : List RV := [(.tmp 4)]
/- emendate/emendateref37.Deletion params 3 free 0 -/
def v26 : List Tmp := [0, 1, 2, 3, 6, 7, 8, 12]
@[reducible] def c26r0 : Reg := ⟨[.n none (.box 3 (.var 0)),
  .n none (.mov (.k (.d (.int .i64 0))))], [(3, 1), (4, 0)]⟩
@[reducible] def c26r1 : Reg := ⟨[.n none (.mov (.k (.d (.int .i64 0))))], [(5, 0)]⟩
@[reducible] def c26r2 : Reg := ⟨[.n none (.mov (.var 1)),
  .n none (.mov (.loc 0))], [(6, 0)]⟩
@[reducible] def c26r3 : Reg := ⟨[.n none (.mov (.var 6)),
  .n none (.mov (.var 2)),
  .n none (.bin .lss (.int .i64) (.loc 1) (.loc 0))], [(7, 0)]⟩
@[reducible] def c26r4 : Reg := ⟨[.n none (.mov (.var 5)),
  .n none (.fieldAddr 0 (.var 3)),
  .n none (.load 1 false (.loc 0)),
  .n none (.mov (.var 6)),
  .n none (.idxAddr 3 (.loc 1) (.loc 0)),
  .n none (.fieldAddr 2 (.loc 0)),
  .n none (.load 1 false (.loc 0)),
  .e none (.call 28 [(.loc 6), (.loc 0)]) [] [] false,
  .n none (.mov (.loc 0))], [(5, 0)]⟩
@[reducible] def c26r5 : Reg := ⟨[.n none (.mov (.var 6)),
  .n none (.bin .add (.int .i64) (.loc 0) (.k (.d (.int .i64 1)))),
  .n none (.mov (.loc 0))], [(6, 0)]⟩
@[reducible] def c26r6 : Reg := ⟨[.n none (.mov (.var 5)),
  .n none (.mov (.loc 0))], [(4, 0)]⟩
def c26 : C := (.seq (.reg c26r0) (.seq (.reg c26r1) (.seq (.seq (.reg c26r2) (.block 0 (.loop (.seq (.seq (.reg c26r3) (.cond (.var 7) .skip (.exit 0))) (.seq (.block 1 (.reg c26r4)) (.reg c26r5)))))) (.seq (.reg c26r6) .ret))))
def r26 : List RV := [(.tmp 4)]
/- emendate/emendateref37.put params 2 free 0 -/
def v27 : List Tmp := [0, 1, 3, 4, 5, 6, 7, 10, 15, 49, 57, 71, 84]
@[reducible] def c27r0 : Reg := ⟨[.n none (.box 5 (.var 1)),
  .n none (.mov (.k .nils))], [(2, 1), (3, 0)]⟩
@[reducible] def c27r1 : Reg := ⟨[.n none (.fieldAddr 3 (.var 2)),
  .n none (.load 1 false (.loc 0)),
  .n none (.bin .geq (.int .i64) (.loc 0) (.k (.d (.int .i64 1099511627776))))], [(7, 0)]⟩
@[reducible] def c27r2 : Reg := ⟨[.n none (.mov (.var 0)),
  .n none (.mov (.loc 0))], [(3, 0)]⟩
@[reducible] def c27r3 : Reg := ⟨[.n none (.mov (.k .nils))], [(4, 0)]⟩
@[reducible] def c27r4 : Reg := ⟨[.n none (.mov (.k (.d (.bool false))))], [(5, 0)]⟩
@[reducible] def c27r5 : Reg := ⟨[.n none (.mov (.k (.d (.int .i64 0))))], [(6, 0)]⟩
@[reducible] def c27r6 : Reg := ⟨[.n none (.mov (.var 6)),
  .n none (.mov (.var 0)),
  .n none (.len 0 (.loc 0)),
  .n none (.bin .lss (.int .i64) (.loc 2) (.loc 0))], [(8, 0)]⟩
@[reducible] def c27r7 : Reg := ⟨[.n none (.mov (.var 5)),
  .n none (.not (.loc 0)),
  .n none (.mov (.loc 0)),
  .n (some ((.loc 0), true)) (.mov (.var 0)),
  .n (some ((.loc 1), true)) (.mov (.var 6)),
  .n (some ((.loc 2), true)) (.idxAddr 5 (.loc 1) (.loc 0)),
  .n (some ((.loc 3), true)) (.fieldAddr 0 (.loc 0)),
  .n (some ((.loc 4), true)) (.load 1 false (.loc 0)),
  .n (some ((.loc 5), true)) (.fieldAddr 0 (.var 2)),
  .n (some ((.loc 6), true)) (.load 1 false (.loc 0)),
  .n (some ((.loc 7), true)) (.bin .eql (.int .i64) (.loc 2) (.loc 0)),
  .n none (.pick (.loc 8) (.loc 0) (.k (.d (.bool false)))),
  .n none (.mov (.loc 0)),
  .n (some ((.loc 0), true)) (.mov (.var 0)),
  .n (some ((.loc 1), true)) (.mov (.var 6)),
  .n (some ((.loc 2), true)) (.idxAddr 5 (.loc 1) (.loc 0)),
  .n (some ((.loc 3), true)) (.fieldAddr 1 (.loc 0)),
  .n (some ((.loc 4), true)) (.load 1 false (.loc 0)),
  .n (some ((.loc 5), true)) (.fieldAddr 1 (.var 2)),
  .n (some ((.loc 6), true)) (.load 1 false (.loc 0)),
  .n (some ((.loc 7), true)) (.bin .eql (.int .i64) (.loc 2) (.loc 0)),
  .n none (.pick (.loc 8) (.loc 0) (.k (.d (.bool false)))),
  .n none (.mov (.loc 0)),
  .n (some ((.loc 0), true)) (.mov (.var 0)),
  .n (some ((.loc 1), true)) (.mov (.var 6)),
  .n (some ((.loc 2), true)) (.idxAddr 5 (.loc 1) (.loc 0)),
  .n (some ((.loc 3), true)) (.fieldAddr 2 (.loc 0)),
  .n (some ((.loc 4), true)) (.load 1 false (.loc 0)),
  .n (some ((.loc 5), true)) (.fieldAddr 2 (.var 2)),
  .n (some ((.loc 6), true)) (.load 1 false (.loc 0)),
  .n (some ((.loc 7), true)) (.bin .eql (.int .i64) (.loc 2) (.loc 0)),
  .n none (.pick (.loc 8) (.loc 0) (.k (.d (.bool false))))], [(9, 0)]⟩
@[reducible] def c27r8 : Reg := ⟨[.n none (.mov (.k (.d (.bool true))))], [(5, 0)]⟩
@[reducible] def c27r9 : Reg := ⟨[.n none (.fieldAddr 3 (.var 2)),
  .n none (.load 1 false (.loc 0)),
  .n none (.mov (.var 0)),
  .n none (.mov (.var 6)),
  .n none (.idxAddr 5 (.loc 1) (.loc 0)),
  .n none (.fieldAddr 3 (.loc 0)),
  .n none (.load 1 false (.loc 0)),
  .n none (.bin .lss (.int .i64) (.loc 5) (.loc 0))], [(10, 0)]⟩
@[reducible] def c27r10 : Reg := ⟨[.n none (.mov (.var 4)),
  .n none (.load 5 true (.var 2)),
  .n none (.lit 5 (.agg [(.d (.int .i64 0)), (.d (.int .i64 0)), (.d (.int .i64 0)), (.d (.int .i64 0)), .nils]) 1 [(0, (.loc 0))] false),
  .e none (.append 5 56 (.loc 2) (.loc 0)) [] [] false,
  .n none (.mov (.loc 0))], [(4, 0)]⟩
@[reducible] def c27r11 : Reg := ⟨[.n none (.mov (.var 5)),
  .n none (.not (.loc 0)),
  .n none (.mov (.loc 0)),
  .n (some ((.loc 0), true)) (.load 5 true (.var 2)),
  .n (some ((.loc 1), true)) (.mov (.var 0)),
  .n (some ((.loc 2), true)) (.mov (.var 6)),
  .n (some ((.loc 3), true)) (.idxAddr 5 (.loc 1) (.loc 0)),
  .n (some ((.loc 4), true)) (.load 5 true (.loc 0)),
  .e (some ((.loc 5), true)) (.call 42 [(.loc 4), (.loc 0)]) [] [] false,
  .n none (.pick (.loc 6) (.loc 0) (.k (.d (.bool false))))], [(11, 0)]⟩
@[reducible] def c27r12 : Reg := ⟨[.n none (.mov (.k (.d (.bool true))))], [(5, 0)]⟩
@[reducible] def c27r13 : Reg := ⟨[.n none (.mov (.var 4)),
  .n none (.load 5 true (.var 2)),
  .n none (.lit 5 (.agg [(.d (.int .i64 0)), (.d (.int .i64 0)), (.d (.int .i64 0)), (.d (.int .i64 0)), .nils]) 1 [(0, (.loc 0))] false),
  .e none (.append 5 56 (.loc 2) (.loc 0)) [] [] false,
  .n none (.mov (.loc 0))], [(4, 0)]⟩
@[reducible] def c27r14 : Reg := ⟨[.n none (.mov (.var 4)),
  .n none (.mov (.var 0)),
  .n none (.mov (.var 6)),
  .n none (.idxAddr 5 (.loc 1) (.loc 0)),
  .n none (.load 5 true (.loc 0)),
  .n none (.lit 5 (.agg [(.d (.int .i64 0)), (.d (.int .i64 0)), (.d (.int .i64 0)), (.d (.int .i64 0)), .nils]) 1 [(0, (.loc 0))] false),
  .e none (.append 5 56 (.loc 5) (.loc 0)) [] [] false,
  .n none (.mov (.loc 0))], [(4, 0)]⟩
@[reducible] def c27r15 : Reg := ⟨[.n none (.mov (.var 6)),
  .n none (.bin .add (.int .i64) (.loc 0) (.k (.d (.int .i64 1)))),
  .n none (.mov (.loc 0))], [(6, 0)]⟩
@[reducible] def c27r16 : Reg := ⟨[.n none (.mov (.var 5)),
  .n none (.not (.loc 0))], [(12, 0)]⟩
@[reducible] def c27r17 : Reg := ⟨[.n none (.mov (.var 4)),
  .n none (.load 5 true (.var 2)),
  .n none (.lit 5 (.agg [(.d (.int .i64 0)), (.d (.int .i64 0)), (.d (.int .i64 0)), (.d (.int .i64 0)), .nils]) 1 [(0, (.loc 0))] false),
  .e none (.append 5 56 (.loc 2) (.loc 0)) [] [] false,
  .n none (.mov (.loc 0))], [(4, 0)]⟩
@[reducible] def c27r18 : Reg := ⟨[.n none (.mov (.var 4)),
  .n none (.mov (.loc 0))], [(3, 0)]⟩
def c27 : C := (.seq (.reg c27r0) (.seq (.seq (.reg c27r1) (.cond (.var 7) (.seq (.reg c27r2) .ret) .skip)) (.seq (.reg c27r3) (.seq (.reg c27r4) (.seq (.seq (.reg c27r5) (.block 0 (.loop (.seq (.seq (.reg c27r6) (.cond (.var 8) .skip (.exit 0))) (.seq (.block 1 (.seq (.seq (.reg c27r7) (.cond (.var 9) (.seq (.reg c27r8) (.seq (.reg c27r9) (.cond (.var 10) (.seq (.reg c27r10) (.exit 1)) .skip))) .skip)) (.seq (.seq (.reg c27r11) (.cond (.var 11) (.seq (.reg c27r12) (.reg c27r13)) .skip)) (.reg c27r14)))) (.reg c27r15)))))) (.seq (.seq (.reg c27r16) (.cond (.var 12) (.reg c27r17) .skip)) (.seq (.reg c27r18) .ret)))))))
def r27 : List RV := [(.tmp 3)]
/- emendate/emendateref37.add params 2 free 0 -/
def v28 : List Tmp := [0, 1, 4, 16]
@[reducible] def c28r0 : Reg := ⟨[.n none (.mov (.k (.d (.int .i64 0))))], [(2, 0)]⟩
@[reducible] def c28r1 : Reg := ⟨[.n none (.mov (.var 0)),
  .n none (.bin .geq (.int .i64) (.loc 0) (.k (.d (.int .i64 1099511627776)))),
  .n none (.mov (.loc 0)),
  .n (some ((.loc 0), false)) (.mov (.var 1)),
  .n (some ((.loc 1), false)) (.bin .geq (.int .i64) (.loc 0) (.k (.d (.int .i64 1099511627776)))),
  .n none (.pick (.loc 2) (.k (.d (.bool true))) (.loc 0)),
  .n none (.mov (.loc 0)),
  .n (some ((.loc 0), false)) (.mov (.var 0)),
  .n (some ((.loc 1), false)) (.mov (.var 1)),
  .n (some ((.loc 2), false)) (.bin .add (.int .i64) (.loc 1) (.loc 0)),
  .n (some ((.loc 3), false)) (.bin .geq (.int .i64) (.loc 0) (.k (.d (.int .i64 1099511627776)))),
  .n none (.pick (.loc 4) (.k (.d (.bool true))) (.loc 0))], [(3, 0)]⟩
@[reducible] def c28r2 : Reg := ⟨[.n none (.mov (.k (.d (.int .i64 1099511627776))))], [(2, 0)]⟩
@[reducible] def c28r3 : Reg := ⟨[.n none (.mov (.var 0)),
  .n none (.mov (.var 1)),
  .n none (.bin .add (.int .i64) (.loc 1) (.loc 0)),
  .n none (.mov (.loc 0))], [(2, 0)]⟩
def c28 : C := (.seq (.reg c28r0) (.seq (.seq (.reg c28r1) (.cond (.var 3) (.seq (.reg c28r2) .ret) .skip)) (.seq (.reg c28r3) .ret)))
def r28 : List RV := [(.tmp 2)]
/- emendate/emendateref37.deletes params 2 free 0 -/
def v29 : List Tmp := [0, 1, 3, 4, 5, 6, 9]
@[reducible] def c29r0 : Reg := ⟨[.n none (.box 2 (.var 1)),
  .n none (.mov (.k .nils))], [(2, 1), (3, 0)]⟩
@[reducible] def c29r1 : Reg := ⟨[.n none (.mov (.k .nils))], [(4, 0)]⟩
@[reducible] def c29r2 : Reg := ⟨[.n none (.mov (.k (.d (.int .i64 0))))], [(5, 0)]⟩
@[reducible] def c29r3 : Reg := ⟨[.n none (.mov (.var 5)),
  .n none (.mov (.var 0)),
  .n none (.bin .lss (.int .i64) (.loc 1) (.loc 0))], [(6, 0)]⟩
@[reducible] def c29r4 : Reg := ⟨[.n none (.mov (.var 4)),
  .n none (.build [(.d (.int .i64 0)), (.d (.int .i64 0))] [(0, 1, (.k (.d (.int .i64 2))))]),
  .n none (.lit 2 (.d (.agg [(.int .i64 0), (.int .i64 0)])) 1 [(0, (.loc 0))] false),
  .e none (.append 2 16 (.loc 2) (.loc 0)) [] [] false,
  .n none (.mov (.loc 0))], [(4, 0)]⟩
@[reducible] def c29r5 : Reg := ⟨[.n none (.mov (.var 5)),
  .n none (.bin .add (.int .i64) (.loc 0) (.k (.d (.int .i64 1)))),
  .n none (.mov (.loc 0))], [(5, 0)]⟩
@[reducible] def c29r6 : Reg := ⟨[.n none (.mov (.var 4)),
  .n none (.load 2 true (.var 2)),
  .n none (.lit 2 (.d (.agg [(.int .i64 0), (.int .i64 0)])) 1 [(0, (.loc 0))] false),
  .e none (.append 2 16 (.loc 2) (.loc 0)) [] [] false,
  .n none (.mov (.loc 0))], [(3, 0)]⟩
def c29 : C := (.seq (.reg c29r0) (.seq (.reg c29r1) (.seq (.seq (.reg c29r2) (.block 0 (.loop (.seq (.seq (.reg c29r3) (.cond (.var 6) .skip (.exit 0))) (.seq (.block 1 (.reg c29r4)) (.reg c29r5)))))) (.seq (.reg c29r6) .ret))))
def r29 : List RV := [(.tmp 3)]
/- emendate/emendateref37.Swappable params 2 free 0 -/
def v30 : List Tmp := [0, 1, 2, 4]
@[reducible] def c30r0 : Reg := ⟨[.n none (.box 3 (.var 0)),
  .n none (.mov (.k (.d (.bool false))))], [(2, 1), (3, 0)]⟩
@[reducible] def c30r1 : Reg := ⟨[.n none (.mov (.var 1)),
  .n none (.bin .add (.int .i64) (.loc 0) (.k (.d (.int .i64 1)))),
  .n none (.fieldAddr 0 (.var 2)),
  .n none (.load 1 false (.loc 0)),
  .n none (.len 0 (.loc 0)),
  .n none (.bin .lss (.int .i64) (.loc 3) (.loc 0)),
  .n none (.mov (.loc 0)),
  .n (some ((.loc 0), true)) (.fieldAddr 2 (.var 2)),
  .n (some ((.loc 1), true)) (.load 1 false (.loc 0)),
  .n (some ((.loc 2), true)) (.bin .gtr (.int .i64) (.loc 0) (.k (.d (.int .i64 0)))),
  .n none (.pick (.loc 3) (.loc 0) (.k (.d (.bool false)))),
  .n none (.mov (.loc 0)),
  .n (some ((.loc 0), true)) (.fieldAddr 0 (.var 2)),
  .n (some ((.loc 1), true)) (.load 1 false (.loc 0)),
  .n (some ((.loc 2), true)) (.mov (.var 1)),
  .n (some ((.loc 3), true)) (.idxAddr 3 (.loc 1) (.loc 0)),
  .n (some ((.loc 4), true)) (.fieldAddr 0 (.loc 0)),
  .n (some ((.loc 5), true)) (.load 1 false (.loc 0)),
  .n (some ((.loc 6), true)) (.bin .geq (.int .i64) (.loc 0) (.k (.d (.int .i64 0)))),
  .n none (.pick (.loc 7) (.loc 0) (.k (.d (.bool false)))),
  .n none (.mov (.loc 0)),
  .n (some ((.loc 0), true)) (.fieldAddr 0 (.var 2)),
  .n (some ((.loc 1), true)) (.load 1 false (.loc 0)),
  .n (some ((.loc 2), true)) (.mov (.var 1)),
  .n (some ((.loc 3), true)) (.bin .add (.int .i64) (.loc 0) (.k (.d (.int .i64 1)))),
  .n (some ((.loc 4), true)) (.idxAddr 3 (.loc 2) (.loc 0)),
  .n (some ((.loc 5), true)) (.fieldAddr 0 (.loc 0)),
  .n (some ((.loc 6), true)) (.load 1 false (.loc 0)),
  .n (some ((.loc 7), true)) (.bin .geq (.int .i64) (.loc 0) (.k (.d (.int .i64 0)))),
  .n none (.pick (.loc 8) (.loc 0) (.k (.d (.bool false)))),
  .n none (.mov (.loc 0))], [(3, 0)]⟩
def c30 : C := (.seq (.reg c30r0) (.seq (.reg c30r1) .ret))
def r30 : List RV := [(.tmp 3)]
/- emendate/emendateref35.columns params 2 free 0 -/
def v32 : List Tmp := [0, 1, 4, 5, 9, 18]
@[reducible] def c32r0 : Reg := ⟨[.n none (.mov (.k (.d (.bool false))))], [(2, 0)]⟩
@[reducible] def c32r1 : Reg := ⟨[.n none (.mov (.k (.d (.int .i64 0))))], [(3, 0)]⟩
@[reducible] def c32r2 : Reg := ⟨[.n none (.mov (.var 3)),
  .n none (.mov (.var 0)),
  .n none (.len 0 (.loc 0)),
  .n none (.bin .lss (.int .i64) (.loc 2) (.loc 0))], [(4, 0)]⟩
@[reducible] def c32r3 : Reg := ⟨[.n none (.mov (.var 0)),
  .n none (.mov (.var 3)),
  .n none (.idxAddr 3 (.loc 1) (.loc 0)),
  .n none (.load 3 true (.loc 0)),
  .n none (.mov (.var 1)),
  .e none (.call 43 [(.loc 1), (.loc 0)]) [] [] false,
  .n none (.not (.loc 0))], [(5, 0)]⟩
@[reducible] def c32r4 : Reg := ⟨[.n none (.mov (.k (.d (.bool false))))], [(2, 0)]⟩
@[reducible] def c32r5 : Reg := ⟨[.n none (.mov (.var 3)),
  .n none (.bin .add (.int .i64) (.loc 0) (.k (.d (.int .i64 1)))),
  .n none (.mov (.loc 0))], [(3, 0)]⟩
@[reducible] def c32r6 : Reg := ⟨[.n none (.mov (.k (.d (.bool true))))], [(2, 0)]⟩
def c32 : C := (.seq (.reg c32r0) (.seq (.seq (.reg c32r1) (.block 0 (.loop (.seq (.seq (.reg c32r2) (.cond (.var 4) .skip (.exit 0))) (.seq (.block 1 (.seq (.reg c32r3) (.cond (.var 5) (.seq (.reg c32r4) .ret) .skip))) (.reg c32r5)))))) (.seq (.reg c32r6) .ret)))
def r32 : List RV := [(.tmp 2)]
/- (*emendate/lattice.builder).reads params 5 free 0 -/
def v34 : List Tmp := [0, 1, 2, 3, 4, 10, 11, 20, 21, 22, 23, 28]
@[reducible] def c34r0 : Reg := ⟨[.n none (.mov (.var 0)),
  .n none (.nilCheck (.loc 0)),
  .n none (.fieldAddr 0 (.loc 0)),
  .n none (.fieldAddr 0 (.loc 0)),
  .n none (.load 1 false (.loc 0)),
  .n none (.mov (.var 2)),
  .n none (.idxAddr 3 (.loc 1) (.loc 0)),
  .n none (.fieldAddr 1 (.loc 0)),
  .n none (.load 1 false (.loc 0)),
  .n none (.len 0 (.loc 0)),
  .n none (.mov (.k (.d (.int .i64 0))))], [(7, 2), (8, 1), (9, 0)]⟩
@[reducible] def c34r1 : Reg := ⟨[.n none (.bin .lss (.int .i64) (.var 9) (.var 8))], [(10, 0)]⟩
@[reducible] def c34r2 : Reg := ⟨[.n none (.mov (.var 9)),
  .n none (.idxAddr 1 (.var 7) (.var 9)),
  .n none (.load 1 false (.loc 0)),
  .n none (.mov (.loc 2)),
  .n none (.mov (.loc 1))], [(5, 1), (6, 0)]⟩
@[reducible] def c34r3 : Reg := ⟨[.n none (.mov (.var 6)),
  .n none (.bin .geq (.int .i64) (.loc 0) (.k (.d (.int .i64 0))))], [(11, 0)]⟩
@[reducible] def c34r4 : Reg := ⟨[.n none (.mov (.var 0)),
  .n none (.mov (.var 1)),
  .n none (.bin .mul (.int .i64) (.k (.d (.int .i64 2))) (.loc 0)),
  .n none (.mov (.var 2)),
  .n none (.bin .mul (.int .i64) (.k (.d (.int .i64 2))) (.loc 0)),
  .n none (.bin .add (.int .i64) (.loc 0) (.k (.d (.int .i64 2)))),
  .n none (.mov (.var 5)),
  .n none (.mov (.var 3)),
  .n none (.mov (.var 6)),
  .n none (.bin .add (.int .i64) (.loc 1) (.loc 0)),
  .n none (.mov (.var 4)),
  .e none (.call 36 [(.loc 0)]) [] [] false,
  .n none (.mov (.var 5)),
  .n none (.build [(.d (.int .i64 0)), (.d (.int .i64 0))] [(0, 1, (.k (.d (.int .i64 1)))), (1, 1, (.loc 0))]),
  .n none (.lit 2 (.d (.agg [(.int .i64 0), (.int .i64 0)])) 1 [(0, (.loc 0))] false),
  .e none (.append 2 16 (.loc 3) (.loc 0)) [] [] true,
  .n none (.build [(.d (.int .i64 0)), (.d (.int .i64 0)), (.d (.int .i64 0)), (.d (.int .i64 0)), .nils] [(0, 1, (.loc 13)), (1, 1, (.loc 10)), (2, 1, (.loc 9)), (3, 1, (.loc 6)), (4, 1, (.loc 0))]),
  .e none (.call 35 [(.loc 16), (.loc 0)]) [] [] false], []⟩
@[reducible] def c34r5 : Reg := ⟨[.n none (.bin .add (.int .i64) (.var 9) (.k (.d (.int .i64 1)))),
  .n none (.mov (.loc 0))], [(9, 0)]⟩
def c34 : C := (.seq (.reg c34r0) (.block 0 (.loop (.seq (.reg c34r1) (.seq (.cond (.var 10) .skip (.exit 0)) (.seq (.block 1 (.seq (.reg c34r2) (.seq (.reg c34r3) (.cond (.var 11) (.reg c34r4) .skip)))) (.reg c34r5)))))))
def r34 : List RV := []
/- (*emendate/lattice.builder).add params 2 free 0 -/
def v35 : List Tmp := [0, 1, 3, 4, 5, 6, 36]
@[reducible] def c35r0 : Reg := ⟨[.n none (.box 5 (.var 1))], [(2, 0)]⟩
@[reducible] def c35r1 : Reg := ⟨[.n none (.fieldAddr 0 (.var 2)),
  .n none (.load 1 false (.loc 0)),
  .n none (.fieldAddr 1 (.var 2)),
  .n none (.load 1 false (.loc 0)),
  .n none (.fieldAddr 2 (.var 2)),
  .n none (.load 1 false (.loc 0)),
  .n none (.build [(.d (.int .i64 0)), (.d (.int .i64 0)), (.d (.int .i64 0))] [(0, 1, (.loc 4)), (1, 1, (.loc 2)), (2, 1, (.loc 0))]),
  .n none (.alloc 3 (.d (.agg [(.int .i64 0), (.int .i64 0), (.int .i64 0)]))),
  .e none (.store 3 true (.loc 0) (.loc 1)) [] [] false], [(3, 1)]⟩
@[reducible] def c35r2 : Reg := ⟨[.n none (.mov (.var 0)),
  .n none (.nilCheck (.loc 0)),
  .n none (.fieldAddr 3 (.loc 0)),
  .n none (.load 1 false (.loc 0)),
  .n none (.load 3 true (.var 3)),
  .n none (.lookup true (.many [(.int .i64), (.int .i64), (.int .i64)]) (.agg [(.d (.int .i64 0)), (.d (.int .i64 0)), (.d (.int .i64 0)), (.d (.int .i64 0)), .nils]) (.loc 1) (.loc 0)),
  .n none (.mov (.loc 0)),
  .n none (.extract 0 (.loc 0)),
  .n none (.extract 1 (.loc 1)),
  .n none (.alloc 5 (.agg [(.d (.int .i64 0)), (.d (.int .i64 0)), (.d (.int .i64 0)), (.d (.int .i64 0)), .nils])),
  .e none (.store 5 true (.loc 0) (.loc 2)) [] [] false,
  .n none (.mov (.loc 2))], [(4, 2), (5, 0)]⟩
@[reducible] def c35r3 : Reg := ⟨[.n none (.fieldAddr 3 (.var 2)),
  .n none (.load 1 false (.loc 0)),
  .n none (.bin .lss (.int .i64) (.loc 0) (.k (.d (.int .i64 1099511627776)))),
  .n none (.mov (.loc 0)),
  .n (some ((.loc 0), true)) (.mov (.var 5)),
  .n (some ((.loc 1), true)) (.not (.loc 0)),
  .n (some ((.loc 2), true)) (.mov (.loc 0)),
  .n (some ((.loc 0), false)) (.fieldAddr 3 (.var 2)),
  .n (some ((.loc 1), false)) (.load 1 false (.loc 0)),
  .n (some ((.loc 2), false)) (.fieldAddr 3 (.var 4)),
  .n (some ((.loc 3), false)) (.load 1 false (.loc 0)),
  .n (some ((.loc 4), false)) (.bin .lss (.int .i64) (.loc 2) (.loc 0)),
  .n (some ((.loc 8), true)) (.pick (.loc 5) (.k (.d (.bool true))) (.loc 0)),
  .n none (.pick (.loc 9) (.loc 0) (.k (.d (.bool false))))], [(6, 0)]⟩
@[reducible] def c35r4 : Reg := ⟨[.n none (.mov (.var 0)),
  .n none (.nilCheck (.loc 0)),
  .n none (.fieldAddr 3 (.loc 0)),
  .n none (.load 1 false (.loc 0)),
  .n none (.load 3 true (.var 3)),
  .n none (.load 5 true (.var 2)),
  .e none (.mapUpd (.many [(.int .i64), (.int .i64), (.int .i64)]) (.loc 2) (.loc 1) (.loc 0)) [] [] false], []⟩
def c35 : C := (.seq (.reg c35r0) (.seq (.reg c35r1) (.seq (.reg c35r2) (.seq (.reg c35r3) (.cond (.var 6) (.reg c35r4) .skip)))))
def r35 : List RV := []
/- slices.Clone[[]emendate/api.Op,emendate/api.Op] params 1 free 0 -/
def v36 : List Tmp := [0, 2, 4]
@[reducible] def c36r0 : Reg := ⟨[.n none (.mov (.k .nils))], [(1, 0)]⟩
@[reducible] def c36r1 : Reg := ⟨[.n none (.mov (.var 0)),
  .e none (.isNil false (.loc 0)) [] [] false], [(2, 0)]⟩
@[reducible] def c36r2 : Reg := ⟨[.n none (.mov (.k .nils))], [(1, 0)]⟩
@[reducible] def c36r3 : Reg := ⟨[.n none (.lit 2 (.d (.agg [(.int .i64 0), (.int .i64 0)])) 0 [] true),
  .n none (.mov (.var 0)),
  .e none (.append 2 16 (.loc 1) (.loc 0)) [] [] false,
  .n none (.mov (.loc 0))], [(1, 0)]⟩
def c36 : C := (.seq (.reg c36r0) (.seq (.seq (.reg c36r1) (.cond (.var 2) (.seq (.reg c36r2) .ret) .skip)) (.seq (.reg c36r3) .ret)))
def r36 : List RV := [(.tmp 1)]
/- (*emendate/lattice.builder).swap params 2 free 0 -/
def v37 : List Tmp := [0, 1, 4, 5]
@[reducible] def c37r0 : Reg := ⟨[.n none (.mov (.k (.d (.bool false))))], [(2, 0)]⟩
@[reducible] def c37r1 : Reg := ⟨[.n none (.mov (.var 0)),
  .n none (.nilCheck (.loc 0)),
  .n none (.fieldAddr 0 (.loc 0)),
  .n none (.fieldAddr 0 (.loc 0)),
  .n none (.load 1 false (.loc 0)),
  .n none (.mov (.loc 0))], [(3, 0)]⟩
@[reducible] def c37r2 : Reg := ⟨[.n none (.mov (.var 1)),
  .n none (.bin .add (.int .i64) (.loc 0) (.k (.d (.int .i64 1)))),
  .n none (.mov (.var 3)),
  .n none (.len 0 (.loc 0)),
  .n none (.bin .lss (.int .i64) (.loc 2) (.loc 0)),
  .n none (.mov (.loc 0)),
  .n (some ((.loc 0), true)) (.mov (.var 0)),
  .n (some ((.loc 1), true)) (.nilCheck (.loc 0)),
  .n (some ((.loc 2), true)) (.fieldAddr 0 (.loc 0)),
  .n (some ((.loc 3), true)) (.fieldAddr 2 (.loc 0)),
  .n (some ((.loc 4), true)) (.load 1 false (.loc 0)),
  .n (some ((.loc 5), true)) (.bin .gtr (.int .i64) (.loc 0) (.k (.d (.int .i64 0)))),
  .n none (.pick (.loc 6) (.loc 0) (.k (.d (.bool false)))),
  .n none (.mov (.loc 0)),
  .n (some ((.loc 0), true)) (.mov (.var 3)),
  .n (some ((.loc 1), true)) (.mov (.var 1)),
  .n (some ((.loc 2), true)) (.idxAddr 3 (.loc 1) (.loc 0)),
  .n (some ((.loc 3), true)) (.fieldAddr 0 (.loc 0)),
  .n (some ((.loc 4), true)) (.load 1 false (.loc 0)),
  .n (some ((.loc 5), true)) (.bin .geq (.int .i64) (.loc 0) (.k (.d (.int .i64 0)))),
  .n none (.pick (.loc 6) (.loc 0) (.k (.d (.bool false)))),
  .n none (.mov (.loc 0)),
  .n (some ((.loc 0), true)) (.mov (.var 3)),
  .n (some ((.loc 1), true)) (.mov (.var 1)),
  .n (some ((.loc 2), true)) (.bin .add (.int .i64) (.loc 0) (.k (.d (.int .i64 1)))),
  .n (some ((.loc 3), true)) (.idxAddr 3 (.loc 2) (.loc 0)),
  .n (some ((.loc 4), true)) (.fieldAddr 0 (.loc 0)),
  .n (some ((.loc 5), true)) (.load 1 false (.loc 0)),
  .n (some ((.loc 6), true)) (.bin .geq (.int .i64) (.loc 0) (.k (.d (.int .i64 0)))),
  .n none (.pick (.loc 7) (.loc 0) (.k (.d (.bool false)))),
  .n none (.mov (.loc 0))], [(2, 0)]⟩
def c37 : C := (.seq (.reg c37r0) (.seq (.reg c37r1) (.seq (.reg c37r2) .ret)))
def r37 : List RV := [(.tmp 2)]
/- cmp.Or[int] params 1 free 0 -/
def v40 : List Tmp := [0, 2, 3, 5, 6, 7, 8, 9, 14]
@[reducible] def c40r0 : Reg := ⟨[.n none (.mov (.k (.d (.int .i64 0))))], [(1, 0)]⟩
@[reducible] def c40r1 : Reg := ⟨[.n none (.mov (.k (.d (.int .i64 0))))], [(2, 0)]⟩
@[reducible] def c40r2 : Reg := ⟨[.n none (.mov (.var 0)),
  .n none (.len 0 (.loc 0)),
  .n none (.mov (.k (.d (.int .i64 0))))], [(4, 2), (5, 1), (6, 0)]⟩
@[reducible] def c40r3 : Reg := ⟨[.n none (.bin .lss (.int .i64) (.var 6) (.var 5))], [(7, 0)]⟩
@[reducible] def c40r4 : Reg := ⟨[.n none (.idxAddr 1 (.var 4) (.var 6)),
  .n none (.load 1 false (.loc 0)),
  .n none (.mov (.loc 0))], [(3, 0)]⟩
@[reducible] def c40r5 : Reg := ⟨[.n none (.mov (.var 3)),
  .n none (.mov (.var 2)),
  .n none (.bin .neq (.int .i64) (.loc 1) (.loc 0))], [(8, 0)]⟩
@[reducible] def c40r6 : Reg := ⟨[.n none (.mov (.var 3)),
  .n none (.mov (.loc 0))], [(1, 0)]⟩
@[reducible] def c40r7 : Reg := ⟨[.n none (.bin .add (.int .i64) (.var 6) (.k (.d (.int .i64 1)))),
  .n none (.mov (.loc 0))], [(6, 0)]⟩
@[reducible] def c40r8 : Reg := ⟨[.n none (.mov (.var 2)),
  .n none (.mov (.loc 0))], [(1, 0)]⟩
def c40 : C := (.seq (.reg c40r0) (.seq (.reg c40r1) (.seq (.seq (.reg c40r2) (.block 0 (.loop (.seq (.reg c40r3) (.seq (.cond (.var 7) .skip (.exit 0)) (.seq (.block 1 (.seq (.reg c40r4) (.seq (.reg c40r5) (.cond (.var 8) (.seq (.reg c40r6) .ret) .skip)))) (.reg c40r7))))))) (.seq (.reg c40r8) .ret))))
def r40 : List RV := [(.tmp 1)]
/- cmp.Compare[int] params 2 free 0 -/
def v41 : List Tmp := [0, 1, 4, 5, 6, 11, 12, 13, 16, 19]
@[reducible] def c41r0 : Reg := ⟨[.n none (.mov (.k (.d (.int .i64 0))))], [(2, 0)]⟩
@[reducible] def c41r1 : Reg := ⟨[.n none (.mov (.var 0)),
  .e none (.call 56 [(.loc 0)]) [] [] false,
  .n none (.mov (.loc 0))], [(3, 0)]⟩
@[reducible] def c41r2 : Reg := ⟨[.n none (.mov (.var 1)),
  .e none (.call 56 [(.loc 0)]) [] [] false,
  .n none (.mov (.loc 0))], [(4, 0)]⟩
@[reducible] def c41r3 : Reg := ⟨[.n none (.mov (.var 3))], [(5, 0)]⟩
@[reducible] def c41r4 : Reg := ⟨[.n none (.mov (.var 4))], [(6, 0)]⟩
@[reducible] def c41r5 : Reg := ⟨[.n none (.mov (.k (.d (.int .i64 0))))], [(2, 0)]⟩
@[reducible] def c41r6 : Reg := ⟨[.n none (.mov (.k (.d (.int .i64 (-1)))))], [(2, 0)]⟩
@[reducible] def c41r7 : Reg := ⟨[.n none (.mov (.var 4))], [(7, 0)]⟩
@[reducible] def c41r8 : Reg := ⟨[.n none (.mov (.k (.d (.int .i64 1))))], [(2, 0)]⟩
@[reducible] def c41r9 : Reg := ⟨[.n none (.mov (.var 0)),
  .n none (.mov (.var 1)),
  .n none (.bin .lss (.int .i64) (.loc 1) (.loc 0))], [(8, 0)]⟩
@[reducible] def c41r10 : Reg := ⟨[.n none (.mov (.k (.d (.int .i64 (-1)))))], [(2, 0)]⟩
@[reducible] def c41r11 : Reg := ⟨[.n none (.mov (.var 0)),
  .n none (.mov (.var 1)),
  .n none (.bin .gtr (.int .i64) (.loc 1) (.loc 0))], [(9, 0)]⟩
@[reducible] def c41r12 : Reg := ⟨[.n none (.mov (.k (.d (.int .i64 1))))], [(2, 0)]⟩
@[reducible] def c41r13 : Reg := ⟨[.n none (.mov (.k (.d (.int .i64 0))))], [(2, 0)]⟩
def c41 : C := (.seq (.reg c41r0) (.seq (.reg c41r1) (.seq (.reg c41r2) (.seq (.seq (.reg c41r3) (.cond (.var 5) (.seq (.seq (.reg c41r4) (.cond (.var 6) (.seq (.reg c41r5) .ret) .skip)) (.seq (.reg c41r6) .ret)) .skip)) (.seq (.seq (.reg c41r7) (.cond (.var 7) (.seq (.reg c41r8) .ret) .skip)) (.seq (.seq (.reg c41r9) (.cond (.var 8) (.seq (.reg c41r10) .ret) .skip)) (.seq (.seq (.reg c41r11) (.cond (.var 9) (.seq (.reg c41r12) .ret) .skip)) (.seq (.reg c41r13) .ret))))))))
def r41 : List RV := [(.tmp 2)]
/- emendate/emendateref37.Before params 2 free 0 -/
def v42 : List Tmp := [0, 1, 2, 3, 4, 9, 19]
@[reducible] def c42r0 : Reg := ⟨[.n none (.box 5 (.var 0)),
  .n none (.box 5 (.var 1)),
  .n none (.mov (.k (.d (.bool false))))], [(2, 2), (3, 1), (4, 0)]⟩
@[reducible] def c42r1 : Reg := ⟨[.n none (.fieldAddr 0 (.var 2)),
  .n none (.load 1 false (.loc 0)),
  .n none (.fieldAddr 0 (.var 3)),
  .n none (.load 1 false (.loc 0)),
  .n none (.bin .neq (.int .i64) (.loc 2) (.loc 0))], [(5, 0)]⟩
@[reducible] def c42r2 : Reg := ⟨[.n none (.fieldAddr 0 (.var 2)),
  .n none (.load 1 false (.loc 0)),
  .n none (.fieldAddr 0 (.var 3)),
  .n none (.load 1 false (.loc 0)),
  .n none (.bin .lss (.int .i64) (.loc 2) (.loc 0)),
  .n none (.mov (.loc 0))], [(4, 0)]⟩
@[reducible] def c42r3 : Reg := ⟨[.n none (.fieldAddr 1 (.var 2)),
  .n none (.load 1 false (.loc 0)),
  .n none (.fieldAddr 1 (.var 3)),
  .n none (.load 1 false (.loc 0)),
  .n none (.bin .neq (.int .i64) (.loc 2) (.loc 0))], [(6, 0)]⟩
@[reducible] def c42r4 : Reg := ⟨[.n none (.fieldAddr 1 (.var 2)),
  .n none (.load 1 false (.loc 0)),
  .n none (.fieldAddr 1 (.var 3)),
  .n none (.load 1 false (.loc 0)),
  .n none (.bin .lss (.int .i64) (.loc 2) (.loc 0)),
  .n none (.mov (.loc 0))], [(4, 0)]⟩
@[reducible] def c42r5 : Reg := ⟨[.n none (.fieldAddr 2 (.var 2)),
  .n none (.load 1 false (.loc 0)),
  .n none (.fieldAddr 2 (.var 3)),
  .n none (.load 1 false (.loc 0)),
  .n none (.bin .lss (.int .i64) (.loc 2) (.loc 0)),
  .n none (.mov (.loc 0))], [(4, 0)]⟩
def c42 : C := (.seq (.reg c42r0) (.seq (.seq (.reg c42r1) (.cond (.var 5) (.seq (.reg c42r2) .ret) .skip)) (.seq (.seq (.reg c42r3) (.cond (.var 6) (.seq (.reg c42r4) .ret) .skip)) (.seq (.reg c42r5) .ret))))
def r42 : List RV := [(.tmp 4)]
/- emendate/emendateref35.Column params 2 free 0 -/
def v43 : List Tmp := [0, 1, 2, 4, 5, 6, 37, 40, 73]
@[reducible] def c43r0 : Reg := ⟨[.n none (.box 3 (.var 0)),
  .n none (.mov (.k (.d (.bool false))))], [(2, 1), (3, 0)]⟩
@[reducible] def c43r1 : Reg := ⟨[.n none (.fieldAddr 0 (.var 2)),
  .n none (.load 1 false (.loc 0)),
  .n none (.bin .lss (.int .i64) (.loc 0) (.k (.d (.int .i64 (-1))))),
  .n none (.mov (.loc 0)),
  .n (some ((.loc 0), false)) (.fieldAddr 0 (.var 2)),
  .n (some ((.loc 1), false)) (.load 1 false (.loc 0)),
  .n (some ((.loc 2), false)) (.mov (.var 1)),
  .n (some ((.loc 3), false)) (.bin .geq (.int .i64) (.loc 1) (.loc 0)),
  .n none (.pick (.loc 4) (.k (.d (.bool true))) (.loc 0)),
  .n none (.mov (.loc 0)),
  .n (some ((.loc 0), false)) (.fieldAddr 1 (.var 2)),
  .n (some ((.loc 1), false)) (.load 1 false (.loc 0)),
  .n (some ((.loc 2), false)) (.len 0 (.loc 0)),
  .n (some ((.loc 3), false)) (.mov (.var 1)),
  .n (some ((.loc 4), false)) (.bin .neq (.int .i64) (.loc 1) (.loc 0)),
  .n none (.pick (.loc 5) (.k (.d (.bool true))) (.loc 0)),
  .n none (.mov (.loc 0)),
  .n (some ((.loc 0), false)) (.fieldAddr 2 (.var 2)),
  .n (some ((.loc 1), false)) (.load 1 false (.loc 0)),
  .n (some ((.loc 2), false)) (.bin .lss (.int .i64) (.loc 0) (.k (.d (.int .i64 1)))),
  .n none (.pick (.loc 3) (.k (.d (.bool true))) (.loc 0)),
  .n none (.mov (.loc 0)),
  .n (some ((.loc 0), false)) (.fieldAddr 2 (.var 2)),
  .n (some ((.loc 1), false)) (.load 1 false (.loc 0)),
  .n (some ((.loc 2), false)) (.bin .gtr (.int .i64) (.loc 0) (.k (.d (.int .i64 60000)))),
  .n (some ((.loc 3), false)) (.mov (.loc 0)),
  .n (some ((.loc 0), true)) (.fieldAddr 2 (.var 2)),
  .n (some ((.loc 1), true)) (.load 1 false (.loc 0)),
  .n (some ((.loc 2), true)) (.bin .neq (.int .i64) (.loc 0) (.k (.d (.int .i64 1099511627776)))),
  .n (some ((.loc 7), false)) (.pick (.loc 3) (.loc 0) (.k (.d (.bool false)))),
  .n none (.pick (.loc 8) (.k (.d (.bool true))) (.loc 0))], [(6, 0)]⟩
@[reducible] def c43r2 : Reg := ⟨[.n none (.mov (.k (.d (.bool false))))], [(3, 0)]⟩
@[reducible] def c43r3 : Reg := ⟨[.n none (.mov (.k (.d (.int .i64 0))))], [(4, 0)]⟩
@[reducible] def c43r4 : Reg := ⟨[.n none (.mov (.var 4)),
  .n none (.mov (.var 1)),
  .n none (.bin .lss (.int .i64) (.loc 1) (.loc 0))], [(7, 0)]⟩
@[reducible] def c43r5 : Reg := ⟨[.n none (.fieldAddr 1 (.var 2)),
  .n none (.load 1 false (.loc 0)),
  .n none (.mov (.var 4)),
  .n none (.idxAddr 1 (.loc 1) (.loc 0)),
  .n none (.load 1 false (.loc 0)),
  .n none (.mov (.loc 0))], [(5, 0)]⟩
@[reducible] def c43r6 : Reg := ⟨[.n none (.mov (.var 4)),
  .n none (.fieldAddr 0 (.var 2)),
  .n none (.load 1 false (.loc 0)),
  .n none (.bin .eql (.int .i64) (.loc 2) (.loc 0)),
  .n none (.mov (.loc 0)),
  .n (some ((.loc 0), true)) (.mov (.var 5)),
  .n (some ((.loc 1), true)) (.bin .neq (.int .i64) (.loc 0) (.k (.d (.int .i64 0)))),
  .n none (.pick (.loc 2) (.loc 0) (.k (.d (.bool false)))),
  .n none (.mov (.loc 0)),
  .n (some ((.loc 0), false)) (.mov (.var 4)),
  .n (some ((.loc 1), false)) (.fieldAddr 0 (.var 2)),
  .n (some ((.loc 2), false)) (.load 1 false (.loc 0)),
  .n (some ((.loc 3), false)) (.bin .neq (.int .i64) (.loc 2) (.loc 0)),
  .n (some ((.loc 4), false)) (.mov (.loc 0)),
  .n (some ((.loc 0), true)) (.mov (.var 5)),
  .n (some ((.loc 1), true)) (.bin .neq (.int .i64) (.loc 0) (.k (.d (.int .i64 (-1))))),
  .n (some ((.loc 7), false)) (.pick (.loc 2) (.loc 0) (.k (.d (.bool false)))),
  .n (some ((.loc 8), false)) (.mov (.loc 0)),
  .n (some ((.loc 0), true)) (.mov (.var 5)),
  .n (some ((.loc 1), true)) (.bin .lss (.int .i64) (.loc 0) (.k (.d (.int .i64 1)))),
  .n (some ((.loc 2), true)) (.mov (.loc 0)),
  .n (some ((.loc 0), false)) (.mov (.var 5)),
  .n (some ((.loc 1), false)) (.bin .gtr (.int .i64) (.loc 0) (.k (.d (.int .i64 60000)))),
  .n (some ((.loc 5), true)) (.pick (.loc 2) (.k (.d (.bool true))) (.loc 0)),
  .n (some ((.loc 15), false)) (.pick (.loc 6) (.loc 0) (.k (.d (.bool false)))),
  .n none (.pick (.loc 16) (.k (.d (.bool true))) (.loc 0))], [(8, 0)]⟩
@[reducible] def c43r7 : Reg := ⟨[.n none (.mov (.k (.d (.bool false))))], [(3, 0)]⟩
@[reducible] def c43r8 : Reg := ⟨[.n none (.mov (.var 4)),
  .n none (.bin .add (.int .i64) (.loc 0) (.k (.d (.int .i64 1)))),
  .n none (.mov (.loc 0))], [(4, 0)]⟩
@[reducible] def c43r9 : Reg := ⟨[.n none (.mov (.k (.d (.bool true))))], [(3, 0)]⟩
def c43 : C := (.seq (.reg c43r0) (.seq (.seq (.reg c43r1) (.cond (.var 6) (.seq (.reg c43r2) .ret) .skip)) (.seq (.seq (.reg c43r3) (.block 0 (.loop (.seq (.seq (.reg c43r4) (.cond (.var 7) .skip (.exit 0))) (.seq (.block 1 (.seq (.reg c43r5) (.seq (.reg c43r6) (.cond (.var 8) (.seq (.reg c43r7) .ret) .skip)))) (.reg c43r8)))))) (.seq (.reg c43r9) .ret))))
def r43 : List RV := [(.tmp 3)]
/- cmp.isNaN[int] params 1 free 0 -/
def v56 : List Tmp := [0, 2]
@[reducible] def c56r0 : Reg := ⟨[.n none (.mov (.k (.d (.bool false))))], [(1, 0)]⟩
@[reducible] def c56r1 : Reg := ⟨[.n none (.mov (.var 0)),
  .n none (.mov (.var 0)),
  .n none (.bin .neq (.int .i64) (.loc 1) (.loc 0)),
  .n none (.mov (.loc 0))], [(1, 0)]⟩
def c56 : C := (.seq (.reg c56r0) (.seq (.reg c56r1) .ret))
def r56 : List RV := [(.tmp 1)]

theorem e4 : compFn Go.Proofs.Tryd.prog v4 [] 4 = some (c4, r4) := by kernel_rfl
theorem e5 : compFn Go.Proofs.Tryd.prog v5 [] 5 = some (c5, r5) := by kernel_rfl
theorem e6 : compFn Go.Proofs.Tryd.prog v6 [] 6 = some (c6, r6) := by kernel_rfl
theorem e11 : compFn Go.Proofs.Tryd.prog v11 [] 11 = some (c11, r11) := by kernel_rfl
theorem e14 : compFn Go.Proofs.Tryd.prog v14 [] 14 = some (c14, r14) := by kernel_rfl
theorem e15 : compFn Go.Proofs.Tryd.prog v15 [] 15 = some (c15, r15) := by kernel_rfl
theorem e16 : compFn Go.Proofs.Tryd.prog v16 [] 16 = some (c16, r16) := by kernel_rfl
theorem e17 : compFn Go.Proofs.Tryd.prog v17 [] 17 = some (c17, r17) := by kernel_rfl
theorem e18 : compFn Go.Proofs.Tryd.prog v18 [] 18 = some (c18, r18) := by kernel_rfl
theorem e19 : compFn Go.Proofs.Tryd.prog v19 [] 19 = some (c19, r19) := by kernel_rfl
theorem e20 : compFn Go.Proofs.Tryd.prog v20 [] 20 = some (c20, r20) := by kernel_rfl
theorem e21 : compFn Go.Proofs.Tryd.prog v21 [] 21 = some (c21, r21) := by kernel_rfl
theorem e22 : compFn Go.Proofs.Tryd.prog v22 [74, 108] 22 = some (c22, r22) := by kernel_rfl
theorem e23 : compFn Go.Proofs.Tryd.prog v23 [] 23 = some (c23, r23) := by kernel_rfl
theorem e25 : compFn Go.Proofs.Tryd.prog v25 [] 25 = some (c25, r25) := by kernel_rfl
theorem e26 : compFn Go.Proofs.Tryd.prog v26 [] 26 = some (c26, r26) := by kernel_rfl
theorem e27 : compFn Go.Proofs.Tryd.prog v27 [] 27 = some (c27, r27) := by kernel_rfl
theorem e28 : compFn Go.Proofs.Tryd.prog v28 [] 28 = some (c28, r28) := by kernel_rfl
theorem e29 : compFn Go.Proofs.Tryd.prog v29 [] 29 = some (c29, r29) := by kernel_rfl
theorem e30 : compFn Go.Proofs.Tryd.prog v30 [] 30 = some (c30, r30) := by kernel_rfl
theorem e32 : compFn Go.Proofs.Tryd.prog v32 [] 32 = some (c32, r32) := by kernel_rfl
theorem e34 : compFn Go.Proofs.Tryd.prog v34 [44] 34 = some (c34, r34) := by kernel_rfl
theorem e35 : compFn Go.Proofs.Tryd.prog v35 [] 35 = some (c35, r35) := by kernel_rfl
theorem e36 : compFn Go.Proofs.Tryd.prog v36 [5] 36 = some (c36, r36) := by kernel_rfl
theorem e37 : compFn Go.Proofs.Tryd.prog v37 [] 37 = some (c37, r37) := by kernel_rfl
theorem e40 : compFn Go.Proofs.Tryd.prog v40 [] 40 = some (c40, r40) := by kernel_rfl
theorem e41 : compFn Go.Proofs.Tryd.prog v41 [] 41 = some (c41, r41) := by kernel_rfl
theorem e42 : compFn Go.Proofs.Tryd.prog v42 [] 42 = some (c42, r42) := by kernel_rfl
theorem e43 : compFn Go.Proofs.Tryd.prog v43 [] 43 = some (c43, r43) := by kernel_rfl
theorem e56 : compFn Go.Proofs.Tryd.prog v56 [] 56 = some (c56, r56) := by kernel_rfl
end Go.Vm.L
