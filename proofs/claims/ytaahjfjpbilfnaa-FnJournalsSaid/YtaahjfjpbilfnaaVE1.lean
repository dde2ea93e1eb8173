/- The machine's code of the program's functions; each is the program's own, by the kernel. Laid by a program (wip/v/vmgen.py). -/
import Derived.Test.YtaahjfjpbilfnaaVMS
import Derived.Test.YtaahjfjpbilfnaaProg
namespace Go.Proofs.Ytaahjfjpbilfnaa.V
open Go
set_option maxRecDepth 100000
/-- slices.Concat[[]int64,int64] -/
def l85_0 : VC :=
  .seq (.ops [⟨some 12, none, .bin .lss (.t 11) (.t 10)⟩])
  (.seq (.cond (.t 12)
   (.skip)
   (.exit 0))
  (.seq (.block 1 (.seq (.ops [⟨some 13, none, .iaddr 1 (.t 9) (.t 11)⟩,
     ⟨some 14, none, .load false 1 (.t 13)⟩,
     ⟨some 5, none, .mv (.t 14)⟩])
   (.seq (.ops [⟨some 15, none, .mv (.t 3)⟩,
     ⟨some 16, none, .mv (.t 5)⟩,
     ⟨some 17, none, .len (.t 16)⟩,
     ⟨some 18, none, .bin .add (.t 15) (.t 17)⟩,
     ⟨some 3, none, .mv (.t 18)⟩])
   (.seq (.ops [⟨some 19, none, .mv (.t 3)⟩,
     ⟨some 20, none, .bin .lss (.t 19) (.c (.int .i64 0))⟩])
   (.cond (.t 20)
    (.ops [⟨some 21, none, .bad⟩,
      ⟨none, none, .bad⟩])
    (.skip))))))
  (.ops [⟨some 22, none, .bin .add (.t 11) (.c (.int .i64 1))⟩,
    ⟨some 11, none, .mv (.t 22)⟩])))
def l85_1 : VC :=
  .seq (.ops [⟨some 28, none, .bin .lss (.t 27) (.t 26)⟩])
  (.seq (.cond (.t 28)
   (.skip)
   (.exit 2))
  (.seq (.block 3 (.seq (.ops [⟨some 29, none, .iaddr 1 (.t 25) (.t 27)⟩,
     ⟨some 30, none, .load false 1 (.t 29)⟩,
     ⟨some 8, none, .mv (.t 30)⟩])
   (.ops [⟨some 31, none, .mv (.t 6)⟩,
     ⟨some 32, none, .mv (.t 8)⟩,
     ⟨some 33, none, .append 1 8 (.t 31) (.t 32)⟩,
     ⟨some 6, none, .mv (.t 33)⟩])))
  (.ops [⟨some 34, none, .bin .add (.t 27) (.c (.int .i64 1))⟩,
    ⟨some 27, none, .mv (.t 34)⟩])))
def v85 : VF := ⟨1, 36, [.t 2], true,
  .seq (.ops [⟨some 2, none, .mv (.c (.slice none 0 0))⟩])
  (.seq (.ops [⟨some 3, none, .mv (.c (.int .i64 0))⟩])
  (.seq (.seq (.ops [⟨some 9, none, .mv (.t 0)⟩,
    ⟨some 10, none, .len (.t 9)⟩,
    ⟨some 11, none, .mv (.c (.int .i64 0))⟩])
  (.block 0 (.loop [0, 3, 9, 10, 11] [0, 2, 3] l85_0)))
  (.seq (.ops [⟨some 23, none, .mv (.t 3)⟩,
    ⟨some 24, none, .call 115 [.c (.slice none 0 0), .t 23]⟩,
    ⟨some 6, none, .mv (.t 24)⟩])
  (.seq (.seq (.ops [⟨some 25, none, .mv (.t 0)⟩,
    ⟨some 26, none, .len (.t 25)⟩,
    ⟨some 27, none, .mv (.c (.int .i64 0))⟩])
  (.block 2 (.loop [6, 25, 26, 27] [2, 6] l85_1)))
  (.seq (.ops [⟨some 35, none, .mv (.t 6)⟩,
    ⟨some 2, none, .mv (.t 35)⟩])
  (.ret))))))⟩
theorem ok85 : FnOK Try.prog 85 v85 := ⟨⟨Try.f85, _, Try.func85, rfl, by kernel_rfl, rfl, by decide, by kernel_rfl, by kernel_rfl⟩⟩

/-- spec.l1All -/
def l87_0 : VC :=
  .seq (.seq (.ops [⟨some 6, none, .mv (.t 4)⟩,
    ⟨some 7, none, .bin .lss (.t 6) (.c (.int .i64 64))⟩])
  (.cond (.t 7)
   (.skip)
   (.exit 0)))
  (.seq (.block 1 (.ops [⟨some 10, none, .mv (.t 3)⟩,
     ⟨some 11, none, .mv (.t 0)⟩,
     ⟨some 12, none, .mv (.t 4)⟩,
     ⟨some 13, none, .call 77 [.t 11, .t 12]⟩,
     ⟨some 14, none, .bslice 1 [.int .i64 0] 1 [(0, 1, .t 13)]⟩,
     ⟨some 15, none, .append 1 8 (.t 10) (.t 14)⟩,
     ⟨some 3, none, .mv (.t 15)⟩]))
  (.ops [⟨some 8, none, .mv (.t 4)⟩,
    ⟨some 9, none, .bin .add (.t 8) (.c (.int .i64 1))⟩,
    ⟨some 4, none, .mv (.t 9)⟩]))
def v87 : VF := ⟨1, 17, [.t 2], true,
  .seq (.ops [⟨some 2, none, .mv (.c (.slice none 0 0))⟩])
  (.seq (.ops [⟨some 5, none, .bslice 1 [] 0 []⟩,
    ⟨some 3, none, .mv (.t 5)⟩])
  (.seq (.seq (.ops [⟨some 4, none, .mv (.c (.int .i64 0))⟩])
  (.block 0 (.loop [0, 3, 4] [2, 3] l87_0)))
  (.seq (.ops [⟨some 16, none, .mv (.t 3)⟩,
    ⟨some 2, none, .mv (.t 16)⟩])
  (.ret))))⟩
theorem ok87 : FnOK Try.prog 87 v87 := ⟨⟨Try.f87, _, Try.func87, rfl, by kernel_rfl, rfl, by decide, by kernel_rfl, by kernel_rfl⟩⟩

/-- spec.l1Word -/
def v90 : VF := ⟨1, 5, [.t 2], true,
  .seq (.ops [⟨some 2, none, .mv (.c (.bool false))⟩])
  (.seq (.ops [⟨some 3, none, .mv (.t 0)⟩,
    ⟨some 4, none, .call 110 [.t 3, .c (.int .i64 0), .c (.int .i64 65535)]⟩,
    ⟨some 2, none, .mv (.t 4)⟩])
  (.ret))⟩
theorem ok90 : FnOK Try.prog 90 v90 := ⟨⟨Try.f90, _, Try.func90, rfl, by kernel_rfl, rfl, by decide, by kernel_rfl, by kernel_rfl⟩⟩

/-- spec.l1Copy -/
def v91 : VF := ⟨1, 12, [.cell 2 true 2], true,
  .seq (.ops [⟨some 1, none, .box (.t 0)⟩,
    ⟨some 2, none, .new [.slice none 0 0, .slice none 0 0]⟩])
  (.seq (.drawF [] [⟨some 3, none, .bslice 1 [] 0 []⟩,
    ⟨some 4, none, .faddr 0 (.t 1)⟩,
    ⟨some 5, none, .load false 1 (.t 4)⟩,
    ⟨some 6, none, .append 1 8 (.t 3) (.t 5)⟩,
    ⟨some 7, none, .bslice 2 [] 0 []⟩,
    ⟨some 8, none, .faddr 1 (.t 1)⟩,
    ⟨some 9, none, .load false 1 (.t 8)⟩] [⟨some 10, none, .append 2 16 (.t 7) (.t 9)⟩,
    ⟨some 11, none, .build [.slice none 0 0, .slice none 0 0] [(0, 1, .t 6), (1, 1, .t 10)]⟩,
    ⟨none, none, .store 2 (.t 2) (.t 11)⟩])
  (.ret))⟩
theorem ok91 : FnOK Try.prog 91 v91 := ⟨⟨Try.f91, _, Try.func91, rfl, by kernel_rfl, rfl, by decide, by kernel_rfl, by kernel_rfl⟩⟩

/-- spec.l2Scan -/
def l92_0 : VC :=
  .seq (.seq (.ops [⟨some 9, none, .mv (.t 5)⟩,
    ⟨some 10, none, .bin .add (.t 9) (.c (.int .i64 2))⟩,
    ⟨some 11, none, .mv (.t 0)⟩,
    ⟨some 12, none, .len (.t 11)⟩,
    ⟨some 13, none, .bin .lss (.t 10) (.t 12)⟩])
  (.cond (.t 13)
   (.skip)
   (.exit 0)))
  (.block 1 (.seq (.ops [⟨some 14, none, .mv (.t 0)⟩,
     ⟨some 15, none, .mv (.t 5)⟩,
     ⟨some 16, none, .iaddr 1 (.t 14) (.t 15)⟩,
     ⟨some 17, none, .load false 1 (.t 16)⟩,
     ⟨some 6, none, .mv (.t 17)⟩])
   (.seq (.seq (.ops [⟨some 18, none, .mv (.t 6)⟩,
     ⟨some 19, none, .call 110 [.t 18, .c (.int .i64 1), .c (.int .i64 8)]⟩,
     ⟨some 20, none, .not (.t 19)⟩,
     ⟨some 21, none, .mv (.t 20)⟩,
     ⟨some 22, some (21, false), .mv (.t 5)⟩,
     ⟨some 23, some (21, false), .bin .add (.t 22) (.c (.int .i64 2))⟩,
     ⟨some 24, some (21, false), .mv (.t 6)⟩,
     ⟨some 25, some (21, false), .bin .add (.t 23) (.t 24)⟩,
     ⟨some 26, some (21, false), .mv (.t 0)⟩,
     ⟨some 27, some (21, false), .len (.t 26)⟩,
     ⟨some 28, some (21, false), .bin .gtr (.t 25) (.t 27)⟩,
     ⟨some 29, none, .pick (.t 21) (.c (.bool true)) (.t 28)⟩])
   (.cond (.t 29)
    (.seq (.ops [⟨some 30, none, .mv (.t 4)⟩,
      ⟨some 31, none, .mv (.t 5)⟩,
      ⟨some 2, none, .mv (.t 30)⟩,
      ⟨some 3, none, .mv (.t 31)⟩])
    (.ret))
    (.skip)))
   (.seq (.ops [⟨some 32, none, .bslice 1 [] 0 []⟩,
     ⟨some 33, none, .mv (.t 0)⟩,
     ⟨some 34, none, .mv (.t 5)⟩,
     ⟨some 35, none, .bin .add (.t 34) (.c (.int .i64 2))⟩,
     ⟨some 36, none, .mv (.t 5)⟩,
     ⟨some 37, none, .bin .add (.t 36) (.c (.int .i64 2))⟩,
     ⟨some 38, none, .mv (.t 6)⟩,
     ⟨some 39, none, .bin .add (.t 37) (.t 38)⟩,
     ⟨some 40, none, .slice 1 (.t 33) (some (.t 35)) (some (.t 39)) none⟩,
     ⟨some 41, none, .append 1 8 (.t 32) (.t 40)⟩,
     ⟨some 7, none, .mv (.t 41)⟩])
   (.seq (.seq (.draw [⟨some 42, none, .mv (.t 0)⟩,
     ⟨some 43, none, .mv (.t 5)⟩,
     ⟨some 44, none, .bin .add (.t 43) (.c (.int .i64 1))⟩,
     ⟨some 45, none, .iaddr 1 (.t 42) (.t 44)⟩,
     ⟨some 46, none, .load false 1 (.t 45)⟩,
     ⟨some 47, none, .mv (.t 4)⟩,
     ⟨some 48, none, .len (.t 47)⟩,
     ⟨some 49, none, .mv (.t 7)⟩,
     ⟨some 50, none, .call 99 [.t 48, .t 49]⟩] [⟨some 51, none, .bin .neq (.t 46) (.t 50)⟩])
   (.cond (.t 51)
    (.seq (.ops [⟨some 52, none, .mv (.t 4)⟩,
      ⟨some 53, none, .mv (.t 5)⟩,
      ⟨some 2, none, .mv (.t 52)⟩,
      ⟨some 3, none, .mv (.t 53)⟩])
    (.ret))
    (.skip)))
   (.seq (.ops [⟨some 54, none, .mv (.t 4)⟩,
     ⟨some 55, none, .mv (.t 7)⟩,
     ⟨some 56, none, .bslice 1 [.slice none 0 0] 1 [(0, 1, .t 55)]⟩,
     ⟨some 57, none, .append 1 24 (.t 54) (.t 56)⟩,
     ⟨some 4, none, .mv (.t 57)⟩])
   (.ops [⟨some 58, none, .mv (.t 5)⟩,
     ⟨some 59, none, .bin .add (.t 58) (.c (.int .i64 2))⟩,
     ⟨some 60, none, .mv (.t 6)⟩,
     ⟨some 61, none, .bin .add (.t 59) (.t 60)⟩,
     ⟨some 5, none, .mv (.t 61)⟩])))))))
def v92 : VF := ⟨1, 64, [.t 2, .t 3], true,
  .seq (.ops [⟨some 2, none, .mv (.c (.slice none 0 0))⟩,
    ⟨some 3, none, .mv (.c (.int .i64 0))⟩])
  (.seq (.ops [⟨some 8, none, .bslice 1 [] 0 []⟩,
    ⟨some 4, none, .mv (.t 8)⟩])
  (.seq (.ops [⟨some 5, none, .mv (.c (.int .i64 0))⟩])
  (.seq (.block 0 (.loop [0, 4, 5] [2, 3, 4, 5] l92_0))
  (.seq (.ops [⟨some 62, none, .mv (.t 4)⟩,
    ⟨some 63, none, .mv (.t 5)⟩,
    ⟨some 2, none, .mv (.t 62)⟩,
    ⟨some 3, none, .mv (.t 63)⟩])
  (.ret)))))⟩
theorem ok92 : FnOK Try.prog 92 v92 := ⟨⟨Try.f92, _, Try.func92, rfl, by kernel_rfl, rfl, by decide, by kernel_rfl, by kernel_rfl⟩⟩

/-- impl.scan -/
def l94_0 : VC :=
  .seq (.seq (.ops [⟨some 13, none, .mv (.t 6)⟩,
    ⟨some 14, none, .bin .lss (.t 13) (.c (.int .i64 64))⟩])
  (.cond (.t 14)
   (.skip)
   (.exit 0)))
  (.block 1 (.seq (.ops [⟨some 15, none, .mv (.t 5)⟩,
     ⟨some 16, none, .mv (.t 6)⟩,
     ⟨some 17, none, .iaddr 1 (.t 15) (.t 16)⟩,
     ⟨some 18, none, .load false 1 (.t 17)⟩,
     ⟨some 7, none, .mv (.t 18)⟩])
   (.seq (.seq (.ops [⟨some 19, none, .mv (.t 7)⟩,
     ⟨some 20, none, .call 104 [.t 19, .c (.int .i64 1), .c (.int .i64 8)]⟩,
     ⟨some 21, none, .not (.t 20)⟩,
     ⟨some 22, none, .mv (.t 21)⟩,
     ⟨some 23, some (22, false), .mv (.t 7)⟩,
     ⟨some 24, some (22, false), .mv (.t 6)⟩,
     ⟨some 25, some (22, false), .bin .sub (.c (.int .i64 64)) (.t 24)⟩,
     ⟨some 26, some (22, false), .bin .sub (.t 25) (.c (.int .i64 2))⟩,
     ⟨some 27, some (22, false), .bin .gtr (.t 23) (.t 26)⟩,
     ⟨some 28, none, .pick (.t 22) (.c (.bool true)) (.t 27)⟩])
   (.cond (.t 28)
    (.exit 0)
    (.skip)))
   (.seq (.ops [⟨some 29, none, .mv (.t 6)⟩,
     ⟨some 30, none, .bin .add (.t 29) (.c (.int .i64 2))⟩,
     ⟨some 31, none, .mv (.t 7)⟩,
     ⟨some 32, none, .bin .add (.t 30) (.t 31)⟩,
     ⟨some 8, none, .mv (.t 32)⟩])
   (.seq (.ops [⟨some 33, none, .mv (.t 5)⟩,
     ⟨some 34, none, .mv (.t 6)⟩,
     ⟨some 35, none, .bin .add (.t 34) (.c (.int .i64 2))⟩,
     ⟨some 36, none, .mv (.t 8)⟩,
     ⟨some 37, none, .slice 1 (.t 33) (some (.t 35)) (some (.t 36)) none⟩,
     ⟨some 9, none, .mv (.t 37)⟩])
   (.seq (.seq (.draw [⟨some 38, none, .mv (.t 4)⟩,
     ⟨some 39, none, .len (.t 38)⟩,
     ⟨some 40, none, .mv (.t 9)⟩,
     ⟨some 41, none, .call 100 [.t 39, .t 40]⟩,
     ⟨some 42, none, .mv (.t 5)⟩,
     ⟨some 43, none, .mv (.t 6)⟩,
     ⟨some 44, none, .mv (.t 8)⟩,
     ⟨some 45, none, .slice 1 (.t 42) (some (.t 43)) (some (.t 44)) none⟩] [⟨some 46, none, .call 117 [.t 41, .t 45]⟩,
     ⟨some 47, none, .not (.t 46)⟩])
   (.cond (.t 47)
    (.exit 0)
    (.skip)))
   (.ops [⟨some 48, none, .mv (.t 4)⟩,
     ⟨some 49, none, .mv (.t 9)⟩,
     ⟨some 50, none, .call 111 [.t 49]⟩,
     ⟨some 51, none, .bslice 1 [.slice none 0 0] 1 [(0, 1, .t 50)]⟩,
     ⟨some 52, none, .append 1 24 (.t 48) (.t 51)⟩,
     ⟨some 53, none, .mv (.t 8)⟩,
     ⟨some 4, none, .mv (.t 52)⟩,
     ⟨some 6, none, .mv (.t 53)⟩])))))))
def v94 : VF := ⟨1, 56, [.t 2, .t 3], true,
  .seq (.ops [⟨some 1, none, .box (.t 0)⟩,
    ⟨some 2, none, .mv (.c (.slice none 0 0))⟩,
    ⟨some 3, none, .mv (.c (.int .i64 0))⟩])
  (.seq (.ops [⟨some 10, none, .bslice 1 [] 0 []⟩,
    ⟨some 11, none, .load true 2 (.t 1)⟩,
    ⟨some 12, none, .call 79 [.t 11]⟩,
    ⟨some 4, none, .mv (.t 10)⟩,
    ⟨some 5, none, .mv (.t 12)⟩,
    ⟨some 6, none, .mv (.c (.int .i64 0))⟩])
  (.seq (.block 0 (.loop [4, 5, 6] [2, 3, 4, 6] l94_0))
  (.seq (.ops [⟨some 54, none, .mv (.t 4)⟩,
    ⟨some 55, none, .mv (.t 6)⟩,
    ⟨some 2, none, .mv (.t 54)⟩,
    ⟨some 3, none, .mv (.t 55)⟩])
  (.ret))))⟩
theorem ok94 : FnOK Try.prog 94 v94 := ⟨⟨Try.f94, _, Try.func94, rfl, by kernel_rfl, rfl, by decide, by kernel_rfl, by kernel_rfl⟩⟩

/-- spec.RecordFault -/
def l98_0 : VC :=
  .seq (.seq (.ops [⟨some 12, none, .mv (.t 3)⟩,
    ⟨some 13, none, .mv (.t 0)⟩,
    ⟨some 14, none, .len (.t 13)⟩,
    ⟨some 15, none, .bin .lss (.t 12) (.t 14)⟩])
  (.cond (.t 15)
   (.skip)
   (.exit 0)))
  (.seq (.block 1 (.seq (.ops [⟨some 18, none, .mv (.t 0)⟩,
     ⟨some 19, none, .mv (.t 3)⟩,
     ⟨some 20, none, .iaddr 1 (.t 18) (.t 19)⟩,
     ⟨some 21, none, .load false 1 (.t 20)⟩,
     ⟨some 22, none, .call 90 [.t 21]⟩,
     ⟨some 23, none, .not (.t 22)⟩])
   (.cond (.t 23)
    (.seq (.ops [⟨some 2, none, .mv (.c (.int .i64 3))⟩])
    (.ret))
    (.skip))))
  (.ops [⟨some 16, none, .mv (.t 3)⟩,
    ⟨some 17, none, .bin .add (.t 16) (.c (.int .i64 1))⟩,
    ⟨some 3, none, .mv (.t 17)⟩]))
def v98 : VF := ⟨1, 24, [.t 2], true,
  .seq (.ops [⟨some 2, none, .mv (.c (.int .i64 0))⟩])
  (.seq (.seq (.ops [⟨some 4, none, .mv (.t 0)⟩,
    ⟨some 5, none, .len (.t 4)⟩,
    ⟨some 6, none, .bin .lss (.t 5) (.c (.int .i64 1))⟩,
    ⟨some 7, none, .mv (.t 6)⟩,
    ⟨some 8, some (7, false), .mv (.t 0)⟩,
    ⟨some 9, some (7, false), .len (.t 8)⟩,
    ⟨some 10, some (7, false), .bin .gtr (.t 9) (.c (.int .i64 8))⟩,
    ⟨some 11, none, .pick (.t 7) (.c (.bool true)) (.t 10)⟩])
  (.cond (.t 11)
   (.seq (.ops [⟨some 2, none, .mv (.c (.int .i64 2))⟩])
   (.ret))
   (.skip)))
  (.seq (.seq (.ops [⟨some 3, none, .mv (.c (.int .i64 0))⟩])
  (.block 0 (.loop [0, 3] [2] l98_0)))
  (.seq (.ops [⟨some 2, none, .mv (.c (.int .i64 0))⟩])
  (.ret))))⟩
theorem ok98 : FnOK Try.prog 98 v98 := ⟨⟨Try.f98, _, Try.func98, rfl, by kernel_rfl, rfl, by decide, by kernel_rfl, by kernel_rfl⟩⟩

/-- spec.l2Sum -/
def v99 : VF := ⟨2, 10, [.t 4], true,
  .seq (.ops [⟨some 4, none, .mv (.c (.int .i64 0))⟩])
  (.seq (.ops [⟨some 5, none, .mv (.t 0)⟩,
    ⟨some 6, none, .bslice 1 [.int .i64 0] 1 [(0, 1, .t 5)]⟩,
    ⟨some 7, none, .mv (.t 1)⟩,
    ⟨some 8, none, .append 1 8 (.t 6) (.t 7)⟩,
    ⟨some 9, none, .call 65 [.t 8]⟩,
    ⟨some 4, none, .mv (.t 9)⟩])
  (.ret))⟩
theorem ok99 : FnOK Try.prog 99 v99 := ⟨⟨Try.f99, _, Try.func99, rfl, by kernel_rfl, rfl, by decide, by kernel_rfl, by kernel_rfl⟩⟩

/-- impl.stands -/
def v100 : VF := ⟨2, 17, [.t 4], true,
  .seq (.ops [⟨some 4, none, .mv (.c (.slice none 0 0))⟩])
  (.seq (.ops [⟨some 6, none, .mv (.t 0)⟩,
    ⟨some 7, none, .bslice 1 [.int .i64 0] 1 [(0, 1, .t 6)]⟩,
    ⟨some 8, none, .mv (.t 1)⟩,
    ⟨some 9, none, .append 1 8 (.t 7) (.t 8)⟩,
    ⟨some 10, none, .call 64 [.t 9]⟩,
    ⟨some 5, none, .mv (.t 10)⟩])
  (.seq (.ops [⟨some 11, none, .mv (.t 1)⟩,
    ⟨some 12, none, .len (.t 11)⟩,
    ⟨some 13, none, .mv (.t 5)⟩,
    ⟨some 14, none, .bslice 1 [.int .i64 0, .int .i64 0] 2 [(0, 1, .t 12), (1, 1, .t 13)]⟩,
    ⟨some 15, none, .mv (.t 1)⟩,
    ⟨some 16, none, .append 1 8 (.t 14) (.t 15)⟩,
    ⟨some 4, none, .mv (.t 16)⟩])
  (.ret)))⟩
theorem ok100 : FnOK Try.prog 100 v100 := ⟨⟨Try.f100, _, Try.func100, rfl, by kernel_rfl, rfl, by decide, by kernel_rfl, by kernel_rfl⟩⟩

/-- spec.l2Disk -/
def l101_0 : VC :=
  .seq (.seq (.ops [⟨some 11, none, .mv (.t 4)⟩,
    ⟨some 12, none, .bin .gtr (.t 11) (.c (.int .i64 0))⟩])
  (.cond (.t 12)
   (.skip)
   (.exit 0)))
  (.seq (.block 1 (.seq (.seq (.drawF [0] [⟨some 15, none, .load true 2 (.t 3)⟩,
     ⟨some 16, none, .mv (.t 0)⟩,
     ⟨some 17, none, .call 102 [.t 16]⟩,
     ⟨some 18, none, .call 59 [.t 15, .t 17]⟩,
     ⟨some 5, none, .new [.int .i64 0, .slice none 0 0, .slice none 0 0]⟩] [⟨none, none, .store 3 (.t 5) (.t 18)⟩])
   (.seq (.ops [⟨some 19, none, .faddr 0 (.t 5)⟩,
     ⟨some 20, none, .load false 1 (.t 19)⟩,
     ⟨some 21, none, .bin .eql (.t 20) (.c (.int .i64 0))⟩])
   (.cond (.t 21)
    (.ops [⟨some 22, none, .faddr 1 (.t 5)⟩,
      ⟨some 23, none, .load true 2 (.t 22)⟩,
      ⟨none, none, .store 2 (.t 3) (.t 23)⟩])
    (.skip))))
   (.seq (.ops [⟨some 24, none, .mv (.t 0)⟩,
     ⟨some 25, none, .call 83 [.t 24, .c (.int .i64 2)]⟩])
   (.cond (.t 25)
    (.ops [⟨some 26, none, .load true 2 (.t 3)⟩,
      ⟨some 27, none, .call 45 [.t 26]⟩,
      ⟨some 28, none, .field true 1 2 (.t 27)⟩,
      ⟨none, none, .store 2 (.t 3) (.t 28)⟩])
    (.skip)))))
  (.ops [⟨some 13, none, .mv (.t 4)⟩,
    ⟨some 14, none, .bin .sub (.t 13) (.c (.int .i64 1))⟩,
    ⟨some 4, none, .mv (.t 14)⟩]))
def l101_1 : VC :=
  .seq (.seq (.ops [⟨some 35, none, .mv (.t 7)⟩,
    ⟨some 36, none, .bin .lss (.t 35) (.c (.int .i64 40))⟩])
  (.cond (.t 36)
   (.skip)
   (.exit 3)))
  (.seq (.block 4 (.ops [⟨some 39, none, .mv (.t 6)⟩,
     ⟨some 40, none, .mv (.t 0)⟩,
     ⟨some 41, none, .call 83 [.t 40, .c (.int .i64 2)]⟩,
     ⟨some 42, none, .bslice 1 [.bool false] 1 [(0, 1, .t 41)]⟩,
     ⟨some 43, none, .append 1 1 (.t 39) (.t 42)⟩,
     ⟨some 6, none, .mv (.t 43)⟩]))
  (.ops [⟨some 37, none, .mv (.t 7)⟩,
    ⟨some 38, none, .bin .add (.t 37) (.c (.int .i64 1))⟩,
    ⟨some 7, none, .mv (.t 38)⟩]))
def v101 : VF := ⟨1, 62, [.cell 2 true 2], false,
  .seq (.ops [⟨some 2, none, .new [.slice none 0 0, .slice none 0 0]⟩])
  (.seq (.ops [⟨some 8, none, .call 112 []⟩,
    ⟨some 3, none, .new [.slice none 0 0, .slice none 0 0]⟩,
    ⟨none, none, .store 2 (.t 3) (.t 8)⟩])
  (.seq (.seq (.ops [⟨some 9, none, .mv (.t 0)⟩,
    ⟨some 10, none, .call 82 [.t 9, .c (.int .i64 12)]⟩,
    ⟨some 4, none, .mv (.t 10)⟩])
  (.block 0 (.loop [0, 2, 3, 4] [0, 2, 3] l101_0)))
  (.seq (.seq (.ops [⟨some 29, none, .mv (.t 0)⟩,
    ⟨some 30, none, .call 82 [.t 29, .c (.int .i64 14)]⟩])
  (.block 2 (.seq (.seq (.ops [⟨some 32, none, .bin .eql (.t 30) (.c (.int .i64 2))⟩,
     ⟨some 31, none, .mv (.t 32)⟩])
   (.cond (.t 31)
    (.skip)
    (.ops [⟨some 33, none, .bin .eql (.t 30) (.c (.int .i64 3))⟩,
      ⟨some 31, none, .mv (.t 33)⟩])))
   (.cond (.t 31)
    (.seq (.ops [⟨some 34, none, .bslice 1 [] 0 []⟩,
      ⟨some 6, none, .mv (.t 34)⟩])
    (.seq (.seq (.ops [⟨some 7, none, .mv (.c (.int .i64 0))⟩])
    (.block 3 (.loop [0, 2, 3, 6, 7] [2, 3, 6] l101_1)))
    (.seq (.ops [⟨some 44, none, .load true 2 (.t 3)⟩,
      ⟨some 45, none, .mv (.t 6)⟩,
      ⟨some 46, none, .call 50 [.t 44, .t 45]⟩,
      ⟨some 47, none, .field true 1 2 (.t 46)⟩,
      ⟨none, none, .store 2 (.t 2) (.t 47)⟩])
    (.ret))))
    (.seq (.ops [⟨some 49, none, .bin .eql (.t 30) (.c (.int .i64 0))⟩,
      ⟨some 48, none, .mv (.t 49)⟩])
    (.cond (.t 48)
     (.seq (.ops [⟨some 50, none, .mv (.t 0)⟩,
       ⟨some 51, none, .call 81 [.t 50]⟩,
       ⟨none, none, .store 2 (.t 2) (.t 51)⟩])
     (.ret))
     (.seq (.ops [⟨some 53, none, .bin .eql (.t 30) (.c (.int .i64 1))⟩,
       ⟨some 52, none, .mv (.t 53)⟩])
     (.cond (.t 52)
      (.drawD [0] [⟨some 54, none, .faddr 0 (.t 3)⟩,
        ⟨some 55, none, .load false 1 (.t 54)⟩,
        ⟨some 56, none, .mv (.t 0)⟩,
        ⟨some 57, none, .call 82 [.t 56, .c (.int .i64 20)]⟩,
        ⟨some 58, none, .mv (.t 0)⟩,
        ⟨some 59, none, .call 82 [.t 58, .c (.int .i64 20)]⟩] [⟨some 60, none, .iaddr 1 (.t 55) (.t 57)⟩,
        ⟨none, none, .store 1 (.t 60) (.t 59)⟩])
      (.skip)))))))))
  (.seq (.ops [⟨some 61, none, .load true 2 (.t 3)⟩,
    ⟨none, none, .store 2 (.t 2) (.t 61)⟩])
  (.ret)))))⟩
theorem ok101 : FnOK Try.prog 101 v101 := ⟨⟨Try.f101, _, Try.func101, rfl, by kernel_rfl, rfl, by decide, by kernel_rfl, by kernel_rfl⟩⟩

/-- spec.l2Record -/
def l102_0 : VC :=
  .seq (.seq (.ops [⟨some 9, none, .mv (.t 4)⟩,
    ⟨some 10, none, .bin .gtr (.t 9) (.c (.int .i64 0))⟩])
  (.cond (.t 10)
   (.skip)
   (.exit 0)))
  (.seq (.block 1 (.ops [⟨some 13, none, .mv (.t 3)⟩,
     ⟨some 14, none, .mv (.t 0)⟩,
     ⟨some 15, none, .call 82 [.t 14, .c (.int .i64 99)]⟩,
     ⟨some 16, none, .bslice 1 [.int .i64 0] 1 [(0, 1, .t 15)]⟩,
     ⟨some 17, none, .append 1 8 (.t 13) (.t 16)⟩,
     ⟨some 3, none, .mv (.t 17)⟩]))
  (.ops [⟨some 11, none, .mv (.t 4)⟩,
    ⟨some 12, none, .bin .sub (.t 11) (.c (.int .i64 1))⟩,
    ⟨some 4, none, .mv (.t 12)⟩]))
def v102 : VF := ⟨1, 19, [.t 2], false,
  .seq (.ops [⟨some 2, none, .mv (.c (.slice none 0 0))⟩])
  (.seq (.ops [⟨some 5, none, .bslice 1 [] 0 []⟩,
    ⟨some 3, none, .mv (.t 5)⟩])
  (.seq (.seq (.ops [⟨some 6, none, .mv (.t 0)⟩,
    ⟨some 7, none, .call 82 [.t 6, .c (.int .i64 5)]⟩,
    ⟨some 8, none, .bin .add (.c (.int .i64 1)) (.t 7)⟩,
    ⟨some 4, none, .mv (.t 8)⟩])
  (.block 0 (.loop [0, 3, 4] [2, 3] l102_0)))
  (.seq (.ops [⟨some 18, none, .mv (.t 3)⟩,
    ⟨some 2, none, .mv (.t 18)⟩])
  (.ret))))⟩
theorem ok102 : FnOK Try.prog 102 v102 := ⟨⟨Try.f102, _, Try.func102, rfl, by kernel_rfl, rfl, by decide, by kernel_rfl, by kernel_rfl⟩⟩

/-- spec.DrawRecordFault -/
def v103 : VF := ⟨1, 24, [.t 2], true,
  .seq (.ops [⟨some 2, none, .mv (.c (.slice none 0 0))⟩])
  (.seq (.ops [⟨some 5, none, .mv (.t 0)⟩,
    ⟨some 6, none, .call 80 [.t 5]⟩,
    ⟨some 3, none, .mv (.t 6)⟩])
  (.seq (.ops [⟨some 7, none, .mv (.t 3)⟩,
    ⟨some 8, none, .call 102 [.t 7]⟩,
    ⟨some 4, none, .mv (.t 8)⟩])
  (.seq (.seq (.ops [⟨some 9, none, .mv (.t 3)⟩,
    ⟨some 10, none, .call 82 [.t 9, .c (.int .i64 6)]⟩])
  (.block 0 (.seq (.ops [⟨some 12, none, .bin .eql (.t 10) (.c (.int .i64 0))⟩,
     ⟨some 11, none, .mv (.t 12)⟩])
   (.cond (.t 11)
    (.ops [⟨some 13, none, .mv (.t 4)⟩,
      ⟨some 14, none, .mv (.t 3)⟩,
      ⟨some 15, none, .bslice 1 [.int .i64 0, .int .i64 0] 2 [(0, 1, .c (.int .i64 (-1))), (1, 1, .c (.int .i64 65536))]⟩,
      ⟨some 16, none, .call 113 [.t 14, .t 15]⟩,
      ⟨some 17, none, .iaddr 1 (.t 13) (.c (.int .i64 0))⟩,
      ⟨none, none, .store 1 (.t 17) (.t 16)⟩])
    (.seq (.ops [⟨some 19, none, .bin .eql (.t 10) (.c (.int .i64 1))⟩,
      ⟨some 18, none, .mv (.t 19)⟩])
    (.cond (.t 18)
     (.ops [⟨some 4, none, .mv (.c (.slice none 0 0))⟩])
     (.seq (.ops [⟨some 21, none, .bin .eql (.t 10) (.c (.int .i64 2))⟩,
       ⟨some 20, none, .mv (.t 21)⟩])
     (.cond (.t 20)
      (.ops [⟨some 22, none, .mkslice 1 8 [.int .i64 0] (.c (.int .i64 9)) (.c (.int .i64 9))⟩,
        ⟨some 4, none, .mv (.t 22)⟩])
      (.skip)))))))))
  (.seq (.ops [⟨some 23, none, .mv (.t 4)⟩,
    ⟨some 2, none, .mv (.t 23)⟩])
  (.ret)))))⟩
theorem ok103 : FnOK Try.prog 103 v103 := ⟨⟨Try.f103, _, Try.func103, rfl, by kernel_rfl, rfl, by decide, by kernel_rfl, by kernel_rfl⟩⟩

/-- impl.within -/
def v104 : VF := ⟨3, 15, [.t 6], true,
  .seq (.ops [⟨some 6, none, .mv (.c (.bool false))⟩])
  (.seq (.ops [⟨some 7, none, .mv (.t 1)⟩,
    ⟨some 8, none, .mv (.t 0)⟩,
    ⟨some 9, none, .bin .leq (.t 7) (.t 8)⟩,
    ⟨some 10, none, .mv (.t 9)⟩,
    ⟨some 11, some (10, true), .mv (.t 0)⟩,
    ⟨some 12, some (10, true), .mv (.t 2)⟩,
    ⟨some 13, some (10, true), .bin .leq (.t 11) (.t 12)⟩,
    ⟨some 14, none, .pick (.t 10) (.t 13) (.c (.bool false))⟩,
    ⟨some 6, none, .mv (.t 14)⟩])
  (.ret))⟩
theorem ok104 : FnOK Try.prog 104 v104 := ⟨⟨Try.f104, _, Try.func104, rfl, by kernel_rfl, rfl, by decide, by kernel_rfl, by kernel_rfl⟩⟩

/-- slices.ContainsFunc[[]int64,int64] -/
def v106 : VF := ⟨2, 9, [.t 4], true,
  .seq (.ops [⟨some 4, none, .mv (.c (.bool false))⟩])
  (.seq (.ops [⟨some 5, none, .mv (.t 0)⟩,
    ⟨some 6, none, .mv (.t 1)⟩,
    ⟨some 7, none, .call 118 [.t 5, .t 6]⟩,
    ⟨some 8, none, .bin .geq (.t 7) (.c (.int .i64 0))⟩,
    ⟨some 4, none, .mv (.t 8)⟩])
  (.ret))⟩
theorem ok106 : FnOK Try.prog 106 v106 := ⟨⟨Try.f106, _, Try.func106, rfl, by kernel_rfl, rfl, by decide, by kernel_rfl, by kernel_rfl⟩⟩

/-- impl.areWords$1 -/
def v107 : VF := ⟨1, 6, [.t 2], true,
  .seq (.ops [⟨some 2, none, .mv (.c (.bool false))⟩])
  (.seq (.ops [⟨some 3, none, .mv (.t 0)⟩,
    ⟨some 4, none, .call 74 [.t 3]⟩,
    ⟨some 5, none, .not (.t 4)⟩,
    ⟨some 2, none, .mv (.t 5)⟩])
  (.ret))⟩
theorem ok107 : FnOK Try.prog 107 v107 := ⟨⟨Try.f107, _, Try.func107, rfl, by kernel_rfl, rfl, by decide, by kernel_rfl, by kernel_rfl⟩⟩

/-- impl.Put] -/
def l108_0 : VC :=
  .seq (.ops [⟨some 9, none, .bin .lss (.t 8) (.t 7)⟩])
  (.seq (.cond (.t 9)
   (.skip)
   (.exit 0))
  (.seq (.block 1 (.seq (.ops [⟨some 10, none, .mv (.t 8)⟩,
     ⟨some 5, none, .mv (.t 10)⟩])
   (.seq (.ops [⟨some 11, none, .mv (.t 1)⟩,
     ⟨some 12, none, .mv (.t 0)⟩,
     ⟨some 13, none, .mv (.t 5)⟩,
     ⟨some 14, none, .iaddr 2 (.t 12) (.t 13)⟩,
     ⟨some 15, none, .load true 2 (.t 14)⟩,
     ⟨some 16, none, .callv (.t 11) [.t 15]⟩])
   (.cond (.t 16)
    (.seq (.ops [⟨some 17, none, .mv (.t 5)⟩,
      ⟨some 4, none, .mv (.t 17)⟩])
    (.ret))
    (.skip)))))
  (.ops [⟨some 18, none, .bin .add (.t 8) (.c (.int .i64 1))⟩,
    ⟨some 8, none, .mv (.t 18)⟩])))
def v108 : VF := ⟨2, 19, [.t 4], true,
  .seq (.ops [⟨some 4, none, .mv (.c (.int .i64 0))⟩])
  (.seq (.seq (.ops [⟨some 6, none, .mv (.t 0)⟩,
    ⟨some 7, none, .len (.t 6)⟩,
    ⟨some 8, none, .mv (.c (.int .i64 0))⟩])
  (.block 0 (.loop [0, 1, 7, 8] [4] l108_0)))
  (.seq (.ops [⟨some 4, none, .mv (.c (.int .i64 (-1)))⟩])
  (.ret)))⟩
theorem ok108 : FnOK Try.prog 108 v108 := ⟨⟨Try.f108, _, Try.func108, rfl, by kernel_rfl, rfl, by decide, by kernel_rfl, by kernel_rfl⟩⟩

/-- spec.l1In -/
def v110 : VF := ⟨3, 15, [.t 6], true,
  .seq (.ops [⟨some 6, none, .mv (.c (.bool false))⟩])
  (.seq (.ops [⟨some 7, none, .mv (.t 0)⟩,
    ⟨some 8, none, .mv (.t 1)⟩,
    ⟨some 9, none, .bin .geq (.t 7) (.t 8)⟩,
    ⟨some 10, none, .mv (.t 9)⟩,
    ⟨some 11, some (10, true), .mv (.t 0)⟩,
    ⟨some 12, some (10, true), .mv (.t 2)⟩,
    ⟨some 13, some (10, true), .bin .leq (.t 11) (.t 12)⟩,
    ⟨some 14, none, .pick (.t 10) (.t 13) (.c (.bool false))⟩,
    ⟨some 6, none, .mv (.t 14)⟩])
  (.ret))⟩
theorem ok110 : FnOK Try.prog 110 v110 := ⟨⟨Try.f110, _, Try.func110, rfl, by kernel_rfl, rfl, by decide, by kernel_rfl, by kernel_rfl⟩⟩

/-- slices.Clone[[]int64,int64] -/
def v111 : VF := ⟨1, 8, [.t 2], true,
  .seq (.ops [⟨some 2, none, .mv (.c (.slice none 0 0))⟩])
  (.seq (.seq (.ops [⟨some 3, none, .mv (.t 0)⟩,
    ⟨some 4, none, .snil false (.t 3)⟩])
  (.cond (.t 4)
   (.seq (.ops [⟨some 2, none, .mv (.c (.slice none 0 0))⟩])
   (.ret))
   (.skip)))
  (.seq (.ops [⟨some 5, none, .bslice 1 [] 0 []⟩,
    ⟨some 6, none, .mv (.t 0)⟩,
    ⟨some 7, none, .append 1 8 (.t 5) (.t 6)⟩,
    ⟨some 2, none, .mv (.t 7)⟩])
  (.ret)))⟩
theorem ok111 : FnOK Try.prog 111 v111 := ⟨⟨Try.f111, _, Try.func111, rfl, by kernel_rfl, rfl, by decide, by kernel_rfl, by kernel_rfl⟩⟩

/-- spec.l1New -/
def v112 : VF := ⟨0, 3, [.cell 0 true 2], true,
  .seq (.ops [⟨some 0, none, .new [.slice none 0 0, .slice none 0 0]⟩])
  (.seq (.ops [⟨some 1, none, .mkslice 1 8 [.int .i64 0] (.c (.int .i64 64)) (.c (.int .i64 64))⟩,
    ⟨some 2, none, .build [.slice none 0 0, .slice none 0 0] [(0, 1, .t 1)]⟩,
    ⟨none, none, .store 2 (.t 0) (.t 2)⟩])
  (.ret))⟩
theorem ok112 : FnOK Try.prog 112 v112 := ⟨⟨Try.f112, _, Try.func112, rfl, by kernel_rfl, rfl, by decide, by kernel_rfl, by kernel_rfl⟩⟩

/-- spec.l1Pick -/
def v113 : VF := ⟨2, 12, [.t 4], false,
  .seq (.ops [⟨some 4, none, .mv (.c (.int .i64 0))⟩])
  (.seq (.ops [⟨some 5, none, .mv (.t 1)⟩,
    ⟨some 6, none, .mv (.t 0)⟩,
    ⟨some 7, none, .mv (.t 1)⟩,
    ⟨some 8, none, .len (.t 7)⟩,
    ⟨some 9, none, .call 82 [.t 6, .t 8]⟩,
    ⟨some 10, none, .iaddr 1 (.t 5) (.t 9)⟩,
    ⟨some 11, none, .load false 1 (.t 10)⟩,
    ⟨some 4, none, .mv (.t 11)⟩])
  (.ret))⟩
theorem ok113 : FnOK Try.prog 113 v113 := ⟨⟨Try.f113, _, Try.func113, rfl, by kernel_rfl, rfl, by decide, by kernel_rfl, by kernel_rfl⟩⟩

/-- impl.Put] -/
def v114 : VF := ⟨1, 8, [.t 2], true,
  .seq (.ops [⟨some 2, none, .mv (.c (.slice none 0 0))⟩])
  (.seq (.seq (.ops [⟨some 3, none, .mv (.t 0)⟩,
    ⟨some 4, none, .snil false (.t 3)⟩])
  (.cond (.t 4)
   (.seq (.ops [⟨some 2, none, .mv (.c (.slice none 0 0))⟩])
   (.ret))
   (.skip)))
  (.seq (.ops [⟨some 5, none, .bslice 2 [] 0 []⟩,
    ⟨some 6, none, .mv (.t 0)⟩,
    ⟨some 7, none, .append 2 16 (.t 5) (.t 6)⟩,
    ⟨some 2, none, .mv (.t 7)⟩])
  (.ret)))⟩
theorem ok114 : FnOK Try.prog 114 v114 := ⟨⟨Try.f114, _, Try.func114, rfl, by kernel_rfl, rfl, by decide, by kernel_rfl, by kernel_rfl⟩⟩

/-- slices.Grow[[]int64,int64] -/
def v115 : VF := ⟨2, 27, [.t 4], true,
  .seq (.ops [⟨some 4, none, .mv (.c (.slice none 0 0))⟩])
  (.seq (.seq (.ops [⟨some 5, none, .mv (.t 1)⟩,
    ⟨some 6, none, .bin .lss (.t 5) (.c (.int .i64 0))⟩])
  (.cond (.t 6)
   (.ops [⟨some 7, none, .bad⟩,
     ⟨none, none, .bad⟩])
   (.skip)))
  (.seq (.seq (.ops [⟨some 8, none, .mv (.t 1)⟩,
    ⟨some 9, none, .mv (.t 0)⟩,
    ⟨some 10, none, .capn (.t 9)⟩,
    ⟨some 11, none, .mv (.t 0)⟩,
    ⟨some 12, none, .len (.t 11)⟩,
    ⟨some 13, none, .bin .sub (.t 10) (.t 12)⟩,
    ⟨some 14, none, .bin .sub (.t 8) (.t 13)⟩,
    ⟨some 1, none, .mv (.t 14)⟩])
  (.seq (.ops [⟨some 15, none, .mv (.t 1)⟩,
    ⟨some 16, none, .bin .gtr (.t 15) (.c (.int .i64 0))⟩])
  (.cond (.t 16)
   (.ops [⟨some 17, none, .mv (.t 0)⟩,
     ⟨some 18, none, .mv (.t 0)⟩,
     ⟨some 19, none, .capn (.t 18)⟩,
     ⟨some 20, none, .slice 1 (.t 17) none (some (.t 19)) none⟩,
     ⟨some 21, none, .mv (.t 1)⟩,
     ⟨some 22, none, .appz 1 8 [.int .i64 0] (.t 20) (.t 21)⟩,
     ⟨some 23, none, .mv (.t 0)⟩,
     ⟨some 24, none, .len (.t 23)⟩,
     ⟨some 25, none, .slice 1 (.t 22) none (some (.t 24)) none⟩,
     ⟨some 0, none, .mv (.t 25)⟩])
   (.skip))))
  (.seq (.ops [⟨some 26, none, .mv (.t 0)⟩,
    ⟨some 4, none, .mv (.t 26)⟩])
  (.ret))))⟩
theorem ok115 : FnOK Try.prog 115 v115 := ⟨⟨Try.f115, _, Try.func115, rfl, by kernel_rfl, rfl, by decide, by kernel_rfl, by kernel_rfl⟩⟩

/-- slices.Equal[[]int64,int64] -/
def l117_0 : VC :=
  .seq (.ops [⟨some 14, none, .bin .lss (.t 13) (.t 12)⟩])
  (.seq (.cond (.t 14)
   (.skip)
   (.exit 0))
  (.seq (.block 1 (.seq (.ops [⟨some 15, none, .mv (.t 13)⟩,
     ⟨some 5, none, .mv (.t 15)⟩])
   (.seq (.draw [⟨some 16, none, .mv (.t 0)⟩,
     ⟨some 17, none, .mv (.t 5)⟩,
     ⟨some 18, none, .iaddr 1 (.t 16) (.t 17)⟩,
     ⟨some 19, none, .load false 1 (.t 18)⟩,
     ⟨some 20, none, .mv (.t 1)⟩,
     ⟨some 21, none, .mv (.t 5)⟩,
     ⟨some 22, none, .iaddr 1 (.t 20) (.t 21)⟩,
     ⟨some 23, none, .load false 1 (.t 22)⟩] [⟨some 24, none, .bin .neq (.t 19) (.t 23)⟩])
   (.cond (.t 24)
    (.seq (.ops [⟨some 4, none, .mv (.c (.bool false))⟩])
    (.ret))
    (.skip)))))
  (.ops [⟨some 25, none, .bin .add (.t 13) (.c (.int .i64 1))⟩,
    ⟨some 13, none, .mv (.t 25)⟩])))
def v117 : VF := ⟨2, 26, [.t 4], true,
  .seq (.ops [⟨some 4, none, .mv (.c (.bool false))⟩])
  (.seq (.seq (.ops [⟨some 6, none, .mv (.t 0)⟩,
    ⟨some 7, none, .len (.t 6)⟩,
    ⟨some 8, none, .mv (.t 1)⟩,
    ⟨some 9, none, .len (.t 8)⟩,
    ⟨some 10, none, .bin .neq (.t 7) (.t 9)⟩])
  (.cond (.t 10)
   (.seq (.ops [⟨some 4, none, .mv (.c (.bool false))⟩])
   (.ret))
   (.skip)))
  (.seq (.seq (.ops [⟨some 11, none, .mv (.t 0)⟩,
    ⟨some 12, none, .len (.t 11)⟩,
    ⟨some 13, none, .mv (.c (.int .i64 0))⟩])
  (.block 0 (.loop [0, 1, 12, 13] [4] l117_0)))
  (.seq (.ops [⟨some 4, none, .mv (.c (.bool true))⟩])
  (.ret))))⟩
theorem ok117 : FnOK Try.prog 117 v117 := ⟨⟨Try.f117, _, Try.func117, rfl, by kernel_rfl, rfl, by decide, by kernel_rfl, by kernel_rfl⟩⟩

/-- slices.IndexFunc[[]int64,int64] -/
def l118_0 : VC :=
  .seq (.ops [⟨some 9, none, .bin .lss (.t 8) (.t 7)⟩])
  (.seq (.cond (.t 9)
   (.skip)
   (.exit 0))
  (.seq (.block 1 (.seq (.ops [⟨some 10, none, .mv (.t 8)⟩,
     ⟨some 5, none, .mv (.t 10)⟩])
   (.seq (.ops [⟨some 11, none, .mv (.t 1)⟩,
     ⟨some 12, none, .mv (.t 0)⟩,
     ⟨some 13, none, .mv (.t 5)⟩,
     ⟨some 14, none, .iaddr 1 (.t 12) (.t 13)⟩,
     ⟨some 15, none, .load false 1 (.t 14)⟩,
     ⟨some 16, none, .callv (.t 11) [.t 15]⟩])
   (.cond (.t 16)
    (.seq (.ops [⟨some 17, none, .mv (.t 5)⟩,
      ⟨some 4, none, .mv (.t 17)⟩])
    (.ret))
    (.skip)))))
  (.ops [⟨some 18, none, .bin .add (.t 8) (.c (.int .i64 1))⟩,
    ⟨some 8, none, .mv (.t 18)⟩])))
def v118 : VF := ⟨2, 19, [.t 4], true,
  .seq (.ops [⟨some 4, none, .mv (.c (.int .i64 0))⟩])
  (.seq (.seq (.ops [⟨some 6, none, .mv (.t 0)⟩,
    ⟨some 7, none, .len (.t 6)⟩,
    ⟨some 8, none, .mv (.c (.int .i64 0))⟩])
  (.block 0 (.loop [0, 1, 7, 8] [4] l118_0)))
  (.seq (.ops [⟨some 4, none, .mv (.c (.int .i64 (-1)))⟩])
  (.ret)))⟩
theorem ok118 : FnOK Try.prog 118 v118 := ⟨⟨Try.f118, _, Try.func118, rfl, by kernel_rfl, rfl, by decide, by kernel_rfl, by kernel_rfl⟩⟩
def env1 : Env := [(85, v85), (87, v87), (90, v90), (91, v91), (92, v92), (94, v94), (98, v98), (99, v99), (100, v100), (101, v101), (102, v102), (103, v103), (104, v104), (106, v106), (107, v107), (108, v108), (110, v110), (111, v111), (112, v112), (113, v113), (114, v114), (115, v115), (117, v117), (118, v118)]
theorem envOK1 : EnvOK Try.prog env1 := .cons ok85 (.cons ok87 (.cons ok90 (.cons ok91 (.cons ok92 (.cons ok94 (.cons ok98 (.cons ok99 (.cons ok100 (.cons ok101 (.cons ok102 (.cons ok103 (.cons ok104 (.cons ok106 (.cons ok107 (.cons ok108 (.cons ok110 (.cons ok111 (.cons ok112 (.cons ok113 (.cons ok114 (.cons ok115 (.cons ok117 (.cons ok118 (.nil))))))))))))))))))))))))
end Go.Proofs.Ytaahjfjpbilfnaa.V
