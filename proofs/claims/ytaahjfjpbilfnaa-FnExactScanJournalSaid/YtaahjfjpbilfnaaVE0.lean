/- The machine's code of the program's functions; each is the program's own, by the kernel. Laid by a program (wip/v/vmgen.py). -/
import Derived.Test.YtaahjfjpbilfnaaVMS
import Derived.Test.YtaahjfjpbilfnaaProg
namespace Go.Proofs.Ytaahjfjpbilfnaa.V
open Go
set_option maxRecDepth 100000
/-- laws.FnExactScanJournal -/
def v13 : VF := ⟨1, 69, [.t 2], true,
  .seq (.ops [⟨some 1, none, .box (.t 0)⟩,
    ⟨some 2, none, .mv (.c (.bool false))⟩])
  (.seq (.ops [⟨some 3, none, .mv (.c (.int .i64 1048576))⟩])
  (.seq (.ops [⟨some 11, none, .load true 2 (.t 1)⟩,
    ⟨some 12, none, .mv (.t 3)⟩,
    ⟨some 13, none, .call 16 [.t 11, .t 12]⟩,
    ⟨some 3, none, .mv (.t 13)⟩])
  (.seq (.seq (.ops [⟨some 14, none, .mv (.t 3)⟩,
    ⟨some 15, none, .bin .lss (.t 14) (.c (.int .i64 0))⟩])
  (.cond (.t 15)
   (.seq (.ops [⟨some 2, none, .mv (.c (.bool true))⟩])
   (.ret))
   (.skip)))
  (.seq (.ops [⟨some 16, none, .load true 2 (.t 1)⟩,
    ⟨some 17, none, .call 18 [.t 16]⟩,
    ⟨some 18, none, .call 54 [.t 17]⟩,
    ⟨some 4, none, .new [.int .i64 0, .int .i64 0, .slice none 0 0]⟩,
    ⟨none, none, .store 3 (.t 4) (.t 18)⟩])
  (.seq (.ops [⟨some 19, none, .load true 2 (.t 1)⟩,
    ⟨some 20, none, .call 18 [.t 19]⟩,
    ⟨some 5, none, .new [.slice none 0 0, .slice none 0 0]⟩,
    ⟨none, none, .store 2 (.t 5) (.t 20)⟩])
  (.seq (.ops [⟨some 21, none, .load true 2 (.t 5)⟩,
    ⟨some 22, none, .call 55 [.t 21]⟩,
    ⟨some 6, none, .new [.int .i64 0, .int .i64 0, .slice none 0 0]⟩,
    ⟨none, none, .store 3 (.t 6) (.t 22)⟩])
  (.seq (.seq (.ops [⟨some 23, none, .load true 3 (.t 6)⟩,
    ⟨some 24, none, .load true 3 (.t 4)⟩,
    ⟨some 25, none, .call 56 [.t 23, .t 24]⟩,
    ⟨some 26, none, .not (.t 25)⟩])
  (.cond (.t 26)
   (.seq (.ops [⟨some 2, none, .mv (.c (.bool false))⟩])
   (.ret))
   (.skip)))
  (.seq (.seq (.draw [⟨some 27, none, .load true 2 (.t 5)⟩,
    ⟨some 28, none, .load true 2 (.t 1)⟩,
    ⟨some 29, none, .call 18 [.t 28]⟩] [⟨some 30, none, .call 20 [.t 27, .t 29]⟩,
    ⟨some 31, none, .not (.t 30)⟩])
  (.cond (.t 31)
   (.seq (.ops [⟨some 2, none, .mv (.c (.bool false))⟩])
   (.ret))
   (.skip)))
  (.seq (.ops [⟨some 7, none, .mv (.c (.int .i64 1))⟩])
  (.seq (.ops [⟨some 32, none, .load true 2 (.t 5)⟩,
    ⟨some 33, none, .mv (.t 7)⟩,
    ⟨some 34, none, .call 41 [.t 32, .t 33]⟩,
    ⟨some 7, none, .mv (.t 34)⟩])
  (.seq (.seq (.ops [⟨some 35, none, .mv (.t 7)⟩,
    ⟨some 36, none, .bin .lss (.t 35) (.c (.int .i64 0))⟩,
    ⟨some 37, none, .mv (.t 36)⟩,
    ⟨some 38, some (37, false), .load true 3 (.t 6)⟩,
    ⟨some 39, some (37, false), .load true 3 (.t 4)⟩,
    ⟨some 40, some (37, false), .call 56 [.t 38, .t 39]⟩,
    ⟨some 41, some (37, false), .not (.t 40)⟩,
    ⟨some 42, none, .pick (.t 37) (.c (.bool true)) (.t 41)⟩])
  (.cond (.t 42)
   (.seq (.ops [⟨some 2, none, .mv (.c (.bool false))⟩])
   (.ret))
   (.skip)))
  (.seq (.ops [⟨some 8, none, .mv (.c (.int .i64 1))⟩])
  (.seq (.ops [⟨some 43, none, .load true 3 (.t 6)⟩,
    ⟨some 44, none, .mv (.t 8)⟩,
    ⟨some 45, none, .call 57 [.t 43, .t 44]⟩,
    ⟨some 8, none, .mv (.t 45)⟩])
  (.seq (.ops [⟨some 9, none, .mv (.c (.int .i64 1))⟩])
  (.seq (.ops [⟨some 46, none, .load true 3 (.t 6)⟩,
    ⟨some 47, none, .mv (.t 9)⟩,
    ⟨some 48, none, .call 58 [.t 46, .t 47]⟩,
    ⟨some 9, none, .mv (.t 48)⟩])
  (.seq (.seq (.ops [⟨some 49, none, .mv (.t 9)⟩,
    ⟨some 50, none, .bin .lss (.t 49) (.c (.int .i64 0))⟩])
  (.cond (.t 50)
   (.seq (.ops [⟨some 2, none, .mv (.c (.bool false))⟩])
   (.ret))
   (.skip)))
  (.seq (.seq (.ops [⟨some 51, none, .mv (.t 9)⟩,
    ⟨some 52, none, .mv (.t 8)⟩,
    ⟨some 53, none, .bin .neq (.t 51) (.t 52)⟩])
  (.cond (.t 53)
   (.seq (.ops [⟨some 2, none, .mv (.c (.bool false))⟩])
   (.ret))
   (.skip)))
  (.seq (.ops [⟨some 54, none, .load true 2 (.t 1)⟩,
    ⟨some 55, none, .call 18 [.t 54]⟩,
    ⟨some 56, none, .call 55 [.t 55]⟩,
    ⟨some 10, none, .new [.int .i64 0, .int .i64 0, .slice none 0 0]⟩,
    ⟨none, none, .store 3 (.t 10) (.t 56)⟩])
  (.seq (.seq (.ops [⟨some 57, none, .load true 3 (.t 10)⟩,
    ⟨some 58, none, .load true 3 (.t 4)⟩,
    ⟨some 59, none, .call 56 [.t 57, .t 58]⟩,
    ⟨some 60, none, .not (.t 59)⟩])
  (.cond (.t 60)
   (.seq (.ops [⟨some 2, none, .mv (.c (.bool false))⟩])
   (.ret))
   (.skip)))
  (.seq (.ops [⟨some 9, none, .mv (.c (.int .i64 1))⟩])
  (.seq (.ops [⟨some 61, none, .load true 3 (.t 6)⟩,
    ⟨some 62, none, .mv (.t 9)⟩,
    ⟨some 63, none, .call 58 [.t 61, .t 62]⟩,
    ⟨some 9, none, .mv (.t 63)⟩])
  (.seq (.seq (.ops [⟨some 64, none, .mv (.t 9)⟩,
    ⟨some 65, none, .bin .lss (.t 64) (.c (.int .i64 0))⟩])
  (.cond (.t 65)
   (.seq (.ops [⟨some 2, none, .mv (.c (.bool false))⟩])
   (.ret))
   (.skip)))
  (.seq (.seq (.ops [⟨some 66, none, .mv (.t 9)⟩,
    ⟨some 67, none, .mv (.t 8)⟩,
    ⟨some 68, none, .bin .neq (.t 66) (.t 67)⟩])
  (.cond (.t 68)
   (.seq (.ops [⟨some 2, none, .mv (.c (.bool false))⟩])
   (.ret))
   (.skip)))
  (.seq (.ops [⟨some 2, none, .mv (.c (.bool true))⟩])
  (.ret)))))))))))))))))))))))))⟩
theorem ok13 : FnOK Try.prog 13 v13 := ⟨⟨Try.f13, _, Try.func13, rfl, by kernel_rfl, rfl, by decide, by kernel_rfl, by kernel_rfl⟩⟩

/-- laws.szDisk -/
def v16 : VF := ⟨2, 18, [.t 4], true,
  .seq (.ops [⟨some 2, none, .box (.t 0)⟩,
    ⟨some 4, none, .mv (.c (.int .i64 0))⟩])
  (.seq (.ops [⟨some 5, none, .faddr 0 (.t 2)⟩,
    ⟨some 6, none, .load false 1 (.t 5)⟩,
    ⟨some 7, none, .mv (.t 1)⟩,
    ⟨some 8, none, .call 66 [.t 6, .t 7]⟩,
    ⟨some 1, none, .mv (.t 8)⟩])
  (.seq (.seq (.ops [⟨some 9, none, .mv (.t 1)⟩,
    ⟨some 10, none, .bin .lss (.t 9) (.c (.int .i64 0))⟩])
  (.cond (.t 10)
   (.seq (.ops [⟨some 4, none, .mv (.c (.int .i64 (-1)))⟩])
   (.ret))
   (.skip)))
  (.seq (.ops [⟨some 11, none, .faddr 1 (.t 2)⟩,
    ⟨some 12, none, .load false 1 (.t 11)⟩,
    ⟨some 13, none, .mv (.t 1)⟩,
    ⟨some 14, none, .call 67 [.t 12, .t 13]⟩,
    ⟨some 1, none, .mv (.t 14)⟩])
  (.seq (.seq (.ops [⟨some 15, none, .mv (.t 1)⟩,
    ⟨some 16, none, .bin .lss (.t 15) (.c (.int .i64 0))⟩])
  (.cond (.t 16)
   (.seq (.ops [⟨some 4, none, .mv (.c (.int .i64 (-1)))⟩])
   (.ret))
   (.skip)))
  (.seq (.ops [⟨some 17, none, .mv (.t 1)⟩,
    ⟨some 4, none, .mv (.t 17)⟩])
  (.ret))))))⟩
theorem ok16 : FnOK Try.prog 16 v16 := ⟨⟨Try.f16, _, Try.func16, rfl, by kernel_rfl, rfl, by decide, by kernel_rfl, by kernel_rfl⟩⟩

/-- laws.toDisk -/
def v18 : VF := ⟨1, 13, [.cell 2 true 2], true,
  .seq (.ops [⟨some 1, none, .box (.t 0)⟩,
    ⟨some 2, none, .new [.slice none 0 0, .slice none 0 0]⟩])
  (.seq (.ops [⟨some 3, none, .new [.slice none 0 0, .slice none 0 0]⟩])
  (.seq (.ops [⟨some 4, none, .faddr 0 (.t 1)⟩,
    ⟨some 5, none, .load false 1 (.t 4)⟩,
    ⟨some 6, none, .call 33 [.t 5]⟩,
    ⟨some 7, none, .faddr 0 (.t 3)⟩,
    ⟨none, none, .store 1 (.t 7) (.t 6)⟩])
  (.seq (.ops [⟨some 8, none, .faddr 1 (.t 1)⟩,
    ⟨some 9, none, .load false 1 (.t 8)⟩,
    ⟨some 10, none, .call 69 [.t 9]⟩,
    ⟨some 11, none, .faddr 1 (.t 3)⟩,
    ⟨none, none, .store 1 (.t 11) (.t 10)⟩])
  (.seq (.ops [⟨some 12, none, .load true 2 (.t 3)⟩,
    ⟨none, none, .store 2 (.t 2) (.t 12)⟩])
  (.ret)))))⟩
theorem ok18 : FnOK Try.prog 18 v18 := ⟨⟨Try.f18, _, Try.func18, rfl, by kernel_rfl, rfl, by decide, by kernel_rfl, by kernel_rfl⟩⟩

/-- impl.DiskFault -/
def v19 : VF := ⟨1, 23, [.t 2], true,
  .seq (.ops [⟨some 1, none, .box (.t 0)⟩,
    ⟨some 2, none, .mv (.c (.int .i64 0))⟩])
  (.seq (.block 0 (.seq (.ops [⟨some 4, none, .faddr 0 (.t 1)⟩,
     ⟨some 5, none, .load false 1 (.t 4)⟩,
     ⟨some 6, none, .len (.t 5)⟩,
     ⟨some 7, none, .bin .neq (.t 6) (.c (.int .i64 64))⟩,
     ⟨some 3, none, .mv (.t 7)⟩])
   (.cond (.t 3)
    (.seq (.ops [⟨some 2, none, .mv (.c (.int .i64 1))⟩])
    (.ret))
    (.seq (.ops [⟨some 9, none, .faddr 1 (.t 1)⟩,
      ⟨some 10, none, .load false 1 (.t 9)⟩,
      ⟨some 11, none, .len (.t 10)⟩,
      ⟨some 12, none, .bin .gtr (.t 11) (.c (.int .i64 200))⟩,
      ⟨some 8, none, .mv (.t 12)⟩])
    (.cond (.t 8)
     (.seq (.ops [⟨some 2, none, .mv (.c (.int .i64 2))⟩])
     (.ret))
     (.seq (.ops [⟨some 14, none, .faddr 0 (.t 1)⟩,
       ⟨some 15, none, .load false 1 (.t 14)⟩,
       ⟨some 16, none, .call 70 [.t 15]⟩,
       ⟨some 17, none, .not (.t 16)⟩,
       ⟨some 18, none, .mv (.t 17)⟩,
       ⟨some 19, some (18, false), .faddr 1 (.t 1)⟩,
       ⟨some 20, some (18, false), .load false 1 (.t 19)⟩,
       ⟨some 21, some (18, false), .call 71 [.t 20, .c (.func (.func 72) #[] #[])]⟩,
       ⟨some 22, none, .pick (.t 18) (.c (.bool true)) (.t 21)⟩,
       ⟨some 13, none, .mv (.t 22)⟩])
     (.cond (.t 13)
      (.seq (.ops [⟨some 2, none, .mv (.c (.int .i64 3))⟩])
      (.ret))
      (.skip))))))))
  (.seq (.ops [⟨some 2, none, .mv (.c (.int .i64 0))⟩])
  (.ret)))⟩
theorem ok19 : FnOK Try.prog 19 v19 := ⟨⟨Try.f19, _, Try.func19, rfl, by kernel_rfl, rfl, by decide, by kernel_rfl, by kernel_rfl⟩⟩

/-- laws.eqDisk -/
def v20 : VF := ⟨2, 17, [.t 4], true,
  .seq (.ops [⟨some 2, none, .box (.t 0)⟩,
    ⟨some 3, none, .box (.t 1)⟩,
    ⟨some 4, none, .mv (.c (.bool false))⟩])
  (.seq (.seq (.ops [⟨some 5, none, .faddr 0 (.t 2)⟩,
    ⟨some 6, none, .load false 1 (.t 5)⟩,
    ⟨some 7, none, .faddr 0 (.t 3)⟩,
    ⟨some 8, none, .load false 1 (.t 7)⟩,
    ⟨some 9, none, .call 35 [.t 6, .t 8]⟩,
    ⟨some 10, none, .not (.t 9)⟩])
  (.cond (.t 10)
   (.seq (.ops [⟨some 4, none, .mv (.c (.bool false))⟩])
   (.ret))
   (.skip)))
  (.seq (.seq (.ops [⟨some 11, none, .faddr 1 (.t 2)⟩,
    ⟨some 12, none, .load false 1 (.t 11)⟩,
    ⟨some 13, none, .faddr 1 (.t 3)⟩,
    ⟨some 14, none, .load false 1 (.t 13)⟩,
    ⟨some 15, none, .call 75 [.t 12, .t 14]⟩,
    ⟨some 16, none, .not (.t 15)⟩])
  (.cond (.t 16)
   (.seq (.ops [⟨some 4, none, .mv (.c (.bool false))⟩])
   (.ret))
   (.skip)))
  (.seq (.ops [⟨some 4, none, .mv (.c (.bool true))⟩])
  (.ret))))⟩
theorem ok20 : FnOK Try.prog 20 v20 := ⟨⟨Try.f20, _, Try.func20, rfl, by kernel_rfl, rfl, by decide, by kernel_rfl, by kernel_rfl⟩⟩

/-- laws.toInt64S -/
def l33_0 : VC :=
  .seq (.seq (.ops [⟨some 8, none, .mv (.t 4)⟩,
    ⟨some 9, none, .mv (.t 0)⟩,
    ⟨some 10, none, .len (.t 9)⟩,
    ⟨some 11, none, .bin .lss (.t 8) (.t 10)⟩])
  (.cond (.t 11)
   (.skip)
   (.exit 0)))
  (.seq (.block 1 (.ops [⟨some 14, none, .mv (.t 3)⟩,
     ⟨some 15, none, .mv (.t 4)⟩,
     ⟨some 16, none, .mv (.t 0)⟩,
     ⟨some 17, none, .mv (.t 4)⟩,
     ⟨some 18, none, .iaddr 1 (.t 16) (.t 17)⟩,
     ⟨some 19, none, .load false 1 (.t 18)⟩,
     ⟨some 20, none, .iaddr 1 (.t 14) (.t 15)⟩,
     ⟨none, none, .store 1 (.t 20) (.t 19)⟩]))
  (.ops [⟨some 12, none, .mv (.t 4)⟩,
    ⟨some 13, none, .bin .add (.t 12) (.c (.int .i64 1))⟩,
    ⟨some 4, none, .mv (.t 13)⟩]))
def v33 : VF := ⟨1, 22, [.t 2], true,
  .seq (.ops [⟨some 2, none, .mv (.c (.slice none 0 0))⟩])
  (.seq (.ops [⟨some 5, none, .mv (.t 0)⟩,
    ⟨some 6, none, .len (.t 5)⟩,
    ⟨some 7, none, .mkslice 1 8 [.int .i64 0] (.t 6) (.t 6)⟩,
    ⟨some 3, none, .mv (.t 7)⟩])
  (.seq (.seq (.ops [⟨some 4, none, .mv (.c (.int .i64 0))⟩])
  (.block 0 (.loop [0, 3, 4] [2, 3] l33_0)))
  (.seq (.ops [⟨some 21, none, .mv (.t 3)⟩,
    ⟨some 2, none, .mv (.t 21)⟩])
  (.ret))))⟩
theorem ok33 : FnOK Try.prog 33 v33 := ⟨⟨Try.f33, _, Try.func33, rfl, by kernel_rfl, rfl, by decide, by kernel_rfl, by kernel_rfl⟩⟩

/-- laws.eqInt64S -/
def l35_0 : VC :=
  .seq (.seq (.ops [⟨some 11, none, .mv (.t 5)⟩,
    ⟨some 12, none, .mv (.t 0)⟩,
    ⟨some 13, none, .len (.t 12)⟩,
    ⟨some 14, none, .bin .lss (.t 11) (.t 13)⟩])
  (.cond (.t 14)
   (.skip)
   (.exit 0)))
  (.seq (.block 1 (.seq (.draw [⟨some 17, none, .mv (.t 0)⟩,
     ⟨some 18, none, .mv (.t 5)⟩,
     ⟨some 19, none, .iaddr 1 (.t 17) (.t 18)⟩,
     ⟨some 20, none, .load false 1 (.t 19)⟩,
     ⟨some 21, none, .mv (.t 1)⟩,
     ⟨some 22, none, .mv (.t 5)⟩,
     ⟨some 23, none, .iaddr 1 (.t 21) (.t 22)⟩,
     ⟨some 24, none, .load false 1 (.t 23)⟩] [⟨some 25, none, .bin .neq (.t 20) (.t 24)⟩])
   (.cond (.t 25)
    (.seq (.ops [⟨some 4, none, .mv (.c (.bool false))⟩])
    (.ret))
    (.skip))))
  (.ops [⟨some 15, none, .mv (.t 5)⟩,
    ⟨some 16, none, .bin .add (.t 15) (.c (.int .i64 1))⟩,
    ⟨some 5, none, .mv (.t 16)⟩]))
def v35 : VF := ⟨2, 26, [.t 4], true,
  .seq (.ops [⟨some 4, none, .mv (.c (.bool false))⟩])
  (.seq (.seq (.ops [⟨some 6, none, .mv (.t 0)⟩,
    ⟨some 7, none, .len (.t 6)⟩,
    ⟨some 8, none, .mv (.t 1)⟩,
    ⟨some 9, none, .len (.t 8)⟩,
    ⟨some 10, none, .bin .neq (.t 7) (.t 9)⟩])
  (.cond (.t 10)
   (.seq (.ops [⟨some 4, none, .mv (.c (.bool false))⟩])
   (.ret))
   (.skip)))
  (.seq (.seq (.ops [⟨some 5, none, .mv (.c (.int .i64 0))⟩])
  (.block 0 (.loop [0, 1, 5] [4] l35_0)))
  (.seq (.ops [⟨some 4, none, .mv (.c (.bool true))⟩])
  (.ret))))⟩
theorem ok35 : FnOK Try.prog 35 v35 := ⟨⟨Try.f35, _, Try.func35, rfl, by kernel_rfl, rfl, by decide, by kernel_rfl, by kernel_rfl⟩⟩

/-- laws.markInt64S -/
def l36_0 : VC :=
  .seq (.seq (.ops [⟨some 6, none, .mv (.t 5)⟩,
    ⟨some 7, none, .mv (.t 0)⟩,
    ⟨some 8, none, .len (.t 7)⟩,
    ⟨some 9, none, .bin .lss (.t 6) (.t 8)⟩])
  (.cond (.t 9)
   (.skip)
   (.exit 0)))
  (.seq (.block 1 (.seq (.ops [⟨some 12, none, .mv (.t 0)⟩,
     ⟨some 13, none, .mv (.t 5)⟩,
     ⟨some 14, none, .mv (.t 1)⟩,
     ⟨some 15, none, .iaddr 1 (.t 12) (.t 13)⟩,
     ⟨none, none, .store 1 (.t 15) (.t 14)⟩])
   (.ops [⟨some 16, none, .mv (.t 1)⟩,
     ⟨some 17, none, .bin .add (.t 16) (.c (.int .i64 1))⟩,
     ⟨some 1, none, .mv (.t 17)⟩])))
  (.ops [⟨some 10, none, .mv (.t 5)⟩,
    ⟨some 11, none, .bin .add (.t 10) (.c (.int .i64 1))⟩,
    ⟨some 5, none, .mv (.t 11)⟩]))
def v36 : VF := ⟨2, 19, [.t 4], false,
  .seq (.ops [⟨some 4, none, .mv (.c (.int .i64 0))⟩])
  (.seq (.seq (.ops [⟨some 5, none, .mv (.c (.int .i64 0))⟩])
  (.block 0 (.loop [0, 1, 5] [1, 4] l36_0)))
  (.seq (.ops [⟨some 18, none, .mv (.t 1)⟩,
    ⟨some 4, none, .mv (.t 18)⟩])
  (.ret)))⟩
theorem ok36 : FnOK Try.prog 36 v36 := ⟨⟨Try.f36, _, Try.func36, rfl, by kernel_rfl, rfl, by decide, by kernel_rfl, by kernel_rfl⟩⟩

/-- laws.markDisk -/
def v41 : VF := ⟨2, 14, [.t 4], false,
  .seq (.ops [⟨some 2, none, .box (.t 0)⟩,
    ⟨some 4, none, .mv (.c (.int .i64 0))⟩])
  (.seq (.ops [⟨some 5, none, .faddr 0 (.t 2)⟩,
    ⟨some 6, none, .load false 1 (.t 5)⟩,
    ⟨some 7, none, .mv (.t 1)⟩,
    ⟨some 8, none, .call 36 [.t 6, .t 7]⟩,
    ⟨some 1, none, .mv (.t 8)⟩])
  (.seq (.ops [⟨some 9, none, .faddr 1 (.t 2)⟩,
    ⟨some 10, none, .load false 1 (.t 9)⟩,
    ⟨some 11, none, .mv (.t 1)⟩,
    ⟨some 12, none, .call 88 [.t 10, .t 11]⟩,
    ⟨some 1, none, .mv (.t 12)⟩])
  (.seq (.ops [⟨some 13, none, .mv (.t 1)⟩,
    ⟨some 4, none, .mv (.t 13)⟩])
  (.ret))))⟩
theorem ok41 : FnOK Try.prog 41 v41 := ⟨⟨Try.f41, _, Try.func41, rfl, by kernel_rfl, rfl, by decide, by kernel_rfl, by kernel_rfl⟩⟩

/-- spec.ScanJournal -/
def v54 : VF := ⟨1, 19, [.cell 2 true 3], true,
  .seq (.ops [⟨some 1, none, .box (.t 0)⟩,
    ⟨some 2, none, .new [.int .i64 0, .int .i64 0, .slice none 0 0]⟩])
  (.seq (.seq (.ops [⟨some 6, none, .call 68 [.t 1]⟩,
    ⟨some 3, none, .mv (.t 6)⟩])
  (.seq (.ops [⟨some 7, none, .mv (.t 3)⟩,
    ⟨some 8, none, .bin .neq (.t 7) (.c (.int .i64 0))⟩])
  (.cond (.t 8)
   (.seq (.ops [⟨some 9, none, .mv (.t 3)⟩,
     ⟨some 10, none, .build [.int .i64 0, .int .i64 0, .slice none 0 0] [(0, 1, .t 9)]⟩,
     ⟨none, none, .store 3 (.t 2) (.t 10)⟩])
   (.ret))
   (.skip))))
  (.seq (.ops [⟨some 12, none, .call 87 [.t 1]⟩,
    ⟨some 13, none, .call 92 [.t 12]⟩,
    ⟨some 11, none, .mv (.t 13)⟩,
    ⟨some 14, none, .ext 0 (.t 11)⟩,
    ⟨some 15, none, .ext 1 (.t 11)⟩,
    ⟨some 4, none, .mv (.t 14)⟩,
    ⟨some 5, none, .mv (.t 15)⟩])
  (.seq (.ops [⟨some 16, none, .mv (.t 5)⟩,
    ⟨some 17, none, .mv (.t 4)⟩,
    ⟨some 18, none, .build [.int .i64 0, .int .i64 0, .slice none 0 0] [(1, 1, .t 16), (2, 1, .t 17)]⟩,
    ⟨none, none, .store 3 (.t 2) (.t 18)⟩])
  (.ret))))⟩
theorem ok54 : FnOK Try.prog 54 v54 := ⟨⟨Try.f54, _, Try.func54, rfl, by kernel_rfl, rfl, by decide, by kernel_rfl, by kernel_rfl⟩⟩

/-- impl.ScanJournal -/
def v55 : VF := ⟨1, 20, [.cell 2 true 3], true,
  .seq (.ops [⟨some 1, none, .box (.t 0)⟩,
    ⟨some 2, none, .new [.int .i64 0, .int .i64 0, .slice none 0 0]⟩])
  (.seq (.seq (.ops [⟨some 6, none, .load true 2 (.t 1)⟩,
    ⟨some 7, none, .call 19 [.t 6]⟩,
    ⟨some 3, none, .mv (.t 7)⟩])
  (.seq (.ops [⟨some 8, none, .mv (.t 3)⟩,
    ⟨some 9, none, .bin .neq (.t 8) (.c (.int .i64 0))⟩])
  (.cond (.t 9)
   (.seq (.ops [⟨some 10, none, .mv (.t 3)⟩,
     ⟨some 11, none, .build [.int .i64 0, .int .i64 0, .slice none 0 0] [(0, 1, .t 10)]⟩,
     ⟨none, none, .store 3 (.t 2) (.t 11)⟩])
   (.ret))
   (.skip))))
  (.seq (.ops [⟨some 13, none, .load true 2 (.t 1)⟩,
    ⟨some 14, none, .call 94 [.t 13]⟩,
    ⟨some 12, none, .mv (.t 14)⟩,
    ⟨some 15, none, .ext 0 (.t 12)⟩,
    ⟨some 16, none, .ext 1 (.t 12)⟩,
    ⟨some 4, none, .mv (.t 15)⟩,
    ⟨some 5, none, .mv (.t 16)⟩])
  (.seq (.ops [⟨some 17, none, .mv (.t 4)⟩,
    ⟨some 18, none, .mv (.t 5)⟩,
    ⟨some 19, none, .build [.int .i64 0, .int .i64 0, .slice none 0 0] [(2, 1, .t 17), (1, 1, .t 18)]⟩,
    ⟨none, none, .store 3 (.t 2) (.t 19)⟩])
  (.ret))))⟩
theorem ok55 : FnOK Try.prog 55 v55 := ⟨⟨Try.f55, _, Try.func55, rfl, by kernel_rfl, rfl, by decide, by kernel_rfl, by kernel_rfl⟩⟩

/-- laws.eqRecordsResult -/
def v56 : VF := ⟨2, 21, [.t 4], true,
  .seq (.ops [⟨some 2, none, .box (.t 0)⟩,
    ⟨some 3, none, .box (.t 1)⟩,
    ⟨some 4, none, .mv (.c (.bool false))⟩])
  (.seq (.seq (.ops [⟨some 5, none, .faddr 0 (.t 2)⟩,
    ⟨some 6, none, .load false 1 (.t 5)⟩,
    ⟨some 7, none, .faddr 0 (.t 3)⟩,
    ⟨some 8, none, .load false 1 (.t 7)⟩,
    ⟨some 9, none, .bin .neq (.t 6) (.t 8)⟩])
  (.cond (.t 9)
   (.seq (.ops [⟨some 4, none, .mv (.c (.bool false))⟩])
   (.ret))
   (.skip)))
  (.seq (.seq (.ops [⟨some 10, none, .faddr 1 (.t 2)⟩,
    ⟨some 11, none, .load false 1 (.t 10)⟩,
    ⟨some 12, none, .faddr 1 (.t 3)⟩,
    ⟨some 13, none, .load false 1 (.t 12)⟩,
    ⟨some 14, none, .bin .neq (.t 11) (.t 13)⟩])
  (.cond (.t 14)
   (.seq (.ops [⟨some 4, none, .mv (.c (.bool false))⟩])
   (.ret))
   (.skip)))
  (.seq (.seq (.ops [⟨some 15, none, .faddr 2 (.t 2)⟩,
    ⟨some 16, none, .load false 1 (.t 15)⟩,
    ⟨some 17, none, .faddr 2 (.t 3)⟩,
    ⟨some 18, none, .load false 1 (.t 17)⟩,
    ⟨some 19, none, .call 95 [.t 16, .t 18]⟩,
    ⟨some 20, none, .not (.t 19)⟩])
  (.cond (.t 20)
   (.seq (.ops [⟨some 4, none, .mv (.c (.bool false))⟩])
   (.ret))
   (.skip)))
  (.seq (.ops [⟨some 4, none, .mv (.c (.bool true))⟩])
  (.ret)))))⟩
theorem ok56 : FnOK Try.prog 56 v56 := ⟨⟨Try.f56, _, Try.func56, rfl, by kernel_rfl, rfl, by decide, by kernel_rfl, by kernel_rfl⟩⟩

/-- laws.markRecordsResult -/
def v57 : VF := ⟨2, 10, [.t 4], false,
  .seq (.ops [⟨some 2, none, .box (.t 0)⟩,
    ⟨some 4, none, .mv (.c (.int .i64 0))⟩])
  (.seq (.ops [⟨some 5, none, .faddr 2 (.t 2)⟩,
    ⟨some 6, none, .load false 1 (.t 5)⟩,
    ⟨some 7, none, .mv (.t 1)⟩,
    ⟨some 8, none, .call 96 [.t 6, .t 7]⟩,
    ⟨some 1, none, .mv (.t 8)⟩])
  (.seq (.ops [⟨some 9, none, .mv (.t 1)⟩,
    ⟨some 4, none, .mv (.t 9)⟩])
  (.ret)))⟩
theorem ok57 : FnOK Try.prog 57 v57 := ⟨⟨Try.f57, _, Try.func57, rfl, by kernel_rfl, rfl, by decide, by kernel_rfl, by kernel_rfl⟩⟩

/-- laws.heldRecordsResult -/
def v58 : VF := ⟨2, 12, [.t 4], true,
  .seq (.ops [⟨some 2, none, .box (.t 0)⟩,
    ⟨some 4, none, .mv (.c (.int .i64 0))⟩])
  (.seq (.ops [⟨some 5, none, .faddr 2 (.t 2)⟩,
    ⟨some 6, none, .load false 1 (.t 5)⟩,
    ⟨some 7, none, .mv (.t 1)⟩,
    ⟨some 8, none, .call 97 [.t 6, .t 7]⟩,
    ⟨some 1, none, .mv (.t 8)⟩])
  (.seq (.seq (.ops [⟨some 9, none, .mv (.t 1)⟩,
    ⟨some 10, none, .bin .lss (.t 9) (.c (.int .i64 0))⟩])
  (.cond (.t 10)
   (.seq (.ops [⟨some 4, none, .mv (.c (.int .i64 (-1)))⟩])
   (.ret))
   (.skip)))
  (.seq (.ops [⟨some 11, none, .mv (.t 1)⟩,
    ⟨some 4, none, .mv (.t 11)⟩])
  (.ret))))⟩
theorem ok58 : FnOK Try.prog 58 v58 := ⟨⟨Try.f58, _, Try.func58, rfl, by kernel_rfl, rfl, by decide, by kernel_rfl, by kernel_rfl⟩⟩

/-- impl.SumWords -/
def l64_0 : VC :=
  .seq (.ops [⟨some 10, none, .bin .lss (.t 9) (.t 8)⟩])
  (.seq (.cond (.t 10)
   (.skip)
   (.exit 0))
  (.seq (.block 1 (.seq (.ops [⟨some 11, none, .iaddr 1 (.t 7) (.t 9)⟩,
     ⟨some 12, none, .load false 1 (.t 11)⟩,
     ⟨some 5, none, .mv (.t 12)⟩])
   (.seq (.ops [⟨some 13, none, .mv (.t 5)⟩,
     ⟨some 14, none, .bin .rem (.t 13) (.c (.int .i64 65521))⟩,
     ⟨some 6, none, .mv (.t 14)⟩])
   (.seq (.seq (.ops [⟨some 15, none, .mv (.t 6)⟩,
     ⟨some 16, none, .bin .lss (.t 15) (.c (.int .i64 0))⟩])
   (.cond (.t 16)
    (.ops [⟨some 17, none, .mv (.t 6)⟩,
      ⟨some 18, none, .bin .add (.t 17) (.c (.int .i64 65521))⟩,
      ⟨some 6, none, .mv (.t 18)⟩])
    (.skip)))
   (.ops [⟨some 19, none, .mv (.t 3)⟩,
     ⟨some 20, none, .bin .mul (.t 19) (.c (.int .i64 263))⟩,
     ⟨some 21, none, .mv (.t 6)⟩,
     ⟨some 22, none, .bin .add (.t 20) (.t 21)⟩,
     ⟨some 23, none, .bin .add (.t 22) (.c (.int .i64 1))⟩,
     ⟨some 24, none, .bin .rem (.t 23) (.c (.int .i64 65521))⟩,
     ⟨some 3, none, .mv (.t 24)⟩])))))
  (.ops [⟨some 25, none, .bin .add (.t 9) (.c (.int .i64 1))⟩,
    ⟨some 9, none, .mv (.t 25)⟩])))
def v64 : VF := ⟨1, 27, [.t 2], true,
  .seq (.ops [⟨some 2, none, .mv (.c (.int .i64 0))⟩])
  (.seq (.ops [⟨some 3, none, .mv (.c (.int .i64 9))⟩])
  (.seq (.seq (.ops [⟨some 7, none, .mv (.t 0)⟩,
    ⟨some 8, none, .len (.t 7)⟩,
    ⟨some 9, none, .mv (.c (.int .i64 0))⟩])
  (.block 0 (.loop [3, 7, 8, 9] [2, 3] l64_0)))
  (.seq (.ops [⟨some 26, none, .mv (.t 3)⟩,
    ⟨some 2, none, .mv (.t 26)⟩])
  (.ret))))⟩
theorem ok64 : FnOK Try.prog 64 v64 := ⟨⟨Try.f64, _, Try.func64, rfl, by kernel_rfl, rfl, by decide, by kernel_rfl, by kernel_rfl⟩⟩

/-- spec.SumWords -/
def l65_0 : VC :=
  .seq (.seq (.ops [⟨some 5, none, .mv (.t 4)⟩,
    ⟨some 6, none, .mv (.t 0)⟩,
    ⟨some 7, none, .len (.t 6)⟩,
    ⟨some 8, none, .bin .lss (.t 5) (.t 7)⟩])
  (.cond (.t 8)
   (.skip)
   (.exit 0)))
  (.seq (.block 1 (.ops [⟨some 11, none, .mv (.t 3)⟩,
     ⟨some 12, none, .bin .mul (.t 11) (.c (.int .i64 263))⟩,
     ⟨some 13, none, .mv (.t 0)⟩,
     ⟨some 14, none, .mv (.t 4)⟩,
     ⟨some 15, none, .iaddr 1 (.t 13) (.t 14)⟩,
     ⟨some 16, none, .load false 1 (.t 15)⟩,
     ⟨some 17, none, .bin .rem (.t 16) (.c (.int .i64 65521))⟩,
     ⟨some 18, none, .bin .add (.t 17) (.c (.int .i64 65521))⟩,
     ⟨some 19, none, .bin .rem (.t 18) (.c (.int .i64 65521))⟩,
     ⟨some 20, none, .bin .add (.t 12) (.t 19)⟩,
     ⟨some 21, none, .bin .add (.t 20) (.c (.int .i64 1))⟩,
     ⟨some 22, none, .bin .rem (.t 21) (.c (.int .i64 65521))⟩,
     ⟨some 3, none, .mv (.t 22)⟩]))
  (.ops [⟨some 9, none, .mv (.t 4)⟩,
    ⟨some 10, none, .bin .add (.t 9) (.c (.int .i64 1))⟩,
    ⟨some 4, none, .mv (.t 10)⟩]))
def v65 : VF := ⟨1, 24, [.t 2], true,
  .seq (.ops [⟨some 2, none, .mv (.c (.int .i64 0))⟩])
  (.seq (.ops [⟨some 3, none, .mv (.c (.int .i64 9))⟩])
  (.seq (.seq (.ops [⟨some 4, none, .mv (.c (.int .i64 0))⟩])
  (.block 0 (.loop [0, 3, 4] [2, 3] l65_0)))
  (.seq (.ops [⟨some 23, none, .mv (.t 3)⟩,
    ⟨some 2, none, .mv (.t 23)⟩])
  (.ret))))⟩
theorem ok65 : FnOK Try.prog 65 v65 := ⟨⟨Try.f65, _, Try.func65, rfl, by kernel_rfl, rfl, by decide, by kernel_rfl, by kernel_rfl⟩⟩

/-- laws.szInt64S -/
def v66 : VF := ⟨2, 12, [.t 4], true,
  .seq (.ops [⟨some 4, none, .mv (.c (.int .i64 0))⟩])
  (.seq (.ops [⟨some 5, none, .mv (.t 1)⟩,
    ⟨some 6, none, .mv (.t 0)⟩,
    ⟨some 7, none, .len (.t 6)⟩,
    ⟨some 8, none, .bin .sub (.t 5) (.t 7)⟩,
    ⟨some 1, none, .mv (.t 8)⟩])
  (.seq (.seq (.ops [⟨some 9, none, .mv (.t 1)⟩,
    ⟨some 10, none, .bin .lss (.t 9) (.c (.int .i64 0))⟩])
  (.cond (.t 10)
   (.seq (.ops [⟨some 4, none, .mv (.c (.int .i64 (-1)))⟩])
   (.ret))
   (.skip)))
  (.seq (.ops [⟨some 11, none, .mv (.t 1)⟩,
    ⟨some 4, none, .mv (.t 11)⟩])
  (.ret))))⟩
theorem ok66 : FnOK Try.prog 66 v66 := ⟨⟨Try.f66, _, Try.func66, rfl, by kernel_rfl, rfl, by decide, by kernel_rfl, by kernel_rfl⟩⟩

/-- laws.szPutS -/
def v67 : VF := ⟨2, 12, [.t 4], true,
  .seq (.ops [⟨some 4, none, .mv (.c (.int .i64 0))⟩])
  (.seq (.ops [⟨some 5, none, .mv (.t 1)⟩,
    ⟨some 6, none, .mv (.t 0)⟩,
    ⟨some 7, none, .len (.t 6)⟩,
    ⟨some 8, none, .bin .sub (.t 5) (.t 7)⟩,
    ⟨some 1, none, .mv (.t 8)⟩])
  (.seq (.seq (.ops [⟨some 9, none, .mv (.t 1)⟩,
    ⟨some 10, none, .bin .lss (.t 9) (.c (.int .i64 0))⟩])
  (.cond (.t 10)
   (.seq (.ops [⟨some 4, none, .mv (.c (.int .i64 (-1)))⟩])
   (.ret))
   (.skip)))
  (.seq (.ops [⟨some 11, none, .mv (.t 1)⟩,
    ⟨some 4, none, .mv (.t 11)⟩])
  (.ret))))⟩
theorem ok67 : FnOK Try.prog 67 v67 := ⟨⟨Try.f67, _, Try.func67, rfl, by kernel_rfl, rfl, by decide, by kernel_rfl, by kernel_rfl⟩⟩

/-- spec.l1Fault -/
def l68_0 : VC :=
  .seq (.seq (.ops [⟨some 17, none, .mv (.t 3)⟩,
    ⟨some 18, none, .mv (.t 0)⟩,
    ⟨some 19, none, .nilck (.t 18)⟩,
    ⟨some 20, none, .faddr 0 (.t 19)⟩,
    ⟨some 21, none, .load false 1 (.t 20)⟩,
    ⟨some 22, none, .len (.t 21)⟩,
    ⟨some 23, none, .bin .lss (.t 17) (.t 22)⟩])
  (.cond (.t 23)
   (.skip)
   (.exit 0)))
  (.seq (.block 1 (.seq (.ops [⟨some 26, none, .mv (.t 0)⟩,
     ⟨some 27, none, .nilck (.t 26)⟩,
     ⟨some 28, none, .faddr 0 (.t 27)⟩,
     ⟨some 29, none, .load false 1 (.t 28)⟩,
     ⟨some 30, none, .mv (.t 3)⟩,
     ⟨some 31, none, .iaddr 1 (.t 29) (.t 30)⟩,
     ⟨some 32, none, .load false 1 (.t 31)⟩,
     ⟨some 33, none, .call 90 [.t 32]⟩,
     ⟨some 34, none, .not (.t 33)⟩])
   (.cond (.t 34)
    (.seq (.ops [⟨some 2, none, .mv (.c (.int .i64 3))⟩])
    (.ret))
    (.skip))))
  (.ops [⟨some 24, none, .mv (.t 3)⟩,
    ⟨some 25, none, .bin .add (.t 24) (.c (.int .i64 1))⟩,
    ⟨some 3, none, .mv (.t 25)⟩]))
def l68_1 : VC :=
  .seq (.seq (.ops [⟨some 35, none, .mv (.t 4)⟩,
    ⟨some 36, none, .mv (.t 0)⟩,
    ⟨some 37, none, .nilck (.t 36)⟩,
    ⟨some 38, none, .faddr 1 (.t 37)⟩,
    ⟨some 39, none, .load false 1 (.t 38)⟩,
    ⟨some 40, none, .len (.t 39)⟩,
    ⟨some 41, none, .bin .lss (.t 35) (.t 40)⟩])
  (.cond (.t 41)
   (.skip)
   (.exit 2)))
  (.seq (.block 3 (.seq (.ops [⟨some 44, none, .mv (.t 0)⟩,
     ⟨some 45, none, .nilck (.t 44)⟩,
     ⟨some 46, none, .faddr 1 (.t 45)⟩,
     ⟨some 47, none, .load false 1 (.t 46)⟩,
     ⟨some 48, none, .mv (.t 4)⟩,
     ⟨some 49, none, .iaddr 2 (.t 47) (.t 48)⟩,
     ⟨some 50, none, .faddr 0 (.t 49)⟩,
     ⟨some 51, none, .load false 1 (.t 50)⟩,
     ⟨some 52, none, .call 76 [.t 51]⟩,
     ⟨some 53, none, .not (.t 52)⟩,
     ⟨some 54, none, .mv (.t 53)⟩,
     ⟨some 55, some (54, false), .mv (.t 0)⟩,
     ⟨some 56, some (54, false), .nilck (.t 55)⟩,
     ⟨some 57, some (54, false), .faddr 1 (.t 56)⟩,
     ⟨some 58, some (54, false), .load false 1 (.t 57)⟩,
     ⟨some 59, some (54, false), .mv (.t 4)⟩,
     ⟨some 60, some (54, false), .iaddr 2 (.t 58) (.t 59)⟩,
     ⟨some 61, some (54, false), .faddr 1 (.t 60)⟩,
     ⟨some 62, some (54, false), .load false 1 (.t 61)⟩,
     ⟨some 63, some (54, false), .call 90 [.t 62]⟩,
     ⟨some 64, some (54, false), .not (.t 63)⟩,
     ⟨some 65, none, .pick (.t 54) (.c (.bool true)) (.t 64)⟩])
   (.cond (.t 65)
    (.seq (.ops [⟨some 2, none, .mv (.c (.int .i64 3))⟩])
    (.ret))
    (.skip))))
  (.ops [⟨some 42, none, .mv (.t 4)⟩,
    ⟨some 43, none, .bin .add (.t 42) (.c (.int .i64 1))⟩,
    ⟨some 4, none, .mv (.t 43)⟩]))
def v68 : VF := ⟨1, 66, [.t 2], true,
  .seq (.ops [⟨some 2, none, .mv (.c (.int .i64 0))⟩])
  (.seq (.seq (.ops [⟨some 5, none, .mv (.t 0)⟩,
    ⟨some 6, none, .nilck (.t 5)⟩,
    ⟨some 7, none, .faddr 0 (.t 6)⟩,
    ⟨some 8, none, .load false 1 (.t 7)⟩,
    ⟨some 9, none, .len (.t 8)⟩,
    ⟨some 10, none, .bin .neq (.t 9) (.c (.int .i64 64))⟩])
  (.cond (.t 10)
   (.seq (.ops [⟨some 2, none, .mv (.c (.int .i64 1))⟩])
   (.ret))
   (.skip)))
  (.seq (.seq (.ops [⟨some 11, none, .mv (.t 0)⟩,
    ⟨some 12, none, .nilck (.t 11)⟩,
    ⟨some 13, none, .faddr 1 (.t 12)⟩,
    ⟨some 14, none, .load false 1 (.t 13)⟩,
    ⟨some 15, none, .len (.t 14)⟩,
    ⟨some 16, none, .bin .gtr (.t 15) (.c (.int .i64 200))⟩])
  (.cond (.t 16)
   (.seq (.ops [⟨some 2, none, .mv (.c (.int .i64 2))⟩])
   (.ret))
   (.skip)))
  (.seq (.seq (.ops [⟨some 3, none, .mv (.c (.int .i64 0))⟩])
  (.block 0 (.loop [0, 3] [0, 2] l68_0)))
  (.seq (.seq (.ops [⟨some 4, none, .mv (.c (.int .i64 0))⟩])
  (.block 2 (.loop [0, 4] [2] l68_1)))
  (.seq (.ops [⟨some 2, none, .mv (.c (.int .i64 0))⟩])
  (.ret))))))⟩
theorem ok68 : FnOK Try.prog 68 v68 := ⟨⟨Try.f68, _, Try.func68, rfl, by kernel_rfl, rfl, by decide, by kernel_rfl, by kernel_rfl⟩⟩

/-- laws.toPutS -/
def l69_0 : VC :=
  .seq (.seq (.ops [⟨some 8, none, .mv (.t 4)⟩,
    ⟨some 9, none, .mv (.t 0)⟩,
    ⟨some 10, none, .len (.t 9)⟩,
    ⟨some 11, none, .bin .lss (.t 8) (.t 10)⟩])
  (.cond (.t 11)
   (.skip)
   (.exit 0)))
  (.seq (.block 1 (.ops [⟨some 14, none, .mv (.t 3)⟩,
     ⟨some 15, none, .mv (.t 4)⟩,
     ⟨some 16, none, .mv (.t 0)⟩,
     ⟨some 17, none, .mv (.t 4)⟩,
     ⟨some 18, none, .iaddr 2 (.t 16) (.t 17)⟩,
     ⟨some 19, none, .load true 2 (.t 18)⟩,
     ⟨some 20, none, .call 105 [.t 19]⟩,
     ⟨some 21, none, .iaddr 2 (.t 14) (.t 15)⟩,
     ⟨none, none, .store 2 (.t 21) (.t 20)⟩]))
  (.ops [⟨some 12, none, .mv (.t 4)⟩,
    ⟨some 13, none, .bin .add (.t 12) (.c (.int .i64 1))⟩,
    ⟨some 4, none, .mv (.t 13)⟩]))
def v69 : VF := ⟨1, 23, [.t 2], true,
  .seq (.ops [⟨some 2, none, .mv (.c (.slice none 0 0))⟩])
  (.seq (.ops [⟨some 5, none, .mv (.t 0)⟩,
    ⟨some 6, none, .len (.t 5)⟩,
    ⟨some 7, none, .mkslice 2 16 [.int .i64 0, .int .i64 0] (.t 6) (.t 6)⟩,
    ⟨some 3, none, .mv (.t 7)⟩])
  (.seq (.seq (.ops [⟨some 4, none, .mv (.c (.int .i64 0))⟩])
  (.block 0 (.loop [0, 3, 4] [2, 3] l69_0)))
  (.seq (.ops [⟨some 22, none, .mv (.t 3)⟩,
    ⟨some 2, none, .mv (.t 22)⟩])
  (.ret))))⟩
theorem ok69 : FnOK Try.prog 69 v69 := ⟨⟨Try.f69, _, Try.func69, rfl, by kernel_rfl, rfl, by decide, by kernel_rfl, by kernel_rfl⟩⟩

/-- impl.areWords -/
def v70 : VF := ⟨1, 6, [.t 2], true,
  .seq (.ops [⟨some 2, none, .mv (.c (.bool false))⟩])
  (.seq (.ops [⟨some 3, none, .mv (.t 0)⟩,
    ⟨some 4, none, .call 106 [.t 3, .c (.func (.func 107) #[] #[])]⟩,
    ⟨some 5, none, .not (.t 4)⟩,
    ⟨some 2, none, .mv (.t 5)⟩])
  (.ret))⟩
theorem ok70 : FnOK Try.prog 70 v70 := ⟨⟨Try.f70, _, Try.func70, rfl, by kernel_rfl, rfl, by decide, by kernel_rfl, by kernel_rfl⟩⟩

/-- impl.Put] -/
def v71 : VF := ⟨2, 9, [.t 4], true,
  .seq (.ops [⟨some 4, none, .mv (.c (.bool false))⟩])
  (.seq (.ops [⟨some 5, none, .mv (.t 0)⟩,
    ⟨some 6, none, .mv (.t 1)⟩,
    ⟨some 7, none, .call 108 [.t 5, .t 6]⟩,
    ⟨some 8, none, .bin .geq (.t 7) (.c (.int .i64 0))⟩,
    ⟨some 4, none, .mv (.t 8)⟩])
  (.ret))⟩
theorem ok71 : FnOK Try.prog 71 v71 := ⟨⟨Try.f71, _, Try.func71, rfl, by kernel_rfl, rfl, by decide, by kernel_rfl, by kernel_rfl⟩⟩

/-- impl.DiskFault$1 -/
def v72 : VF := ⟨1, 13, [.t 2], true,
  .seq (.ops [⟨some 1, none, .box (.t 0)⟩,
    ⟨some 2, none, .mv (.c (.bool false))⟩])
  (.seq (.ops [⟨some 3, none, .faddr 0 (.t 1)⟩,
    ⟨some 4, none, .load false 1 (.t 3)⟩,
    ⟨some 5, none, .call 73 [.t 4]⟩,
    ⟨some 6, none, .not (.t 5)⟩,
    ⟨some 7, none, .mv (.t 6)⟩,
    ⟨some 8, some (7, false), .faddr 1 (.t 1)⟩,
    ⟨some 9, some (7, false), .load false 1 (.t 8)⟩,
    ⟨some 10, some (7, false), .call 74 [.t 9]⟩,
    ⟨some 11, some (7, false), .not (.t 10)⟩,
    ⟨some 12, none, .pick (.t 7) (.c (.bool true)) (.t 11)⟩,
    ⟨some 2, none, .mv (.t 12)⟩])
  (.ret))⟩
theorem ok72 : FnOK Try.prog 72 v72 := ⟨⟨Try.f72, _, Try.func72, rfl, by kernel_rfl, rfl, by decide, by kernel_rfl, by kernel_rfl⟩⟩

/-- impl.isPlace -/
def v73 : VF := ⟨1, 5, [.t 2], true,
  .seq (.ops [⟨some 2, none, .mv (.c (.bool false))⟩])
  (.seq (.ops [⟨some 3, none, .mv (.t 0)⟩,
    ⟨some 4, none, .call 104 [.t 3, .c (.int .i64 0), .c (.int .i64 63)]⟩,
    ⟨some 2, none, .mv (.t 4)⟩])
  (.ret))⟩
theorem ok73 : FnOK Try.prog 73 v73 := ⟨⟨Try.f73, _, Try.func73, rfl, by kernel_rfl, rfl, by decide, by kernel_rfl, by kernel_rfl⟩⟩

/-- impl.isWord -/
def v74 : VF := ⟨1, 5, [.t 2], true,
  .seq (.ops [⟨some 2, none, .mv (.c (.bool false))⟩])
  (.seq (.ops [⟨some 3, none, .mv (.t 0)⟩,
    ⟨some 4, none, .call 104 [.t 3, .c (.int .i64 0), .c (.int .i64 65535)]⟩,
    ⟨some 2, none, .mv (.t 4)⟩])
  (.ret))⟩
theorem ok74 : FnOK Try.prog 74 v74 := ⟨⟨Try.f74, _, Try.func74, rfl, by kernel_rfl, rfl, by decide, by kernel_rfl, by kernel_rfl⟩⟩

/-- laws.eqPutS -/
def l75_0 : VC :=
  .seq (.seq (.ops [⟨some 11, none, .mv (.t 5)⟩,
    ⟨some 12, none, .mv (.t 0)⟩,
    ⟨some 13, none, .len (.t 12)⟩,
    ⟨some 14, none, .bin .lss (.t 11) (.t 13)⟩])
  (.cond (.t 14)
   (.skip)
   (.exit 0)))
  (.seq (.block 1 (.seq (.draw [⟨some 17, none, .mv (.t 0)⟩,
     ⟨some 18, none, .mv (.t 5)⟩,
     ⟨some 19, none, .iaddr 2 (.t 17) (.t 18)⟩,
     ⟨some 20, none, .load true 2 (.t 19)⟩,
     ⟨some 21, none, .mv (.t 1)⟩,
     ⟨some 22, none, .mv (.t 5)⟩,
     ⟨some 23, none, .iaddr 2 (.t 21) (.t 22)⟩,
     ⟨some 24, none, .load true 2 (.t 23)⟩] [⟨some 25, none, .call 109 [.t 20, .t 24]⟩,
     ⟨some 26, none, .not (.t 25)⟩])
   (.cond (.t 26)
    (.seq (.ops [⟨some 4, none, .mv (.c (.bool false))⟩])
    (.ret))
    (.skip))))
  (.ops [⟨some 15, none, .mv (.t 5)⟩,
    ⟨some 16, none, .bin .add (.t 15) (.c (.int .i64 1))⟩,
    ⟨some 5, none, .mv (.t 16)⟩]))
def v75 : VF := ⟨2, 27, [.t 4], true,
  .seq (.ops [⟨some 4, none, .mv (.c (.bool false))⟩])
  (.seq (.seq (.ops [⟨some 6, none, .mv (.t 0)⟩,
    ⟨some 7, none, .len (.t 6)⟩,
    ⟨some 8, none, .mv (.t 1)⟩,
    ⟨some 9, none, .len (.t 8)⟩,
    ⟨some 10, none, .bin .neq (.t 7) (.t 9)⟩])
  (.cond (.t 10)
   (.seq (.ops [⟨some 4, none, .mv (.c (.bool false))⟩])
   (.ret))
   (.skip)))
  (.seq (.seq (.ops [⟨some 5, none, .mv (.c (.int .i64 0))⟩])
  (.block 0 (.loop [0, 1, 5] [4] l75_0)))
  (.seq (.ops [⟨some 4, none, .mv (.c (.bool true))⟩])
  (.ret))))⟩
theorem ok75 : FnOK Try.prog 75 v75 := ⟨⟨Try.f75, _, Try.func75, rfl, by kernel_rfl, rfl, by decide, by kernel_rfl, by kernel_rfl⟩⟩

/-- spec.l1Place -/
def v76 : VF := ⟨1, 5, [.t 2], true,
  .seq (.ops [⟨some 2, none, .mv (.c (.bool false))⟩])
  (.seq (.ops [⟨some 3, none, .mv (.t 0)⟩,
    ⟨some 4, none, .call 110 [.t 3, .c (.int .i64 0), .c (.int .i64 63)]⟩,
    ⟨some 2, none, .mv (.t 4)⟩])
  (.ret))⟩
theorem ok76 : FnOK Try.prog 76 v76 := ⟨⟨Try.f76, _, Try.func76, rfl, by kernel_rfl, rfl, by decide, by kernel_rfl, by kernel_rfl⟩⟩

/-- spec.l1At -/
def l77_0 : VC :=
  .seq (.seq (.ops [⟨some 12, none, .mv (.t 5)⟩,
    ⟨some 13, none, .bin .geq (.t 12) (.c (.int .i64 0))⟩])
  (.cond (.t 13)
   (.skip)
   (.exit 0)))
  (.seq (.block 1 (.seq (.ops [⟨some 16, none, .mv (.t 0)⟩,
     ⟨some 17, none, .nilck (.t 16)⟩,
     ⟨some 18, none, .faddr 1 (.t 17)⟩,
     ⟨some 19, none, .load false 1 (.t 18)⟩,
     ⟨some 20, none, .mv (.t 5)⟩,
     ⟨some 21, none, .iaddr 2 (.t 19) (.t 20)⟩,
     ⟨some 22, none, .faddr 0 (.t 21)⟩,
     ⟨some 23, none, .load false 1 (.t 22)⟩,
     ⟨some 24, none, .mv (.t 1)⟩,
     ⟨some 25, none, .bin .eql (.t 23) (.t 24)⟩])
   (.cond (.t 25)
    (.seq (.ops [⟨some 26, none, .mv (.t 0)⟩,
      ⟨some 27, none, .nilck (.t 26)⟩,
      ⟨some 28, none, .faddr 1 (.t 27)⟩,
      ⟨some 29, none, .load false 1 (.t 28)⟩,
      ⟨some 30, none, .mv (.t 5)⟩,
      ⟨some 31, none, .iaddr 2 (.t 29) (.t 30)⟩,
      ⟨some 32, none, .faddr 1 (.t 31)⟩,
      ⟨some 33, none, .load false 1 (.t 32)⟩,
      ⟨some 4, none, .mv (.t 33)⟩])
    (.ret))
    (.skip))))
  (.ops [⟨some 14, none, .mv (.t 5)⟩,
    ⟨some 15, none, .bin .sub (.t 14) (.c (.int .i64 1))⟩,
    ⟨some 5, none, .mv (.t 15)⟩]))
def v77 : VF := ⟨2, 41, [.t 4], true,
  .seq (.ops [⟨some 4, none, .mv (.c (.int .i64 0))⟩])
  (.seq (.seq (.ops [⟨some 6, none, .mv (.t 0)⟩,
    ⟨some 7, none, .nilck (.t 6)⟩,
    ⟨some 8, none, .faddr 1 (.t 7)⟩,
    ⟨some 9, none, .load false 1 (.t 8)⟩,
    ⟨some 10, none, .len (.t 9)⟩,
    ⟨some 11, none, .bin .sub (.t 10) (.c (.int .i64 1))⟩,
    ⟨some 5, none, .mv (.t 11)⟩])
  (.block 0 (.loop [0, 1, 5] [0, 1, 4] l77_0)))
  (.seq (.ops [⟨some 34, none, .mv (.t 0)⟩,
    ⟨some 35, none, .nilck (.t 34)⟩,
    ⟨some 36, none, .faddr 0 (.t 35)⟩,
    ⟨some 37, none, .load false 1 (.t 36)⟩,
    ⟨some 38, none, .mv (.t 1)⟩,
    ⟨some 39, none, .iaddr 1 (.t 37) (.t 38)⟩,
    ⟨some 40, none, .load false 1 (.t 39)⟩,
    ⟨some 4, none, .mv (.t 40)⟩])
  (.ret)))⟩
theorem ok77 : FnOK Try.prog 77 v77 := ⟨⟨Try.f77, _, Try.func77, rfl, by kernel_rfl, rfl, by decide, by kernel_rfl, by kernel_rfl⟩⟩

/-- impl.flushed -/
def l79_0 : VC :=
  .seq (.ops [⟨some 13, none, .bin .lss (.t 12) (.t 11)⟩])
  (.seq (.cond (.t 13)
   (.skip)
   (.exit 0))
  (.seq (.block 1 (.seq (.ops [⟨some 14, none, .iaddr 2 (.t 10) (.t 12)⟩,
     ⟨some 15, none, .load true 2 (.t 14)⟩,
     ⟨some 5, none, .new [.int .i64 0, .int .i64 0]⟩,
     ⟨none, none, .store 2 (.t 5) (.t 15)⟩])
   (.ops [⟨some 16, none, .mv (.t 3)⟩,
     ⟨some 17, none, .faddr 0 (.t 5)⟩,
     ⟨some 18, none, .load false 1 (.t 17)⟩,
     ⟨some 19, none, .faddr 1 (.t 5)⟩,
     ⟨some 20, none, .load false 1 (.t 19)⟩,
     ⟨some 21, none, .iaddr 1 (.t 16) (.t 18)⟩,
     ⟨none, none, .store 1 (.t 21) (.t 20)⟩])))
  (.ops [⟨some 22, none, .bin .add (.t 12) (.c (.int .i64 1))⟩,
    ⟨some 12, none, .mv (.t 22)⟩])))
def v79 : VF := ⟨1, 24, [.t 2], true,
  .seq (.ops [⟨some 1, none, .box (.t 0)⟩,
    ⟨some 2, none, .mv (.c (.slice none 0 0))⟩])
  (.seq (.ops [⟨some 6, none, .faddr 0 (.t 1)⟩,
    ⟨some 7, none, .load false 1 (.t 6)⟩,
    ⟨some 8, none, .call 111 [.t 7]⟩,
    ⟨some 3, none, .mv (.t 8)⟩])
  (.seq (.seq (.ops [⟨some 9, none, .faddr 1 (.t 1)⟩,
    ⟨some 10, none, .load false 1 (.t 9)⟩,
    ⟨some 11, none, .len (.t 10)⟩,
    ⟨some 12, none, .mv (.c (.int .i64 0))⟩])
  (.block 0 (.loop [3, 10, 11, 12] [2, 3] l79_0)))
  (.seq (.ops [⟨some 23, none, .mv (.t 3)⟩,
    ⟨some 2, none, .mv (.t 23)⟩])
  (.ret))))⟩
theorem ok79 : FnOK Try.prog 79 v79 := ⟨⟨Try.f79, _, Try.func79, rfl, by kernel_rfl, rfl, by decide, by kernel_rfl, by kernel_rfl⟩⟩

/-- spec.l1All -/
def l87_0 : VC :=
  .seq (.seq (.ops [⟨some 6, none, .mv (.t 4)⟩,
    ⟨some 7, none, .bin .lss (.t 6) (.c (.int .i64 64))⟩])
  (.cond (.t 7)
   (.skip)
   (.exit 0)))
  (.seq (.block 1 (.ops [⟨some 10, none, .mv (.t 3)⟩,
     ⟨some 11, none, .mv (.t 0)⟩,
     ⟨some 12, none, .mv (.t 4)⟩,
     ⟨some 13, none, .call 77 [.t 11, .t 12]⟩,
     ⟨some 14, none, .bslice 1 [.int .i64 0] 1 [(0, 1, .t 13)]⟩,
     ⟨some 15, none, .append 1 8 (.t 10) (.t 14)⟩,
     ⟨some 3, none, .mv (.t 15)⟩]))
  (.ops [⟨some 8, none, .mv (.t 4)⟩,
    ⟨some 9, none, .bin .add (.t 8) (.c (.int .i64 1))⟩,
    ⟨some 4, none, .mv (.t 9)⟩]))
def v87 : VF := ⟨1, 17, [.t 2], true,
  .seq (.ops [⟨some 2, none, .mv (.c (.slice none 0 0))⟩])
  (.seq (.ops [⟨some 5, none, .bslice 1 [] 0 []⟩,
    ⟨some 3, none, .mv (.t 5)⟩])
  (.seq (.seq (.ops [⟨some 4, none, .mv (.c (.int .i64 0))⟩])
  (.block 0 (.loop [0, 3, 4] [2, 3] l87_0)))
  (.seq (.ops [⟨some 16, none, .mv (.t 3)⟩,
    ⟨some 2, none, .mv (.t 16)⟩])
  (.ret))))⟩
theorem ok87 : FnOK Try.prog 87 v87 := ⟨⟨Try.f87, _, Try.func87, rfl, by kernel_rfl, rfl, by decide, by kernel_rfl, by kernel_rfl⟩⟩

/-- laws.markPutS -/
def l88_0 : VC :=
  .seq (.seq (.ops [⟨some 6, none, .mv (.t 5)⟩,
    ⟨some 7, none, .mv (.t 0)⟩,
    ⟨some 8, none, .len (.t 7)⟩,
    ⟨some 9, none, .bin .lss (.t 6) (.t 8)⟩])
  (.cond (.t 9)
   (.skip)
   (.exit 0)))
  (.seq (.block 1 (.seq (.ops [⟨some 12, none, .mv (.t 0)⟩,
     ⟨some 13, none, .mv (.t 5)⟩,
     ⟨some 14, none, .mv (.t 1)⟩,
     ⟨some 15, none, .iaddr 2 (.t 12) (.t 13)⟩,
     ⟨some 16, none, .faddr 0 (.t 15)⟩,
     ⟨none, none, .store 1 (.t 16) (.t 14)⟩])
   (.seq (.ops [⟨some 17, none, .mv (.t 1)⟩,
     ⟨some 18, none, .bin .add (.t 17) (.c (.int .i64 1))⟩,
     ⟨some 1, none, .mv (.t 18)⟩])
   (.seq (.ops [⟨some 19, none, .mv (.t 0)⟩,
     ⟨some 20, none, .mv (.t 5)⟩,
     ⟨some 21, none, .mv (.t 1)⟩,
     ⟨some 22, none, .iaddr 2 (.t 19) (.t 20)⟩,
     ⟨some 23, none, .faddr 1 (.t 22)⟩,
     ⟨none, none, .store 1 (.t 23) (.t 21)⟩])
   (.ops [⟨some 24, none, .mv (.t 1)⟩,
     ⟨some 25, none, .bin .add (.t 24) (.c (.int .i64 1))⟩,
     ⟨some 1, none, .mv (.t 25)⟩])))))
  (.ops [⟨some 10, none, .mv (.t 5)⟩,
    ⟨some 11, none, .bin .add (.t 10) (.c (.int .i64 1))⟩,
    ⟨some 5, none, .mv (.t 11)⟩]))
def v88 : VF := ⟨2, 27, [.t 4], false,
  .seq (.ops [⟨some 4, none, .mv (.c (.int .i64 0))⟩])
  (.seq (.seq (.ops [⟨some 5, none, .mv (.c (.int .i64 0))⟩])
  (.block 0 (.loop [0, 1, 5] [1, 4] l88_0)))
  (.seq (.ops [⟨some 26, none, .mv (.t 1)⟩,
    ⟨some 4, none, .mv (.t 26)⟩])
  (.ret)))⟩
theorem ok88 : FnOK Try.prog 88 v88 := ⟨⟨Try.f88, _, Try.func88, rfl, by kernel_rfl, rfl, by decide, by kernel_rfl, by kernel_rfl⟩⟩

/-- laws.heldInt64S -/
def l89_0 : VC :=
  .seq (.seq (.ops [⟨some 6, none, .mv (.t 5)⟩,
    ⟨some 7, none, .mv (.t 0)⟩,
    ⟨some 8, none, .len (.t 7)⟩,
    ⟨some 9, none, .bin .lss (.t 6) (.t 8)⟩])
  (.cond (.t 9)
   (.skip)
   (.exit 0)))
  (.seq (.block 1 (.seq (.seq (.ops [⟨some 12, none, .mv (.t 0)⟩,
     ⟨some 13, none, .mv (.t 5)⟩,
     ⟨some 14, none, .iaddr 1 (.t 12) (.t 13)⟩,
     ⟨some 15, none, .load false 1 (.t 14)⟩,
     ⟨some 16, none, .mv (.t 1)⟩,
     ⟨some 17, none, .bin .neq (.t 15) (.t 16)⟩])
   (.cond (.t 17)
    (.seq (.ops [⟨some 4, none, .mv (.c (.int .i64 (-1)))⟩])
    (.ret))
    (.skip)))
   (.ops [⟨some 18, none, .mv (.t 1)⟩,
     ⟨some 19, none, .bin .add (.t 18) (.c (.int .i64 1))⟩,
     ⟨some 1, none, .mv (.t 19)⟩])))
  (.ops [⟨some 10, none, .mv (.t 5)⟩,
    ⟨some 11, none, .bin .add (.t 10) (.c (.int .i64 1))⟩,
    ⟨some 5, none, .mv (.t 11)⟩]))
def v89 : VF := ⟨2, 21, [.t 4], true,
  .seq (.ops [⟨some 4, none, .mv (.c (.int .i64 0))⟩])
  (.seq (.seq (.ops [⟨some 5, none, .mv (.c (.int .i64 0))⟩])
  (.block 0 (.loop [0, 1, 5] [1, 4] l89_0)))
  (.seq (.ops [⟨some 20, none, .mv (.t 1)⟩,
    ⟨some 4, none, .mv (.t 20)⟩])
  (.ret)))⟩
theorem ok89 : FnOK Try.prog 89 v89 := ⟨⟨Try.f89, _, Try.func89, rfl, by kernel_rfl, rfl, by decide, by kernel_rfl, by kernel_rfl⟩⟩

/-- spec.l1Word -/
def v90 : VF := ⟨1, 5, [.t 2], true,
  .seq (.ops [⟨some 2, none, .mv (.c (.bool false))⟩])
  (.seq (.ops [⟨some 3, none, .mv (.t 0)⟩,
    ⟨some 4, none, .call 110 [.t 3, .c (.int .i64 0), .c (.int .i64 65535)]⟩,
    ⟨some 2, none, .mv (.t 4)⟩])
  (.ret))⟩
theorem ok90 : FnOK Try.prog 90 v90 := ⟨⟨Try.f90, _, Try.func90, rfl, by kernel_rfl, rfl, by decide, by kernel_rfl, by kernel_rfl⟩⟩

/-- spec.l2Scan -/
def l92_0 : VC :=
  .seq (.seq (.ops [⟨some 9, none, .mv (.t 5)⟩,
    ⟨some 10, none, .bin .add (.t 9) (.c (.int .i64 2))⟩,
    ⟨some 11, none, .mv (.t 0)⟩,
    ⟨some 12, none, .len (.t 11)⟩,
    ⟨some 13, none, .bin .lss (.t 10) (.t 12)⟩])
  (.cond (.t 13)
   (.skip)
   (.exit 0)))
  (.block 1 (.seq (.ops [⟨some 14, none, .mv (.t 0)⟩,
     ⟨some 15, none, .mv (.t 5)⟩,
     ⟨some 16, none, .iaddr 1 (.t 14) (.t 15)⟩,
     ⟨some 17, none, .load false 1 (.t 16)⟩,
     ⟨some 6, none, .mv (.t 17)⟩])
   (.seq (.seq (.ops [⟨some 18, none, .mv (.t 6)⟩,
     ⟨some 19, none, .call 110 [.t 18, .c (.int .i64 1), .c (.int .i64 8)]⟩,
     ⟨some 20, none, .not (.t 19)⟩,
     ⟨some 21, none, .mv (.t 20)⟩,
     ⟨some 22, some (21, false), .mv (.t 5)⟩,
     ⟨some 23, some (21, false), .bin .add (.t 22) (.c (.int .i64 2))⟩,
     ⟨some 24, some (21, false), .mv (.t 6)⟩,
     ⟨some 25, some (21, false), .bin .add (.t 23) (.t 24)⟩,
     ⟨some 26, some (21, false), .mv (.t 0)⟩,
     ⟨some 27, some (21, false), .len (.t 26)⟩,
     ⟨some 28, some (21, false), .bin .gtr (.t 25) (.t 27)⟩,
     ⟨some 29, none, .pick (.t 21) (.c (.bool true)) (.t 28)⟩])
   (.cond (.t 29)
    (.seq (.ops [⟨some 30, none, .mv (.t 4)⟩,
      ⟨some 31, none, .mv (.t 5)⟩,
      ⟨some 2, none, .mv (.t 30)⟩,
      ⟨some 3, none, .mv (.t 31)⟩])
    (.ret))
    (.skip)))
   (.seq (.ops [⟨some 32, none, .bslice 1 [] 0 []⟩,
     ⟨some 33, none, .mv (.t 0)⟩,
     ⟨some 34, none, .mv (.t 5)⟩,
     ⟨some 35, none, .bin .add (.t 34) (.c (.int .i64 2))⟩,
     ⟨some 36, none, .mv (.t 5)⟩,
     ⟨some 37, none, .bin .add (.t 36) (.c (.int .i64 2))⟩,
     ⟨some 38, none, .mv (.t 6)⟩,
     ⟨some 39, none, .bin .add (.t 37) (.t 38)⟩,
     ⟨some 40, none, .slice 1 (.t 33) (some (.t 35)) (some (.t 39)) none⟩,
     ⟨some 41, none, .append 1 8 (.t 32) (.t 40)⟩,
     ⟨some 7, none, .mv (.t 41)⟩])
   (.seq (.seq (.draw [⟨some 42, none, .mv (.t 0)⟩,
     ⟨some 43, none, .mv (.t 5)⟩,
     ⟨some 44, none, .bin .add (.t 43) (.c (.int .i64 1))⟩,
     ⟨some 45, none, .iaddr 1 (.t 42) (.t 44)⟩,
     ⟨some 46, none, .load false 1 (.t 45)⟩,
     ⟨some 47, none, .mv (.t 4)⟩,
     ⟨some 48, none, .len (.t 47)⟩,
     ⟨some 49, none, .mv (.t 7)⟩,
     ⟨some 50, none, .call 99 [.t 48, .t 49]⟩] [⟨some 51, none, .bin .neq (.t 46) (.t 50)⟩])
   (.cond (.t 51)
    (.seq (.ops [⟨some 52, none, .mv (.t 4)⟩,
      ⟨some 53, none, .mv (.t 5)⟩,
      ⟨some 2, none, .mv (.t 52)⟩,
      ⟨some 3, none, .mv (.t 53)⟩])
    (.ret))
    (.skip)))
   (.seq (.ops [⟨some 54, none, .mv (.t 4)⟩,
     ⟨some 55, none, .mv (.t 7)⟩,
     ⟨some 56, none, .bslice 1 [.slice none 0 0] 1 [(0, 1, .t 55)]⟩,
     ⟨some 57, none, .append 1 24 (.t 54) (.t 56)⟩,
     ⟨some 4, none, .mv (.t 57)⟩])
   (.ops [⟨some 58, none, .mv (.t 5)⟩,
     ⟨some 59, none, .bin .add (.t 58) (.c (.int .i64 2))⟩,
     ⟨some 60, none, .mv (.t 6)⟩,
     ⟨some 61, none, .bin .add (.t 59) (.t 60)⟩,
     ⟨some 5, none, .mv (.t 61)⟩])))))))
def v92 : VF := ⟨1, 64, [.t 2, .t 3], true,
  .seq (.ops [⟨some 2, none, .mv (.c (.slice none 0 0))⟩,
    ⟨some 3, none, .mv (.c (.int .i64 0))⟩])
  (.seq (.ops [⟨some 8, none, .bslice 1 [] 0 []⟩,
    ⟨some 4, none, .mv (.t 8)⟩])
  (.seq (.ops [⟨some 5, none, .mv (.c (.int .i64 0))⟩])
  (.seq (.block 0 (.loop [0, 4, 5] [2, 3, 4, 5] l92_0))
  (.seq (.ops [⟨some 62, none, .mv (.t 4)⟩,
    ⟨some 63, none, .mv (.t 5)⟩,
    ⟨some 2, none, .mv (.t 62)⟩,
    ⟨some 3, none, .mv (.t 63)⟩])
  (.ret)))))⟩
theorem ok92 : FnOK Try.prog 92 v92 := ⟨⟨Try.f92, _, Try.func92, rfl, by kernel_rfl, rfl, by decide, by kernel_rfl, by kernel_rfl⟩⟩

/-- impl.scan -/
def l94_0 : VC :=
  .seq (.seq (.ops [⟨some 13, none, .mv (.t 6)⟩,
    ⟨some 14, none, .bin .lss (.t 13) (.c (.int .i64 64))⟩])
  (.cond (.t 14)
   (.skip)
   (.exit 0)))
  (.block 1 (.seq (.ops [⟨some 15, none, .mv (.t 5)⟩,
     ⟨some 16, none, .mv (.t 6)⟩,
     ⟨some 17, none, .iaddr 1 (.t 15) (.t 16)⟩,
     ⟨some 18, none, .load false 1 (.t 17)⟩,
     ⟨some 7, none, .mv (.t 18)⟩])
   (.seq (.seq (.ops [⟨some 19, none, .mv (.t 7)⟩,
     ⟨some 20, none, .call 104 [.t 19, .c (.int .i64 1), .c (.int .i64 8)]⟩,
     ⟨some 21, none, .not (.t 20)⟩,
     ⟨some 22, none, .mv (.t 21)⟩,
     ⟨some 23, some (22, false), .mv (.t 7)⟩,
     ⟨some 24, some (22, false), .mv (.t 6)⟩,
     ⟨some 25, some (22, false), .bin .sub (.c (.int .i64 64)) (.t 24)⟩,
     ⟨some 26, some (22, false), .bin .sub (.t 25) (.c (.int .i64 2))⟩,
     ⟨some 27, some (22, false), .bin .gtr (.t 23) (.t 26)⟩,
     ⟨some 28, none, .pick (.t 22) (.c (.bool true)) (.t 27)⟩])
   (.cond (.t 28)
    (.exit 0)
    (.skip)))
   (.seq (.ops [⟨some 29, none, .mv (.t 6)⟩,
     ⟨some 30, none, .bin .add (.t 29) (.c (.int .i64 2))⟩,
     ⟨some 31, none, .mv (.t 7)⟩,
     ⟨some 32, none, .bin .add (.t 30) (.t 31)⟩,
     ⟨some 8, none, .mv (.t 32)⟩])
   (.seq (.ops [⟨some 33, none, .mv (.t 5)⟩,
     ⟨some 34, none, .mv (.t 6)⟩,
     ⟨some 35, none, .bin .add (.t 34) (.c (.int .i64 2))⟩,
     ⟨some 36, none, .mv (.t 8)⟩,
     ⟨some 37, none, .slice 1 (.t 33) (some (.t 35)) (some (.t 36)) none⟩,
     ⟨some 9, none, .mv (.t 37)⟩])
   (.seq (.seq (.draw [⟨some 38, none, .mv (.t 4)⟩,
     ⟨some 39, none, .len (.t 38)⟩,
     ⟨some 40, none, .mv (.t 9)⟩,
     ⟨some 41, none, .call 100 [.t 39, .t 40]⟩,
     ⟨some 42, none, .mv (.t 5)⟩,
     ⟨some 43, none, .mv (.t 6)⟩,
     ⟨some 44, none, .mv (.t 8)⟩,
     ⟨some 45, none, .slice 1 (.t 42) (some (.t 43)) (some (.t 44)) none⟩] [⟨some 46, none, .call 117 [.t 41, .t 45]⟩,
     ⟨some 47, none, .not (.t 46)⟩])
   (.cond (.t 47)
    (.exit 0)
    (.skip)))
   (.ops [⟨some 48, none, .mv (.t 4)⟩,
     ⟨some 49, none, .mv (.t 9)⟩,
     ⟨some 50, none, .call 111 [.t 49]⟩,
     ⟨some 51, none, .bslice 1 [.slice none 0 0] 1 [(0, 1, .t 50)]⟩,
     ⟨some 52, none, .append 1 24 (.t 48) (.t 51)⟩,
     ⟨some 53, none, .mv (.t 8)⟩,
     ⟨some 4, none, .mv (.t 52)⟩,
     ⟨some 6, none, .mv (.t 53)⟩])))))))
def v94 : VF := ⟨1, 56, [.t 2, .t 3], true,
  .seq (.ops [⟨some 1, none, .box (.t 0)⟩,
    ⟨some 2, none, .mv (.c (.slice none 0 0))⟩,
    ⟨some 3, none, .mv (.c (.int .i64 0))⟩])
  (.seq (.ops [⟨some 10, none, .bslice 1 [] 0 []⟩,
    ⟨some 11, none, .load true 2 (.t 1)⟩,
    ⟨some 12, none, .call 79 [.t 11]⟩,
    ⟨some 4, none, .mv (.t 10)⟩,
    ⟨some 5, none, .mv (.t 12)⟩,
    ⟨some 6, none, .mv (.c (.int .i64 0))⟩])
  (.seq (.block 0 (.loop [4, 5, 6] [2, 3, 4, 6] l94_0))
  (.seq (.ops [⟨some 54, none, .mv (.t 4)⟩,
    ⟨some 55, none, .mv (.t 6)⟩,
    ⟨some 2, none, .mv (.t 54)⟩,
    ⟨some 3, none, .mv (.t 55)⟩])
  (.ret))))⟩
theorem ok94 : FnOK Try.prog 94 v94 := ⟨⟨Try.f94, _, Try.func94, rfl, by kernel_rfl, rfl, by decide, by kernel_rfl, by kernel_rfl⟩⟩

/-- laws.eqInt64SS -/
def l95_0 : VC :=
  .seq (.seq (.ops [⟨some 11, none, .mv (.t 5)⟩,
    ⟨some 12, none, .mv (.t 0)⟩,
    ⟨some 13, none, .len (.t 12)⟩,
    ⟨some 14, none, .bin .lss (.t 11) (.t 13)⟩])
  (.cond (.t 14)
   (.skip)
   (.exit 0)))
  (.seq (.block 1 (.seq (.draw [⟨some 17, none, .mv (.t 0)⟩,
     ⟨some 18, none, .mv (.t 5)⟩,
     ⟨some 19, none, .iaddr 1 (.t 17) (.t 18)⟩,
     ⟨some 20, none, .load false 1 (.t 19)⟩,
     ⟨some 21, none, .mv (.t 1)⟩,
     ⟨some 22, none, .mv (.t 5)⟩,
     ⟨some 23, none, .iaddr 1 (.t 21) (.t 22)⟩,
     ⟨some 24, none, .load false 1 (.t 23)⟩] [⟨some 25, none, .call 35 [.t 20, .t 24]⟩,
     ⟨some 26, none, .not (.t 25)⟩])
   (.cond (.t 26)
    (.seq (.ops [⟨some 4, none, .mv (.c (.bool false))⟩])
    (.ret))
    (.skip))))
  (.ops [⟨some 15, none, .mv (.t 5)⟩,
    ⟨some 16, none, .bin .add (.t 15) (.c (.int .i64 1))⟩,
    ⟨some 5, none, .mv (.t 16)⟩]))
def v95 : VF := ⟨2, 27, [.t 4], true,
  .seq (.ops [⟨some 4, none, .mv (.c (.bool false))⟩])
  (.seq (.seq (.ops [⟨some 6, none, .mv (.t 0)⟩,
    ⟨some 7, none, .len (.t 6)⟩,
    ⟨some 8, none, .mv (.t 1)⟩,
    ⟨some 9, none, .len (.t 8)⟩,
    ⟨some 10, none, .bin .neq (.t 7) (.t 9)⟩])
  (.cond (.t 10)
   (.seq (.ops [⟨some 4, none, .mv (.c (.bool false))⟩])
   (.ret))
   (.skip)))
  (.seq (.seq (.ops [⟨some 5, none, .mv (.c (.int .i64 0))⟩])
  (.block 0 (.loop [0, 1, 5] [4] l95_0)))
  (.seq (.ops [⟨some 4, none, .mv (.c (.bool true))⟩])
  (.ret))))⟩
theorem ok95 : FnOK Try.prog 95 v95 := ⟨⟨Try.f95, _, Try.func95, rfl, by kernel_rfl, rfl, by decide, by kernel_rfl, by kernel_rfl⟩⟩

/-- laws.markInt64SS -/
def l96_0 : VC :=
  .seq (.seq (.ops [⟨some 6, none, .mv (.t 5)⟩,
    ⟨some 7, none, .mv (.t 0)⟩,
    ⟨some 8, none, .len (.t 7)⟩,
    ⟨some 9, none, .bin .lss (.t 6) (.t 8)⟩])
  (.cond (.t 9)
   (.skip)
   (.exit 0)))
  (.seq (.block 1 (.ops [⟨some 12, none, .mv (.t 0)⟩,
     ⟨some 13, none, .mv (.t 5)⟩,
     ⟨some 14, none, .iaddr 1 (.t 12) (.t 13)⟩,
     ⟨some 15, none, .load false 1 (.t 14)⟩,
     ⟨some 16, none, .mv (.t 1)⟩,
     ⟨some 17, none, .call 36 [.t 15, .t 16]⟩,
     ⟨some 1, none, .mv (.t 17)⟩]))
  (.ops [⟨some 10, none, .mv (.t 5)⟩,
    ⟨some 11, none, .bin .add (.t 10) (.c (.int .i64 1))⟩,
    ⟨some 5, none, .mv (.t 11)⟩]))
def v96 : VF := ⟨2, 19, [.t 4], false,
  .seq (.ops [⟨some 4, none, .mv (.c (.int .i64 0))⟩])
  (.seq (.seq (.ops [⟨some 5, none, .mv (.c (.int .i64 0))⟩])
  (.block 0 (.loop [0, 1, 5] [1, 4] l96_0)))
  (.seq (.ops [⟨some 18, none, .mv (.t 1)⟩,
    ⟨some 4, none, .mv (.t 18)⟩])
  (.ret)))⟩
theorem ok96 : FnOK Try.prog 96 v96 := ⟨⟨Try.f96, _, Try.func96, rfl, by kernel_rfl, rfl, by decide, by kernel_rfl, by kernel_rfl⟩⟩

/-- laws.heldInt64SS -/
def l97_0 : VC :=
  .seq (.seq (.ops [⟨some 6, none, .mv (.t 5)⟩,
    ⟨some 7, none, .mv (.t 0)⟩,
    ⟨some 8, none, .len (.t 7)⟩,
    ⟨some 9, none, .bin .lss (.t 6) (.t 8)⟩])
  (.cond (.t 9)
   (.skip)
   (.exit 0)))
  (.seq (.block 1 (.seq (.ops [⟨some 12, none, .mv (.t 0)⟩,
     ⟨some 13, none, .mv (.t 5)⟩,
     ⟨some 14, none, .iaddr 1 (.t 12) (.t 13)⟩,
     ⟨some 15, none, .load false 1 (.t 14)⟩,
     ⟨some 16, none, .mv (.t 1)⟩,
     ⟨some 17, none, .call 89 [.t 15, .t 16]⟩,
     ⟨some 1, none, .mv (.t 17)⟩])
   (.seq (.ops [⟨some 18, none, .mv (.t 1)⟩,
     ⟨some 19, none, .bin .lss (.t 18) (.c (.int .i64 0))⟩])
   (.cond (.t 19)
    (.seq (.ops [⟨some 4, none, .mv (.c (.int .i64 (-1)))⟩])
    (.ret))
    (.skip)))))
  (.ops [⟨some 10, none, .mv (.t 5)⟩,
    ⟨some 11, none, .bin .add (.t 10) (.c (.int .i64 1))⟩,
    ⟨some 5, none, .mv (.t 11)⟩]))
def v97 : VF := ⟨2, 21, [.t 4], true,
  .seq (.ops [⟨some 4, none, .mv (.c (.int .i64 0))⟩])
  (.seq (.seq (.ops [⟨some 5, none, .mv (.c (.int .i64 0))⟩])
  (.block 0 (.loop [0, 1, 5] [1, 4] l97_0)))
  (.seq (.ops [⟨some 20, none, .mv (.t 1)⟩,
    ⟨some 4, none, .mv (.t 20)⟩])
  (.ret)))⟩
theorem ok97 : FnOK Try.prog 97 v97 := ⟨⟨Try.f97, _, Try.func97, rfl, by kernel_rfl, rfl, by decide, by kernel_rfl, by kernel_rfl⟩⟩

/-- spec.l2Sum -/
def v99 : VF := ⟨2, 10, [.t 4], true,
  .seq (.ops [⟨some 4, none, .mv (.c (.int .i64 0))⟩])
  (.seq (.ops [⟨some 5, none, .mv (.t 0)⟩,
    ⟨some 6, none, .bslice 1 [.int .i64 0] 1 [(0, 1, .t 5)]⟩,
    ⟨some 7, none, .mv (.t 1)⟩,
    ⟨some 8, none, .append 1 8 (.t 6) (.t 7)⟩,
    ⟨some 9, none, .call 65 [.t 8]⟩,
    ⟨some 4, none, .mv (.t 9)⟩])
  (.ret))⟩
theorem ok99 : FnOK Try.prog 99 v99 := ⟨⟨Try.f99, _, Try.func99, rfl, by kernel_rfl, rfl, by decide, by kernel_rfl, by kernel_rfl⟩⟩

/-- impl.stands -/
def v100 : VF := ⟨2, 17, [.t 4], true,
  .seq (.ops [⟨some 4, none, .mv (.c (.slice none 0 0))⟩])
  (.seq (.ops [⟨some 6, none, .mv (.t 0)⟩,
    ⟨some 7, none, .bslice 1 [.int .i64 0] 1 [(0, 1, .t 6)]⟩,
    ⟨some 8, none, .mv (.t 1)⟩,
    ⟨some 9, none, .append 1 8 (.t 7) (.t 8)⟩,
    ⟨some 10, none, .call 64 [.t 9]⟩,
    ⟨some 5, none, .mv (.t 10)⟩])
  (.seq (.ops [⟨some 11, none, .mv (.t 1)⟩,
    ⟨some 12, none, .len (.t 11)⟩,
    ⟨some 13, none, .mv (.t 5)⟩,
    ⟨some 14, none, .bslice 1 [.int .i64 0, .int .i64 0] 2 [(0, 1, .t 12), (1, 1, .t 13)]⟩,
    ⟨some 15, none, .mv (.t 1)⟩,
    ⟨some 16, none, .append 1 8 (.t 14) (.t 15)⟩,
    ⟨some 4, none, .mv (.t 16)⟩])
  (.ret)))⟩
theorem ok100 : FnOK Try.prog 100 v100 := ⟨⟨Try.f100, _, Try.func100, rfl, by kernel_rfl, rfl, by decide, by kernel_rfl, by kernel_rfl⟩⟩

/-- impl.within -/
def v104 : VF := ⟨3, 15, [.t 6], true,
  .seq (.ops [⟨some 6, none, .mv (.c (.bool false))⟩])
  (.seq (.ops [⟨some 7, none, .mv (.t 1)⟩,
    ⟨some 8, none, .mv (.t 0)⟩,
    ⟨some 9, none, .bin .leq (.t 7) (.t 8)⟩,
    ⟨some 10, none, .mv (.t 9)⟩,
    ⟨some 11, some (10, true), .mv (.t 0)⟩,
    ⟨some 12, some (10, true), .mv (.t 2)⟩,
    ⟨some 13, some (10, true), .bin .leq (.t 11) (.t 12)⟩,
    ⟨some 14, none, .pick (.t 10) (.t 13) (.c (.bool false))⟩,
    ⟨some 6, none, .mv (.t 14)⟩])
  (.ret))⟩
theorem ok104 : FnOK Try.prog 104 v104 := ⟨⟨Try.f104, _, Try.func104, rfl, by kernel_rfl, rfl, by decide, by kernel_rfl, by kernel_rfl⟩⟩

/-- laws.toPut -/
def v105 : VF := ⟨1, 11, [.cell 2 true 2], true,
  .seq (.ops [⟨some 1, none, .box (.t 0)⟩,
    ⟨some 2, none, .new [.int .i64 0, .int .i64 0]⟩])
  (.seq (.ops [⟨some 3, none, .new [.int .i64 0, .int .i64 0]⟩])
  (.seq (.ops [⟨some 4, none, .faddr 0 (.t 1)⟩,
    ⟨some 5, none, .load false 1 (.t 4)⟩,
    ⟨some 6, none, .faddr 0 (.t 3)⟩,
    ⟨none, none, .store 1 (.t 6) (.t 5)⟩])
  (.seq (.ops [⟨some 7, none, .faddr 1 (.t 1)⟩,
    ⟨some 8, none, .load false 1 (.t 7)⟩,
    ⟨some 9, none, .faddr 1 (.t 3)⟩,
    ⟨none, none, .store 1 (.t 9) (.t 8)⟩])
  (.seq (.ops [⟨some 10, none, .load true 2 (.t 3)⟩,
    ⟨none, none, .store 2 (.t 2) (.t 10)⟩])
  (.ret)))))⟩
theorem ok105 : FnOK Try.prog 105 v105 := ⟨⟨Try.f105, _, Try.func105, rfl, by kernel_rfl, rfl, by decide, by kernel_rfl, by kernel_rfl⟩⟩

/-- slices.ContainsFunc[[]int64,int64] -/
def v106 : VF := ⟨2, 9, [.t 4], true,
  .seq (.ops [⟨some 4, none, .mv (.c (.bool false))⟩])
  (.seq (.ops [⟨some 5, none, .mv (.t 0)⟩,
    ⟨some 6, none, .mv (.t 1)⟩,
    ⟨some 7, none, .call 118 [.t 5, .t 6]⟩,
    ⟨some 8, none, .bin .geq (.t 7) (.c (.int .i64 0))⟩,
    ⟨some 4, none, .mv (.t 8)⟩])
  (.ret))⟩
theorem ok106 : FnOK Try.prog 106 v106 := ⟨⟨Try.f106, _, Try.func106, rfl, by kernel_rfl, rfl, by decide, by kernel_rfl, by kernel_rfl⟩⟩

/-- impl.areWords$1 -/
def v107 : VF := ⟨1, 6, [.t 2], true,
  .seq (.ops [⟨some 2, none, .mv (.c (.bool false))⟩])
  (.seq (.ops [⟨some 3, none, .mv (.t 0)⟩,
    ⟨some 4, none, .call 74 [.t 3]⟩,
    ⟨some 5, none, .not (.t 4)⟩,
    ⟨some 2, none, .mv (.t 5)⟩])
  (.ret))⟩
theorem ok107 : FnOK Try.prog 107 v107 := ⟨⟨Try.f107, _, Try.func107, rfl, by kernel_rfl, rfl, by decide, by kernel_rfl, by kernel_rfl⟩⟩

/-- impl.Put] -/
def l108_0 : VC :=
  .seq (.ops [⟨some 9, none, .bin .lss (.t 8) (.t 7)⟩])
  (.seq (.cond (.t 9)
   (.skip)
   (.exit 0))
  (.seq (.block 1 (.seq (.ops [⟨some 10, none, .mv (.t 8)⟩,
     ⟨some 5, none, .mv (.t 10)⟩])
   (.seq (.ops [⟨some 11, none, .mv (.t 1)⟩,
     ⟨some 12, none, .mv (.t 0)⟩,
     ⟨some 13, none, .mv (.t 5)⟩,
     ⟨some 14, none, .iaddr 2 (.t 12) (.t 13)⟩,
     ⟨some 15, none, .load true 2 (.t 14)⟩,
     ⟨some 16, none, .callv (.t 11) [.t 15]⟩])
   (.cond (.t 16)
    (.seq (.ops [⟨some 17, none, .mv (.t 5)⟩,
      ⟨some 4, none, .mv (.t 17)⟩])
    (.ret))
    (.skip)))))
  (.ops [⟨some 18, none, .bin .add (.t 8) (.c (.int .i64 1))⟩,
    ⟨some 8, none, .mv (.t 18)⟩])))
def v108 : VF := ⟨2, 19, [.t 4], true,
  .seq (.ops [⟨some 4, none, .mv (.c (.int .i64 0))⟩])
  (.seq (.seq (.ops [⟨some 6, none, .mv (.t 0)⟩,
    ⟨some 7, none, .len (.t 6)⟩,
    ⟨some 8, none, .mv (.c (.int .i64 0))⟩])
  (.block 0 (.loop [0, 1, 7, 8] [4] l108_0)))
  (.seq (.ops [⟨some 4, none, .mv (.c (.int .i64 (-1)))⟩])
  (.ret)))⟩
theorem ok108 : FnOK Try.prog 108 v108 := ⟨⟨Try.f108, _, Try.func108, rfl, by kernel_rfl, rfl, by decide, by kernel_rfl, by kernel_rfl⟩⟩

/-- laws.eqPut -/
def v109 : VF := ⟨2, 15, [.t 4], true,
  .seq (.ops [⟨some 2, none, .box (.t 0)⟩,
    ⟨some 3, none, .box (.t 1)⟩,
    ⟨some 4, none, .mv (.c (.bool false))⟩])
  (.seq (.seq (.ops [⟨some 5, none, .faddr 0 (.t 2)⟩,
    ⟨some 6, none, .load false 1 (.t 5)⟩,
    ⟨some 7, none, .faddr 0 (.t 3)⟩,
    ⟨some 8, none, .load false 1 (.t 7)⟩,
    ⟨some 9, none, .bin .neq (.t 6) (.t 8)⟩])
  (.cond (.t 9)
   (.seq (.ops [⟨some 4, none, .mv (.c (.bool false))⟩])
   (.ret))
   (.skip)))
  (.seq (.seq (.ops [⟨some 10, none, .faddr 1 (.t 2)⟩,
    ⟨some 11, none, .load false 1 (.t 10)⟩,
    ⟨some 12, none, .faddr 1 (.t 3)⟩,
    ⟨some 13, none, .load false 1 (.t 12)⟩,
    ⟨some 14, none, .bin .neq (.t 11) (.t 13)⟩])
  (.cond (.t 14)
   (.seq (.ops [⟨some 4, none, .mv (.c (.bool false))⟩])
   (.ret))
   (.skip)))
  (.seq (.ops [⟨some 4, none, .mv (.c (.bool true))⟩])
  (.ret))))⟩
theorem ok109 : FnOK Try.prog 109 v109 := ⟨⟨Try.f109, _, Try.func109, rfl, by kernel_rfl, rfl, by decide, by kernel_rfl, by kernel_rfl⟩⟩

/-- spec.l1In -/
def v110 : VF := ⟨3, 15, [.t 6], true,
  .seq (.ops [⟨some 6, none, .mv (.c (.bool false))⟩])
  (.seq (.ops [⟨some 7, none, .mv (.t 0)⟩,
    ⟨some 8, none, .mv (.t 1)⟩,
    ⟨some 9, none, .bin .geq (.t 7) (.t 8)⟩,
    ⟨some 10, none, .mv (.t 9)⟩,
    ⟨some 11, some (10, true), .mv (.t 0)⟩,
    ⟨some 12, some (10, true), .mv (.t 2)⟩,
    ⟨some 13, some (10, true), .bin .leq (.t 11) (.t 12)⟩,
    ⟨some 14, none, .pick (.t 10) (.t 13) (.c (.bool false))⟩,
    ⟨some 6, none, .mv (.t 14)⟩])
  (.ret))⟩
theorem ok110 : FnOK Try.prog 110 v110 := ⟨⟨Try.f110, _, Try.func110, rfl, by kernel_rfl, rfl, by decide, by kernel_rfl, by kernel_rfl⟩⟩

/-- slices.Clone[[]int64,int64] -/
def v111 : VF := ⟨1, 8, [.t 2], true,
  .seq (.ops [⟨some 2, none, .mv (.c (.slice none 0 0))⟩])
  (.seq (.seq (.ops [⟨some 3, none, .mv (.t 0)⟩,
    ⟨some 4, none, .snil false (.t 3)⟩])
  (.cond (.t 4)
   (.seq (.ops [⟨some 2, none, .mv (.c (.slice none 0 0))⟩])
   (.ret))
   (.skip)))
  (.seq (.ops [⟨some 5, none, .bslice 1 [] 0 []⟩,
    ⟨some 6, none, .mv (.t 0)⟩,
    ⟨some 7, none, .append 1 8 (.t 5) (.t 6)⟩,
    ⟨some 2, none, .mv (.t 7)⟩])
  (.ret)))⟩
theorem ok111 : FnOK Try.prog 111 v111 := ⟨⟨Try.f111, _, Try.func111, rfl, by kernel_rfl, rfl, by decide, by kernel_rfl, by kernel_rfl⟩⟩

/-- slices.Equal[[]int64,int64] -/
def l117_0 : VC :=
  .seq (.ops [⟨some 14, none, .bin .lss (.t 13) (.t 12)⟩])
  (.seq (.cond (.t 14)
   (.skip)
   (.exit 0))
  (.seq (.block 1 (.seq (.ops [⟨some 15, none, .mv (.t 13)⟩,
     ⟨some 5, none, .mv (.t 15)⟩])
   (.seq (.draw [⟨some 16, none, .mv (.t 0)⟩,
     ⟨some 17, none, .mv (.t 5)⟩,
     ⟨some 18, none, .iaddr 1 (.t 16) (.t 17)⟩,
     ⟨some 19, none, .load false 1 (.t 18)⟩,
     ⟨some 20, none, .mv (.t 1)⟩,
     ⟨some 21, none, .mv (.t 5)⟩,
     ⟨some 22, none, .iaddr 1 (.t 20) (.t 21)⟩,
     ⟨some 23, none, .load false 1 (.t 22)⟩] [⟨some 24, none, .bin .neq (.t 19) (.t 23)⟩])
   (.cond (.t 24)
    (.seq (.ops [⟨some 4, none, .mv (.c (.bool false))⟩])
    (.ret))
    (.skip)))))
  (.ops [⟨some 25, none, .bin .add (.t 13) (.c (.int .i64 1))⟩,
    ⟨some 13, none, .mv (.t 25)⟩])))
def v117 : VF := ⟨2, 26, [.t 4], true,
  .seq (.ops [⟨some 4, none, .mv (.c (.bool false))⟩])
  (.seq (.seq (.ops [⟨some 6, none, .mv (.t 0)⟩,
    ⟨some 7, none, .len (.t 6)⟩,
    ⟨some 8, none, .mv (.t 1)⟩,
    ⟨some 9, none, .len (.t 8)⟩,
    ⟨some 10, none, .bin .neq (.t 7) (.t 9)⟩])
  (.cond (.t 10)
   (.seq (.ops [⟨some 4, none, .mv (.c (.bool false))⟩])
   (.ret))
   (.skip)))
  (.seq (.seq (.ops [⟨some 11, none, .mv (.t 0)⟩,
    ⟨some 12, none, .len (.t 11)⟩,
    ⟨some 13, none, .mv (.c (.int .i64 0))⟩])
  (.block 0 (.loop [0, 1, 12, 13] [4] l117_0)))
  (.seq (.ops [⟨some 4, none, .mv (.c (.bool true))⟩])
  (.ret))))⟩
theorem ok117 : FnOK Try.prog 117 v117 := ⟨⟨Try.f117, _, Try.func117, rfl, by kernel_rfl, rfl, by decide, by kernel_rfl, by kernel_rfl⟩⟩

/-- slices.IndexFunc[[]int64,int64] -/
def l118_0 : VC :=
  .seq (.ops [⟨some 9, none, .bin .lss (.t 8) (.t 7)⟩])
  (.seq (.cond (.t 9)
   (.skip)
   (.exit 0))
  (.seq (.block 1 (.seq (.ops [⟨some 10, none, .mv (.t 8)⟩,
     ⟨some 5, none, .mv (.t 10)⟩])
   (.seq (.ops [⟨some 11, none, .mv (.t 1)⟩,
     ⟨some 12, none, .mv (.t 0)⟩,
     ⟨some 13, none, .mv (.t 5)⟩,
     ⟨some 14, none, .iaddr 1 (.t 12) (.t 13)⟩,
     ⟨some 15, none, .load false 1 (.t 14)⟩,
     ⟨some 16, none, .callv (.t 11) [.t 15]⟩])
   (.cond (.t 16)
    (.seq (.ops [⟨some 17, none, .mv (.t 5)⟩,
      ⟨some 4, none, .mv (.t 17)⟩])
    (.ret))
    (.skip)))))
  (.ops [⟨some 18, none, .bin .add (.t 8) (.c (.int .i64 1))⟩,
    ⟨some 8, none, .mv (.t 18)⟩])))
def v118 : VF := ⟨2, 19, [.t 4], true,
  .seq (.ops [⟨some 4, none, .mv (.c (.int .i64 0))⟩])
  (.seq (.seq (.ops [⟨some 6, none, .mv (.t 0)⟩,
    ⟨some 7, none, .len (.t 6)⟩,
    ⟨some 8, none, .mv (.c (.int .i64 0))⟩])
  (.block 0 (.loop [0, 1, 7, 8] [4] l118_0)))
  (.seq (.ops [⟨some 4, none, .mv (.c (.int .i64 (-1)))⟩])
  (.ret)))⟩
theorem ok118 : FnOK Try.prog 118 v118 := ⟨⟨Try.f118, _, Try.func118, rfl, by kernel_rfl, rfl, by decide, by kernel_rfl, by kernel_rfl⟩⟩
def env0 : Env := [(13, v13), (16, v16), (18, v18), (19, v19), (20, v20), (33, v33), (35, v35), (36, v36), (41, v41), (54, v54), (55, v55), (56, v56), (57, v57), (58, v58), (64, v64), (65, v65), (66, v66), (67, v67), (68, v68), (69, v69), (70, v70), (71, v71), (72, v72), (73, v73), (74, v74), (75, v75), (76, v76), (77, v77), (79, v79), (87, v87), (88, v88), (89, v89), (90, v90), (92, v92), (94, v94), (95, v95), (96, v96), (97, v97), (99, v99), (100, v100), (104, v104), (105, v105), (106, v106), (107, v107), (108, v108), (109, v109), (110, v110), (111, v111), (117, v117), (118, v118)]
theorem envOK0 : EnvOK Try.prog env0 := .cons ok13 (.cons ok16 (.cons ok18 (.cons ok19 (.cons ok20 (.cons ok33 (.cons ok35 (.cons ok36 (.cons ok41 (.cons ok54 (.cons ok55 (.cons ok56 (.cons ok57 (.cons ok58 (.cons ok64 (.cons ok65 (.cons ok66 (.cons ok67 (.cons ok68 (.cons ok69 (.cons ok70 (.cons ok71 (.cons ok72 (.cons ok73 (.cons ok74 (.cons ok75 (.cons ok76 (.cons ok77 (.cons ok79 (.cons ok87 (.cons ok88 (.cons ok89 (.cons ok90 (.cons ok92 (.cons ok94 (.cons ok95 (.cons ok96 (.cons ok97 (.cons ok99 (.cons ok100 (.cons ok104 (.cons ok105 (.cons ok106 (.cons ok107 (.cons ok108 (.cons ok109 (.cons ok110 (.cons ok111 (.cons ok117 (.cons ok118 (.nil))))))))))))))))))))))))))))))))))))))))))))))))))
end Go.Proofs.Ytaahjfjpbilfnaa.V
