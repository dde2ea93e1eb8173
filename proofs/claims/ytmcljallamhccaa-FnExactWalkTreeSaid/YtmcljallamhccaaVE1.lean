/- The machine's code of the program's functions; each is the program's own, by the kernel. Laid by a program (wip/v/vmgen.py). -/
import Derived.Test.YtmcljallamhccaaVMF
import Derived.Test.YtmcljallamhccaaProg
namespace Go.Proofs.Ytmcljallamhccaa.V
open Go
set_option maxRecDepth 100000
/-- laws.markForestResult -/
def v44 : VF := ⟨2, 10, [.t 4], false,
  .seq (.ops [⟨some 2, none, .box (.t 0)⟩,
    ⟨some 4, none, .mv (.c (.int .i64 0))⟩])
  (.seq (.ops [⟨some 5, none, .faddr 2 (.t 2)⟩,
    ⟨some 6, none, .load true 2 (.t 5)⟩,
    ⟨some 7, none, .mv (.t 1)⟩,
    ⟨some 8, none, .call 61 [.t 6, .t 7]⟩,
    ⟨some 1, none, .mv (.t 8)⟩])
  (.seq (.ops [⟨some 9, none, .mv (.t 1)⟩,
    ⟨some 4, none, .mv (.t 9)⟩])
  (.ret)))⟩
theorem ok44 : FnOK Try.prog 44 v44 := ⟨⟨Try.f44, _, Try.func44, rfl, by kernel_rfl, rfl, by decide, by kernel_rfl, by kernel_rfl⟩⟩

/-- laws.heldForestResult -/
def v45 : VF := ⟨2, 12, [.t 4], true,
  .seq (.ops [⟨some 2, none, .box (.t 0)⟩,
    ⟨some 4, none, .mv (.c (.int .i64 0))⟩])
  (.seq (.ops [⟨some 5, none, .faddr 2 (.t 2)⟩,
    ⟨some 6, none, .load true 2 (.t 5)⟩,
    ⟨some 7, none, .mv (.t 1)⟩,
    ⟨some 8, none, .call 99 [.t 6, .t 7]⟩,
    ⟨some 1, none, .mv (.t 8)⟩])
  (.seq (.seq (.ops [⟨some 9, none, .mv (.t 1)⟩,
    ⟨some 10, none, .bin .lss (.t 9) (.c (.int .i64 0))⟩])
  (.cond (.t 10)
   (.seq (.ops [⟨some 4, none, .mv (.c (.int .i64 (-1)))⟩])
   (.ret))
   (.skip)))
  (.seq (.ops [⟨some 11, none, .mv (.t 1)⟩,
    ⟨some 4, none, .mv (.t 11)⟩])
  (.ret))))⟩
theorem ok45 : FnOK Try.prog 45 v45 := ⟨⟨Try.f45, _, Try.func45, rfl, by kernel_rfl, rfl, by decide, by kernel_rfl, by kernel_rfl⟩⟩

/-- spec.NewPool -/
def v46 : VF := ⟨1, 16, [.cell 2 true 6], true,
  .seq (.ops [⟨some 2, none, .new [.int .i64 0, .int .i64 0, .int .i64 0, .slice none 0 0, .slice none 0 0, .slice none 0 0]⟩])
  (.seq (.ops [⟨some 4, none, .mv (.t 0)⟩,
    ⟨some 5, none, .call 41 [.t 4]⟩,
    ⟨some 3, none, .new [.int .i64 0, .int .i64 0, .slice none 0 0, .slice none 0 0]⟩,
    ⟨none, none, .store 4 (.t 3) (.t 5)⟩])
  (.seq (.seq (.ops [⟨some 6, none, .faddr 0 (.t 3)⟩,
    ⟨some 7, none, .load false 1 (.t 6)⟩,
    ⟨some 8, none, .bin .neq (.t 7) (.c (.int .i64 0))⟩])
  (.cond (.t 8)
   (.seq (.ops [⟨some 9, none, .faddr 0 (.t 3)⟩,
     ⟨some 10, none, .load false 1 (.t 9)⟩,
     ⟨some 11, none, .build [.int .i64 0, .int .i64 0, .int .i64 0, .slice none 0 0, .slice none 0 0, .slice none 0 0] [(0, 1, .t 10)]⟩,
     ⟨none, none, .store 6 (.t 2) (.t 11)⟩])
   (.ret))
   (.skip)))
  (.seq (.ops [⟨some 12, none, .faddr 2 (.t 3)⟩,
    ⟨some 13, none, .load true 2 (.t 12)⟩,
    ⟨some 14, none, .build [.slice none 0 0, .slice none 0 0, .slice none 0 0] [(0, 2, .t 13)]⟩,
    ⟨some 15, none, .build [.int .i64 0, .int .i64 0, .int .i64 0, .slice none 0 0, .slice none 0 0, .slice none 0 0] [(3, 3, .t 14)]⟩,
    ⟨none, none, .store 6 (.t 2) (.t 15)⟩])
  (.ret))))⟩
theorem ok46 : FnOK Try.prog 46 v46 := ⟨⟨Try.f46, _, Try.func46, rfl, by kernel_rfl, rfl, by decide, by kernel_rfl, by kernel_rfl⟩⟩

/-- impl.NewPool -/
def v47 : VF := ⟨1, 16, [.cell 2 true 6], true,
  .seq (.ops [⟨some 2, none, .new [.int .i64 0, .int .i64 0, .int .i64 0, .slice none 0 0, .slice none 0 0, .slice none 0 0]⟩])
  (.seq (.ops [⟨some 4, none, .mv (.t 0)⟩,
    ⟨some 5, none, .call 42 [.t 4]⟩,
    ⟨some 3, none, .new [.int .i64 0, .int .i64 0, .slice none 0 0, .slice none 0 0]⟩,
    ⟨none, none, .store 4 (.t 3) (.t 5)⟩])
  (.seq (.seq (.ops [⟨some 6, none, .faddr 0 (.t 3)⟩,
    ⟨some 7, none, .load false 1 (.t 6)⟩,
    ⟨some 8, none, .bin .neq (.t 7) (.c (.int .i64 0))⟩])
  (.cond (.t 8)
   (.seq (.ops [⟨some 9, none, .faddr 0 (.t 3)⟩,
     ⟨some 10, none, .load false 1 (.t 9)⟩,
     ⟨some 11, none, .build [.int .i64 0, .int .i64 0, .int .i64 0, .slice none 0 0, .slice none 0 0, .slice none 0 0] [(0, 1, .t 10)]⟩,
     ⟨none, none, .store 6 (.t 2) (.t 11)⟩])
   (.ret))
   (.skip)))
  (.seq (.ops [⟨some 12, none, .faddr 2 (.t 3)⟩,
    ⟨some 13, none, .load true 2 (.t 12)⟩,
    ⟨some 14, none, .build [.slice none 0 0, .slice none 0 0, .slice none 0 0] [(0, 2, .t 13)]⟩,
    ⟨some 15, none, .build [.int .i64 0, .int .i64 0, .int .i64 0, .slice none 0 0, .slice none 0 0, .slice none 0 0] [(3, 3, .t 14)]⟩,
    ⟨none, none, .store 6 (.t 2) (.t 15)⟩])
  (.ret))))⟩
theorem ok47 : FnOK Try.prog 47 v47 := ⟨⟨Try.f47, _, Try.func47, rfl, by kernel_rfl, rfl, by decide, by kernel_rfl, by kernel_rfl⟩⟩

/-- laws.eqPoolResult -/
def v48 : VF := ⟨2, 26, [.t 4], true,
  .seq (.ops [⟨some 2, none, .box (.t 0)⟩,
    ⟨some 3, none, .box (.t 1)⟩,
    ⟨some 4, none, .mv (.c (.bool false))⟩])
  (.seq (.seq (.ops [⟨some 5, none, .faddr 0 (.t 2)⟩,
    ⟨some 6, none, .load false 1 (.t 5)⟩,
    ⟨some 7, none, .faddr 0 (.t 3)⟩,
    ⟨some 8, none, .load false 1 (.t 7)⟩,
    ⟨some 9, none, .bin .neq (.t 6) (.t 8)⟩])
  (.cond (.t 9)
   (.seq (.ops [⟨some 4, none, .mv (.c (.bool false))⟩])
   (.ret))
   (.skip)))
  (.seq (.seq (.ops [⟨some 10, none, .faddr 1 (.t 2)⟩,
    ⟨some 11, none, .load false 1 (.t 10)⟩,
    ⟨some 12, none, .faddr 1 (.t 3)⟩,
    ⟨some 13, none, .load false 1 (.t 12)⟩,
    ⟨some 14, none, .bin .neq (.t 11) (.t 13)⟩])
  (.cond (.t 14)
   (.seq (.ops [⟨some 4, none, .mv (.c (.bool false))⟩])
   (.ret))
   (.skip)))
  (.seq (.seq (.ops [⟨some 15, none, .faddr 2 (.t 2)⟩,
    ⟨some 16, none, .load false 1 (.t 15)⟩,
    ⟨some 17, none, .faddr 2 (.t 3)⟩,
    ⟨some 18, none, .load false 1 (.t 17)⟩,
    ⟨some 19, none, .bin .neq (.t 16) (.t 18)⟩])
  (.cond (.t 19)
   (.seq (.ops [⟨some 4, none, .mv (.c (.bool false))⟩])
   (.ret))
   (.skip)))
  (.seq (.seq (.ops [⟨some 20, none, .faddr 3 (.t 2)⟩,
    ⟨some 21, none, .load true 3 (.t 20)⟩,
    ⟨some 22, none, .faddr 3 (.t 3)⟩,
    ⟨some 23, none, .load true 3 (.t 22)⟩,
    ⟨some 24, none, .call 100 [.t 21, .t 23]⟩,
    ⟨some 25, none, .not (.t 24)⟩])
  (.cond (.t 25)
   (.seq (.ops [⟨some 4, none, .mv (.c (.bool false))⟩])
   (.ret))
   (.skip)))
  (.seq (.ops [⟨some 4, none, .mv (.c (.bool true))⟩])
  (.ret))))))⟩
theorem ok48 : FnOK Try.prog 48 v48 := ⟨⟨Try.f48, _, Try.func48, rfl, by kernel_rfl, rfl, by decide, by kernel_rfl, by kernel_rfl⟩⟩

/-- laws.markPoolResult -/
def v49 : VF := ⟨2, 10, [.t 4], false,
  .seq (.ops [⟨some 2, none, .box (.t 0)⟩,
    ⟨some 4, none, .mv (.c (.int .i64 0))⟩])
  (.seq (.ops [⟨some 5, none, .faddr 3 (.t 2)⟩,
    ⟨some 6, none, .load true 3 (.t 5)⟩,
    ⟨some 7, none, .mv (.t 1)⟩,
    ⟨some 8, none, .call 101 [.t 6, .t 7]⟩,
    ⟨some 1, none, .mv (.t 8)⟩])
  (.seq (.ops [⟨some 9, none, .mv (.t 1)⟩,
    ⟨some 4, none, .mv (.t 9)⟩])
  (.ret)))⟩
theorem ok49 : FnOK Try.prog 49 v49 := ⟨⟨Try.f49, _, Try.func49, rfl, by kernel_rfl, rfl, by decide, by kernel_rfl, by kernel_rfl⟩⟩

/-- laws.heldPoolResult -/
def v50 : VF := ⟨2, 12, [.t 4], true,
  .seq (.ops [⟨some 2, none, .box (.t 0)⟩,
    ⟨some 4, none, .mv (.c (.int .i64 0))⟩])
  (.seq (.ops [⟨some 5, none, .faddr 3 (.t 2)⟩,
    ⟨some 6, none, .load true 3 (.t 5)⟩,
    ⟨some 7, none, .mv (.t 1)⟩,
    ⟨some 8, none, .call 102 [.t 6, .t 7]⟩,
    ⟨some 1, none, .mv (.t 8)⟩])
  (.seq (.seq (.ops [⟨some 9, none, .mv (.t 1)⟩,
    ⟨some 10, none, .bin .lss (.t 9) (.c (.int .i64 0))⟩])
  (.cond (.t 10)
   (.seq (.ops [⟨some 4, none, .mv (.c (.int .i64 (-1)))⟩])
   (.ret))
   (.skip)))
  (.seq (.ops [⟨some 11, none, .mv (.t 1)⟩,
    ⟨some 4, none, .mv (.t 11)⟩])
  (.ret))))⟩
theorem ok50 : FnOK Try.prog 50 v50 := ⟨⟨Try.f50, _, Try.func50, rfl, by kernel_rfl, rfl, by decide, by kernel_rfl, by kernel_rfl⟩⟩

/-- laws.szForest -/
def v51 : VF := ⟨2, 18, [.t 4], true,
  .seq (.ops [⟨some 2, none, .box (.t 0)⟩,
    ⟨some 4, none, .mv (.c (.int .i64 0))⟩])
  (.seq (.ops [⟨some 5, none, .faddr 0 (.t 2)⟩,
    ⟨some 6, none, .load false 1 (.t 5)⟩,
    ⟨some 7, none, .mv (.t 1)⟩,
    ⟨some 8, none, .call 103 [.t 6, .t 7]⟩,
    ⟨some 1, none, .mv (.t 8)⟩])
  (.seq (.seq (.ops [⟨some 9, none, .mv (.t 1)⟩,
    ⟨some 10, none, .bin .lss (.t 9) (.c (.int .i64 0))⟩])
  (.cond (.t 10)
   (.seq (.ops [⟨some 4, none, .mv (.c (.int .i64 (-1)))⟩])
   (.ret))
   (.skip)))
  (.seq (.ops [⟨some 11, none, .faddr 1 (.t 2)⟩,
    ⟨some 12, none, .load false 1 (.t 11)⟩,
    ⟨some 13, none, .mv (.t 1)⟩,
    ⟨some 14, none, .call 25 [.t 12, .t 13]⟩,
    ⟨some 1, none, .mv (.t 14)⟩])
  (.seq (.seq (.ops [⟨some 15, none, .mv (.t 1)⟩,
    ⟨some 16, none, .bin .lss (.t 15) (.c (.int .i64 0))⟩])
  (.cond (.t 16)
   (.seq (.ops [⟨some 4, none, .mv (.c (.int .i64 (-1)))⟩])
   (.ret))
   (.skip)))
  (.seq (.ops [⟨some 17, none, .mv (.t 1)⟩,
    ⟨some 4, none, .mv (.t 17)⟩])
  (.ret))))))⟩
theorem ok51 : FnOK Try.prog 51 v51 := ⟨⟨Try.f51, _, Try.func51, rfl, by kernel_rfl, rfl, by decide, by kernel_rfl, by kernel_rfl⟩⟩

/-- spec.ForestFault -/
def v52 : VF := ⟨1, 4, [.t 2], true,
  .seq (.ops [⟨some 1, none, .box (.t 0)⟩,
    ⟨some 2, none, .mv (.c (.int .i64 0))⟩])
  (.seq (.ops [⟨some 3, none, .call 104 [.t 1]⟩,
    ⟨some 2, none, .mv (.t 3)⟩])
  (.ret))⟩
theorem ok52 : FnOK Try.prog 52 v52 := ⟨⟨Try.f52, _, Try.func52, rfl, by kernel_rfl, rfl, by decide, by kernel_rfl, by kernel_rfl⟩⟩

/-- laws.toForest -/
def v53 : VF := ⟨1, 13, [.cell 2 true 2], true,
  .seq (.ops [⟨some 1, none, .box (.t 0)⟩,
    ⟨some 2, none, .new [.slice none 0 0, .slice none 0 0]⟩])
  (.seq (.ops [⟨some 3, none, .new [.slice none 0 0, .slice none 0 0]⟩])
  (.seq (.ops [⟨some 4, none, .faddr 0 (.t 1)⟩,
    ⟨some 5, none, .load false 1 (.t 4)⟩,
    ⟨some 6, none, .call 105 [.t 5]⟩,
    ⟨some 7, none, .faddr 0 (.t 3)⟩,
    ⟨none, none, .store 1 (.t 7) (.t 6)⟩])
  (.seq (.ops [⟨some 8, none, .faddr 1 (.t 1)⟩,
    ⟨some 9, none, .load false 1 (.t 8)⟩,
    ⟨some 10, none, .call 27 [.t 9]⟩,
    ⟨some 11, none, .faddr 1 (.t 3)⟩,
    ⟨none, none, .store 1 (.t 11) (.t 10)⟩])
  (.seq (.ops [⟨some 12, none, .load true 2 (.t 3)⟩,
    ⟨none, none, .store 2 (.t 2) (.t 12)⟩])
  (.ret)))))⟩
theorem ok53 : FnOK Try.prog 53 v53 := ⟨⟨Try.f53, _, Try.func53, rfl, by kernel_rfl, rfl, by decide, by kernel_rfl, by kernel_rfl⟩⟩

/-- impl.ForestFault -/
def l54_0 : VC :=
  .seq (.ops [⟨some 24, none, .bin .lss (.t 23) (.t 22)⟩])
  (.seq (.cond (.t 24)
   (.skip)
   (.exit 0))
  (.seq (.block 1 (.seq (.ops [⟨some 25, none, .iaddr 3 (.t 21) (.t 23)⟩,
     ⟨some 26, none, .load true 3 (.t 25)⟩,
     ⟨some 5, none, .new [.int .i64 0, .bool false, .slice none 0 0]⟩,
     ⟨none, none, .store 3 (.t 5) (.t 26)⟩])
   (.block 2 (.seq (.ops [⟨some 28, none, .faddr 0 (.t 5)⟩,
      ⟨some 29, none, .load false 1 (.t 28)⟩,
      ⟨some 30, none, .call 97 [.t 29]⟩,
      ⟨some 31, none, .not (.t 30)⟩,
      ⟨some 27, none, .mv (.t 31)⟩])
    (.cond (.t 27)
     (.seq (.ops [⟨some 2, none, .mv (.c (.int .i64 3))⟩])
     (.ret))
     (.seq (.ops [⟨some 33, none, .faddr 0 (.t 5)⟩,
       ⟨some 34, none, .load false 1 (.t 33)⟩,
       ⟨some 35, none, .bin .eql (.t 34) (.c (.int .i64 0))⟩,
       ⟨some 36, none, .mv (.t 35)⟩,
       ⟨some 37, some (36, true), .faddr 1 (.t 5)⟩,
       ⟨some 38, some (36, true), .load false 1 (.t 37)⟩,
       ⟨some 39, some (36, true), .mv (.t 38)⟩,
       ⟨some 40, some (39, false), .faddr 2 (.t 5)⟩,
       ⟨some 41, some (39, false), .load false 1 (.t 40)⟩,
       ⟨some 42, some (39, false), .len (.t 41)⟩,
       ⟨some 43, some (39, false), .bin .gtr (.t 42) (.c (.int .i64 0))⟩,
       ⟨some 44, some (36, true), .pick (.t 39) (.c (.bool true)) (.t 43)⟩,
       ⟨some 45, none, .pick (.t 36) (.t 44) (.c (.bool false))⟩,
       ⟨some 32, none, .mv (.t 45)⟩])
     (.cond (.t 32)
      (.seq (.ops [⟨some 2, none, .mv (.c (.int .i64 1))⟩])
      (.ret))
      (.seq (.ops [⟨some 47, none, .faddr 0 (.t 5)⟩,
        ⟨some 48, none, .load false 1 (.t 47)⟩,
        ⟨some 49, none, .bin .eql (.t 48) (.c (.int .i64 0))⟩,
        ⟨some 46, none, .mv (.t 49)⟩])
      (.cond (.t 46)
       (.exit 1)
       (.seq (.ops [⟨some 51, none, .faddr 2 (.t 5)⟩,
         ⟨some 52, none, .load false 1 (.t 51)⟩,
         ⟨some 53, none, .len (.t 52)⟩,
         ⟨some 54, none, .bin .neq (.t 53) (.c (.int .i64 4))⟩,
         ⟨some 55, none, .mv (.t 54)⟩,
         ⟨some 56, some (55, false), .faddr 2 (.t 5)⟩,
         ⟨some 57, some (55, false), .load false 1 (.t 56)⟩,
         ⟨some 58, some (55, false), .call 106 [.t 57]⟩,
         ⟨some 59, none, .pick (.t 55) (.c (.bool true)) (.t 58)⟩,
         ⟨some 60, none, .mv (.t 59)⟩,
         ⟨some 61, some (60, false), .faddr 2 (.t 5)⟩,
         ⟨some 62, some (60, false), .load false 1 (.t 61)⟩,
         ⟨some 63, some (60, false), .mkfn 108 [.t 1, .t 5]⟩,
         ⟨some 64, some (60, false), .call 107 [.t 62, .t 63]⟩,
         ⟨some 65, none, .pick (.t 60) (.c (.bool true)) (.t 64)⟩,
         ⟨some 50, none, .mv (.t 65)⟩])
       (.cond (.t 50)
        (.seq (.ops [⟨some 2, none, .mv (.c (.int .i64 1))⟩])
        (.ret))
        (.skip))))))))))))
  (.ops [⟨some 66, none, .bin .add (.t 23) (.c (.int .i64 1))⟩,
    ⟨some 23, none, .mv (.t 66)⟩])))
def l54_1 : VC :=
  .seq (.ops [⟨some 74, none, .bin .lss (.t 73) (.t 72)⟩])
  (.seq (.cond (.t 74)
   (.skip)
   (.exit 3))
  (.seq (.block 4 (.seq (.ops [⟨some 75, none, .mv (.t 73)⟩,
     ⟨some 76, none, .iaddr 1 (.t 71) (.t 73)⟩,
     ⟨some 77, none, .load false 1 (.t 76)⟩,
     ⟨some 6, none, .mv (.t 75)⟩,
     ⟨some 7, none, .mv (.t 77)⟩])
   (.seq (.ops [⟨some 78, none, .faddr 1 (.t 1)⟩,
     ⟨some 79, none, .load false 1 (.t 78)⟩,
     ⟨some 80, none, .mv (.t 6)⟩,
     ⟨some 81, none, .iaddr 2 (.t 79) (.t 80)⟩,
     ⟨some 82, none, .faddr 0 (.t 81)⟩,
     ⟨some 83, none, .load false 1 (.t 82)⟩,
     ⟨some 84, none, .mv (.t 7)⟩,
     ⟨some 85, none, .bin .neq (.t 83) (.t 84)⟩])
   (.cond (.t 85)
    (.seq (.ops [⟨some 2, none, .mv (.c (.int .i64 1))⟩])
    (.ret))
    (.skip)))))
  (.ops [⟨some 86, none, .bin .add (.t 73) (.c (.int .i64 1))⟩,
    ⟨some 73, none, .mv (.t 86)⟩])))
def l54_2 : VC :=
  .seq (.ops [⟨some 94, none, .bin .lss (.t 93) (.t 92)⟩])
  (.seq (.cond (.t 94)
   (.skip)
   (.exit 5))
  (.seq (.block 6 (.seq (.ops [⟨some 95, none, .mv (.t 93)⟩,
     ⟨some 96, none, .iaddr 1 (.t 91) (.t 93)⟩,
     ⟨some 97, none, .load false 1 (.t 96)⟩,
     ⟨some 8, none, .mv (.t 95)⟩,
     ⟨some 9, none, .mv (.t 97)⟩])
   (.seq (.ops [⟨some 98, none, .faddr 0 (.t 1)⟩,
     ⟨some 99, none, .load false 1 (.t 98)⟩,
     ⟨some 100, none, .mv (.t 8)⟩,
     ⟨some 101, none, .iaddr 3 (.t 99) (.t 100)⟩,
     ⟨some 102, none, .faddr 1 (.t 101)⟩,
     ⟨some 103, none, .load false 1 (.t 102)⟩,
     ⟨some 104, none, .mv (.t 103)⟩,
     ⟨some 105, some (104, true), .faddr 0 (.t 1)⟩,
     ⟨some 106, some (104, true), .load false 1 (.t 105)⟩,
     ⟨some 107, some (104, true), .mv (.t 8)⟩,
     ⟨some 108, some (104, true), .iaddr 3 (.t 106) (.t 107)⟩,
     ⟨some 109, some (104, true), .faddr 0 (.t 108)⟩,
     ⟨some 110, some (104, true), .load false 1 (.t 109)⟩,
     ⟨some 111, some (104, true), .mv (.t 9)⟩,
     ⟨some 112, some (104, true), .bin .lss (.t 110) (.t 111)⟩,
     ⟨some 113, none, .pick (.t 104) (.t 112) (.c (.bool false))⟩])
   (.cond (.t 113)
    (.seq (.ops [⟨some 2, none, .mv (.c (.int .i64 1))⟩])
    (.ret))
    (.skip)))))
  (.ops [⟨some 114, none, .bin .add (.t 93) (.c (.int .i64 1))⟩,
    ⟨some 93, none, .mv (.t 114)⟩])))
def v54 : VF := ⟨1, 115, [.t 2], true,
  .seq (.ops [⟨some 1, none, .box (.t 0)⟩,
    ⟨some 2, none, .mv (.c (.int .i64 0))⟩])
  (.seq (.seq (.ops [⟨some 10, none, .faddr 1 (.t 1)⟩,
    ⟨some 11, none, .load false 1 (.t 10)⟩,
    ⟨some 12, none, .call 40 [.t 11]⟩,
    ⟨some 3, none, .mv (.t 12)⟩])
  (.seq (.ops [⟨some 13, none, .mv (.t 3)⟩,
    ⟨some 14, none, .bin .neq (.t 13) (.c (.int .i64 0))⟩])
  (.cond (.t 14)
   (.seq (.ops [⟨some 15, none, .mv (.t 3)⟩,
     ⟨some 2, none, .mv (.t 15)⟩])
   (.ret))
   (.skip))))
  (.seq (.seq (.ops [⟨some 16, none, .faddr 0 (.t 1)⟩,
    ⟨some 17, none, .load false 1 (.t 16)⟩,
    ⟨some 18, none, .len (.t 17)⟩,
    ⟨some 19, none, .bin .gtr (.t 18) (.c (.int .i64 60))⟩])
  (.cond (.t 19)
   (.seq (.ops [⟨some 2, none, .mv (.c (.int .i64 2))⟩])
   (.ret))
   (.skip)))
  (.seq (.seq (.ops [⟨some 20, none, .faddr 0 (.t 1)⟩,
    ⟨some 21, none, .load false 1 (.t 20)⟩,
    ⟨some 22, none, .len (.t 21)⟩,
    ⟨some 23, none, .mv (.c (.int .i64 0))⟩])
  (.block 0 (.loop [1, 21, 22, 23] [1, 2] l54_0)))
  (.seq (.seq (.ops [⟨some 67, none, .load true 2 (.t 1)⟩,
    ⟨some 68, none, .faddr 1 (.t 1)⟩,
    ⟨some 69, none, .load false 1 (.t 68)⟩,
    ⟨some 70, none, .len (.t 69)⟩,
    ⟨some 71, none, .call 110 [.t 67, .c (.bool true), .t 70]⟩,
    ⟨some 72, none, .len (.t 71)⟩,
    ⟨some 73, none, .mv (.c (.int .i64 0))⟩])
  (.block 3 (.loop [1, 71, 72, 73] [1, 2] l54_1)))
  (.seq (.seq (.ops [⟨some 87, none, .load true 2 (.t 1)⟩,
    ⟨some 88, none, .faddr 0 (.t 1)⟩,
    ⟨some 89, none, .load false 1 (.t 88)⟩,
    ⟨some 90, none, .len (.t 89)⟩,
    ⟨some 91, none, .call 110 [.t 87, .c (.bool false), .t 90]⟩,
    ⟨some 92, none, .len (.t 91)⟩,
    ⟨some 93, none, .mv (.c (.int .i64 0))⟩])
  (.block 5 (.loop [1, 91, 92, 93] [2] l54_2)))
  (.seq (.ops [⟨some 2, none, .mv (.c (.int .i64 0))⟩])
  (.ret)))))))⟩
theorem ok54 : FnOK Try.prog 54 v54 := ⟨⟨Try.f54, _, Try.func54, rfl, by kernel_rfl, rfl, by decide, by kernel_rfl, by kernel_rfl⟩⟩

/-- laws.eqForest -/
def v55 : VF := ⟨2, 17, [.t 4], true,
  .seq (.ops [⟨some 2, none, .box (.t 0)⟩,
    ⟨some 3, none, .box (.t 1)⟩,
    ⟨some 4, none, .mv (.c (.bool false))⟩])
  (.seq (.seq (.ops [⟨some 5, none, .faddr 0 (.t 2)⟩,
    ⟨some 6, none, .load false 1 (.t 5)⟩,
    ⟨some 7, none, .faddr 0 (.t 3)⟩,
    ⟨some 8, none, .load false 1 (.t 7)⟩,
    ⟨some 9, none, .call 111 [.t 6, .t 8]⟩,
    ⟨some 10, none, .not (.t 9)⟩])
  (.cond (.t 10)
   (.seq (.ops [⟨some 4, none, .mv (.c (.bool false))⟩])
   (.ret))
   (.skip)))
  (.seq (.seq (.ops [⟨some 11, none, .faddr 1 (.t 2)⟩,
    ⟨some 12, none, .load false 1 (.t 11)⟩,
    ⟨some 13, none, .faddr 1 (.t 3)⟩,
    ⟨some 14, none, .load false 1 (.t 13)⟩,
    ⟨some 15, none, .call 30 [.t 12, .t 14]⟩,
    ⟨some 16, none, .not (.t 15)⟩])
  (.cond (.t 16)
   (.seq (.ops [⟨some 4, none, .mv (.c (.bool false))⟩])
   (.ret))
   (.skip)))
  (.seq (.ops [⟨some 4, none, .mv (.c (.bool true))⟩])
  (.ret))))⟩
theorem ok55 : FnOK Try.prog 55 v55 := ⟨⟨Try.f55, _, Try.func55, rfl, by kernel_rfl, rfl, by decide, by kernel_rfl, by kernel_rfl⟩⟩

/-- spec.LookTree -/
def v56 : VF := ⟨3, 29, [.cell 6 true 2], true,
  .seq (.ops [⟨some 3, none, .box (.t 0)⟩,
    ⟨some 6, none, .new [.int .i64 0, .int .i64 0]⟩])
  (.seq (.seq (.ops [⟨some 9, none, .mv (.t 1)⟩,
    ⟨some 10, none, .mv (.t 2)⟩,
    ⟨some 11, none, .call 112 [.t 3, .t 9, .t 10]⟩,
    ⟨some 7, none, .mv (.t 11)⟩])
  (.seq (.ops [⟨some 12, none, .mv (.t 7)⟩,
    ⟨some 13, none, .bin .neq (.t 12) (.c (.int .i64 0))⟩])
  (.cond (.t 13)
   (.seq (.ops [⟨some 14, none, .mv (.t 7)⟩,
     ⟨some 15, none, .build [.int .i64 0, .int .i64 0] [(0, 1, .t 14)]⟩,
     ⟨none, none, .store 2 (.t 6) (.t 15)⟩])
   (.ret))
   (.skip))))
  (.seq (.ops [⟨some 16, none, .mv (.t 1)⟩,
    ⟨some 17, none, .mv (.t 2)⟩,
    ⟨some 18, none, .call 113 [.t 3, .t 16, .t 17]⟩,
    ⟨some 8, none, .mv (.t 18)⟩])
  (.seq (.seq (.ops [⟨some 19, none, .mv (.t 8)⟩,
    ⟨some 20, none, .bin .lss (.t 19) (.c (.int .i64 0))⟩])
  (.cond (.t 20)
   (.seq (.ops [⟨some 21, none, .build [.int .i64 0, .int .i64 0] [(0, 1, .c (.int .i64 4))]⟩,
     ⟨none, none, .store 2 (.t 6) (.t 21)⟩])
   (.ret))
   (.skip)))
  (.seq (.ops [⟨some 22, none, .faddr 1 (.t 3)⟩,
    ⟨some 23, none, .load false 1 (.t 22)⟩,
    ⟨some 24, none, .mv (.t 8)⟩,
    ⟨some 25, none, .iaddr 2 (.t 23) (.t 24)⟩,
    ⟨some 26, none, .faddr 1 (.t 25)⟩,
    ⟨some 27, none, .load false 1 (.t 26)⟩,
    ⟨some 28, none, .build [.int .i64 0, .int .i64 0] [(1, 1, .t 27)]⟩,
    ⟨none, none, .store 2 (.t 6) (.t 28)⟩])
  (.ret)))))⟩
theorem ok56 : FnOK Try.prog 56 v56 := ⟨⟨Try.f56, _, Try.func56, rfl, by kernel_rfl, rfl, by decide, by kernel_rfl, by kernel_rfl⟩⟩

/-- impl.LookTree -/
def v57 : VF := ⟨3, 31, [.cell 6 true 2], true,
  .seq (.ops [⟨some 3, none, .box (.t 0)⟩,
    ⟨some 6, none, .new [.int .i64 0, .int .i64 0]⟩])
  (.seq (.seq (.draw [⟨some 9, none, .load true 2 (.t 3)⟩,
    ⟨some 10, none, .mv (.t 1)⟩,
    ⟨some 11, none, .mv (.t 2)⟩,
    ⟨some 12, none, .call 115 [.t 11]⟩] [⟨some 13, none, .call 114 [.t 9, .t 10, .t 12]⟩,
    ⟨some 7, none, .mv (.t 13)⟩])
  (.seq (.ops [⟨some 14, none, .mv (.t 7)⟩,
    ⟨some 15, none, .bin .neq (.t 14) (.c (.int .i64 0))⟩])
  (.cond (.t 15)
   (.seq (.ops [⟨some 16, none, .mv (.t 7)⟩,
     ⟨some 17, none, .build [.int .i64 0, .int .i64 0] [(0, 1, .t 16)]⟩,
     ⟨none, none, .store 2 (.t 6) (.t 17)⟩])
   (.ret))
   (.skip))))
  (.seq (.ops [⟨some 18, none, .mv (.t 1)⟩,
    ⟨some 19, none, .mv (.t 2)⟩,
    ⟨some 20, none, .call 116 [.t 3, .t 18, .t 19]⟩,
    ⟨some 8, none, .mv (.t 20)⟩])
  (.seq (.seq (.ops [⟨some 21, none, .mv (.t 8)⟩,
    ⟨some 22, none, .bin .eql (.t 21) (.c (.int .i64 (-1)))⟩])
  (.cond (.t 22)
   (.seq (.ops [⟨some 23, none, .build [.int .i64 0, .int .i64 0] [(0, 1, .c (.int .i64 4))]⟩,
     ⟨none, none, .store 2 (.t 6) (.t 23)⟩])
   (.ret))
   (.skip)))
  (.seq (.ops [⟨some 24, none, .faddr 1 (.t 3)⟩,
    ⟨some 25, none, .load false 1 (.t 24)⟩,
    ⟨some 26, none, .mv (.t 8)⟩,
    ⟨some 27, none, .iaddr 2 (.t 25) (.t 26)⟩,
    ⟨some 28, none, .faddr 1 (.t 27)⟩,
    ⟨some 29, none, .load false 1 (.t 28)⟩,
    ⟨some 30, none, .build [.int .i64 0, .int .i64 0] [(1, 1, .t 29)]⟩,
    ⟨none, none, .store 2 (.t 6) (.t 30)⟩])
  (.ret)))))⟩
theorem ok57 : FnOK Try.prog 57 v57 := ⟨⟨Try.f57, _, Try.func57, rfl, by kernel_rfl, rfl, by decide, by kernel_rfl, by kernel_rfl⟩⟩

/-- spec.WalkTree -/
def v58 : VF := ⟨2, 15, [.cell 4 true 2], true,
  .seq (.ops [⟨some 2, none, .box (.t 0)⟩,
    ⟨some 4, none, .new [.int .i64 0, .slice none 0 0]⟩])
  (.seq (.seq (.ops [⟨some 6, none, .mv (.t 1)⟩,
    ⟨some 7, none, .call 112 [.t 2, .t 6, .c (.int .i64 0)]⟩,
    ⟨some 5, none, .mv (.t 7)⟩])
  (.seq (.ops [⟨some 8, none, .mv (.t 5)⟩,
    ⟨some 9, none, .bin .neq (.t 8) (.c (.int .i64 0))⟩])
  (.cond (.t 9)
   (.seq (.ops [⟨some 10, none, .mv (.t 5)⟩,
     ⟨some 11, none, .build [.int .i64 0, .slice none 0 0] [(0, 1, .t 10)]⟩,
     ⟨none, none, .store 2 (.t 4) (.t 11)⟩])
   (.ret))
   (.skip))))
  (.seq (.ops [⟨some 12, none, .mv (.t 1)⟩,
    ⟨some 13, none, .call 117 [.t 2, .t 12]⟩,
    ⟨some 14, none, .build [.int .i64 0, .slice none 0 0] [(1, 1, .t 13)]⟩,
    ⟨none, none, .store 2 (.t 4) (.t 14)⟩])
  (.ret)))⟩
theorem ok58 : FnOK Try.prog 58 v58 := ⟨⟨Try.f58, _, Try.func58, rfl, by kernel_rfl, rfl, by decide, by kernel_rfl, by kernel_rfl⟩⟩

/-- impl.WalkTree -/
def v59 : VF := ⟨2, 16, [.cell 4 true 2], true,
  .seq (.ops [⟨some 2, none, .box (.t 0)⟩,
    ⟨some 4, none, .new [.int .i64 0, .slice none 0 0]⟩])
  (.seq (.seq (.ops [⟨some 6, none, .load true 2 (.t 2)⟩,
    ⟨some 7, none, .mv (.t 1)⟩,
    ⟨some 8, none, .call 114 [.t 6, .t 7, .c (.bool true)]⟩,
    ⟨some 5, none, .mv (.t 8)⟩])
  (.seq (.ops [⟨some 9, none, .mv (.t 5)⟩,
    ⟨some 10, none, .bin .neq (.t 9) (.c (.int .i64 0))⟩])
  (.cond (.t 10)
   (.seq (.ops [⟨some 11, none, .mv (.t 5)⟩,
     ⟨some 12, none, .build [.int .i64 0, .slice none 0 0] [(0, 1, .t 11)]⟩,
     ⟨none, none, .store 2 (.t 4) (.t 12)⟩])
   (.ret))
   (.skip))))
  (.seq (.ops [⟨some 13, none, .mv (.t 1)⟩,
    ⟨some 14, none, .call 118 [.t 2, .t 13]⟩,
    ⟨some 15, none, .build [.int .i64 0, .slice none 0 0] [(1, 1, .t 14)]⟩,
    ⟨none, none, .store 2 (.t 4) (.t 15)⟩])
  (.ret)))⟩
theorem ok59 : FnOK Try.prog 59 v59 := ⟨⟨Try.f59, _, Try.func59, rfl, by kernel_rfl, rfl, by decide, by kernel_rfl, by kernel_rfl⟩⟩

/-- laws.eqIntsResult -/
def v60 : VF := ⟨2, 16, [.t 4], true,
  .seq (.ops [⟨some 2, none, .box (.t 0)⟩,
    ⟨some 3, none, .box (.t 1)⟩,
    ⟨some 4, none, .mv (.c (.bool false))⟩])
  (.seq (.seq (.ops [⟨some 5, none, .faddr 0 (.t 2)⟩,
    ⟨some 6, none, .load false 1 (.t 5)⟩,
    ⟨some 7, none, .faddr 0 (.t 3)⟩,
    ⟨some 8, none, .load false 1 (.t 7)⟩,
    ⟨some 9, none, .bin .neq (.t 6) (.t 8)⟩])
  (.cond (.t 9)
   (.seq (.ops [⟨some 4, none, .mv (.c (.bool false))⟩])
   (.ret))
   (.skip)))
  (.seq (.seq (.ops [⟨some 10, none, .faddr 1 (.t 2)⟩,
    ⟨some 11, none, .load false 1 (.t 10)⟩,
    ⟨some 12, none, .faddr 1 (.t 3)⟩,
    ⟨some 13, none, .load false 1 (.t 12)⟩,
    ⟨some 14, none, .call 119 [.t 11, .t 13]⟩,
    ⟨some 15, none, .not (.t 14)⟩])
  (.cond (.t 15)
   (.seq (.ops [⟨some 4, none, .mv (.c (.bool false))⟩])
   (.ret))
   (.skip)))
  (.seq (.ops [⟨some 4, none, .mv (.c (.bool true))⟩])
  (.ret))))⟩
theorem ok60 : FnOK Try.prog 60 v60 := ⟨⟨Try.f60, _, Try.func60, rfl, by kernel_rfl, rfl, by decide, by kernel_rfl, by kernel_rfl⟩⟩

/-- laws.markForest -/
def v61 : VF := ⟨2, 14, [.t 4], false,
  .seq (.ops [⟨some 2, none, .box (.t 0)⟩,
    ⟨some 4, none, .mv (.c (.int .i64 0))⟩])
  (.seq (.ops [⟨some 5, none, .faddr 0 (.t 2)⟩,
    ⟨some 6, none, .load false 1 (.t 5)⟩,
    ⟨some 7, none, .mv (.t 1)⟩,
    ⟨some 8, none, .call 120 [.t 6, .t 7]⟩,
    ⟨some 1, none, .mv (.t 8)⟩])
  (.seq (.ops [⟨some 9, none, .faddr 1 (.t 2)⟩,
    ⟨some 10, none, .load false 1 (.t 9)⟩,
    ⟨some 11, none, .mv (.t 1)⟩,
    ⟨some 12, none, .call 33 [.t 10, .t 11]⟩,
    ⟨some 1, none, .mv (.t 12)⟩])
  (.seq (.ops [⟨some 13, none, .mv (.t 1)⟩,
    ⟨some 4, none, .mv (.t 13)⟩])
  (.ret))))⟩
theorem ok61 : FnOK Try.prog 61 v61 := ⟨⟨Try.f61, _, Try.func61, rfl, by kernel_rfl, rfl, by decide, by kernel_rfl, by kernel_rfl⟩⟩

/-- laws.markIntsResult -/
def v62 : VF := ⟨2, 10, [.t 4], false,
  .seq (.ops [⟨some 2, none, .box (.t 0)⟩,
    ⟨some 4, none, .mv (.c (.int .i64 0))⟩])
  (.seq (.ops [⟨some 5, none, .faddr 1 (.t 2)⟩,
    ⟨some 6, none, .load false 1 (.t 5)⟩,
    ⟨some 7, none, .mv (.t 1)⟩,
    ⟨some 8, none, .call 121 [.t 6, .t 7]⟩,
    ⟨some 1, none, .mv (.t 8)⟩])
  (.seq (.ops [⟨some 9, none, .mv (.t 1)⟩,
    ⟨some 4, none, .mv (.t 9)⟩])
  (.ret)))⟩
theorem ok62 : FnOK Try.prog 62 v62 := ⟨⟨Try.f62, _, Try.func62, rfl, by kernel_rfl, rfl, by decide, by kernel_rfl, by kernel_rfl⟩⟩

/-- laws.heldIntsResult -/
def v63 : VF := ⟨2, 12, [.t 4], true,
  .seq (.ops [⟨some 2, none, .box (.t 0)⟩,
    ⟨some 4, none, .mv (.c (.int .i64 0))⟩])
  (.seq (.ops [⟨some 5, none, .faddr 1 (.t 2)⟩,
    ⟨some 6, none, .load false 1 (.t 5)⟩,
    ⟨some 7, none, .mv (.t 1)⟩,
    ⟨some 8, none, .call 122 [.t 6, .t 7]⟩,
    ⟨some 1, none, .mv (.t 8)⟩])
  (.seq (.seq (.ops [⟨some 9, none, .mv (.t 1)⟩,
    ⟨some 10, none, .bin .lss (.t 9) (.c (.int .i64 0))⟩])
  (.cond (.t 10)
   (.seq (.ops [⟨some 4, none, .mv (.c (.int .i64 (-1)))⟩])
   (.ret))
   (.skip)))
  (.seq (.ops [⟨some 11, none, .mv (.t 1)⟩,
    ⟨some 4, none, .mv (.t 11)⟩])
  (.ret))))⟩
theorem ok63 : FnOK Try.prog 63 v63 := ⟨⟨Try.f63, _, Try.func63, rfl, by kernel_rfl, rfl, by decide, by kernel_rfl, by kernel_rfl⟩⟩

/-- spec.ShareTree -/
def v64 : VF := ⟨2, 37, [.cell 4 true 4], true,
  .seq (.ops [⟨some 2, none, .box (.t 0)⟩,
    ⟨some 4, none, .new [.int .i64 0, .int .i64 0, .slice none 0 0, .slice none 0 0]⟩])
  (.seq (.seq (.ops [⟨some 7, none, .mv (.t 1)⟩,
    ⟨some 8, none, .call 112 [.t 2, .t 7, .c (.int .i64 0)]⟩,
    ⟨some 5, none, .mv (.t 8)⟩])
  (.seq (.ops [⟨some 9, none, .mv (.t 5)⟩,
    ⟨some 10, none, .bin .neq (.t 9) (.c (.int .i64 0))⟩])
  (.cond (.t 10)
   (.seq (.ops [⟨some 11, none, .mv (.t 5)⟩,
     ⟨some 12, none, .call 98 [.t 11]⟩,
     ⟨none, none, .store 4 (.t 4) (.t 12)⟩])
   (.ret))
   (.skip))))
  (.seq (.ops [⟨some 13, none, .load true 2 (.t 2)⟩,
    ⟨some 14, none, .call 123 [.t 13]⟩,
    ⟨some 6, none, .new [.slice none 0 0, .slice none 0 0]⟩,
    ⟨none, none, .store 2 (.t 6) (.t 14)⟩])
  (.seq (.seq (.ops [⟨some 15, none, .mv (.t 1)⟩,
    ⟨some 16, none, .bin .geq (.t 15) (.c (.int .i64 0))⟩])
  (.cond (.t 16)
   (.seq (.seq (.ops [⟨some 17, none, .faddr 0 (.t 2)⟩,
     ⟨some 18, none, .load false 1 (.t 17)⟩,
     ⟨some 19, none, .mv (.t 1)⟩,
     ⟨some 20, none, .iaddr 3 (.t 18) (.t 19)⟩,
     ⟨some 21, none, .faddr 0 (.t 20)⟩,
     ⟨some 22, none, .load false 1 (.t 21)⟩,
     ⟨some 23, none, .bin .geq (.t 22) (.c (.int .i64 200))⟩])
   (.cond (.t 23)
    (.seq (.ops [⟨some 24, none, .call 98 [.c (.int .i64 2)]⟩,
      ⟨none, none, .store 4 (.t 4) (.t 24)⟩])
    (.ret))
    (.skip)))
   (.ops [⟨some 25, none, .faddr 0 (.t 6)⟩,
     ⟨some 26, none, .load false 1 (.t 25)⟩,
     ⟨some 27, none, .mv (.t 1)⟩,
     ⟨some 28, none, .iaddr 3 (.t 26) (.t 27)⟩,
     ⟨some 29, none, .faddr 0 (.t 28)⟩,
     ⟨some 30, none, .load false 1 (.t 29)⟩,
     ⟨some 31, none, .bin .add (.t 30) (.c (.int .i64 1))⟩,
     ⟨some 32, none, .iaddr 3 (.t 26) (.t 27)⟩,
     ⟨some 33, none, .faddr 0 (.t 32)⟩,
     ⟨none, none, .store 1 (.t 33) (.t 31)⟩]))
   (.skip)))
  (.seq (.ops [⟨some 34, none, .mv (.t 1)⟩,
    ⟨some 35, none, .load true 2 (.t 6)⟩,
    ⟨some 36, none, .build [.int .i64 0, .int .i64 0, .slice none 0 0, .slice none 0 0] [(1, 1, .t 34), (2, 2, .t 35)]⟩,
    ⟨none, none, .store 4 (.t 4) (.t 36)⟩])
  (.ret)))))⟩
theorem ok64 : FnOK Try.prog 64 v64 := ⟨⟨Try.f64, _, Try.func64, rfl, by kernel_rfl, rfl, by decide, by kernel_rfl, by kernel_rfl⟩⟩

/-- impl.ShareTree -/
def v65 : VF := ⟨2, 28, [.cell 4 true 4], true,
  .seq (.ops [⟨some 2, none, .box (.t 0)⟩,
    ⟨some 4, none, .new [.int .i64 0, .int .i64 0, .slice none 0 0, .slice none 0 0]⟩])
  (.seq (.seq (.ops [⟨some 8, none, .load true 2 (.t 2)⟩,
    ⟨some 9, none, .mv (.t 1)⟩,
    ⟨some 10, none, .call 114 [.t 8, .t 9, .c (.bool true)]⟩,
    ⟨some 5, none, .mv (.t 10)⟩])
  (.seq (.ops [⟨some 11, none, .mv (.t 5)⟩,
    ⟨some 12, none, .bin .neq (.t 11) (.c (.int .i64 0))⟩])
  (.cond (.t 12)
   (.seq (.ops [⟨some 13, none, .mv (.t 5)⟩,
     ⟨some 14, none, .build [.int .i64 0, .int .i64 0, .slice none 0 0, .slice none 0 0] [(0, 1, .t 13)]⟩,
     ⟨none, none, .store 4 (.t 4) (.t 14)⟩])
   (.ret))
   (.skip))))
  (.seq (.ops [⟨some 15, none, .load true 2 (.t 2)⟩,
    ⟨some 16, none, .call 124 [.t 15]⟩,
    ⟨some 6, none, .new [.slice none 0 0, .slice none 0 0]⟩,
    ⟨none, none, .store 2 (.t 6) (.t 16)⟩])
  (.seq (.seq (.ops [⟨some 17, none, .mv (.t 1)⟩,
    ⟨some 18, none, .bin .neq (.t 17) (.c (.int .i64 (-1)))⟩])
  (.cond (.t 18)
   (.seq (.ops [⟨some 19, none, .mv (.t 1)⟩,
     ⟨some 20, none, .call 125 [.t 6, .t 19]⟩,
     ⟨some 7, none, .mv (.t 20)⟩])
   (.seq (.ops [⟨some 21, none, .mv (.t 7)⟩,
     ⟨some 22, none, .bin .neq (.t 21) (.c (.int .i64 0))⟩])
   (.cond (.t 22)
    (.seq (.ops [⟨some 23, none, .mv (.t 7)⟩,
      ⟨some 24, none, .build [.int .i64 0, .int .i64 0, .slice none 0 0, .slice none 0 0] [(0, 1, .t 23)]⟩,
      ⟨none, none, .store 4 (.t 4) (.t 24)⟩])
    (.ret))
    (.skip))))
   (.skip)))
  (.seq (.ops [⟨some 25, none, .mv (.t 1)⟩,
    ⟨some 26, none, .load true 2 (.t 6)⟩,
    ⟨some 27, none, .build [.int .i64 0, .int .i64 0, .slice none 0 0, .slice none 0 0] [(1, 1, .t 25), (2, 2, .t 26)]⟩,
    ⟨none, none, .store 4 (.t 4) (.t 27)⟩])
  (.ret)))))⟩
theorem ok65 : FnOK Try.prog 65 v65 := ⟨⟨Try.f65, _, Try.func65, rfl, by kernel_rfl, rfl, by decide, by kernel_rfl, by kernel_rfl⟩⟩

/-- spec.DropTree -/
def v66 : VF := ⟨2, 21, [.cell 4 true 4], true,
  .seq (.ops [⟨some 2, none, .box (.t 0)⟩,
    ⟨some 4, none, .new [.int .i64 0, .int .i64 0, .slice none 0 0, .slice none 0 0]⟩])
  (.seq (.seq (.ops [⟨some 7, none, .mv (.t 1)⟩,
    ⟨some 8, none, .call 112 [.t 2, .t 7, .c (.int .i64 0)]⟩,
    ⟨some 5, none, .mv (.t 8)⟩])
  (.seq (.ops [⟨some 9, none, .mv (.t 5)⟩,
    ⟨some 10, none, .bin .neq (.t 9) (.c (.int .i64 0))⟩])
  (.cond (.t 10)
   (.seq (.ops [⟨some 11, none, .mv (.t 5)⟩,
     ⟨some 12, none, .call 98 [.t 11]⟩,
     ⟨none, none, .store 4 (.t 4) (.t 12)⟩])
   (.ret))
   (.skip))))
  (.seq (.ops [⟨some 13, none, .load true 2 (.t 2)⟩,
    ⟨some 14, none, .call 123 [.t 13]⟩,
    ⟨some 6, none, .new [.slice none 0 0, .slice none 0 0]⟩,
    ⟨none, none, .store 2 (.t 6) (.t 14)⟩])
  (.seq (.seq (.ops [⟨some 15, none, .mv (.t 1)⟩,
    ⟨some 16, none, .bin .geq (.t 15) (.c (.int .i64 0))⟩])
  (.cond (.t 16)
   (.ops [⟨some 17, none, .mv (.t 1)⟩,
     ⟨some 18, none, .call 126 [.t 6, .t 17]⟩])
   (.skip)))
  (.seq (.ops [⟨some 19, none, .load true 2 (.t 6)⟩,
    ⟨some 20, none, .build [.int .i64 0, .int .i64 0, .slice none 0 0, .slice none 0 0] [(1, 1, .c (.int .i64 (-1))), (2, 2, .t 19)]⟩,
    ⟨none, none, .store 4 (.t 4) (.t 20)⟩])
  (.ret)))))⟩
theorem ok66 : FnOK Try.prog 66 v66 := ⟨⟨Try.f66, _, Try.func66, rfl, by kernel_rfl, rfl, by decide, by kernel_rfl, by kernel_rfl⟩⟩

/-- impl.DropTree -/
def v67 : VF := ⟨2, 22, [.cell 4 true 4], true,
  .seq (.ops [⟨some 2, none, .box (.t 0)⟩,
    ⟨some 4, none, .new [.int .i64 0, .int .i64 0, .slice none 0 0, .slice none 0 0]⟩])
  (.seq (.seq (.ops [⟨some 7, none, .load true 2 (.t 2)⟩,
    ⟨some 8, none, .mv (.t 1)⟩,
    ⟨some 9, none, .call 114 [.t 7, .t 8, .c (.bool true)]⟩,
    ⟨some 5, none, .mv (.t 9)⟩])
  (.seq (.ops [⟨some 10, none, .mv (.t 5)⟩,
    ⟨some 11, none, .bin .neq (.t 10) (.c (.int .i64 0))⟩])
  (.cond (.t 11)
   (.seq (.ops [⟨some 12, none, .mv (.t 5)⟩,
     ⟨some 13, none, .build [.int .i64 0, .int .i64 0, .slice none 0 0, .slice none 0 0] [(0, 1, .t 12)]⟩,
     ⟨none, none, .store 4 (.t 4) (.t 13)⟩])
   (.ret))
   (.skip))))
  (.seq (.ops [⟨some 14, none, .load true 2 (.t 2)⟩,
    ⟨some 15, none, .call 124 [.t 14]⟩,
    ⟨some 6, none, .new [.slice none 0 0, .slice none 0 0]⟩,
    ⟨none, none, .store 2 (.t 6) (.t 15)⟩])
  (.seq (.seq (.ops [⟨some 16, none, .mv (.t 1)⟩,
    ⟨some 17, none, .bin .neq (.t 16) (.c (.int .i64 (-1)))⟩])
  (.cond (.t 17)
   (.ops [⟨some 18, none, .mv (.t 1)⟩,
     ⟨some 19, none, .call 127 [.t 6, .t 18]⟩])
   (.skip)))
  (.seq (.ops [⟨some 20, none, .load true 2 (.t 6)⟩,
    ⟨some 21, none, .build [.int .i64 0, .int .i64 0, .slice none 0 0, .slice none 0 0] [(1, 1, .c (.int .i64 (-1))), (2, 2, .t 20)]⟩,
    ⟨none, none, .store 4 (.t 4) (.t 21)⟩])
  (.ret)))))⟩
theorem ok67 : FnOK Try.prog 67 v67 := ⟨⟨Try.f67, _, Try.func67, rfl, by kernel_rfl, rfl, by decide, by kernel_rfl, by kernel_rfl⟩⟩

/-- spec.ClearTree -/
def v68 : VF := ⟨3, 38, [.cell 6 true 4], true,
  .seq (.ops [⟨some 3, none, .box (.t 0)⟩,
    ⟨some 6, none, .new [.int .i64 0, .int .i64 0, .slice none 0 0, .slice none 0 0]⟩])
  (.seq (.seq (.ops [⟨some 11, none, .mv (.t 1)⟩,
    ⟨some 12, none, .mv (.t 2)⟩,
    ⟨some 13, none, .call 112 [.t 3, .t 11, .t 12]⟩,
    ⟨some 7, none, .mv (.t 13)⟩])
  (.seq (.ops [⟨some 14, none, .mv (.t 7)⟩,
    ⟨some 15, none, .bin .neq (.t 14) (.c (.int .i64 0))⟩])
  (.cond (.t 15)
   (.seq (.ops [⟨some 16, none, .mv (.t 7)⟩,
     ⟨some 17, none, .call 98 [.t 16]⟩,
     ⟨none, none, .store 4 (.t 6) (.t 17)⟩])
   (.ret))
   (.skip))))
  (.seq (.seq (.ops [⟨some 18, none, .mv (.t 1)⟩,
    ⟨some 19, none, .mv (.t 2)⟩,
    ⟨some 20, none, .call 113 [.t 3, .t 18, .t 19]⟩,
    ⟨some 21, none, .bin .lss (.t 20) (.c (.int .i64 0))⟩])
  (.cond (.t 21)
   (.seq (.ops [⟨some 22, none, .call 98 [.c (.int .i64 4)]⟩,
     ⟨none, none, .store 4 (.t 6) (.t 22)⟩])
   (.ret))
   (.skip)))
  (.seq (.ops [⟨some 23, none, .load true 2 (.t 3)⟩,
    ⟨some 24, none, .call 123 [.t 23]⟩,
    ⟨some 8, none, .new [.slice none 0 0, .slice none 0 0]⟩,
    ⟨none, none, .store 2 (.t 8) (.t 24)⟩])
  (.seq (.ops [⟨some 26, none, .mv (.t 1)⟩,
    ⟨some 27, none, .mv (.t 2)⟩,
    ⟨some 28, none, .call 128 [.t 8, .t 26, .t 27, .c (.int .i64 (-1))]⟩,
    ⟨some 25, none, .mv (.t 28)⟩,
    ⟨some 29, none, .ext 0 (.t 25)⟩,
    ⟨some 30, none, .ext 1 (.t 25)⟩,
    ⟨some 9, none, .mv (.t 29)⟩,
    ⟨some 10, none, .mv (.t 30)⟩])
  (.seq (.seq (.ops [⟨some 31, none, .mv (.t 10)⟩,
    ⟨some 32, none, .bin .neq (.t 31) (.c (.int .i64 0))⟩])
  (.cond (.t 32)
   (.seq (.ops [⟨some 33, none, .mv (.t 10)⟩,
     ⟨some 34, none, .call 98 [.t 33]⟩,
     ⟨none, none, .store 4 (.t 6) (.t 34)⟩])
   (.ret))
   (.skip)))
  (.seq (.ops [⟨some 35, none, .mv (.t 9)⟩,
    ⟨some 36, none, .load true 2 (.t 8)⟩,
    ⟨some 37, none, .build [.int .i64 0, .int .i64 0, .slice none 0 0, .slice none 0 0] [(1, 1, .t 35), (2, 2, .t 36)]⟩,
    ⟨none, none, .store 4 (.t 6) (.t 37)⟩])
  (.ret)))))))⟩
theorem ok68 : FnOK Try.prog 68 v68 := ⟨⟨Try.f68, _, Try.func68, rfl, by kernel_rfl, rfl, by decide, by kernel_rfl, by kernel_rfl⟩⟩

/-- impl.ClearTree -/
def v69 : VF := ⟨3, 42, [.cell 6 true 4], true,
  .seq (.ops [⟨some 3, none, .box (.t 0)⟩,
    ⟨some 6, none, .new [.int .i64 0, .int .i64 0, .slice none 0 0, .slice none 0 0]⟩])
  (.seq (.draw [⟨some 11, none, .load true 2 (.t 3)⟩,
    ⟨some 12, none, .mv (.t 1)⟩,
    ⟨some 13, none, .mv (.t 2)⟩,
    ⟨some 14, none, .call 115 [.t 13]⟩] [⟨some 15, none, .call 114 [.t 11, .t 12, .t 14]⟩,
    ⟨some 7, none, .mv (.t 15)⟩])
  (.seq (.block 0 (.seq (.ops [⟨some 17, none, .mv (.t 7)⟩,
     ⟨some 18, none, .bin .neq (.t 17) (.c (.int .i64 0))⟩,
     ⟨some 16, none, .mv (.t 18)⟩])
   (.cond (.t 16)
    (.seq (.ops [⟨some 19, none, .mv (.t 7)⟩,
      ⟨some 20, none, .build [.int .i64 0, .int .i64 0, .slice none 0 0, .slice none 0 0] [(0, 1, .t 19)]⟩,
      ⟨none, none, .store 4 (.t 6) (.t 20)⟩])
    (.ret))
    (.seq (.ops [⟨some 22, none, .mv (.t 1)⟩,
      ⟨some 23, none, .mv (.t 2)⟩,
      ⟨some 24, none, .call 116 [.t 3, .t 22, .t 23]⟩,
      ⟨some 25, none, .bin .eql (.t 24) (.c (.int .i64 (-1)))⟩,
      ⟨some 21, none, .mv (.t 25)⟩])
    (.cond (.t 21)
     (.seq (.ops [⟨some 26, none, .build [.int .i64 0, .int .i64 0, .slice none 0 0, .slice none 0 0] [(0, 1, .c (.int .i64 4))]⟩,
       ⟨none, none, .store 4 (.t 6) (.t 26)⟩])
     (.ret))
     (.skip))))))
  (.seq (.ops [⟨some 27, none, .load true 2 (.t 3)⟩,
    ⟨some 28, none, .call 124 [.t 27]⟩,
    ⟨some 8, none, .new [.slice none 0 0, .slice none 0 0]⟩,
    ⟨none, none, .store 2 (.t 8) (.t 28)⟩])
  (.seq (.ops [⟨some 30, none, .mv (.t 1)⟩,
    ⟨some 31, none, .mv (.t 2)⟩,
    ⟨some 32, none, .call 129 [.t 8, .t 30, .t 31, .c (.int .i64 (-1))]⟩,
    ⟨some 29, none, .mv (.t 32)⟩,
    ⟨some 33, none, .ext 0 (.t 29)⟩,
    ⟨some 34, none, .ext 1 (.t 29)⟩,
    ⟨some 9, none, .mv (.t 33)⟩,
    ⟨some 10, none, .mv (.t 34)⟩])
  (.seq (.seq (.ops [⟨some 35, none, .mv (.t 10)⟩,
    ⟨some 36, none, .bin .neq (.t 35) (.c (.int .i64 0))⟩])
  (.cond (.t 36)
   (.seq (.ops [⟨some 37, none, .mv (.t 10)⟩,
     ⟨some 38, none, .build [.int .i64 0, .int .i64 0, .slice none 0 0, .slice none 0 0] [(0, 1, .t 37)]⟩,
     ⟨none, none, .store 4 (.t 6) (.t 38)⟩])
   (.ret))
   (.skip)))
  (.seq (.ops [⟨some 39, none, .mv (.t 9)⟩,
    ⟨some 40, none, .load true 2 (.t 8)⟩,
    ⟨some 41, none, .build [.int .i64 0, .int .i64 0, .slice none 0 0, .slice none 0 0] [(1, 1, .t 39), (2, 2, .t 40)]⟩,
    ⟨none, none, .store 4 (.t 6) (.t 41)⟩])
  (.ret)))))))⟩
theorem ok69 : FnOK Try.prog 69 v69 := ⟨⟨Try.f69, _, Try.func69, rfl, by kernel_rfl, rfl, by decide, by kernel_rfl, by kernel_rfl⟩⟩

/-- spec.SetTree -/
def v70 : VF := ⟨4, 53, [.cell 8 true 4], true,
  .seq (.ops [⟨some 4, none, .box (.t 0)⟩,
    ⟨some 8, none, .new [.int .i64 0, .int .i64 0, .slice none 0 0, .slice none 0 0]⟩])
  (.seq (.seq (.ops [⟨some 14, none, .mv (.t 1)⟩,
    ⟨some 15, none, .mv (.t 2)⟩,
    ⟨some 16, none, .call 112 [.t 4, .t 14, .t 15]⟩,
    ⟨some 9, none, .mv (.t 16)⟩])
  (.seq (.ops [⟨some 17, none, .mv (.t 9)⟩,
    ⟨some 18, none, .bin .neq (.t 17) (.c (.int .i64 0))⟩])
  (.cond (.t 18)
   (.seq (.ops [⟨some 19, none, .mv (.t 9)⟩,
     ⟨some 20, none, .call 98 [.t 19]⟩,
     ⟨none, none, .store 4 (.t 8) (.t 20)⟩])
   (.ret))
   (.skip))))
  (.seq (.seq (.ops [⟨some 21, none, .mv (.t 3)⟩,
    ⟨some 22, none, .call 88 [.t 21]⟩,
    ⟨some 23, none, .not (.t 22)⟩])
  (.cond (.t 23)
   (.seq (.ops [⟨some 24, none, .call 98 [.c (.int .i64 3)]⟩,
     ⟨none, none, .store 4 (.t 8) (.t 24)⟩])
   (.ret))
   (.skip)))
  (.seq (.ops [⟨some 25, none, .load true 2 (.t 4)⟩,
    ⟨some 26, none, .call 123 [.t 25]⟩,
    ⟨some 10, none, .new [.slice none 0 0, .slice none 0 0]⟩,
    ⟨none, none, .store 2 (.t 10) (.t 26)⟩])
  (.seq (.ops [⟨some 27, none, .faddr 1 (.t 10)⟩,
    ⟨some 28, none, .load false 1 (.t 27)⟩,
    ⟨some 29, none, .call 89 [.t 28]⟩,
    ⟨some 11, none, .mv (.t 29)⟩])
  (.seq (.seq (.ops [⟨some 30, none, .mv (.t 11)⟩,
    ⟨some 31, none, .bin .lss (.t 30) (.c (.int .i64 0))⟩])
  (.cond (.t 31)
   (.seq (.ops [⟨some 32, none, .call 98 [.c (.int .i64 8)]⟩,
     ⟨none, none, .store 4 (.t 8) (.t 32)⟩])
   (.ret))
   (.skip)))
  (.seq (.ops [⟨some 33, none, .faddr 1 (.t 10)⟩,
    ⟨some 34, none, .load false 1 (.t 33)⟩,
    ⟨some 35, none, .mv (.t 11)⟩,
    ⟨some 36, none, .mv (.t 3)⟩,
    ⟨some 37, none, .build [.int .i64 0, .int .i64 0] [(0, 1, .c (.int .i64 1)), (1, 1, .t 36)]⟩,
    ⟨some 38, none, .iaddr 2 (.t 34) (.t 35)⟩,
    ⟨none, none, .store 2 (.t 38) (.t 37)⟩])
  (.seq (.ops [⟨some 40, none, .mv (.t 1)⟩,
    ⟨some 41, none, .mv (.t 2)⟩,
    ⟨some 42, none, .mv (.t 11)⟩,
    ⟨some 43, none, .call 128 [.t 10, .t 40, .t 41, .t 42]⟩,
    ⟨some 39, none, .mv (.t 43)⟩,
    ⟨some 44, none, .ext 0 (.t 39)⟩,
    ⟨some 45, none, .ext 1 (.t 39)⟩,
    ⟨some 12, none, .mv (.t 44)⟩,
    ⟨some 13, none, .mv (.t 45)⟩])
  (.seq (.seq (.ops [⟨some 46, none, .mv (.t 13)⟩,
    ⟨some 47, none, .bin .neq (.t 46) (.c (.int .i64 0))⟩])
  (.cond (.t 47)
   (.seq (.ops [⟨some 48, none, .mv (.t 13)⟩,
     ⟨some 49, none, .call 98 [.t 48]⟩,
     ⟨none, none, .store 4 (.t 8) (.t 49)⟩])
   (.ret))
   (.skip)))
  (.seq (.ops [⟨some 50, none, .mv (.t 12)⟩,
    ⟨some 51, none, .load true 2 (.t 10)⟩,
    ⟨some 52, none, .build [.int .i64 0, .int .i64 0, .slice none 0 0, .slice none 0 0] [(1, 1, .t 50), (2, 2, .t 51)]⟩,
    ⟨none, none, .store 4 (.t 8) (.t 52)⟩])
  (.ret))))))))))⟩
theorem ok70 : FnOK Try.prog 70 v70 := ⟨⟨Try.f70, _, Try.func70, rfl, by kernel_rfl, rfl, by decide, by kernel_rfl, by kernel_rfl⟩⟩

/-- impl.SetTree -/
def v71 : VF := ⟨4, 55, [.cell 8 true 4], true,
  .seq (.ops [⟨some 4, none, .box (.t 0)⟩,
    ⟨some 8, none, .new [.int .i64 0, .int .i64 0, .slice none 0 0, .slice none 0 0]⟩])
  (.seq (.seq (.draw [⟨some 15, none, .load true 2 (.t 4)⟩,
    ⟨some 16, none, .mv (.t 1)⟩,
    ⟨some 17, none, .mv (.t 2)⟩,
    ⟨some 18, none, .call 115 [.t 17]⟩,
    ⟨some 19, none, .mv (.t 18)⟩,
    ⟨some 20, some (19, true), .mv (.t 3)⟩,
    ⟨some 21, some (19, true), .call 90 [.t 20]⟩,
    ⟨some 22, none, .pick (.t 19) (.t 21) (.c (.bool false))⟩] [⟨some 23, none, .call 114 [.t 15, .t 16, .t 22]⟩,
    ⟨some 9, none, .mv (.t 23)⟩])
  (.seq (.ops [⟨some 24, none, .mv (.t 9)⟩,
    ⟨some 25, none, .bin .neq (.t 24) (.c (.int .i64 0))⟩])
  (.cond (.t 25)
   (.seq (.ops [⟨some 26, none, .mv (.t 9)⟩,
     ⟨some 27, none, .build [.int .i64 0, .int .i64 0, .slice none 0 0, .slice none 0 0] [(0, 1, .t 26)]⟩,
     ⟨none, none, .store 4 (.t 8) (.t 27)⟩])
   (.ret))
   (.skip))))
  (.seq (.ops [⟨some 28, none, .load true 2 (.t 4)⟩,
    ⟨some 29, none, .call 124 [.t 28]⟩,
    ⟨some 10, none, .new [.slice none 0 0, .slice none 0 0]⟩,
    ⟨none, none, .store 2 (.t 10) (.t 29)⟩])
  (.seq (.ops [⟨some 31, none, .faddr 1 (.t 10)⟩,
    ⟨some 32, none, .load false 1 (.t 31)⟩,
    ⟨some 33, none, .mv (.t 3)⟩,
    ⟨some 34, none, .call 92 [.t 32, .t 33]⟩,
    ⟨some 30, none, .mv (.t 34)⟩,
    ⟨some 35, none, .ext 0 (.t 30)⟩,
    ⟨some 36, none, .ext 1 (.t 30)⟩,
    ⟨some 11, none, .mv (.t 35)⟩,
    ⟨some 12, none, .mv (.t 36)⟩])
  (.seq (.seq (.ops [⟨some 37, none, .mv (.t 12)⟩,
    ⟨some 38, none, .bin .neq (.t 37) (.c (.int .i64 0))⟩])
  (.cond (.t 38)
   (.seq (.ops [⟨some 39, none, .mv (.t 12)⟩,
     ⟨some 40, none, .build [.int .i64 0, .int .i64 0, .slice none 0 0, .slice none 0 0] [(0, 1, .t 39)]⟩,
     ⟨none, none, .store 4 (.t 8) (.t 40)⟩])
   (.ret))
   (.skip)))
  (.seq (.ops [⟨some 42, none, .mv (.t 1)⟩,
    ⟨some 43, none, .mv (.t 2)⟩,
    ⟨some 44, none, .mv (.t 11)⟩,
    ⟨some 45, none, .call 129 [.t 10, .t 42, .t 43, .t 44]⟩,
    ⟨some 41, none, .mv (.t 45)⟩,
    ⟨some 46, none, .ext 0 (.t 41)⟩,
    ⟨some 47, none, .ext 1 (.t 41)⟩,
    ⟨some 13, none, .mv (.t 46)⟩,
    ⟨some 14, none, .mv (.t 47)⟩])
  (.seq (.seq (.ops [⟨some 48, none, .mv (.t 14)⟩,
    ⟨some 49, none, .bin .neq (.t 48) (.c (.int .i64 0))⟩])
  (.cond (.t 49)
   (.seq (.ops [⟨some 50, none, .mv (.t 14)⟩,
     ⟨some 51, none, .build [.int .i64 0, .int .i64 0, .slice none 0 0, .slice none 0 0] [(0, 1, .t 50)]⟩,
     ⟨none, none, .store 4 (.t 8) (.t 51)⟩])
   (.ret))
   (.skip)))
  (.seq (.ops [⟨some 52, none, .mv (.t 13)⟩,
    ⟨some 53, none, .load true 2 (.t 10)⟩,
    ⟨some 54, none, .build [.int .i64 0, .int .i64 0, .slice none 0 0, .slice none 0 0] [(1, 1, .t 52), (2, 2, .t 53)]⟩,
    ⟨none, none, .store 4 (.t 8) (.t 54)⟩])
  (.ret))))))))⟩
theorem ok71 : FnOK Try.prog 71 v71 := ⟨⟨Try.f71, _, Try.func71, rfl, by kernel_rfl, rfl, by decide, by kernel_rfl, by kernel_rfl⟩⟩

/-- spec.l1In -/
def v75 : VF := ⟨3, 15, [.t 6], true,
  .seq (.ops [⟨some 6, none, .mv (.c (.bool false))⟩])
  (.seq (.ops [⟨some 7, none, .mv (.t 0)⟩,
    ⟨some 8, none, .mv (.t 1)⟩,
    ⟨some 9, none, .bin .geq (.t 7) (.t 8)⟩,
    ⟨some 10, none, .mv (.t 9)⟩,
    ⟨some 11, some (10, true), .mv (.t 0)⟩,
    ⟨some 12, some (10, true), .mv (.t 2)⟩,
    ⟨some 13, some (10, true), .bin .leq (.t 11) (.t 12)⟩,
    ⟨some 14, none, .pick (.t 10) (.t 13) (.c (.bool false))⟩,
    ⟨some 6, none, .mv (.t 14)⟩])
  (.ret))⟩
theorem ok75 : FnOK Try.prog 75 v75 := ⟨⟨Try.f75, _, Try.func75, rfl, by kernel_rfl, rfl, by decide, by kernel_rfl, by kernel_rfl⟩⟩

/-- spec.l3Bad -/
def v76 : VF := ⟨1, 5, [.cell 2 true 3], true,
  .seq (.ops [⟨some 2, none, .new [.int .i64 0, .int .i64 0, .slice none 0 0]⟩])
  (.seq (.ops [⟨some 3, none, .mv (.t 0)⟩,
    ⟨some 4, none, .build [.int .i64 0, .int .i64 0, .slice none 0 0] [(0, 1, .t 3)]⟩,
    ⟨none, none, .store 3 (.t 2) (.t 4)⟩])
  (.ret))⟩
theorem ok76 : FnOK Try.prog 76 v76 := ⟨⟨Try.f76, _, Try.func76, rfl, by kernel_rfl, rfl, by decide, by kernel_rfl, by kernel_rfl⟩⟩

/-- impl.within -/
def v77 : VF := ⟨3, 15, [.t 6], true,
  .seq (.ops [⟨some 6, none, .mv (.c (.bool false))⟩])
  (.seq (.ops [⟨some 7, none, .mv (.t 1)⟩,
    ⟨some 8, none, .mv (.t 0)⟩,
    ⟨some 9, none, .bin .leq (.t 7) (.t 8)⟩,
    ⟨some 10, none, .mv (.t 9)⟩,
    ⟨some 11, some (10, true), .mv (.t 0)⟩,
    ⟨some 12, some (10, true), .mv (.t 2)⟩,
    ⟨some 13, some (10, true), .bin .leq (.t 11) (.t 12)⟩,
    ⟨some 14, none, .pick (.t 10) (.t 13) (.c (.bool false))⟩,
    ⟨some 6, none, .mv (.t 14)⟩])
  (.ret))⟩
theorem ok77 : FnOK Try.prog 77 v77 := ⟨⟨Try.f77, _, Try.func77, rfl, by kernel_rfl, rfl, by decide, by kernel_rfl, by kernel_rfl⟩⟩

/-- laws.heldBlockS -/
def l78_0 : VC :=
  .seq (.seq (.ops [⟨some 6, none, .mv (.t 5)⟩,
    ⟨some 7, none, .mv (.t 0)⟩,
    ⟨some 8, none, .len (.t 7)⟩,
    ⟨some 9, none, .bin .lss (.t 6) (.t 8)⟩])
  (.cond (.t 9)
   (.skip)
   (.exit 0)))
  (.seq (.block 1 (.seq (.seq (.ops [⟨some 12, none, .mv (.t 0)⟩,
     ⟨some 13, none, .mv (.t 5)⟩,
     ⟨some 14, none, .iaddr 2 (.t 12) (.t 13)⟩,
     ⟨some 15, none, .faddr 0 (.t 14)⟩,
     ⟨some 16, none, .load false 1 (.t 15)⟩,
     ⟨some 17, none, .mv (.t 1)⟩,
     ⟨some 18, none, .bin .neq (.t 16) (.t 17)⟩])
   (.cond (.t 18)
    (.seq (.ops [⟨some 4, none, .mv (.c (.int .i64 (-1)))⟩])
    (.ret))
    (.skip)))
   (.seq (.ops [⟨some 19, none, .mv (.t 1)⟩,
     ⟨some 20, none, .bin .add (.t 19) (.c (.int .i64 1))⟩,
     ⟨some 1, none, .mv (.t 20)⟩])
   (.seq (.seq (.ops [⟨some 21, none, .mv (.t 0)⟩,
     ⟨some 22, none, .mv (.t 5)⟩,
     ⟨some 23, none, .iaddr 2 (.t 21) (.t 22)⟩,
     ⟨some 24, none, .faddr 1 (.t 23)⟩,
     ⟨some 25, none, .load false 1 (.t 24)⟩,
     ⟨some 26, none, .mv (.t 1)⟩,
     ⟨some 27, none, .bin .neq (.t 25) (.t 26)⟩])
   (.cond (.t 27)
    (.seq (.ops [⟨some 4, none, .mv (.c (.int .i64 (-1)))⟩])
    (.ret))
    (.skip)))
   (.ops [⟨some 28, none, .mv (.t 1)⟩,
     ⟨some 29, none, .bin .add (.t 28) (.c (.int .i64 1))⟩,
     ⟨some 1, none, .mv (.t 29)⟩])))))
  (.ops [⟨some 10, none, .mv (.t 5)⟩,
    ⟨some 11, none, .bin .add (.t 10) (.c (.int .i64 1))⟩,
    ⟨some 5, none, .mv (.t 11)⟩]))
def v78 : VF := ⟨2, 31, [.t 4], true,
  .seq (.ops [⟨some 4, none, .mv (.c (.int .i64 0))⟩])
  (.seq (.seq (.ops [⟨some 5, none, .mv (.c (.int .i64 0))⟩])
  (.block 0 (.loop [0, 1, 5] [1, 4] l78_0)))
  (.seq (.ops [⟨some 30, none, .mv (.t 1)⟩,
    ⟨some 4, none, .mv (.t 30)⟩])
  (.ret)))⟩
theorem ok78 : FnOK Try.prog 78 v78 := ⟨⟨Try.f78, _, Try.func78, rfl, by kernel_rfl, rfl, by decide, by kernel_rfl, by kernel_rfl⟩⟩

/-- spec.BlocksFault -/
def l79_0 : VC :=
  .seq (.seq (.ops [⟨some 7, none, .mv (.t 3)⟩,
    ⟨some 8, none, .mv (.t 0)⟩,
    ⟨some 9, none, .len (.t 8)⟩,
    ⟨some 10, none, .bin .lss (.t 7) (.t 9)⟩])
  (.cond (.t 10)
   (.skip)
   (.exit 0)))
  (.seq (.block 1 (.seq (.seq (.ops [⟨some 13, none, .mv (.t 0)⟩,
     ⟨some 14, none, .mv (.t 3)⟩,
     ⟨some 15, none, .iaddr 2 (.t 13) (.t 14)⟩,
     ⟨some 16, none, .faddr 0 (.t 15)⟩,
     ⟨some 17, none, .load false 1 (.t 16)⟩,
     ⟨some 18, none, .call 75 [.t 17, .c (.int .i64 0), .c (.int .i64 200)]⟩,
     ⟨some 19, none, .not (.t 18)⟩,
     ⟨some 20, none, .mv (.t 19)⟩,
     ⟨some 21, some (20, false), .mv (.t 0)⟩,
     ⟨some 22, some (20, false), .mv (.t 3)⟩,
     ⟨some 23, some (20, false), .iaddr 2 (.t 21) (.t 22)⟩,
     ⟨some 24, some (20, false), .faddr 1 (.t 23)⟩,
     ⟨some 25, some (20, false), .load false 1 (.t 24)⟩,
     ⟨some 26, some (20, false), .call 88 [.t 25]⟩,
     ⟨some 27, some (20, false), .not (.t 26)⟩,
     ⟨some 28, none, .pick (.t 20) (.c (.bool true)) (.t 27)⟩])
   (.cond (.t 28)
    (.seq (.ops [⟨some 2, none, .mv (.c (.int .i64 3))⟩])
    (.ret))
    (.skip)))
   (.seq (.ops [⟨some 29, none, .mv (.t 0)⟩,
     ⟨some 30, none, .mv (.t 3)⟩,
     ⟨some 31, none, .iaddr 2 (.t 29) (.t 30)⟩,
     ⟨some 32, none, .faddr 0 (.t 31)⟩,
     ⟨some 33, none, .load false 1 (.t 32)⟩,
     ⟨some 34, none, .bin .eql (.t 33) (.c (.int .i64 0))⟩,
     ⟨some 35, none, .mv (.t 34)⟩,
     ⟨some 36, some (35, true), .mv (.t 0)⟩,
     ⟨some 37, some (35, true), .mv (.t 3)⟩,
     ⟨some 38, some (35, true), .iaddr 2 (.t 36) (.t 37)⟩,
     ⟨some 39, some (35, true), .faddr 1 (.t 38)⟩,
     ⟨some 40, some (35, true), .load false 1 (.t 39)⟩,
     ⟨some 41, some (35, true), .bin .neq (.t 40) (.c (.int .i64 0))⟩,
     ⟨some 42, none, .pick (.t 35) (.t 41) (.c (.bool false))⟩])
   (.cond (.t 42)
    (.seq (.ops [⟨some 2, none, .mv (.c (.int .i64 1))⟩])
    (.ret))
    (.skip)))))
  (.ops [⟨some 11, none, .mv (.t 3)⟩,
    ⟨some 12, none, .bin .add (.t 11) (.c (.int .i64 1))⟩,
    ⟨some 3, none, .mv (.t 12)⟩]))
def v79 : VF := ⟨1, 43, [.t 2], true,
  .seq (.ops [⟨some 2, none, .mv (.c (.int .i64 0))⟩])
  (.seq (.seq (.ops [⟨some 4, none, .mv (.t 0)⟩,
    ⟨some 5, none, .len (.t 4)⟩,
    ⟨some 6, none, .bin .gtr (.t 5) (.c (.int .i64 24))⟩])
  (.cond (.t 6)
   (.seq (.ops [⟨some 2, none, .mv (.c (.int .i64 2))⟩])
   (.ret))
   (.skip)))
  (.seq (.seq (.ops [⟨some 3, none, .mv (.c (.int .i64 0))⟩])
  (.block 0 (.loop [0, 3] [2] l79_0)))
  (.seq (.ops [⟨some 2, none, .mv (.c (.int .i64 0))⟩])
  (.ret))))⟩
theorem ok79 : FnOK Try.prog 79 v79 := ⟨⟨Try.f79, _, Try.func79, rfl, by kernel_rfl, rfl, by decide, by kernel_rfl, by kernel_rfl⟩⟩

/-- spec.l3Count -/
def l80_0 : VC :=
  .seq (.seq (.ops [⟨some 5, none, .mv (.t 4)⟩,
    ⟨some 6, none, .mv (.t 0)⟩,
    ⟨some 7, none, .len (.t 6)⟩,
    ⟨some 8, none, .bin .lss (.t 5) (.t 7)⟩])
  (.cond (.t 8)
   (.skip)
   (.exit 0)))
  (.seq (.block 1 (.seq (.ops [⟨some 11, none, .mv (.t 0)⟩,
     ⟨some 12, none, .mv (.t 4)⟩,
     ⟨some 13, none, .iaddr 2 (.t 11) (.t 12)⟩,
     ⟨some 14, none, .faddr 0 (.t 13)⟩,
     ⟨some 15, none, .load false 1 (.t 14)⟩,
     ⟨some 16, none, .bin .eql (.t 15) (.c (.int .i64 0))⟩])
   (.cond (.t 16)
    (.ops [⟨some 17, none, .mv (.t 3)⟩,
      ⟨some 18, none, .bin .add (.t 17) (.c (.int .i64 1))⟩,
      ⟨some 3, none, .mv (.t 18)⟩])
    (.skip))))
  (.ops [⟨some 9, none, .mv (.t 4)⟩,
    ⟨some 10, none, .bin .add (.t 9) (.c (.int .i64 1))⟩,
    ⟨some 4, none, .mv (.t 10)⟩]))
def v80 : VF := ⟨1, 20, [.t 2], true,
  .seq (.ops [⟨some 2, none, .mv (.c (.int .i64 0))⟩])
  (.seq (.ops [⟨some 3, none, .mv (.c (.int .i64 0))⟩])
  (.seq (.seq (.ops [⟨some 4, none, .mv (.c (.int .i64 0))⟩])
  (.block 0 (.loop [0, 3, 4] [2, 3] l80_0)))
  (.seq (.ops [⟨some 19, none, .mv (.t 3)⟩,
    ⟨some 2, none, .mv (.t 19)⟩])
  (.ret))))⟩
theorem ok80 : FnOK Try.prog 80 v80 := ⟨⟨Try.f80, _, Try.func80, rfl, by kernel_rfl, rfl, by decide, by kernel_rfl, by kernel_rfl⟩⟩

/-- laws.toBlock -/
def v81 : VF := ⟨1, 11, [.cell 2 true 2], true,
  .seq (.ops [⟨some 1, none, .box (.t 0)⟩,
    ⟨some 2, none, .new [.int .i64 0, .int .i64 0]⟩])
  (.seq (.ops [⟨some 3, none, .new [.int .i64 0, .int .i64 0]⟩])
  (.seq (.ops [⟨some 4, none, .faddr 0 (.t 1)⟩,
    ⟨some 5, none, .load false 1 (.t 4)⟩,
    ⟨some 6, none, .faddr 0 (.t 3)⟩,
    ⟨none, none, .store 1 (.t 6) (.t 5)⟩])
  (.seq (.ops [⟨some 7, none, .faddr 1 (.t 1)⟩,
    ⟨some 8, none, .load false 1 (.t 7)⟩,
    ⟨some 9, none, .faddr 1 (.t 3)⟩,
    ⟨none, none, .store 1 (.t 9) (.t 8)⟩])
  (.seq (.ops [⟨some 10, none, .load true 2 (.t 3)⟩,
    ⟨none, none, .store 2 (.t 2) (.t 10)⟩])
  (.ret)))))⟩
theorem ok81 : FnOK Try.prog 81 v81 := ⟨⟨Try.f81, _, Try.func81, rfl, by kernel_rfl, rfl, by decide, by kernel_rfl, by kernel_rfl⟩⟩

/-- laws.eqBlock -/
def v82 : VF := ⟨2, 15, [.t 4], true,
  .seq (.ops [⟨some 2, none, .box (.t 0)⟩,
    ⟨some 3, none, .box (.t 1)⟩,
    ⟨some 4, none, .mv (.c (.bool false))⟩])
  (.seq (.seq (.ops [⟨some 5, none, .faddr 0 (.t 2)⟩,
    ⟨some 6, none, .load false 1 (.t 5)⟩,
    ⟨some 7, none, .faddr 0 (.t 3)⟩,
    ⟨some 8, none, .load false 1 (.t 7)⟩,
    ⟨some 9, none, .bin .neq (.t 6) (.t 8)⟩])
  (.cond (.t 9)
   (.seq (.ops [⟨some 4, none, .mv (.c (.bool false))⟩])
   (.ret))
   (.skip)))
  (.seq (.seq (.ops [⟨some 10, none, .faddr 1 (.t 2)⟩,
    ⟨some 11, none, .load false 1 (.t 10)⟩,
    ⟨some 12, none, .faddr 1 (.t 3)⟩,
    ⟨some 13, none, .load false 1 (.t 12)⟩,
    ⟨some 14, none, .bin .neq (.t 11) (.t 13)⟩])
  (.cond (.t 14)
   (.seq (.ops [⟨some 4, none, .mv (.c (.bool false))⟩])
   (.ret))
   (.skip)))
  (.seq (.ops [⟨some 4, none, .mv (.c (.bool true))⟩])
  (.ret))))⟩
theorem ok82 : FnOK Try.prog 82 v82 := ⟨⟨Try.f82, _, Try.func82, rfl, by kernel_rfl, rfl, by decide, by kernel_rfl, by kernel_rfl⟩⟩

/-- spec.l3Asked -/
def v83 : VF := ⟨2, 23, [.t 4], true,
  .seq (.ops [⟨some 4, none, .mv (.c (.int .i64 0))⟩])
  (.seq (.seq (.ops [⟨some 6, none, .mv (.t 0)⟩,
    ⟨some 7, none, .call 79 [.t 6]⟩,
    ⟨some 5, none, .mv (.t 7)⟩])
  (.seq (.ops [⟨some 8, none, .mv (.t 5)⟩,
    ⟨some 9, none, .bin .neq (.t 8) (.c (.int .i64 0))⟩])
  (.cond (.t 9)
   (.seq (.ops [⟨some 10, none, .mv (.t 5)⟩,
     ⟨some 4, none, .mv (.t 10)⟩])
   (.ret))
   (.skip))))
  (.seq (.seq (.ops [⟨some 11, none, .mv (.t 1)⟩,
    ⟨some 12, none, .mv (.t 0)⟩,
    ⟨some 13, none, .len (.t 12)⟩,
    ⟨some 14, none, .bin .sub (.t 13) (.c (.int .i64 1))⟩,
    ⟨some 15, none, .call 75 [.t 11, .c (.int .i64 0), .t 14]⟩,
    ⟨some 16, none, .not (.t 15)⟩])
  (.cond (.t 16)
   (.seq (.ops [⟨some 4, none, .mv (.c (.int .i64 3))⟩])
   (.ret))
   (.skip)))
  (.seq (.seq (.ops [⟨some 17, none, .mv (.t 0)⟩,
    ⟨some 18, none, .mv (.t 1)⟩,
    ⟨some 19, none, .iaddr 2 (.t 17) (.t 18)⟩,
    ⟨some 20, none, .faddr 0 (.t 19)⟩,
    ⟨some 21, none, .load false 1 (.t 20)⟩,
    ⟨some 22, none, .bin .eql (.t 21) (.c (.int .i64 0))⟩])
  (.cond (.t 22)
   (.seq (.ops [⟨some 4, none, .mv (.c (.int .i64 4))⟩])
   (.ret))
   (.skip)))
  (.seq (.ops [⟨some 4, none, .mv (.c (.int .i64 0))⟩])
  (.ret)))))⟩
theorem ok83 : FnOK Try.prog 83 v83 := ⟨⟨Try.f83, _, Try.func83, rfl, by kernel_rfl, rfl, by decide, by kernel_rfl, by kernel_rfl⟩⟩

/-- impl.referred -/
def v84 : VF := ⟨3, 38, [.cell 6 true 3], true,
  .seq (.ops [⟨some 6, none, .new [.int .i64 0, .int .i64 0, .slice none 0 0]⟩])
  (.seq (.ops [⟨some 10, none, .mv (.t 0)⟩,
    ⟨some 11, none, .call 40 [.t 10]⟩,
    ⟨some 7, none, .mv (.t 11)⟩])
  (.seq (.block 0 (.seq (.ops [⟨some 13, none, .mv (.t 7)⟩,
     ⟨some 14, none, .bin .neq (.t 13) (.c (.int .i64 0))⟩,
     ⟨some 12, none, .mv (.t 14)⟩])
   (.cond (.t 12)
    (.seq (.ops [⟨some 15, none, .mv (.t 7)⟩,
      ⟨some 16, none, .build [.int .i64 0, .int .i64 0, .slice none 0 0] [(0, 1, .t 15)]⟩,
      ⟨none, none, .store 3 (.t 6) (.t 16)⟩])
    (.ret))
    (.seq (.ops [⟨some 18, none, .mv (.t 1)⟩,
      ⟨some 19, none, .mv (.t 0)⟩,
      ⟨some 20, none, .len (.t 19)⟩,
      ⟨some 21, none, .bin .sub (.t 20) (.c (.int .i64 1))⟩,
      ⟨some 22, none, .call 77 [.t 18, .c (.int .i64 0), .t 21]⟩,
      ⟨some 23, none, .not (.t 22)⟩,
      ⟨some 17, none, .mv (.t 23)⟩])
    (.cond (.t 17)
     (.seq (.ops [⟨some 24, none, .build [.int .i64 0, .int .i64 0, .slice none 0 0] [(0, 1, .c (.int .i64 3))]⟩,
       ⟨none, none, .store 3 (.t 6) (.t 24)⟩])
     (.ret))
     (.skip))))))
  (.seq (.ops [⟨some 25, none, .mv (.t 0)⟩,
    ⟨some 26, none, .call 91 [.t 25]⟩,
    ⟨some 8, none, .mv (.t 26)⟩])
  (.seq (.seq (.ops [⟨some 27, none, .mv (.t 2)⟩,
    ⟨some 28, none, .mv (.t 8)⟩,
    ⟨some 29, none, .mv (.t 1)⟩,
    ⟨some 30, none, .callv (.t 27) [.t 28, .t 29]⟩,
    ⟨some 9, none, .mv (.t 30)⟩])
  (.seq (.ops [⟨some 31, none, .mv (.t 9)⟩,
    ⟨some 32, none, .bin .neq (.t 31) (.c (.int .i64 0))⟩])
  (.cond (.t 32)
   (.seq (.ops [⟨some 33, none, .mv (.t 9)⟩,
     ⟨some 34, none, .build [.int .i64 0, .int .i64 0, .slice none 0 0] [(0, 1, .t 33)]⟩,
     ⟨none, none, .store 3 (.t 6) (.t 34)⟩])
   (.ret))
   (.skip))))
  (.seq (.ops [⟨some 35, none, .mv (.t 1)⟩,
    ⟨some 36, none, .mv (.t 8)⟩,
    ⟨some 37, none, .build [.int .i64 0, .int .i64 0, .slice none 0 0] [(1, 1, .t 35), (2, 1, .t 36)]⟩,
    ⟨none, none, .store 3 (.t 6) (.t 37)⟩])
  (.ret))))))⟩
theorem ok84 : FnOK Try.prog 84 v84 := ⟨⟨Try.f84, _, Try.func84, rfl, by kernel_rfl, rfl, by decide, by kernel_rfl, by kernel_rfl⟩⟩

/-- impl.share -/
def v85 : VF := ⟨2, 24, [.t 4], false,
  .seq (.ops [⟨some 4, none, .mv (.c (.int .i64 0))⟩])
  (.seq (.seq (.ops [⟨some 6, none, .mv (.t 0)⟩,
    ⟨some 7, none, .mv (.t 1)⟩,
    ⟨some 8, none, .iaddr 2 (.t 6) (.t 7)⟩,
    ⟨some 5, none, .mv (.t 8)⟩])
  (.seq (.ops [⟨some 9, none, .mv (.t 5)⟩,
    ⟨some 10, none, .nilck (.t 9)⟩,
    ⟨some 11, none, .faddr 0 (.t 10)⟩,
    ⟨some 12, none, .load false 1 (.t 11)⟩])
  (.block 0 (.seq (.ops [⟨some 21, none, .bin .eql (.t 12) (.c (.int .i64 0))⟩,
     ⟨some 20, none, .mv (.t 21)⟩])
   (.cond (.t 20)
    (.seq (.ops [⟨some 4, none, .mv (.c (.int .i64 4))⟩])
    (.ret))
    (.seq (.ops [⟨some 23, none, .bin .eql (.t 12) (.c (.int .i64 200))⟩,
      ⟨some 22, none, .mv (.t 23)⟩])
    (.cond (.t 22)
     (.seq (.ops [⟨some 4, none, .mv (.c (.int .i64 2))⟩])
     (.ret))
     (.ops [⟨some 13, none, .mv (.t 5)⟩,
       ⟨some 14, none, .nilck (.t 13)⟩,
       ⟨some 15, none, .faddr 0 (.t 14)⟩,
       ⟨some 16, none, .load false 1 (.t 15)⟩,
       ⟨some 17, none, .bin .add (.t 16) (.c (.int .i64 1))⟩,
       ⟨some 18, none, .nilck (.t 13)⟩,
       ⟨some 19, none, .faddr 0 (.t 18)⟩,
       ⟨none, none, .store 1 (.t 19) (.t 17)⟩]))))))))
  (.seq (.ops [⟨some 4, none, .mv (.c (.int .i64 0))⟩])
  (.ret)))⟩
theorem ok85 : FnOK Try.prog 85 v85 := ⟨⟨Try.f85, _, Try.func85, rfl, by kernel_rfl, rfl, by decide, by kernel_rfl, by kernel_rfl⟩⟩

/-- spec.l3Drop -/
def v86 : VF := ⟨2, 22, [], false,
  .seq (.ops [⟨some 4, none, .mv (.t 0)⟩,
    ⟨some 5, none, .mv (.t 1)⟩,
    ⟨some 6, none, .iaddr 2 (.t 4) (.t 5)⟩,
    ⟨some 7, none, .faddr 0 (.t 6)⟩,
    ⟨some 8, none, .load false 1 (.t 7)⟩,
    ⟨some 9, none, .bin .sub (.t 8) (.c (.int .i64 1))⟩,
    ⟨some 10, none, .iaddr 2 (.t 4) (.t 5)⟩,
    ⟨some 11, none, .faddr 0 (.t 10)⟩,
    ⟨none, none, .store 1 (.t 11) (.t 9)⟩])
  (.seq (.ops [⟨some 12, none, .mv (.t 0)⟩,
    ⟨some 13, none, .mv (.t 1)⟩,
    ⟨some 14, none, .iaddr 2 (.t 12) (.t 13)⟩,
    ⟨some 15, none, .faddr 0 (.t 14)⟩,
    ⟨some 16, none, .load false 1 (.t 15)⟩,
    ⟨some 17, none, .bin .eql (.t 16) (.c (.int .i64 0))⟩])
  (.cond (.t 17)
   (.ops [⟨some 18, none, .mv (.t 0)⟩,
     ⟨some 19, none, .mv (.t 1)⟩,
     ⟨some 20, none, .iaddr 2 (.t 18) (.t 19)⟩,
     ⟨some 21, none, .faddr 1 (.t 20)⟩,
     ⟨none, none, .store 1 (.t 21) (.c (.int .i64 0))⟩])
   (.skip)))⟩
theorem ok86 : FnOK Try.prog 86 v86 := ⟨⟨Try.f86, _, Try.func86, rfl, by kernel_rfl, rfl, by decide, by kernel_rfl, by kernel_rfl⟩⟩

/-- impl.drop -/
def v87 : VF := ⟨2, 29, [.t 4], false,
  .seq (.ops [⟨some 4, none, .mv (.c (.int .i64 0))⟩])
  (.seq (.ops [⟨some 6, none, .mv (.t 0)⟩,
    ⟨some 7, none, .mv (.t 1)⟩,
    ⟨some 8, none, .iaddr 2 (.t 6) (.t 7)⟩,
    ⟨some 5, none, .mv (.t 8)⟩])
  (.seq (.seq (.ops [⟨some 9, none, .mv (.t 5)⟩,
    ⟨some 10, none, .nilck (.t 9)⟩,
    ⟨some 11, none, .faddr 0 (.t 10)⟩,
    ⟨some 12, none, .load false 1 (.t 11)⟩,
    ⟨some 13, none, .bin .eql (.t 12) (.c (.int .i64 0))⟩])
  (.cond (.t 13)
   (.seq (.ops [⟨some 4, none, .mv (.c (.int .i64 4))⟩])
   (.ret))
   (.skip)))
  (.seq (.ops [⟨some 14, none, .mv (.t 5)⟩,
    ⟨some 15, none, .nilck (.t 14)⟩,
    ⟨some 16, none, .faddr 0 (.t 15)⟩,
    ⟨some 17, none, .load false 1 (.t 16)⟩,
    ⟨some 18, none, .bin .sub (.t 17) (.c (.int .i64 1))⟩,
    ⟨some 19, none, .nilck (.t 14)⟩,
    ⟨some 20, none, .faddr 0 (.t 19)⟩,
    ⟨none, none, .store 1 (.t 20) (.t 18)⟩])
  (.seq (.seq (.ops [⟨some 21, none, .mv (.t 5)⟩,
    ⟨some 22, none, .nilck (.t 21)⟩,
    ⟨some 23, none, .faddr 0 (.t 22)⟩,
    ⟨some 24, none, .load false 1 (.t 23)⟩,
    ⟨some 25, none, .bin .eql (.t 24) (.c (.int .i64 0))⟩])
  (.cond (.t 25)
   (.ops [⟨some 26, none, .mv (.t 5)⟩,
     ⟨some 27, none, .nilck (.t 26)⟩,
     ⟨some 28, none, .faddr 1 (.t 27)⟩,
     ⟨none, none, .store 1 (.t 28) (.c (.int .i64 0))⟩])
   (.skip)))
  (.seq (.ops [⟨some 4, none, .mv (.c (.int .i64 0))⟩])
  (.ret))))))⟩
theorem ok87 : FnOK Try.prog 87 v87 := ⟨⟨Try.f87, _, Try.func87, rfl, by kernel_rfl, rfl, by decide, by kernel_rfl, by kernel_rfl⟩⟩

/-- spec.l3Data -/
def v88 : VF := ⟨1, 5, [.t 2], true,
  .seq (.ops [⟨some 2, none, .mv (.c (.bool false))⟩])
  (.seq (.ops [⟨some 3, none, .mv (.t 0)⟩,
    ⟨some 4, none, .call 75 [.t 3, .c (.int .i64 0), .c (.int .i64 255)]⟩,
    ⟨some 2, none, .mv (.t 4)⟩])
  (.ret))⟩
theorem ok88 : FnOK Try.prog 88 v88 := ⟨⟨Try.f88, _, Try.func88, rfl, by kernel_rfl, rfl, by decide, by kernel_rfl, by kernel_rfl⟩⟩

/-- spec.l3Free -/
def l89_0 : VC :=
  .seq (.seq (.ops [⟨some 4, none, .mv (.t 3)⟩,
    ⟨some 5, none, .mv (.t 0)⟩,
    ⟨some 6, none, .len (.t 5)⟩,
    ⟨some 7, none, .bin .lss (.t 4) (.t 6)⟩])
  (.cond (.t 7)
   (.skip)
   (.exit 0)))
  (.seq (.block 1 (.seq (.ops [⟨some 10, none, .mv (.t 0)⟩,
     ⟨some 11, none, .mv (.t 3)⟩,
     ⟨some 12, none, .iaddr 2 (.t 10) (.t 11)⟩,
     ⟨some 13, none, .faddr 0 (.t 12)⟩,
     ⟨some 14, none, .load false 1 (.t 13)⟩,
     ⟨some 15, none, .bin .eql (.t 14) (.c (.int .i64 0))⟩])
   (.cond (.t 15)
    (.seq (.ops [⟨some 16, none, .mv (.t 3)⟩,
      ⟨some 2, none, .mv (.t 16)⟩])
    (.ret))
    (.skip))))
  (.ops [⟨some 8, none, .mv (.t 3)⟩,
    ⟨some 9, none, .bin .add (.t 8) (.c (.int .i64 1))⟩,
    ⟨some 3, none, .mv (.t 9)⟩]))
def v89 : VF := ⟨1, 17, [.t 2], true,
  .seq (.ops [⟨some 2, none, .mv (.c (.int .i64 0))⟩])
  (.seq (.seq (.ops [⟨some 3, none, .mv (.c (.int .i64 0))⟩])
  (.block 0 (.loop [0, 3] [2] l89_0)))
  (.seq (.ops [⟨some 2, none, .mv (.c (.int .i64 (-1)))⟩])
  (.ret)))⟩
theorem ok89 : FnOK Try.prog 89 v89 := ⟨⟨Try.f89, _, Try.func89, rfl, by kernel_rfl, rfl, by decide, by kernel_rfl, by kernel_rfl⟩⟩

/-- impl.isByte -/
def v90 : VF := ⟨1, 5, [.t 2], true,
  .seq (.ops [⟨some 2, none, .mv (.c (.bool false))⟩])
  (.seq (.ops [⟨some 3, none, .mv (.t 0)⟩,
    ⟨some 4, none, .call 77 [.t 3, .c (.int .i64 0), .c (.int .i64 255)]⟩,
    ⟨some 2, none, .mv (.t 4)⟩])
  (.ret))⟩
theorem ok90 : FnOK Try.prog 90 v90 := ⟨⟨Try.f90, _, Try.func90, rfl, by kernel_rfl, rfl, by decide, by kernel_rfl, by kernel_rfl⟩⟩

/-- impl.Block] -/
def v91 : VF := ⟨1, 8, [.t 2], true,
  .seq (.ops [⟨some 2, none, .mv (.c (.slice none 0 0))⟩])
  (.seq (.seq (.ops [⟨some 3, none, .mv (.t 0)⟩,
    ⟨some 4, none, .snil false (.t 3)⟩])
  (.cond (.t 4)
   (.seq (.ops [⟨some 2, none, .mv (.c (.slice none 0 0))⟩])
   (.ret))
   (.skip)))
  (.seq (.ops [⟨some 5, none, .bslice 2 [] 0 []⟩,
    ⟨some 6, none, .mv (.t 0)⟩,
    ⟨some 7, none, .append 2 16 (.t 5) (.t 6)⟩,
    ⟨some 2, none, .mv (.t 7)⟩])
  (.ret)))⟩
theorem ok91 : FnOK Try.prog 91 v91 := ⟨⟨Try.f91, _, Try.func91, rfl, by kernel_rfl, rfl, by decide, by kernel_rfl, by kernel_rfl⟩⟩

/-- impl.take -/
def v92 : VF := ⟨2, 17, [.t 4, .t 5], false,
  .seq (.ops [⟨some 4, none, .mv (.c (.int .i64 0))⟩,
    ⟨some 5, none, .mv (.c (.int .i64 0))⟩])
  (.seq (.ops [⟨some 7, none, .mv (.t 0)⟩,
    ⟨some 8, none, .call 131 [.t 7, .c (.func (.func 132) #[] #[])]⟩,
    ⟨some 6, none, .mv (.t 8)⟩])
  (.seq (.seq (.ops [⟨some 9, none, .mv (.t 6)⟩,
    ⟨some 10, none, .bin .lss (.t 9) (.c (.int .i64 0))⟩])
  (.cond (.t 10)
   (.seq (.ops [⟨some 4, none, .mv (.c (.int .i64 0))⟩,
     ⟨some 5, none, .mv (.c (.int .i64 8))⟩])
   (.ret))
   (.skip)))
  (.seq (.ops [⟨some 11, none, .mv (.t 0)⟩,
    ⟨some 12, none, .mv (.t 6)⟩,
    ⟨some 13, none, .mv (.t 1)⟩,
    ⟨some 14, none, .build [.int .i64 0, .int .i64 0] [(0, 1, .c (.int .i64 1)), (1, 1, .t 13)]⟩,
    ⟨some 15, none, .iaddr 2 (.t 11) (.t 12)⟩,
    ⟨none, none, .store 2 (.t 15) (.t 14)⟩])
  (.seq (.ops [⟨some 16, none, .mv (.t 6)⟩,
    ⟨some 4, none, .mv (.t 16)⟩,
    ⟨some 5, none, .mv (.c (.int .i64 0))⟩])
  (.ret)))))⟩
theorem ok92 : FnOK Try.prog 92 v92 := ⟨⟨Try.f92, _, Try.func92, rfl, by kernel_rfl, rfl, by decide, by kernel_rfl, by kernel_rfl⟩⟩

/-- impl.areRefs -/
def v97 : VF := ⟨1, 5, [.t 2], true,
  .seq (.ops [⟨some 2, none, .mv (.c (.bool false))⟩])
  (.seq (.ops [⟨some 3, none, .mv (.t 0)⟩,
    ⟨some 4, none, .call 77 [.t 3, .c (.int .i64 0), .c (.int .i64 200)]⟩,
    ⟨some 2, none, .mv (.t 4)⟩])
  (.ret))⟩
theorem ok97 : FnOK Try.prog 97 v97 := ⟨⟨Try.f97, _, Try.func97, rfl, by kernel_rfl, rfl, by decide, by kernel_rfl, by kernel_rfl⟩⟩

/-- spec.l4Bad -/
def v98 : VF := ⟨1, 5, [.cell 2 true 4], true,
  .seq (.ops [⟨some 2, none, .new [.int .i64 0, .int .i64 0, .slice none 0 0, .slice none 0 0]⟩])
  (.seq (.ops [⟨some 3, none, .mv (.t 0)⟩,
    ⟨some 4, none, .build [.int .i64 0, .int .i64 0, .slice none 0 0, .slice none 0 0] [(0, 1, .t 3)]⟩,
    ⟨none, none, .store 4 (.t 2) (.t 4)⟩])
  (.ret))⟩
theorem ok98 : FnOK Try.prog 98 v98 := ⟨⟨Try.f98, _, Try.func98, rfl, by kernel_rfl, rfl, by decide, by kernel_rfl, by kernel_rfl⟩⟩

/-- laws.heldForest -/
def v99 : VF := ⟨2, 18, [.t 4], true,
  .seq (.ops [⟨some 2, none, .box (.t 0)⟩,
    ⟨some 4, none, .mv (.c (.int .i64 0))⟩])
  (.seq (.ops [⟨some 5, none, .faddr 0 (.t 2)⟩,
    ⟨some 6, none, .load false 1 (.t 5)⟩,
    ⟨some 7, none, .mv (.t 1)⟩,
    ⟨some 8, none, .call 134 [.t 6, .t 7]⟩,
    ⟨some 1, none, .mv (.t 8)⟩])
  (.seq (.seq (.ops [⟨some 9, none, .mv (.t 1)⟩,
    ⟨some 10, none, .bin .lss (.t 9) (.c (.int .i64 0))⟩])
  (.cond (.t 10)
   (.seq (.ops [⟨some 4, none, .mv (.c (.int .i64 (-1)))⟩])
   (.ret))
   (.skip)))
  (.seq (.ops [⟨some 11, none, .faddr 1 (.t 2)⟩,
    ⟨some 12, none, .load false 1 (.t 11)⟩,
    ⟨some 13, none, .mv (.t 1)⟩,
    ⟨some 14, none, .call 78 [.t 12, .t 13]⟩,
    ⟨some 1, none, .mv (.t 14)⟩])
  (.seq (.seq (.ops [⟨some 15, none, .mv (.t 1)⟩,
    ⟨some 16, none, .bin .lss (.t 15) (.c (.int .i64 0))⟩])
  (.cond (.t 16)
   (.seq (.ops [⟨some 4, none, .mv (.c (.int .i64 (-1)))⟩])
   (.ret))
   (.skip)))
  (.seq (.ops [⟨some 17, none, .mv (.t 1)⟩,
    ⟨some 4, none, .mv (.t 17)⟩])
  (.ret))))))⟩
theorem ok99 : FnOK Try.prog 99 v99 := ⟨⟨Try.f99, _, Try.func99, rfl, by kernel_rfl, rfl, by decide, by kernel_rfl, by kernel_rfl⟩⟩

/-- laws.eqPool -/
def v100 : VF := ⟨2, 17, [.t 4], true,
  .seq (.ops [⟨some 2, none, .box (.t 0)⟩,
    ⟨some 3, none, .box (.t 1)⟩,
    ⟨some 4, none, .mv (.c (.bool false))⟩])
  (.seq (.seq (.ops [⟨some 5, none, .faddr 0 (.t 2)⟩,
    ⟨some 6, none, .load true 2 (.t 5)⟩,
    ⟨some 7, none, .faddr 0 (.t 3)⟩,
    ⟨some 8, none, .load true 2 (.t 7)⟩,
    ⟨some 9, none, .call 55 [.t 6, .t 8]⟩,
    ⟨some 10, none, .not (.t 9)⟩])
  (.cond (.t 10)
   (.seq (.ops [⟨some 4, none, .mv (.c (.bool false))⟩])
   (.ret))
   (.skip)))
  (.seq (.seq (.ops [⟨some 11, none, .faddr 2 (.t 2)⟩,
    ⟨some 12, none, .load false 1 (.t 11)⟩,
    ⟨some 13, none, .faddr 2 (.t 3)⟩,
    ⟨some 14, none, .load false 1 (.t 13)⟩,
    ⟨some 15, none, .call 135 [.t 12, .t 14]⟩,
    ⟨some 16, none, .not (.t 15)⟩])
  (.cond (.t 16)
   (.seq (.ops [⟨some 4, none, .mv (.c (.bool false))⟩])
   (.ret))
   (.skip)))
  (.seq (.ops [⟨some 4, none, .mv (.c (.bool true))⟩])
  (.ret))))⟩
theorem ok100 : FnOK Try.prog 100 v100 := ⟨⟨Try.f100, _, Try.func100, rfl, by kernel_rfl, rfl, by decide, by kernel_rfl, by kernel_rfl⟩⟩

/-- laws.markPool -/
def v101 : VF := ⟨2, 14, [.t 4], false,
  .seq (.ops [⟨some 2, none, .box (.t 0)⟩,
    ⟨some 4, none, .mv (.c (.int .i64 0))⟩])
  (.seq (.ops [⟨some 5, none, .faddr 0 (.t 2)⟩,
    ⟨some 6, none, .load true 2 (.t 5)⟩,
    ⟨some 7, none, .mv (.t 1)⟩,
    ⟨some 8, none, .call 61 [.t 6, .t 7]⟩,
    ⟨some 1, none, .mv (.t 8)⟩])
  (.seq (.ops [⟨some 9, none, .faddr 2 (.t 2)⟩,
    ⟨some 10, none, .load false 1 (.t 9)⟩,
    ⟨some 11, none, .mv (.t 1)⟩,
    ⟨some 12, none, .call 136 [.t 10, .t 11]⟩,
    ⟨some 1, none, .mv (.t 12)⟩])
  (.seq (.ops [⟨some 13, none, .mv (.t 1)⟩,
    ⟨some 4, none, .mv (.t 13)⟩])
  (.ret))))⟩
theorem ok101 : FnOK Try.prog 101 v101 := ⟨⟨Try.f101, _, Try.func101, rfl, by kernel_rfl, rfl, by decide, by kernel_rfl, by kernel_rfl⟩⟩

/-- laws.heldPool -/
def v102 : VF := ⟨2, 18, [.t 4], true,
  .seq (.ops [⟨some 2, none, .box (.t 0)⟩,
    ⟨some 4, none, .mv (.c (.int .i64 0))⟩])
  (.seq (.ops [⟨some 5, none, .faddr 0 (.t 2)⟩,
    ⟨some 6, none, .load true 2 (.t 5)⟩,
    ⟨some 7, none, .mv (.t 1)⟩,
    ⟨some 8, none, .call 99 [.t 6, .t 7]⟩,
    ⟨some 1, none, .mv (.t 8)⟩])
  (.seq (.seq (.ops [⟨some 9, none, .mv (.t 1)⟩,
    ⟨some 10, none, .bin .lss (.t 9) (.c (.int .i64 0))⟩])
  (.cond (.t 10)
   (.seq (.ops [⟨some 4, none, .mv (.c (.int .i64 (-1)))⟩])
   (.ret))
   (.skip)))
  (.seq (.ops [⟨some 11, none, .faddr 2 (.t 2)⟩,
    ⟨some 12, none, .load false 1 (.t 11)⟩,
    ⟨some 13, none, .mv (.t 1)⟩,
    ⟨some 14, none, .call 137 [.t 12, .t 13]⟩,
    ⟨some 1, none, .mv (.t 14)⟩])
  (.seq (.seq (.ops [⟨some 15, none, .mv (.t 1)⟩,
    ⟨some 16, none, .bin .lss (.t 15) (.c (.int .i64 0))⟩])
  (.cond (.t 16)
   (.seq (.ops [⟨some 4, none, .mv (.c (.int .i64 (-1)))⟩])
   (.ret))
   (.skip)))
  (.seq (.ops [⟨some 17, none, .mv (.t 1)⟩,
    ⟨some 4, none, .mv (.t 17)⟩])
  (.ret))))))⟩
theorem ok102 : FnOK Try.prog 102 v102 := ⟨⟨Try.f102, _, Try.func102, rfl, by kernel_rfl, rfl, by decide, by kernel_rfl, by kernel_rfl⟩⟩

/-- laws.szNodeS -/
def l103_0 : VC :=
  .seq (.seq (.ops [⟨some 12, none, .mv (.t 5)⟩,
    ⟨some 13, none, .mv (.t 0)⟩,
    ⟨some 14, none, .len (.t 13)⟩,
    ⟨some 15, none, .bin .lss (.t 12) (.t 14)⟩])
  (.cond (.t 15)
   (.skip)
   (.exit 0)))
  (.seq (.block 1 (.seq (.ops [⟨some 18, none, .mv (.t 0)⟩,
     ⟨some 19, none, .mv (.t 5)⟩,
     ⟨some 20, none, .iaddr 3 (.t 18) (.t 19)⟩,
     ⟨some 21, none, .load true 3 (.t 20)⟩,
     ⟨some 22, none, .mv (.t 1)⟩,
     ⟨some 23, none, .call 138 [.t 21, .t 22]⟩,
     ⟨some 1, none, .mv (.t 23)⟩])
   (.seq (.ops [⟨some 24, none, .mv (.t 1)⟩,
     ⟨some 25, none, .bin .lss (.t 24) (.c (.int .i64 0))⟩])
   (.cond (.t 25)
    (.seq (.ops [⟨some 4, none, .mv (.c (.int .i64 (-1)))⟩])
    (.ret))
    (.skip)))))
  (.ops [⟨some 16, none, .mv (.t 5)⟩,
    ⟨some 17, none, .bin .add (.t 16) (.c (.int .i64 1))⟩,
    ⟨some 5, none, .mv (.t 17)⟩]))
def v103 : VF := ⟨2, 27, [.t 4], true,
  .seq (.ops [⟨some 4, none, .mv (.c (.int .i64 0))⟩])
  (.seq (.ops [⟨some 6, none, .mv (.t 1)⟩,
    ⟨some 7, none, .mv (.t 0)⟩,
    ⟨some 8, none, .len (.t 7)⟩,
    ⟨some 9, none, .bin .sub (.t 6) (.t 8)⟩,
    ⟨some 1, none, .mv (.t 9)⟩])
  (.seq (.seq (.ops [⟨some 10, none, .mv (.t 1)⟩,
    ⟨some 11, none, .bin .lss (.t 10) (.c (.int .i64 0))⟩])
  (.cond (.t 11)
   (.seq (.ops [⟨some 4, none, .mv (.c (.int .i64 (-1)))⟩])
   (.ret))
   (.skip)))
  (.seq (.seq (.ops [⟨some 5, none, .mv (.c (.int .i64 0))⟩])
  (.block 0 (.loop [0, 1, 5] [1, 4] l103_0)))
  (.seq (.ops [⟨some 26, none, .mv (.t 1)⟩,
    ⟨some 4, none, .mv (.t 26)⟩])
  (.ret)))))⟩
theorem ok103 : FnOK Try.prog 103 v103 := ⟨⟨Try.f103, _, Try.func103, rfl, by kernel_rfl, rfl, by decide, by kernel_rfl, by kernel_rfl⟩⟩

/-- spec.l4Fault -/
def l104_0 : VC :=
  .seq (.seq (.ops [⟨some 22, none, .mv (.t 4)⟩,
    ⟨some 23, none, .mv (.t 0)⟩,
    ⟨some 24, none, .nilck (.t 23)⟩,
    ⟨some 25, none, .faddr 0 (.t 24)⟩,
    ⟨some 26, none, .load false 1 (.t 25)⟩,
    ⟨some 27, none, .len (.t 26)⟩,
    ⟨some 28, none, .bin .lss (.t 22) (.t 27)⟩])
  (.cond (.t 28)
   (.skip)
   (.exit 0)))
  (.seq (.block 1 (.seq (.ops [⟨some 31, none, .mv (.t 0)⟩,
     ⟨some 32, none, .mv (.t 0)⟩,
     ⟨some 33, none, .nilck (.t 32)⟩,
     ⟨some 34, none, .faddr 0 (.t 33)⟩,
     ⟨some 35, none, .load false 1 (.t 34)⟩,
     ⟨some 36, none, .mv (.t 4)⟩,
     ⟨some 37, none, .iaddr 3 (.t 35) (.t 36)⟩,
     ⟨some 38, none, .call 139 [.t 31, .t 37]⟩,
     ⟨some 5, none, .mv (.t 38)⟩])
   (.seq (.ops [⟨some 39, none, .mv (.t 5)⟩,
     ⟨some 40, none, .bin .neq (.t 39) (.c (.int .i64 0))⟩])
   (.cond (.t 40)
    (.seq (.ops [⟨some 41, none, .mv (.t 5)⟩,
      ⟨some 2, none, .mv (.t 41)⟩])
    (.ret))
    (.skip)))))
  (.ops [⟨some 29, none, .mv (.t 4)⟩,
    ⟨some 30, none, .bin .add (.t 29) (.c (.int .i64 1))⟩,
    ⟨some 4, none, .mv (.t 30)⟩]))
def l104_1 : VC :=
  .seq (.seq (.ops [⟨some 42, none, .mv (.t 6)⟩,
    ⟨some 43, none, .mv (.t 0)⟩,
    ⟨some 44, none, .nilck (.t 43)⟩,
    ⟨some 45, none, .faddr 1 (.t 44)⟩,
    ⟨some 46, none, .load false 1 (.t 45)⟩,
    ⟨some 47, none, .len (.t 46)⟩,
    ⟨some 48, none, .bin .lss (.t 42) (.t 47)⟩])
  (.cond (.t 48)
   (.skip)
   (.exit 2)))
  (.seq (.block 3 (.seq (.draw [⟨some 51, none, .mv (.t 0)⟩,
     ⟨some 52, none, .nilck (.t 51)⟩,
     ⟨some 53, none, .faddr 1 (.t 52)⟩,
     ⟨some 54, none, .load false 1 (.t 53)⟩,
     ⟨some 55, none, .mv (.t 6)⟩,
     ⟨some 56, none, .iaddr 2 (.t 54) (.t 55)⟩,
     ⟨some 57, none, .faddr 0 (.t 56)⟩,
     ⟨some 58, none, .load false 1 (.t 57)⟩,
     ⟨some 59, none, .mv (.t 0)⟩,
     ⟨some 60, none, .mv (.t 6)⟩,
     ⟨some 61, none, .call 140 [.t 59, .c (.bool true), .t 60]⟩] [⟨some 62, none, .bin .neq (.t 58) (.t 61)⟩])
   (.cond (.t 62)
    (.seq (.ops [⟨some 2, none, .mv (.c (.int .i64 1))⟩])
    (.ret))
    (.skip))))
  (.ops [⟨some 49, none, .mv (.t 6)⟩,
    ⟨some 50, none, .bin .add (.t 49) (.c (.int .i64 1))⟩,
    ⟨some 6, none, .mv (.t 50)⟩]))
def l104_2 : VC :=
  .seq (.seq (.ops [⟨some 63, none, .mv (.t 7)⟩,
    ⟨some 64, none, .mv (.t 0)⟩,
    ⟨some 65, none, .nilck (.t 64)⟩,
    ⟨some 66, none, .faddr 0 (.t 65)⟩,
    ⟨some 67, none, .load false 1 (.t 66)⟩,
    ⟨some 68, none, .len (.t 67)⟩,
    ⟨some 69, none, .bin .lss (.t 63) (.t 68)⟩])
  (.cond (.t 69)
   (.skip)
   (.exit 4)))
  (.seq (.block 5 (.seq (.draw [⟨some 72, none, .mv (.t 0)⟩,
     ⟨some 73, none, .nilck (.t 72)⟩,
     ⟨some 74, none, .faddr 0 (.t 73)⟩,
     ⟨some 75, none, .load false 1 (.t 74)⟩,
     ⟨some 76, none, .mv (.t 7)⟩,
     ⟨some 77, none, .iaddr 3 (.t 75) (.t 76)⟩,
     ⟨some 78, none, .faddr 1 (.t 77)⟩,
     ⟨some 79, none, .load false 1 (.t 78)⟩,
     ⟨some 80, none, .mv (.t 79)⟩,
     ⟨some 81, some (80, true), .mv (.t 0)⟩,
     ⟨some 82, some (80, true), .nilck (.t 81)⟩,
     ⟨some 83, some (80, true), .faddr 0 (.t 82)⟩,
     ⟨some 84, some (80, true), .load false 1 (.t 83)⟩,
     ⟨some 85, some (80, true), .mv (.t 7)⟩,
     ⟨some 86, some (80, true), .iaddr 3 (.t 84) (.t 85)⟩,
     ⟨some 87, some (80, true), .faddr 0 (.t 86)⟩,
     ⟨some 88, some (80, true), .load false 1 (.t 87)⟩,
     ⟨some 89, some (80, true), .mv (.t 0)⟩,
     ⟨some 90, some (80, true), .mv (.t 7)⟩,
     ⟨some 91, some (80, true), .call 140 [.t 89, .c (.bool false), .t 90]⟩] [⟨some 92, some (80, true), .bin .lss (.t 88) (.t 91)⟩,
     ⟨some 93, none, .pick (.t 80) (.t 92) (.c (.bool false))⟩])
   (.cond (.t 93)
    (.seq (.ops [⟨some 2, none, .mv (.c (.int .i64 1))⟩])
    (.ret))
    (.skip))))
  (.ops [⟨some 70, none, .mv (.t 7)⟩,
    ⟨some 71, none, .bin .add (.t 70) (.c (.int .i64 1))⟩,
    ⟨some 7, none, .mv (.t 71)⟩]))
def v104 : VF := ⟨1, 94, [.t 2], true,
  .seq (.ops [⟨some 2, none, .mv (.c (.int .i64 0))⟩])
  (.seq (.seq (.ops [⟨some 8, none, .mv (.t 0)⟩,
    ⟨some 9, none, .nilck (.t 8)⟩,
    ⟨some 10, none, .faddr 1 (.t 9)⟩,
    ⟨some 11, none, .load false 1 (.t 10)⟩,
    ⟨some 12, none, .call 79 [.t 11]⟩,
    ⟨some 3, none, .mv (.t 12)⟩])
  (.seq (.ops [⟨some 13, none, .mv (.t 3)⟩,
    ⟨some 14, none, .bin .neq (.t 13) (.c (.int .i64 0))⟩])
  (.cond (.t 14)
   (.seq (.ops [⟨some 15, none, .mv (.t 3)⟩,
     ⟨some 2, none, .mv (.t 15)⟩])
   (.ret))
   (.skip))))
  (.seq (.seq (.ops [⟨some 16, none, .mv (.t 0)⟩,
    ⟨some 17, none, .nilck (.t 16)⟩,
    ⟨some 18, none, .faddr 0 (.t 17)⟩,
    ⟨some 19, none, .load false 1 (.t 18)⟩,
    ⟨some 20, none, .len (.t 19)⟩,
    ⟨some 21, none, .bin .gtr (.t 20) (.c (.int .i64 60))⟩])
  (.cond (.t 21)
   (.seq (.ops [⟨some 2, none, .mv (.c (.int .i64 2))⟩])
   (.ret))
   (.skip)))
  (.seq (.seq (.ops [⟨some 4, none, .mv (.c (.int .i64 0))⟩])
  (.block 0 (.loop [0, 4] [0, 2] l104_0)))
  (.seq (.seq (.ops [⟨some 6, none, .mv (.c (.int .i64 0))⟩])
  (.block 2 (.loop [0, 6] [0, 2] l104_1)))
  (.seq (.seq (.ops [⟨some 7, none, .mv (.c (.int .i64 0))⟩])
  (.block 4 (.loop [0, 7] [2] l104_2)))
  (.seq (.ops [⟨some 2, none, .mv (.c (.int .i64 0))⟩])
  (.ret)))))))⟩
theorem ok104 : FnOK Try.prog 104 v104 := ⟨⟨Try.f104, _, Try.func104, rfl, by kernel_rfl, rfl, by decide, by kernel_rfl, by kernel_rfl⟩⟩

/-- laws.toNodeS -/
def l105_0 : VC :=
  .seq (.seq (.ops [⟨some 8, none, .mv (.t 4)⟩,
    ⟨some 9, none, .mv (.t 0)⟩,
    ⟨some 10, none, .len (.t 9)⟩,
    ⟨some 11, none, .bin .lss (.t 8) (.t 10)⟩])
  (.cond (.t 11)
   (.skip)
   (.exit 0)))
  (.seq (.block 1 (.ops [⟨some 14, none, .mv (.t 3)⟩,
     ⟨some 15, none, .mv (.t 4)⟩,
     ⟨some 16, none, .mv (.t 0)⟩,
     ⟨some 17, none, .mv (.t 4)⟩,
     ⟨some 18, none, .iaddr 3 (.t 16) (.t 17)⟩,
     ⟨some 19, none, .load true 3 (.t 18)⟩,
     ⟨some 20, none, .call 141 [.t 19]⟩,
     ⟨some 21, none, .iaddr 3 (.t 14) (.t 15)⟩,
     ⟨none, none, .store 3 (.t 21) (.t 20)⟩]))
  (.ops [⟨some 12, none, .mv (.t 4)⟩,
    ⟨some 13, none, .bin .add (.t 12) (.c (.int .i64 1))⟩,
    ⟨some 4, none, .mv (.t 13)⟩]))
def v105 : VF := ⟨1, 23, [.t 2], true,
  .seq (.ops [⟨some 2, none, .mv (.c (.slice none 0 0))⟩])
  (.seq (.ops [⟨some 5, none, .mv (.t 0)⟩,
    ⟨some 6, none, .len (.t 5)⟩,
    ⟨some 7, none, .mkslice 3 40 [.int .i64 0, .bool false, .slice none 0 0] (.t 6) (.t 6)⟩,
    ⟨some 3, none, .mv (.t 7)⟩])
  (.seq (.seq (.ops [⟨some 4, none, .mv (.c (.int .i64 0))⟩])
  (.block 0 (.loop [0, 3, 4] [2, 3] l105_0)))
  (.seq (.ops [⟨some 22, none, .mv (.t 3)⟩,
    ⟨some 2, none, .mv (.t 22)⟩])
  (.ret))))⟩
theorem ok105 : FnOK Try.prog 105 v105 := ⟨⟨Try.f105, _, Try.func105, rfl, by kernel_rfl, rfl, by decide, by kernel_rfl, by kernel_rfl⟩⟩

/-- impl.isEmpty -/
def v106 : VF := ⟨1, 6, [.t 2], true,
  .seq (.ops [⟨some 2, none, .mv (.c (.bool false))⟩])
  (.seq (.ops [⟨some 3, none, .mv (.t 0)⟩,
    ⟨some 4, none, .call 107 [.t 3, .c (.func (.func 142) #[] #[])]⟩,
    ⟨some 5, none, .not (.t 4)⟩,
    ⟨some 2, none, .mv (.t 5)⟩])
  (.ret))⟩
theorem ok106 : FnOK Try.prog 106 v106 := ⟨⟨Try.f106, _, Try.func106, rfl, by kernel_rfl, rfl, by decide, by kernel_rfl, by kernel_rfl⟩⟩

/-- slices.ContainsFunc[[]int64,int64] -/
def v107 : VF := ⟨2, 9, [.t 4], true,
  .seq (.ops [⟨some 4, none, .mv (.c (.bool false))⟩])
  (.seq (.ops [⟨some 5, none, .mv (.t 0)⟩,
    ⟨some 6, none, .mv (.t 1)⟩,
    ⟨some 7, none, .call 143 [.t 5, .t 6]⟩,
    ⟨some 8, none, .bin .geq (.t 7) (.c (.int .i64 0))⟩,
    ⟨some 4, none, .mv (.t 8)⟩])
  (.ret))⟩
theorem ok107 : FnOK Try.prog 107 v107 := ⟨⟨Try.f107, _, Try.func107, rfl, by kernel_rfl, rfl, by decide, by kernel_rfl, by kernel_rfl⟩⟩

/-- impl.ForestFault$1 -/
def v108 : VF := ⟨3, 10, [.t 4], true,
  .seq (.ops [⟨some 4, none, .mv (.c (.bool false))⟩])
  (.seq (.ops [⟨some 5, none, .load true 2 (.t 1)⟩,
    ⟨some 6, none, .load true 3 (.t 2)⟩,
    ⟨some 7, none, .mv (.t 0)⟩,
    ⟨some 8, none, .call 109 [.t 5, .t 6, .t 7]⟩,
    ⟨some 9, none, .not (.t 8)⟩,
    ⟨some 4, none, .mv (.t 9)⟩])
  (.ret))⟩
theorem ok108 : FnOK Try.prog 108 v108 := ⟨⟨Try.f108, _, Try.func108, rfl, by kernel_rfl, rfl, by decide, by kernel_rfl, by kernel_rfl⟩⟩

/-- impl.isKid -/
def v109 : VF := ⟨3, 51, [.t 6], true,
  .seq (.ops [⟨some 3, none, .box (.t 0)⟩,
    ⟨some 4, none, .box (.t 1)⟩,
    ⟨some 6, none, .mv (.c (.bool false))⟩])
  (.seq (.block 0 (.seq (.ops [⟨some 8, none, .mv (.t 2)⟩,
     ⟨some 9, none, .bin .eql (.t 8) (.c (.int .i64 (-1)))⟩,
     ⟨some 7, none, .mv (.t 9)⟩])
   (.cond (.t 7)
    (.seq (.ops [⟨some 6, none, .mv (.c (.bool true))⟩])
    (.ret))
    (.seq (.ops [⟨some 11, none, .faddr 1 (.t 4)⟩,
      ⟨some 12, none, .load false 1 (.t 11)⟩,
      ⟨some 10, none, .mv (.t 12)⟩])
    (.cond (.t 10)
     (.seq (.ops [⟨some 13, none, .mv (.t 2)⟩,
       ⟨some 14, none, .faddr 1 (.t 3)⟩,
       ⟨some 15, none, .load false 1 (.t 14)⟩,
       ⟨some 16, none, .len (.t 15)⟩,
       ⟨some 17, none, .bin .sub (.t 16) (.c (.int .i64 1))⟩,
       ⟨some 18, none, .call 77 [.t 13, .c (.int .i64 0), .t 17]⟩,
       ⟨some 19, none, .mv (.t 18)⟩,
       ⟨some 20, some (19, true), .faddr 1 (.t 3)⟩,
       ⟨some 21, some (19, true), .load false 1 (.t 20)⟩,
       ⟨some 22, some (19, true), .mv (.t 2)⟩,
       ⟨some 23, some (19, true), .iaddr 2 (.t 21) (.t 22)⟩,
       ⟨some 24, some (19, true), .faddr 0 (.t 23)⟩,
       ⟨some 25, some (19, true), .load false 1 (.t 24)⟩,
       ⟨some 26, some (19, true), .bin .gtr (.t 25) (.c (.int .i64 0))⟩,
       ⟨some 27, none, .pick (.t 19) (.t 26) (.c (.bool false))⟩,
       ⟨some 6, none, .mv (.t 27)⟩])
     (.ret))
     (.skip))))))
  (.seq (.ops [⟨some 28, none, .mv (.t 2)⟩,
    ⟨some 29, none, .faddr 0 (.t 3)⟩,
    ⟨some 30, none, .load false 1 (.t 29)⟩,
    ⟨some 31, none, .len (.t 30)⟩,
    ⟨some 32, none, .bin .sub (.t 31) (.c (.int .i64 1))⟩,
    ⟨some 33, none, .call 77 [.t 28, .c (.int .i64 0), .t 32]⟩,
    ⟨some 34, none, .mv (.t 33)⟩,
    ⟨some 35, some (34, true), .faddr 0 (.t 3)⟩,
    ⟨some 36, some (34, true), .load false 1 (.t 35)⟩,
    ⟨some 37, some (34, true), .mv (.t 2)⟩,
    ⟨some 38, some (34, true), .iaddr 3 (.t 36) (.t 37)⟩,
    ⟨some 39, some (34, true), .faddr 1 (.t 38)⟩,
    ⟨some 40, some (34, true), .load false 1 (.t 39)⟩,
    ⟨some 41, none, .pick (.t 34) (.t 40) (.c (.bool false))⟩,
    ⟨some 42, none, .mv (.t 41)⟩,
    ⟨some 43, some (42, true), .faddr 0 (.t 3)⟩,
    ⟨some 44, some (42, true), .load false 1 (.t 43)⟩,
    ⟨some 45, some (42, true), .mv (.t 2)⟩,
    ⟨some 46, some (42, true), .iaddr 3 (.t 44) (.t 45)⟩,
    ⟨some 47, some (42, true), .faddr 0 (.t 46)⟩,
    ⟨some 48, some (42, true), .load false 1 (.t 47)⟩,
    ⟨some 49, some (42, true), .bin .gtr (.t 48) (.c (.int .i64 0))⟩,
    ⟨some 50, none, .pick (.t 42) (.t 49) (.c (.bool false))⟩,
    ⟨some 6, none, .mv (.t 50)⟩])
  (.ret)))⟩
theorem ok109 : FnOK Try.prog 109 v109 := ⟨⟨Try.f109, _, Try.func109, rfl, by kernel_rfl, rfl, by decide, by kernel_rfl, by kernel_rfl⟩⟩
def env1 : Env := [(44, v44), (45, v45), (46, v46), (47, v47), (48, v48), (49, v49), (50, v50), (51, v51), (52, v52), (53, v53), (54, v54), (55, v55), (56, v56), (57, v57), (58, v58), (59, v59), (60, v60), (61, v61), (62, v62), (63, v63), (64, v64), (65, v65), (66, v66), (67, v67), (68, v68), (69, v69), (70, v70), (71, v71), (75, v75), (76, v76), (77, v77), (78, v78), (79, v79), (80, v80), (81, v81), (82, v82), (83, v83), (84, v84), (85, v85), (86, v86), (87, v87), (88, v88), (89, v89), (90, v90), (91, v91), (92, v92), (97, v97), (98, v98), (99, v99), (100, v100), (101, v101), (102, v102), (103, v103), (104, v104), (105, v105), (106, v106), (107, v107), (108, v108), (109, v109)]
theorem envOK1 : EnvOK Try.prog env1 := .cons ok44 (.cons ok45 (.cons ok46 (.cons ok47 (.cons ok48 (.cons ok49 (.cons ok50 (.cons ok51 (.cons ok52 (.cons ok53 (.cons ok54 (.cons ok55 (.cons ok56 (.cons ok57 (.cons ok58 (.cons ok59 (.cons ok60 (.cons ok61 (.cons ok62 (.cons ok63 (.cons ok64 (.cons ok65 (.cons ok66 (.cons ok67 (.cons ok68 (.cons ok69 (.cons ok70 (.cons ok71 (.cons ok75 (.cons ok76 (.cons ok77 (.cons ok78 (.cons ok79 (.cons ok80 (.cons ok81 (.cons ok82 (.cons ok83 (.cons ok84 (.cons ok85 (.cons ok86 (.cons ok87 (.cons ok88 (.cons ok89 (.cons ok90 (.cons ok91 (.cons ok92 (.cons ok97 (.cons ok98 (.cons ok99 (.cons ok100 (.cons ok101 (.cons ok102 (.cons ok103 (.cons ok104 (.cons ok105 (.cons ok106 (.cons ok107 (.cons ok108 (.cons ok109 (.nil)))))))))))))))))))))))))))))))))))))))))))))))))))))))))))
end Go.Proofs.Ytmcljallamhccaa.V
