/- The machine's code of the program's functions; each is the program's own, by the kernel. Laid by a program (wip/v/vmgen.py). -/
import Derived.Test.YtflddpkmajoeaaaVMS
import Derived.Test.YtflddpkmajoeaaaProg
namespace Go.Proofs.Ytflddpkmajoeaaa.V
open Go
set_option maxRecDepth 100000
/-- laws.FnExactSamePools -/
def v5 : VF := ⟨2, 45, [.t 4], true,
  .seq (.ops [⟨some 2, none, .box (.t 0)⟩,
    ⟨some 3, none, .box (.t 1)⟩,
    ⟨some 4, none, .mv (.c (.bool false))⟩])
  (.seq (.ops [⟨some 5, none, .mv (.c (.int .i64 1048576))⟩])
  (.seq (.ops [⟨some 10, none, .load true 3 (.t 2)⟩,
    ⟨some 11, none, .mv (.t 5)⟩,
    ⟨some 12, none, .call 26 [.t 10, .t 11]⟩,
    ⟨some 5, none, .mv (.t 12)⟩])
  (.seq (.seq (.ops [⟨some 13, none, .mv (.t 5)⟩,
    ⟨some 14, none, .bin .lss (.t 13) (.c (.int .i64 0))⟩])
  (.cond (.t 14)
   (.seq (.ops [⟨some 4, none, .mv (.c (.bool true))⟩])
   (.ret))
   (.skip)))
  (.seq (.ops [⟨some 15, none, .load true 3 (.t 3)⟩,
    ⟨some 16, none, .mv (.t 5)⟩,
    ⟨some 17, none, .call 26 [.t 15, .t 16]⟩,
    ⟨some 5, none, .mv (.t 17)⟩])
  (.seq (.seq (.ops [⟨some 18, none, .mv (.t 5)⟩,
    ⟨some 19, none, .bin .lss (.t 18) (.c (.int .i64 0))⟩])
  (.cond (.t 19)
   (.seq (.ops [⟨some 4, none, .mv (.c (.bool true))⟩])
   (.ret))
   (.skip)))
  (.seq (.draw [⟨some 20, none, .load true 3 (.t 2)⟩,
    ⟨some 21, none, .call 28 [.t 20]⟩,
    ⟨some 22, none, .load true 3 (.t 3)⟩] [⟨some 23, none, .call 28 [.t 22]⟩,
    ⟨some 24, none, .call 27 [.t 21, .t 23]⟩,
    ⟨some 6, none, .mv (.t 24)⟩])
  (.seq (.ops [⟨some 25, none, .load true 3 (.t 2)⟩,
    ⟨some 26, none, .call 28 [.t 25]⟩,
    ⟨some 7, none, .new [.slice none 0 0, .slice none 0 0, .slice none 0 0]⟩,
    ⟨none, none, .store 3 (.t 7) (.t 26)⟩])
  (.seq (.ops [⟨some 27, none, .load true 3 (.t 3)⟩,
    ⟨some 28, none, .call 28 [.t 27]⟩,
    ⟨some 8, none, .new [.slice none 0 0, .slice none 0 0, .slice none 0 0]⟩,
    ⟨none, none, .store 3 (.t 8) (.t 28)⟩])
  (.seq (.ops [⟨some 29, none, .load true 3 (.t 7)⟩,
    ⟨some 30, none, .load true 3 (.t 8)⟩,
    ⟨some 31, none, .call 29 [.t 29, .t 30]⟩,
    ⟨some 9, none, .mv (.t 31)⟩])
  (.seq (.seq (.ops [⟨some 32, none, .mv (.t 9)⟩,
    ⟨some 33, none, .mv (.t 6)⟩,
    ⟨some 34, none, .beq true (.t 32) (.t 33)⟩])
  (.cond (.t 34)
   (.seq (.ops [⟨some 4, none, .mv (.c (.bool false))⟩])
   (.ret))
   (.skip)))
  (.seq (.seq (.draw [⟨some 35, none, .load true 3 (.t 7)⟩,
    ⟨some 36, none, .load true 3 (.t 2)⟩,
    ⟨some 37, none, .call 28 [.t 36]⟩] [⟨some 38, none, .call 30 [.t 35, .t 37]⟩,
    ⟨some 39, none, .not (.t 38)⟩])
  (.cond (.t 39)
   (.seq (.ops [⟨some 4, none, .mv (.c (.bool false))⟩])
   (.ret))
   (.skip)))
  (.seq (.seq (.draw [⟨some 40, none, .load true 3 (.t 8)⟩,
    ⟨some 41, none, .load true 3 (.t 3)⟩,
    ⟨some 42, none, .call 28 [.t 41]⟩] [⟨some 43, none, .call 30 [.t 40, .t 42]⟩,
    ⟨some 44, none, .not (.t 43)⟩])
  (.cond (.t 44)
   (.seq (.ops [⟨some 4, none, .mv (.c (.bool false))⟩])
   (.ret))
   (.skip)))
  (.seq (.ops [⟨some 4, none, .mv (.c (.bool true))⟩])
  (.ret))))))))))))))⟩
theorem ok5 : FnOK Try.prog 5 v5 := ⟨⟨Try.f5, _, Try.func5, rfl, by kernel_rfl, rfl, by decide, by kernel_rfl, by kernel_rfl⟩⟩

/-- laws.toInt64S -/
def l14_0 : VC :=
  .seq (.seq (.ops [⟨some 8, none, .mv (.t 4)⟩,
    ⟨some 9, none, .mv (.t 0)⟩,
    ⟨some 10, none, .len (.t 9)⟩,
    ⟨some 11, none, .bin .lss (.t 8) (.t 10)⟩])
  (.cond (.t 11)
   (.skip)
   (.exit 0)))
  (.seq (.block 1 (.ops [⟨some 14, none, .mv (.t 3)⟩,
     ⟨some 15, none, .mv (.t 4)⟩,
     ⟨some 16, none, .mv (.t 0)⟩,
     ⟨some 17, none, .mv (.t 4)⟩,
     ⟨some 18, none, .iaddr 1 (.t 16) (.t 17)⟩,
     ⟨some 19, none, .load false 1 (.t 18)⟩,
     ⟨some 20, none, .iaddr 1 (.t 14) (.t 15)⟩,
     ⟨none, none, .store 1 (.t 20) (.t 19)⟩]))
  (.ops [⟨some 12, none, .mv (.t 4)⟩,
    ⟨some 13, none, .bin .add (.t 12) (.c (.int .i64 1))⟩,
    ⟨some 4, none, .mv (.t 13)⟩]))
def v14 : VF := ⟨1, 22, [.t 2], true,
  .seq (.ops [⟨some 2, none, .mv (.c (.slice none 0 0))⟩])
  (.seq (.ops [⟨some 5, none, .mv (.t 0)⟩,
    ⟨some 6, none, .len (.t 5)⟩,
    ⟨some 7, none, .mkslice 1 8 [.int .i64 0] (.t 6) (.t 6)⟩,
    ⟨some 3, none, .mv (.t 7)⟩])
  (.seq (.seq (.ops [⟨some 4, none, .mv (.c (.int .i64 0))⟩])
  (.block 0 (.loop [0, 3, 4] [2, 3] l14_0)))
  (.seq (.ops [⟨some 21, none, .mv (.t 3)⟩,
    ⟨some 2, none, .mv (.t 21)⟩])
  (.ret))))⟩
theorem ok14 : FnOK Try.prog 14 v14 := ⟨⟨Try.f14, _, Try.func14, rfl, by kernel_rfl, rfl, by decide, by kernel_rfl, by kernel_rfl⟩⟩

/-- laws.eqInt64S -/
def l17_0 : VC :=
  .seq (.seq (.ops [⟨some 11, none, .mv (.t 5)⟩,
    ⟨some 12, none, .mv (.t 0)⟩,
    ⟨some 13, none, .len (.t 12)⟩,
    ⟨some 14, none, .bin .lss (.t 11) (.t 13)⟩])
  (.cond (.t 14)
   (.skip)
   (.exit 0)))
  (.seq (.block 1 (.seq (.draw [⟨some 17, none, .mv (.t 0)⟩,
     ⟨some 18, none, .mv (.t 5)⟩,
     ⟨some 19, none, .iaddr 1 (.t 17) (.t 18)⟩,
     ⟨some 20, none, .load false 1 (.t 19)⟩,
     ⟨some 21, none, .mv (.t 1)⟩,
     ⟨some 22, none, .mv (.t 5)⟩,
     ⟨some 23, none, .iaddr 1 (.t 21) (.t 22)⟩,
     ⟨some 24, none, .load false 1 (.t 23)⟩] [⟨some 25, none, .bin .neq (.t 20) (.t 24)⟩])
   (.cond (.t 25)
    (.seq (.ops [⟨some 4, none, .mv (.c (.bool false))⟩])
    (.ret))
    (.skip))))
  (.ops [⟨some 15, none, .mv (.t 5)⟩,
    ⟨some 16, none, .bin .add (.t 15) (.c (.int .i64 1))⟩,
    ⟨some 5, none, .mv (.t 16)⟩]))
def v17 : VF := ⟨2, 26, [.t 4], true,
  .seq (.ops [⟨some 4, none, .mv (.c (.bool false))⟩])
  (.seq (.seq (.ops [⟨some 6, none, .mv (.t 0)⟩,
    ⟨some 7, none, .len (.t 6)⟩,
    ⟨some 8, none, .mv (.t 1)⟩,
    ⟨some 9, none, .len (.t 8)⟩,
    ⟨some 10, none, .bin .neq (.t 7) (.t 9)⟩])
  (.cond (.t 10)
   (.seq (.ops [⟨some 4, none, .mv (.c (.bool false))⟩])
   (.ret))
   (.skip)))
  (.seq (.seq (.ops [⟨some 5, none, .mv (.c (.int .i64 0))⟩])
  (.block 0 (.loop [0, 1, 5] [4] l17_0)))
  (.seq (.ops [⟨some 4, none, .mv (.c (.bool true))⟩])
  (.ret))))⟩
theorem ok17 : FnOK Try.prog 17 v17 := ⟨⟨Try.f17, _, Try.func17, rfl, by kernel_rfl, rfl, by decide, by kernel_rfl, by kernel_rfl⟩⟩

/-- laws.szPool -/
def v26 : VF := ⟨2, 18, [.t 4], true,
  .seq (.ops [⟨some 2, none, .box (.t 0)⟩,
    ⟨some 4, none, .mv (.c (.int .i64 0))⟩])
  (.seq (.ops [⟨some 5, none, .faddr 0 (.t 2)⟩,
    ⟨some 6, none, .load true 2 (.t 5)⟩,
    ⟨some 7, none, .mv (.t 1)⟩,
    ⟨some 8, none, .call 67 [.t 6, .t 7]⟩,
    ⟨some 1, none, .mv (.t 8)⟩])
  (.seq (.seq (.ops [⟨some 9, none, .mv (.t 1)⟩,
    ⟨some 10, none, .bin .lss (.t 9) (.c (.int .i64 0))⟩])
  (.cond (.t 10)
   (.seq (.ops [⟨some 4, none, .mv (.c (.int .i64 (-1)))⟩])
   (.ret))
   (.skip)))
  (.seq (.ops [⟨some 11, none, .faddr 2 (.t 2)⟩,
    ⟨some 12, none, .load false 1 (.t 11)⟩,
    ⟨some 13, none, .mv (.t 1)⟩,
    ⟨some 14, none, .call 58 [.t 12, .t 13]⟩,
    ⟨some 1, none, .mv (.t 14)⟩])
  (.seq (.seq (.ops [⟨some 15, none, .mv (.t 1)⟩,
    ⟨some 16, none, .bin .lss (.t 15) (.c (.int .i64 0))⟩])
  (.cond (.t 16)
   (.seq (.ops [⟨some 4, none, .mv (.c (.int .i64 (-1)))⟩])
   (.ret))
   (.skip)))
  (.seq (.ops [⟨some 17, none, .mv (.t 1)⟩,
    ⟨some 4, none, .mv (.t 17)⟩])
  (.ret))))))⟩
theorem ok26 : FnOK Try.prog 26 v26 := ⟨⟨Try.f26, _, Try.func26, rfl, by kernel_rfl, rfl, by decide, by kernel_rfl, by kernel_rfl⟩⟩

/-- spec.SamePools -/
def l27_0 : VC :=
  .seq (.seq (.ops [⟨some 39, none, .mv (.t 5)⟩,
    ⟨some 40, none, .faddr 2 (.t 2)⟩,
    ⟨some 41, none, .load false 1 (.t 40)⟩,
    ⟨some 42, none, .len (.t 41)⟩,
    ⟨some 43, none, .bin .lss (.t 39) (.t 42)⟩])
  (.cond (.t 43)
   (.skip)
   (.exit 0)))
  (.seq (.block 1 (.seq (.draw [⟨some 46, none, .faddr 2 (.t 2)⟩,
     ⟨some 47, none, .load false 1 (.t 46)⟩,
     ⟨some 48, none, .mv (.t 5)⟩,
     ⟨some 49, none, .iaddr 3 (.t 47) (.t 48)⟩,
     ⟨some 50, none, .load true 3 (.t 49)⟩,
     ⟨some 51, none, .faddr 2 (.t 3)⟩,
     ⟨some 52, none, .load false 1 (.t 51)⟩,
     ⟨some 53, none, .mv (.t 5)⟩,
     ⟨some 54, none, .iaddr 3 (.t 52) (.t 53)⟩,
     ⟨some 55, none, .load true 3 (.t 54)⟩] [⟨some 56, none, .aeq true 3 (.t 50) (.t 55)⟩])
   (.cond (.t 56)
    (.seq (.ops [⟨some 4, none, .mv (.c (.bool false))⟩])
    (.ret))
    (.skip))))
  (.ops [⟨some 44, none, .mv (.t 5)⟩,
    ⟨some 45, none, .bin .add (.t 44) (.c (.int .i64 1))⟩,
    ⟨some 5, none, .mv (.t 45)⟩]))
def l27_1 : VC :=
  .seq (.seq (.ops [⟨some 57, none, .mv (.t 6)⟩,
    ⟨some 58, none, .faddr 0 (.t 2)⟩,
    ⟨some 59, none, .faddr 1 (.t 58)⟩,
    ⟨some 60, none, .load false 1 (.t 59)⟩,
    ⟨some 61, none, .len (.t 60)⟩,
    ⟨some 62, none, .bin .lss (.t 57) (.t 61)⟩])
  (.cond (.t 62)
   (.skip)
   (.exit 2)))
  (.seq (.block 3 (.seq (.draw [⟨some 65, none, .faddr 0 (.t 2)⟩,
     ⟨some 66, none, .faddr 1 (.t 65)⟩,
     ⟨some 67, none, .load false 1 (.t 66)⟩,
     ⟨some 68, none, .mv (.t 6)⟩,
     ⟨some 69, none, .iaddr 2 (.t 67) (.t 68)⟩,
     ⟨some 70, none, .load true 2 (.t 69)⟩,
     ⟨some 71, none, .faddr 0 (.t 3)⟩,
     ⟨some 72, none, .faddr 1 (.t 71)⟩,
     ⟨some 73, none, .load false 1 (.t 72)⟩,
     ⟨some 74, none, .mv (.t 6)⟩,
     ⟨some 75, none, .iaddr 2 (.t 73) (.t 74)⟩,
     ⟨some 76, none, .load true 2 (.t 75)⟩] [⟨some 77, none, .aeq true 2 (.t 70) (.t 76)⟩])
   (.cond (.t 77)
    (.seq (.ops [⟨some 4, none, .mv (.c (.bool false))⟩])
    (.ret))
    (.skip))))
  (.ops [⟨some 63, none, .mv (.t 6)⟩,
    ⟨some 64, none, .bin .add (.t 63) (.c (.int .i64 1))⟩,
    ⟨some 6, none, .mv (.t 64)⟩]))
def l27_2 : VC :=
  .seq (.seq (.ops [⟨some 78, none, .mv (.t 7)⟩,
    ⟨some 79, none, .faddr 0 (.t 2)⟩,
    ⟨some 80, none, .faddr 0 (.t 79)⟩,
    ⟨some 81, none, .load false 1 (.t 80)⟩,
    ⟨some 82, none, .len (.t 81)⟩,
    ⟨some 83, none, .bin .lss (.t 78) (.t 82)⟩])
  (.cond (.t 83)
   (.skip)
   (.exit 4)))
  (.seq (.block 5 (.seq (.ops [⟨some 86, none, .faddr 0 (.t 2)⟩,
     ⟨some 87, none, .faddr 0 (.t 86)⟩,
     ⟨some 88, none, .load false 1 (.t 87)⟩,
     ⟨some 89, none, .mv (.t 7)⟩,
     ⟨some 90, none, .iaddr 3 (.t 88) (.t 89)⟩,
     ⟨some 8, none, .mv (.t 90)⟩])
   (.seq (.ops [⟨some 91, none, .faddr 0 (.t 3)⟩,
     ⟨some 92, none, .faddr 0 (.t 91)⟩,
     ⟨some 93, none, .load false 1 (.t 92)⟩,
     ⟨some 94, none, .mv (.t 7)⟩,
     ⟨some 95, none, .iaddr 3 (.t 93) (.t 94)⟩,
     ⟨some 9, none, .mv (.t 95)⟩])
   (.seq (.draw [⟨some 96, none, .mv (.t 8)⟩,
     ⟨some 97, none, .nilck (.t 96)⟩,
     ⟨some 98, none, .faddr 0 (.t 97)⟩,
     ⟨some 99, none, .load false 1 (.t 98)⟩,
     ⟨some 100, none, .mv (.t 9)⟩,
     ⟨some 101, none, .nilck (.t 100)⟩,
     ⟨some 102, none, .faddr 0 (.t 101)⟩,
     ⟨some 103, none, .load false 1 (.t 102)⟩,
     ⟨some 104, none, .bin .neq (.t 99) (.t 103)⟩,
     ⟨some 105, none, .mv (.t 104)⟩,
     ⟨some 106, some (105, false), .mv (.t 8)⟩,
     ⟨some 107, some (105, false), .nilck (.t 106)⟩,
     ⟨some 108, some (105, false), .faddr 1 (.t 107)⟩,
     ⟨some 109, some (105, false), .load false 1 (.t 108)⟩,
     ⟨some 110, some (105, false), .mv (.t 9)⟩,
     ⟨some 111, some (105, false), .nilck (.t 110)⟩,
     ⟨some 112, some (105, false), .faddr 1 (.t 111)⟩,
     ⟨some 113, some (105, false), .load false 1 (.t 112)⟩,
     ⟨some 114, some (105, false), .beq true (.t 109) (.t 113)⟩,
     ⟨some 115, none, .pick (.t 105) (.c (.bool true)) (.t 114)⟩,
     ⟨some 116, none, .mv (.t 115)⟩,
     ⟨some 117, some (116, false), .mv (.t 8)⟩,
     ⟨some 118, some (116, false), .nilck (.t 117)⟩,
     ⟨some 119, some (116, false), .faddr 2 (.t 118)⟩,
     ⟨some 120, some (116, false), .load false 1 (.t 119)⟩,
     ⟨some 121, some (116, false), .mv (.t 9)⟩,
     ⟨some 122, some (116, false), .nilck (.t 121)⟩,
     ⟨some 123, some (116, false), .faddr 2 (.t 122)⟩,
     ⟨some 124, some (116, false), .load false 1 (.t 123)⟩] [⟨some 125, some (116, false), .call 68 [.t 120, .t 124]⟩,
     ⟨some 126, some (116, false), .not (.t 125)⟩,
     ⟨some 127, none, .pick (.t 116) (.c (.bool true)) (.t 126)⟩])
   (.cond (.t 127)
    (.seq (.ops [⟨some 4, none, .mv (.c (.bool false))⟩])
    (.ret))
    (.skip))))))
  (.ops [⟨some 84, none, .mv (.t 7)⟩,
    ⟨some 85, none, .bin .add (.t 84) (.c (.int .i64 1))⟩,
    ⟨some 7, none, .mv (.t 85)⟩]))
def v27 : VF := ⟨2, 128, [.t 4], true,
  .seq (.ops [⟨some 2, none, .box (.t 0)⟩,
    ⟨some 3, none, .box (.t 1)⟩,
    ⟨some 4, none, .mv (.c (.bool false))⟩])
  (.seq (.seq (.ops [⟨some 10, none, .faddr 2 (.t 2)⟩,
    ⟨some 11, none, .load false 1 (.t 10)⟩,
    ⟨some 12, none, .len (.t 11)⟩,
    ⟨some 13, none, .faddr 2 (.t 3)⟩,
    ⟨some 14, none, .load false 1 (.t 13)⟩,
    ⟨some 15, none, .len (.t 14)⟩,
    ⟨some 16, none, .bin .neq (.t 12) (.t 15)⟩,
    ⟨some 17, none, .mv (.t 16)⟩,
    ⟨some 18, some (17, false), .faddr 0 (.t 2)⟩,
    ⟨some 19, some (17, false), .faddr 0 (.t 18)⟩,
    ⟨some 20, some (17, false), .load false 1 (.t 19)⟩,
    ⟨some 21, some (17, false), .len (.t 20)⟩,
    ⟨some 22, some (17, false), .faddr 0 (.t 3)⟩,
    ⟨some 23, some (17, false), .faddr 0 (.t 22)⟩,
    ⟨some 24, some (17, false), .load false 1 (.t 23)⟩,
    ⟨some 25, some (17, false), .len (.t 24)⟩,
    ⟨some 26, some (17, false), .bin .neq (.t 21) (.t 25)⟩,
    ⟨some 27, none, .pick (.t 17) (.c (.bool true)) (.t 26)⟩,
    ⟨some 28, none, .mv (.t 27)⟩,
    ⟨some 29, some (28, false), .faddr 0 (.t 2)⟩,
    ⟨some 30, some (28, false), .faddr 1 (.t 29)⟩,
    ⟨some 31, some (28, false), .load false 1 (.t 30)⟩,
    ⟨some 32, some (28, false), .len (.t 31)⟩,
    ⟨some 33, some (28, false), .faddr 0 (.t 3)⟩,
    ⟨some 34, some (28, false), .faddr 1 (.t 33)⟩,
    ⟨some 35, some (28, false), .load false 1 (.t 34)⟩,
    ⟨some 36, some (28, false), .len (.t 35)⟩,
    ⟨some 37, some (28, false), .bin .neq (.t 32) (.t 36)⟩,
    ⟨some 38, none, .pick (.t 28) (.c (.bool true)) (.t 37)⟩])
  (.cond (.t 38)
   (.seq (.ops [⟨some 4, none, .mv (.c (.bool false))⟩])
   (.ret))
   (.skip)))
  (.seq (.seq (.ops [⟨some 5, none, .mv (.c (.int .i64 0))⟩])
  (.block 0 (.loop [2, 3, 5] [2, 3, 4] l27_0)))
  (.seq (.seq (.ops [⟨some 6, none, .mv (.c (.int .i64 0))⟩])
  (.block 2 (.loop [2, 3, 6] [2, 3, 4] l27_1)))
  (.seq (.seq (.ops [⟨some 7, none, .mv (.c (.int .i64 0))⟩])
  (.block 4 (.loop [2, 3, 7] [4] l27_2)))
  (.seq (.ops [⟨some 4, none, .mv (.c (.bool true))⟩])
  (.ret))))))⟩
theorem ok27 : FnOK Try.prog 27 v27 := ⟨⟨Try.f27, _, Try.func27, rfl, by kernel_rfl, rfl, by decide, by kernel_rfl, by kernel_rfl⟩⟩

/-- laws.toPool -/
def v28 : VF := ⟨1, 13, [.cell 2 true 3], true,
  .seq (.ops [⟨some 1, none, .box (.t 0)⟩,
    ⟨some 2, none, .new [.slice none 0 0, .slice none 0 0, .slice none 0 0]⟩])
  (.seq (.ops [⟨some 3, none, .new [.slice none 0 0, .slice none 0 0, .slice none 0 0]⟩])
  (.seq (.ops [⟨some 4, none, .faddr 0 (.t 1)⟩,
    ⟨some 5, none, .load true 2 (.t 4)⟩,
    ⟨some 6, none, .call 69 [.t 5]⟩,
    ⟨some 7, none, .faddr 0 (.t 3)⟩,
    ⟨none, none, .store 2 (.t 7) (.t 6)⟩])
  (.seq (.ops [⟨some 8, none, .faddr 2 (.t 1)⟩,
    ⟨some 9, none, .load false 1 (.t 8)⟩,
    ⟨some 10, none, .call 61 [.t 9]⟩,
    ⟨some 11, none, .faddr 2 (.t 3)⟩,
    ⟨none, none, .store 1 (.t 11) (.t 10)⟩])
  (.seq (.ops [⟨some 12, none, .load true 3 (.t 3)⟩,
    ⟨none, none, .store 3 (.t 2) (.t 12)⟩])
  (.ret)))))⟩
theorem ok28 : FnOK Try.prog 28 v28 := ⟨⟨Try.f28, _, Try.func28, rfl, by kernel_rfl, rfl, by decide, by kernel_rfl, by kernel_rfl⟩⟩

/-- impl.SamePools -/
def v29 : VF := ⟨2, 28, [.t 4], true,
  .seq (.ops [⟨some 2, none, .box (.t 0)⟩,
    ⟨some 3, none, .box (.t 1)⟩,
    ⟨some 4, none, .mv (.c (.bool false))⟩])
  (.seq (.ops [⟨some 5, none, .faddr 2 (.t 2)⟩,
    ⟨some 6, none, .load false 1 (.t 5)⟩,
    ⟨some 7, none, .faddr 2 (.t 3)⟩,
    ⟨some 8, none, .load false 1 (.t 7)⟩,
    ⟨some 9, none, .call 63 [.t 6, .t 8]⟩,
    ⟨some 10, none, .mv (.t 9)⟩,
    ⟨some 11, some (10, true), .faddr 0 (.t 2)⟩,
    ⟨some 12, some (10, true), .faddr 1 (.t 11)⟩,
    ⟨some 13, some (10, true), .load false 1 (.t 12)⟩,
    ⟨some 14, some (10, true), .faddr 0 (.t 3)⟩,
    ⟨some 15, some (10, true), .faddr 1 (.t 14)⟩,
    ⟨some 16, some (10, true), .load false 1 (.t 15)⟩,
    ⟨some 17, some (10, true), .call 70 [.t 13, .t 16]⟩,
    ⟨some 18, none, .pick (.t 10) (.t 17) (.c (.bool false))⟩,
    ⟨some 19, none, .mv (.t 18)⟩,
    ⟨some 20, some (19, true), .faddr 0 (.t 2)⟩,
    ⟨some 21, some (19, true), .faddr 0 (.t 20)⟩,
    ⟨some 22, some (19, true), .load false 1 (.t 21)⟩,
    ⟨some 23, some (19, true), .faddr 0 (.t 3)⟩,
    ⟨some 24, some (19, true), .faddr 0 (.t 23)⟩,
    ⟨some 25, some (19, true), .load false 1 (.t 24)⟩,
    ⟨some 26, some (19, true), .call 71 [.t 22, .t 25, .c (.func (.func 72) #[] #[])]⟩,
    ⟨some 27, none, .pick (.t 19) (.t 26) (.c (.bool false))⟩,
    ⟨some 4, none, .mv (.t 27)⟩])
  (.ret))⟩
theorem ok29 : FnOK Try.prog 29 v29 := ⟨⟨Try.f29, _, Try.func29, rfl, by kernel_rfl, rfl, by decide, by kernel_rfl, by kernel_rfl⟩⟩

/-- laws.eqPool -/
def v30 : VF := ⟨2, 17, [.t 4], true,
  .seq (.ops [⟨some 2, none, .box (.t 0)⟩,
    ⟨some 3, none, .box (.t 1)⟩,
    ⟨some 4, none, .mv (.c (.bool false))⟩])
  (.seq (.seq (.ops [⟨some 5, none, .faddr 0 (.t 2)⟩,
    ⟨some 6, none, .load true 2 (.t 5)⟩,
    ⟨some 7, none, .faddr 0 (.t 3)⟩,
    ⟨some 8, none, .load true 2 (.t 7)⟩,
    ⟨some 9, none, .call 74 [.t 6, .t 8]⟩,
    ⟨some 10, none, .not (.t 9)⟩])
  (.cond (.t 10)
   (.seq (.ops [⟨some 4, none, .mv (.c (.bool false))⟩])
   (.ret))
   (.skip)))
  (.seq (.seq (.ops [⟨some 11, none, .faddr 2 (.t 2)⟩,
    ⟨some 12, none, .load false 1 (.t 11)⟩,
    ⟨some 13, none, .faddr 2 (.t 3)⟩,
    ⟨some 14, none, .load false 1 (.t 13)⟩,
    ⟨some 15, none, .call 65 [.t 12, .t 14]⟩,
    ⟨some 16, none, .not (.t 15)⟩])
  (.cond (.t 16)
   (.seq (.ops [⟨some 4, none, .mv (.c (.bool false))⟩])
   (.ret))
   (.skip)))
  (.seq (.ops [⟨some 4, none, .mv (.c (.bool true))⟩])
  (.ret))))⟩
theorem ok30 : FnOK Try.prog 30 v30 := ⟨⟨Try.f30, _, Try.func30, rfl, by kernel_rfl, rfl, by decide, by kernel_rfl, by kernel_rfl⟩⟩

/-- laws.szVolS -/
def v58 : VF := ⟨2, 12, [.t 4], true,
  .seq (.ops [⟨some 4, none, .mv (.c (.int .i64 0))⟩])
  (.seq (.ops [⟨some 5, none, .mv (.t 1)⟩,
    ⟨some 6, none, .mv (.t 0)⟩,
    ⟨some 7, none, .len (.t 6)⟩,
    ⟨some 8, none, .bin .sub (.t 5) (.t 7)⟩,
    ⟨some 1, none, .mv (.t 8)⟩])
  (.seq (.seq (.ops [⟨some 9, none, .mv (.t 1)⟩,
    ⟨some 10, none, .bin .lss (.t 9) (.c (.int .i64 0))⟩])
  (.cond (.t 10)
   (.seq (.ops [⟨some 4, none, .mv (.c (.int .i64 (-1)))⟩])
   (.ret))
   (.skip)))
  (.seq (.ops [⟨some 11, none, .mv (.t 1)⟩,
    ⟨some 4, none, .mv (.t 11)⟩])
  (.ret))))⟩
theorem ok58 : FnOK Try.prog 58 v58 := ⟨⟨Try.f58, _, Try.func58, rfl, by kernel_rfl, rfl, by decide, by kernel_rfl, by kernel_rfl⟩⟩

/-- laws.szInt64S -/
def v60 : VF := ⟨2, 12, [.t 4], true,
  .seq (.ops [⟨some 4, none, .mv (.c (.int .i64 0))⟩])
  (.seq (.ops [⟨some 5, none, .mv (.t 1)⟩,
    ⟨some 6, none, .mv (.t 0)⟩,
    ⟨some 7, none, .len (.t 6)⟩,
    ⟨some 8, none, .bin .sub (.t 5) (.t 7)⟩,
    ⟨some 1, none, .mv (.t 8)⟩])
  (.seq (.seq (.ops [⟨some 9, none, .mv (.t 1)⟩,
    ⟨some 10, none, .bin .lss (.t 9) (.c (.int .i64 0))⟩])
  (.cond (.t 10)
   (.seq (.ops [⟨some 4, none, .mv (.c (.int .i64 (-1)))⟩])
   (.ret))
   (.skip)))
  (.seq (.ops [⟨some 11, none, .mv (.t 1)⟩,
    ⟨some 4, none, .mv (.t 11)⟩])
  (.ret))))⟩
theorem ok60 : FnOK Try.prog 60 v60 := ⟨⟨Try.f60, _, Try.func60, rfl, by kernel_rfl, rfl, by decide, by kernel_rfl, by kernel_rfl⟩⟩

/-- laws.toVolS -/
def l61_0 : VC :=
  .seq (.seq (.ops [⟨some 8, none, .mv (.t 4)⟩,
    ⟨some 9, none, .mv (.t 0)⟩,
    ⟨some 10, none, .len (.t 9)⟩,
    ⟨some 11, none, .bin .lss (.t 8) (.t 10)⟩])
  (.cond (.t 11)
   (.skip)
   (.exit 0)))
  (.seq (.block 1 (.ops [⟨some 14, none, .mv (.t 3)⟩,
     ⟨some 15, none, .mv (.t 4)⟩,
     ⟨some 16, none, .mv (.t 0)⟩,
     ⟨some 17, none, .mv (.t 4)⟩,
     ⟨some 18, none, .iaddr 3 (.t 16) (.t 17)⟩,
     ⟨some 19, none, .load true 3 (.t 18)⟩,
     ⟨some 20, none, .call 108 [.t 19]⟩,
     ⟨some 21, none, .iaddr 3 (.t 14) (.t 15)⟩,
     ⟨none, none, .store 3 (.t 21) (.t 20)⟩]))
  (.ops [⟨some 12, none, .mv (.t 4)⟩,
    ⟨some 13, none, .bin .add (.t 12) (.c (.int .i64 1))⟩,
    ⟨some 4, none, .mv (.t 13)⟩]))
def v61 : VF := ⟨1, 23, [.t 2], true,
  .seq (.ops [⟨some 2, none, .mv (.c (.slice none 0 0))⟩])
  (.seq (.ops [⟨some 5, none, .mv (.t 0)⟩,
    ⟨some 6, none, .len (.t 5)⟩,
    ⟨some 7, none, .mkslice 3 24 [.int .i64 0, .int .i64 0, .int .i64 0] (.t 6) (.t 6)⟩,
    ⟨some 3, none, .mv (.t 7)⟩])
  (.seq (.seq (.ops [⟨some 4, none, .mv (.c (.int .i64 0))⟩])
  (.block 0 (.loop [0, 3, 4] [2, 3] l61_0)))
  (.seq (.ops [⟨some 22, none, .mv (.t 3)⟩,
    ⟨some 2, none, .mv (.t 22)⟩])
  (.ret))))⟩
theorem ok61 : FnOK Try.prog 61 v61 := ⟨⟨Try.f61, _, Try.func61, rfl, by kernel_rfl, rfl, by decide, by kernel_rfl, by kernel_rfl⟩⟩

/-- impl.Vol] -/
def l63_0 : VC :=
  .seq (.ops [⟨some 14, none, .bin .lss (.t 13) (.t 12)⟩])
  (.seq (.cond (.t 14)
   (.skip)
   (.exit 0))
  (.seq (.block 1 (.seq (.ops [⟨some 15, none, .mv (.t 13)⟩,
     ⟨some 5, none, .mv (.t 15)⟩])
   (.seq (.draw [⟨some 16, none, .mv (.t 0)⟩,
     ⟨some 17, none, .mv (.t 5)⟩,
     ⟨some 18, none, .iaddr 3 (.t 16) (.t 17)⟩,
     ⟨some 19, none, .load true 3 (.t 18)⟩,
     ⟨some 20, none, .mv (.t 1)⟩,
     ⟨some 21, none, .mv (.t 5)⟩,
     ⟨some 22, none, .iaddr 3 (.t 20) (.t 21)⟩,
     ⟨some 23, none, .load true 3 (.t 22)⟩] [⟨some 24, none, .aeq true 3 (.t 19) (.t 23)⟩])
   (.cond (.t 24)
    (.seq (.ops [⟨some 4, none, .mv (.c (.bool false))⟩])
    (.ret))
    (.skip)))))
  (.ops [⟨some 25, none, .bin .add (.t 13) (.c (.int .i64 1))⟩,
    ⟨some 13, none, .mv (.t 25)⟩])))
def v63 : VF := ⟨2, 26, [.t 4], true,
  .seq (.ops [⟨some 4, none, .mv (.c (.bool false))⟩])
  (.seq (.seq (.ops [⟨some 6, none, .mv (.t 0)⟩,
    ⟨some 7, none, .len (.t 6)⟩,
    ⟨some 8, none, .mv (.t 1)⟩,
    ⟨some 9, none, .len (.t 8)⟩,
    ⟨some 10, none, .bin .neq (.t 7) (.t 9)⟩])
  (.cond (.t 10)
   (.seq (.ops [⟨some 4, none, .mv (.c (.bool false))⟩])
   (.ret))
   (.skip)))
  (.seq (.seq (.ops [⟨some 11, none, .mv (.t 0)⟩,
    ⟨some 12, none, .len (.t 11)⟩,
    ⟨some 13, none, .mv (.c (.int .i64 0))⟩])
  (.block 0 (.loop [0, 1, 12, 13] [4] l63_0)))
  (.seq (.ops [⟨some 4, none, .mv (.c (.bool true))⟩])
  (.ret))))⟩
theorem ok63 : FnOK Try.prog 63 v63 := ⟨⟨Try.f63, _, Try.func63, rfl, by kernel_rfl, rfl, by decide, by kernel_rfl, by kernel_rfl⟩⟩

/-- laws.eqVolS -/
def l65_0 : VC :=
  .seq (.seq (.ops [⟨some 11, none, .mv (.t 5)⟩,
    ⟨some 12, none, .mv (.t 0)⟩,
    ⟨some 13, none, .len (.t 12)⟩,
    ⟨some 14, none, .bin .lss (.t 11) (.t 13)⟩])
  (.cond (.t 14)
   (.skip)
   (.exit 0)))
  (.seq (.block 1 (.seq (.draw [⟨some 17, none, .mv (.t 0)⟩,
     ⟨some 18, none, .mv (.t 5)⟩,
     ⟨some 19, none, .iaddr 3 (.t 17) (.t 18)⟩,
     ⟨some 20, none, .load true 3 (.t 19)⟩,
     ⟨some 21, none, .mv (.t 1)⟩,
     ⟨some 22, none, .mv (.t 5)⟩,
     ⟨some 23, none, .iaddr 3 (.t 21) (.t 22)⟩,
     ⟨some 24, none, .load true 3 (.t 23)⟩] [⟨some 25, none, .call 110 [.t 20, .t 24]⟩,
     ⟨some 26, none, .not (.t 25)⟩])
   (.cond (.t 26)
    (.seq (.ops [⟨some 4, none, .mv (.c (.bool false))⟩])
    (.ret))
    (.skip))))
  (.ops [⟨some 15, none, .mv (.t 5)⟩,
    ⟨some 16, none, .bin .add (.t 15) (.c (.int .i64 1))⟩,
    ⟨some 5, none, .mv (.t 16)⟩]))
def v65 : VF := ⟨2, 27, [.t 4], true,
  .seq (.ops [⟨some 4, none, .mv (.c (.bool false))⟩])
  (.seq (.seq (.ops [⟨some 6, none, .mv (.t 0)⟩,
    ⟨some 7, none, .len (.t 6)⟩,
    ⟨some 8, none, .mv (.t 1)⟩,
    ⟨some 9, none, .len (.t 8)⟩,
    ⟨some 10, none, .bin .neq (.t 7) (.t 9)⟩])
  (.cond (.t 10)
   (.seq (.ops [⟨some 4, none, .mv (.c (.bool false))⟩])
   (.ret))
   (.skip)))
  (.seq (.seq (.ops [⟨some 5, none, .mv (.c (.int .i64 0))⟩])
  (.block 0 (.loop [0, 1, 5] [4] l65_0)))
  (.seq (.ops [⟨some 4, none, .mv (.c (.bool true))⟩])
  (.ret))))⟩
theorem ok65 : FnOK Try.prog 65 v65 := ⟨⟨Try.f65, _, Try.func65, rfl, by kernel_rfl, rfl, by decide, by kernel_rfl, by kernel_rfl⟩⟩

/-- laws.szForest -/
def v67 : VF := ⟨2, 18, [.t 4], true,
  .seq (.ops [⟨some 2, none, .box (.t 0)⟩,
    ⟨some 4, none, .mv (.c (.int .i64 0))⟩])
  (.seq (.ops [⟨some 5, none, .faddr 0 (.t 2)⟩,
    ⟨some 6, none, .load false 1 (.t 5)⟩,
    ⟨some 7, none, .mv (.t 1)⟩,
    ⟨some 8, none, .call 112 [.t 6, .t 7]⟩,
    ⟨some 1, none, .mv (.t 8)⟩])
  (.seq (.seq (.ops [⟨some 9, none, .mv (.t 1)⟩,
    ⟨some 10, none, .bin .lss (.t 9) (.c (.int .i64 0))⟩])
  (.cond (.t 10)
   (.seq (.ops [⟨some 4, none, .mv (.c (.int .i64 (-1)))⟩])
   (.ret))
   (.skip)))
  (.seq (.ops [⟨some 11, none, .faddr 1 (.t 2)⟩,
    ⟨some 12, none, .load false 1 (.t 11)⟩,
    ⟨some 13, none, .mv (.t 1)⟩,
    ⟨some 14, none, .call 113 [.t 12, .t 13]⟩,
    ⟨some 1, none, .mv (.t 14)⟩])
  (.seq (.seq (.ops [⟨some 15, none, .mv (.t 1)⟩,
    ⟨some 16, none, .bin .lss (.t 15) (.c (.int .i64 0))⟩])
  (.cond (.t 16)
   (.seq (.ops [⟨some 4, none, .mv (.c (.int .i64 (-1)))⟩])
   (.ret))
   (.skip)))
  (.seq (.ops [⟨some 17, none, .mv (.t 1)⟩,
    ⟨some 4, none, .mv (.t 17)⟩])
  (.ret))))))⟩
theorem ok67 : FnOK Try.prog 67 v67 := ⟨⟨Try.f67, _, Try.func67, rfl, by kernel_rfl, rfl, by decide, by kernel_rfl, by kernel_rfl⟩⟩

/-- spec.l5Nums -/
def l68_0 : VC :=
  .seq (.seq (.ops [⟨some 11, none, .mv (.t 5)⟩,
    ⟨some 12, none, .mv (.t 0)⟩,
    ⟨some 13, none, .len (.t 12)⟩,
    ⟨some 14, none, .bin .lss (.t 11) (.t 13)⟩])
  (.cond (.t 14)
   (.skip)
   (.exit 0)))
  (.seq (.block 1 (.seq (.draw [⟨some 17, none, .mv (.t 0)⟩,
     ⟨some 18, none, .mv (.t 5)⟩,
     ⟨some 19, none, .iaddr 1 (.t 17) (.t 18)⟩,
     ⟨some 20, none, .load false 1 (.t 19)⟩,
     ⟨some 21, none, .mv (.t 1)⟩,
     ⟨some 22, none, .mv (.t 5)⟩,
     ⟨some 23, none, .iaddr 1 (.t 21) (.t 22)⟩,
     ⟨some 24, none, .load false 1 (.t 23)⟩] [⟨some 25, none, .bin .neq (.t 20) (.t 24)⟩])
   (.cond (.t 25)
    (.seq (.ops [⟨some 4, none, .mv (.c (.bool false))⟩])
    (.ret))
    (.skip))))
  (.ops [⟨some 15, none, .mv (.t 5)⟩,
    ⟨some 16, none, .bin .add (.t 15) (.c (.int .i64 1))⟩,
    ⟨some 5, none, .mv (.t 16)⟩]))
def v68 : VF := ⟨2, 26, [.t 4], true,
  .seq (.ops [⟨some 4, none, .mv (.c (.bool false))⟩])
  (.seq (.seq (.ops [⟨some 6, none, .mv (.t 0)⟩,
    ⟨some 7, none, .len (.t 6)⟩,
    ⟨some 8, none, .mv (.t 1)⟩,
    ⟨some 9, none, .len (.t 8)⟩,
    ⟨some 10, none, .bin .neq (.t 7) (.t 9)⟩])
  (.cond (.t 10)
   (.seq (.ops [⟨some 4, none, .mv (.c (.bool false))⟩])
   (.ret))
   (.skip)))
  (.seq (.seq (.ops [⟨some 5, none, .mv (.c (.int .i64 0))⟩])
  (.block 0 (.loop [0, 1, 5] [4] l68_0)))
  (.seq (.ops [⟨some 4, none, .mv (.c (.bool true))⟩])
  (.ret))))⟩
theorem ok68 : FnOK Try.prog 68 v68 := ⟨⟨Try.f68, _, Try.func68, rfl, by kernel_rfl, rfl, by decide, by kernel_rfl, by kernel_rfl⟩⟩

/-- laws.toForest -/
def v69 : VF := ⟨1, 13, [.cell 2 true 2], true,
  .seq (.ops [⟨some 1, none, .box (.t 0)⟩,
    ⟨some 2, none, .new [.slice none 0 0, .slice none 0 0]⟩])
  (.seq (.ops [⟨some 3, none, .new [.slice none 0 0, .slice none 0 0]⟩])
  (.seq (.ops [⟨some 4, none, .faddr 0 (.t 1)⟩,
    ⟨some 5, none, .load false 1 (.t 4)⟩,
    ⟨some 6, none, .call 114 [.t 5]⟩,
    ⟨some 7, none, .faddr 0 (.t 3)⟩,
    ⟨none, none, .store 1 (.t 7) (.t 6)⟩])
  (.seq (.ops [⟨some 8, none, .faddr 1 (.t 1)⟩,
    ⟨some 9, none, .load false 1 (.t 8)⟩,
    ⟨some 10, none, .call 115 [.t 9]⟩,
    ⟨some 11, none, .faddr 1 (.t 3)⟩,
    ⟨none, none, .store 1 (.t 11) (.t 10)⟩])
  (.seq (.ops [⟨some 12, none, .load true 2 (.t 3)⟩,
    ⟨none, none, .store 2 (.t 2) (.t 12)⟩])
  (.ret)))))⟩
theorem ok69 : FnOK Try.prog 69 v69 := ⟨⟨Try.f69, _, Try.func69, rfl, by kernel_rfl, rfl, by decide, by kernel_rfl, by kernel_rfl⟩⟩

/-- impl.Block] -/
def l70_0 : VC :=
  .seq (.ops [⟨some 14, none, .bin .lss (.t 13) (.t 12)⟩])
  (.seq (.cond (.t 14)
   (.skip)
   (.exit 0))
  (.seq (.block 1 (.seq (.ops [⟨some 15, none, .mv (.t 13)⟩,
     ⟨some 5, none, .mv (.t 15)⟩])
   (.seq (.draw [⟨some 16, none, .mv (.t 0)⟩,
     ⟨some 17, none, .mv (.t 5)⟩,
     ⟨some 18, none, .iaddr 2 (.t 16) (.t 17)⟩,
     ⟨some 19, none, .load true 2 (.t 18)⟩,
     ⟨some 20, none, .mv (.t 1)⟩,
     ⟨some 21, none, .mv (.t 5)⟩,
     ⟨some 22, none, .iaddr 2 (.t 20) (.t 21)⟩,
     ⟨some 23, none, .load true 2 (.t 22)⟩] [⟨some 24, none, .aeq true 2 (.t 19) (.t 23)⟩])
   (.cond (.t 24)
    (.seq (.ops [⟨some 4, none, .mv (.c (.bool false))⟩])
    (.ret))
    (.skip)))))
  (.ops [⟨some 25, none, .bin .add (.t 13) (.c (.int .i64 1))⟩,
    ⟨some 13, none, .mv (.t 25)⟩])))
def v70 : VF := ⟨2, 26, [.t 4], true,
  .seq (.ops [⟨some 4, none, .mv (.c (.bool false))⟩])
  (.seq (.seq (.ops [⟨some 6, none, .mv (.t 0)⟩,
    ⟨some 7, none, .len (.t 6)⟩,
    ⟨some 8, none, .mv (.t 1)⟩,
    ⟨some 9, none, .len (.t 8)⟩,
    ⟨some 10, none, .bin .neq (.t 7) (.t 9)⟩])
  (.cond (.t 10)
   (.seq (.ops [⟨some 4, none, .mv (.c (.bool false))⟩])
   (.ret))
   (.skip)))
  (.seq (.seq (.ops [⟨some 11, none, .mv (.t 0)⟩,
    ⟨some 12, none, .len (.t 11)⟩,
    ⟨some 13, none, .mv (.c (.int .i64 0))⟩])
  (.block 0 (.loop [0, 1, 12, 13] [4] l70_0)))
  (.seq (.ops [⟨some 4, none, .mv (.c (.bool true))⟩])
  (.ret))))⟩
theorem ok70 : FnOK Try.prog 70 v70 := ⟨⟨Try.f70, _, Try.func70, rfl, by kernel_rfl, rfl, by decide, by kernel_rfl, by kernel_rfl⟩⟩

/-- impl.Node] -/
def l71_0 : VC :=
  .seq (.ops [⟨some 18, none, .bin .lss (.t 17) (.t 16)⟩])
  (.seq (.cond (.t 18)
   (.skip)
   (.exit 0))
  (.seq (.block 1 (.seq (.ops [⟨some 19, none, .mv (.t 17)⟩,
     ⟨some 20, none, .iaddr 3 (.t 15) (.t 17)⟩,
     ⟨some 21, none, .load true 3 (.t 20)⟩,
     ⟨some 8, none, .new [.int .i64 0, .bool false, .slice none 0 0]⟩,
     ⟨some 7, none, .mv (.t 19)⟩,
     ⟨none, none, .store 3 (.t 8) (.t 21)⟩])
   (.seq (.ops [⟨some 22, none, .mv (.t 1)⟩,
     ⟨some 23, none, .mv (.t 7)⟩,
     ⟨some 24, none, .iaddr 3 (.t 22) (.t 23)⟩,
     ⟨some 25, none, .load true 3 (.t 24)⟩,
     ⟨some 9, none, .new [.int .i64 0, .bool false, .slice none 0 0]⟩,
     ⟨none, none, .store 3 (.t 9) (.t 25)⟩])
   (.seq (.ops [⟨some 26, none, .mv (.t 2)⟩,
     ⟨some 27, none, .load true 3 (.t 8)⟩,
     ⟨some 28, none, .load true 3 (.t 9)⟩,
     ⟨some 29, none, .callv (.t 26) [.t 27, .t 28]⟩,
     ⟨some 30, none, .not (.t 29)⟩])
   (.cond (.t 30)
    (.seq (.ops [⟨some 6, none, .mv (.c (.bool false))⟩])
    (.ret))
    (.skip))))))
  (.ops [⟨some 31, none, .bin .add (.t 17) (.c (.int .i64 1))⟩,
    ⟨some 17, none, .mv (.t 31)⟩])))
def v71 : VF := ⟨3, 32, [.t 6], true,
  .seq (.ops [⟨some 6, none, .mv (.c (.bool false))⟩])
  (.seq (.seq (.ops [⟨some 10, none, .mv (.t 0)⟩,
    ⟨some 11, none, .len (.t 10)⟩,
    ⟨some 12, none, .mv (.t 1)⟩,
    ⟨some 13, none, .len (.t 12)⟩,
    ⟨some 14, none, .bin .neq (.t 11) (.t 13)⟩])
  (.cond (.t 14)
   (.seq (.ops [⟨some 6, none, .mv (.c (.bool false))⟩])
   (.ret))
   (.skip)))
  (.seq (.seq (.ops [⟨some 15, none, .mv (.t 0)⟩,
    ⟨some 16, none, .len (.t 15)⟩,
    ⟨some 17, none, .mv (.c (.int .i64 0))⟩])
  (.block 0 (.loop [1, 2, 15, 16, 17] [6] l71_0)))
  (.seq (.ops [⟨some 6, none, .mv (.c (.bool true))⟩])
  (.ret))))⟩
theorem ok71 : FnOK Try.prog 71 v71 := ⟨⟨Try.f71, _, Try.func71, rfl, by kernel_rfl, rfl, by decide, by kernel_rfl, by kernel_rfl⟩⟩

/-- impl.SamePools$1 -/
def v72 : VF := ⟨2, 24, [.t 4], true,
  .seq (.ops [⟨some 2, none, .box (.t 0)⟩,
    ⟨some 3, none, .box (.t 1)⟩,
    ⟨some 4, none, .mv (.c (.bool false))⟩])
  (.seq (.ops [⟨some 5, none, .faddr 0 (.t 2)⟩,
    ⟨some 6, none, .load false 1 (.t 5)⟩,
    ⟨some 7, none, .faddr 0 (.t 3)⟩,
    ⟨some 8, none, .load false 1 (.t 7)⟩,
    ⟨some 9, none, .bin .eql (.t 6) (.t 8)⟩,
    ⟨some 10, none, .mv (.t 9)⟩,
    ⟨some 11, some (10, true), .faddr 1 (.t 2)⟩,
    ⟨some 12, some (10, true), .load false 1 (.t 11)⟩,
    ⟨some 13, some (10, true), .faddr 1 (.t 3)⟩,
    ⟨some 14, some (10, true), .load false 1 (.t 13)⟩,
    ⟨some 15, some (10, true), .beq false (.t 12) (.t 14)⟩,
    ⟨some 16, none, .pick (.t 10) (.t 15) (.c (.bool false))⟩,
    ⟨some 17, none, .mv (.t 16)⟩,
    ⟨some 18, some (17, true), .faddr 2 (.t 2)⟩,
    ⟨some 19, some (17, true), .load false 1 (.t 18)⟩,
    ⟨some 20, some (17, true), .faddr 2 (.t 3)⟩,
    ⟨some 21, some (17, true), .load false 1 (.t 20)⟩,
    ⟨some 22, some (17, true), .call 73 [.t 19, .t 21]⟩,
    ⟨some 23, none, .pick (.t 17) (.t 22) (.c (.bool false))⟩,
    ⟨some 4, none, .mv (.t 23)⟩])
  (.ret))⟩
theorem ok72 : FnOK Try.prog 72 v72 := ⟨⟨Try.f72, _, Try.func72, rfl, by kernel_rfl, rfl, by decide, by kernel_rfl, by kernel_rfl⟩⟩

/-- slices.Equal[[]int64,int64] -/
def l73_0 : VC :=
  .seq (.ops [⟨some 14, none, .bin .lss (.t 13) (.t 12)⟩])
  (.seq (.cond (.t 14)
   (.skip)
   (.exit 0))
  (.seq (.block 1 (.seq (.ops [⟨some 15, none, .mv (.t 13)⟩,
     ⟨some 5, none, .mv (.t 15)⟩])
   (.seq (.draw [⟨some 16, none, .mv (.t 0)⟩,
     ⟨some 17, none, .mv (.t 5)⟩,
     ⟨some 18, none, .iaddr 1 (.t 16) (.t 17)⟩,
     ⟨some 19, none, .load false 1 (.t 18)⟩,
     ⟨some 20, none, .mv (.t 1)⟩,
     ⟨some 21, none, .mv (.t 5)⟩,
     ⟨some 22, none, .iaddr 1 (.t 20) (.t 21)⟩,
     ⟨some 23, none, .load false 1 (.t 22)⟩] [⟨some 24, none, .bin .neq (.t 19) (.t 23)⟩])
   (.cond (.t 24)
    (.seq (.ops [⟨some 4, none, .mv (.c (.bool false))⟩])
    (.ret))
    (.skip)))))
  (.ops [⟨some 25, none, .bin .add (.t 13) (.c (.int .i64 1))⟩,
    ⟨some 13, none, .mv (.t 25)⟩])))
def v73 : VF := ⟨2, 26, [.t 4], true,
  .seq (.ops [⟨some 4, none, .mv (.c (.bool false))⟩])
  (.seq (.seq (.ops [⟨some 6, none, .mv (.t 0)⟩,
    ⟨some 7, none, .len (.t 6)⟩,
    ⟨some 8, none, .mv (.t 1)⟩,
    ⟨some 9, none, .len (.t 8)⟩,
    ⟨some 10, none, .bin .neq (.t 7) (.t 9)⟩])
  (.cond (.t 10)
   (.seq (.ops [⟨some 4, none, .mv (.c (.bool false))⟩])
   (.ret))
   (.skip)))
  (.seq (.seq (.ops [⟨some 11, none, .mv (.t 0)⟩,
    ⟨some 12, none, .len (.t 11)⟩,
    ⟨some 13, none, .mv (.c (.int .i64 0))⟩])
  (.block 0 (.loop [0, 1, 12, 13] [4] l73_0)))
  (.seq (.ops [⟨some 4, none, .mv (.c (.bool true))⟩])
  (.ret))))⟩
theorem ok73 : FnOK Try.prog 73 v73 := ⟨⟨Try.f73, _, Try.func73, rfl, by kernel_rfl, rfl, by decide, by kernel_rfl, by kernel_rfl⟩⟩

/-- laws.eqForest -/
def v74 : VF := ⟨2, 17, [.t 4], true,
  .seq (.ops [⟨some 2, none, .box (.t 0)⟩,
    ⟨some 3, none, .box (.t 1)⟩,
    ⟨some 4, none, .mv (.c (.bool false))⟩])
  (.seq (.seq (.ops [⟨some 5, none, .faddr 0 (.t 2)⟩,
    ⟨some 6, none, .load false 1 (.t 5)⟩,
    ⟨some 7, none, .faddr 0 (.t 3)⟩,
    ⟨some 8, none, .load false 1 (.t 7)⟩,
    ⟨some 9, none, .call 116 [.t 6, .t 8]⟩,
    ⟨some 10, none, .not (.t 9)⟩])
  (.cond (.t 10)
   (.seq (.ops [⟨some 4, none, .mv (.c (.bool false))⟩])
   (.ret))
   (.skip)))
  (.seq (.seq (.ops [⟨some 11, none, .faddr 1 (.t 2)⟩,
    ⟨some 12, none, .load false 1 (.t 11)⟩,
    ⟨some 13, none, .faddr 1 (.t 3)⟩,
    ⟨some 14, none, .load false 1 (.t 13)⟩,
    ⟨some 15, none, .call 117 [.t 12, .t 14]⟩,
    ⟨some 16, none, .not (.t 15)⟩])
  (.cond (.t 16)
   (.seq (.ops [⟨some 4, none, .mv (.c (.bool false))⟩])
   (.ret))
   (.skip)))
  (.seq (.ops [⟨some 4, none, .mv (.c (.bool true))⟩])
  (.ret))))⟩
theorem ok74 : FnOK Try.prog 74 v74 := ⟨⟨Try.f74, _, Try.func74, rfl, by kernel_rfl, rfl, by decide, by kernel_rfl, by kernel_rfl⟩⟩

/-- laws.toVol -/
def v108 : VF := ⟨1, 14, [.cell 2 true 3], true,
  .seq (.ops [⟨some 1, none, .box (.t 0)⟩,
    ⟨some 2, none, .new [.int .i64 0, .int .i64 0, .int .i64 0]⟩])
  (.seq (.ops [⟨some 3, none, .new [.int .i64 0, .int .i64 0, .int .i64 0]⟩])
  (.seq (.ops [⟨some 4, none, .faddr 0 (.t 1)⟩,
    ⟨some 5, none, .load false 1 (.t 4)⟩,
    ⟨some 6, none, .faddr 0 (.t 3)⟩,
    ⟨none, none, .store 1 (.t 6) (.t 5)⟩])
  (.seq (.ops [⟨some 7, none, .faddr 1 (.t 1)⟩,
    ⟨some 8, none, .load false 1 (.t 7)⟩,
    ⟨some 9, none, .faddr 1 (.t 3)⟩,
    ⟨none, none, .store 1 (.t 9) (.t 8)⟩])
  (.seq (.ops [⟨some 10, none, .faddr 2 (.t 1)⟩,
    ⟨some 11, none, .load false 1 (.t 10)⟩,
    ⟨some 12, none, .faddr 2 (.t 3)⟩,
    ⟨none, none, .store 1 (.t 12) (.t 11)⟩])
  (.seq (.ops [⟨some 13, none, .load true 3 (.t 3)⟩,
    ⟨none, none, .store 3 (.t 2) (.t 13)⟩])
  (.ret))))))⟩
theorem ok108 : FnOK Try.prog 108 v108 := ⟨⟨Try.f108, _, Try.func108, rfl, by kernel_rfl, rfl, by decide, by kernel_rfl, by kernel_rfl⟩⟩

/-- laws.eqVol -/
def v110 : VF := ⟨2, 20, [.t 4], true,
  .seq (.ops [⟨some 2, none, .box (.t 0)⟩,
    ⟨some 3, none, .box (.t 1)⟩,
    ⟨some 4, none, .mv (.c (.bool false))⟩])
  (.seq (.seq (.ops [⟨some 5, none, .faddr 0 (.t 2)⟩,
    ⟨some 6, none, .load false 1 (.t 5)⟩,
    ⟨some 7, none, .faddr 0 (.t 3)⟩,
    ⟨some 8, none, .load false 1 (.t 7)⟩,
    ⟨some 9, none, .bin .neq (.t 6) (.t 8)⟩])
  (.cond (.t 9)
   (.seq (.ops [⟨some 4, none, .mv (.c (.bool false))⟩])
   (.ret))
   (.skip)))
  (.seq (.seq (.ops [⟨some 10, none, .faddr 1 (.t 2)⟩,
    ⟨some 11, none, .load false 1 (.t 10)⟩,
    ⟨some 12, none, .faddr 1 (.t 3)⟩,
    ⟨some 13, none, .load false 1 (.t 12)⟩,
    ⟨some 14, none, .bin .neq (.t 11) (.t 13)⟩])
  (.cond (.t 14)
   (.seq (.ops [⟨some 4, none, .mv (.c (.bool false))⟩])
   (.ret))
   (.skip)))
  (.seq (.seq (.ops [⟨some 15, none, .faddr 2 (.t 2)⟩,
    ⟨some 16, none, .load false 1 (.t 15)⟩,
    ⟨some 17, none, .faddr 2 (.t 3)⟩,
    ⟨some 18, none, .load false 1 (.t 17)⟩,
    ⟨some 19, none, .bin .neq (.t 16) (.t 18)⟩])
  (.cond (.t 19)
   (.seq (.ops [⟨some 4, none, .mv (.c (.bool false))⟩])
   (.ret))
   (.skip)))
  (.seq (.ops [⟨some 4, none, .mv (.c (.bool true))⟩])
  (.ret)))))⟩
theorem ok110 : FnOK Try.prog 110 v110 := ⟨⟨Try.f110, _, Try.func110, rfl, by kernel_rfl, rfl, by decide, by kernel_rfl, by kernel_rfl⟩⟩

/-- laws.szNodeS -/
def l112_0 : VC :=
  .seq (.seq (.ops [⟨some 12, none, .mv (.t 5)⟩,
    ⟨some 13, none, .mv (.t 0)⟩,
    ⟨some 14, none, .len (.t 13)⟩,
    ⟨some 15, none, .bin .lss (.t 12) (.t 14)⟩])
  (.cond (.t 15)
   (.skip)
   (.exit 0)))
  (.seq (.block 1 (.seq (.ops [⟨some 18, none, .mv (.t 0)⟩,
     ⟨some 19, none, .mv (.t 5)⟩,
     ⟨some 20, none, .iaddr 3 (.t 18) (.t 19)⟩,
     ⟨some 21, none, .load true 3 (.t 20)⟩,
     ⟨some 22, none, .mv (.t 1)⟩,
     ⟨some 23, none, .call 148 [.t 21, .t 22]⟩,
     ⟨some 1, none, .mv (.t 23)⟩])
   (.seq (.ops [⟨some 24, none, .mv (.t 1)⟩,
     ⟨some 25, none, .bin .lss (.t 24) (.c (.int .i64 0))⟩])
   (.cond (.t 25)
    (.seq (.ops [⟨some 4, none, .mv (.c (.int .i64 (-1)))⟩])
    (.ret))
    (.skip)))))
  (.ops [⟨some 16, none, .mv (.t 5)⟩,
    ⟨some 17, none, .bin .add (.t 16) (.c (.int .i64 1))⟩,
    ⟨some 5, none, .mv (.t 17)⟩]))
def v112 : VF := ⟨2, 27, [.t 4], true,
  .seq (.ops [⟨some 4, none, .mv (.c (.int .i64 0))⟩])
  (.seq (.ops [⟨some 6, none, .mv (.t 1)⟩,
    ⟨some 7, none, .mv (.t 0)⟩,
    ⟨some 8, none, .len (.t 7)⟩,
    ⟨some 9, none, .bin .sub (.t 6) (.t 8)⟩,
    ⟨some 1, none, .mv (.t 9)⟩])
  (.seq (.seq (.ops [⟨some 10, none, .mv (.t 1)⟩,
    ⟨some 11, none, .bin .lss (.t 10) (.c (.int .i64 0))⟩])
  (.cond (.t 11)
   (.seq (.ops [⟨some 4, none, .mv (.c (.int .i64 (-1)))⟩])
   (.ret))
   (.skip)))
  (.seq (.seq (.ops [⟨some 5, none, .mv (.c (.int .i64 0))⟩])
  (.block 0 (.loop [0, 1, 5] [1, 4] l112_0)))
  (.seq (.ops [⟨some 26, none, .mv (.t 1)⟩,
    ⟨some 4, none, .mv (.t 26)⟩])
  (.ret)))))⟩
theorem ok112 : FnOK Try.prog 112 v112 := ⟨⟨Try.f112, _, Try.func112, rfl, by kernel_rfl, rfl, by decide, by kernel_rfl, by kernel_rfl⟩⟩

/-- laws.szBlockS -/
def v113 : VF := ⟨2, 12, [.t 4], true,
  .seq (.ops [⟨some 4, none, .mv (.c (.int .i64 0))⟩])
  (.seq (.ops [⟨some 5, none, .mv (.t 1)⟩,
    ⟨some 6, none, .mv (.t 0)⟩,
    ⟨some 7, none, .len (.t 6)⟩,
    ⟨some 8, none, .bin .sub (.t 5) (.t 7)⟩,
    ⟨some 1, none, .mv (.t 8)⟩])
  (.seq (.seq (.ops [⟨some 9, none, .mv (.t 1)⟩,
    ⟨some 10, none, .bin .lss (.t 9) (.c (.int .i64 0))⟩])
  (.cond (.t 10)
   (.seq (.ops [⟨some 4, none, .mv (.c (.int .i64 (-1)))⟩])
   (.ret))
   (.skip)))
  (.seq (.ops [⟨some 11, none, .mv (.t 1)⟩,
    ⟨some 4, none, .mv (.t 11)⟩])
  (.ret))))⟩
theorem ok113 : FnOK Try.prog 113 v113 := ⟨⟨Try.f113, _, Try.func113, rfl, by kernel_rfl, rfl, by decide, by kernel_rfl, by kernel_rfl⟩⟩

/-- laws.toNodeS -/
def l114_0 : VC :=
  .seq (.seq (.ops [⟨some 8, none, .mv (.t 4)⟩,
    ⟨some 9, none, .mv (.t 0)⟩,
    ⟨some 10, none, .len (.t 9)⟩,
    ⟨some 11, none, .bin .lss (.t 8) (.t 10)⟩])
  (.cond (.t 11)
   (.skip)
   (.exit 0)))
  (.seq (.block 1 (.ops [⟨some 14, none, .mv (.t 3)⟩,
     ⟨some 15, none, .mv (.t 4)⟩,
     ⟨some 16, none, .mv (.t 0)⟩,
     ⟨some 17, none, .mv (.t 4)⟩,
     ⟨some 18, none, .iaddr 3 (.t 16) (.t 17)⟩,
     ⟨some 19, none, .load true 3 (.t 18)⟩,
     ⟨some 20, none, .call 149 [.t 19]⟩,
     ⟨some 21, none, .iaddr 3 (.t 14) (.t 15)⟩,
     ⟨none, none, .store 3 (.t 21) (.t 20)⟩]))
  (.ops [⟨some 12, none, .mv (.t 4)⟩,
    ⟨some 13, none, .bin .add (.t 12) (.c (.int .i64 1))⟩,
    ⟨some 4, none, .mv (.t 13)⟩]))
def v114 : VF := ⟨1, 23, [.t 2], true,
  .seq (.ops [⟨some 2, none, .mv (.c (.slice none 0 0))⟩])
  (.seq (.ops [⟨some 5, none, .mv (.t 0)⟩,
    ⟨some 6, none, .len (.t 5)⟩,
    ⟨some 7, none, .mkslice 3 40 [.int .i64 0, .bool false, .slice none 0 0] (.t 6) (.t 6)⟩,
    ⟨some 3, none, .mv (.t 7)⟩])
  (.seq (.seq (.ops [⟨some 4, none, .mv (.c (.int .i64 0))⟩])
  (.block 0 (.loop [0, 3, 4] [2, 3] l114_0)))
  (.seq (.ops [⟨some 22, none, .mv (.t 3)⟩,
    ⟨some 2, none, .mv (.t 22)⟩])
  (.ret))))⟩
theorem ok114 : FnOK Try.prog 114 v114 := ⟨⟨Try.f114, _, Try.func114, rfl, by kernel_rfl, rfl, by decide, by kernel_rfl, by kernel_rfl⟩⟩

/-- laws.toBlockS -/
def l115_0 : VC :=
  .seq (.seq (.ops [⟨some 8, none, .mv (.t 4)⟩,
    ⟨some 9, none, .mv (.t 0)⟩,
    ⟨some 10, none, .len (.t 9)⟩,
    ⟨some 11, none, .bin .lss (.t 8) (.t 10)⟩])
  (.cond (.t 11)
   (.skip)
   (.exit 0)))
  (.seq (.block 1 (.ops [⟨some 14, none, .mv (.t 3)⟩,
     ⟨some 15, none, .mv (.t 4)⟩,
     ⟨some 16, none, .mv (.t 0)⟩,
     ⟨some 17, none, .mv (.t 4)⟩,
     ⟨some 18, none, .iaddr 2 (.t 16) (.t 17)⟩,
     ⟨some 19, none, .load true 2 (.t 18)⟩,
     ⟨some 20, none, .call 150 [.t 19]⟩,
     ⟨some 21, none, .iaddr 2 (.t 14) (.t 15)⟩,
     ⟨none, none, .store 2 (.t 21) (.t 20)⟩]))
  (.ops [⟨some 12, none, .mv (.t 4)⟩,
    ⟨some 13, none, .bin .add (.t 12) (.c (.int .i64 1))⟩,
    ⟨some 4, none, .mv (.t 13)⟩]))
def v115 : VF := ⟨1, 23, [.t 2], true,
  .seq (.ops [⟨some 2, none, .mv (.c (.slice none 0 0))⟩])
  (.seq (.ops [⟨some 5, none, .mv (.t 0)⟩,
    ⟨some 6, none, .len (.t 5)⟩,
    ⟨some 7, none, .mkslice 2 16 [.int .i64 0, .int .i64 0] (.t 6) (.t 6)⟩,
    ⟨some 3, none, .mv (.t 7)⟩])
  (.seq (.seq (.ops [⟨some 4, none, .mv (.c (.int .i64 0))⟩])
  (.block 0 (.loop [0, 3, 4] [2, 3] l115_0)))
  (.seq (.ops [⟨some 22, none, .mv (.t 3)⟩,
    ⟨some 2, none, .mv (.t 22)⟩])
  (.ret))))⟩
theorem ok115 : FnOK Try.prog 115 v115 := ⟨⟨Try.f115, _, Try.func115, rfl, by kernel_rfl, rfl, by decide, by kernel_rfl, by kernel_rfl⟩⟩

/-- laws.eqNodeS -/
def l116_0 : VC :=
  .seq (.seq (.ops [⟨some 11, none, .mv (.t 5)⟩,
    ⟨some 12, none, .mv (.t 0)⟩,
    ⟨some 13, none, .len (.t 12)⟩,
    ⟨some 14, none, .bin .lss (.t 11) (.t 13)⟩])
  (.cond (.t 14)
   (.skip)
   (.exit 0)))
  (.seq (.block 1 (.seq (.draw [⟨some 17, none, .mv (.t 0)⟩,
     ⟨some 18, none, .mv (.t 5)⟩,
     ⟨some 19, none, .iaddr 3 (.t 17) (.t 18)⟩,
     ⟨some 20, none, .load true 3 (.t 19)⟩,
     ⟨some 21, none, .mv (.t 1)⟩,
     ⟨some 22, none, .mv (.t 5)⟩,
     ⟨some 23, none, .iaddr 3 (.t 21) (.t 22)⟩,
     ⟨some 24, none, .load true 3 (.t 23)⟩] [⟨some 25, none, .call 151 [.t 20, .t 24]⟩,
     ⟨some 26, none, .not (.t 25)⟩])
   (.cond (.t 26)
    (.seq (.ops [⟨some 4, none, .mv (.c (.bool false))⟩])
    (.ret))
    (.skip))))
  (.ops [⟨some 15, none, .mv (.t 5)⟩,
    ⟨some 16, none, .bin .add (.t 15) (.c (.int .i64 1))⟩,
    ⟨some 5, none, .mv (.t 16)⟩]))
def v116 : VF := ⟨2, 27, [.t 4], true,
  .seq (.ops [⟨some 4, none, .mv (.c (.bool false))⟩])
  (.seq (.seq (.ops [⟨some 6, none, .mv (.t 0)⟩,
    ⟨some 7, none, .len (.t 6)⟩,
    ⟨some 8, none, .mv (.t 1)⟩,
    ⟨some 9, none, .len (.t 8)⟩,
    ⟨some 10, none, .bin .neq (.t 7) (.t 9)⟩])
  (.cond (.t 10)
   (.seq (.ops [⟨some 4, none, .mv (.c (.bool false))⟩])
   (.ret))
   (.skip)))
  (.seq (.seq (.ops [⟨some 5, none, .mv (.c (.int .i64 0))⟩])
  (.block 0 (.loop [0, 1, 5] [4] l116_0)))
  (.seq (.ops [⟨some 4, none, .mv (.c (.bool true))⟩])
  (.ret))))⟩
theorem ok116 : FnOK Try.prog 116 v116 := ⟨⟨Try.f116, _, Try.func116, rfl, by kernel_rfl, rfl, by decide, by kernel_rfl, by kernel_rfl⟩⟩

/-- laws.eqBlockS -/
def l117_0 : VC :=
  .seq (.seq (.ops [⟨some 11, none, .mv (.t 5)⟩,
    ⟨some 12, none, .mv (.t 0)⟩,
    ⟨some 13, none, .len (.t 12)⟩,
    ⟨some 14, none, .bin .lss (.t 11) (.t 13)⟩])
  (.cond (.t 14)
   (.skip)
   (.exit 0)))
  (.seq (.block 1 (.seq (.draw [⟨some 17, none, .mv (.t 0)⟩,
     ⟨some 18, none, .mv (.t 5)⟩,
     ⟨some 19, none, .iaddr 2 (.t 17) (.t 18)⟩,
     ⟨some 20, none, .load true 2 (.t 19)⟩,
     ⟨some 21, none, .mv (.t 1)⟩,
     ⟨some 22, none, .mv (.t 5)⟩,
     ⟨some 23, none, .iaddr 2 (.t 21) (.t 22)⟩,
     ⟨some 24, none, .load true 2 (.t 23)⟩] [⟨some 25, none, .call 152 [.t 20, .t 24]⟩,
     ⟨some 26, none, .not (.t 25)⟩])
   (.cond (.t 26)
    (.seq (.ops [⟨some 4, none, .mv (.c (.bool false))⟩])
    (.ret))
    (.skip))))
  (.ops [⟨some 15, none, .mv (.t 5)⟩,
    ⟨some 16, none, .bin .add (.t 15) (.c (.int .i64 1))⟩,
    ⟨some 5, none, .mv (.t 16)⟩]))
def v117 : VF := ⟨2, 27, [.t 4], true,
  .seq (.ops [⟨some 4, none, .mv (.c (.bool false))⟩])
  (.seq (.seq (.ops [⟨some 6, none, .mv (.t 0)⟩,
    ⟨some 7, none, .len (.t 6)⟩,
    ⟨some 8, none, .mv (.t 1)⟩,
    ⟨some 9, none, .len (.t 8)⟩,
    ⟨some 10, none, .bin .neq (.t 7) (.t 9)⟩])
  (.cond (.t 10)
   (.seq (.ops [⟨some 4, none, .mv (.c (.bool false))⟩])
   (.ret))
   (.skip)))
  (.seq (.seq (.ops [⟨some 5, none, .mv (.c (.int .i64 0))⟩])
  (.block 0 (.loop [0, 1, 5] [4] l117_0)))
  (.seq (.ops [⟨some 4, none, .mv (.c (.bool true))⟩])
  (.ret))))⟩
theorem ok117 : FnOK Try.prog 117 v117 := ⟨⟨Try.f117, _, Try.func117, rfl, by kernel_rfl, rfl, by decide, by kernel_rfl, by kernel_rfl⟩⟩

/-- laws.szNode -/
def v148 : VF := ⟨2, 12, [.t 4], true,
  .seq (.ops [⟨some 2, none, .box (.t 0)⟩,
    ⟨some 4, none, .mv (.c (.int .i64 0))⟩])
  (.seq (.ops [⟨some 5, none, .faddr 2 (.t 2)⟩,
    ⟨some 6, none, .load false 1 (.t 5)⟩,
    ⟨some 7, none, .mv (.t 1)⟩,
    ⟨some 8, none, .call 60 [.t 6, .t 7]⟩,
    ⟨some 1, none, .mv (.t 8)⟩])
  (.seq (.seq (.ops [⟨some 9, none, .mv (.t 1)⟩,
    ⟨some 10, none, .bin .lss (.t 9) (.c (.int .i64 0))⟩])
  (.cond (.t 10)
   (.seq (.ops [⟨some 4, none, .mv (.c (.int .i64 (-1)))⟩])
   (.ret))
   (.skip)))
  (.seq (.ops [⟨some 11, none, .mv (.t 1)⟩,
    ⟨some 4, none, .mv (.t 11)⟩])
  (.ret))))⟩
theorem ok148 : FnOK Try.prog 148 v148 := ⟨⟨Try.f148, _, Try.func148, rfl, by kernel_rfl, rfl, by decide, by kernel_rfl, by kernel_rfl⟩⟩

/-- laws.toNode -/
def v149 : VF := ⟨1, 15, [.cell 2 true 3], true,
  .seq (.ops [⟨some 1, none, .box (.t 0)⟩,
    ⟨some 2, none, .new [.int .i64 0, .bool false, .slice none 0 0]⟩])
  (.seq (.ops [⟨some 3, none, .new [.int .i64 0, .bool false, .slice none 0 0]⟩])
  (.seq (.ops [⟨some 4, none, .faddr 0 (.t 1)⟩,
    ⟨some 5, none, .load false 1 (.t 4)⟩,
    ⟨some 6, none, .faddr 0 (.t 3)⟩,
    ⟨none, none, .store 1 (.t 6) (.t 5)⟩])
  (.seq (.ops [⟨some 7, none, .faddr 1 (.t 1)⟩,
    ⟨some 8, none, .load false 1 (.t 7)⟩,
    ⟨some 9, none, .faddr 1 (.t 3)⟩,
    ⟨none, none, .store 1 (.t 9) (.t 8)⟩])
  (.seq (.ops [⟨some 10, none, .faddr 2 (.t 1)⟩,
    ⟨some 11, none, .load false 1 (.t 10)⟩,
    ⟨some 12, none, .call 14 [.t 11]⟩,
    ⟨some 13, none, .faddr 2 (.t 3)⟩,
    ⟨none, none, .store 1 (.t 13) (.t 12)⟩])
  (.seq (.ops [⟨some 14, none, .load true 3 (.t 3)⟩,
    ⟨none, none, .store 3 (.t 2) (.t 14)⟩])
  (.ret))))))⟩
theorem ok149 : FnOK Try.prog 149 v149 := ⟨⟨Try.f149, _, Try.func149, rfl, by kernel_rfl, rfl, by decide, by kernel_rfl, by kernel_rfl⟩⟩

/-- laws.toBlock -/
def v150 : VF := ⟨1, 11, [.cell 2 true 2], true,
  .seq (.ops [⟨some 1, none, .box (.t 0)⟩,
    ⟨some 2, none, .new [.int .i64 0, .int .i64 0]⟩])
  (.seq (.ops [⟨some 3, none, .new [.int .i64 0, .int .i64 0]⟩])
  (.seq (.ops [⟨some 4, none, .faddr 0 (.t 1)⟩,
    ⟨some 5, none, .load false 1 (.t 4)⟩,
    ⟨some 6, none, .faddr 0 (.t 3)⟩,
    ⟨none, none, .store 1 (.t 6) (.t 5)⟩])
  (.seq (.ops [⟨some 7, none, .faddr 1 (.t 1)⟩,
    ⟨some 8, none, .load false 1 (.t 7)⟩,
    ⟨some 9, none, .faddr 1 (.t 3)⟩,
    ⟨none, none, .store 1 (.t 9) (.t 8)⟩])
  (.seq (.ops [⟨some 10, none, .load true 2 (.t 3)⟩,
    ⟨none, none, .store 2 (.t 2) (.t 10)⟩])
  (.ret)))))⟩
theorem ok150 : FnOK Try.prog 150 v150 := ⟨⟨Try.f150, _, Try.func150, rfl, by kernel_rfl, rfl, by decide, by kernel_rfl, by kernel_rfl⟩⟩

/-- laws.eqNode -/
def v151 : VF := ⟨2, 21, [.t 4], true,
  .seq (.ops [⟨some 2, none, .box (.t 0)⟩,
    ⟨some 3, none, .box (.t 1)⟩,
    ⟨some 4, none, .mv (.c (.bool false))⟩])
  (.seq (.seq (.ops [⟨some 5, none, .faddr 0 (.t 2)⟩,
    ⟨some 6, none, .load false 1 (.t 5)⟩,
    ⟨some 7, none, .faddr 0 (.t 3)⟩,
    ⟨some 8, none, .load false 1 (.t 7)⟩,
    ⟨some 9, none, .bin .neq (.t 6) (.t 8)⟩])
  (.cond (.t 9)
   (.seq (.ops [⟨some 4, none, .mv (.c (.bool false))⟩])
   (.ret))
   (.skip)))
  (.seq (.seq (.ops [⟨some 10, none, .faddr 1 (.t 2)⟩,
    ⟨some 11, none, .load false 1 (.t 10)⟩,
    ⟨some 12, none, .faddr 1 (.t 3)⟩,
    ⟨some 13, none, .load false 1 (.t 12)⟩,
    ⟨some 14, none, .beq true (.t 11) (.t 13)⟩])
  (.cond (.t 14)
   (.seq (.ops [⟨some 4, none, .mv (.c (.bool false))⟩])
   (.ret))
   (.skip)))
  (.seq (.seq (.ops [⟨some 15, none, .faddr 2 (.t 2)⟩,
    ⟨some 16, none, .load false 1 (.t 15)⟩,
    ⟨some 17, none, .faddr 2 (.t 3)⟩,
    ⟨some 18, none, .load false 1 (.t 17)⟩,
    ⟨some 19, none, .call 17 [.t 16, .t 18]⟩,
    ⟨some 20, none, .not (.t 19)⟩])
  (.cond (.t 20)
   (.seq (.ops [⟨some 4, none, .mv (.c (.bool false))⟩])
   (.ret))
   (.skip)))
  (.seq (.ops [⟨some 4, none, .mv (.c (.bool true))⟩])
  (.ret)))))⟩
theorem ok151 : FnOK Try.prog 151 v151 := ⟨⟨Try.f151, _, Try.func151, rfl, by kernel_rfl, rfl, by decide, by kernel_rfl, by kernel_rfl⟩⟩

/-- laws.eqBlock -/
def v152 : VF := ⟨2, 15, [.t 4], true,
  .seq (.ops [⟨some 2, none, .box (.t 0)⟩,
    ⟨some 3, none, .box (.t 1)⟩,
    ⟨some 4, none, .mv (.c (.bool false))⟩])
  (.seq (.seq (.ops [⟨some 5, none, .faddr 0 (.t 2)⟩,
    ⟨some 6, none, .load false 1 (.t 5)⟩,
    ⟨some 7, none, .faddr 0 (.t 3)⟩,
    ⟨some 8, none, .load false 1 (.t 7)⟩,
    ⟨some 9, none, .bin .neq (.t 6) (.t 8)⟩])
  (.cond (.t 9)
   (.seq (.ops [⟨some 4, none, .mv (.c (.bool false))⟩])
   (.ret))
   (.skip)))
  (.seq (.seq (.ops [⟨some 10, none, .faddr 1 (.t 2)⟩,
    ⟨some 11, none, .load false 1 (.t 10)⟩,
    ⟨some 12, none, .faddr 1 (.t 3)⟩,
    ⟨some 13, none, .load false 1 (.t 12)⟩,
    ⟨some 14, none, .bin .neq (.t 11) (.t 13)⟩])
  (.cond (.t 14)
   (.seq (.ops [⟨some 4, none, .mv (.c (.bool false))⟩])
   (.ret))
   (.skip)))
  (.seq (.ops [⟨some 4, none, .mv (.c (.bool true))⟩])
  (.ret))))⟩
theorem ok152 : FnOK Try.prog 152 v152 := ⟨⟨Try.f152, _, Try.func152, rfl, by kernel_rfl, rfl, by decide, by kernel_rfl, by kernel_rfl⟩⟩
def env0 : Env := [(5, v5), (14, v14), (17, v17), (26, v26), (27, v27), (28, v28), (29, v29), (30, v30), (58, v58), (60, v60), (61, v61), (63, v63), (65, v65), (67, v67), (68, v68), (69, v69), (70, v70), (71, v71), (72, v72), (73, v73), (74, v74), (108, v108), (110, v110), (112, v112), (113, v113), (114, v114), (115, v115), (116, v116), (117, v117), (148, v148), (149, v149), (150, v150), (151, v151), (152, v152)]
theorem envOK0 : EnvOK Try.prog env0 := .cons ok5 (.cons ok14 (.cons ok17 (.cons ok26 (.cons ok27 (.cons ok28 (.cons ok29 (.cons ok30 (.cons ok58 (.cons ok60 (.cons ok61 (.cons ok63 (.cons ok65 (.cons ok67 (.cons ok68 (.cons ok69 (.cons ok70 (.cons ok71 (.cons ok72 (.cons ok73 (.cons ok74 (.cons ok108 (.cons ok110 (.cons ok112 (.cons ok113 (.cons ok114 (.cons ok115 (.cons ok116 (.cons ok117 (.cons ok148 (.cons ok149 (.cons ok150 (.cons ok151 (.cons ok152 (.nil))))))))))))))))))))))))))))))))))
end Go.Proofs.Ytflddpkmajoeaaa.V
