/- The machine's code of the program's functions; each is the program's own, by the kernel. Laid by a program (wip/v/vmgen.py). -/
import Derived.Test.YtflddpkmajoeaaaVMS
import Derived.Test.YtflddpkmajoeaaaProg
namespace Go.Proofs.Ytflddpkmajoeaaa.V
open Go
set_option maxRecDepth 100000
/-- spec.l5Fault -/
def l75_0 : VC :=
  .seq (.seq (.ops [⟨some 19, none, .mv (.t 4)⟩,
    ⟨some 20, none, .mv (.t 0)⟩,
    ⟨some 21, none, .nilck (.t 20)⟩,
    ⟨some 22, none, .faddr 2 (.t 21)⟩,
    ⟨some 23, none, .load false 1 (.t 22)⟩,
    ⟨some 24, none, .len (.t 23)⟩,
    ⟨some 25, none, .bin .lss (.t 19) (.t 24)⟩])
  (.cond (.t 25)
   (.skip)
   (.exit 0)))
  (.seq (.block 1 (.seq (.ops [⟨some 28, none, .mv (.t 0)⟩,
     ⟨some 29, none, .nilck (.t 28)⟩,
     ⟨some 30, none, .faddr 2 (.t 29)⟩,
     ⟨some 31, none, .load false 1 (.t 30)⟩,
     ⟨some 32, none, .mv (.t 4)⟩,
     ⟨some 33, none, .iaddr 3 (.t 31) (.t 32)⟩,
     ⟨some 34, none, .load true 3 (.t 33)⟩,
     ⟨some 5, none, .new [.int .i64 0, .int .i64 0, .int .i64 0]⟩,
     ⟨none, none, .store 3 (.t 5) (.t 34)⟩])
   (.seq (.seq (.draw [⟨some 35, none, .faddr 0 (.t 5)⟩,
     ⟨some 36, none, .load false 1 (.t 35)⟩,
     ⟨some 37, none, .call 101 [.t 36]⟩,
     ⟨some 38, none, .not (.t 37)⟩,
     ⟨some 39, none, .mv (.t 38)⟩,
     ⟨some 40, some (39, false), .faddr 1 (.t 5)⟩,
     ⟨some 41, some (39, false), .load false 1 (.t 40)⟩,
     ⟨some 42, some (39, false), .call 53 [.t 41, .c (.int .i64 1), .c (.int .i64 16)]⟩,
     ⟨some 43, some (39, false), .not (.t 42)⟩,
     ⟨some 44, none, .pick (.t 39) (.c (.bool true)) (.t 43)⟩,
     ⟨some 45, none, .mv (.t 44)⟩,
     ⟨some 46, some (45, false), .mv (.t 0)⟩,
     ⟨some 47, some (45, false), .nilck (.t 46)⟩,
     ⟨some 48, some (45, false), .faddr 0 (.t 47)⟩,
     ⟨some 49, some (45, false), .faddr 2 (.t 5)⟩,
     ⟨some 50, some (45, false), .load false 1 (.t 49)⟩] [⟨some 51, some (45, false), .call 119 [.t 48, .t 50]⟩,
     ⟨some 52, some (45, false), .not (.t 51)⟩,
     ⟨some 53, none, .pick (.t 45) (.c (.bool true)) (.t 52)⟩])
   (.cond (.t 53)
    (.seq (.ops [⟨some 2, none, .mv (.c (.int .i64 3))⟩])
    (.ret))
    (.skip)))
   (.seq (.seq (.draw [⟨some 54, none, .mv (.t 4)⟩,
     ⟨some 55, none, .bin .gtr (.t 54) (.c (.int .i64 0))⟩,
     ⟨some 56, none, .mv (.t 55)⟩,
     ⟨some 57, some (56, true), .faddr 0 (.t 5)⟩,
     ⟨some 58, some (56, true), .load false 1 (.t 57)⟩,
     ⟨some 59, some (56, true), .mv (.t 0)⟩,
     ⟨some 60, some (56, true), .nilck (.t 59)⟩,
     ⟨some 61, some (56, true), .faddr 2 (.t 60)⟩,
     ⟨some 62, some (56, true), .load false 1 (.t 61)⟩,
     ⟨some 63, some (56, true), .mv (.t 4)⟩,
     ⟨some 64, some (56, true), .bin .sub (.t 63) (.c (.int .i64 1))⟩,
     ⟨some 65, some (56, true), .iaddr 3 (.t 62) (.t 64)⟩,
     ⟨some 66, some (56, true), .faddr 0 (.t 65)⟩,
     ⟨some 67, some (56, true), .load false 1 (.t 66)⟩] [⟨some 68, some (56, true), .bin .leq (.t 58) (.t 67)⟩,
     ⟨some 69, none, .pick (.t 56) (.t 68) (.c (.bool false))⟩])
   (.cond (.t 69)
    (.seq (.ops [⟨some 2, none, .mv (.c (.int .i64 1))⟩])
    (.ret))
    (.skip)))
   (.seq (.draw [⟨some 70, none, .mv (.t 0)⟩,
     ⟨some 71, none, .nilck (.t 70)⟩,
     ⟨some 72, none, .faddr 0 (.t 71)⟩,
     ⟨some 73, none, .faddr 2 (.t 5)⟩,
     ⟨some 74, none, .load false 1 (.t 73)⟩,
     ⟨some 75, none, .call 84 [.t 72, .t 74]⟩,
     ⟨some 76, none, .faddr 1 (.t 5)⟩,
     ⟨some 77, none, .load false 1 (.t 76)⟩] [⟨some 78, none, .bin .gtr (.t 75) (.t 77)⟩])
   (.cond (.t 78)
    (.seq (.ops [⟨some 2, none, .mv (.c (.int .i64 9))⟩])
    (.ret))
    (.skip)))))))
  (.ops [⟨some 26, none, .mv (.t 4)⟩,
    ⟨some 27, none, .bin .add (.t 26) (.c (.int .i64 1))⟩,
    ⟨some 4, none, .mv (.t 27)⟩]))
def v75 : VF := ⟨1, 82, [.t 2], true,
  .seq (.ops [⟨some 2, none, .mv (.c (.int .i64 0))⟩])
  (.seq (.seq (.ops [⟨some 6, none, .mv (.t 0)⟩,
    ⟨some 7, none, .nilck (.t 6)⟩,
    ⟨some 8, none, .faddr 0 (.t 7)⟩,
    ⟨some 9, none, .call 118 [.t 8]⟩,
    ⟨some 3, none, .mv (.t 9)⟩])
  (.seq (.ops [⟨some 10, none, .mv (.t 3)⟩,
    ⟨some 11, none, .bin .neq (.t 10) (.c (.int .i64 0))⟩])
  (.cond (.t 11)
   (.seq (.ops [⟨some 12, none, .mv (.t 3)⟩,
     ⟨some 2, none, .mv (.t 12)⟩])
   (.ret))
   (.skip))))
  (.seq (.seq (.ops [⟨some 13, none, .mv (.t 0)⟩,
    ⟨some 14, none, .nilck (.t 13)⟩,
    ⟨some 15, none, .faddr 2 (.t 14)⟩,
    ⟨some 16, none, .load false 1 (.t 15)⟩,
    ⟨some 17, none, .len (.t 16)⟩,
    ⟨some 18, none, .bin .gtr (.t 17) (.c (.int .i64 6))⟩])
  (.cond (.t 18)
   (.seq (.ops [⟨some 2, none, .mv (.c (.int .i64 2))⟩])
   (.ret))
   (.skip)))
  (.seq (.seq (.ops [⟨some 4, none, .mv (.c (.int .i64 0))⟩])
  (.block 0 (.loop [0, 4] [0, 2] l75_0)))
  (.seq (.seq (.ops [⟨some 79, none, .mv (.t 0)⟩,
    ⟨some 80, none, .call 120 [.t 79]⟩,
    ⟨some 81, none, .not (.t 80)⟩])
  (.cond (.t 81)
   (.seq (.ops [⟨some 2, none, .mv (.c (.int .i64 1))⟩])
   (.ret))
   (.skip)))
  (.seq (.ops [⟨some 2, none, .mv (.c (.int .i64 0))⟩])
  (.ret))))))⟩
theorem ok75 : FnOK Try.prog 75 v75 := ⟨⟨Try.f75, _, Try.func75, rfl, by kernel_rfl, rfl, by decide, by kernel_rfl, by kernel_rfl⟩⟩

/-- impl.ForestFault -/
def l76_0 : VC :=
  .seq (.ops [⟨some 24, none, .bin .lss (.t 23) (.t 22)⟩])
  (.seq (.cond (.t 24)
   (.skip)
   (.exit 0))
  (.seq (.block 1 (.seq (.ops [⟨some 25, none, .iaddr 3 (.t 21) (.t 23)⟩,
     ⟨some 26, none, .load true 3 (.t 25)⟩,
     ⟨some 5, none, .new [.int .i64 0, .bool false, .slice none 0 0]⟩,
     ⟨none, none, .store 3 (.t 5) (.t 26)⟩])
   (.block 2 (.seq (.ops [⟨some 28, none, .faddr 0 (.t 5)⟩,
      ⟨some 29, none, .load false 1 (.t 28)⟩,
      ⟨some 30, none, .call 122 [.t 29]⟩,
      ⟨some 31, none, .not (.t 30)⟩,
      ⟨some 27, none, .mv (.t 31)⟩])
    (.cond (.t 27)
     (.seq (.ops [⟨some 2, none, .mv (.c (.int .i64 3))⟩])
     (.ret))
     (.seq (.ops [⟨some 33, none, .faddr 0 (.t 5)⟩,
       ⟨some 34, none, .load false 1 (.t 33)⟩,
       ⟨some 35, none, .bin .eql (.t 34) (.c (.int .i64 0))⟩,
       ⟨some 36, none, .mv (.t 35)⟩,
       ⟨some 37, some (36, true), .faddr 1 (.t 5)⟩,
       ⟨some 38, some (36, true), .load false 1 (.t 37)⟩,
       ⟨some 39, some (36, true), .mv (.t 38)⟩,
       ⟨some 40, some (39, false), .faddr 2 (.t 5)⟩,
       ⟨some 41, some (39, false), .load false 1 (.t 40)⟩,
       ⟨some 42, some (39, false), .len (.t 41)⟩,
       ⟨some 43, some (39, false), .bin .gtr (.t 42) (.c (.int .i64 0))⟩,
       ⟨some 44, some (36, true), .pick (.t 39) (.c (.bool true)) (.t 43)⟩,
       ⟨some 45, none, .pick (.t 36) (.t 44) (.c (.bool false))⟩,
       ⟨some 32, none, .mv (.t 45)⟩])
     (.cond (.t 32)
      (.seq (.ops [⟨some 2, none, .mv (.c (.int .i64 1))⟩])
      (.ret))
      (.seq (.ops [⟨some 47, none, .faddr 0 (.t 5)⟩,
        ⟨some 48, none, .load false 1 (.t 47)⟩,
        ⟨some 49, none, .bin .eql (.t 48) (.c (.int .i64 0))⟩,
        ⟨some 46, none, .mv (.t 49)⟩])
      (.cond (.t 46)
       (.exit 1)
       (.seq (.ops [⟨some 51, none, .faddr 2 (.t 5)⟩,
         ⟨some 52, none, .load false 1 (.t 51)⟩,
         ⟨some 53, none, .len (.t 52)⟩,
         ⟨some 54, none, .bin .neq (.t 53) (.c (.int .i64 4))⟩,
         ⟨some 55, none, .mv (.t 54)⟩,
         ⟨some 56, some (55, false), .faddr 2 (.t 5)⟩,
         ⟨some 57, some (55, false), .load false 1 (.t 56)⟩,
         ⟨some 58, some (55, false), .call 123 [.t 57]⟩,
         ⟨some 59, none, .pick (.t 55) (.c (.bool true)) (.t 58)⟩,
         ⟨some 60, none, .mv (.t 59)⟩,
         ⟨some 61, some (60, false), .faddr 2 (.t 5)⟩,
         ⟨some 62, some (60, false), .load false 1 (.t 61)⟩,
         ⟨some 63, some (60, false), .mkfn 125 [.t 1, .t 5]⟩,
         ⟨some 64, some (60, false), .call 124 [.t 62, .t 63]⟩,
         ⟨some 65, none, .pick (.t 60) (.c (.bool true)) (.t 64)⟩,
         ⟨some 50, none, .mv (.t 65)⟩])
       (.cond (.t 50)
        (.seq (.ops [⟨some 2, none, .mv (.c (.int .i64 1))⟩])
        (.ret))
        (.skip))))))))))))
  (.ops [⟨some 66, none, .bin .add (.t 23) (.c (.int .i64 1))⟩,
    ⟨some 23, none, .mv (.t 66)⟩])))
def l76_1 : VC :=
  .seq (.ops [⟨some 74, none, .bin .lss (.t 73) (.t 72)⟩])
  (.seq (.cond (.t 74)
   (.skip)
   (.exit 3))
  (.seq (.block 4 (.seq (.ops [⟨some 75, none, .mv (.t 73)⟩,
     ⟨some 76, none, .iaddr 1 (.t 71) (.t 73)⟩,
     ⟨some 77, none, .load false 1 (.t 76)⟩,
     ⟨some 6, none, .mv (.t 75)⟩,
     ⟨some 7, none, .mv (.t 77)⟩])
   (.seq (.ops [⟨some 78, none, .faddr 1 (.t 1)⟩,
     ⟨some 79, none, .load false 1 (.t 78)⟩,
     ⟨some 80, none, .mv (.t 6)⟩,
     ⟨some 81, none, .iaddr 2 (.t 79) (.t 80)⟩,
     ⟨some 82, none, .faddr 0 (.t 81)⟩,
     ⟨some 83, none, .load false 1 (.t 82)⟩,
     ⟨some 84, none, .mv (.t 7)⟩,
     ⟨some 85, none, .bin .neq (.t 83) (.t 84)⟩])
   (.cond (.t 85)
    (.seq (.ops [⟨some 2, none, .mv (.c (.int .i64 1))⟩])
    (.ret))
    (.skip)))))
  (.ops [⟨some 86, none, .bin .add (.t 73) (.c (.int .i64 1))⟩,
    ⟨some 73, none, .mv (.t 86)⟩])))
def l76_2 : VC :=
  .seq (.ops [⟨some 94, none, .bin .lss (.t 93) (.t 92)⟩])
  (.seq (.cond (.t 94)
   (.skip)
   (.exit 5))
  (.seq (.block 6 (.seq (.ops [⟨some 95, none, .mv (.t 93)⟩,
     ⟨some 96, none, .iaddr 1 (.t 91) (.t 93)⟩,
     ⟨some 97, none, .load false 1 (.t 96)⟩,
     ⟨some 8, none, .mv (.t 95)⟩,
     ⟨some 9, none, .mv (.t 97)⟩])
   (.seq (.ops [⟨some 98, none, .faddr 0 (.t 1)⟩,
     ⟨some 99, none, .load false 1 (.t 98)⟩,
     ⟨some 100, none, .mv (.t 8)⟩,
     ⟨some 101, none, .iaddr 3 (.t 99) (.t 100)⟩,
     ⟨some 102, none, .faddr 1 (.t 101)⟩,
     ⟨some 103, none, .load false 1 (.t 102)⟩,
     ⟨some 104, none, .mv (.t 103)⟩,
     ⟨some 105, some (104, true), .faddr 0 (.t 1)⟩,
     ⟨some 106, some (104, true), .load false 1 (.t 105)⟩,
     ⟨some 107, some (104, true), .mv (.t 8)⟩,
     ⟨some 108, some (104, true), .iaddr 3 (.t 106) (.t 107)⟩,
     ⟨some 109, some (104, true), .faddr 0 (.t 108)⟩,
     ⟨some 110, some (104, true), .load false 1 (.t 109)⟩,
     ⟨some 111, some (104, true), .mv (.t 9)⟩,
     ⟨some 112, some (104, true), .bin .lss (.t 110) (.t 111)⟩,
     ⟨some 113, none, .pick (.t 104) (.t 112) (.c (.bool false))⟩])
   (.cond (.t 113)
    (.seq (.ops [⟨some 2, none, .mv (.c (.int .i64 1))⟩])
    (.ret))
    (.skip)))))
  (.ops [⟨some 114, none, .bin .add (.t 93) (.c (.int .i64 1))⟩,
    ⟨some 93, none, .mv (.t 114)⟩])))
def v76 : VF := ⟨1, 115, [.t 2], true,
  .seq (.ops [⟨some 1, none, .box (.t 0)⟩,
    ⟨some 2, none, .mv (.c (.int .i64 0))⟩])
  (.seq (.seq (.ops [⟨some 10, none, .faddr 1 (.t 1)⟩,
    ⟨some 11, none, .load false 1 (.t 10)⟩,
    ⟨some 12, none, .call 121 [.t 11]⟩,
    ⟨some 3, none, .mv (.t 12)⟩])
  (.seq (.ops [⟨some 13, none, .mv (.t 3)⟩,
    ⟨some 14, none, .bin .neq (.t 13) (.c (.int .i64 0))⟩])
  (.cond (.t 14)
   (.seq (.ops [⟨some 15, none, .mv (.t 3)⟩,
     ⟨some 2, none, .mv (.t 15)⟩])
   (.ret))
   (.skip))))
  (.seq (.seq (.ops [⟨some 16, none, .faddr 0 (.t 1)⟩,
    ⟨some 17, none, .load false 1 (.t 16)⟩,
    ⟨some 18, none, .len (.t 17)⟩,
    ⟨some 19, none, .bin .gtr (.t 18) (.c (.int .i64 60))⟩])
  (.cond (.t 19)
   (.seq (.ops [⟨some 2, none, .mv (.c (.int .i64 2))⟩])
   (.ret))
   (.skip)))
  (.seq (.seq (.ops [⟨some 20, none, .faddr 0 (.t 1)⟩,
    ⟨some 21, none, .load false 1 (.t 20)⟩,
    ⟨some 22, none, .len (.t 21)⟩,
    ⟨some 23, none, .mv (.c (.int .i64 0))⟩])
  (.block 0 (.loop [1, 21, 22, 23] [1, 2] l76_0)))
  (.seq (.seq (.ops [⟨some 67, none, .load true 2 (.t 1)⟩,
    ⟨some 68, none, .faddr 1 (.t 1)⟩,
    ⟨some 69, none, .load false 1 (.t 68)⟩,
    ⟨some 70, none, .len (.t 69)⟩,
    ⟨some 71, none, .call 81 [.t 67, .c (.bool true), .t 70]⟩,
    ⟨some 72, none, .len (.t 71)⟩,
    ⟨some 73, none, .mv (.c (.int .i64 0))⟩])
  (.block 3 (.loop [1, 71, 72, 73] [1, 2] l76_1)))
  (.seq (.seq (.ops [⟨some 87, none, .load true 2 (.t 1)⟩,
    ⟨some 88, none, .faddr 0 (.t 1)⟩,
    ⟨some 89, none, .load false 1 (.t 88)⟩,
    ⟨some 90, none, .len (.t 89)⟩,
    ⟨some 91, none, .call 81 [.t 87, .c (.bool false), .t 90]⟩,
    ⟨some 92, none, .len (.t 91)⟩,
    ⟨some 93, none, .mv (.c (.int .i64 0))⟩])
  (.block 5 (.loop [1, 91, 92, 93] [2] l76_2)))
  (.seq (.ops [⟨some 2, none, .mv (.c (.int .i64 0))⟩])
  (.ret)))))))⟩
theorem ok76 : FnOK Try.prog 76 v76 := ⟨⟨Try.f76, _, Try.func76, rfl, by kernel_rfl, rfl, by decide, by kernel_rfl, by kernel_rfl⟩⟩

/-- impl.isId -/
def v77 : VF := ⟨1, 5, [.t 2], true,
  .seq (.ops [⟨some 2, none, .mv (.c (.bool false))⟩])
  (.seq (.ops [⟨some 3, none, .mv (.t 0)⟩,
    ⟨some 4, none, .call 55 [.t 3, .c (.int .i64 1), .c (.int .i64 99)]⟩,
    ⟨some 2, none, .mv (.t 4)⟩])
  (.ret))⟩
theorem ok77 : FnOK Try.prog 77 v77 := ⟨⟨Try.f77, _, Try.func77, rfl, by kernel_rfl, rfl, by decide, by kernel_rfl, by kernel_rfl⟩⟩

/-- impl.isQuota -/
def v78 : VF := ⟨1, 5, [.t 2], true,
  .seq (.ops [⟨some 2, none, .mv (.c (.bool false))⟩])
  (.seq (.ops [⟨some 3, none, .mv (.t 0)⟩,
    ⟨some 4, none, .call 55 [.t 3, .c (.int .i64 1), .c (.int .i64 16)]⟩,
    ⟨some 2, none, .mv (.t 4)⟩])
  (.ret))⟩
theorem ok78 : FnOK Try.prog 78 v78 := ⟨⟨Try.f78, _, Try.func78, rfl, by kernel_rfl, rfl, by decide, by kernel_rfl, by kernel_rfl⟩⟩

/-- impl.isRoot -/
def v79 : VF := ⟨2, 33, [.t 4], true,
  .seq (.ops [⟨some 2, none, .box (.t 0)⟩,
    ⟨some 4, none, .mv (.c (.bool false))⟩])
  (.seq (.ops [⟨some 5, none, .mv (.t 1)⟩,
    ⟨some 6, none, .bin .eql (.t 5) (.c (.int .i64 (-1)))⟩,
    ⟨some 7, none, .mv (.t 6)⟩,
    ⟨some 8, some (7, false), .mv (.t 1)⟩,
    ⟨some 9, some (7, false), .faddr 0 (.t 2)⟩,
    ⟨some 10, some (7, false), .load false 1 (.t 9)⟩,
    ⟨some 11, some (7, false), .len (.t 10)⟩,
    ⟨some 12, some (7, false), .bin .sub (.t 11) (.c (.int .i64 1))⟩,
    ⟨some 13, some (7, false), .call 55 [.t 8, .c (.int .i64 0), .t 12]⟩,
    ⟨some 14, some (7, false), .mv (.t 13)⟩,
    ⟨some 15, some (14, true), .faddr 0 (.t 2)⟩,
    ⟨some 16, some (14, true), .load false 1 (.t 15)⟩,
    ⟨some 17, some (14, true), .mv (.t 1)⟩,
    ⟨some 18, some (14, true), .iaddr 3 (.t 16) (.t 17)⟩,
    ⟨some 19, some (14, true), .faddr 1 (.t 18)⟩,
    ⟨some 20, some (14, true), .load false 1 (.t 19)⟩,
    ⟨some 21, some (14, true), .not (.t 20)⟩,
    ⟨some 22, some (7, false), .pick (.t 14) (.t 21) (.c (.bool false))⟩,
    ⟨some 23, some (7, false), .mv (.t 22)⟩,
    ⟨some 24, some (23, true), .faddr 0 (.t 2)⟩,
    ⟨some 25, some (23, true), .load false 1 (.t 24)⟩,
    ⟨some 26, some (23, true), .mv (.t 1)⟩,
    ⟨some 27, some (23, true), .iaddr 3 (.t 25) (.t 26)⟩,
    ⟨some 28, some (23, true), .faddr 0 (.t 27)⟩,
    ⟨some 29, some (23, true), .load false 1 (.t 28)⟩,
    ⟨some 30, some (23, true), .bin .gtr (.t 29) (.c (.int .i64 0))⟩,
    ⟨some 31, some (7, false), .pick (.t 23) (.t 30) (.c (.bool false))⟩,
    ⟨some 32, none, .pick (.t 7) (.c (.bool true)) (.t 31)⟩,
    ⟨some 4, none, .mv (.t 32)⟩])
  (.ret))⟩
theorem ok79 : FnOK Try.prog 79 v79 := ⟨⟨Try.f79, _, Try.func79, rfl, by kernel_rfl, rfl, by decide, by kernel_rfl, by kernel_rfl⟩⟩

/-- impl.Pool).used -/
def v80 : VF := ⟨2, 13, [.t 4], true,
  .seq (.ops [⟨some 3, none, .box (.t 1)⟩,
    ⟨some 4, none, .mv (.c (.int .i64 0))⟩])
  (.seq (.draw [⟨some 5, none, .mv (.t 0)⟩,
    ⟨some 6, none, .nilck (.t 5)⟩,
    ⟨some 7, none, .faddr 0 (.t 6)⟩,
    ⟨some 8, none, .faddr 2 (.t 3)⟩,
    ⟨some 9, none, .load false 1 (.t 8)⟩] [⟨some 10, none, .call 127 [.t 7, .t 9]⟩,
    ⟨some 11, none, .len (.t 10)⟩,
    ⟨some 12, none, .bin .quo (.t 11) (.c (.int .i64 2))⟩,
    ⟨some 4, none, .mv (.t 12)⟩])
  (.ret))⟩
theorem ok80 : FnOK Try.prog 80 v80 := ⟨⟨Try.f80, _, Try.func80, rfl, by kernel_rfl, rfl, by decide, by kernel_rfl, by kernel_rfl⟩⟩

/-- impl.named -/
def l81_0 : VC :=
  .seq (.ops [⟨some 34, none, .bin .lss (.t 33) (.t 32)⟩])
  (.seq (.cond (.t 34)
   (.skip)
   (.exit 2))
  (.seq (.block 3 (.seq (.ops [⟨some 35, none, .iaddr 1 (.t 31) (.t 33)⟩,
     ⟨some 36, none, .load false 1 (.t 35)⟩,
     ⟨some 11, none, .mv (.t 36)⟩])
   (.seq (.ops [⟨some 37, none, .mv (.t 11)⟩,
     ⟨some 38, none, .bin .geq (.t 37) (.c (.int .i64 0))⟩])
   (.cond (.t 38)
    (.ops [⟨some 39, none, .mv (.t 7)⟩,
      ⟨some 40, none, .mv (.t 11)⟩,
      ⟨some 41, none, .iaddr 1 (.t 39) (.t 40)⟩,
      ⟨some 42, none, .load false 1 (.t 41)⟩,
      ⟨some 43, none, .bin .add (.t 42) (.c (.int .i64 1))⟩,
      ⟨some 44, none, .iaddr 1 (.t 39) (.t 40)⟩,
      ⟨none, none, .store 1 (.t 44) (.t 43)⟩])
    (.skip)))))
  (.ops [⟨some 45, none, .bin .add (.t 33) (.c (.int .i64 1))⟩,
    ⟨some 33, none, .mv (.t 45)⟩])))
def l81_1 : VC :=
  .seq (.ops [⟨some 18, none, .bin .lss (.t 17) (.t 16)⟩])
  (.seq (.cond (.t 18)
   (.skip)
   (.exit 0))
  (.seq (.block 1 (.seq (.ops [⟨some 19, none, .iaddr 3 (.t 15) (.t 17)⟩,
     ⟨some 20, none, .load true 3 (.t 19)⟩,
     ⟨some 9, none, .new [.int .i64 0, .bool false, .slice none 0 0]⟩,
     ⟨none, none, .store 3 (.t 9) (.t 20)⟩])
   (.seq (.seq (.ops [⟨some 21, none, .faddr 0 (.t 9)⟩,
     ⟨some 22, none, .load false 1 (.t 21)⟩,
     ⟨some 23, none, .bin .eql (.t 22) (.c (.int .i64 0))⟩,
     ⟨some 24, none, .mv (.t 23)⟩,
     ⟨some 25, some (24, false), .faddr 1 (.t 9)⟩,
     ⟨some 26, some (24, false), .load false 1 (.t 25)⟩,
     ⟨some 27, some (24, false), .mv (.t 1)⟩,
     ⟨some 28, some (24, false), .beq true (.t 26) (.t 27)⟩,
     ⟨some 29, none, .pick (.t 24) (.c (.bool true)) (.t 28)⟩])
   (.cond (.t 29)
    (.exit 1)
    (.skip)))
   (.seq (.ops [⟨some 30, none, .faddr 2 (.t 9)⟩,
     ⟨some 31, none, .load false 1 (.t 30)⟩,
     ⟨some 32, none, .len (.t 31)⟩,
     ⟨some 33, none, .mv (.c (.int .i64 0))⟩])
   (.block 2 (.loop [1, 7, 15, 16, 17, 31, 32, 33] [1, 6, 7, 15, 16, 17] l81_0))))))
  (.ops [⟨some 46, none, .bin .add (.t 17) (.c (.int .i64 1))⟩,
    ⟨some 17, none, .mv (.t 46)⟩])))
def v81 : VF := ⟨3, 48, [.t 6], true,
  .seq (.ops [⟨some 3, none, .box (.t 0)⟩,
    ⟨some 6, none, .mv (.c (.slice none 0 0))⟩])
  (.seq (.ops [⟨some 12, none, .mv (.t 2)⟩,
    ⟨some 13, none, .mkslice 1 8 [.int .i64 0] (.t 12) (.t 12)⟩,
    ⟨some 7, none, .mv (.t 13)⟩])
  (.seq (.seq (.ops [⟨some 14, none, .faddr 0 (.t 3)⟩,
    ⟨some 15, none, .load false 1 (.t 14)⟩,
    ⟨some 16, none, .len (.t 15)⟩,
    ⟨some 17, none, .mv (.c (.int .i64 0))⟩])
  (.block 0 (.loop [1, 7, 15, 16, 17] [6, 7] l81_1)))
  (.seq (.ops [⟨some 47, none, .mv (.t 7)⟩,
    ⟨some 6, none, .mv (.t 47)⟩])
  (.ret))))⟩
theorem ok81 : FnOK Try.prog 81 v81 := ⟨⟨Try.f81, _, Try.func81, rfl, by kernel_rfl, rfl, by decide, by kernel_rfl, by kernel_rfl⟩⟩

/-- spec.l5At -/
def l82_0 : VC :=
  .seq (.seq (.ops [⟨some 6, none, .mv (.t 5)⟩,
    ⟨some 7, none, .mv (.t 0)⟩,
    ⟨some 8, none, .nilck (.t 7)⟩,
    ⟨some 9, none, .faddr 2 (.t 8)⟩,
    ⟨some 10, none, .load false 1 (.t 9)⟩,
    ⟨some 11, none, .len (.t 10)⟩,
    ⟨some 12, none, .bin .lss (.t 6) (.t 11)⟩])
  (.cond (.t 12)
   (.skip)
   (.exit 0)))
  (.seq (.block 1 (.seq (.ops [⟨some 15, none, .mv (.t 0)⟩,
     ⟨some 16, none, .nilck (.t 15)⟩,
     ⟨some 17, none, .faddr 2 (.t 16)⟩,
     ⟨some 18, none, .load false 1 (.t 17)⟩,
     ⟨some 19, none, .mv (.t 5)⟩,
     ⟨some 20, none, .iaddr 3 (.t 18) (.t 19)⟩,
     ⟨some 21, none, .faddr 0 (.t 20)⟩,
     ⟨some 22, none, .load false 1 (.t 21)⟩,
     ⟨some 23, none, .mv (.t 1)⟩,
     ⟨some 24, none, .bin .eql (.t 22) (.t 23)⟩])
   (.cond (.t 24)
    (.seq (.ops [⟨some 25, none, .mv (.t 5)⟩,
      ⟨some 4, none, .mv (.t 25)⟩])
    (.ret))
    (.skip))))
  (.ops [⟨some 13, none, .mv (.t 5)⟩,
    ⟨some 14, none, .bin .add (.t 13) (.c (.int .i64 1))⟩,
    ⟨some 5, none, .mv (.t 14)⟩]))
def v82 : VF := ⟨2, 26, [.t 4], true,
  .seq (.ops [⟨some 4, none, .mv (.c (.int .i64 0))⟩])
  (.seq (.seq (.ops [⟨some 5, none, .mv (.c (.int .i64 0))⟩])
  (.block 0 (.loop [0, 1, 5] [4] l82_0)))
  (.seq (.ops [⟨some 4, none, .mv (.c (.int .i64 (-1)))⟩])
  (.ret)))⟩
theorem ok82 : FnOK Try.prog 82 v82 := ⟨⟨Try.f82, _, Try.func82, rfl, by kernel_rfl, rfl, by decide, by kernel_rfl, by kernel_rfl⟩⟩

/-- impl.volAt -/
def v83 : VF := ⟨2, 8, [.t 4], true,
  .seq (.ops [⟨some 3, none, .box (.t 1)⟩,
    ⟨some 4, none, .mv (.c (.int .i64 0))⟩])
  (.seq (.ops [⟨some 5, none, .mv (.t 0)⟩,
    ⟨some 6, none, .mkfn 129 [.t 3]⟩,
    ⟨some 7, none, .call 128 [.t 5, .t 6]⟩,
    ⟨some 4, none, .mv (.t 7)⟩])
  (.ret))⟩
theorem ok83 : FnOK Try.prog 83 v83 := ⟨⟨Try.f83, _, Try.func83, rfl, by kernel_rfl, rfl, by decide, by kernel_rfl, by kernel_rfl⟩⟩

/-- spec.l5Used -/
def v84 : VF := ⟨2, 10, [.t 4], true,
  .seq (.ops [⟨some 4, none, .mv (.c (.int .i64 0))⟩])
  (.seq (.ops [⟨some 5, none, .mv (.t 0)⟩,
    ⟨some 6, none, .mv (.t 1)⟩,
    ⟨some 7, none, .call 130 [.t 5, .t 6]⟩,
    ⟨some 8, none, .len (.t 7)⟩,
    ⟨some 9, none, .bin .quo (.t 8) (.c (.int .i64 2))⟩,
    ⟨some 4, none, .mv (.t 9)⟩])
  (.ret))⟩
theorem ok84 : FnOK Try.prog 84 v84 := ⟨⟨Try.f84, _, Try.func84, rfl, by kernel_rfl, rfl, by decide, by kernel_rfl, by kernel_rfl⟩⟩

/-- spec.l6Plain -/
def l85_0 : VC :=
  .seq (.seq (.ops [⟨some 38, none, .mv (.t 7)⟩,
    ⟨some 39, none, .bin .add (.t 38) (.c (.int .i64 1))⟩,
    ⟨some 40, none, .mv (.t 6)⟩,
    ⟨some 41, none, .len (.t 40)⟩,
    ⟨some 42, none, .bin .lss (.t 39) (.t 41)⟩])
  (.cond (.t 42)
   (.skip)
   (.exit 2)))
  (.seq (.block 3 (.draw [⟨some 45, none, .faddr 2 (.t 3)⟩,
     ⟨some 46, none, .load false 1 (.t 45)⟩,
     ⟨some 47, none, .faddr 0 (.t 5)⟩,
     ⟨some 48, none, .load false 1 (.t 47)⟩,
     ⟨some 49, none, .mv (.t 6)⟩,
     ⟨some 50, none, .mv (.t 7)⟩,
     ⟨some 51, none, .iaddr 1 (.t 49) (.t 50)⟩,
     ⟨some 52, none, .load false 1 (.t 51)⟩,
     ⟨some 53, none, .mv (.t 6)⟩,
     ⟨some 54, none, .mv (.t 7)⟩,
     ⟨some 55, none, .bin .add (.t 54) (.c (.int .i64 1))⟩,
     ⟨some 56, none, .iaddr 1 (.t 53) (.t 55)⟩,
     ⟨some 57, none, .load false 1 (.t 56)⟩,
     ⟨some 58, none, .build [.int .i64 0, .int .i64 0, .int .i64 0] [(0, 1, .t 48), (1, 1, .t 52), (2, 1, .t 57)]⟩,
     ⟨some 59, none, .bslice 3 [.int .i64 0, .int .i64 0, .int .i64 0] 1 [(0, 3, .t 58)]⟩] [⟨some 60, none, .append 3 24 (.t 46) (.t 59)⟩,
     ⟨some 61, none, .faddr 2 (.t 3)⟩,
     ⟨none, none, .store 1 (.t 61) (.t 60)⟩]))
  (.ops [⟨some 43, none, .mv (.t 7)⟩,
    ⟨some 44, none, .bin .add (.t 43) (.c (.int .i64 2))⟩,
    ⟨some 7, none, .mv (.t 44)⟩]))
def l85_1 : VC :=
  .seq (.seq (.ops [⟨some 16, none, .mv (.t 4)⟩,
    ⟨some 17, none, .mv (.t 0)⟩,
    ⟨some 18, none, .nilck (.t 17)⟩,
    ⟨some 19, none, .faddr 2 (.t 18)⟩,
    ⟨some 20, none, .load false 1 (.t 19)⟩,
    ⟨some 21, none, .len (.t 20)⟩,
    ⟨some 22, none, .bin .lss (.t 16) (.t 21)⟩])
  (.cond (.t 22)
   (.skip)
   (.exit 0)))
  (.seq (.block 1 (.seq (.ops [⟨some 25, none, .mv (.t 0)⟩,
     ⟨some 26, none, .nilck (.t 25)⟩,
     ⟨some 27, none, .faddr 2 (.t 26)⟩,
     ⟨some 28, none, .load false 1 (.t 27)⟩,
     ⟨some 29, none, .mv (.t 4)⟩,
     ⟨some 30, none, .iaddr 3 (.t 28) (.t 29)⟩,
     ⟨some 31, none, .load true 3 (.t 30)⟩,
     ⟨some 5, none, .new [.int .i64 0, .int .i64 0, .int .i64 0]⟩,
     ⟨none, none, .store 3 (.t 5) (.t 31)⟩])
   (.seq (.draw [⟨some 32, none, .mv (.t 0)⟩,
     ⟨some 33, none, .nilck (.t 32)⟩,
     ⟨some 34, none, .faddr 0 (.t 33)⟩,
     ⟨some 35, none, .faddr 2 (.t 5)⟩,
     ⟨some 36, none, .load false 1 (.t 35)⟩] [⟨some 37, none, .call 130 [.t 34, .t 36]⟩,
     ⟨some 6, none, .mv (.t 37)⟩])
   (.seq (.seq (.ops [⟨some 7, none, .mv (.c (.int .i64 0))⟩])
   (.block 2 (.loop [0, 2, 3, 4, 5, 6, 7] [0, 2, 3, 4, 5] l85_0)))
   (.seq (.ops [⟨some 62, none, .faddr 2 (.t 5)⟩,
     ⟨none, none, .store 1 (.t 62) (.c (.int .i64 (-1)))⟩])
   (.ops [⟨some 63, none, .faddr 1 (.t 3)⟩,
     ⟨some 64, none, .load false 1 (.t 63)⟩,
     ⟨some 65, none, .load true 3 (.t 5)⟩,
     ⟨some 66, none, .bslice 3 [.int .i64 0, .int .i64 0, .int .i64 0] 1 [(0, 3, .t 65)]⟩,
     ⟨some 67, none, .append 3 24 (.t 64) (.t 66)⟩,
     ⟨some 68, none, .faddr 1 (.t 3)⟩,
     ⟨none, none, .store 1 (.t 68) (.t 67)⟩]))))))
  (.ops [⟨some 23, none, .mv (.t 4)⟩,
    ⟨some 24, none, .bin .add (.t 23) (.c (.int .i64 1))⟩,
    ⟨some 4, none, .mv (.t 24)⟩]))
def v85 : VF := ⟨1, 84, [.cell 2 true 4], true,
  .seq (.ops [⟨some 2, none, .new [.int .i64 0, .slice none 0 0, .slice none 0 0, .slice none 0 0]⟩])
  (.seq (.ops [⟨some 9, none, .mv (.t 0)⟩,
    ⟨some 10, none, .nilck (.t 9)⟩,
    ⟨some 11, none, .faddr 0 (.t 10)⟩,
    ⟨some 12, none, .faddr 1 (.t 11)⟩,
    ⟨some 13, none, .load false 1 (.t 12)⟩,
    ⟨some 14, none, .len (.t 13)⟩,
    ⟨some 15, none, .build [.int .i64 0, .slice none 0 0, .slice none 0 0, .slice none 0 0] [(0, 1, .t 14)]⟩,
    ⟨some 3, none, .new [.int .i64 0, .slice none 0 0, .slice none 0 0, .slice none 0 0]⟩,
    ⟨none, none, .store 4 (.t 3) (.t 15)⟩])
  (.seq (.seq (.ops [⟨some 4, none, .mv (.c (.int .i64 0))⟩])
  (.block 0 (.loop [0, 2, 3, 4] [0, 2, 3] l85_1)))
  (.seq (.seq (.draw [⟨some 69, none, .faddr 0 (.t 3)⟩,
    ⟨some 70, none, .load false 1 (.t 69)⟩,
    ⟨some 71, none, .mv (.t 0)⟩,
    ⟨some 72, none, .nilck (.t 71)⟩,
    ⟨some 73, none, .faddr 0 (.t 72)⟩,
    ⟨some 74, none, .faddr 1 (.t 73)⟩,
    ⟨some 75, none, .load false 1 (.t 74)⟩,
    ⟨some 76, none, .call 131 [.t 75]⟩] [⟨some 77, none, .bin .sub (.t 70) (.t 76)⟩,
    ⟨some 8, none, .mv (.t 77)⟩])
  (.seq (.ops [⟨some 78, none, .mv (.t 8)⟩,
    ⟨some 79, none, .bin .gtr (.t 78) (.c (.int .i64 0))⟩])
  (.cond (.t 79)
   (.ops [⟨some 80, none, .mv (.t 8)⟩,
     ⟨some 81, none, .bslice 1 [.int .i64 0] 1 [(0, 1, .t 80)]⟩,
     ⟨some 82, none, .faddr 3 (.t 3)⟩,
     ⟨none, none, .store 1 (.t 82) (.t 81)⟩])
   (.skip))))
  (.seq (.ops [⟨some 83, none, .load true 4 (.t 3)⟩,
    ⟨none, none, .store 4 (.t 2) (.t 83)⟩])
  (.ret)))))⟩
theorem ok85 : FnOK Try.prog 85 v85 := ⟨⟨Try.f85, _, Try.func85, rfl, by kernel_rfl, rfl, by decide, by kernel_rfl, by kernel_rfl⟩⟩

/-- impl.plainOf -/
def l86_0 : VC :=
  .seq (.seq (.ops [⟨some 37, none, .mv (.t 7)⟩,
    ⟨some 38, none, .mv (.t 6)⟩,
    ⟨some 39, none, .len (.t 38)⟩,
    ⟨some 40, none, .bin .lss (.t 37) (.t 39)⟩])
  (.cond (.t 40)
   (.skip)
   (.exit 2)))
  (.seq (.block 3 (.draw [⟨some 43, none, .faddr 2 (.t 3)⟩,
     ⟨some 44, none, .load false 1 (.t 43)⟩,
     ⟨some 45, none, .faddr 0 (.t 5)⟩,
     ⟨some 46, none, .load false 1 (.t 45)⟩,
     ⟨some 47, none, .mv (.t 6)⟩,
     ⟨some 48, none, .mv (.t 7)⟩,
     ⟨some 49, none, .iaddr 1 (.t 47) (.t 48)⟩,
     ⟨some 50, none, .load false 1 (.t 49)⟩,
     ⟨some 51, none, .mv (.t 6)⟩,
     ⟨some 52, none, .mv (.t 7)⟩,
     ⟨some 53, none, .bin .add (.t 52) (.c (.int .i64 1))⟩,
     ⟨some 54, none, .iaddr 1 (.t 51) (.t 53)⟩,
     ⟨some 55, none, .load false 1 (.t 54)⟩,
     ⟨some 56, none, .build [.int .i64 0, .int .i64 0, .int .i64 0] [(0, 1, .t 46), (1, 1, .t 50), (2, 1, .t 55)]⟩,
     ⟨some 57, none, .bslice 3 [.int .i64 0, .int .i64 0, .int .i64 0] 1 [(0, 3, .t 56)]⟩] [⟨some 58, none, .append 3 24 (.t 44) (.t 57)⟩,
     ⟨some 59, none, .faddr 2 (.t 3)⟩,
     ⟨none, none, .store 1 (.t 59) (.t 58)⟩]))
  (.ops [⟨some 41, none, .mv (.t 7)⟩,
    ⟨some 42, none, .bin .add (.t 41) (.c (.int .i64 2))⟩,
    ⟨some 7, none, .mv (.t 42)⟩]))
def l86_1 : VC :=
  .seq (.ops [⟨some 20, none, .bin .lss (.t 19) (.t 18)⟩])
  (.seq (.cond (.t 20)
   (.skip)
   (.exit 0))
  (.seq (.block 1 (.seq (.ops [⟨some 21, none, .iaddr 3 (.t 17) (.t 19)⟩,
     ⟨some 22, none, .load true 3 (.t 21)⟩,
     ⟨some 5, none, .new [.int .i64 0, .int .i64 0, .int .i64 0]⟩,
     ⟨none, none, .store 3 (.t 5) (.t 22)⟩])
   (.seq (.ops [⟨some 23, none, .faddr 1 (.t 3)⟩,
     ⟨some 24, none, .load false 1 (.t 23)⟩,
     ⟨some 25, none, .faddr 0 (.t 5)⟩,
     ⟨some 26, none, .load false 1 (.t 25)⟩,
     ⟨some 27, none, .faddr 1 (.t 5)⟩,
     ⟨some 28, none, .load false 1 (.t 27)⟩,
     ⟨some 29, none, .build [.int .i64 0, .int .i64 0, .int .i64 0] [(0, 1, .t 26), (1, 1, .t 28), (2, 1, .c (.int .i64 (-1)))]⟩,
     ⟨some 30, none, .bslice 3 [.int .i64 0, .int .i64 0, .int .i64 0] 1 [(0, 3, .t 29)]⟩,
     ⟨some 31, none, .append 3 24 (.t 24) (.t 30)⟩,
     ⟨some 32, none, .faddr 1 (.t 3)⟩,
     ⟨none, none, .store 1 (.t 32) (.t 31)⟩])
   (.seq (.ops [⟨some 33, none, .faddr 0 (.t 1)⟩,
     ⟨some 34, none, .faddr 2 (.t 5)⟩,
     ⟨some 35, none, .load false 1 (.t 34)⟩,
     ⟨some 36, none, .call 127 [.t 33, .t 35]⟩,
     ⟨some 6, none, .mv (.t 36)⟩])
   (.seq (.ops [⟨some 7, none, .mv (.c (.int .i64 0))⟩])
   (.block 2 (.loop [1, 2, 3, 5, 6, 7, 17, 18, 19] [1, 2, 3, 17, 18, 19] l86_0)))))))
  (.ops [⟨some 60, none, .bin .add (.t 19) (.c (.int .i64 1))⟩,
    ⟨some 19, none, .mv (.t 60)⟩])))
def l86_2 : VC :=
  .seq (.ops [⟨some 66, none, .bin .lss (.t 65) (.t 64)⟩])
  (.seq (.cond (.t 66)
   (.skip)
   (.exit 4))
  (.seq (.block 5 (.seq (.ops [⟨some 67, none, .iaddr 2 (.t 63) (.t 65)⟩,
     ⟨some 68, none, .load true 2 (.t 67)⟩,
     ⟨some 10, none, .new [.int .i64 0, .int .i64 0]⟩,
     ⟨none, none, .store 2 (.t 10) (.t 68)⟩])
   (.seq (.ops [⟨some 69, none, .faddr 0 (.t 10)⟩,
     ⟨some 70, none, .load false 1 (.t 69)⟩,
     ⟨some 71, none, .bin .gtr (.t 70) (.c (.int .i64 0))⟩])
   (.cond (.t 71)
    (.ops [⟨some 72, none, .mv (.t 8)⟩,
      ⟨some 73, none, .bin .add (.t 72) (.c (.int .i64 1))⟩,
      ⟨some 8, none, .mv (.t 73)⟩])
    (.skip)))))
  (.ops [⟨some 74, none, .bin .add (.t 65) (.c (.int .i64 1))⟩,
    ⟨some 65, none, .mv (.t 74)⟩])))
def v86 : VF := ⟨1, 81, [.cell 2 true 4], true,
  .seq (.ops [⟨some 1, none, .box (.t 0)⟩,
    ⟨some 2, none, .new [.int .i64 0, .slice none 0 0, .slice none 0 0, .slice none 0 0]⟩])
  (.seq (.ops [⟨some 11, none, .faddr 0 (.t 1)⟩,
    ⟨some 12, none, .faddr 1 (.t 11)⟩,
    ⟨some 13, none, .load false 1 (.t 12)⟩,
    ⟨some 14, none, .len (.t 13)⟩,
    ⟨some 15, none, .build [.int .i64 0, .slice none 0 0, .slice none 0 0, .slice none 0 0] [(0, 1, .t 14)]⟩,
    ⟨some 3, none, .new [.int .i64 0, .slice none 0 0, .slice none 0 0, .slice none 0 0]⟩,
    ⟨none, none, .store 4 (.t 3) (.t 15)⟩])
  (.seq (.seq (.ops [⟨some 16, none, .faddr 2 (.t 1)⟩,
    ⟨some 17, none, .load false 1 (.t 16)⟩,
    ⟨some 18, none, .len (.t 17)⟩,
    ⟨some 19, none, .mv (.c (.int .i64 0))⟩])
  (.block 0 (.loop [1, 2, 3, 17, 18, 19] [1, 2, 3] l86_1)))
  (.seq (.ops [⟨some 8, none, .mv (.c (.int .i64 0))⟩])
  (.seq (.seq (.ops [⟨some 61, none, .faddr 0 (.t 1)⟩,
    ⟨some 62, none, .faddr 1 (.t 61)⟩,
    ⟨some 63, none, .load false 1 (.t 62)⟩,
    ⟨some 64, none, .len (.t 63)⟩,
    ⟨some 65, none, .mv (.c (.int .i64 0))⟩])
  (.block 4 (.loop [2, 3, 8, 63, 64, 65] [2, 3, 8] l86_2)))
  (.seq (.seq (.ops [⟨some 75, none, .mv (.t 8)⟩,
    ⟨some 76, none, .bin .gtr (.t 75) (.c (.int .i64 0))⟩])
  (.cond (.t 76)
   (.ops [⟨some 77, none, .mv (.t 8)⟩,
     ⟨some 78, none, .bslice 1 [.int .i64 0] 1 [(0, 1, .t 77)]⟩,
     ⟨some 79, none, .faddr 3 (.t 3)⟩,
     ⟨none, none, .store 1 (.t 79) (.t 78)⟩])
   (.skip)))
  (.seq (.ops [⟨some 80, none, .load true 4 (.t 3)⟩,
    ⟨none, none, .store 4 (.t 2) (.t 80)⟩])
  (.ret)))))))⟩
theorem ok86 : FnOK Try.prog 86 v86 := ⟨⟨Try.f86, _, Try.func86, rfl, by kernel_rfl, rfl, by decide, by kernel_rfl, by kernel_rfl⟩⟩

/-- laws.markForest -/
def v87 : VF := ⟨2, 14, [.t 4], false,
  .seq (.ops [⟨some 2, none, .box (.t 0)⟩,
    ⟨some 4, none, .mv (.c (.int .i64 0))⟩])
  (.seq (.ops [⟨some 5, none, .faddr 0 (.t 2)⟩,
    ⟨some 6, none, .load false 1 (.t 5)⟩,
    ⟨some 7, none, .mv (.t 1)⟩,
    ⟨some 8, none, .call 132 [.t 6, .t 7]⟩,
    ⟨some 1, none, .mv (.t 8)⟩])
  (.seq (.ops [⟨some 9, none, .faddr 1 (.t 2)⟩,
    ⟨some 10, none, .load false 1 (.t 9)⟩,
    ⟨some 11, none, .mv (.t 1)⟩,
    ⟨some 12, none, .call 133 [.t 10, .t 11]⟩,
    ⟨some 1, none, .mv (.t 12)⟩])
  (.seq (.ops [⟨some 13, none, .mv (.t 1)⟩,
    ⟨some 4, none, .mv (.t 13)⟩])
  (.ret))))⟩
theorem ok87 : FnOK Try.prog 87 v87 := ⟨⟨Try.f87, _, Try.func87, rfl, by kernel_rfl, rfl, by decide, by kernel_rfl, by kernel_rfl⟩⟩

/-- laws.markVolS -/
def l88_0 : VC :=
  .seq (.seq (.ops [⟨some 6, none, .mv (.t 5)⟩,
    ⟨some 7, none, .mv (.t 0)⟩,
    ⟨some 8, none, .len (.t 7)⟩,
    ⟨some 9, none, .bin .lss (.t 6) (.t 8)⟩])
  (.cond (.t 9)
   (.skip)
   (.exit 0)))
  (.seq (.block 1 (.seq (.ops [⟨some 12, none, .mv (.t 0)⟩,
     ⟨some 13, none, .mv (.t 5)⟩,
     ⟨some 14, none, .mv (.t 1)⟩,
     ⟨some 15, none, .iaddr 3 (.t 12) (.t 13)⟩,
     ⟨some 16, none, .faddr 0 (.t 15)⟩,
     ⟨none, none, .store 1 (.t 16) (.t 14)⟩])
   (.seq (.ops [⟨some 17, none, .mv (.t 1)⟩,
     ⟨some 18, none, .bin .add (.t 17) (.c (.int .i64 1))⟩,
     ⟨some 1, none, .mv (.t 18)⟩])
   (.seq (.ops [⟨some 19, none, .mv (.t 0)⟩,
     ⟨some 20, none, .mv (.t 5)⟩,
     ⟨some 21, none, .mv (.t 1)⟩,
     ⟨some 22, none, .iaddr 3 (.t 19) (.t 20)⟩,
     ⟨some 23, none, .faddr 1 (.t 22)⟩,
     ⟨none, none, .store 1 (.t 23) (.t 21)⟩])
   (.seq (.ops [⟨some 24, none, .mv (.t 1)⟩,
     ⟨some 25, none, .bin .add (.t 24) (.c (.int .i64 1))⟩,
     ⟨some 1, none, .mv (.t 25)⟩])
   (.seq (.ops [⟨some 26, none, .mv (.t 0)⟩,
     ⟨some 27, none, .mv (.t 5)⟩,
     ⟨some 28, none, .mv (.t 1)⟩,
     ⟨some 29, none, .iaddr 3 (.t 26) (.t 27)⟩,
     ⟨some 30, none, .faddr 2 (.t 29)⟩,
     ⟨none, none, .store 1 (.t 30) (.t 28)⟩])
   (.ops [⟨some 31, none, .mv (.t 1)⟩,
     ⟨some 32, none, .bin .add (.t 31) (.c (.int .i64 1))⟩,
     ⟨some 1, none, .mv (.t 32)⟩])))))))
  (.ops [⟨some 10, none, .mv (.t 5)⟩,
    ⟨some 11, none, .bin .add (.t 10) (.c (.int .i64 1))⟩,
    ⟨some 5, none, .mv (.t 11)⟩]))
def v88 : VF := ⟨2, 34, [.t 4], false,
  .seq (.ops [⟨some 4, none, .mv (.c (.int .i64 0))⟩])
  (.seq (.seq (.ops [⟨some 5, none, .mv (.c (.int .i64 0))⟩])
  (.block 0 (.loop [0, 1, 5] [1, 4] l88_0)))
  (.seq (.ops [⟨some 33, none, .mv (.t 1)⟩,
    ⟨some 4, none, .mv (.t 33)⟩])
  (.ret)))⟩
theorem ok88 : FnOK Try.prog 88 v88 := ⟨⟨Try.f88, _, Try.func88, rfl, by kernel_rfl, rfl, by decide, by kernel_rfl, by kernel_rfl⟩⟩

/-- laws.markPlain -/
def v89 : VF := ⟨2, 18, [.t 4], false,
  .seq (.ops [⟨some 2, none, .box (.t 0)⟩,
    ⟨some 4, none, .mv (.c (.int .i64 0))⟩])
  (.seq (.ops [⟨some 5, none, .faddr 1 (.t 2)⟩,
    ⟨some 6, none, .load false 1 (.t 5)⟩,
    ⟨some 7, none, .mv (.t 1)⟩,
    ⟨some 8, none, .call 88 [.t 6, .t 7]⟩,
    ⟨some 1, none, .mv (.t 8)⟩])
  (.seq (.ops [⟨some 9, none, .faddr 2 (.t 2)⟩,
    ⟨some 10, none, .load false 1 (.t 9)⟩,
    ⟨some 11, none, .mv (.t 1)⟩,
    ⟨some 12, none, .call 134 [.t 10, .t 11]⟩,
    ⟨some 1, none, .mv (.t 12)⟩])
  (.seq (.ops [⟨some 13, none, .faddr 3 (.t 2)⟩,
    ⟨some 14, none, .load false 1 (.t 13)⟩,
    ⟨some 15, none, .mv (.t 1)⟩,
    ⟨some 16, none, .call 18 [.t 14, .t 15]⟩,
    ⟨some 1, none, .mv (.t 16)⟩])
  (.seq (.ops [⟨some 17, none, .mv (.t 1)⟩,
    ⟨some 4, none, .mv (.t 17)⟩])
  (.ret)))))⟩
theorem ok89 : FnOK Try.prog 89 v89 := ⟨⟨Try.f89, _, Try.func89, rfl, by kernel_rfl, rfl, by decide, by kernel_rfl, by kernel_rfl⟩⟩

/-- laws.heldPlain -/
def v90 : VF := ⟨2, 24, [.t 4], true,
  .seq (.ops [⟨some 2, none, .box (.t 0)⟩,
    ⟨some 4, none, .mv (.c (.int .i64 0))⟩])
  (.seq (.ops [⟨some 5, none, .faddr 1 (.t 2)⟩,
    ⟨some 6, none, .load false 1 (.t 5)⟩,
    ⟨some 7, none, .mv (.t 1)⟩,
    ⟨some 8, none, .call 135 [.t 6, .t 7]⟩,
    ⟨some 1, none, .mv (.t 8)⟩])
  (.seq (.seq (.ops [⟨some 9, none, .mv (.t 1)⟩,
    ⟨some 10, none, .bin .lss (.t 9) (.c (.int .i64 0))⟩])
  (.cond (.t 10)
   (.seq (.ops [⟨some 4, none, .mv (.c (.int .i64 (-1)))⟩])
   (.ret))
   (.skip)))
  (.seq (.ops [⟨some 11, none, .faddr 2 (.t 2)⟩,
    ⟨some 12, none, .load false 1 (.t 11)⟩,
    ⟨some 13, none, .mv (.t 1)⟩,
    ⟨some 14, none, .call 136 [.t 12, .t 13]⟩,
    ⟨some 1, none, .mv (.t 14)⟩])
  (.seq (.seq (.ops [⟨some 15, none, .mv (.t 1)⟩,
    ⟨some 16, none, .bin .lss (.t 15) (.c (.int .i64 0))⟩])
  (.cond (.t 16)
   (.seq (.ops [⟨some 4, none, .mv (.c (.int .i64 (-1)))⟩])
   (.ret))
   (.skip)))
  (.seq (.ops [⟨some 17, none, .faddr 3 (.t 2)⟩,
    ⟨some 18, none, .load false 1 (.t 17)⟩,
    ⟨some 19, none, .mv (.t 1)⟩,
    ⟨some 20, none, .call 57 [.t 18, .t 19]⟩,
    ⟨some 1, none, .mv (.t 20)⟩])
  (.seq (.seq (.ops [⟨some 21, none, .mv (.t 1)⟩,
    ⟨some 22, none, .bin .lss (.t 21) (.c (.int .i64 0))⟩])
  (.cond (.t 22)
   (.seq (.ops [⟨some 4, none, .mv (.c (.int .i64 (-1)))⟩])
   (.ret))
   (.skip)))
  (.seq (.ops [⟨some 23, none, .mv (.t 1)⟩,
    ⟨some 4, none, .mv (.t 23)⟩])
  (.ret))))))))⟩
theorem ok90 : FnOK Try.prog 90 v90 := ⟨⟨Try.f90, _, Try.func90, rfl, by kernel_rfl, rfl, by decide, by kernel_rfl, by kernel_rfl⟩⟩

/-- spec.l6Fault -/
def l91_0 : VC :=
  .seq (.seq (.ops [⟨some 34, none, .mv (.t 5)⟩,
    ⟨some 35, none, .mv (.t 0)⟩,
    ⟨some 36, none, .nilck (.t 35)⟩,
    ⟨some 37, none, .faddr 1 (.t 36)⟩,
    ⟨some 38, none, .load false 1 (.t 37)⟩,
    ⟨some 39, none, .len (.t 38)⟩,
    ⟨some 40, none, .bin .lss (.t 34) (.t 39)⟩])
  (.cond (.t 40)
   (.skip)
   (.exit 0)))
  (.seq (.block 1 (.seq (.draw [⟨some 43, none, .mv (.t 0)⟩,
     ⟨some 44, none, .mv (.t 0)⟩,
     ⟨some 45, none, .nilck (.t 44)⟩,
     ⟨some 46, none, .faddr 1 (.t 45)⟩,
     ⟨some 47, none, .load false 1 (.t 46)⟩,
     ⟨some 48, none, .mv (.t 5)⟩,
     ⟨some 49, none, .iaddr 3 (.t 47) (.t 48)⟩,
     ⟨some 50, none, .faddr 0 (.t 49)⟩,
     ⟨some 51, none, .load false 1 (.t 50)⟩,
     ⟨some 52, none, .call 138 [.t 43, .t 51]⟩,
     ⟨some 53, none, .mv (.t 0)⟩,
     ⟨some 54, none, .nilck (.t 53)⟩,
     ⟨some 55, none, .faddr 1 (.t 54)⟩,
     ⟨some 56, none, .load false 1 (.t 55)⟩,
     ⟨some 57, none, .mv (.t 5)⟩,
     ⟨some 58, none, .iaddr 3 (.t 56) (.t 57)⟩,
     ⟨some 59, none, .faddr 1 (.t 58)⟩,
     ⟨some 60, none, .load false 1 (.t 59)⟩] [⟨some 61, none, .bin .gtr (.t 52) (.t 60)⟩])
   (.cond (.t 61)
    (.seq (.ops [⟨some 2, none, .mv (.c (.int .i64 9))⟩])
    (.ret))
    (.skip))))
  (.ops [⟨some 41, none, .mv (.t 5)⟩,
    ⟨some 42, none, .bin .add (.t 41) (.c (.int .i64 1))⟩,
    ⟨some 5, none, .mv (.t 42)⟩]))
def v91 : VF := ⟨1, 90, [.t 2], true,
  .seq (.ops [⟨some 2, none, .mv (.c (.int .i64 0))⟩])
  (.seq (.seq (.ops [⟨some 6, none, .mv (.t 0)⟩,
    ⟨some 7, none, .nilck (.t 6)⟩,
    ⟨some 8, none, .faddr 0 (.t 7)⟩,
    ⟨some 9, none, .load false 1 (.t 8)⟩,
    ⟨some 10, none, .call 53 [.t 9, .c (.int .i64 0), .c (.int .i64 24)]⟩,
    ⟨some 11, none, .not (.t 10)⟩])
  (.cond (.t 11)
   (.seq (.ops [⟨some 2, none, .mv (.c (.int .i64 3))⟩])
   (.ret))
   (.skip)))
  (.seq (.seq (.ops [⟨some 12, none, .mv (.t 0)⟩,
    ⟨some 13, none, .nilck (.t 12)⟩,
    ⟨some 14, none, .faddr 1 (.t 13)⟩,
    ⟨some 15, none, .load false 1 (.t 14)⟩,
    ⟨some 16, none, .len (.t 15)⟩,
    ⟨some 17, none, .bin .gtr (.t 16) (.c (.int .i64 6))⟩])
  (.cond (.t 17)
   (.seq (.ops [⟨some 2, none, .mv (.c (.int .i64 2))⟩])
   (.ret))
   (.skip)))
  (.seq (.seq (.ops [⟨some 18, none, .mv (.t 0)⟩,
    ⟨some 19, none, .call 100 [.t 18]⟩,
    ⟨some 3, none, .mv (.t 19)⟩])
  (.seq (.ops [⟨some 20, none, .mv (.t 3)⟩,
    ⟨some 21, none, .bin .neq (.t 20) (.c (.int .i64 0))⟩])
  (.cond (.t 21)
   (.seq (.ops [⟨some 22, none, .mv (.t 3)⟩,
     ⟨some 2, none, .mv (.t 22)⟩])
   (.ret))
   (.skip))))
  (.seq (.seq (.ops [⟨some 23, none, .mv (.t 0)⟩,
    ⟨some 24, none, .nilck (.t 23)⟩,
    ⟨some 25, none, .faddr 2 (.t 24)⟩,
    ⟨some 26, none, .load false 1 (.t 25)⟩,
    ⟨some 27, none, .len (.t 26)⟩,
    ⟨some 28, none, .bin .gtr (.t 27) (.c (.int .i64 96))⟩])
  (.cond (.t 28)
   (.seq (.ops [⟨some 2, none, .mv (.c (.int .i64 2))⟩])
   (.ret))
   (.skip)))
  (.seq (.seq (.ops [⟨some 29, none, .mv (.t 0)⟩,
    ⟨some 30, none, .call 137 [.t 29]⟩,
    ⟨some 4, none, .mv (.t 30)⟩])
  (.seq (.ops [⟨some 31, none, .mv (.t 4)⟩,
    ⟨some 32, none, .bin .neq (.t 31) (.c (.int .i64 0))⟩])
  (.cond (.t 32)
   (.seq (.ops [⟨some 33, none, .mv (.t 4)⟩,
     ⟨some 2, none, .mv (.t 33)⟩])
   (.ret))
   (.skip))))
  (.seq (.seq (.ops [⟨some 5, none, .mv (.c (.int .i64 0))⟩])
  (.block 0 (.loop [0, 5] [0, 2] l91_0)))
  (.seq (.seq (.draw [⟨some 62, none, .mv (.t 0)⟩,
    ⟨some 63, none, .nilck (.t 62)⟩,
    ⟨some 64, none, .faddr 3 (.t 63)⟩,
    ⟨some 65, none, .load false 1 (.t 64)⟩,
    ⟨some 66, none, .len (.t 65)⟩,
    ⟨some 67, none, .bin .gtr (.t 66) (.c (.int .i64 1))⟩,
    ⟨some 68, none, .mv (.t 67)⟩,
    ⟨some 69, some (68, false), .mv (.t 0)⟩,
    ⟨some 70, some (68, false), .nilck (.t 69)⟩,
    ⟨some 71, some (68, false), .faddr 3 (.t 70)⟩,
    ⟨some 72, some (68, false), .load false 1 (.t 71)⟩,
    ⟨some 73, some (68, false), .len (.t 72)⟩,
    ⟨some 74, some (68, false), .bin .eql (.t 73) (.c (.int .i64 1))⟩,
    ⟨some 75, some (68, false), .mv (.t 74)⟩,
    ⟨some 76, some (75, true), .mv (.t 0)⟩,
    ⟨some 77, some (75, true), .nilck (.t 76)⟩,
    ⟨some 78, some (75, true), .faddr 3 (.t 77)⟩,
    ⟨some 79, some (75, true), .load false 1 (.t 78)⟩,
    ⟨some 80, some (75, true), .iaddr 1 (.t 79) (.c (.int .i64 0))⟩,
    ⟨some 81, some (75, true), .load false 1 (.t 80)⟩,
    ⟨some 82, some (75, true), .mv (.t 0)⟩,
    ⟨some 83, some (75, true), .nilck (.t 82)⟩,
    ⟨some 84, some (75, true), .faddr 0 (.t 83)⟩,
    ⟨some 85, some (75, true), .load false 1 (.t 84)⟩] [⟨some 86, some (75, true), .call 53 [.t 81, .c (.int .i64 1), .t 85]⟩,
    ⟨some 87, some (75, true), .not (.t 86)⟩,
    ⟨some 88, some (68, false), .pick (.t 75) (.t 87) (.c (.bool false))⟩,
    ⟨some 89, none, .pick (.t 68) (.c (.bool true)) (.t 88)⟩])
  (.cond (.t 89)
   (.seq (.ops [⟨some 2, none, .mv (.c (.int .i64 1))⟩])
   (.ret))
   (.skip)))
  (.seq (.ops [⟨some 2, none, .mv (.c (.int .i64 0))⟩])
  (.ret)))))))))⟩
theorem ok91 : FnOK Try.prog 91 v91 := ⟨⟨Try.f91, _, Try.func91, rfl, by kernel_rfl, rfl, by decide, by kernel_rfl, by kernel_rfl⟩⟩

/-- impl.volsFault -/
def l92_0 : VC :=
  .seq (.ops [⟨some 8, none, .bin .lss (.t 7) (.t 6)⟩])
  (.seq (.cond (.t 8)
   (.skip)
   (.exit 0))
  (.seq (.block 1 (.seq (.ops [⟨some 9, none, .mv (.t 7)⟩,
     ⟨some 10, none, .iaddr 3 (.t 5) (.t 7)⟩,
     ⟨some 11, none, .load true 3 (.t 10)⟩,
     ⟨some 4, none, .new [.int .i64 0, .int .i64 0, .int .i64 0]⟩,
     ⟨some 3, none, .mv (.t 9)⟩,
     ⟨none, none, .store 3 (.t 4) (.t 11)⟩])
   (.block 2 (.seq (.ops [⟨some 13, none, .faddr 0 (.t 4)⟩,
      ⟨some 14, none, .load false 1 (.t 13)⟩,
      ⟨some 15, none, .call 77 [.t 14]⟩,
      ⟨some 16, none, .not (.t 15)⟩,
      ⟨some 17, none, .mv (.t 16)⟩,
      ⟨some 18, some (17, false), .faddr 1 (.t 4)⟩,
      ⟨some 19, some (17, false), .load false 1 (.t 18)⟩,
      ⟨some 20, some (17, false), .call 78 [.t 19]⟩,
      ⟨some 21, some (17, false), .not (.t 20)⟩,
      ⟨some 22, none, .pick (.t 17) (.c (.bool true)) (.t 21)⟩,
      ⟨some 23, none, .mv (.t 22)⟩,
      ⟨some 24, some (23, false), .faddr 2 (.t 4)⟩,
      ⟨some 25, some (23, false), .load false 1 (.t 24)⟩,
      ⟨some 26, some (23, false), .bin .neq (.t 25) (.c (.int .i64 (-1)))⟩,
      ⟨some 27, none, .pick (.t 23) (.c (.bool true)) (.t 26)⟩,
      ⟨some 12, none, .mv (.t 27)⟩])
    (.cond (.t 12)
     (.seq (.ops [⟨some 2, none, .mv (.c (.int .i64 3))⟩])
     (.ret))
     (.seq (.draw [⟨some 29, none, .mv (.t 3)⟩,
       ⟨some 30, none, .bin .gtr (.t 29) (.c (.int .i64 0))⟩,
       ⟨some 31, none, .mv (.t 30)⟩,
       ⟨some 32, some (31, true), .faddr 0 (.t 4)⟩,
       ⟨some 33, some (31, true), .load false 1 (.t 32)⟩,
       ⟨some 34, some (31, true), .mv (.t 0)⟩,
       ⟨some 35, some (31, true), .mv (.t 3)⟩,
       ⟨some 36, some (31, true), .bin .sub (.t 35) (.c (.int .i64 1))⟩,
       ⟨some 37, some (31, true), .iaddr 3 (.t 34) (.t 36)⟩,
       ⟨some 38, some (31, true), .faddr 0 (.t 37)⟩,
       ⟨some 39, some (31, true), .load false 1 (.t 38)⟩] [⟨some 40, some (31, true), .bin .leq (.t 33) (.t 39)⟩,
       ⟨some 41, none, .pick (.t 31) (.t 40) (.c (.bool false))⟩,
       ⟨some 28, none, .mv (.t 41)⟩])
     (.cond (.t 28)
      (.seq (.ops [⟨some 2, none, .mv (.c (.int .i64 1))⟩])
      (.ret))
      (.skip))))))))
  (.ops [⟨some 42, none, .bin .add (.t 7) (.c (.int .i64 1))⟩,
    ⟨some 7, none, .mv (.t 42)⟩])))
def v92 : VF := ⟨1, 43, [.t 2], true,
  .seq (.ops [⟨some 2, none, .mv (.c (.int .i64 0))⟩])
  (.seq (.seq (.ops [⟨some 5, none, .mv (.t 0)⟩,
    ⟨some 6, none, .len (.t 5)⟩,
    ⟨some 7, none, .mv (.c (.int .i64 0))⟩])
  (.block 0 (.loop [0, 5, 6, 7] [2] l92_0)))
  (.seq (.ops [⟨some 2, none, .mv (.c (.int .i64 0))⟩])
  (.ret)))⟩
theorem ok92 : FnOK Try.prog 92 v92 := ⟨⟨Try.f92, _, Try.func92, rfl, by kernel_rfl, rfl, by decide, by kernel_rfl, by kernel_rfl⟩⟩

/-- impl.isTreePlace -/
def v93 : VF := ⟨1, 5, [.t 2], true,
  .seq (.ops [⟨some 2, none, .mv (.c (.bool false))⟩])
  (.seq (.ops [⟨some 3, none, .mv (.t 0)⟩,
    ⟨some 4, none, .call 55 [.t 3, .c (.int .i64 0), .c (.int .i64 15)]⟩,
    ⟨some 2, none, .mv (.t 4)⟩])
  (.ret))⟩
theorem ok93 : FnOK Try.prog 93 v93 := ⟨⟨Try.f93, _, Try.func93, rfl, by kernel_rfl, rfl, by decide, by kernel_rfl, by kernel_rfl⟩⟩

/-- impl.isByte -/
def v94 : VF := ⟨1, 5, [.t 2], true,
  .seq (.ops [⟨some 2, none, .mv (.c (.bool false))⟩])
  (.seq (.ops [⟨some 3, none, .mv (.t 0)⟩,
    ⟨some 4, none, .call 55 [.t 3, .c (.int .i64 0), .c (.int .i64 255)]⟩,
    ⟨some 2, none, .mv (.t 4)⟩])
  (.ret))⟩
theorem ok94 : FnOK Try.prog 94 v94 := ⟨⟨Try.f94, _, Try.func94, rfl, by kernel_rfl, rfl, by decide, by kernel_rfl, by kernel_rfl⟩⟩

/-- impl.cellOrder -/
def v95 : VF := ⟨2, 17, [.t 4], true,
  .seq (.ops [⟨some 2, none, .box (.t 0)⟩,
    ⟨some 3, none, .box (.t 1)⟩,
    ⟨some 4, none, .mv (.c (.int .i64 0))⟩])
  (.seq (.draw [⟨some 5, none, .faddr 0 (.t 2)⟩,
    ⟨some 6, none, .load false 1 (.t 5)⟩,
    ⟨some 7, none, .faddr 0 (.t 3)⟩,
    ⟨some 8, none, .load false 1 (.t 7)⟩,
    ⟨some 9, none, .call 140 [.t 6, .t 8]⟩,
    ⟨some 10, none, .faddr 1 (.t 2)⟩,
    ⟨some 11, none, .load false 1 (.t 10)⟩,
    ⟨some 12, none, .faddr 1 (.t 3)⟩,
    ⟨some 13, none, .load false 1 (.t 12)⟩] [⟨some 14, none, .call 140 [.t 11, .t 13]⟩,
    ⟨some 15, none, .bslice 1 [.int .i64 0, .int .i64 0] 2 [(0, 1, .t 9), (1, 1, .t 14)]⟩,
    ⟨some 16, none, .call 139 [.t 15]⟩,
    ⟨some 4, none, .mv (.t 16)⟩])
  (.ret))⟩
theorem ok95 : FnOK Try.prog 95 v95 := ⟨⟨Try.f95, _, Try.func95, rfl, by kernel_rfl, rfl, by decide, by kernel_rfl, by kernel_rfl⟩⟩

/-- impl.cellsOf -/
def v96 : VF := ⟨2, 9, [.t 4], true,
  .seq (.ops [⟨some 3, none, .box (.t 1)⟩,
    ⟨some 4, none, .mv (.c (.slice none 0 0))⟩])
  (.seq (.ops [⟨some 5, none, .mv (.t 0)⟩,
    ⟨some 6, none, .call 142 [.t 5]⟩,
    ⟨some 7, none, .mkfn 143 [.t 3]⟩,
    ⟨some 8, none, .call 141 [.t 6, .t 7]⟩,
    ⟨some 4, none, .mv (.t 8)⟩])
  (.ret))⟩
theorem ok96 : FnOK Try.prog 96 v96 := ⟨⟨Try.f96, _, Try.func96, rfl, by kernel_rfl, rfl, by decide, by kernel_rfl, by kernel_rfl⟩⟩

/-- spec.l6At -/
def l97_0 : VC :=
  .seq (.seq (.ops [⟨some 8, none, .mv (.t 7)⟩,
    ⟨some 9, none, .mv (.t 0)⟩,
    ⟨some 10, none, .nilck (.t 9)⟩,
    ⟨some 11, none, .faddr 2 (.t 10)⟩,
    ⟨some 12, none, .load false 1 (.t 11)⟩,
    ⟨some 13, none, .len (.t 12)⟩,
    ⟨some 14, none, .bin .lss (.t 8) (.t 13)⟩])
  (.cond (.t 14)
   (.skip)
   (.exit 0)))
  (.seq (.block 1 (.seq (.ops [⟨some 17, none, .mv (.t 0)⟩,
     ⟨some 18, none, .nilck (.t 17)⟩,
     ⟨some 19, none, .faddr 2 (.t 18)⟩,
     ⟨some 20, none, .load false 1 (.t 19)⟩,
     ⟨some 21, none, .mv (.t 7)⟩,
     ⟨some 22, none, .iaddr 3 (.t 20) (.t 21)⟩,
     ⟨some 23, none, .faddr 0 (.t 22)⟩,
     ⟨some 24, none, .load false 1 (.t 23)⟩,
     ⟨some 25, none, .mv (.t 1)⟩,
     ⟨some 26, none, .bin .eql (.t 24) (.t 25)⟩,
     ⟨some 27, none, .mv (.t 26)⟩,
     ⟨some 28, some (27, true), .mv (.t 0)⟩,
     ⟨some 29, some (27, true), .nilck (.t 28)⟩,
     ⟨some 30, some (27, true), .faddr 2 (.t 29)⟩,
     ⟨some 31, some (27, true), .load false 1 (.t 30)⟩,
     ⟨some 32, some (27, true), .mv (.t 7)⟩,
     ⟨some 33, some (27, true), .iaddr 3 (.t 31) (.t 32)⟩,
     ⟨some 34, some (27, true), .faddr 1 (.t 33)⟩,
     ⟨some 35, some (27, true), .load false 1 (.t 34)⟩,
     ⟨some 36, some (27, true), .mv (.t 2)⟩,
     ⟨some 37, some (27, true), .bin .eql (.t 35) (.t 36)⟩,
     ⟨some 38, none, .pick (.t 27) (.t 37) (.c (.bool false))⟩])
   (.cond (.t 38)
    (.seq (.ops [⟨some 39, none, .mv (.t 7)⟩,
      ⟨some 6, none, .mv (.t 39)⟩])
    (.ret))
    (.skip))))
  (.ops [⟨some 15, none, .mv (.t 7)⟩,
    ⟨some 16, none, .bin .add (.t 15) (.c (.int .i64 1))⟩,
    ⟨some 7, none, .mv (.t 16)⟩]))
def v97 : VF := ⟨3, 40, [.t 6], true,
  .seq (.ops [⟨some 6, none, .mv (.c (.int .i64 0))⟩])
  (.seq (.seq (.ops [⟨some 7, none, .mv (.c (.int .i64 0))⟩])
  (.block 0 (.loop [0, 1, 2, 7] [6] l97_0)))
  (.seq (.ops [⟨some 6, none, .mv (.c (.int .i64 (-1)))⟩])
  (.ret)))⟩
theorem ok97 : FnOK Try.prog 97 v97 := ⟨⟨Try.f97, _, Try.func97, rfl, by kernel_rfl, rfl, by decide, by kernel_rfl, by kernel_rfl⟩⟩

/-- impl.cellAt -/
def v98 : VF := ⟨3, 15, [.t 6, .t 7], true,
  .seq (.ops [⟨some 6, none, .mv (.c (.int .i64 0))⟩,
    ⟨some 7, none, .mv (.c (.bool false))⟩])
  (.seq (.ops [⟨some 8, none, .mv (.t 0)⟩,
    ⟨some 9, none, .mv (.t 1)⟩,
    ⟨some 10, none, .mv (.t 2)⟩,
    ⟨some 11, none, .build [.int .i64 0, .int .i64 0, .int .i64 0] [(0, 1, .t 9), (1, 1, .t 10)]⟩,
    ⟨some 12, none, .call 144 [.t 8, .t 11, .c (.func (.func 95) #[] #[])]⟩,
    ⟨some 13, none, .ext 0 (.t 12)⟩,
    ⟨some 14, none, .ext 1 (.t 12)⟩,
    ⟨some 6, none, .mv (.t 13)⟩,
    ⟨some 7, none, .mv (.t 14)⟩])
  (.ret))⟩
theorem ok98 : FnOK Try.prog 98 v98 := ⟨⟨Try.f98, _, Try.func98, rfl, by kernel_rfl, rfl, by decide, by kernel_rfl, by kernel_rfl⟩⟩

/-- spec.l6Vols -/
def l100_0 : VC :=
  .seq (.seq (.ops [⟨some 5, none, .mv (.t 3)⟩,
    ⟨some 6, none, .mv (.t 0)⟩,
    ⟨some 7, none, .nilck (.t 6)⟩,
    ⟨some 8, none, .faddr 1 (.t 7)⟩,
    ⟨some 9, none, .load false 1 (.t 8)⟩,
    ⟨some 10, none, .len (.t 9)⟩,
    ⟨some 11, none, .bin .lss (.t 5) (.t 10)⟩])
  (.cond (.t 11)
   (.skip)
   (.exit 0)))
  (.seq (.block 1 (.seq (.ops [⟨some 14, none, .mv (.t 0)⟩,
     ⟨some 15, none, .nilck (.t 14)⟩,
     ⟨some 16, none, .faddr 1 (.t 15)⟩,
     ⟨some 17, none, .load false 1 (.t 16)⟩,
     ⟨some 18, none, .mv (.t 3)⟩,
     ⟨some 19, none, .iaddr 3 (.t 17) (.t 18)⟩,
     ⟨some 20, none, .load true 3 (.t 19)⟩,
     ⟨some 4, none, .new [.int .i64 0, .int .i64 0, .int .i64 0]⟩,
     ⟨none, none, .store 3 (.t 4) (.t 20)⟩])
   (.seq (.seq (.ops [⟨some 21, none, .faddr 0 (.t 4)⟩,
     ⟨some 22, none, .load false 1 (.t 21)⟩,
     ⟨some 23, none, .call 101 [.t 22]⟩,
     ⟨some 24, none, .not (.t 23)⟩,
     ⟨some 25, none, .mv (.t 24)⟩,
     ⟨some 26, some (25, false), .faddr 1 (.t 4)⟩,
     ⟨some 27, some (25, false), .load false 1 (.t 26)⟩,
     ⟨some 28, some (25, false), .call 53 [.t 27, .c (.int .i64 1), .c (.int .i64 16)]⟩,
     ⟨some 29, some (25, false), .not (.t 28)⟩,
     ⟨some 30, none, .pick (.t 25) (.c (.bool true)) (.t 29)⟩,
     ⟨some 31, none, .mv (.t 30)⟩,
     ⟨some 32, some (31, false), .faddr 2 (.t 4)⟩,
     ⟨some 33, some (31, false), .load false 1 (.t 32)⟩,
     ⟨some 34, some (31, false), .bin .neq (.t 33) (.c (.int .i64 (-1)))⟩,
     ⟨some 35, none, .pick (.t 31) (.c (.bool true)) (.t 34)⟩])
   (.cond (.t 35)
    (.seq (.ops [⟨some 2, none, .mv (.c (.int .i64 3))⟩])
    (.ret))
    (.skip)))
   (.seq (.draw [⟨some 36, none, .mv (.t 3)⟩,
     ⟨some 37, none, .bin .gtr (.t 36) (.c (.int .i64 0))⟩,
     ⟨some 38, none, .mv (.t 37)⟩,
     ⟨some 39, some (38, true), .faddr 0 (.t 4)⟩,
     ⟨some 40, some (38, true), .load false 1 (.t 39)⟩,
     ⟨some 41, some (38, true), .mv (.t 0)⟩,
     ⟨some 42, some (38, true), .nilck (.t 41)⟩,
     ⟨some 43, some (38, true), .faddr 1 (.t 42)⟩,
     ⟨some 44, some (38, true), .load false 1 (.t 43)⟩,
     ⟨some 45, some (38, true), .mv (.t 3)⟩,
     ⟨some 46, some (38, true), .bin .sub (.t 45) (.c (.int .i64 1))⟩,
     ⟨some 47, some (38, true), .iaddr 3 (.t 44) (.t 46)⟩,
     ⟨some 48, some (38, true), .faddr 0 (.t 47)⟩,
     ⟨some 49, some (38, true), .load false 1 (.t 48)⟩] [⟨some 50, some (38, true), .bin .leq (.t 40) (.t 49)⟩,
     ⟨some 51, none, .pick (.t 38) (.t 50) (.c (.bool false))⟩])
   (.cond (.t 51)
    (.seq (.ops [⟨some 2, none, .mv (.c (.int .i64 1))⟩])
    (.ret))
    (.skip))))))
  (.ops [⟨some 12, none, .mv (.t 3)⟩,
    ⟨some 13, none, .bin .add (.t 12) (.c (.int .i64 1))⟩,
    ⟨some 3, none, .mv (.t 13)⟩]))
def v100 : VF := ⟨1, 52, [.t 2], true,
  .seq (.ops [⟨some 2, none, .mv (.c (.int .i64 0))⟩])
  (.seq (.seq (.ops [⟨some 3, none, .mv (.c (.int .i64 0))⟩])
  (.block 0 (.loop [0, 3] [2] l100_0)))
  (.seq (.ops [⟨some 2, none, .mv (.c (.int .i64 0))⟩])
  (.ret)))⟩
theorem ok100 : FnOK Try.prog 100 v100 := ⟨⟨Try.f100, _, Try.func100, rfl, by kernel_rfl, rfl, by decide, by kernel_rfl, by kernel_rfl⟩⟩

/-- spec.l5Id -/
def v101 : VF := ⟨1, 5, [.t 2], true,
  .seq (.ops [⟨some 2, none, .mv (.c (.bool false))⟩])
  (.seq (.ops [⟨some 3, none, .mv (.t 0)⟩,
    ⟨some 4, none, .call 53 [.t 3, .c (.int .i64 1), .c (.int .i64 99)]⟩,
    ⟨some 2, none, .mv (.t 4)⟩])
  (.ret))⟩
theorem ok101 : FnOK Try.prog 101 v101 := ⟨⟨Try.f101, _, Try.func101, rfl, by kernel_rfl, rfl, by decide, by kernel_rfl, by kernel_rfl⟩⟩

/-- spec.l4Place -/
def v102 : VF := ⟨1, 5, [.t 2], true,
  .seq (.ops [⟨some 2, none, .mv (.c (.bool false))⟩])
  (.seq (.ops [⟨some 3, none, .mv (.t 0)⟩,
    ⟨some 4, none, .call 53 [.t 3, .c (.int .i64 0), .c (.int .i64 15)]⟩,
    ⟨some 2, none, .mv (.t 4)⟩])
  (.ret))⟩
theorem ok102 : FnOK Try.prog 102 v102 := ⟨⟨Try.f102, _, Try.func102, rfl, by kernel_rfl, rfl, by decide, by kernel_rfl, by kernel_rfl⟩⟩

/-- spec.l3Data -/
def v103 : VF := ⟨1, 5, [.t 2], true,
  .seq (.ops [⟨some 2, none, .mv (.c (.bool false))⟩])
  (.seq (.ops [⟨some 3, none, .mv (.t 0)⟩,
    ⟨some 4, none, .call 53 [.t 3, .c (.int .i64 0), .c (.int .i64 255)]⟩,
    ⟨some 2, none, .mv (.t 4)⟩])
  (.ret))⟩
theorem ok103 : FnOK Try.prog 103 v103 := ⟨⟨Try.f103, _, Try.func103, rfl, by kernel_rfl, rfl, by decide, by kernel_rfl, by kernel_rfl⟩⟩

/-- laws.toVol -/
def v108 : VF := ⟨1, 14, [.cell 2 true 3], true,
  .seq (.ops [⟨some 1, none, .box (.t 0)⟩,
    ⟨some 2, none, .new [.int .i64 0, .int .i64 0, .int .i64 0]⟩])
  (.seq (.ops [⟨some 3, none, .new [.int .i64 0, .int .i64 0, .int .i64 0]⟩])
  (.seq (.ops [⟨some 4, none, .faddr 0 (.t 1)⟩,
    ⟨some 5, none, .load false 1 (.t 4)⟩,
    ⟨some 6, none, .faddr 0 (.t 3)⟩,
    ⟨none, none, .store 1 (.t 6) (.t 5)⟩])
  (.seq (.ops [⟨some 7, none, .faddr 1 (.t 1)⟩,
    ⟨some 8, none, .load false 1 (.t 7)⟩,
    ⟨some 9, none, .faddr 1 (.t 3)⟩,
    ⟨none, none, .store 1 (.t 9) (.t 8)⟩])
  (.seq (.ops [⟨some 10, none, .faddr 2 (.t 1)⟩,
    ⟨some 11, none, .load false 1 (.t 10)⟩,
    ⟨some 12, none, .faddr 2 (.t 3)⟩,
    ⟨none, none, .store 1 (.t 12) (.t 11)⟩])
  (.seq (.ops [⟨some 13, none, .load true 3 (.t 3)⟩,
    ⟨none, none, .store 3 (.t 2) (.t 13)⟩])
  (.ret))))))⟩
theorem ok108 : FnOK Try.prog 108 v108 := ⟨⟨Try.f108, _, Try.func108, rfl, by kernel_rfl, rfl, by decide, by kernel_rfl, by kernel_rfl⟩⟩

/-- laws.toCell -/
def v109 : VF := ⟨1, 14, [.cell 2 true 3], true,
  .seq (.ops [⟨some 1, none, .box (.t 0)⟩,
    ⟨some 2, none, .new [.int .i64 0, .int .i64 0, .int .i64 0]⟩])
  (.seq (.ops [⟨some 3, none, .new [.int .i64 0, .int .i64 0, .int .i64 0]⟩])
  (.seq (.ops [⟨some 4, none, .faddr 0 (.t 1)⟩,
    ⟨some 5, none, .load false 1 (.t 4)⟩,
    ⟨some 6, none, .faddr 0 (.t 3)⟩,
    ⟨none, none, .store 1 (.t 6) (.t 5)⟩])
  (.seq (.ops [⟨some 7, none, .faddr 1 (.t 1)⟩,
    ⟨some 8, none, .load false 1 (.t 7)⟩,
    ⟨some 9, none, .faddr 1 (.t 3)⟩,
    ⟨none, none, .store 1 (.t 9) (.t 8)⟩])
  (.seq (.ops [⟨some 10, none, .faddr 2 (.t 1)⟩,
    ⟨some 11, none, .load false 1 (.t 10)⟩,
    ⟨some 12, none, .faddr 2 (.t 3)⟩,
    ⟨none, none, .store 1 (.t 12) (.t 11)⟩])
  (.seq (.ops [⟨some 13, none, .load true 3 (.t 3)⟩,
    ⟨none, none, .store 3 (.t 2) (.t 13)⟩])
  (.ret))))))⟩
theorem ok109 : FnOK Try.prog 109 v109 := ⟨⟨Try.f109, _, Try.func109, rfl, by kernel_rfl, rfl, by decide, by kernel_rfl, by kernel_rfl⟩⟩

/-- laws.eqVol -/
def v110 : VF := ⟨2, 20, [.t 4], true,
  .seq (.ops [⟨some 2, none, .box (.t 0)⟩,
    ⟨some 3, none, .box (.t 1)⟩,
    ⟨some 4, none, .mv (.c (.bool false))⟩])
  (.seq (.seq (.ops [⟨some 5, none, .faddr 0 (.t 2)⟩,
    ⟨some 6, none, .load false 1 (.t 5)⟩,
    ⟨some 7, none, .faddr 0 (.t 3)⟩,
    ⟨some 8, none, .load false 1 (.t 7)⟩,
    ⟨some 9, none, .bin .neq (.t 6) (.t 8)⟩])
  (.cond (.t 9)
   (.seq (.ops [⟨some 4, none, .mv (.c (.bool false))⟩])
   (.ret))
   (.skip)))
  (.seq (.seq (.ops [⟨some 10, none, .faddr 1 (.t 2)⟩,
    ⟨some 11, none, .load false 1 (.t 10)⟩,
    ⟨some 12, none, .faddr 1 (.t 3)⟩,
    ⟨some 13, none, .load false 1 (.t 12)⟩,
    ⟨some 14, none, .bin .neq (.t 11) (.t 13)⟩])
  (.cond (.t 14)
   (.seq (.ops [⟨some 4, none, .mv (.c (.bool false))⟩])
   (.ret))
   (.skip)))
  (.seq (.seq (.ops [⟨some 15, none, .faddr 2 (.t 2)⟩,
    ⟨some 16, none, .load false 1 (.t 15)⟩,
    ⟨some 17, none, .faddr 2 (.t 3)⟩,
    ⟨some 18, none, .load false 1 (.t 17)⟩,
    ⟨some 19, none, .bin .neq (.t 16) (.t 18)⟩])
  (.cond (.t 19)
   (.seq (.ops [⟨some 4, none, .mv (.c (.bool false))⟩])
   (.ret))
   (.skip)))
  (.seq (.ops [⟨some 4, none, .mv (.c (.bool true))⟩])
  (.ret)))))⟩
theorem ok110 : FnOK Try.prog 110 v110 := ⟨⟨Try.f110, _, Try.func110, rfl, by kernel_rfl, rfl, by decide, by kernel_rfl, by kernel_rfl⟩⟩

/-- laws.eqCell -/
def v111 : VF := ⟨2, 20, [.t 4], true,
  .seq (.ops [⟨some 2, none, .box (.t 0)⟩,
    ⟨some 3, none, .box (.t 1)⟩,
    ⟨some 4, none, .mv (.c (.bool false))⟩])
  (.seq (.seq (.ops [⟨some 5, none, .faddr 0 (.t 2)⟩,
    ⟨some 6, none, .load false 1 (.t 5)⟩,
    ⟨some 7, none, .faddr 0 (.t 3)⟩,
    ⟨some 8, none, .load false 1 (.t 7)⟩,
    ⟨some 9, none, .bin .neq (.t 6) (.t 8)⟩])
  (.cond (.t 9)
   (.seq (.ops [⟨some 4, none, .mv (.c (.bool false))⟩])
   (.ret))
   (.skip)))
  (.seq (.seq (.ops [⟨some 10, none, .faddr 1 (.t 2)⟩,
    ⟨some 11, none, .load false 1 (.t 10)⟩,
    ⟨some 12, none, .faddr 1 (.t 3)⟩,
    ⟨some 13, none, .load false 1 (.t 12)⟩,
    ⟨some 14, none, .bin .neq (.t 11) (.t 13)⟩])
  (.cond (.t 14)
   (.seq (.ops [⟨some 4, none, .mv (.c (.bool false))⟩])
   (.ret))
   (.skip)))
  (.seq (.seq (.ops [⟨some 15, none, .faddr 2 (.t 2)⟩,
    ⟨some 16, none, .load false 1 (.t 15)⟩,
    ⟨some 17, none, .faddr 2 (.t 3)⟩,
    ⟨some 18, none, .load false 1 (.t 17)⟩,
    ⟨some 19, none, .bin .neq (.t 16) (.t 18)⟩])
  (.cond (.t 19)
   (.seq (.ops [⟨some 4, none, .mv (.c (.bool false))⟩])
   (.ret))
   (.skip)))
  (.seq (.ops [⟨some 4, none, .mv (.c (.bool true))⟩])
  (.ret)))))⟩
theorem ok111 : FnOK Try.prog 111 v111 := ⟨⟨Try.f111, _, Try.func111, rfl, by kernel_rfl, rfl, by decide, by kernel_rfl, by kernel_rfl⟩⟩

/-- laws.szNodeS -/
def l112_0 : VC :=
  .seq (.seq (.ops [⟨some 12, none, .mv (.t 5)⟩,
    ⟨some 13, none, .mv (.t 0)⟩,
    ⟨some 14, none, .len (.t 13)⟩,
    ⟨some 15, none, .bin .lss (.t 12) (.t 14)⟩])
  (.cond (.t 15)
   (.skip)
   (.exit 0)))
  (.seq (.block 1 (.seq (.ops [⟨some 18, none, .mv (.t 0)⟩,
     ⟨some 19, none, .mv (.t 5)⟩,
     ⟨some 20, none, .iaddr 3 (.t 18) (.t 19)⟩,
     ⟨some 21, none, .load true 3 (.t 20)⟩,
     ⟨some 22, none, .mv (.t 1)⟩,
     ⟨some 23, none, .call 148 [.t 21, .t 22]⟩,
     ⟨some 1, none, .mv (.t 23)⟩])
   (.seq (.ops [⟨some 24, none, .mv (.t 1)⟩,
     ⟨some 25, none, .bin .lss (.t 24) (.c (.int .i64 0))⟩])
   (.cond (.t 25)
    (.seq (.ops [⟨some 4, none, .mv (.c (.int .i64 (-1)))⟩])
    (.ret))
    (.skip)))))
  (.ops [⟨some 16, none, .mv (.t 5)⟩,
    ⟨some 17, none, .bin .add (.t 16) (.c (.int .i64 1))⟩,
    ⟨some 5, none, .mv (.t 17)⟩]))
def v112 : VF := ⟨2, 27, [.t 4], true,
  .seq (.ops [⟨some 4, none, .mv (.c (.int .i64 0))⟩])
  (.seq (.ops [⟨some 6, none, .mv (.t 1)⟩,
    ⟨some 7, none, .mv (.t 0)⟩,
    ⟨some 8, none, .len (.t 7)⟩,
    ⟨some 9, none, .bin .sub (.t 6) (.t 8)⟩,
    ⟨some 1, none, .mv (.t 9)⟩])
  (.seq (.seq (.ops [⟨some 10, none, .mv (.t 1)⟩,
    ⟨some 11, none, .bin .lss (.t 10) (.c (.int .i64 0))⟩])
  (.cond (.t 11)
   (.seq (.ops [⟨some 4, none, .mv (.c (.int .i64 (-1)))⟩])
   (.ret))
   (.skip)))
  (.seq (.seq (.ops [⟨some 5, none, .mv (.c (.int .i64 0))⟩])
  (.block 0 (.loop [0, 1, 5] [1, 4] l112_0)))
  (.seq (.ops [⟨some 26, none, .mv (.t 1)⟩,
    ⟨some 4, none, .mv (.t 26)⟩])
  (.ret)))))⟩
theorem ok112 : FnOK Try.prog 112 v112 := ⟨⟨Try.f112, _, Try.func112, rfl, by kernel_rfl, rfl, by decide, by kernel_rfl, by kernel_rfl⟩⟩

/-- laws.szBlockS -/
def v113 : VF := ⟨2, 12, [.t 4], true,
  .seq (.ops [⟨some 4, none, .mv (.c (.int .i64 0))⟩])
  (.seq (.ops [⟨some 5, none, .mv (.t 1)⟩,
    ⟨some 6, none, .mv (.t 0)⟩,
    ⟨some 7, none, .len (.t 6)⟩,
    ⟨some 8, none, .bin .sub (.t 5) (.t 7)⟩,
    ⟨some 1, none, .mv (.t 8)⟩])
  (.seq (.seq (.ops [⟨some 9, none, .mv (.t 1)⟩,
    ⟨some 10, none, .bin .lss (.t 9) (.c (.int .i64 0))⟩])
  (.cond (.t 10)
   (.seq (.ops [⟨some 4, none, .mv (.c (.int .i64 (-1)))⟩])
   (.ret))
   (.skip)))
  (.seq (.ops [⟨some 11, none, .mv (.t 1)⟩,
    ⟨some 4, none, .mv (.t 11)⟩])
  (.ret))))⟩
theorem ok113 : FnOK Try.prog 113 v113 := ⟨⟨Try.f113, _, Try.func113, rfl, by kernel_rfl, rfl, by decide, by kernel_rfl, by kernel_rfl⟩⟩

/-- laws.toNodeS -/
def l114_0 : VC :=
  .seq (.seq (.ops [⟨some 8, none, .mv (.t 4)⟩,
    ⟨some 9, none, .mv (.t 0)⟩,
    ⟨some 10, none, .len (.t 9)⟩,
    ⟨some 11, none, .bin .lss (.t 8) (.t 10)⟩])
  (.cond (.t 11)
   (.skip)
   (.exit 0)))
  (.seq (.block 1 (.ops [⟨some 14, none, .mv (.t 3)⟩,
     ⟨some 15, none, .mv (.t 4)⟩,
     ⟨some 16, none, .mv (.t 0)⟩,
     ⟨some 17, none, .mv (.t 4)⟩,
     ⟨some 18, none, .iaddr 3 (.t 16) (.t 17)⟩,
     ⟨some 19, none, .load true 3 (.t 18)⟩,
     ⟨some 20, none, .call 149 [.t 19]⟩,
     ⟨some 21, none, .iaddr 3 (.t 14) (.t 15)⟩,
     ⟨none, none, .store 3 (.t 21) (.t 20)⟩]))
  (.ops [⟨some 12, none, .mv (.t 4)⟩,
    ⟨some 13, none, .bin .add (.t 12) (.c (.int .i64 1))⟩,
    ⟨some 4, none, .mv (.t 13)⟩]))
def v114 : VF := ⟨1, 23, [.t 2], true,
  .seq (.ops [⟨some 2, none, .mv (.c (.slice none 0 0))⟩])
  (.seq (.ops [⟨some 5, none, .mv (.t 0)⟩,
    ⟨some 6, none, .len (.t 5)⟩,
    ⟨some 7, none, .mkslice 3 40 [.int .i64 0, .bool false, .slice none 0 0] (.t 6) (.t 6)⟩,
    ⟨some 3, none, .mv (.t 7)⟩])
  (.seq (.seq (.ops [⟨some 4, none, .mv (.c (.int .i64 0))⟩])
  (.block 0 (.loop [0, 3, 4] [2, 3] l114_0)))
  (.seq (.ops [⟨some 22, none, .mv (.t 3)⟩,
    ⟨some 2, none, .mv (.t 22)⟩])
  (.ret))))⟩
theorem ok114 : FnOK Try.prog 114 v114 := ⟨⟨Try.f114, _, Try.func114, rfl, by kernel_rfl, rfl, by decide, by kernel_rfl, by kernel_rfl⟩⟩

/-- laws.toBlockS -/
def l115_0 : VC :=
  .seq (.seq (.ops [⟨some 8, none, .mv (.t 4)⟩,
    ⟨some 9, none, .mv (.t 0)⟩,
    ⟨some 10, none, .len (.t 9)⟩,
    ⟨some 11, none, .bin .lss (.t 8) (.t 10)⟩])
  (.cond (.t 11)
   (.skip)
   (.exit 0)))
  (.seq (.block 1 (.ops [⟨some 14, none, .mv (.t 3)⟩,
     ⟨some 15, none, .mv (.t 4)⟩,
     ⟨some 16, none, .mv (.t 0)⟩,
     ⟨some 17, none, .mv (.t 4)⟩,
     ⟨some 18, none, .iaddr 2 (.t 16) (.t 17)⟩,
     ⟨some 19, none, .load true 2 (.t 18)⟩,
     ⟨some 20, none, .call 150 [.t 19]⟩,
     ⟨some 21, none, .iaddr 2 (.t 14) (.t 15)⟩,
     ⟨none, none, .store 2 (.t 21) (.t 20)⟩]))
  (.ops [⟨some 12, none, .mv (.t 4)⟩,
    ⟨some 13, none, .bin .add (.t 12) (.c (.int .i64 1))⟩,
    ⟨some 4, none, .mv (.t 13)⟩]))
def v115 : VF := ⟨1, 23, [.t 2], true,
  .seq (.ops [⟨some 2, none, .mv (.c (.slice none 0 0))⟩])
  (.seq (.ops [⟨some 5, none, .mv (.t 0)⟩,
    ⟨some 6, none, .len (.t 5)⟩,
    ⟨some 7, none, .mkslice 2 16 [.int .i64 0, .int .i64 0] (.t 6) (.t 6)⟩,
    ⟨some 3, none, .mv (.t 7)⟩])
  (.seq (.seq (.ops [⟨some 4, none, .mv (.c (.int .i64 0))⟩])
  (.block 0 (.loop [0, 3, 4] [2, 3] l115_0)))
  (.seq (.ops [⟨some 22, none, .mv (.t 3)⟩,
    ⟨some 2, none, .mv (.t 22)⟩])
  (.ret))))⟩
theorem ok115 : FnOK Try.prog 115 v115 := ⟨⟨Try.f115, _, Try.func115, rfl, by kernel_rfl, rfl, by decide, by kernel_rfl, by kernel_rfl⟩⟩

/-- laws.eqNodeS -/
def l116_0 : VC :=
  .seq (.seq (.ops [⟨some 11, none, .mv (.t 5)⟩,
    ⟨some 12, none, .mv (.t 0)⟩,
    ⟨some 13, none, .len (.t 12)⟩,
    ⟨some 14, none, .bin .lss (.t 11) (.t 13)⟩])
  (.cond (.t 14)
   (.skip)
   (.exit 0)))
  (.seq (.block 1 (.seq (.draw [⟨some 17, none, .mv (.t 0)⟩,
     ⟨some 18, none, .mv (.t 5)⟩,
     ⟨some 19, none, .iaddr 3 (.t 17) (.t 18)⟩,
     ⟨some 20, none, .load true 3 (.t 19)⟩,
     ⟨some 21, none, .mv (.t 1)⟩,
     ⟨some 22, none, .mv (.t 5)⟩,
     ⟨some 23, none, .iaddr 3 (.t 21) (.t 22)⟩,
     ⟨some 24, none, .load true 3 (.t 23)⟩] [⟨some 25, none, .call 151 [.t 20, .t 24]⟩,
     ⟨some 26, none, .not (.t 25)⟩])
   (.cond (.t 26)
    (.seq (.ops [⟨some 4, none, .mv (.c (.bool false))⟩])
    (.ret))
    (.skip))))
  (.ops [⟨some 15, none, .mv (.t 5)⟩,
    ⟨some 16, none, .bin .add (.t 15) (.c (.int .i64 1))⟩,
    ⟨some 5, none, .mv (.t 16)⟩]))
def v116 : VF := ⟨2, 27, [.t 4], true,
  .seq (.ops [⟨some 4, none, .mv (.c (.bool false))⟩])
  (.seq (.seq (.ops [⟨some 6, none, .mv (.t 0)⟩,
    ⟨some 7, none, .len (.t 6)⟩,
    ⟨some 8, none, .mv (.t 1)⟩,
    ⟨some 9, none, .len (.t 8)⟩,
    ⟨some 10, none, .bin .neq (.t 7) (.t 9)⟩])
  (.cond (.t 10)
   (.seq (.ops [⟨some 4, none, .mv (.c (.bool false))⟩])
   (.ret))
   (.skip)))
  (.seq (.seq (.ops [⟨some 5, none, .mv (.c (.int .i64 0))⟩])
  (.block 0 (.loop [0, 1, 5] [4] l116_0)))
  (.seq (.ops [⟨some 4, none, .mv (.c (.bool true))⟩])
  (.ret))))⟩
theorem ok116 : FnOK Try.prog 116 v116 := ⟨⟨Try.f116, _, Try.func116, rfl, by kernel_rfl, rfl, by decide, by kernel_rfl, by kernel_rfl⟩⟩

/-- laws.eqBlockS -/
def l117_0 : VC :=
  .seq (.seq (.ops [⟨some 11, none, .mv (.t 5)⟩,
    ⟨some 12, none, .mv (.t 0)⟩,
    ⟨some 13, none, .len (.t 12)⟩,
    ⟨some 14, none, .bin .lss (.t 11) (.t 13)⟩])
  (.cond (.t 14)
   (.skip)
   (.exit 0)))
  (.seq (.block 1 (.seq (.draw [⟨some 17, none, .mv (.t 0)⟩,
     ⟨some 18, none, .mv (.t 5)⟩,
     ⟨some 19, none, .iaddr 2 (.t 17) (.t 18)⟩,
     ⟨some 20, none, .load true 2 (.t 19)⟩,
     ⟨some 21, none, .mv (.t 1)⟩,
     ⟨some 22, none, .mv (.t 5)⟩,
     ⟨some 23, none, .iaddr 2 (.t 21) (.t 22)⟩,
     ⟨some 24, none, .load true 2 (.t 23)⟩] [⟨some 25, none, .call 152 [.t 20, .t 24]⟩,
     ⟨some 26, none, .not (.t 25)⟩])
   (.cond (.t 26)
    (.seq (.ops [⟨some 4, none, .mv (.c (.bool false))⟩])
    (.ret))
    (.skip))))
  (.ops [⟨some 15, none, .mv (.t 5)⟩,
    ⟨some 16, none, .bin .add (.t 15) (.c (.int .i64 1))⟩,
    ⟨some 5, none, .mv (.t 16)⟩]))
def v117 : VF := ⟨2, 27, [.t 4], true,
  .seq (.ops [⟨some 4, none, .mv (.c (.bool false))⟩])
  (.seq (.seq (.ops [⟨some 6, none, .mv (.t 0)⟩,
    ⟨some 7, none, .len (.t 6)⟩,
    ⟨some 8, none, .mv (.t 1)⟩,
    ⟨some 9, none, .len (.t 8)⟩,
    ⟨some 10, none, .bin .neq (.t 7) (.t 9)⟩])
  (.cond (.t 10)
   (.seq (.ops [⟨some 4, none, .mv (.c (.bool false))⟩])
   (.ret))
   (.skip)))
  (.seq (.seq (.ops [⟨some 5, none, .mv (.c (.int .i64 0))⟩])
  (.block 0 (.loop [0, 1, 5] [4] l117_0)))
  (.seq (.ops [⟨some 4, none, .mv (.c (.bool true))⟩])
  (.ret))))⟩
theorem ok117 : FnOK Try.prog 117 v117 := ⟨⟨Try.f117, _, Try.func117, rfl, by kernel_rfl, rfl, by decide, by kernel_rfl, by kernel_rfl⟩⟩

/-- spec.l4Fault -/
def l118_0 : VC :=
  .seq (.seq (.ops [⟨some 22, none, .mv (.t 4)⟩,
    ⟨some 23, none, .mv (.t 0)⟩,
    ⟨some 24, none, .nilck (.t 23)⟩,
    ⟨some 25, none, .faddr 0 (.t 24)⟩,
    ⟨some 26, none, .load false 1 (.t 25)⟩,
    ⟨some 27, none, .len (.t 26)⟩,
    ⟨some 28, none, .bin .lss (.t 22) (.t 27)⟩])
  (.cond (.t 28)
   (.skip)
   (.exit 0)))
  (.seq (.block 1 (.seq (.ops [⟨some 31, none, .mv (.t 0)⟩,
     ⟨some 32, none, .mv (.t 0)⟩,
     ⟨some 33, none, .nilck (.t 32)⟩,
     ⟨some 34, none, .faddr 0 (.t 33)⟩,
     ⟨some 35, none, .load false 1 (.t 34)⟩,
     ⟨some 36, none, .mv (.t 4)⟩,
     ⟨some 37, none, .iaddr 3 (.t 35) (.t 36)⟩,
     ⟨some 38, none, .call 154 [.t 31, .t 37]⟩,
     ⟨some 5, none, .mv (.t 38)⟩])
   (.seq (.ops [⟨some 39, none, .mv (.t 5)⟩,
     ⟨some 40, none, .bin .neq (.t 39) (.c (.int .i64 0))⟩])
   (.cond (.t 40)
    (.seq (.ops [⟨some 41, none, .mv (.t 5)⟩,
      ⟨some 2, none, .mv (.t 41)⟩])
    (.ret))
    (.skip)))))
  (.ops [⟨some 29, none, .mv (.t 4)⟩,
    ⟨some 30, none, .bin .add (.t 29) (.c (.int .i64 1))⟩,
    ⟨some 4, none, .mv (.t 30)⟩]))
def l118_1 : VC :=
  .seq (.seq (.ops [⟨some 42, none, .mv (.t 6)⟩,
    ⟨some 43, none, .mv (.t 0)⟩,
    ⟨some 44, none, .nilck (.t 43)⟩,
    ⟨some 45, none, .faddr 1 (.t 44)⟩,
    ⟨some 46, none, .load false 1 (.t 45)⟩,
    ⟨some 47, none, .len (.t 46)⟩,
    ⟨some 48, none, .bin .lss (.t 42) (.t 47)⟩])
  (.cond (.t 48)
   (.skip)
   (.exit 2)))
  (.seq (.block 3 (.seq (.draw [⟨some 51, none, .mv (.t 0)⟩,
     ⟨some 52, none, .nilck (.t 51)⟩,
     ⟨some 53, none, .faddr 1 (.t 52)⟩,
     ⟨some 54, none, .load false 1 (.t 53)⟩,
     ⟨some 55, none, .mv (.t 6)⟩,
     ⟨some 56, none, .iaddr 2 (.t 54) (.t 55)⟩,
     ⟨some 57, none, .faddr 0 (.t 56)⟩,
     ⟨some 58, none, .load false 1 (.t 57)⟩,
     ⟨some 59, none, .mv (.t 0)⟩,
     ⟨some 60, none, .mv (.t 6)⟩,
     ⟨some 61, none, .call 155 [.t 59, .c (.bool true), .t 60]⟩] [⟨some 62, none, .bin .neq (.t 58) (.t 61)⟩])
   (.cond (.t 62)
    (.seq (.ops [⟨some 2, none, .mv (.c (.int .i64 1))⟩])
    (.ret))
    (.skip))))
  (.ops [⟨some 49, none, .mv (.t 6)⟩,
    ⟨some 50, none, .bin .add (.t 49) (.c (.int .i64 1))⟩,
    ⟨some 6, none, .mv (.t 50)⟩]))
def l118_2 : VC :=
  .seq (.seq (.ops [⟨some 63, none, .mv (.t 7)⟩,
    ⟨some 64, none, .mv (.t 0)⟩,
    ⟨some 65, none, .nilck (.t 64)⟩,
    ⟨some 66, none, .faddr 0 (.t 65)⟩,
    ⟨some 67, none, .load false 1 (.t 66)⟩,
    ⟨some 68, none, .len (.t 67)⟩,
    ⟨some 69, none, .bin .lss (.t 63) (.t 68)⟩])
  (.cond (.t 69)
   (.skip)
   (.exit 4)))
  (.seq (.block 5 (.seq (.draw [⟨some 72, none, .mv (.t 0)⟩,
     ⟨some 73, none, .nilck (.t 72)⟩,
     ⟨some 74, none, .faddr 0 (.t 73)⟩,
     ⟨some 75, none, .load false 1 (.t 74)⟩,
     ⟨some 76, none, .mv (.t 7)⟩,
     ⟨some 77, none, .iaddr 3 (.t 75) (.t 76)⟩,
     ⟨some 78, none, .faddr 1 (.t 77)⟩,
     ⟨some 79, none, .load false 1 (.t 78)⟩,
     ⟨some 80, none, .mv (.t 79)⟩,
     ⟨some 81, some (80, true), .mv (.t 0)⟩,
     ⟨some 82, some (80, true), .nilck (.t 81)⟩,
     ⟨some 83, some (80, true), .faddr 0 (.t 82)⟩,
     ⟨some 84, some (80, true), .load false 1 (.t 83)⟩,
     ⟨some 85, some (80, true), .mv (.t 7)⟩,
     ⟨some 86, some (80, true), .iaddr 3 (.t 84) (.t 85)⟩,
     ⟨some 87, some (80, true), .faddr 0 (.t 86)⟩,
     ⟨some 88, some (80, true), .load false 1 (.t 87)⟩,
     ⟨some 89, some (80, true), .mv (.t 0)⟩,
     ⟨some 90, some (80, true), .mv (.t 7)⟩,
     ⟨some 91, some (80, true), .call 155 [.t 89, .c (.bool false), .t 90]⟩] [⟨some 92, some (80, true), .bin .lss (.t 88) (.t 91)⟩,
     ⟨some 93, none, .pick (.t 80) (.t 92) (.c (.bool false))⟩])
   (.cond (.t 93)
    (.seq (.ops [⟨some 2, none, .mv (.c (.int .i64 1))⟩])
    (.ret))
    (.skip))))
  (.ops [⟨some 70, none, .mv (.t 7)⟩,
    ⟨some 71, none, .bin .add (.t 70) (.c (.int .i64 1))⟩,
    ⟨some 7, none, .mv (.t 71)⟩]))
def v118 : VF := ⟨1, 94, [.t 2], true,
  .seq (.ops [⟨some 2, none, .mv (.c (.int .i64 0))⟩])
  (.seq (.seq (.ops [⟨some 8, none, .mv (.t 0)⟩,
    ⟨some 9, none, .nilck (.t 8)⟩,
    ⟨some 10, none, .faddr 1 (.t 9)⟩,
    ⟨some 11, none, .load false 1 (.t 10)⟩,
    ⟨some 12, none, .call 153 [.t 11]⟩,
    ⟨some 3, none, .mv (.t 12)⟩])
  (.seq (.ops [⟨some 13, none, .mv (.t 3)⟩,
    ⟨some 14, none, .bin .neq (.t 13) (.c (.int .i64 0))⟩])
  (.cond (.t 14)
   (.seq (.ops [⟨some 15, none, .mv (.t 3)⟩,
     ⟨some 2, none, .mv (.t 15)⟩])
   (.ret))
   (.skip))))
  (.seq (.seq (.ops [⟨some 16, none, .mv (.t 0)⟩,
    ⟨some 17, none, .nilck (.t 16)⟩,
    ⟨some 18, none, .faddr 0 (.t 17)⟩,
    ⟨some 19, none, .load false 1 (.t 18)⟩,
    ⟨some 20, none, .len (.t 19)⟩,
    ⟨some 21, none, .bin .gtr (.t 20) (.c (.int .i64 60))⟩])
  (.cond (.t 21)
   (.seq (.ops [⟨some 2, none, .mv (.c (.int .i64 2))⟩])
   (.ret))
   (.skip)))
  (.seq (.seq (.ops [⟨some 4, none, .mv (.c (.int .i64 0))⟩])
  (.block 0 (.loop [0, 4] [0, 2] l118_0)))
  (.seq (.seq (.ops [⟨some 6, none, .mv (.c (.int .i64 0))⟩])
  (.block 2 (.loop [0, 6] [0, 2] l118_1)))
  (.seq (.seq (.ops [⟨some 7, none, .mv (.c (.int .i64 0))⟩])
  (.block 4 (.loop [0, 7] [2] l118_2)))
  (.seq (.ops [⟨some 2, none, .mv (.c (.int .i64 0))⟩])
  (.ret)))))))⟩
theorem ok118 : FnOK Try.prog 118 v118 := ⟨⟨Try.f118, _, Try.func118, rfl, by kernel_rfl, rfl, by decide, by kernel_rfl, by kernel_rfl⟩⟩

/-- spec.l4Root -/
def v119 : VF := ⟨2, 37, [.t 4], true,
  .seq (.ops [⟨some 4, none, .mv (.c (.bool false))⟩])
  (.seq (.seq (.ops [⟨some 5, none, .mv (.t 1)⟩,
    ⟨some 6, none, .bin .eql (.t 5) (.c (.int .i64 (-1)))⟩])
  (.cond (.t 6)
   (.seq (.ops [⟨some 4, none, .mv (.c (.bool true))⟩])
   (.ret))
   (.skip)))
  (.seq (.ops [⟨some 7, none, .mv (.t 1)⟩,
    ⟨some 8, none, .mv (.t 0)⟩,
    ⟨some 9, none, .nilck (.t 8)⟩,
    ⟨some 10, none, .faddr 0 (.t 9)⟩,
    ⟨some 11, none, .load false 1 (.t 10)⟩,
    ⟨some 12, none, .len (.t 11)⟩,
    ⟨some 13, none, .bin .sub (.t 12) (.c (.int .i64 1))⟩,
    ⟨some 14, none, .call 53 [.t 7, .c (.int .i64 0), .t 13]⟩,
    ⟨some 15, none, .mv (.t 14)⟩,
    ⟨some 16, some (15, true), .mv (.t 0)⟩,
    ⟨some 17, some (15, true), .nilck (.t 16)⟩,
    ⟨some 18, some (15, true), .faddr 0 (.t 17)⟩,
    ⟨some 19, some (15, true), .load false 1 (.t 18)⟩,
    ⟨some 20, some (15, true), .mv (.t 1)⟩,
    ⟨some 21, some (15, true), .iaddr 3 (.t 19) (.t 20)⟩,
    ⟨some 22, some (15, true), .faddr 0 (.t 21)⟩,
    ⟨some 23, some (15, true), .load false 1 (.t 22)⟩,
    ⟨some 24, some (15, true), .bin .gtr (.t 23) (.c (.int .i64 0))⟩,
    ⟨some 25, none, .pick (.t 15) (.t 24) (.c (.bool false))⟩,
    ⟨some 26, none, .mv (.t 25)⟩,
    ⟨some 27, some (26, true), .mv (.t 0)⟩,
    ⟨some 28, some (26, true), .nilck (.t 27)⟩,
    ⟨some 29, some (26, true), .faddr 0 (.t 28)⟩,
    ⟨some 30, some (26, true), .load false 1 (.t 29)⟩,
    ⟨some 31, some (26, true), .mv (.t 1)⟩,
    ⟨some 32, some (26, true), .iaddr 3 (.t 30) (.t 31)⟩,
    ⟨some 33, some (26, true), .faddr 1 (.t 32)⟩,
    ⟨some 34, some (26, true), .load false 1 (.t 33)⟩,
    ⟨some 35, some (26, true), .not (.t 34)⟩,
    ⟨some 36, none, .pick (.t 26) (.t 35) (.c (.bool false))⟩,
    ⟨some 4, none, .mv (.t 36)⟩])
  (.ret)))⟩
theorem ok119 : FnOK Try.prog 119 v119 := ⟨⟨Try.f119, _, Try.func119, rfl, by kernel_rfl, rfl, by decide, by kernel_rfl, by kernel_rfl⟩⟩

/-- spec.l5Exact -/
def l120_0 : VC :=
  .seq (.seq (.ops [⟨some 39, none, .mv (.t 6)⟩,
    ⟨some 40, none, .mv (.t 0)⟩,
    ⟨some 41, none, .nilck (.t 40)⟩,
    ⟨some 42, none, .faddr 2 (.t 41)⟩,
    ⟨some 43, none, .load false 1 (.t 42)⟩,
    ⟨some 44, none, .len (.t 43)⟩,
    ⟨some 45, none, .bin .lss (.t 39) (.t 44)⟩])
  (.cond (.t 45)
   (.skip)
   (.exit 2)))
  (.seq (.block 3 (.seq (.ops [⟨some 48, none, .mv (.t 0)⟩,
     ⟨some 49, none, .nilck (.t 48)⟩,
     ⟨some 50, none, .faddr 2 (.t 49)⟩,
     ⟨some 51, none, .load false 1 (.t 50)⟩,
     ⟨some 52, none, .mv (.t 6)⟩,
     ⟨some 53, none, .iaddr 3 (.t 51) (.t 52)⟩,
     ⟨some 54, none, .faddr 2 (.t 53)⟩,
     ⟨some 55, none, .load false 1 (.t 54)⟩,
     ⟨some 56, none, .mv (.t 3)⟩,
     ⟨some 57, none, .bin .eql (.t 55) (.t 56)⟩])
   (.cond (.t 57)
    (.ops [⟨some 58, none, .mv (.t 5)⟩,
      ⟨some 59, none, .bin .add (.t 58) (.c (.int .i64 1))⟩,
      ⟨some 5, none, .mv (.t 59)⟩])
    (.skip))))
  (.ops [⟨some 46, none, .mv (.t 6)⟩,
    ⟨some 47, none, .bin .add (.t 46) (.c (.int .i64 1))⟩,
    ⟨some 6, none, .mv (.t 47)⟩]))
def l120_1 : VC :=
  .seq (.seq (.ops [⟨some 7, none, .mv (.t 3)⟩,
    ⟨some 8, none, .mv (.t 0)⟩,
    ⟨some 9, none, .nilck (.t 8)⟩,
    ⟨some 10, none, .faddr 0 (.t 9)⟩,
    ⟨some 11, none, .faddr 0 (.t 10)⟩,
    ⟨some 12, none, .load false 1 (.t 11)⟩,
    ⟨some 13, none, .len (.t 12)⟩,
    ⟨some 14, none, .bin .lss (.t 7) (.t 13)⟩])
  (.cond (.t 14)
   (.skip)
   (.exit 0)))
  (.seq (.block 1 (.seq (.ops [⟨some 17, none, .mv (.t 0)⟩,
     ⟨some 18, none, .nilck (.t 17)⟩,
     ⟨some 19, none, .faddr 0 (.t 18)⟩,
     ⟨some 20, none, .faddr 0 (.t 19)⟩,
     ⟨some 21, none, .load false 1 (.t 20)⟩,
     ⟨some 22, none, .mv (.t 3)⟩,
     ⟨some 23, none, .iaddr 3 (.t 21) (.t 22)⟩,
     ⟨some 4, none, .mv (.t 23)⟩])
   (.seq (.seq (.ops [⟨some 24, none, .mv (.t 4)⟩,
     ⟨some 25, none, .nilck (.t 24)⟩,
     ⟨some 26, none, .faddr 0 (.t 25)⟩,
     ⟨some 27, none, .load false 1 (.t 26)⟩,
     ⟨some 28, none, .bin .eql (.t 27) (.c (.int .i64 0))⟩])
   (.cond (.t 28)
    (.exit 1)
    (.skip)))
   (.seq (.ops [⟨some 29, none, .mv (.t 0)⟩,
     ⟨some 30, none, .nilck (.t 29)⟩,
     ⟨some 31, none, .faddr 0 (.t 30)⟩,
     ⟨some 32, none, .mv (.t 3)⟩,
     ⟨some 33, none, .call 155 [.t 31, .c (.bool false), .t 32]⟩,
     ⟨some 5, none, .mv (.t 33)⟩])
   (.seq (.seq (.ops [⟨some 34, none, .mv (.t 4)⟩,
     ⟨some 35, none, .nilck (.t 34)⟩,
     ⟨some 36, none, .faddr 1 (.t 35)⟩,
     ⟨some 37, none, .load false 1 (.t 36)⟩,
     ⟨some 38, none, .not (.t 37)⟩])
   (.cond (.t 38)
    (.seq (.ops [⟨some 5, none, .mv (.c (.int .i64 0))⟩])
    (.seq (.ops [⟨some 6, none, .mv (.c (.int .i64 0))⟩])
    (.block 2 (.loop [0, 3, 4, 5, 6] [0, 2, 3, 4, 5] l120_0))))
    (.skip)))
   (.seq (.ops [⟨some 60, none, .mv (.t 4)⟩,
     ⟨some 61, none, .nilck (.t 60)⟩,
     ⟨some 62, none, .faddr 0 (.t 61)⟩,
     ⟨some 63, none, .load false 1 (.t 62)⟩,
     ⟨some 64, none, .mv (.t 5)⟩,
     ⟨some 65, none, .bin .neq (.t 63) (.t 64)⟩])
   (.cond (.t 65)
    (.seq (.ops [⟨some 2, none, .mv (.c (.bool false))⟩])
    (.ret))
    (.skip))))))))
  (.ops [⟨some 15, none, .mv (.t 3)⟩,
    ⟨some 16, none, .bin .add (.t 15) (.c (.int .i64 1))⟩,
    ⟨some 3, none, .mv (.t 16)⟩]))
def v120 : VF := ⟨1, 66, [.t 2], true,
  .seq (.ops [⟨some 2, none, .mv (.c (.bool false))⟩])
  (.seq (.seq (.ops [⟨some 3, none, .mv (.c (.int .i64 0))⟩])
  (.block 0 (.loop [0, 3] [2] l120_1)))
  (.seq (.ops [⟨some 2, none, .mv (.c (.bool true))⟩])
  (.ret)))⟩
theorem ok120 : FnOK Try.prog 120 v120 := ⟨⟨Try.f120, _, Try.func120, rfl, by kernel_rfl, rfl, by decide, by kernel_rfl, by kernel_rfl⟩⟩

/-- impl.BlocksFault -/
def l121_0 : VC :=
  .seq (.ops [⟨some 11, none, .bin .lss (.t 10) (.t 9)⟩])
  (.seq (.cond (.t 11)
   (.skip)
   (.exit 0))
  (.seq (.block 1 (.seq (.ops [⟨some 12, none, .iaddr 2 (.t 8) (.t 10)⟩,
     ⟨some 13, none, .load true 2 (.t 12)⟩,
     ⟨some 4, none, .new [.int .i64 0, .int .i64 0]⟩,
     ⟨none, none, .store 2 (.t 4) (.t 13)⟩])
   (.block 2 (.seq (.ops [⟨some 15, none, .faddr 0 (.t 4)⟩,
      ⟨some 16, none, .load false 1 (.t 15)⟩,
      ⟨some 17, none, .call 122 [.t 16]⟩,
      ⟨some 18, none, .not (.t 17)⟩,
      ⟨some 19, none, .mv (.t 18)⟩,
      ⟨some 20, some (19, false), .faddr 1 (.t 4)⟩,
      ⟨some 21, some (19, false), .load false 1 (.t 20)⟩,
      ⟨some 22, some (19, false), .call 94 [.t 21]⟩,
      ⟨some 23, some (19, false), .not (.t 22)⟩,
      ⟨some 24, none, .pick (.t 19) (.c (.bool true)) (.t 23)⟩,
      ⟨some 14, none, .mv (.t 24)⟩])
    (.cond (.t 14)
     (.seq (.ops [⟨some 2, none, .mv (.c (.int .i64 3))⟩])
     (.ret))
     (.seq (.ops [⟨some 26, none, .faddr 0 (.t 4)⟩,
       ⟨some 27, none, .load false 1 (.t 26)⟩,
       ⟨some 28, none, .bin .eql (.t 27) (.c (.int .i64 0))⟩,
       ⟨some 29, none, .mv (.t 28)⟩,
       ⟨some 30, some (29, true), .faddr 1 (.t 4)⟩,
       ⟨some 31, some (29, true), .load false 1 (.t 30)⟩,
       ⟨some 32, some (29, true), .bin .neq (.t 31) (.c (.int .i64 0))⟩,
       ⟨some 33, none, .pick (.t 29) (.t 32) (.c (.bool false))⟩,
       ⟨some 25, none, .mv (.t 33)⟩])
     (.cond (.t 25)
      (.seq (.ops [⟨some 2, none, .mv (.c (.int .i64 1))⟩])
      (.ret))
      (.skip))))))))
  (.ops [⟨some 34, none, .bin .add (.t 10) (.c (.int .i64 1))⟩,
    ⟨some 10, none, .mv (.t 34)⟩])))
def v121 : VF := ⟨1, 35, [.t 2], true,
  .seq (.ops [⟨some 2, none, .mv (.c (.int .i64 0))⟩])
  (.seq (.seq (.ops [⟨some 5, none, .mv (.t 0)⟩,
    ⟨some 6, none, .len (.t 5)⟩,
    ⟨some 7, none, .bin .gtr (.t 6) (.c (.int .i64 24))⟩])
  (.cond (.t 7)
   (.seq (.ops [⟨some 2, none, .mv (.c (.int .i64 2))⟩])
   (.ret))
   (.skip)))
  (.seq (.seq (.ops [⟨some 8, none, .mv (.t 0)⟩,
    ⟨some 9, none, .len (.t 8)⟩,
    ⟨some 10, none, .mv (.c (.int .i64 0))⟩])
  (.block 0 (.loop [8, 9, 10] [2] l121_0)))
  (.seq (.ops [⟨some 2, none, .mv (.c (.int .i64 0))⟩])
  (.ret))))⟩
theorem ok121 : FnOK Try.prog 121 v121 := ⟨⟨Try.f121, _, Try.func121, rfl, by kernel_rfl, rfl, by decide, by kernel_rfl, by kernel_rfl⟩⟩

/-- impl.areRefs -/
def v122 : VF := ⟨1, 5, [.t 2], true,
  .seq (.ops [⟨some 2, none, .mv (.c (.bool false))⟩])
  (.seq (.ops [⟨some 3, none, .mv (.t 0)⟩,
    ⟨some 4, none, .call 55 [.t 3, .c (.int .i64 0), .c (.int .i64 200)]⟩,
    ⟨some 2, none, .mv (.t 4)⟩])
  (.ret))⟩
theorem ok122 : FnOK Try.prog 122 v122 := ⟨⟨Try.f122, _, Try.func122, rfl, by kernel_rfl, rfl, by decide, by kernel_rfl, by kernel_rfl⟩⟩

/-- impl.isEmpty -/
def v123 : VF := ⟨1, 6, [.t 2], true,
  .seq (.ops [⟨some 2, none, .mv (.c (.bool false))⟩])
  (.seq (.ops [⟨some 3, none, .mv (.t 0)⟩,
    ⟨some 4, none, .call 124 [.t 3, .c (.func (.func 156) #[] #[])]⟩,
    ⟨some 5, none, .not (.t 4)⟩,
    ⟨some 2, none, .mv (.t 5)⟩])
  (.ret))⟩
theorem ok123 : FnOK Try.prog 123 v123 := ⟨⟨Try.f123, _, Try.func123, rfl, by kernel_rfl, rfl, by decide, by kernel_rfl, by kernel_rfl⟩⟩

/-- slices.ContainsFunc[[]int64,int64] -/
def v124 : VF := ⟨2, 9, [.t 4], true,
  .seq (.ops [⟨some 4, none, .mv (.c (.bool false))⟩])
  (.seq (.ops [⟨some 5, none, .mv (.t 0)⟩,
    ⟨some 6, none, .mv (.t 1)⟩,
    ⟨some 7, none, .call 157 [.t 5, .t 6]⟩,
    ⟨some 8, none, .bin .geq (.t 7) (.c (.int .i64 0))⟩,
    ⟨some 4, none, .mv (.t 8)⟩])
  (.ret))⟩
theorem ok124 : FnOK Try.prog 124 v124 := ⟨⟨Try.f124, _, Try.func124, rfl, by kernel_rfl, rfl, by decide, by kernel_rfl, by kernel_rfl⟩⟩

/-- impl.ForestFault$1 -/
def v125 : VF := ⟨3, 10, [.t 4], true,
  .seq (.ops [⟨some 4, none, .mv (.c (.bool false))⟩])
  (.seq (.ops [⟨some 5, none, .load true 2 (.t 1)⟩,
    ⟨some 6, none, .load true 3 (.t 2)⟩,
    ⟨some 7, none, .mv (.t 0)⟩,
    ⟨some 8, none, .call 126 [.t 5, .t 6, .t 7]⟩,
    ⟨some 9, none, .not (.t 8)⟩,
    ⟨some 4, none, .mv (.t 9)⟩])
  (.ret))⟩
theorem ok125 : FnOK Try.prog 125 v125 := ⟨⟨Try.f125, _, Try.func125, rfl, by kernel_rfl, rfl, by decide, by kernel_rfl, by kernel_rfl⟩⟩
def env1 : Env := [(75, v75), (76, v76), (77, v77), (78, v78), (79, v79), (80, v80), (81, v81), (82, v82), (83, v83), (84, v84), (85, v85), (86, v86), (87, v87), (88, v88), (89, v89), (90, v90), (91, v91), (92, v92), (93, v93), (94, v94), (95, v95), (96, v96), (97, v97), (98, v98), (100, v100), (101, v101), (102, v102), (103, v103), (108, v108), (109, v109), (110, v110), (111, v111), (112, v112), (113, v113), (114, v114), (115, v115), (116, v116), (117, v117), (118, v118), (119, v119), (120, v120), (121, v121), (122, v122), (123, v123), (124, v124), (125, v125)]
theorem envOK1 : EnvOK Try.prog env1 := .cons ok75 (.cons ok76 (.cons ok77 (.cons ok78 (.cons ok79 (.cons ok80 (.cons ok81 (.cons ok82 (.cons ok83 (.cons ok84 (.cons ok85 (.cons ok86 (.cons ok87 (.cons ok88 (.cons ok89 (.cons ok90 (.cons ok91 (.cons ok92 (.cons ok93 (.cons ok94 (.cons ok95 (.cons ok96 (.cons ok97 (.cons ok98 (.cons ok100 (.cons ok101 (.cons ok102 (.cons ok103 (.cons ok108 (.cons ok109 (.cons ok110 (.cons ok111 (.cons ok112 (.cons ok113 (.cons ok114 (.cons ok115 (.cons ok116 (.cons ok117 (.cons ok118 (.cons ok119 (.cons ok120 (.cons ok121 (.cons ok122 (.cons ok123 (.cons ok124 (.cons ok125 (.nil))))))))))))))))))))))))))))))))))))))))))))))
end Go.Proofs.Ytflddpkmajoeaaa.V
