/- The machine's code of the program's functions; each is the program's own, by the kernel. Laid by a program (wip/v/vmgen.py). -/
import Derived.Test.YtmcljallamhccaaVMS
import Derived.Test.YtmcljallamhccaaProg
namespace Go.Proofs.Ytmcljallamhccaa.V
open Go
set_option maxRecDepth 100000
/-- laws.FnBlocks -/
def l8_0 : VC :=
  .seq (.seq (.ops [⟨some 95, none, .mv (.t 10)⟩,
    ⟨some 96, none, .mv (.t 3)⟩,
    ⟨some 97, none, .len (.t 96)⟩,
    ⟨some 98, none, .bin .lss (.t 95) (.t 97)⟩])
  (.cond (.t 98)
   (.skip)
   (.exit 0)))
  (.seq (.block 1 (.seq (.draw [⟨some 101, none, .faddr 2 (.t 9)⟩,
     ⟨some 102, none, .load false 1 (.t 101)⟩,
     ⟨some 103, none, .mv (.t 10)⟩,
     ⟨some 104, none, .iaddr 2 (.t 102) (.t 103)⟩,
     ⟨some 105, none, .load true 2 (.t 104)⟩,
     ⟨some 106, none, .mv (.t 3)⟩,
     ⟨some 107, none, .mv (.t 10)⟩,
     ⟨some 108, none, .iaddr 2 (.t 106) (.t 107)⟩,
     ⟨some 109, none, .load true 2 (.t 108)⟩,
     ⟨some 110, none, .aeq true 2 (.t 105) (.t 109)⟩,
     ⟨some 111, none, .mv (.t 110)⟩,
     ⟨some 112, some (111, false), .faddr 2 (.t 8)⟩,
     ⟨some 113, some (111, false), .load false 1 (.t 112)⟩,
     ⟨some 114, some (111, false), .mv (.t 10)⟩,
     ⟨some 115, some (111, false), .iaddr 2 (.t 113) (.t 114)⟩,
     ⟨some 116, some (111, false), .load true 2 (.t 115)⟩,
     ⟨some 117, some (111, false), .faddr 2 (.t 5)⟩,
     ⟨some 118, some (111, false), .load false 1 (.t 117)⟩,
     ⟨some 119, some (111, false), .mv (.t 10)⟩,
     ⟨some 120, some (111, false), .iaddr 2 (.t 118) (.t 119)⟩,
     ⟨some 121, some (111, false), .load true 2 (.t 120)⟩] [⟨some 122, some (111, false), .aeq true 2 (.t 116) (.t 121)⟩,
     ⟨some 123, none, .pick (.t 111) (.c (.bool true)) (.t 122)⟩])
   (.cond (.t 123)
    (.seq (.ops [⟨some 2, none, .mv (.c (.bool false))⟩])
    (.ret))
    (.skip))))
  (.ops [⟨some 99, none, .mv (.t 10)⟩,
    ⟨some 100, none, .bin .add (.t 99) (.c (.int .i64 1))⟩,
    ⟨some 10, none, .mv (.t 100)⟩]))
def v8 : VF := ⟨1, 164, [.t 2], true,
  .seq (.ops [⟨some 2, none, .mv (.c (.bool false))⟩])
  (.seq (.seq (.ops [⟨some 12, none, .mv (.t 0)⟩,
    ⟨some 13, none, .call 38 [.t 12]⟩])
  (.cond (.t 13)
   (.seq (.ops [⟨some 2, none, .mv (.c (.bool true))⟩])
   (.ret))
   (.skip)))
  (.seq (.ops [⟨some 15, none, .mv (.t 0)⟩,
    ⟨some 16, none, .call 39 [.t 15]⟩,
    ⟨some 14, none, .mv (.t 16)⟩,
    ⟨some 17, none, .ext 0 (.t 14)⟩,
    ⟨some 18, none, .ext 1 (.t 14)⟩,
    ⟨some 3, none, .mv (.t 17)⟩,
    ⟨some 4, none, .mv (.t 18)⟩])
  (.seq (.ops [⟨some 19, none, .mv (.t 3)⟩,
    ⟨some 20, none, .mv (.t 4)⟩,
    ⟨some 21, none, .call 37 [.t 19, .t 20]⟩,
    ⟨some 5, none, .new [.int .i64 0, .int .i64 0, .slice none 0 0]⟩,
    ⟨none, none, .store 3 (.t 5) (.t 21)⟩])
  (.seq (.seq (.ops [⟨some 22, none, .faddr 0 (.t 5)⟩,
    ⟨some 23, none, .load false 1 (.t 22)⟩,
    ⟨some 24, none, .bin .neq (.t 23) (.c (.int .i64 0))⟩])
  (.cond (.t 24)
   (.seq (.draw [⟨some 25, none, .mv (.t 3)⟩,
     ⟨some 26, none, .mv (.t 4)⟩,
     ⟨some 27, none, .call 36 [.t 25, .t 26]⟩,
     ⟨some 28, none, .field false 0 1 (.t 27)⟩,
     ⟨some 29, none, .faddr 0 (.t 5)⟩,
     ⟨some 30, none, .load false 1 (.t 29)⟩] [⟨some 31, none, .bin .eql (.t 28) (.t 30)⟩,
     ⟨some 2, none, .mv (.t 31)⟩])
   (.ret))
   (.skip)))
  (.seq (.ops [⟨some 32, none, .mv (.t 3)⟩,
    ⟨some 33, none, .call 28 [.t 32]⟩,
    ⟨some 6, none, .new [.int .i64 0, .int .i64 0]⟩,
    ⟨none, none, .store 2 (.t 6) (.t 33)⟩])
  (.seq (.ops [⟨some 34, none, .faddr 2 (.t 5)⟩,
    ⟨some 35, none, .load false 1 (.t 34)⟩,
    ⟨some 36, none, .faddr 1 (.t 5)⟩,
    ⟨some 37, none, .load false 1 (.t 36)⟩,
    ⟨some 38, none, .call 32 [.t 35, .t 37]⟩,
    ⟨some 7, none, .new [.int .i64 0, .int .i64 0, .slice none 0 0]⟩,
    ⟨none, none, .store 3 (.t 7) (.t 38)⟩])
  (.seq (.ops [⟨some 39, none, .faddr 2 (.t 7)⟩,
    ⟨some 40, none, .load false 1 (.t 39)⟩,
    ⟨some 41, none, .faddr 1 (.t 5)⟩,
    ⟨some 42, none, .load false 1 (.t 41)⟩,
    ⟨some 43, none, .call 35 [.t 40, .t 42]⟩,
    ⟨some 8, none, .new [.int .i64 0, .int .i64 0, .slice none 0 0]⟩,
    ⟨none, none, .store 3 (.t 8) (.t 43)⟩])
  (.seq (.ops [⟨some 44, none, .faddr 2 (.t 8)⟩,
    ⟨some 45, none, .load false 1 (.t 44)⟩,
    ⟨some 46, none, .faddr 1 (.t 5)⟩,
    ⟨some 47, none, .load false 1 (.t 46)⟩,
    ⟨some 48, none, .call 35 [.t 45, .t 47]⟩,
    ⟨some 9, none, .new [.int .i64 0, .int .i64 0, .slice none 0 0]⟩,
    ⟨none, none, .store 3 (.t 9) (.t 48)⟩])
  (.seq (.seq (.draw [⟨some 49, none, .faddr 0 (.t 6)⟩,
    ⟨some 50, none, .load false 1 (.t 49)⟩,
    ⟨some 51, none, .bin .neq (.t 50) (.c (.int .i64 0))⟩,
    ⟨some 52, none, .mv (.t 51)⟩,
    ⟨some 53, some (52, false), .faddr 0 (.t 7)⟩,
    ⟨some 54, some (52, false), .load false 1 (.t 53)⟩,
    ⟨some 55, some (52, false), .bin .neq (.t 54) (.c (.int .i64 0))⟩,
    ⟨some 56, none, .pick (.t 52) (.c (.bool true)) (.t 55)⟩,
    ⟨some 57, none, .mv (.t 56)⟩,
    ⟨some 58, some (57, false), .faddr 0 (.t 8)⟩,
    ⟨some 59, some (57, false), .load false 1 (.t 58)⟩,
    ⟨some 60, some (57, false), .bin .neq (.t 59) (.c (.int .i64 0))⟩,
    ⟨some 61, none, .pick (.t 57) (.c (.bool true)) (.t 60)⟩,
    ⟨some 62, none, .mv (.t 61)⟩,
    ⟨some 63, some (62, false), .faddr 0 (.t 9)⟩,
    ⟨some 64, some (62, false), .load false 1 (.t 63)⟩,
    ⟨some 65, some (62, false), .bin .neq (.t 64) (.c (.int .i64 0))⟩,
    ⟨some 66, none, .pick (.t 62) (.c (.bool true)) (.t 65)⟩,
    ⟨some 67, none, .mv (.t 66)⟩,
    ⟨some 68, some (67, false), .faddr 2 (.t 5)⟩,
    ⟨some 69, some (67, false), .load false 1 (.t 68)⟩,
    ⟨some 70, some (67, false), .len (.t 69)⟩,
    ⟨some 71, some (67, false), .mv (.t 3)⟩,
    ⟨some 72, some (67, false), .len (.t 71)⟩,
    ⟨some 73, some (67, false), .bin .neq (.t 70) (.t 72)⟩,
    ⟨some 74, none, .pick (.t 67) (.c (.bool true)) (.t 73)⟩,
    ⟨some 75, none, .mv (.t 74)⟩,
    ⟨some 76, some (75, false), .faddr 2 (.t 5)⟩,
    ⟨some 77, some (75, false), .load false 1 (.t 76)⟩,
    ⟨some 78, some (75, false), .call 28 [.t 77]⟩,
    ⟨some 79, some (75, false), .field false 1 1 (.t 78)⟩,
    ⟨some 80, some (75, false), .faddr 1 (.t 6)⟩,
    ⟨some 81, some (75, false), .load false 1 (.t 80)⟩,
    ⟨some 82, some (75, false), .bin .sub (.t 81) (.c (.int .i64 1))⟩,
    ⟨some 83, some (75, false), .bin .neq (.t 79) (.t 82)⟩,
    ⟨some 84, none, .pick (.t 75) (.c (.bool true)) (.t 83)⟩,
    ⟨some 85, none, .mv (.t 84)⟩,
    ⟨some 86, some (85, false), .faddr 2 (.t 8)⟩,
    ⟨some 87, some (85, false), .load false 1 (.t 86)⟩,
    ⟨some 88, some (85, false), .call 28 [.t 87]⟩,
    ⟨some 89, some (85, false), .field false 1 1 (.t 88)⟩,
    ⟨some 90, some (85, false), .faddr 1 (.t 6)⟩,
    ⟨some 91, some (85, false), .load false 1 (.t 90)⟩,
    ⟨some 92, some (85, false), .bin .sub (.t 91) (.c (.int .i64 1))⟩] [⟨some 93, some (85, false), .bin .neq (.t 89) (.t 92)⟩,
    ⟨some 94, none, .pick (.t 85) (.c (.bool true)) (.t 93)⟩])
  (.cond (.t 94)
   (.seq (.ops [⟨some 2, none, .mv (.c (.bool false))⟩])
   (.ret))
   (.skip)))
  (.seq (.seq (.ops [⟨some 10, none, .mv (.c (.int .i64 0))⟩])
  (.block 0 (.loop [3, 4, 5, 8, 9, 10] [2, 3, 4, 5] l8_0)))
  (.seq (.ops [⟨some 124, none, .mv (.t 3)⟩,
    ⟨some 125, none, .len (.t 124)⟩,
    ⟨some 126, none, .call 21 [.t 125]⟩,
    ⟨some 11, none, .new [.int .i64 0, .int .i64 0, .slice none 0 0]⟩,
    ⟨none, none, .store 3 (.t 11) (.t 126)⟩])
  (.seq (.ops [⟨some 127, none, .faddr 2 (.t 5)⟩,
    ⟨some 128, none, .load false 1 (.t 127)⟩,
    ⟨some 129, none, .faddr 1 (.t 5)⟩,
    ⟨some 130, none, .load false 1 (.t 129)⟩,
    ⟨some 131, none, .iaddr 2 (.t 128) (.t 130)⟩,
    ⟨some 132, none, .faddr 1 (.t 131)⟩,
    ⟨some 133, none, .load false 1 (.t 132)⟩,
    ⟨some 134, none, .mv (.t 4)⟩,
    ⟨some 135, none, .bin .eql (.t 133) (.t 134)⟩,
    ⟨some 136, none, .mv (.t 135)⟩,
    ⟨some 137, some (136, true), .mv (.t 3)⟩,
    ⟨some 138, some (136, true), .faddr 1 (.t 5)⟩,
    ⟨some 139, some (136, true), .load false 1 (.t 138)⟩,
    ⟨some 140, some (136, true), .iaddr 2 (.t 137) (.t 139)⟩,
    ⟨some 141, some (136, true), .faddr 0 (.t 140)⟩,
    ⟨some 142, some (136, true), .load false 1 (.t 141)⟩,
    ⟨some 143, some (136, true), .bin .eql (.t 142) (.c (.int .i64 0))⟩,
    ⟨some 144, none, .pick (.t 136) (.t 143) (.c (.bool false))⟩,
    ⟨some 145, none, .mv (.t 144)⟩,
    ⟨some 146, some (145, true), .faddr 2 (.t 5)⟩,
    ⟨some 147, some (145, true), .load false 1 (.t 146)⟩,
    ⟨some 148, some (145, true), .call 40 [.t 147]⟩,
    ⟨some 149, some (145, true), .bin .eql (.t 148) (.c (.int .i64 0))⟩,
    ⟨some 150, none, .pick (.t 145) (.t 149) (.c (.bool false))⟩,
    ⟨some 151, none, .mv (.t 150)⟩,
    ⟨some 152, some (151, true), .faddr 0 (.t 11)⟩,
    ⟨some 153, some (151, true), .load false 1 (.t 152)⟩,
    ⟨some 154, some (151, true), .bin .eql (.t 153) (.c (.int .i64 0))⟩,
    ⟨some 155, none, .pick (.t 151) (.t 154) (.c (.bool false))⟩,
    ⟨some 156, none, .mv (.t 155)⟩,
    ⟨some 157, some (156, true), .faddr 2 (.t 11)⟩,
    ⟨some 158, some (156, true), .load false 1 (.t 157)⟩,
    ⟨some 159, some (156, true), .len (.t 158)⟩,
    ⟨some 160, some (156, true), .mv (.t 3)⟩,
    ⟨some 161, some (156, true), .len (.t 160)⟩,
    ⟨some 162, some (156, true), .bin .eql (.t 159) (.t 161)⟩,
    ⟨some 163, none, .pick (.t 156) (.t 162) (.c (.bool false))⟩,
    ⟨some 2, none, .mv (.t 163)⟩])
  (.ret)))))))))))))⟩
theorem ok8 : FnOK Try.prog 8 v8 := ⟨⟨Try.f8, _, Try.func8, rfl, by kernel_rfl, rfl, by decide, by kernel_rfl, by kernel_rfl⟩⟩

/-- laws.FnTrees -/
def l18_0 : VC :=
  .seq (.seq (.ops [⟨some 73, none, .mv (.t 10)⟩,
    ⟨some 74, none, .bin .lss (.t 73) (.c (.int .i64 16))⟩])
  (.cond (.t 74)
   (.skip)
   (.exit 0)))
  (.seq (.block 1 (.seq (.ops [⟨some 77, none, .faddr 2 (.t 7)⟩,
     ⟨some 78, none, .load true 2 (.t 77)⟩,
     ⟨some 79, none, .mv (.t 4)⟩,
     ⟨some 80, none, .mv (.t 10)⟩,
     ⟨some 81, none, .call 57 [.t 78, .t 79, .t 80]⟩,
     ⟨some 11, none, .new [.int .i64 0, .int .i64 0]⟩,
     ⟨none, none, .store 2 (.t 11) (.t 81)⟩])
   (.seq (.ops [⟨some 82, none, .faddr 2 (.t 8)⟩,
     ⟨some 83, none, .load true 2 (.t 82)⟩,
     ⟨some 84, none, .faddr 1 (.t 8)⟩,
     ⟨some 85, none, .load false 1 (.t 84)⟩,
     ⟨some 86, none, .mv (.t 10)⟩,
     ⟨some 87, none, .call 57 [.t 83, .t 85, .t 86]⟩,
     ⟨some 12, none, .new [.int .i64 0, .int .i64 0]⟩,
     ⟨none, none, .store 2 (.t 12) (.t 87)⟩])
   (.seq (.ops [⟨some 88, none, .mv (.t 10)⟩,
     ⟨some 89, none, .mv (.t 5)⟩,
     ⟨some 90, none, .bin .eql (.t 88) (.t 89)⟩,
     ⟨some 91, none, .mv (.t 90)⟩,
     ⟨some 92, some (91, true), .faddr 0 (.t 12)⟩,
     ⟨some 93, some (91, true), .load false 1 (.t 92)⟩,
     ⟨some 94, some (91, true), .bin .neq (.t 93) (.c (.int .i64 0))⟩,
     ⟨some 95, some (91, true), .mv (.t 94)⟩,
     ⟨some 96, some (95, false), .faddr 1 (.t 12)⟩,
     ⟨some 97, some (95, false), .load false 1 (.t 96)⟩,
     ⟨some 98, some (95, false), .mv (.t 6)⟩,
     ⟨some 99, some (95, false), .bin .neq (.t 97) (.t 98)⟩,
     ⟨some 100, some (91, true), .pick (.t 95) (.c (.bool true)) (.t 99)⟩,
     ⟨some 101, none, .pick (.t 91) (.t 100) (.c (.bool false))⟩,
     ⟨some 102, none, .mv (.t 101)⟩,
     ⟨some 103, some (102, false), .mv (.t 10)⟩,
     ⟨some 104, some (102, false), .mv (.t 5)⟩,
     ⟨some 105, some (102, false), .bin .neq (.t 103) (.t 104)⟩,
     ⟨some 106, some (102, false), .mv (.t 105)⟩,
     ⟨some 107, some (106, true), .load true 2 (.t 11)⟩,
     ⟨some 108, some (106, true), .load true 2 (.t 12)⟩,
     ⟨some 109, some (106, true), .aeq true 2 (.t 107) (.t 108)⟩,
     ⟨some 110, some (102, false), .pick (.t 106) (.t 109) (.c (.bool false))⟩,
     ⟨some 111, none, .pick (.t 102) (.c (.bool true)) (.t 110)⟩])
   (.cond (.t 111)
    (.seq (.ops [⟨some 2, none, .mv (.c (.bool false))⟩])
    (.ret))
    (.skip))))))
  (.ops [⟨some 75, none, .mv (.t 10)⟩,
    ⟨some 76, none, .bin .add (.t 75) (.c (.int .i64 1))⟩,
    ⟨some 10, none, .mv (.t 76)⟩]))
def v18 : VF := ⟨1, 166, [.t 2], true,
  .seq (.ops [⟨some 2, none, .mv (.c (.bool false))⟩])
  (.seq (.seq (.ops [⟨some 14, none, .mv (.t 0)⟩,
    ⟨some 15, none, .call 38 [.t 14]⟩])
  (.cond (.t 15)
   (.seq (.ops [⟨some 2, none, .mv (.c (.bool true))⟩])
   (.ret))
   (.skip)))
  (.seq (.ops [⟨some 17, none, .mv (.t 0)⟩,
    ⟨some 18, none, .call 72 [.t 17]⟩,
    ⟨some 16, none, .mv (.t 18)⟩,
    ⟨some 19, none, .ext 0 (.t 16)⟩,
    ⟨some 20, none, .ext 1 (.t 16)⟩,
    ⟨some 21, none, .ext 2 (.t 16)⟩,
    ⟨some 22, none, .ext 3 (.t 16)⟩,
    ⟨some 3, none, .new [.slice none 0 0, .slice none 0 0]⟩,
    ⟨none, none, .store 2 (.t 3) (.t 19)⟩,
    ⟨some 4, none, .mv (.t 20)⟩,
    ⟨some 5, none, .mv (.t 21)⟩,
    ⟨some 6, none, .mv (.t 22)⟩])
  (.seq (.ops [⟨some 23, none, .load true 2 (.t 3)⟩,
    ⟨some 24, none, .mv (.t 4)⟩,
    ⟨some 25, none, .call 65 [.t 23, .t 24]⟩,
    ⟨some 7, none, .new [.int .i64 0, .int .i64 0, .slice none 0 0, .slice none 0 0]⟩,
    ⟨none, none, .store 4 (.t 7) (.t 25)⟩])
  (.seq (.seq (.ops [⟨some 26, none, .faddr 0 (.t 7)⟩,
    ⟨some 27, none, .load false 1 (.t 26)⟩,
    ⟨some 28, none, .bin .neq (.t 27) (.c (.int .i64 0))⟩])
  (.cond (.t 28)
   (.seq (.draw [⟨some 29, none, .load true 2 (.t 3)⟩,
     ⟨some 30, none, .mv (.t 4)⟩,
     ⟨some 31, none, .call 64 [.t 29, .t 30]⟩,
     ⟨some 32, none, .field false 0 1 (.t 31)⟩,
     ⟨some 33, none, .faddr 0 (.t 7)⟩,
     ⟨some 34, none, .load false 1 (.t 33)⟩,
     ⟨some 35, none, .bin .eql (.t 32) (.t 34)⟩,
     ⟨some 36, none, .mv (.t 35)⟩,
     ⟨some 37, some (36, true), .load true 2 (.t 3)⟩,
     ⟨some 38, some (36, true), .mv (.t 4)⟩,
     ⟨some 39, some (36, true), .mv (.t 5)⟩,
     ⟨some 40, some (36, true), .mv (.t 6)⟩,
     ⟨some 41, some (36, true), .call 71 [.t 37, .t 38, .t 39, .t 40]⟩,
     ⟨some 42, some (36, true), .field false 0 1 (.t 41)⟩,
     ⟨some 43, some (36, true), .load true 2 (.t 3)⟩,
     ⟨some 44, some (36, true), .mv (.t 4)⟩,
     ⟨some 45, some (36, true), .mv (.t 5)⟩,
     ⟨some 46, some (36, true), .mv (.t 6)⟩,
     ⟨some 47, some (36, true), .call 70 [.t 43, .t 44, .t 45, .t 46]⟩,
     ⟨some 48, some (36, true), .field false 0 1 (.t 47)⟩] [⟨some 49, some (36, true), .bin .eql (.t 42) (.t 48)⟩,
     ⟨some 50, none, .pick (.t 36) (.t 49) (.c (.bool false))⟩,
     ⟨some 2, none, .mv (.t 50)⟩])
   (.ret))
   (.skip)))
  (.seq (.ops [⟨some 51, none, .faddr 2 (.t 7)⟩,
    ⟨some 52, none, .load true 2 (.t 51)⟩,
    ⟨some 53, none, .mv (.t 4)⟩,
    ⟨some 54, none, .mv (.t 5)⟩,
    ⟨some 55, none, .mv (.t 6)⟩,
    ⟨some 56, none, .call 71 [.t 52, .t 53, .t 54, .t 55]⟩,
    ⟨some 8, none, .new [.int .i64 0, .int .i64 0, .slice none 0 0, .slice none 0 0]⟩,
    ⟨none, none, .store 4 (.t 8) (.t 56)⟩])
  (.seq (.seq (.ops [⟨some 57, none, .faddr 0 (.t 8)⟩,
    ⟨some 58, none, .load false 1 (.t 57)⟩,
    ⟨some 59, none, .bin .neq (.t 58) (.c (.int .i64 0))⟩])
  (.cond (.t 59)
   (.seq (.draw [⟨some 60, none, .faddr 2 (.t 7)⟩,
     ⟨some 61, none, .load true 2 (.t 60)⟩,
     ⟨some 62, none, .mv (.t 4)⟩,
     ⟨some 63, none, .mv (.t 5)⟩,
     ⟨some 64, none, .mv (.t 6)⟩,
     ⟨some 65, none, .call 70 [.t 61, .t 62, .t 63, .t 64]⟩,
     ⟨some 66, none, .field false 0 1 (.t 65)⟩,
     ⟨some 67, none, .faddr 0 (.t 8)⟩,
     ⟨some 68, none, .load false 1 (.t 67)⟩] [⟨some 69, none, .bin .eql (.t 66) (.t 68)⟩,
     ⟨some 2, none, .mv (.t 69)⟩])
   (.ret))
   (.skip)))
  (.seq (.ops [⟨some 70, none, .load true 2 (.t 3)⟩,
    ⟨some 71, none, .mv (.t 4)⟩,
    ⟨some 72, none, .call 59 [.t 70, .t 71]⟩,
    ⟨some 9, none, .new [.int .i64 0, .slice none 0 0]⟩,
    ⟨none, none, .store 2 (.t 9) (.t 72)⟩])
  (.seq (.seq (.ops [⟨some 10, none, .mv (.c (.int .i64 0))⟩])
  (.block 0 (.loop [3, 4, 5, 6, 7, 8, 9, 10] [2, 3, 4, 8, 9] l18_0)))
  (.seq (.ops [⟨some 112, none, .faddr 2 (.t 8)⟩,
    ⟨some 113, none, .load true 2 (.t 112)⟩,
    ⟨some 114, none, .faddr 1 (.t 8)⟩,
    ⟨some 115, none, .load false 1 (.t 114)⟩,
    ⟨some 116, none, .call 67 [.t 113, .t 115]⟩,
    ⟨some 13, none, .new [.int .i64 0, .int .i64 0, .slice none 0 0, .slice none 0 0]⟩,
    ⟨none, none, .store 4 (.t 13) (.t 116)⟩])
  (.seq (.draw [⟨some 117, none, .faddr 2 (.t 8)⟩,
    ⟨some 118, none, .load true 2 (.t 117)⟩,
    ⟨some 119, none, .call 54 [.t 118]⟩,
    ⟨some 120, none, .bin .eql (.t 119) (.c (.int .i64 0))⟩,
    ⟨some 121, none, .mv (.t 120)⟩,
    ⟨some 122, some (121, true), .faddr 0 (.t 9)⟩,
    ⟨some 123, some (121, true), .load false 1 (.t 122)⟩,
    ⟨some 124, some (121, true), .bin .eql (.t 123) (.c (.int .i64 0))⟩,
    ⟨some 125, none, .pick (.t 121) (.t 124) (.c (.bool false))⟩,
    ⟨some 126, none, .mv (.t 125)⟩,
    ⟨some 127, some (126, true), .faddr 2 (.t 8)⟩,
    ⟨some 128, some (126, true), .load true 2 (.t 127)⟩,
    ⟨some 129, some (126, true), .mv (.t 4)⟩,
    ⟨some 130, some (126, true), .call 59 [.t 128, .t 129]⟩,
    ⟨some 131, some (126, true), .field false 1 1 (.t 130)⟩,
    ⟨some 132, some (126, true), .faddr 1 (.t 9)⟩,
    ⟨some 133, some (126, true), .load false 1 (.t 132)⟩,
    ⟨some 134, some (126, true), .call 73 [.t 131, .t 133]⟩,
    ⟨some 135, none, .pick (.t 126) (.t 134) (.c (.bool false))⟩,
    ⟨some 136, none, .mv (.t 135)⟩,
    ⟨some 137, some (136, true), .faddr 0 (.t 13)⟩,
    ⟨some 138, some (136, true), .load false 1 (.t 137)⟩,
    ⟨some 139, some (136, true), .bin .eql (.t 138) (.c (.int .i64 0))⟩,
    ⟨some 140, none, .pick (.t 136) (.t 139) (.c (.bool false))⟩,
    ⟨some 141, none, .mv (.t 140)⟩,
    ⟨some 142, some (141, true), .faddr 2 (.t 13)⟩,
    ⟨some 143, some (141, true), .load true 2 (.t 142)⟩,
    ⟨some 144, some (141, true), .call 54 [.t 143]⟩,
    ⟨some 145, some (141, true), .bin .eql (.t 144) (.c (.int .i64 0))⟩,
    ⟨some 146, none, .pick (.t 141) (.t 145) (.c (.bool false))⟩,
    ⟨some 147, none, .mv (.t 146)⟩,
    ⟨some 148, some (147, true), .faddr 2 (.t 13)⟩,
    ⟨some 149, some (147, true), .load true 2 (.t 148)⟩,
    ⟨some 150, some (147, true), .mv (.t 4)⟩,
    ⟨some 151, some (147, true), .call 59 [.t 149, .t 150]⟩,
    ⟨some 152, some (147, true), .field false 1 1 (.t 151)⟩,
    ⟨some 153, some (147, true), .faddr 1 (.t 9)⟩,
    ⟨some 154, some (147, true), .load false 1 (.t 153)⟩,
    ⟨some 155, some (147, true), .call 73 [.t 152, .t 154]⟩,
    ⟨some 156, none, .pick (.t 147) (.t 155) (.c (.bool false))⟩,
    ⟨some 157, none, .mv (.t 156)⟩,
    ⟨some 158, some (157, true), .faddr 1 (.t 9)⟩,
    ⟨some 159, some (157, true), .load false 1 (.t 158)⟩,
    ⟨some 160, some (157, true), .load true 2 (.t 3)⟩,
    ⟨some 161, some (157, true), .mv (.t 4)⟩,
    ⟨some 162, some (157, true), .call 58 [.t 160, .t 161]⟩,
    ⟨some 163, some (157, true), .field false 1 1 (.t 162)⟩] [⟨some 164, some (157, true), .call 73 [.t 159, .t 163]⟩,
    ⟨some 165, none, .pick (.t 157) (.t 164) (.c (.bool false))⟩,
    ⟨some 2, none, .mv (.t 165)⟩])
  (.ret)))))))))))⟩
theorem ok18 : FnOK Try.prog 18 v18 := ⟨⟨Try.f18, _, Try.func18, rfl, by kernel_rfl, rfl, by decide, by kernel_rfl, by kernel_rfl⟩⟩

/-- laws.FnClears -/
def l19_0 : VC :=
  .seq (.seq (.ops [⟨some 33, none, .mv (.t 7)⟩,
    ⟨some 34, none, .bin .lss (.t 33) (.c (.int .i64 16))⟩])
  (.cond (.t 34)
   (.skip)
   (.exit 0)))
  (.seq (.block 1 (.seq (.ops [⟨some 37, none, .faddr 2 (.t 6)⟩,
     ⟨some 38, none, .load true 2 (.t 37)⟩,
     ⟨some 39, none, .faddr 1 (.t 6)⟩,
     ⟨some 40, none, .load false 1 (.t 39)⟩,
     ⟨some 41, none, .mv (.t 7)⟩,
     ⟨some 42, none, .call 57 [.t 38, .t 40, .t 41]⟩,
     ⟨some 8, none, .new [.int .i64 0, .int .i64 0]⟩,
     ⟨none, none, .store 2 (.t 8) (.t 42)⟩])
   (.seq (.draw [⟨some 43, none, .mv (.t 7)⟩,
     ⟨some 44, none, .mv (.t 5)⟩,
     ⟨some 45, none, .bin .eql (.t 43) (.t 44)⟩,
     ⟨some 46, none, .mv (.t 45)⟩,
     ⟨some 47, some (46, true), .faddr 0 (.t 8)⟩,
     ⟨some 48, some (46, true), .load false 1 (.t 47)⟩,
     ⟨some 49, some (46, true), .bin .neq (.t 48) (.c (.int .i64 4))⟩,
     ⟨some 50, none, .pick (.t 46) (.t 49) (.c (.bool false))⟩,
     ⟨some 51, none, .mv (.t 50)⟩,
     ⟨some 52, some (51, false), .mv (.t 7)⟩,
     ⟨some 53, some (51, false), .mv (.t 5)⟩,
     ⟨some 54, some (51, false), .bin .neq (.t 52) (.t 53)⟩,
     ⟨some 55, some (51, false), .mv (.t 54)⟩,
     ⟨some 56, some (55, true), .load true 2 (.t 8)⟩,
     ⟨some 57, some (55, true), .load true 2 (.t 3)⟩,
     ⟨some 58, some (55, true), .mv (.t 4)⟩,
     ⟨some 59, some (55, true), .mv (.t 7)⟩,
     ⟨some 60, some (55, true), .call 57 [.t 57, .t 58, .t 59]⟩] [⟨some 61, some (55, true), .aeq true 2 (.t 56) (.t 60)⟩,
     ⟨some 62, some (51, false), .pick (.t 55) (.t 61) (.c (.bool false))⟩,
     ⟨some 63, none, .pick (.t 51) (.c (.bool true)) (.t 62)⟩])
   (.cond (.t 63)
    (.seq (.ops [⟨some 2, none, .mv (.c (.bool false))⟩])
    (.ret))
    (.skip)))))
  (.ops [⟨some 35, none, .mv (.t 7)⟩,
    ⟨some 36, none, .bin .add (.t 35) (.c (.int .i64 1))⟩,
    ⟨some 7, none, .mv (.t 36)⟩]))
def v19 : VF := ⟨1, 111, [.t 2], true,
  .seq (.ops [⟨some 2, none, .mv (.c (.bool false))⟩])
  (.seq (.seq (.ops [⟨some 10, none, .mv (.t 0)⟩,
    ⟨some 11, none, .call 38 [.t 10]⟩])
  (.cond (.t 11)
   (.seq (.ops [⟨some 2, none, .mv (.c (.bool true))⟩])
   (.ret))
   (.skip)))
  (.seq (.ops [⟨some 13, none, .mv (.t 0)⟩,
    ⟨some 14, none, .call 74 [.t 13]⟩,
    ⟨some 12, none, .mv (.t 14)⟩,
    ⟨some 15, none, .ext 0 (.t 12)⟩,
    ⟨some 16, none, .ext 1 (.t 12)⟩,
    ⟨some 17, none, .ext 2 (.t 12)⟩,
    ⟨some 3, none, .new [.slice none 0 0, .slice none 0 0]⟩,
    ⟨none, none, .store 2 (.t 3) (.t 15)⟩,
    ⟨some 4, none, .mv (.t 16)⟩,
    ⟨some 5, none, .mv (.t 17)⟩])
  (.seq (.ops [⟨some 18, none, .load true 2 (.t 3)⟩,
    ⟨some 19, none, .mv (.t 4)⟩,
    ⟨some 20, none, .mv (.t 5)⟩,
    ⟨some 21, none, .call 69 [.t 18, .t 19, .t 20]⟩,
    ⟨some 6, none, .new [.int .i64 0, .int .i64 0, .slice none 0 0, .slice none 0 0]⟩,
    ⟨none, none, .store 4 (.t 6) (.t 21)⟩])
  (.seq (.seq (.ops [⟨some 22, none, .faddr 0 (.t 6)⟩,
    ⟨some 23, none, .load false 1 (.t 22)⟩,
    ⟨some 24, none, .bin .neq (.t 23) (.c (.int .i64 0))⟩])
  (.cond (.t 24)
   (.seq (.draw [⟨some 25, none, .load true 2 (.t 3)⟩,
     ⟨some 26, none, .mv (.t 4)⟩,
     ⟨some 27, none, .mv (.t 5)⟩,
     ⟨some 28, none, .call 68 [.t 25, .t 26, .t 27]⟩,
     ⟨some 29, none, .field false 0 1 (.t 28)⟩,
     ⟨some 30, none, .faddr 0 (.t 6)⟩,
     ⟨some 31, none, .load false 1 (.t 30)⟩] [⟨some 32, none, .bin .eql (.t 29) (.t 31)⟩,
     ⟨some 2, none, .mv (.t 32)⟩])
   (.ret))
   (.skip)))
  (.seq (.seq (.ops [⟨some 7, none, .mv (.c (.int .i64 0))⟩])
  (.block 0 (.loop [3, 4, 5, 6, 7] [2, 3, 4, 6] l19_0)))
  (.seq (.ops [⟨some 64, none, .faddr 1 (.t 3)⟩,
    ⟨some 65, none, .load false 1 (.t 64)⟩,
    ⟨some 66, none, .len (.t 65)⟩,
    ⟨some 67, none, .call 42 [.t 66]⟩,
    ⟨some 9, none, .new [.int .i64 0, .int .i64 0, .slice none 0 0, .slice none 0 0]⟩,
    ⟨none, none, .store 4 (.t 9) (.t 67)⟩])
  (.seq (.draw [⟨some 68, none, .faddr 2 (.t 6)⟩,
    ⟨some 69, none, .load true 2 (.t 68)⟩,
    ⟨some 70, none, .call 54 [.t 69]⟩,
    ⟨some 71, none, .bin .eql (.t 70) (.c (.int .i64 0))⟩,
    ⟨some 72, none, .mv (.t 71)⟩,
    ⟨some 73, some (72, true), .faddr 0 (.t 9)⟩,
    ⟨some 74, some (72, true), .load false 1 (.t 73)⟩,
    ⟨some 75, some (72, true), .bin .eql (.t 74) (.c (.int .i64 0))⟩,
    ⟨some 76, none, .pick (.t 72) (.t 75) (.c (.bool false))⟩,
    ⟨some 77, none, .mv (.t 76)⟩,
    ⟨some 78, some (77, true), .faddr 2 (.t 9)⟩,
    ⟨some 79, some (77, true), .load true 2 (.t 78)⟩,
    ⟨some 80, some (77, true), .call 54 [.t 79]⟩,
    ⟨some 81, some (77, true), .bin .eql (.t 80) (.c (.int .i64 0))⟩,
    ⟨some 82, none, .pick (.t 77) (.t 81) (.c (.bool false))⟩,
    ⟨some 83, none, .mv (.t 82)⟩,
    ⟨some 84, some (83, true), .faddr 2 (.t 6)⟩,
    ⟨some 85, some (83, true), .faddr 1 (.t 84)⟩,
    ⟨some 86, some (83, true), .load false 1 (.t 85)⟩,
    ⟨some 87, some (83, true), .call 28 [.t 86]⟩,
    ⟨some 88, some (83, true), .field false 1 1 (.t 87)⟩,
    ⟨some 89, some (83, true), .faddr 1 (.t 3)⟩,
    ⟨some 90, some (83, true), .load false 1 (.t 89)⟩,
    ⟨some 91, some (83, true), .call 28 [.t 90]⟩,
    ⟨some 92, some (83, true), .field false 1 1 (.t 91)⟩,
    ⟨some 93, some (83, true), .bin .geq (.t 88) (.t 92)⟩,
    ⟨some 94, none, .pick (.t 83) (.t 93) (.c (.bool false))⟩,
    ⟨some 95, none, .mv (.t 94)⟩,
    ⟨some 96, some (95, true), .faddr 2 (.t 6)⟩,
    ⟨some 97, some (95, true), .load true 2 (.t 96)⟩,
    ⟨some 98, some (95, true), .faddr 1 (.t 6)⟩,
    ⟨some 99, some (95, true), .load false 1 (.t 98)⟩,
    ⟨some 100, some (95, true), .call 59 [.t 97, .t 99]⟩,
    ⟨some 101, some (95, true), .field false 1 1 (.t 100)⟩,
    ⟨some 102, some (95, true), .len (.t 101)⟩,
    ⟨some 103, some (95, true), .load true 2 (.t 3)⟩,
    ⟨some 104, some (95, true), .mv (.t 4)⟩,
    ⟨some 105, some (95, true), .call 59 [.t 103, .t 104]⟩,
    ⟨some 106, some (95, true), .field false 1 1 (.t 105)⟩,
    ⟨some 107, some (95, true), .len (.t 106)⟩,
    ⟨some 108, some (95, true), .bin .sub (.t 107) (.c (.int .i64 2))⟩] [⟨some 109, some (95, true), .bin .eql (.t 102) (.t 108)⟩,
    ⟨some 110, none, .pick (.t 95) (.t 109) (.c (.bool false))⟩,
    ⟨some 2, none, .mv (.t 110)⟩])
  (.ret))))))))⟩
theorem ok19 : FnOK Try.prog 19 v19 := ⟨⟨Try.f19, _, Try.func19, rfl, by kernel_rfl, rfl, by decide, by kernel_rfl, by kernel_rfl⟩⟩

/-- spec.NewBlocks -/
def v20 : VF := ⟨1, 10, [.cell 2 true 3], true,
  .seq (.ops [⟨some 2, none, .new [.int .i64 0, .int .i64 0, .slice none 0 0]⟩])
  (.seq (.seq (.ops [⟨some 3, none, .mv (.t 0)⟩,
    ⟨some 4, none, .call 75 [.t 3, .c (.int .i64 0), .c (.int .i64 24)]⟩,
    ⟨some 5, none, .not (.t 4)⟩])
  (.cond (.t 5)
   (.seq (.ops [⟨some 6, none, .call 76 [.c (.int .i64 3)]⟩,
     ⟨none, none, .store 3 (.t 2) (.t 6)⟩])
   (.ret))
   (.skip)))
  (.seq (.ops [⟨some 7, none, .mv (.t 0)⟩,
    ⟨some 8, none, .mkslice 2 16 [.int .i64 0, .int .i64 0] (.t 7) (.t 7)⟩,
    ⟨some 9, none, .build [.int .i64 0, .int .i64 0, .slice none 0 0] [(2, 1, .t 8)]⟩,
    ⟨none, none, .store 3 (.t 2) (.t 9)⟩])
  (.ret)))⟩
theorem ok20 : FnOK Try.prog 20 v20 := ⟨⟨Try.f20, _, Try.func20, rfl, by kernel_rfl, rfl, by decide, by kernel_rfl, by kernel_rfl⟩⟩

/-- impl.NewBlocks -/
def v21 : VF := ⟨1, 10, [.cell 2 true 3], true,
  .seq (.ops [⟨some 2, none, .new [.int .i64 0, .int .i64 0, .slice none 0 0]⟩])
  (.seq (.seq (.ops [⟨some 3, none, .mv (.t 0)⟩,
    ⟨some 4, none, .call 77 [.t 3, .c (.int .i64 0), .c (.int .i64 24)]⟩,
    ⟨some 5, none, .not (.t 4)⟩])
  (.cond (.t 5)
   (.seq (.ops [⟨some 6, none, .build [.int .i64 0, .int .i64 0, .slice none 0 0] [(0, 1, .c (.int .i64 3))]⟩,
     ⟨none, none, .store 3 (.t 2) (.t 6)⟩])
   (.ret))
   (.skip)))
  (.seq (.ops [⟨some 7, none, .mv (.t 0)⟩,
    ⟨some 8, none, .mkslice 2 16 [.int .i64 0, .int .i64 0] (.t 7) (.t 7)⟩,
    ⟨some 9, none, .build [.int .i64 0, .int .i64 0, .slice none 0 0] [(2, 1, .t 8)]⟩,
    ⟨none, none, .store 3 (.t 2) (.t 9)⟩])
  (.ret)))⟩
theorem ok21 : FnOK Try.prog 21 v21 := ⟨⟨Try.f21, _, Try.func21, rfl, by kernel_rfl, rfl, by decide, by kernel_rfl, by kernel_rfl⟩⟩

/-- impl.FreeOf -/
def l28_0 : VC :=
  .seq (.ops [⟨some 16, none, .bin .lss (.t 15) (.t 14)⟩])
  (.seq (.cond (.t 16)
   (.skip)
   (.exit 0))
  (.seq (.block 1 (.seq (.ops [⟨some 17, none, .iaddr 2 (.t 13) (.t 15)⟩,
     ⟨some 18, none, .load true 2 (.t 17)⟩,
     ⟨some 6, none, .new [.int .i64 0, .int .i64 0]⟩,
     ⟨none, none, .store 2 (.t 6) (.t 18)⟩])
   (.seq (.ops [⟨some 19, none, .faddr 0 (.t 6)⟩,
     ⟨some 20, none, .load false 1 (.t 19)⟩,
     ⟨some 21, none, .bin .eql (.t 20) (.c (.int .i64 0))⟩])
   (.cond (.t 21)
    (.ops [⟨some 22, none, .mv (.t 4)⟩,
      ⟨some 23, none, .bin .add (.t 22) (.c (.int .i64 1))⟩,
      ⟨some 4, none, .mv (.t 23)⟩])
    (.skip)))))
  (.ops [⟨some 24, none, .bin .add (.t 15) (.c (.int .i64 1))⟩,
    ⟨some 15, none, .mv (.t 24)⟩])))
def v28 : VF := ⟨1, 27, [.cell 2 true 2], true,
  .seq (.ops [⟨some 2, none, .new [.int .i64 0, .int .i64 0]⟩])
  (.seq (.seq (.ops [⟨some 7, none, .mv (.t 0)⟩,
    ⟨some 8, none, .call 40 [.t 7]⟩,
    ⟨some 3, none, .mv (.t 8)⟩])
  (.seq (.ops [⟨some 9, none, .mv (.t 3)⟩,
    ⟨some 10, none, .bin .neq (.t 9) (.c (.int .i64 0))⟩])
  (.cond (.t 10)
   (.seq (.ops [⟨some 11, none, .mv (.t 3)⟩,
     ⟨some 12, none, .build [.int .i64 0, .int .i64 0] [(0, 1, .t 11)]⟩,
     ⟨none, none, .store 2 (.t 2) (.t 12)⟩])
   (.ret))
   (.skip))))
  (.seq (.ops [⟨some 4, none, .mv (.c (.int .i64 0))⟩])
  (.seq (.seq (.ops [⟨some 13, none, .mv (.t 0)⟩,
    ⟨some 14, none, .len (.t 13)⟩,
    ⟨some 15, none, .mv (.c (.int .i64 0))⟩])
  (.block 0 (.loop [2, 4, 13, 14, 15] [2, 4] l28_0)))
  (.seq (.ops [⟨some 25, none, .mv (.t 4)⟩,
    ⟨some 26, none, .build [.int .i64 0, .int .i64 0] [(1, 1, .t 25)]⟩,
    ⟨none, none, .store 2 (.t 2) (.t 26)⟩])
  (.ret)))))⟩
theorem ok28 : FnOK Try.prog 28 v28 := ⟨⟨Try.f28, _, Try.func28, rfl, by kernel_rfl, rfl, by decide, by kernel_rfl, by kernel_rfl⟩⟩

/-- impl.ShareBlock -/
def v32 : VF := ⟨2, 8, [.cell 4 true 3], true,
  .seq (.ops [⟨some 4, none, .new [.int .i64 0, .int .i64 0, .slice none 0 0]⟩])
  (.seq (.ops [⟨some 5, none, .mv (.t 0)⟩,
    ⟨some 6, none, .mv (.t 1)⟩,
    ⟨some 7, none, .call 84 [.t 5, .t 6, .c (.func (.func 85) #[] #[])]⟩,
    ⟨none, none, .store 3 (.t 4) (.t 7)⟩])
  (.ret))⟩
theorem ok32 : FnOK Try.prog 32 v32 := ⟨⟨Try.f32, _, Try.func32, rfl, by kernel_rfl, rfl, by decide, by kernel_rfl, by kernel_rfl⟩⟩

/-- impl.DropBlock -/
def v35 : VF := ⟨2, 8, [.cell 4 true 3], true,
  .seq (.ops [⟨some 4, none, .new [.int .i64 0, .int .i64 0, .slice none 0 0]⟩])
  (.seq (.ops [⟨some 5, none, .mv (.t 0)⟩,
    ⟨some 6, none, .mv (.t 1)⟩,
    ⟨some 7, none, .call 84 [.t 5, .t 6, .c (.func (.func 87) #[] #[])]⟩,
    ⟨none, none, .store 3 (.t 4) (.t 7)⟩])
  (.ret))⟩
theorem ok35 : FnOK Try.prog 35 v35 := ⟨⟨Try.f35, _, Try.func35, rfl, by kernel_rfl, rfl, by decide, by kernel_rfl, by kernel_rfl⟩⟩

/-- spec.TakeBlock -/
def v36 : VF := ⟨2, 34, [.cell 4 true 3], true,
  .seq (.ops [⟨some 4, none, .new [.int .i64 0, .int .i64 0, .slice none 0 0]⟩])
  (.seq (.seq (.ops [⟨some 8, none, .mv (.t 0)⟩,
    ⟨some 9, none, .call 79 [.t 8]⟩,
    ⟨some 5, none, .mv (.t 9)⟩])
  (.seq (.ops [⟨some 10, none, .mv (.t 5)⟩,
    ⟨some 11, none, .bin .neq (.t 10) (.c (.int .i64 0))⟩])
  (.cond (.t 11)
   (.seq (.ops [⟨some 12, none, .mv (.t 5)⟩,
     ⟨some 13, none, .call 76 [.t 12]⟩,
     ⟨none, none, .store 3 (.t 4) (.t 13)⟩])
   (.ret))
   (.skip))))
  (.seq (.seq (.ops [⟨some 14, none, .mv (.t 1)⟩,
    ⟨some 15, none, .call 88 [.t 14]⟩,
    ⟨some 16, none, .not (.t 15)⟩])
  (.cond (.t 16)
   (.seq (.ops [⟨some 17, none, .call 76 [.c (.int .i64 3)]⟩,
     ⟨none, none, .store 3 (.t 4) (.t 17)⟩])
   (.ret))
   (.skip)))
  (.seq (.ops [⟨some 18, none, .mv (.t 0)⟩,
    ⟨some 19, none, .call 89 [.t 18]⟩,
    ⟨some 6, none, .mv (.t 19)⟩])
  (.seq (.seq (.ops [⟨some 20, none, .mv (.t 6)⟩,
    ⟨some 21, none, .bin .lss (.t 20) (.c (.int .i64 0))⟩])
  (.cond (.t 21)
   (.seq (.ops [⟨some 22, none, .call 76 [.c (.int .i64 8)]⟩,
     ⟨none, none, .store 3 (.t 4) (.t 22)⟩])
   (.ret))
   (.skip)))
  (.seq (.ops [⟨some 23, none, .bslice 2 [] 0 []⟩,
    ⟨some 24, none, .mv (.t 0)⟩,
    ⟨some 25, none, .append 2 16 (.t 23) (.t 24)⟩,
    ⟨some 7, none, .mv (.t 25)⟩])
  (.seq (.ops [⟨some 26, none, .mv (.t 7)⟩,
    ⟨some 27, none, .mv (.t 6)⟩,
    ⟨some 28, none, .mv (.t 1)⟩,
    ⟨some 29, none, .build [.int .i64 0, .int .i64 0] [(0, 1, .c (.int .i64 1)), (1, 1, .t 28)]⟩,
    ⟨some 30, none, .iaddr 2 (.t 26) (.t 27)⟩,
    ⟨none, none, .store 2 (.t 30) (.t 29)⟩])
  (.seq (.ops [⟨some 31, none, .mv (.t 6)⟩,
    ⟨some 32, none, .mv (.t 7)⟩,
    ⟨some 33, none, .build [.int .i64 0, .int .i64 0, .slice none 0 0] [(1, 1, .t 31), (2, 1, .t 32)]⟩,
    ⟨none, none, .store 3 (.t 4) (.t 33)⟩])
  (.ret))))))))⟩
theorem ok36 : FnOK Try.prog 36 v36 := ⟨⟨Try.f36, _, Try.func36, rfl, by kernel_rfl, rfl, by decide, by kernel_rfl, by kernel_rfl⟩⟩

/-- impl.TakeBlock -/
def v37 : VF := ⟨2, 36, [.cell 4 true 3], true,
  .seq (.ops [⟨some 4, none, .new [.int .i64 0, .int .i64 0, .slice none 0 0]⟩])
  (.seq (.ops [⟨some 9, none, .mv (.t 0)⟩,
    ⟨some 10, none, .call 40 [.t 9]⟩,
    ⟨some 5, none, .mv (.t 10)⟩])
  (.seq (.block 0 (.seq (.ops [⟨some 12, none, .mv (.t 5)⟩,
     ⟨some 13, none, .bin .neq (.t 12) (.c (.int .i64 0))⟩,
     ⟨some 11, none, .mv (.t 13)⟩])
   (.cond (.t 11)
    (.seq (.ops [⟨some 14, none, .mv (.t 5)⟩,
      ⟨some 15, none, .build [.int .i64 0, .int .i64 0, .slice none 0 0] [(0, 1, .t 14)]⟩,
      ⟨none, none, .store 3 (.t 4) (.t 15)⟩])
    (.ret))
    (.seq (.ops [⟨some 17, none, .mv (.t 1)⟩,
      ⟨some 18, none, .call 90 [.t 17]⟩,
      ⟨some 19, none, .not (.t 18)⟩,
      ⟨some 16, none, .mv (.t 19)⟩])
    (.cond (.t 16)
     (.seq (.ops [⟨some 20, none, .build [.int .i64 0, .int .i64 0, .slice none 0 0] [(0, 1, .c (.int .i64 3))]⟩,
       ⟨none, none, .store 3 (.t 4) (.t 20)⟩])
     (.ret))
     (.skip))))))
  (.seq (.ops [⟨some 21, none, .mv (.t 0)⟩,
    ⟨some 22, none, .call 91 [.t 21]⟩,
    ⟨some 6, none, .mv (.t 22)⟩])
  (.seq (.ops [⟨some 24, none, .mv (.t 6)⟩,
    ⟨some 25, none, .mv (.t 1)⟩,
    ⟨some 26, none, .call 92 [.t 24, .t 25]⟩,
    ⟨some 23, none, .mv (.t 26)⟩,
    ⟨some 27, none, .ext 0 (.t 23)⟩,
    ⟨some 28, none, .ext 1 (.t 23)⟩,
    ⟨some 7, none, .mv (.t 27)⟩,
    ⟨some 8, none, .mv (.t 28)⟩])
  (.seq (.seq (.ops [⟨some 29, none, .mv (.t 8)⟩,
    ⟨some 30, none, .bin .neq (.t 29) (.c (.int .i64 0))⟩])
  (.cond (.t 30)
   (.seq (.ops [⟨some 31, none, .mv (.t 8)⟩,
     ⟨some 32, none, .build [.int .i64 0, .int .i64 0, .slice none 0 0] [(0, 1, .t 31)]⟩,
     ⟨none, none, .store 3 (.t 4) (.t 32)⟩])
   (.ret))
   (.skip)))
  (.seq (.ops [⟨some 33, none, .mv (.t 7)⟩,
    ⟨some 34, none, .mv (.t 6)⟩,
    ⟨some 35, none, .build [.int .i64 0, .int .i64 0, .slice none 0 0] [(1, 1, .t 33), (2, 1, .t 34)]⟩,
    ⟨none, none, .store 3 (.t 4) (.t 35)⟩])
  (.ret)))))))⟩
theorem ok37 : FnOK Try.prog 37 v37 := ⟨⟨Try.f37, _, Try.func37, rfl, by kernel_rfl, rfl, by decide, by kernel_rfl, by kernel_rfl⟩⟩

/-- laws.lwBig -/
def v38 : VF := ⟨1, 6, [.t 2], true,
  .seq (.ops [⟨some 2, none, .mv (.c (.bool false))⟩])
  (.seq (.ops [⟨some 3, none, .mv (.t 0)⟩,
    ⟨some 4, none, .len (.t 3)⟩,
    ⟨some 5, none, .bin .gtr (.t 4) (.c (.int .i64 1048576))⟩,
    ⟨some 2, none, .mv (.t 5)⟩])
  (.ret))⟩
theorem ok38 : FnOK Try.prog 38 v38 := ⟨⟨Try.f38, _, Try.func38, rfl, by kernel_rfl, rfl, by decide, by kernel_rfl, by kernel_rfl⟩⟩

/-- spec.DrawTakeBlock -/
def v39 : VF := ⟨1, 18, [.t 2, .t 3], true,
  .seq (.ops [⟨some 2, none, .mv (.c (.slice none 0 0))⟩,
    ⟨some 3, none, .mv (.c (.int .i64 0))⟩])
  (.seq (.ops [⟨some 6, none, .mv (.t 0)⟩,
    ⟨some 7, none, .call 93 [.t 6]⟩,
    ⟨some 4, none, .mv (.t 7)⟩])
  (.seq (.ops [⟨some 8, none, .mv (.t 4)⟩,
    ⟨some 9, none, .call 94 [.t 8]⟩,
    ⟨some 5, none, .mv (.t 9)⟩])
  (.seq (.ops [⟨some 10, none, .mv (.t 5)⟩,
    ⟨some 11, none, .mv (.t 4)⟩,
    ⟨some 12, none, .mv (.t 4)⟩,
    ⟨some 13, none, .call 96 [.t 12, .c (.int .i64 256)]⟩,
    ⟨some 14, none, .mv (.t 4)⟩,
    ⟨some 15, none, .call 96 [.t 14, .c (.int .i64 256)]⟩,
    ⟨some 16, none, .bslice 1 [.int .i64 0, .int .i64 0, .int .i64 0, .int .i64 0] 4 [(0, 1, .t 13), (1, 1, .t 15), (2, 1, .c (.int .i64 256)), (3, 1, .c (.int .i64 (-1)))]⟩,
    ⟨some 17, none, .call 95 [.t 11, .t 16]⟩,
    ⟨some 2, none, .mv (.t 10)⟩,
    ⟨some 3, none, .mv (.t 17)⟩])
  (.ret))))⟩
theorem ok39 : FnOK Try.prog 39 v39 := ⟨⟨Try.f39, _, Try.func39, rfl, by kernel_rfl, rfl, by decide, by kernel_rfl, by kernel_rfl⟩⟩

/-- impl.BlocksFault -/
def l40_0 : VC :=
  .seq (.ops [⟨some 11, none, .bin .lss (.t 10) (.t 9)⟩])
  (.seq (.cond (.t 11)
   (.skip)
   (.exit 0))
  (.seq (.block 1 (.seq (.ops [⟨some 12, none, .iaddr 2 (.t 8) (.t 10)⟩,
     ⟨some 13, none, .load true 2 (.t 12)⟩,
     ⟨some 4, none, .new [.int .i64 0, .int .i64 0]⟩,
     ⟨none, none, .store 2 (.t 4) (.t 13)⟩])
   (.block 2 (.seq (.ops [⟨some 15, none, .faddr 0 (.t 4)⟩,
      ⟨some 16, none, .load false 1 (.t 15)⟩,
      ⟨some 17, none, .call 97 [.t 16]⟩,
      ⟨some 18, none, .not (.t 17)⟩,
      ⟨some 19, none, .mv (.t 18)⟩,
      ⟨some 20, some (19, false), .faddr 1 (.t 4)⟩,
      ⟨some 21, some (19, false), .load false 1 (.t 20)⟩,
      ⟨some 22, some (19, false), .call 90 [.t 21]⟩,
      ⟨some 23, some (19, false), .not (.t 22)⟩,
      ⟨some 24, none, .pick (.t 19) (.c (.bool true)) (.t 23)⟩,
      ⟨some 14, none, .mv (.t 24)⟩])
    (.cond (.t 14)
     (.seq (.ops [⟨some 2, none, .mv (.c (.int .i64 3))⟩])
     (.ret))
     (.seq (.ops [⟨some 26, none, .faddr 0 (.t 4)⟩,
       ⟨some 27, none, .load false 1 (.t 26)⟩,
       ⟨some 28, none, .bin .eql (.t 27) (.c (.int .i64 0))⟩,
       ⟨some 29, none, .mv (.t 28)⟩,
       ⟨some 30, some (29, true), .faddr 1 (.t 4)⟩,
       ⟨some 31, some (29, true), .load false 1 (.t 30)⟩,
       ⟨some 32, some (29, true), .bin .neq (.t 31) (.c (.int .i64 0))⟩,
       ⟨some 33, none, .pick (.t 29) (.t 32) (.c (.bool false))⟩,
       ⟨some 25, none, .mv (.t 33)⟩])
     (.cond (.t 25)
      (.seq (.ops [⟨some 2, none, .mv (.c (.int .i64 1))⟩])
      (.ret))
      (.skip))))))))
  (.ops [⟨some 34, none, .bin .add (.t 10) (.c (.int .i64 1))⟩,
    ⟨some 10, none, .mv (.t 34)⟩])))
def v40 : VF := ⟨1, 35, [.t 2], true,
  .seq (.ops [⟨some 2, none, .mv (.c (.int .i64 0))⟩])
  (.seq (.seq (.ops [⟨some 5, none, .mv (.t 0)⟩,
    ⟨some 6, none, .len (.t 5)⟩,
    ⟨some 7, none, .bin .gtr (.t 6) (.c (.int .i64 24))⟩])
  (.cond (.t 7)
   (.seq (.ops [⟨some 2, none, .mv (.c (.int .i64 2))⟩])
   (.ret))
   (.skip)))
  (.seq (.seq (.ops [⟨some 8, none, .mv (.t 0)⟩,
    ⟨some 9, none, .len (.t 8)⟩,
    ⟨some 10, none, .mv (.c (.int .i64 0))⟩])
  (.block 0 (.loop [8, 9, 10] [2] l40_0)))
  (.seq (.ops [⟨some 2, none, .mv (.c (.int .i64 0))⟩])
  (.ret))))⟩
theorem ok40 : FnOK Try.prog 40 v40 := ⟨⟨Try.f40, _, Try.func40, rfl, by kernel_rfl, rfl, by decide, by kernel_rfl, by kernel_rfl⟩⟩

/-- spec.NewForest -/
def v41 : VF := ⟨1, 16, [.cell 2 true 4], true,
  .seq (.ops [⟨some 2, none, .new [.int .i64 0, .int .i64 0, .slice none 0 0, .slice none 0 0]⟩])
  (.seq (.ops [⟨some 4, none, .mv (.t 0)⟩,
    ⟨some 5, none, .call 20 [.t 4]⟩,
    ⟨some 3, none, .new [.int .i64 0, .int .i64 0, .slice none 0 0]⟩,
    ⟨none, none, .store 3 (.t 3) (.t 5)⟩])
  (.seq (.seq (.ops [⟨some 6, none, .faddr 0 (.t 3)⟩,
    ⟨some 7, none, .load false 1 (.t 6)⟩,
    ⟨some 8, none, .bin .neq (.t 7) (.c (.int .i64 0))⟩])
  (.cond (.t 8)
   (.seq (.ops [⟨some 9, none, .faddr 0 (.t 3)⟩,
     ⟨some 10, none, .load false 1 (.t 9)⟩,
     ⟨some 11, none, .call 98 [.t 10]⟩,
     ⟨none, none, .store 4 (.t 2) (.t 11)⟩])
   (.ret))
   (.skip)))
  (.seq (.ops [⟨some 12, none, .faddr 2 (.t 3)⟩,
    ⟨some 13, none, .load false 1 (.t 12)⟩,
    ⟨some 14, none, .build [.slice none 0 0, .slice none 0 0] [(1, 1, .t 13)]⟩,
    ⟨some 15, none, .build [.int .i64 0, .int .i64 0, .slice none 0 0, .slice none 0 0] [(1, 1, .c (.int .i64 (-1))), (2, 2, .t 14)]⟩,
    ⟨none, none, .store 4 (.t 2) (.t 15)⟩])
  (.ret))))⟩
theorem ok41 : FnOK Try.prog 41 v41 := ⟨⟨Try.f41, _, Try.func41, rfl, by kernel_rfl, rfl, by decide, by kernel_rfl, by kernel_rfl⟩⟩

/-- impl.NewForest -/
def v42 : VF := ⟨1, 16, [.cell 2 true 4], true,
  .seq (.ops [⟨some 2, none, .new [.int .i64 0, .int .i64 0, .slice none 0 0, .slice none 0 0]⟩])
  (.seq (.ops [⟨some 4, none, .mv (.t 0)⟩,
    ⟨some 5, none, .call 21 [.t 4]⟩,
    ⟨some 3, none, .new [.int .i64 0, .int .i64 0, .slice none 0 0]⟩,
    ⟨none, none, .store 3 (.t 3) (.t 5)⟩])
  (.seq (.seq (.ops [⟨some 6, none, .faddr 0 (.t 3)⟩,
    ⟨some 7, none, .load false 1 (.t 6)⟩,
    ⟨some 8, none, .bin .neq (.t 7) (.c (.int .i64 0))⟩])
  (.cond (.t 8)
   (.seq (.ops [⟨some 9, none, .faddr 0 (.t 3)⟩,
     ⟨some 10, none, .load false 1 (.t 9)⟩,
     ⟨some 11, none, .build [.int .i64 0, .int .i64 0, .slice none 0 0, .slice none 0 0] [(0, 1, .t 10)]⟩,
     ⟨none, none, .store 4 (.t 2) (.t 11)⟩])
   (.ret))
   (.skip)))
  (.seq (.ops [⟨some 12, none, .faddr 2 (.t 3)⟩,
    ⟨some 13, none, .load false 1 (.t 12)⟩,
    ⟨some 14, none, .build [.slice none 0 0, .slice none 0 0] [(1, 1, .t 13)]⟩,
    ⟨some 15, none, .build [.int .i64 0, .int .i64 0, .slice none 0 0, .slice none 0 0] [(1, 1, .c (.int .i64 (-1))), (2, 2, .t 14)]⟩,
    ⟨none, none, .store 4 (.t 2) (.t 15)⟩])
  (.ret))))⟩
theorem ok42 : FnOK Try.prog 42 v42 := ⟨⟨Try.f42, _, Try.func42, rfl, by kernel_rfl, rfl, by decide, by kernel_rfl, by kernel_rfl⟩⟩

/-- impl.ForestFault -/
def l54_0 : VC :=
  .seq (.ops [⟨some 24, none, .bin .lss (.t 23) (.t 22)⟩])
  (.seq (.cond (.t 24)
   (.skip)
   (.exit 0))
  (.seq (.block 1 (.seq (.ops [⟨some 25, none, .iaddr 3 (.t 21) (.t 23)⟩,
     ⟨some 26, none, .load true 3 (.t 25)⟩,
     ⟨some 5, none, .new [.int .i64 0, .bool false, .slice none 0 0]⟩,
     ⟨none, none, .store 3 (.t 5) (.t 26)⟩])
   (.block 2 (.seq (.ops [⟨some 28, none, .faddr 0 (.t 5)⟩,
      ⟨some 29, none, .load false 1 (.t 28)⟩,
      ⟨some 30, none, .call 97 [.t 29]⟩,
      ⟨some 31, none, .not (.t 30)⟩,
      ⟨some 27, none, .mv (.t 31)⟩])
    (.cond (.t 27)
     (.seq (.ops [⟨some 2, none, .mv (.c (.int .i64 3))⟩])
     (.ret))
     (.seq (.ops [⟨some 33, none, .faddr 0 (.t 5)⟩,
       ⟨some 34, none, .load false 1 (.t 33)⟩,
       ⟨some 35, none, .bin .eql (.t 34) (.c (.int .i64 0))⟩,
       ⟨some 36, none, .mv (.t 35)⟩,
       ⟨some 37, some (36, true), .faddr 1 (.t 5)⟩,
       ⟨some 38, some (36, true), .load false 1 (.t 37)⟩,
       ⟨some 39, some (36, true), .mv (.t 38)⟩,
       ⟨some 40, some (39, false), .faddr 2 (.t 5)⟩,
       ⟨some 41, some (39, false), .load false 1 (.t 40)⟩,
       ⟨some 42, some (39, false), .len (.t 41)⟩,
       ⟨some 43, some (39, false), .bin .gtr (.t 42) (.c (.int .i64 0))⟩,
       ⟨some 44, some (36, true), .pick (.t 39) (.c (.bool true)) (.t 43)⟩,
       ⟨some 45, none, .pick (.t 36) (.t 44) (.c (.bool false))⟩,
       ⟨some 32, none, .mv (.t 45)⟩])
     (.cond (.t 32)
      (.seq (.ops [⟨some 2, none, .mv (.c (.int .i64 1))⟩])
      (.ret))
      (.seq (.ops [⟨some 47, none, .faddr 0 (.t 5)⟩,
        ⟨some 48, none, .load false 1 (.t 47)⟩,
        ⟨some 49, none, .bin .eql (.t 48) (.c (.int .i64 0))⟩,
        ⟨some 46, none, .mv (.t 49)⟩])
      (.cond (.t 46)
       (.exit 1)
       (.seq (.ops [⟨some 51, none, .faddr 2 (.t 5)⟩,
         ⟨some 52, none, .load false 1 (.t 51)⟩,
         ⟨some 53, none, .len (.t 52)⟩,
         ⟨some 54, none, .bin .neq (.t 53) (.c (.int .i64 4))⟩,
         ⟨some 55, none, .mv (.t 54)⟩,
         ⟨some 56, some (55, false), .faddr 2 (.t 5)⟩,
         ⟨some 57, some (55, false), .load false 1 (.t 56)⟩,
         ⟨some 58, some (55, false), .call 106 [.t 57]⟩,
         ⟨some 59, none, .pick (.t 55) (.c (.bool true)) (.t 58)⟩,
         ⟨some 60, none, .mv (.t 59)⟩,
         ⟨some 61, some (60, false), .faddr 2 (.t 5)⟩,
         ⟨some 62, some (60, false), .load false 1 (.t 61)⟩,
         ⟨some 63, some (60, false), .mkfn 108 [.t 1, .t 5]⟩,
         ⟨some 64, some (60, false), .call 107 [.t 62, .t 63]⟩,
         ⟨some 65, none, .pick (.t 60) (.c (.bool true)) (.t 64)⟩,
         ⟨some 50, none, .mv (.t 65)⟩])
       (.cond (.t 50)
        (.seq (.ops [⟨some 2, none, .mv (.c (.int .i64 1))⟩])
        (.ret))
        (.skip))))))))))))
  (.ops [⟨some 66, none, .bin .add (.t 23) (.c (.int .i64 1))⟩,
    ⟨some 23, none, .mv (.t 66)⟩])))
def l54_1 : VC :=
  .seq (.ops [⟨some 74, none, .bin .lss (.t 73) (.t 72)⟩])
  (.seq (.cond (.t 74)
   (.skip)
   (.exit 3))
  (.seq (.block 4 (.seq (.ops [⟨some 75, none, .mv (.t 73)⟩,
     ⟨some 76, none, .iaddr 1 (.t 71) (.t 73)⟩,
     ⟨some 77, none, .load false 1 (.t 76)⟩,
     ⟨some 6, none, .mv (.t 75)⟩,
     ⟨some 7, none, .mv (.t 77)⟩])
   (.seq (.ops [⟨some 78, none, .faddr 1 (.t 1)⟩,
     ⟨some 79, none, .load false 1 (.t 78)⟩,
     ⟨some 80, none, .mv (.t 6)⟩,
     ⟨some 81, none, .iaddr 2 (.t 79) (.t 80)⟩,
     ⟨some 82, none, .faddr 0 (.t 81)⟩,
     ⟨some 83, none, .load false 1 (.t 82)⟩,
     ⟨some 84, none, .mv (.t 7)⟩,
     ⟨some 85, none, .bin .neq (.t 83) (.t 84)⟩])
   (.cond (.t 85)
    (.seq (.ops [⟨some 2, none, .mv (.c (.int .i64 1))⟩])
    (.ret))
    (.skip)))))
  (.ops [⟨some 86, none, .bin .add (.t 73) (.c (.int .i64 1))⟩,
    ⟨some 73, none, .mv (.t 86)⟩])))
def l54_2 : VC :=
  .seq (.ops [⟨some 94, none, .bin .lss (.t 93) (.t 92)⟩])
  (.seq (.cond (.t 94)
   (.skip)
   (.exit 5))
  (.seq (.block 6 (.seq (.ops [⟨some 95, none, .mv (.t 93)⟩,
     ⟨some 96, none, .iaddr 1 (.t 91) (.t 93)⟩,
     ⟨some 97, none, .load false 1 (.t 96)⟩,
     ⟨some 8, none, .mv (.t 95)⟩,
     ⟨some 9, none, .mv (.t 97)⟩])
   (.seq (.ops [⟨some 98, none, .faddr 0 (.t 1)⟩,
     ⟨some 99, none, .load false 1 (.t 98)⟩,
     ⟨some 100, none, .mv (.t 8)⟩,
     ⟨some 101, none, .iaddr 3 (.t 99) (.t 100)⟩,
     ⟨some 102, none, .faddr 1 (.t 101)⟩,
     ⟨some 103, none, .load false 1 (.t 102)⟩,
     ⟨some 104, none, .mv (.t 103)⟩,
     ⟨some 105, some (104, true), .faddr 0 (.t 1)⟩,
     ⟨some 106, some (104, true), .load false 1 (.t 105)⟩,
     ⟨some 107, some (104, true), .mv (.t 8)⟩,
     ⟨some 108, some (104, true), .iaddr 3 (.t 106) (.t 107)⟩,
     ⟨some 109, some (104, true), .faddr 0 (.t 108)⟩,
     ⟨some 110, some (104, true), .load false 1 (.t 109)⟩,
     ⟨some 111, some (104, true), .mv (.t 9)⟩,
     ⟨some 112, some (104, true), .bin .lss (.t 110) (.t 111)⟩,
     ⟨some 113, none, .pick (.t 104) (.t 112) (.c (.bool false))⟩])
   (.cond (.t 113)
    (.seq (.ops [⟨some 2, none, .mv (.c (.int .i64 1))⟩])
    (.ret))
    (.skip)))))
  (.ops [⟨some 114, none, .bin .add (.t 93) (.c (.int .i64 1))⟩,
    ⟨some 93, none, .mv (.t 114)⟩])))
def v54 : VF := ⟨1, 115, [.t 2], true,
  .seq (.ops [⟨some 1, none, .box (.t 0)⟩,
    ⟨some 2, none, .mv (.c (.int .i64 0))⟩])
  (.seq (.seq (.ops [⟨some 10, none, .faddr 1 (.t 1)⟩,
    ⟨some 11, none, .load false 1 (.t 10)⟩,
    ⟨some 12, none, .call 40 [.t 11]⟩,
    ⟨some 3, none, .mv (.t 12)⟩])
  (.seq (.ops [⟨some 13, none, .mv (.t 3)⟩,
    ⟨some 14, none, .bin .neq (.t 13) (.c (.int .i64 0))⟩])
  (.cond (.t 14)
   (.seq (.ops [⟨some 15, none, .mv (.t 3)⟩,
     ⟨some 2, none, .mv (.t 15)⟩])
   (.ret))
   (.skip))))
  (.seq (.seq (.ops [⟨some 16, none, .faddr 0 (.t 1)⟩,
    ⟨some 17, none, .load false 1 (.t 16)⟩,
    ⟨some 18, none, .len (.t 17)⟩,
    ⟨some 19, none, .bin .gtr (.t 18) (.c (.int .i64 60))⟩])
  (.cond (.t 19)
   (.seq (.ops [⟨some 2, none, .mv (.c (.int .i64 2))⟩])
   (.ret))
   (.skip)))
  (.seq (.seq (.ops [⟨some 20, none, .faddr 0 (.t 1)⟩,
    ⟨some 21, none, .load false 1 (.t 20)⟩,
    ⟨some 22, none, .len (.t 21)⟩,
    ⟨some 23, none, .mv (.c (.int .i64 0))⟩])
  (.block 0 (.loop [1, 21, 22, 23] [1, 2] l54_0)))
  (.seq (.seq (.ops [⟨some 67, none, .load true 2 (.t 1)⟩,
    ⟨some 68, none, .faddr 1 (.t 1)⟩,
    ⟨some 69, none, .load false 1 (.t 68)⟩,
    ⟨some 70, none, .len (.t 69)⟩,
    ⟨some 71, none, .call 110 [.t 67, .c (.bool true), .t 70]⟩,
    ⟨some 72, none, .len (.t 71)⟩,
    ⟨some 73, none, .mv (.c (.int .i64 0))⟩])
  (.block 3 (.loop [1, 71, 72, 73] [1, 2] l54_1)))
  (.seq (.seq (.ops [⟨some 87, none, .load true 2 (.t 1)⟩,
    ⟨some 88, none, .faddr 0 (.t 1)⟩,
    ⟨some 89, none, .load false 1 (.t 88)⟩,
    ⟨some 90, none, .len (.t 89)⟩,
    ⟨some 91, none, .call 110 [.t 87, .c (.bool false), .t 90]⟩,
    ⟨some 92, none, .len (.t 91)⟩,
    ⟨some 93, none, .mv (.c (.int .i64 0))⟩])
  (.block 5 (.loop [1, 91, 92, 93] [2] l54_2)))
  (.seq (.ops [⟨some 2, none, .mv (.c (.int .i64 0))⟩])
  (.ret)))))))⟩
theorem ok54 : FnOK Try.prog 54 v54 := ⟨⟨Try.f54, _, Try.func54, rfl, by kernel_rfl, rfl, by decide, by kernel_rfl, by kernel_rfl⟩⟩

/-- impl.LookTree -/
def v57 : VF := ⟨3, 31, [.cell 6 true 2], true,
  .seq (.ops [⟨some 3, none, .box (.t 0)⟩,
    ⟨some 6, none, .new [.int .i64 0, .int .i64 0]⟩])
  (.seq (.seq (.draw [⟨some 9, none, .load true 2 (.t 3)⟩,
    ⟨some 10, none, .mv (.t 1)⟩,
    ⟨some 11, none, .mv (.t 2)⟩,
    ⟨some 12, none, .call 115 [.t 11]⟩] [⟨some 13, none, .call 114 [.t 9, .t 10, .t 12]⟩,
    ⟨some 7, none, .mv (.t 13)⟩])
  (.seq (.ops [⟨some 14, none, .mv (.t 7)⟩,
    ⟨some 15, none, .bin .neq (.t 14) (.c (.int .i64 0))⟩])
  (.cond (.t 15)
   (.seq (.ops [⟨some 16, none, .mv (.t 7)⟩,
     ⟨some 17, none, .build [.int .i64 0, .int .i64 0] [(0, 1, .t 16)]⟩,
     ⟨none, none, .store 2 (.t 6) (.t 17)⟩])
   (.ret))
   (.skip))))
  (.seq (.ops [⟨some 18, none, .mv (.t 1)⟩,
    ⟨some 19, none, .mv (.t 2)⟩,
    ⟨some 20, none, .call 116 [.t 3, .t 18, .t 19]⟩,
    ⟨some 8, none, .mv (.t 20)⟩])
  (.seq (.seq (.ops [⟨some 21, none, .mv (.t 8)⟩,
    ⟨some 22, none, .bin .eql (.t 21) (.c (.int .i64 (-1)))⟩])
  (.cond (.t 22)
   (.seq (.ops [⟨some 23, none, .build [.int .i64 0, .int .i64 0] [(0, 1, .c (.int .i64 4))]⟩,
     ⟨none, none, .store 2 (.t 6) (.t 23)⟩])
   (.ret))
   (.skip)))
  (.seq (.ops [⟨some 24, none, .faddr 1 (.t 3)⟩,
    ⟨some 25, none, .load false 1 (.t 24)⟩,
    ⟨some 26, none, .mv (.t 8)⟩,
    ⟨some 27, none, .iaddr 2 (.t 25) (.t 26)⟩,
    ⟨some 28, none, .faddr 1 (.t 27)⟩,
    ⟨some 29, none, .load false 1 (.t 28)⟩,
    ⟨some 30, none, .build [.int .i64 0, .int .i64 0] [(1, 1, .t 29)]⟩,
    ⟨none, none, .store 2 (.t 6) (.t 30)⟩])
  (.ret)))))⟩
theorem ok57 : FnOK Try.prog 57 v57 := ⟨⟨Try.f57, _, Try.func57, rfl, by kernel_rfl, rfl, by decide, by kernel_rfl, by kernel_rfl⟩⟩

/-- spec.WalkTree -/
def v58 : VF := ⟨2, 15, [.cell 4 true 2], true,
  .seq (.ops [⟨some 2, none, .box (.t 0)⟩,
    ⟨some 4, none, .new [.int .i64 0, .slice none 0 0]⟩])
  (.seq (.seq (.ops [⟨some 6, none, .mv (.t 1)⟩,
    ⟨some 7, none, .call 112 [.t 2, .t 6, .c (.int .i64 0)]⟩,
    ⟨some 5, none, .mv (.t 7)⟩])
  (.seq (.ops [⟨some 8, none, .mv (.t 5)⟩,
    ⟨some 9, none, .bin .neq (.t 8) (.c (.int .i64 0))⟩])
  (.cond (.t 9)
   (.seq (.ops [⟨some 10, none, .mv (.t 5)⟩,
     ⟨some 11, none, .build [.int .i64 0, .slice none 0 0] [(0, 1, .t 10)]⟩,
     ⟨none, none, .store 2 (.t 4) (.t 11)⟩])
   (.ret))
   (.skip))))
  (.seq (.ops [⟨some 12, none, .mv (.t 1)⟩,
    ⟨some 13, none, .call 117 [.t 2, .t 12]⟩,
    ⟨some 14, none, .build [.int .i64 0, .slice none 0 0] [(1, 1, .t 13)]⟩,
    ⟨none, none, .store 2 (.t 4) (.t 14)⟩])
  (.ret)))⟩
theorem ok58 : FnOK Try.prog 58 v58 := ⟨⟨Try.f58, _, Try.func58, rfl, by kernel_rfl, rfl, by decide, by kernel_rfl, by kernel_rfl⟩⟩

/-- impl.WalkTree -/
def v59 : VF := ⟨2, 16, [.cell 4 true 2], true,
  .seq (.ops [⟨some 2, none, .box (.t 0)⟩,
    ⟨some 4, none, .new [.int .i64 0, .slice none 0 0]⟩])
  (.seq (.seq (.ops [⟨some 6, none, .load true 2 (.t 2)⟩,
    ⟨some 7, none, .mv (.t 1)⟩,
    ⟨some 8, none, .call 114 [.t 6, .t 7, .c (.bool true)]⟩,
    ⟨some 5, none, .mv (.t 8)⟩])
  (.seq (.ops [⟨some 9, none, .mv (.t 5)⟩,
    ⟨some 10, none, .bin .neq (.t 9) (.c (.int .i64 0))⟩])
  (.cond (.t 10)
   (.seq (.ops [⟨some 11, none, .mv (.t 5)⟩,
     ⟨some 12, none, .build [.int .i64 0, .slice none 0 0] [(0, 1, .t 11)]⟩,
     ⟨none, none, .store 2 (.t 4) (.t 12)⟩])
   (.ret))
   (.skip))))
  (.seq (.ops [⟨some 13, none, .mv (.t 1)⟩,
    ⟨some 14, none, .call 118 [.t 2, .t 13]⟩,
    ⟨some 15, none, .build [.int .i64 0, .slice none 0 0] [(1, 1, .t 14)]⟩,
    ⟨none, none, .store 2 (.t 4) (.t 15)⟩])
  (.ret)))⟩
theorem ok59 : FnOK Try.prog 59 v59 := ⟨⟨Try.f59, _, Try.func59, rfl, by kernel_rfl, rfl, by decide, by kernel_rfl, by kernel_rfl⟩⟩

/-- spec.ShareTree -/
def v64 : VF := ⟨2, 37, [.cell 4 true 4], true,
  .seq (.ops [⟨some 2, none, .box (.t 0)⟩,
    ⟨some 4, none, .new [.int .i64 0, .int .i64 0, .slice none 0 0, .slice none 0 0]⟩])
  (.seq (.seq (.ops [⟨some 7, none, .mv (.t 1)⟩,
    ⟨some 8, none, .call 112 [.t 2, .t 7, .c (.int .i64 0)]⟩,
    ⟨some 5, none, .mv (.t 8)⟩])
  (.seq (.ops [⟨some 9, none, .mv (.t 5)⟩,
    ⟨some 10, none, .bin .neq (.t 9) (.c (.int .i64 0))⟩])
  (.cond (.t 10)
   (.seq (.ops [⟨some 11, none, .mv (.t 5)⟩,
     ⟨some 12, none, .call 98 [.t 11]⟩,
     ⟨none, none, .store 4 (.t 4) (.t 12)⟩])
   (.ret))
   (.skip))))
  (.seq (.ops [⟨some 13, none, .load true 2 (.t 2)⟩,
    ⟨some 14, none, .call 123 [.t 13]⟩,
    ⟨some 6, none, .new [.slice none 0 0, .slice none 0 0]⟩,
    ⟨none, none, .store 2 (.t 6) (.t 14)⟩])
  (.seq (.seq (.ops [⟨some 15, none, .mv (.t 1)⟩,
    ⟨some 16, none, .bin .geq (.t 15) (.c (.int .i64 0))⟩])
  (.cond (.t 16)
   (.seq (.seq (.ops [⟨some 17, none, .faddr 0 (.t 2)⟩,
     ⟨some 18, none, .load false 1 (.t 17)⟩,
     ⟨some 19, none, .mv (.t 1)⟩,
     ⟨some 20, none, .iaddr 3 (.t 18) (.t 19)⟩,
     ⟨some 21, none, .faddr 0 (.t 20)⟩,
     ⟨some 22, none, .load false 1 (.t 21)⟩,
     ⟨some 23, none, .bin .geq (.t 22) (.c (.int .i64 200))⟩])
   (.cond (.t 23)
    (.seq (.ops [⟨some 24, none, .call 98 [.c (.int .i64 2)]⟩,
      ⟨none, none, .store 4 (.t 4) (.t 24)⟩])
    (.ret))
    (.skip)))
   (.ops [⟨some 25, none, .faddr 0 (.t 6)⟩,
     ⟨some 26, none, .load false 1 (.t 25)⟩,
     ⟨some 27, none, .mv (.t 1)⟩,
     ⟨some 28, none, .iaddr 3 (.t 26) (.t 27)⟩,
     ⟨some 29, none, .faddr 0 (.t 28)⟩,
     ⟨some 30, none, .load false 1 (.t 29)⟩,
     ⟨some 31, none, .bin .add (.t 30) (.c (.int .i64 1))⟩,
     ⟨some 32, none, .iaddr 3 (.t 26) (.t 27)⟩,
     ⟨some 33, none, .faddr 0 (.t 32)⟩,
     ⟨none, none, .store 1 (.t 33) (.t 31)⟩]))
   (.skip)))
  (.seq (.ops [⟨some 34, none, .mv (.t 1)⟩,
    ⟨some 35, none, .load true 2 (.t 6)⟩,
    ⟨some 36, none, .build [.int .i64 0, .int .i64 0, .slice none 0 0, .slice none 0 0] [(1, 1, .t 34), (2, 2, .t 35)]⟩,
    ⟨none, none, .store 4 (.t 4) (.t 36)⟩])
  (.ret)))))⟩
theorem ok64 : FnOK Try.prog 64 v64 := ⟨⟨Try.f64, _, Try.func64, rfl, by kernel_rfl, rfl, by decide, by kernel_rfl, by kernel_rfl⟩⟩

/-- impl.ShareTree -/
def v65 : VF := ⟨2, 28, [.cell 4 true 4], true,
  .seq (.ops [⟨some 2, none, .box (.t 0)⟩,
    ⟨some 4, none, .new [.int .i64 0, .int .i64 0, .slice none 0 0, .slice none 0 0]⟩])
  (.seq (.seq (.ops [⟨some 8, none, .load true 2 (.t 2)⟩,
    ⟨some 9, none, .mv (.t 1)⟩,
    ⟨some 10, none, .call 114 [.t 8, .t 9, .c (.bool true)]⟩,
    ⟨some 5, none, .mv (.t 10)⟩])
  (.seq (.ops [⟨some 11, none, .mv (.t 5)⟩,
    ⟨some 12, none, .bin .neq (.t 11) (.c (.int .i64 0))⟩])
  (.cond (.t 12)
   (.seq (.ops [⟨some 13, none, .mv (.t 5)⟩,
     ⟨some 14, none, .build [.int .i64 0, .int .i64 0, .slice none 0 0, .slice none 0 0] [(0, 1, .t 13)]⟩,
     ⟨none, none, .store 4 (.t 4) (.t 14)⟩])
   (.ret))
   (.skip))))
  (.seq (.ops [⟨some 15, none, .load true 2 (.t 2)⟩,
    ⟨some 16, none, .call 124 [.t 15]⟩,
    ⟨some 6, none, .new [.slice none 0 0, .slice none 0 0]⟩,
    ⟨none, none, .store 2 (.t 6) (.t 16)⟩])
  (.seq (.seq (.ops [⟨some 17, none, .mv (.t 1)⟩,
    ⟨some 18, none, .bin .neq (.t 17) (.c (.int .i64 (-1)))⟩])
  (.cond (.t 18)
   (.seq (.ops [⟨some 19, none, .mv (.t 1)⟩,
     ⟨some 20, none, .call 125 [.t 6, .t 19]⟩,
     ⟨some 7, none, .mv (.t 20)⟩])
   (.seq (.ops [⟨some 21, none, .mv (.t 7)⟩,
     ⟨some 22, none, .bin .neq (.t 21) (.c (.int .i64 0))⟩])
   (.cond (.t 22)
    (.seq (.ops [⟨some 23, none, .mv (.t 7)⟩,
      ⟨some 24, none, .build [.int .i64 0, .int .i64 0, .slice none 0 0, .slice none 0 0] [(0, 1, .t 23)]⟩,
      ⟨none, none, .store 4 (.t 4) (.t 24)⟩])
    (.ret))
    (.skip))))
   (.skip)))
  (.seq (.ops [⟨some 25, none, .mv (.t 1)⟩,
    ⟨some 26, none, .load true 2 (.t 6)⟩,
    ⟨some 27, none, .build [.int .i64 0, .int .i64 0, .slice none 0 0, .slice none 0 0] [(1, 1, .t 25), (2, 2, .t 26)]⟩,
    ⟨none, none, .store 4 (.t 4) (.t 27)⟩])
  (.ret)))))⟩
theorem ok65 : FnOK Try.prog 65 v65 := ⟨⟨Try.f65, _, Try.func65, rfl, by kernel_rfl, rfl, by decide, by kernel_rfl, by kernel_rfl⟩⟩

/-- spec.DropTree -/
def v66 : VF := ⟨2, 21, [.cell 4 true 4], true,
  .seq (.ops [⟨some 2, none, .box (.t 0)⟩,
    ⟨some 4, none, .new [.int .i64 0, .int .i64 0, .slice none 0 0, .slice none 0 0]⟩])
  (.seq (.seq (.ops [⟨some 7, none, .mv (.t 1)⟩,
    ⟨some 8, none, .call 112 [.t 2, .t 7, .c (.int .i64 0)]⟩,
    ⟨some 5, none, .mv (.t 8)⟩])
  (.seq (.ops [⟨some 9, none, .mv (.t 5)⟩,
    ⟨some 10, none, .bin .neq (.t 9) (.c (.int .i64 0))⟩])
  (.cond (.t 10)
   (.seq (.ops [⟨some 11, none, .mv (.t 5)⟩,
     ⟨some 12, none, .call 98 [.t 11]⟩,
     ⟨none, none, .store 4 (.t 4) (.t 12)⟩])
   (.ret))
   (.skip))))
  (.seq (.ops [⟨some 13, none, .load true 2 (.t 2)⟩,
    ⟨some 14, none, .call 123 [.t 13]⟩,
    ⟨some 6, none, .new [.slice none 0 0, .slice none 0 0]⟩,
    ⟨none, none, .store 2 (.t 6) (.t 14)⟩])
  (.seq (.seq (.ops [⟨some 15, none, .mv (.t 1)⟩,
    ⟨some 16, none, .bin .geq (.t 15) (.c (.int .i64 0))⟩])
  (.cond (.t 16)
   (.ops [⟨some 17, none, .mv (.t 1)⟩,
     ⟨some 18, none, .call 126 [.t 6, .t 17]⟩])
   (.skip)))
  (.seq (.ops [⟨some 19, none, .load true 2 (.t 6)⟩,
    ⟨some 20, none, .build [.int .i64 0, .int .i64 0, .slice none 0 0, .slice none 0 0] [(1, 1, .c (.int .i64 (-1))), (2, 2, .t 19)]⟩,
    ⟨none, none, .store 4 (.t 4) (.t 20)⟩])
  (.ret)))))⟩
theorem ok66 : FnOK Try.prog 66 v66 := ⟨⟨Try.f66, _, Try.func66, rfl, by kernel_rfl, rfl, by decide, by kernel_rfl, by kernel_rfl⟩⟩

/-- impl.DropTree -/
def v67 : VF := ⟨2, 22, [.cell 4 true 4], true,
  .seq (.ops [⟨some 2, none, .box (.t 0)⟩,
    ⟨some 4, none, .new [.int .i64 0, .int .i64 0, .slice none 0 0, .slice none 0 0]⟩])
  (.seq (.seq (.ops [⟨some 7, none, .load true 2 (.t 2)⟩,
    ⟨some 8, none, .mv (.t 1)⟩,
    ⟨some 9, none, .call 114 [.t 7, .t 8, .c (.bool true)]⟩,
    ⟨some 5, none, .mv (.t 9)⟩])
  (.seq (.ops [⟨some 10, none, .mv (.t 5)⟩,
    ⟨some 11, none, .bin .neq (.t 10) (.c (.int .i64 0))⟩])
  (.cond (.t 11)
   (.seq (.ops [⟨some 12, none, .mv (.t 5)⟩,
     ⟨some 13, none, .build [.int .i64 0, .int .i64 0, .slice none 0 0, .slice none 0 0] [(0, 1, .t 12)]⟩,
     ⟨none, none, .store 4 (.t 4) (.t 13)⟩])
   (.ret))
   (.skip))))
  (.seq (.ops [⟨some 14, none, .load true 2 (.t 2)⟩,
    ⟨some 15, none, .call 124 [.t 14]⟩,
    ⟨some 6, none, .new [.slice none 0 0, .slice none 0 0]⟩,
    ⟨none, none, .store 2 (.t 6) (.t 15)⟩])
  (.seq (.seq (.ops [⟨some 16, none, .mv (.t 1)⟩,
    ⟨some 17, none, .bin .neq (.t 16) (.c (.int .i64 (-1)))⟩])
  (.cond (.t 17)
   (.ops [⟨some 18, none, .mv (.t 1)⟩,
     ⟨some 19, none, .call 127 [.t 6, .t 18]⟩])
   (.skip)))
  (.seq (.ops [⟨some 20, none, .load true 2 (.t 6)⟩,
    ⟨some 21, none, .build [.int .i64 0, .int .i64 0, .slice none 0 0, .slice none 0 0] [(1, 1, .c (.int .i64 (-1))), (2, 2, .t 20)]⟩,
    ⟨none, none, .store 4 (.t 4) (.t 21)⟩])
  (.ret)))))⟩
theorem ok67 : FnOK Try.prog 67 v67 := ⟨⟨Try.f67, _, Try.func67, rfl, by kernel_rfl, rfl, by decide, by kernel_rfl, by kernel_rfl⟩⟩

/-- spec.ClearTree -/
def v68 : VF := ⟨3, 38, [.cell 6 true 4], true,
  .seq (.ops [⟨some 3, none, .box (.t 0)⟩,
    ⟨some 6, none, .new [.int .i64 0, .int .i64 0, .slice none 0 0, .slice none 0 0]⟩])
  (.seq (.seq (.ops [⟨some 11, none, .mv (.t 1)⟩,
    ⟨some 12, none, .mv (.t 2)⟩,
    ⟨some 13, none, .call 112 [.t 3, .t 11, .t 12]⟩,
    ⟨some 7, none, .mv (.t 13)⟩])
  (.seq (.ops [⟨some 14, none, .mv (.t 7)⟩,
    ⟨some 15, none, .bin .neq (.t 14) (.c (.int .i64 0))⟩])
  (.cond (.t 15)
   (.seq (.ops [⟨some 16, none, .mv (.t 7)⟩,
     ⟨some 17, none, .call 98 [.t 16]⟩,
     ⟨none, none, .store 4 (.t 6) (.t 17)⟩])
   (.ret))
   (.skip))))
  (.seq (.seq (.ops [⟨some 18, none, .mv (.t 1)⟩,
    ⟨some 19, none, .mv (.t 2)⟩,
    ⟨some 20, none, .call 113 [.t 3, .t 18, .t 19]⟩,
    ⟨some 21, none, .bin .lss (.t 20) (.c (.int .i64 0))⟩])
  (.cond (.t 21)
   (.seq (.ops [⟨some 22, none, .call 98 [.c (.int .i64 4)]⟩,
     ⟨none, none, .store 4 (.t 6) (.t 22)⟩])
   (.ret))
   (.skip)))
  (.seq (.ops [⟨some 23, none, .load true 2 (.t 3)⟩,
    ⟨some 24, none, .call 123 [.t 23]⟩,
    ⟨some 8, none, .new [.slice none 0 0, .slice none 0 0]⟩,
    ⟨none, none, .store 2 (.t 8) (.t 24)⟩])
  (.seq (.ops [⟨some 26, none, .mv (.t 1)⟩,
    ⟨some 27, none, .mv (.t 2)⟩,
    ⟨some 28, none, .call 128 [.t 8, .t 26, .t 27, .c (.int .i64 (-1))]⟩,
    ⟨some 25, none, .mv (.t 28)⟩,
    ⟨some 29, none, .ext 0 (.t 25)⟩,
    ⟨some 30, none, .ext 1 (.t 25)⟩,
    ⟨some 9, none, .mv (.t 29)⟩,
    ⟨some 10, none, .mv (.t 30)⟩])
  (.seq (.seq (.ops [⟨some 31, none, .mv (.t 10)⟩,
    ⟨some 32, none, .bin .neq (.t 31) (.c (.int .i64 0))⟩])
  (.cond (.t 32)
   (.seq (.ops [⟨some 33, none, .mv (.t 10)⟩,
     ⟨some 34, none, .call 98 [.t 33]⟩,
     ⟨none, none, .store 4 (.t 6) (.t 34)⟩])
   (.ret))
   (.skip)))
  (.seq (.ops [⟨some 35, none, .mv (.t 9)⟩,
    ⟨some 36, none, .load true 2 (.t 8)⟩,
    ⟨some 37, none, .build [.int .i64 0, .int .i64 0, .slice none 0 0, .slice none 0 0] [(1, 1, .t 35), (2, 2, .t 36)]⟩,
    ⟨none, none, .store 4 (.t 6) (.t 37)⟩])
  (.ret)))))))⟩
theorem ok68 : FnOK Try.prog 68 v68 := ⟨⟨Try.f68, _, Try.func68, rfl, by kernel_rfl, rfl, by decide, by kernel_rfl, by kernel_rfl⟩⟩

/-- impl.ClearTree -/
def v69 : VF := ⟨3, 42, [.cell 6 true 4], true,
  .seq (.ops [⟨some 3, none, .box (.t 0)⟩,
    ⟨some 6, none, .new [.int .i64 0, .int .i64 0, .slice none 0 0, .slice none 0 0]⟩])
  (.seq (.draw [⟨some 11, none, .load true 2 (.t 3)⟩,
    ⟨some 12, none, .mv (.t 1)⟩,
    ⟨some 13, none, .mv (.t 2)⟩,
    ⟨some 14, none, .call 115 [.t 13]⟩] [⟨some 15, none, .call 114 [.t 11, .t 12, .t 14]⟩,
    ⟨some 7, none, .mv (.t 15)⟩])
  (.seq (.block 0 (.seq (.ops [⟨some 17, none, .mv (.t 7)⟩,
     ⟨some 18, none, .bin .neq (.t 17) (.c (.int .i64 0))⟩,
     ⟨some 16, none, .mv (.t 18)⟩])
   (.cond (.t 16)
    (.seq (.ops [⟨some 19, none, .mv (.t 7)⟩,
      ⟨some 20, none, .build [.int .i64 0, .int .i64 0, .slice none 0 0, .slice none 0 0] [(0, 1, .t 19)]⟩,
      ⟨none, none, .store 4 (.t 6) (.t 20)⟩])
    (.ret))
    (.seq (.ops [⟨some 22, none, .mv (.t 1)⟩,
      ⟨some 23, none, .mv (.t 2)⟩,
      ⟨some 24, none, .call 116 [.t 3, .t 22, .t 23]⟩,
      ⟨some 25, none, .bin .eql (.t 24) (.c (.int .i64 (-1)))⟩,
      ⟨some 21, none, .mv (.t 25)⟩])
    (.cond (.t 21)
     (.seq (.ops [⟨some 26, none, .build [.int .i64 0, .int .i64 0, .slice none 0 0, .slice none 0 0] [(0, 1, .c (.int .i64 4))]⟩,
       ⟨none, none, .store 4 (.t 6) (.t 26)⟩])
     (.ret))
     (.skip))))))
  (.seq (.ops [⟨some 27, none, .load true 2 (.t 3)⟩,
    ⟨some 28, none, .call 124 [.t 27]⟩,
    ⟨some 8, none, .new [.slice none 0 0, .slice none 0 0]⟩,
    ⟨none, none, .store 2 (.t 8) (.t 28)⟩])
  (.seq (.ops [⟨some 30, none, .mv (.t 1)⟩,
    ⟨some 31, none, .mv (.t 2)⟩,
    ⟨some 32, none, .call 129 [.t 8, .t 30, .t 31, .c (.int .i64 (-1))]⟩,
    ⟨some 29, none, .mv (.t 32)⟩,
    ⟨some 33, none, .ext 0 (.t 29)⟩,
    ⟨some 34, none, .ext 1 (.t 29)⟩,
    ⟨some 9, none, .mv (.t 33)⟩,
    ⟨some 10, none, .mv (.t 34)⟩])
  (.seq (.seq (.ops [⟨some 35, none, .mv (.t 10)⟩,
    ⟨some 36, none, .bin .neq (.t 35) (.c (.int .i64 0))⟩])
  (.cond (.t 36)
   (.seq (.ops [⟨some 37, none, .mv (.t 10)⟩,
     ⟨some 38, none, .build [.int .i64 0, .int .i64 0, .slice none 0 0, .slice none 0 0] [(0, 1, .t 37)]⟩,
     ⟨none, none, .store 4 (.t 6) (.t 38)⟩])
   (.ret))
   (.skip)))
  (.seq (.ops [⟨some 39, none, .mv (.t 9)⟩,
    ⟨some 40, none, .load true 2 (.t 8)⟩,
    ⟨some 41, none, .build [.int .i64 0, .int .i64 0, .slice none 0 0, .slice none 0 0] [(1, 1, .t 39), (2, 2, .t 40)]⟩,
    ⟨none, none, .store 4 (.t 6) (.t 41)⟩])
  (.ret)))))))⟩
theorem ok69 : FnOK Try.prog 69 v69 := ⟨⟨Try.f69, _, Try.func69, rfl, by kernel_rfl, rfl, by decide, by kernel_rfl, by kernel_rfl⟩⟩

/-- spec.SetTree -/
def v70 : VF := ⟨4, 53, [.cell 8 true 4], true,
  .seq (.ops [⟨some 4, none, .box (.t 0)⟩,
    ⟨some 8, none, .new [.int .i64 0, .int .i64 0, .slice none 0 0, .slice none 0 0]⟩])
  (.seq (.seq (.ops [⟨some 14, none, .mv (.t 1)⟩,
    ⟨some 15, none, .mv (.t 2)⟩,
    ⟨some 16, none, .call 112 [.t 4, .t 14, .t 15]⟩,
    ⟨some 9, none, .mv (.t 16)⟩])
  (.seq (.ops [⟨some 17, none, .mv (.t 9)⟩,
    ⟨some 18, none, .bin .neq (.t 17) (.c (.int .i64 0))⟩])
  (.cond (.t 18)
   (.seq (.ops [⟨some 19, none, .mv (.t 9)⟩,
     ⟨some 20, none, .call 98 [.t 19]⟩,
     ⟨none, none, .store 4 (.t 8) (.t 20)⟩])
   (.ret))
   (.skip))))
  (.seq (.seq (.ops [⟨some 21, none, .mv (.t 3)⟩,
    ⟨some 22, none, .call 88 [.t 21]⟩,
    ⟨some 23, none, .not (.t 22)⟩])
  (.cond (.t 23)
   (.seq (.ops [⟨some 24, none, .call 98 [.c (.int .i64 3)]⟩,
     ⟨none, none, .store 4 (.t 8) (.t 24)⟩])
   (.ret))
   (.skip)))
  (.seq (.ops [⟨some 25, none, .load true 2 (.t 4)⟩,
    ⟨some 26, none, .call 123 [.t 25]⟩,
    ⟨some 10, none, .new [.slice none 0 0, .slice none 0 0]⟩,
    ⟨none, none, .store 2 (.t 10) (.t 26)⟩])
  (.seq (.ops [⟨some 27, none, .faddr 1 (.t 10)⟩,
    ⟨some 28, none, .load false 1 (.t 27)⟩,
    ⟨some 29, none, .call 89 [.t 28]⟩,
    ⟨some 11, none, .mv (.t 29)⟩])
  (.seq (.seq (.ops [⟨some 30, none, .mv (.t 11)⟩,
    ⟨some 31, none, .bin .lss (.t 30) (.c (.int .i64 0))⟩])
  (.cond (.t 31)
   (.seq (.ops [⟨some 32, none, .call 98 [.c (.int .i64 8)]⟩,
     ⟨none, none, .store 4 (.t 8) (.t 32)⟩])
   (.ret))
   (.skip)))
  (.seq (.ops [⟨some 33, none, .faddr 1 (.t 10)⟩,
    ⟨some 34, none, .load false 1 (.t 33)⟩,
    ⟨some 35, none, .mv (.t 11)⟩,
    ⟨some 36, none, .mv (.t 3)⟩,
    ⟨some 37, none, .build [.int .i64 0, .int .i64 0] [(0, 1, .c (.int .i64 1)), (1, 1, .t 36)]⟩,
    ⟨some 38, none, .iaddr 2 (.t 34) (.t 35)⟩,
    ⟨none, none, .store 2 (.t 38) (.t 37)⟩])
  (.seq (.ops [⟨some 40, none, .mv (.t 1)⟩,
    ⟨some 41, none, .mv (.t 2)⟩,
    ⟨some 42, none, .mv (.t 11)⟩,
    ⟨some 43, none, .call 128 [.t 10, .t 40, .t 41, .t 42]⟩,
    ⟨some 39, none, .mv (.t 43)⟩,
    ⟨some 44, none, .ext 0 (.t 39)⟩,
    ⟨some 45, none, .ext 1 (.t 39)⟩,
    ⟨some 12, none, .mv (.t 44)⟩,
    ⟨some 13, none, .mv (.t 45)⟩])
  (.seq (.seq (.ops [⟨some 46, none, .mv (.t 13)⟩,
    ⟨some 47, none, .bin .neq (.t 46) (.c (.int .i64 0))⟩])
  (.cond (.t 47)
   (.seq (.ops [⟨some 48, none, .mv (.t 13)⟩,
     ⟨some 49, none, .call 98 [.t 48]⟩,
     ⟨none, none, .store 4 (.t 8) (.t 49)⟩])
   (.ret))
   (.skip)))
  (.seq (.ops [⟨some 50, none, .mv (.t 12)⟩,
    ⟨some 51, none, .load true 2 (.t 10)⟩,
    ⟨some 52, none, .build [.int .i64 0, .int .i64 0, .slice none 0 0, .slice none 0 0] [(1, 1, .t 50), (2, 2, .t 51)]⟩,
    ⟨none, none, .store 4 (.t 8) (.t 52)⟩])
  (.ret))))))))))⟩
theorem ok70 : FnOK Try.prog 70 v70 := ⟨⟨Try.f70, _, Try.func70, rfl, by kernel_rfl, rfl, by decide, by kernel_rfl, by kernel_rfl⟩⟩

/-- impl.SetTree -/
def v71 : VF := ⟨4, 55, [.cell 8 true 4], true,
  .seq (.ops [⟨some 4, none, .box (.t 0)⟩,
    ⟨some 8, none, .new [.int .i64 0, .int .i64 0, .slice none 0 0, .slice none 0 0]⟩])
  (.seq (.seq (.draw [⟨some 15, none, .load true 2 (.t 4)⟩,
    ⟨some 16, none, .mv (.t 1)⟩,
    ⟨some 17, none, .mv (.t 2)⟩,
    ⟨some 18, none, .call 115 [.t 17]⟩,
    ⟨some 19, none, .mv (.t 18)⟩,
    ⟨some 20, some (19, true), .mv (.t 3)⟩,
    ⟨some 21, some (19, true), .call 90 [.t 20]⟩,
    ⟨some 22, none, .pick (.t 19) (.t 21) (.c (.bool false))⟩] [⟨some 23, none, .call 114 [.t 15, .t 16, .t 22]⟩,
    ⟨some 9, none, .mv (.t 23)⟩])
  (.seq (.ops [⟨some 24, none, .mv (.t 9)⟩,
    ⟨some 25, none, .bin .neq (.t 24) (.c (.int .i64 0))⟩])
  (.cond (.t 25)
   (.seq (.ops [⟨some 26, none, .mv (.t 9)⟩,
     ⟨some 27, none, .build [.int .i64 0, .int .i64 0, .slice none 0 0, .slice none 0 0] [(0, 1, .t 26)]⟩,
     ⟨none, none, .store 4 (.t 8) (.t 27)⟩])
   (.ret))
   (.skip))))
  (.seq (.ops [⟨some 28, none, .load true 2 (.t 4)⟩,
    ⟨some 29, none, .call 124 [.t 28]⟩,
    ⟨some 10, none, .new [.slice none 0 0, .slice none 0 0]⟩,
    ⟨none, none, .store 2 (.t 10) (.t 29)⟩])
  (.seq (.ops [⟨some 31, none, .faddr 1 (.t 10)⟩,
    ⟨some 32, none, .load false 1 (.t 31)⟩,
    ⟨some 33, none, .mv (.t 3)⟩,
    ⟨some 34, none, .call 92 [.t 32, .t 33]⟩,
    ⟨some 30, none, .mv (.t 34)⟩,
    ⟨some 35, none, .ext 0 (.t 30)⟩,
    ⟨some 36, none, .ext 1 (.t 30)⟩,
    ⟨some 11, none, .mv (.t 35)⟩,
    ⟨some 12, none, .mv (.t 36)⟩])
  (.seq (.seq (.ops [⟨some 37, none, .mv (.t 12)⟩,
    ⟨some 38, none, .bin .neq (.t 37) (.c (.int .i64 0))⟩])
  (.cond (.t 38)
   (.seq (.ops [⟨some 39, none, .mv (.t 12)⟩,
     ⟨some 40, none, .build [.int .i64 0, .int .i64 0, .slice none 0 0, .slice none 0 0] [(0, 1, .t 39)]⟩,
     ⟨none, none, .store 4 (.t 8) (.t 40)⟩])
   (.ret))
   (.skip)))
  (.seq (.ops [⟨some 42, none, .mv (.t 1)⟩,
    ⟨some 43, none, .mv (.t 2)⟩,
    ⟨some 44, none, .mv (.t 11)⟩,
    ⟨some 45, none, .call 129 [.t 10, .t 42, .t 43, .t 44]⟩,
    ⟨some 41, none, .mv (.t 45)⟩,
    ⟨some 46, none, .ext 0 (.t 41)⟩,
    ⟨some 47, none, .ext 1 (.t 41)⟩,
    ⟨some 13, none, .mv (.t 46)⟩,
    ⟨some 14, none, .mv (.t 47)⟩])
  (.seq (.seq (.ops [⟨some 48, none, .mv (.t 14)⟩,
    ⟨some 49, none, .bin .neq (.t 48) (.c (.int .i64 0))⟩])
  (.cond (.t 49)
   (.seq (.ops [⟨some 50, none, .mv (.t 14)⟩,
     ⟨some 51, none, .build [.int .i64 0, .int .i64 0, .slice none 0 0, .slice none 0 0] [(0, 1, .t 50)]⟩,
     ⟨none, none, .store 4 (.t 8) (.t 51)⟩])
   (.ret))
   (.skip)))
  (.seq (.ops [⟨some 52, none, .mv (.t 13)⟩,
    ⟨some 53, none, .load true 2 (.t 10)⟩,
    ⟨some 54, none, .build [.int .i64 0, .int .i64 0, .slice none 0 0, .slice none 0 0] [(1, 1, .t 52), (2, 2, .t 53)]⟩,
    ⟨none, none, .store 4 (.t 8) (.t 54)⟩])
  (.ret))))))))⟩
theorem ok71 : FnOK Try.prog 71 v71 := ⟨⟨Try.f71, _, Try.func71, rfl, by kernel_rfl, rfl, by decide, by kernel_rfl, by kernel_rfl⟩⟩

/-- spec.DrawSetTree -/
def v72 : VF := ⟨1, 30, [.cell 2 true 2, .t 3, .t 4, .t 5], true,
  .seq (.ops [⟨some 2, none, .new [.slice none 0 0, .slice none 0 0]⟩,
    ⟨some 3, none, .mv (.c (.int .i64 0))⟩,
    ⟨some 4, none, .mv (.c (.int .i64 0))⟩,
    ⟨some 5, none, .mv (.c (.int .i64 0))⟩])
  (.seq (.ops [⟨some 11, none, .mv (.t 0)⟩,
    ⟨some 12, none, .call 130 [.t 11]⟩,
    ⟨some 10, none, .mv (.t 12)⟩,
    ⟨some 13, none, .ext 0 (.t 10)⟩,
    ⟨some 14, none, .ext 1 (.t 10)⟩,
    ⟨some 15, none, .ext 2 (.t 10)⟩,
    ⟨some 6, none, .new [.slice none 0 0, .slice none 0 0]⟩,
    ⟨none, none, .store 2 (.t 6) (.t 13)⟩,
    ⟨some 7, none, .mv (.t 14)⟩,
    ⟨some 8, none, .mv (.t 15)⟩])
  (.seq (.ops [⟨some 16, none, .bslice 1 [.int .u8 0] 1 [(0, 1, .c (.int .u8 3))]⟩,
    ⟨some 17, none, .mv (.t 0)⟩,
    ⟨some 18, none, .append 1 1 (.t 16) (.t 17)⟩,
    ⟨some 19, none, .call 93 [.t 18]⟩,
    ⟨some 9, none, .mv (.t 19)⟩])
  (.seq (.drawD [9, 2] [⟨some 20, none, .load true 2 (.t 6)⟩,
    ⟨some 21, none, .mv (.t 7)⟩,
    ⟨some 22, none, .mv (.t 8)⟩,
    ⟨some 23, none, .mv (.t 9)⟩,
    ⟨some 24, none, .mv (.t 9)⟩,
    ⟨some 25, none, .call 96 [.t 24, .c (.int .i64 256)]⟩,
    ⟨some 26, none, .mv (.t 9)⟩,
    ⟨some 27, none, .call 96 [.t 26, .c (.int .i64 256)]⟩,
    ⟨some 28, none, .bslice 1 [.int .i64 0, .int .i64 0, .int .i64 0, .int .i64 0] 4 [(0, 1, .t 25), (1, 1, .t 27), (2, 1, .c (.int .i64 256)), (3, 1, .c (.int .i64 (-1)))]⟩,
    ⟨some 29, none, .call 95 [.t 23, .t 28]⟩,
    ⟨none, none, .store 2 (.t 2) (.t 20)⟩,
    ⟨some 3, none, .mv (.t 21)⟩] [⟨some 4, none, .mv (.t 22)⟩,
    ⟨some 5, none, .mv (.t 29)⟩])
  (.ret))))⟩
theorem ok72 : FnOK Try.prog 72 v72 := ⟨⟨Try.f72, _, Try.func72, rfl, by kernel_rfl, rfl, by decide, by kernel_rfl, by kernel_rfl⟩⟩

/-- laws.lwNums -/
def l73_0 : VC :=
  .seq (.seq (.ops [⟨some 11, none, .mv (.t 5)⟩,
    ⟨some 12, none, .mv (.t 0)⟩,
    ⟨some 13, none, .len (.t 12)⟩,
    ⟨some 14, none, .bin .lss (.t 11) (.t 13)⟩])
  (.cond (.t 14)
   (.skip)
   (.exit 0)))
  (.seq (.block 1 (.seq (.draw [⟨some 17, none, .mv (.t 0)⟩,
     ⟨some 18, none, .mv (.t 5)⟩,
     ⟨some 19, none, .iaddr 1 (.t 17) (.t 18)⟩,
     ⟨some 20, none, .load false 1 (.t 19)⟩,
     ⟨some 21, none, .mv (.t 1)⟩,
     ⟨some 22, none, .mv (.t 5)⟩,
     ⟨some 23, none, .iaddr 1 (.t 21) (.t 22)⟩,
     ⟨some 24, none, .load false 1 (.t 23)⟩] [⟨some 25, none, .bin .neq (.t 20) (.t 24)⟩])
   (.cond (.t 25)
    (.seq (.ops [⟨some 4, none, .mv (.c (.bool false))⟩])
    (.ret))
    (.skip))))
  (.ops [⟨some 15, none, .mv (.t 5)⟩,
    ⟨some 16, none, .bin .add (.t 15) (.c (.int .i64 1))⟩,
    ⟨some 5, none, .mv (.t 16)⟩]))
def v73 : VF := ⟨2, 26, [.t 4], true,
  .seq (.ops [⟨some 4, none, .mv (.c (.bool false))⟩])
  (.seq (.seq (.ops [⟨some 6, none, .mv (.t 0)⟩,
    ⟨some 7, none, .len (.t 6)⟩,
    ⟨some 8, none, .mv (.t 1)⟩,
    ⟨some 9, none, .len (.t 8)⟩,
    ⟨some 10, none, .bin .neq (.t 7) (.t 9)⟩])
  (.cond (.t 10)
   (.seq (.ops [⟨some 4, none, .mv (.c (.bool false))⟩])
   (.ret))
   (.skip)))
  (.seq (.seq (.ops [⟨some 5, none, .mv (.c (.int .i64 0))⟩])
  (.block 0 (.loop [0, 1, 5] [4] l73_0)))
  (.seq (.ops [⟨some 4, none, .mv (.c (.bool true))⟩])
  (.ret))))⟩
theorem ok73 : FnOK Try.prog 73 v73 := ⟨⟨Try.f73, _, Try.func73, rfl, by kernel_rfl, rfl, by decide, by kernel_rfl, by kernel_rfl⟩⟩

/-- spec.DrawClearTree -/
def v74 : VF := ⟨1, 10, [.cell 2 true 2, .t 3, .t 4], true,
  .seq (.ops [⟨some 2, none, .new [.slice none 0 0, .slice none 0 0]⟩,
    ⟨some 3, none, .mv (.c (.int .i64 0))⟩,
    ⟨some 4, none, .mv (.c (.int .i64 0))⟩])
  (.seq (.ops [⟨some 5, none, .mv (.t 0)⟩,
    ⟨some 6, none, .call 130 [.t 5]⟩,
    ⟨some 7, none, .ext 0 (.t 6)⟩,
    ⟨some 8, none, .ext 1 (.t 6)⟩,
    ⟨some 9, none, .ext 2 (.t 6)⟩,
    ⟨none, none, .store 2 (.t 2) (.t 7)⟩,
    ⟨some 3, none, .mv (.t 8)⟩,
    ⟨some 4, none, .mv (.t 9)⟩])
  (.ret))⟩
theorem ok74 : FnOK Try.prog 74 v74 := ⟨⟨Try.f74, _, Try.func74, rfl, by kernel_rfl, rfl, by decide, by kernel_rfl, by kernel_rfl⟩⟩

/-- spec.l1In -/
def v75 : VF := ⟨3, 15, [.t 6], true,
  .seq (.ops [⟨some 6, none, .mv (.c (.bool false))⟩])
  (.seq (.ops [⟨some 7, none, .mv (.t 0)⟩,
    ⟨some 8, none, .mv (.t 1)⟩,
    ⟨some 9, none, .bin .geq (.t 7) (.t 8)⟩,
    ⟨some 10, none, .mv (.t 9)⟩,
    ⟨some 11, some (10, true), .mv (.t 0)⟩,
    ⟨some 12, some (10, true), .mv (.t 2)⟩,
    ⟨some 13, some (10, true), .bin .leq (.t 11) (.t 12)⟩,
    ⟨some 14, none, .pick (.t 10) (.t 13) (.c (.bool false))⟩,
    ⟨some 6, none, .mv (.t 14)⟩])
  (.ret))⟩
theorem ok75 : FnOK Try.prog 75 v75 := ⟨⟨Try.f75, _, Try.func75, rfl, by kernel_rfl, rfl, by decide, by kernel_rfl, by kernel_rfl⟩⟩

/-- spec.l3Bad -/
def v76 : VF := ⟨1, 5, [.cell 2 true 3], true,
  .seq (.ops [⟨some 2, none, .new [.int .i64 0, .int .i64 0, .slice none 0 0]⟩])
  (.seq (.ops [⟨some 3, none, .mv (.t 0)⟩,
    ⟨some 4, none, .build [.int .i64 0, .int .i64 0, .slice none 0 0] [(0, 1, .t 3)]⟩,
    ⟨none, none, .store 3 (.t 2) (.t 4)⟩])
  (.ret))⟩
theorem ok76 : FnOK Try.prog 76 v76 := ⟨⟨Try.f76, _, Try.func76, rfl, by kernel_rfl, rfl, by decide, by kernel_rfl, by kernel_rfl⟩⟩

/-- impl.within -/
def v77 : VF := ⟨3, 15, [.t 6], true,
  .seq (.ops [⟨some 6, none, .mv (.c (.bool false))⟩])
  (.seq (.ops [⟨some 7, none, .mv (.t 1)⟩,
    ⟨some 8, none, .mv (.t 0)⟩,
    ⟨some 9, none, .bin .leq (.t 7) (.t 8)⟩,
    ⟨some 10, none, .mv (.t 9)⟩,
    ⟨some 11, some (10, true), .mv (.t 0)⟩,
    ⟨some 12, some (10, true), .mv (.t 2)⟩,
    ⟨some 13, some (10, true), .bin .leq (.t 11) (.t 12)⟩,
    ⟨some 14, none, .pick (.t 10) (.t 13) (.c (.bool false))⟩,
    ⟨some 6, none, .mv (.t 14)⟩])
  (.ret))⟩
theorem ok77 : FnOK Try.prog 77 v77 := ⟨⟨Try.f77, _, Try.func77, rfl, by kernel_rfl, rfl, by decide, by kernel_rfl, by kernel_rfl⟩⟩

/-- spec.BlocksFault -/
def l79_0 : VC :=
  .seq (.seq (.ops [⟨some 7, none, .mv (.t 3)⟩,
    ⟨some 8, none, .mv (.t 0)⟩,
    ⟨some 9, none, .len (.t 8)⟩,
    ⟨some 10, none, .bin .lss (.t 7) (.t 9)⟩])
  (.cond (.t 10)
   (.skip)
   (.exit 0)))
  (.seq (.block 1 (.seq (.seq (.ops [⟨some 13, none, .mv (.t 0)⟩,
     ⟨some 14, none, .mv (.t 3)⟩,
     ⟨some 15, none, .iaddr 2 (.t 13) (.t 14)⟩,
     ⟨some 16, none, .faddr 0 (.t 15)⟩,
     ⟨some 17, none, .load false 1 (.t 16)⟩,
     ⟨some 18, none, .call 75 [.t 17, .c (.int .i64 0), .c (.int .i64 200)]⟩,
     ⟨some 19, none, .not (.t 18)⟩,
     ⟨some 20, none, .mv (.t 19)⟩,
     ⟨some 21, some (20, false), .mv (.t 0)⟩,
     ⟨some 22, some (20, false), .mv (.t 3)⟩,
     ⟨some 23, some (20, false), .iaddr 2 (.t 21) (.t 22)⟩,
     ⟨some 24, some (20, false), .faddr 1 (.t 23)⟩,
     ⟨some 25, some (20, false), .load false 1 (.t 24)⟩,
     ⟨some 26, some (20, false), .call 88 [.t 25]⟩,
     ⟨some 27, some (20, false), .not (.t 26)⟩,
     ⟨some 28, none, .pick (.t 20) (.c (.bool true)) (.t 27)⟩])
   (.cond (.t 28)
    (.seq (.ops [⟨some 2, none, .mv (.c (.int .i64 3))⟩])
    (.ret))
    (.skip)))
   (.seq (.ops [⟨some 29, none, .mv (.t 0)⟩,
     ⟨some 30, none, .mv (.t 3)⟩,
     ⟨some 31, none, .iaddr 2 (.t 29) (.t 30)⟩,
     ⟨some 32, none, .faddr 0 (.t 31)⟩,
     ⟨some 33, none, .load false 1 (.t 32)⟩,
     ⟨some 34, none, .bin .eql (.t 33) (.c (.int .i64 0))⟩,
     ⟨some 35, none, .mv (.t 34)⟩,
     ⟨some 36, some (35, true), .mv (.t 0)⟩,
     ⟨some 37, some (35, true), .mv (.t 3)⟩,
     ⟨some 38, some (35, true), .iaddr 2 (.t 36) (.t 37)⟩,
     ⟨some 39, some (35, true), .faddr 1 (.t 38)⟩,
     ⟨some 40, some (35, true), .load false 1 (.t 39)⟩,
     ⟨some 41, some (35, true), .bin .neq (.t 40) (.c (.int .i64 0))⟩,
     ⟨some 42, none, .pick (.t 35) (.t 41) (.c (.bool false))⟩])
   (.cond (.t 42)
    (.seq (.ops [⟨some 2, none, .mv (.c (.int .i64 1))⟩])
    (.ret))
    (.skip)))))
  (.ops [⟨some 11, none, .mv (.t 3)⟩,
    ⟨some 12, none, .bin .add (.t 11) (.c (.int .i64 1))⟩,
    ⟨some 3, none, .mv (.t 12)⟩]))
def v79 : VF := ⟨1, 43, [.t 2], true,
  .seq (.ops [⟨some 2, none, .mv (.c (.int .i64 0))⟩])
  (.seq (.seq (.ops [⟨some 4, none, .mv (.t 0)⟩,
    ⟨some 5, none, .len (.t 4)⟩,
    ⟨some 6, none, .bin .gtr (.t 5) (.c (.int .i64 24))⟩])
  (.cond (.t 6)
   (.seq (.ops [⟨some 2, none, .mv (.c (.int .i64 2))⟩])
   (.ret))
   (.skip)))
  (.seq (.seq (.ops [⟨some 3, none, .mv (.c (.int .i64 0))⟩])
  (.block 0 (.loop [0, 3] [2] l79_0)))
  (.seq (.ops [⟨some 2, none, .mv (.c (.int .i64 0))⟩])
  (.ret))))⟩
theorem ok79 : FnOK Try.prog 79 v79 := ⟨⟨Try.f79, _, Try.func79, rfl, by kernel_rfl, rfl, by decide, by kernel_rfl, by kernel_rfl⟩⟩

/-- impl.referred -/
def v84 : VF := ⟨3, 38, [.cell 6 true 3], true,
  .seq (.ops [⟨some 6, none, .new [.int .i64 0, .int .i64 0, .slice none 0 0]⟩])
  (.seq (.ops [⟨some 10, none, .mv (.t 0)⟩,
    ⟨some 11, none, .call 40 [.t 10]⟩,
    ⟨some 7, none, .mv (.t 11)⟩])
  (.seq (.block 0 (.seq (.ops [⟨some 13, none, .mv (.t 7)⟩,
     ⟨some 14, none, .bin .neq (.t 13) (.c (.int .i64 0))⟩,
     ⟨some 12, none, .mv (.t 14)⟩])
   (.cond (.t 12)
    (.seq (.ops [⟨some 15, none, .mv (.t 7)⟩,
      ⟨some 16, none, .build [.int .i64 0, .int .i64 0, .slice none 0 0] [(0, 1, .t 15)]⟩,
      ⟨none, none, .store 3 (.t 6) (.t 16)⟩])
    (.ret))
    (.seq (.ops [⟨some 18, none, .mv (.t 1)⟩,
      ⟨some 19, none, .mv (.t 0)⟩,
      ⟨some 20, none, .len (.t 19)⟩,
      ⟨some 21, none, .bin .sub (.t 20) (.c (.int .i64 1))⟩,
      ⟨some 22, none, .call 77 [.t 18, .c (.int .i64 0), .t 21]⟩,
      ⟨some 23, none, .not (.t 22)⟩,
      ⟨some 17, none, .mv (.t 23)⟩])
    (.cond (.t 17)
     (.seq (.ops [⟨some 24, none, .build [.int .i64 0, .int .i64 0, .slice none 0 0] [(0, 1, .c (.int .i64 3))]⟩,
       ⟨none, none, .store 3 (.t 6) (.t 24)⟩])
     (.ret))
     (.skip))))))
  (.seq (.ops [⟨some 25, none, .mv (.t 0)⟩,
    ⟨some 26, none, .call 91 [.t 25]⟩,
    ⟨some 8, none, .mv (.t 26)⟩])
  (.seq (.seq (.ops [⟨some 27, none, .mv (.t 2)⟩,
    ⟨some 28, none, .mv (.t 8)⟩,
    ⟨some 29, none, .mv (.t 1)⟩,
    ⟨some 30, none, .callv (.t 27) [.t 28, .t 29]⟩,
    ⟨some 9, none, .mv (.t 30)⟩])
  (.seq (.ops [⟨some 31, none, .mv (.t 9)⟩,
    ⟨some 32, none, .bin .neq (.t 31) (.c (.int .i64 0))⟩])
  (.cond (.t 32)
   (.seq (.ops [⟨some 33, none, .mv (.t 9)⟩,
     ⟨some 34, none, .build [.int .i64 0, .int .i64 0, .slice none 0 0] [(0, 1, .t 33)]⟩,
     ⟨none, none, .store 3 (.t 6) (.t 34)⟩])
   (.ret))
   (.skip))))
  (.seq (.ops [⟨some 35, none, .mv (.t 1)⟩,
    ⟨some 36, none, .mv (.t 8)⟩,
    ⟨some 37, none, .build [.int .i64 0, .int .i64 0, .slice none 0 0] [(1, 1, .t 35), (2, 1, .t 36)]⟩,
    ⟨none, none, .store 3 (.t 6) (.t 37)⟩])
  (.ret))))))⟩
theorem ok84 : FnOK Try.prog 84 v84 := ⟨⟨Try.f84, _, Try.func84, rfl, by kernel_rfl, rfl, by decide, by kernel_rfl, by kernel_rfl⟩⟩

/-- impl.share -/
def v85 : VF := ⟨2, 24, [.t 4], false,
  .seq (.ops [⟨some 4, none, .mv (.c (.int .i64 0))⟩])
  (.seq (.seq (.ops [⟨some 6, none, .mv (.t 0)⟩,
    ⟨some 7, none, .mv (.t 1)⟩,
    ⟨some 8, none, .iaddr 2 (.t 6) (.t 7)⟩,
    ⟨some 5, none, .mv (.t 8)⟩])
  (.seq (.ops [⟨some 9, none, .mv (.t 5)⟩,
    ⟨some 10, none, .nilck (.t 9)⟩,
    ⟨some 11, none, .faddr 0 (.t 10)⟩,
    ⟨some 12, none, .load false 1 (.t 11)⟩])
  (.block 0 (.seq (.ops [⟨some 21, none, .bin .eql (.t 12) (.c (.int .i64 0))⟩,
     ⟨some 20, none, .mv (.t 21)⟩])
   (.cond (.t 20)
    (.seq (.ops [⟨some 4, none, .mv (.c (.int .i64 4))⟩])
    (.ret))
    (.seq (.ops [⟨some 23, none, .bin .eql (.t 12) (.c (.int .i64 200))⟩,
      ⟨some 22, none, .mv (.t 23)⟩])
    (.cond (.t 22)
     (.seq (.ops [⟨some 4, none, .mv (.c (.int .i64 2))⟩])
     (.ret))
     (.ops [⟨some 13, none, .mv (.t 5)⟩,
       ⟨some 14, none, .nilck (.t 13)⟩,
       ⟨some 15, none, .faddr 0 (.t 14)⟩,
       ⟨some 16, none, .load false 1 (.t 15)⟩,
       ⟨some 17, none, .bin .add (.t 16) (.c (.int .i64 1))⟩,
       ⟨some 18, none, .nilck (.t 13)⟩,
       ⟨some 19, none, .faddr 0 (.t 18)⟩,
       ⟨none, none, .store 1 (.t 19) (.t 17)⟩]))))))))
  (.seq (.ops [⟨some 4, none, .mv (.c (.int .i64 0))⟩])
  (.ret)))⟩
theorem ok85 : FnOK Try.prog 85 v85 := ⟨⟨Try.f85, _, Try.func85, rfl, by kernel_rfl, rfl, by decide, by kernel_rfl, by kernel_rfl⟩⟩

/-- spec.l3Drop -/
def v86 : VF := ⟨2, 22, [], false,
  .seq (.ops [⟨some 4, none, .mv (.t 0)⟩,
    ⟨some 5, none, .mv (.t 1)⟩,
    ⟨some 6, none, .iaddr 2 (.t 4) (.t 5)⟩,
    ⟨some 7, none, .faddr 0 (.t 6)⟩,
    ⟨some 8, none, .load false 1 (.t 7)⟩,
    ⟨some 9, none, .bin .sub (.t 8) (.c (.int .i64 1))⟩,
    ⟨some 10, none, .iaddr 2 (.t 4) (.t 5)⟩,
    ⟨some 11, none, .faddr 0 (.t 10)⟩,
    ⟨none, none, .store 1 (.t 11) (.t 9)⟩])
  (.seq (.ops [⟨some 12, none, .mv (.t 0)⟩,
    ⟨some 13, none, .mv (.t 1)⟩,
    ⟨some 14, none, .iaddr 2 (.t 12) (.t 13)⟩,
    ⟨some 15, none, .faddr 0 (.t 14)⟩,
    ⟨some 16, none, .load false 1 (.t 15)⟩,
    ⟨some 17, none, .bin .eql (.t 16) (.c (.int .i64 0))⟩])
  (.cond (.t 17)
   (.ops [⟨some 18, none, .mv (.t 0)⟩,
     ⟨some 19, none, .mv (.t 1)⟩,
     ⟨some 20, none, .iaddr 2 (.t 18) (.t 19)⟩,
     ⟨some 21, none, .faddr 1 (.t 20)⟩,
     ⟨none, none, .store 1 (.t 21) (.c (.int .i64 0))⟩])
   (.skip)))⟩
theorem ok86 : FnOK Try.prog 86 v86 := ⟨⟨Try.f86, _, Try.func86, rfl, by kernel_rfl, rfl, by decide, by kernel_rfl, by kernel_rfl⟩⟩

/-- impl.drop -/
def v87 : VF := ⟨2, 29, [.t 4], false,
  .seq (.ops [⟨some 4, none, .mv (.c (.int .i64 0))⟩])
  (.seq (.ops [⟨some 6, none, .mv (.t 0)⟩,
    ⟨some 7, none, .mv (.t 1)⟩,
    ⟨some 8, none, .iaddr 2 (.t 6) (.t 7)⟩,
    ⟨some 5, none, .mv (.t 8)⟩])
  (.seq (.seq (.ops [⟨some 9, none, .mv (.t 5)⟩,
    ⟨some 10, none, .nilck (.t 9)⟩,
    ⟨some 11, none, .faddr 0 (.t 10)⟩,
    ⟨some 12, none, .load false 1 (.t 11)⟩,
    ⟨some 13, none, .bin .eql (.t 12) (.c (.int .i64 0))⟩])
  (.cond (.t 13)
   (.seq (.ops [⟨some 4, none, .mv (.c (.int .i64 4))⟩])
   (.ret))
   (.skip)))
  (.seq (.ops [⟨some 14, none, .mv (.t 5)⟩,
    ⟨some 15, none, .nilck (.t 14)⟩,
    ⟨some 16, none, .faddr 0 (.t 15)⟩,
    ⟨some 17, none, .load false 1 (.t 16)⟩,
    ⟨some 18, none, .bin .sub (.t 17) (.c (.int .i64 1))⟩,
    ⟨some 19, none, .nilck (.t 14)⟩,
    ⟨some 20, none, .faddr 0 (.t 19)⟩,
    ⟨none, none, .store 1 (.t 20) (.t 18)⟩])
  (.seq (.seq (.ops [⟨some 21, none, .mv (.t 5)⟩,
    ⟨some 22, none, .nilck (.t 21)⟩,
    ⟨some 23, none, .faddr 0 (.t 22)⟩,
    ⟨some 24, none, .load false 1 (.t 23)⟩,
    ⟨some 25, none, .bin .eql (.t 24) (.c (.int .i64 0))⟩])
  (.cond (.t 25)
   (.ops [⟨some 26, none, .mv (.t 5)⟩,
     ⟨some 27, none, .nilck (.t 26)⟩,
     ⟨some 28, none, .faddr 1 (.t 27)⟩,
     ⟨none, none, .store 1 (.t 28) (.c (.int .i64 0))⟩])
   (.skip)))
  (.seq (.ops [⟨some 4, none, .mv (.c (.int .i64 0))⟩])
  (.ret))))))⟩
theorem ok87 : FnOK Try.prog 87 v87 := ⟨⟨Try.f87, _, Try.func87, rfl, by kernel_rfl, rfl, by decide, by kernel_rfl, by kernel_rfl⟩⟩
def env0 : Env := [(8, v8), (18, v18), (19, v19), (20, v20), (21, v21), (28, v28), (32, v32), (35, v35), (36, v36), (37, v37), (38, v38), (39, v39), (40, v40), (41, v41), (42, v42), (54, v54), (57, v57), (58, v58), (59, v59), (64, v64), (65, v65), (66, v66), (67, v67), (68, v68), (69, v69), (70, v70), (71, v71), (72, v72), (73, v73), (74, v74), (75, v75), (76, v76), (77, v77), (79, v79), (84, v84), (85, v85), (86, v86), (87, v87)]
theorem envOK0 : EnvOK Try.prog env0 := .cons ok8 (.cons ok18 (.cons ok19 (.cons ok20 (.cons ok21 (.cons ok28 (.cons ok32 (.cons ok35 (.cons ok36 (.cons ok37 (.cons ok38 (.cons ok39 (.cons ok40 (.cons ok41 (.cons ok42 (.cons ok54 (.cons ok57 (.cons ok58 (.cons ok59 (.cons ok64 (.cons ok65 (.cons ok66 (.cons ok67 (.cons ok68 (.cons ok69 (.cons ok70 (.cons ok71 (.cons ok72 (.cons ok73 (.cons ok74 (.cons ok75 (.cons ok76 (.cons ok77 (.cons ok79 (.cons ok84 (.cons ok85 (.cons ok86 (.cons ok87 (.nil))))))))))))))))))))))))))))))))))))))
end Go.Proofs.Ytmcljallamhccaa.V
