/- The machine's code of the program's functions; each is the program's own, by the kernel. Laid by a program (wip/v/vmgen.py). -/
import Derived.Test.YtaahjfjpbilfnaaVMS
import Derived.Test.YtaahjfjpbilfnaaProg
namespace Go.Proofs.Ytaahjfjpbilfnaa.V
open Go
set_option maxRecDepth 100000
/-- laws.FnDisks -/
def l5_0 : VC :=
  .seq (.seq (.ops [⟨some 97, none, .mv (.t 10)⟩,
    ⟨some 98, none, .faddr 1 (.t 3)⟩,
    ⟨some 99, none, .load false 1 (.t 98)⟩,
    ⟨some 100, none, .len (.t 99)⟩,
    ⟨some 101, none, .bin .lss (.t 97) (.t 100)⟩,
    ⟨some 102, none, .mv (.t 101)⟩,
    ⟨some 103, some (102, true), .mv (.t 10)⟩,
    ⟨some 104, some (102, true), .mv (.t 4)⟩,
    ⟨some 105, some (102, true), .len (.t 104)⟩,
    ⟨some 106, some (102, true), .bin .lss (.t 103) (.t 105)⟩,
    ⟨some 107, none, .pick (.t 102) (.t 106) (.c (.bool false))⟩])
  (.cond (.t 107)
   (.skip)
   (.exit 2)))
  (.seq (.block 3 (.seq (.ops [⟨some 110, none, .mv (.t 4)⟩,
     ⟨some 111, none, .mv (.t 10)⟩,
     ⟨some 112, none, .iaddr 1 (.t 110) (.t 111)⟩,
     ⟨some 113, none, .load false 1 (.t 112)⟩,
     ⟨some 114, none, .mv (.t 113)⟩,
     ⟨some 115, some (114, true), .faddr 1 (.t 3)⟩,
     ⟨some 116, some (114, true), .load false 1 (.t 115)⟩,
     ⟨some 117, some (114, true), .mv (.t 10)⟩,
     ⟨some 118, some (114, true), .iaddr 2 (.t 116) (.t 117)⟩,
     ⟨some 119, some (114, true), .faddr 0 (.t 118)⟩,
     ⟨some 120, some (114, true), .load false 1 (.t 119)⟩,
     ⟨some 121, some (114, true), .mv (.t 8)⟩,
     ⟨some 122, some (114, true), .bin .eql (.t 120) (.t 121)⟩,
     ⟨some 123, none, .pick (.t 114) (.t 122) (.c (.bool false))⟩])
   (.cond (.t 123)
    (.ops [⟨some 124, none, .faddr 1 (.t 3)⟩,
      ⟨some 125, none, .load false 1 (.t 124)⟩,
      ⟨some 126, none, .mv (.t 10)⟩,
      ⟨some 127, none, .iaddr 2 (.t 125) (.t 126)⟩,
      ⟨some 128, none, .faddr 1 (.t 127)⟩,
      ⟨some 129, none, .load false 1 (.t 128)⟩,
      ⟨some 9, none, .mv (.t 129)⟩])
    (.skip))))
  (.ops [⟨some 108, none, .mv (.t 10)⟩,
    ⟨some 109, none, .bin .add (.t 108) (.c (.int .i64 1))⟩,
    ⟨some 10, none, .mv (.t 109)⟩]))
def l5_1 : VC :=
  .seq (.seq (.ops [⟨some 88, none, .mv (.t 8)⟩,
    ⟨some 89, none, .bin .lss (.t 88) (.c (.int .i64 64))⟩])
  (.cond (.t 89)
   (.skip)
   (.exit 0)))
  (.seq (.block 1 (.seq (.ops [⟨some 92, none, .faddr 0 (.t 3)⟩,
     ⟨some 93, none, .load false 1 (.t 92)⟩,
     ⟨some 94, none, .mv (.t 8)⟩,
     ⟨some 95, none, .iaddr 1 (.t 93) (.t 94)⟩,
     ⟨some 96, none, .load false 1 (.t 95)⟩,
     ⟨some 9, none, .mv (.t 96)⟩])
   (.seq (.seq (.ops [⟨some 10, none, .mv (.c (.int .i64 0))⟩])
   (.block 2 (.loop [3, 4, 5, 7, 8, 9, 10] [2, 3, 4, 5, 7, 8, 9] l5_0)))
   (.seq (.draw [⟨some 130, none, .faddr 1 (.t 5)⟩,
     ⟨some 131, none, .faddr 0 (.t 130)⟩,
     ⟨some 132, none, .load false 1 (.t 131)⟩,
     ⟨some 133, none, .mv (.t 8)⟩,
     ⟨some 134, none, .iaddr 1 (.t 132) (.t 133)⟩,
     ⟨some 135, none, .load false 1 (.t 134)⟩,
     ⟨some 136, none, .mv (.t 9)⟩,
     ⟨some 137, none, .bin .neq (.t 135) (.t 136)⟩,
     ⟨some 138, none, .mv (.t 137)⟩,
     ⟨some 139, some (138, false), .load true 2 (.t 3)⟩,
     ⟨some 140, some (138, false), .mv (.t 8)⟩,
     ⟨some 141, some (138, false), .call 22 [.t 139, .t 140]⟩,
     ⟨some 142, some (138, false), .field false 1 1 (.t 141)⟩,
     ⟨some 143, some (138, false), .faddr 1 (.t 7)⟩,
     ⟨some 144, some (138, false), .load false 1 (.t 143)⟩,
     ⟨some 145, some (138, false), .mv (.t 8)⟩,
     ⟨some 146, some (138, false), .iaddr 1 (.t 144) (.t 145)⟩,
     ⟨some 147, some (138, false), .load false 1 (.t 146)⟩] [⟨some 148, some (138, false), .bin .neq (.t 142) (.t 147)⟩,
     ⟨some 149, none, .pick (.t 138) (.c (.bool true)) (.t 148)⟩])
   (.cond (.t 149)
    (.seq (.ops [⟨some 2, none, .mv (.c (.bool false))⟩])
    (.ret))
    (.skip))))))
  (.ops [⟨some 90, none, .mv (.t 8)⟩,
    ⟨some 91, none, .bin .add (.t 90) (.c (.int .i64 1))⟩,
    ⟨some 8, none, .mv (.t 91)⟩]))
def v5 : VF := ⟨1, 188, [.t 2], true,
  .seq (.ops [⟨some 2, none, .mv (.c (.bool false))⟩])
  (.seq (.seq (.ops [⟨some 13, none, .mv (.t 0)⟩,
    ⟨some 14, none, .call 24 [.t 13]⟩])
  (.cond (.t 14)
   (.seq (.ops [⟨some 2, none, .mv (.c (.bool true))⟩])
   (.ret))
   (.skip)))
  (.seq (.ops [⟨some 16, none, .mv (.t 0)⟩,
    ⟨some 17, none, .call 25 [.t 16]⟩,
    ⟨some 15, none, .mv (.t 17)⟩,
    ⟨some 18, none, .ext 0 (.t 15)⟩,
    ⟨some 19, none, .ext 1 (.t 15)⟩,
    ⟨some 3, none, .new [.slice none 0 0, .slice none 0 0]⟩,
    ⟨none, none, .store 2 (.t 3) (.t 18)⟩,
    ⟨some 4, none, .mv (.t 19)⟩])
  (.seq (.ops [⟨some 20, none, .load true 2 (.t 3)⟩,
    ⟨some 21, none, .mv (.t 4)⟩,
    ⟨some 22, none, .call 26 [.t 20, .t 21]⟩,
    ⟨some 5, none, .new [.int .i64 0, .slice none 0 0, .slice none 0 0]⟩,
    ⟨none, none, .store 3 (.t 5) (.t 22)⟩])
  (.seq (.ops [⟨some 23, none, .load true 2 (.t 3)⟩,
    ⟨some 24, none, .call 27 [.t 23]⟩,
    ⟨some 6, none, .new [.int .i64 0, .slice none 0 0, .slice none 0 0]⟩,
    ⟨none, none, .store 3 (.t 6) (.t 24)⟩])
  (.seq (.seq (.ops [⟨some 25, none, .faddr 0 (.t 5)⟩,
    ⟨some 26, none, .load false 1 (.t 25)⟩,
    ⟨some 27, none, .bin .neq (.t 26) (.c (.int .i64 0))⟩,
    ⟨some 28, none, .mv (.t 27)⟩,
    ⟨some 29, some (28, false), .faddr 0 (.t 6)⟩,
    ⟨some 30, some (28, false), .load false 1 (.t 29)⟩,
    ⟨some 31, some (28, false), .bin .neq (.t 30) (.c (.int .i64 0))⟩,
    ⟨some 32, none, .pick (.t 28) (.c (.bool true)) (.t 31)⟩])
  (.cond (.t 32)
   (.seq (.draw [⟨some 33, none, .load true 2 (.t 3)⟩,
     ⟨some 34, none, .call 17 [.t 33]⟩,
     ⟨some 35, none, .faddr 0 (.t 5)⟩,
     ⟨some 36, none, .load false 1 (.t 35)⟩,
     ⟨some 37, none, .bin .eql (.t 34) (.t 36)⟩,
     ⟨some 38, none, .mv (.t 37)⟩,
     ⟨some 39, some (38, true), .faddr 0 (.t 5)⟩,
     ⟨some 40, some (38, true), .load false 1 (.t 39)⟩,
     ⟨some 41, some (38, true), .faddr 0 (.t 6)⟩,
     ⟨some 42, some (38, true), .load false 1 (.t 41)⟩,
     ⟨some 43, some (38, true), .bin .eql (.t 40) (.t 42)⟩,
     ⟨some 44, none, .pick (.t 38) (.t 43) (.c (.bool false))⟩,
     ⟨some 45, none, .mv (.t 44)⟩,
     ⟨some 46, some (45, true), .load true 2 (.t 3)⟩,
     ⟨some 47, some (45, true), .call 19 [.t 46]⟩,
     ⟨some 48, some (45, true), .faddr 0 (.t 5)⟩,
     ⟨some 49, some (45, true), .load false 1 (.t 48)⟩] [⟨some 50, some (45, true), .bin .eql (.t 47) (.t 49)⟩,
     ⟨some 51, none, .pick (.t 45) (.t 50) (.c (.bool false))⟩,
     ⟨some 2, none, .mv (.t 51)⟩])
   (.ret))
   (.skip)))
  (.seq (.ops [⟨some 52, none, .load true 2 (.t 3)⟩,
    ⟨some 53, none, .call 28 [.t 52]⟩,
    ⟨some 7, none, .new [.int .i64 0, .slice none 0 0]⟩,
    ⟨none, none, .store 2 (.t 7) (.t 53)⟩])
  (.seq (.seq (.ops [⟨some 54, none, .faddr 1 (.t 5)⟩,
    ⟨some 55, none, .faddr 0 (.t 54)⟩,
    ⟨some 56, none, .load false 1 (.t 55)⟩,
    ⟨some 57, none, .len (.t 56)⟩,
    ⟨some 58, none, .bin .neq (.t 57) (.c (.int .i64 64))⟩,
    ⟨some 59, none, .mv (.t 58)⟩,
    ⟨some 60, some (59, false), .faddr 1 (.t 6)⟩,
    ⟨some 61, some (59, false), .faddr 0 (.t 60)⟩,
    ⟨some 62, some (59, false), .load false 1 (.t 61)⟩,
    ⟨some 63, some (59, false), .faddr 1 (.t 7)⟩,
    ⟨some 64, some (59, false), .load false 1 (.t 63)⟩,
    ⟨some 65, some (59, false), .call 29 [.t 62, .t 64]⟩,
    ⟨some 66, some (59, false), .not (.t 65)⟩,
    ⟨some 67, none, .pick (.t 59) (.c (.bool true)) (.t 66)⟩,
    ⟨some 68, none, .mv (.t 67)⟩,
    ⟨some 69, some (68, false), .faddr 1 (.t 6)⟩,
    ⟨some 70, some (68, false), .faddr 1 (.t 69)⟩,
    ⟨some 71, some (68, false), .load false 1 (.t 70)⟩,
    ⟨some 72, some (68, false), .len (.t 71)⟩,
    ⟨some 73, some (68, false), .bin .neq (.t 72) (.c (.int .i64 0))⟩,
    ⟨some 74, none, .pick (.t 68) (.c (.bool true)) (.t 73)⟩,
    ⟨some 75, none, .mv (.t 74)⟩,
    ⟨some 76, some (75, false), .faddr 1 (.t 5)⟩,
    ⟨some 77, some (75, false), .faddr 1 (.t 76)⟩,
    ⟨some 78, some (75, false), .load false 1 (.t 77)⟩,
    ⟨some 79, some (75, false), .len (.t 78)⟩,
    ⟨some 80, some (75, false), .bin .neq (.t 79) (.c (.int .i64 0))⟩,
    ⟨some 81, none, .pick (.t 75) (.c (.bool true)) (.t 80)⟩,
    ⟨some 82, none, .mv (.t 81)⟩,
    ⟨some 83, some (82, false), .faddr 1 (.t 5)⟩,
    ⟨some 84, some (82, false), .load true 2 (.t 83)⟩,
    ⟨some 85, some (82, false), .call 19 [.t 84]⟩,
    ⟨some 86, some (82, false), .bin .neq (.t 85) (.c (.int .i64 0))⟩,
    ⟨some 87, none, .pick (.t 82) (.c (.bool true)) (.t 86)⟩])
  (.cond (.t 87)
   (.seq (.ops [⟨some 2, none, .mv (.c (.bool false))⟩])
   (.ret))
   (.skip)))
  (.seq (.seq (.ops [⟨some 8, none, .mv (.c (.int .i64 0))⟩])
  (.block 0 (.loop [3, 4, 5, 7, 8] [2, 3] l5_1)))
  (.seq (.ops [⟨some 150, none, .load true 2 (.t 3)⟩,
    ⟨some 151, none, .call 30 [.t 150, .c (.int .i64 5), .c (.int .i64 77)]⟩,
    ⟨some 11, none, .new [.int .i64 0, .slice none 0 0, .slice none 0 0]⟩,
    ⟨none, none, .store 3 (.t 11) (.t 151)⟩])
  (.seq (.ops [⟨some 152, none, .faddr 0 (.t 3)⟩,
    ⟨some 153, none, .load false 1 (.t 152)⟩,
    ⟨some 154, none, .call 31 [.t 153]⟩,
    ⟨some 12, none, .new [.int .i64 0, .slice none 0 0, .slice none 0 0]⟩,
    ⟨none, none, .store 3 (.t 12) (.t 154)⟩])
  (.seq (.ops [⟨some 155, none, .faddr 0 (.t 11)⟩,
    ⟨some 156, none, .load false 1 (.t 155)⟩,
    ⟨some 157, none, .bin .eql (.t 156) (.c (.int .i64 2))⟩,
    ⟨some 158, none, .faddr 1 (.t 3)⟩,
    ⟨some 159, none, .load false 1 (.t 158)⟩,
    ⟨some 160, none, .len (.t 159)⟩,
    ⟨some 161, none, .bin .eql (.t 160) (.c (.int .i64 200))⟩,
    ⟨some 162, none, .beq false (.t 157) (.t 161)⟩,
    ⟨some 163, none, .mv (.t 162)⟩,
    ⟨some 164, some (163, true), .faddr 0 (.t 11)⟩,
    ⟨some 165, some (163, true), .load false 1 (.t 164)⟩,
    ⟨some 166, some (163, true), .bin .neq (.t 165) (.c (.int .i64 0))⟩,
    ⟨some 167, some (163, true), .mv (.t 166)⟩,
    ⟨some 168, some (167, false), .faddr 1 (.t 11)⟩,
    ⟨some 169, some (167, false), .load true 2 (.t 168)⟩,
    ⟨some 170, some (167, false), .call 22 [.t 169, .c (.int .i64 5)]⟩,
    ⟨some 171, some (167, false), .field false 1 1 (.t 170)⟩,
    ⟨some 172, some (167, false), .bin .eql (.t 171) (.c (.int .i64 77))⟩,
    ⟨some 173, some (163, true), .pick (.t 167) (.c (.bool true)) (.t 172)⟩,
    ⟨some 174, none, .pick (.t 163) (.t 173) (.c (.bool false))⟩,
    ⟨some 175, none, .mv (.t 174)⟩,
    ⟨some 176, some (175, true), .faddr 0 (.t 12)⟩,
    ⟨some 177, some (175, true), .load false 1 (.t 176)⟩,
    ⟨some 178, some (175, true), .bin .eql (.t 177) (.c (.int .i64 0))⟩,
    ⟨some 179, none, .pick (.t 175) (.t 178) (.c (.bool false))⟩,
    ⟨some 180, none, .mv (.t 179)⟩,
    ⟨some 181, some (180, true), .faddr 1 (.t 12)⟩,
    ⟨some 182, some (180, true), .faddr 0 (.t 181)⟩,
    ⟨some 183, some (180, true), .load false 1 (.t 182)⟩,
    ⟨some 184, some (180, true), .faddr 0 (.t 3)⟩,
    ⟨some 185, some (180, true), .load false 1 (.t 184)⟩,
    ⟨some 186, some (180, true), .call 29 [.t 183, .t 185]⟩,
    ⟨some 187, none, .pick (.t 180) (.t 186) (.c (.bool false))⟩,
    ⟨some 2, none, .mv (.t 187)⟩])
  (.ret))))))))))))⟩
theorem ok5 : FnOK Try.prog 5 v5 := ⟨⟨Try.f5, _, Try.func5, rfl, by kernel_rfl, rfl, by decide, by kernel_rfl, by kernel_rfl⟩⟩

/-- laws.FnJournals -/
def l15_0 : VC :=
  .seq (.seq (.ops [⟨some 89, none, .mv (.t 11)⟩,
    ⟨some 90, none, .bin .lss (.t 89) (.c (.int .i64 20))⟩])
  (.cond (.t 90)
   (.skip)
   (.exit 0)))
  (.seq (.block 1 (.ops [⟨some 93, none, .mv (.t 10)⟩,
     ⟨some 94, none, .mv (.t 0)⟩,
     ⟨some 95, none, .mv (.t 11)⟩,
     ⟨some 96, none, .call 63 [.t 94, .t 95, .c (.int .i64 2)]⟩,
     ⟨some 97, none, .bin .eql (.t 96) (.c (.int .i64 1))⟩,
     ⟨some 98, none, .bslice 1 [.bool false] 1 [(0, 1, .t 97)]⟩,
     ⟨some 99, none, .append 1 1 (.t 93) (.t 98)⟩,
     ⟨some 10, none, .mv (.t 99)⟩]))
  (.ops [⟨some 91, none, .mv (.t 11)⟩,
    ⟨some 92, none, .bin .add (.t 91) (.c (.int .i64 1))⟩,
    ⟨some 11, none, .mv (.t 92)⟩]))
def l15_1 : VC :=
  .seq (.seq (.ops [⟨some 127, none, .mv (.t 14)⟩,
    ⟨some 128, none, .mv (.t 8)⟩,
    ⟨some 129, none, .bin .leq (.t 127) (.t 128)⟩])
  (.cond (.t 129)
   (.skip)
   (.exit 2)))
  (.seq (.block 3 (.seq (.draw [⟨some 132, none, .faddr 2 (.t 13)⟩,
     ⟨some 133, none, .load false 1 (.t 132)⟩,
     ⟨some 134, none, .mv (.t 14)⟩,
     ⟨some 135, none, .iaddr 1 (.t 133) (.t 134)⟩,
     ⟨some 136, none, .load false 1 (.t 135)⟩,
     ⟨some 137, none, .faddr 2 (.t 7)⟩,
     ⟨some 138, none, .load false 1 (.t 137)⟩,
     ⟨some 139, none, .mv (.t 14)⟩,
     ⟨some 140, none, .iaddr 1 (.t 138) (.t 139)⟩,
     ⟨some 141, none, .load false 1 (.t 140)⟩] [⟨some 142, none, .call 29 [.t 136, .t 141]⟩,
     ⟨some 143, none, .not (.t 142)⟩])
   (.cond (.t 143)
    (.seq (.ops [⟨some 2, none, .mv (.c (.bool false))⟩])
    (.ret))
    (.skip))))
  (.ops [⟨some 130, none, .mv (.t 14)⟩,
    ⟨some 131, none, .bin .add (.t 130) (.c (.int .i64 1))⟩,
    ⟨some 14, none, .mv (.t 131)⟩]))
def v15 : VF := ⟨1, 158, [.t 2], true,
  .seq (.ops [⟨some 2, none, .mv (.c (.bool false))⟩])
  (.seq (.seq (.ops [⟨some 15, none, .mv (.t 0)⟩,
    ⟨some 16, none, .call 24 [.t 15]⟩])
  (.cond (.t 16)
   (.seq (.ops [⟨some 2, none, .mv (.c (.bool true))⟩])
   (.ret))
   (.skip)))
  (.seq (.ops [⟨some 18, none, .mv (.t 0)⟩,
    ⟨some 19, none, .call 61 [.t 18]⟩,
    ⟨some 17, none, .mv (.t 19)⟩,
    ⟨some 20, none, .ext 0 (.t 17)⟩,
    ⟨some 21, none, .ext 1 (.t 17)⟩,
    ⟨some 3, none, .new [.slice none 0 0, .slice none 0 0]⟩,
    ⟨none, none, .store 2 (.t 3) (.t 20)⟩,
    ⟨some 4, none, .mv (.t 21)⟩])
  (.seq (.ops [⟨some 22, none, .load true 2 (.t 3)⟩,
    ⟨some 23, none, .call 55 [.t 22]⟩,
    ⟨some 5, none, .new [.int .i64 0, .int .i64 0, .slice none 0 0]⟩,
    ⟨none, none, .store 3 (.t 5) (.t 23)⟩])
  (.seq (.ops [⟨some 24, none, .load true 2 (.t 3)⟩,
    ⟨some 25, none, .mv (.t 4)⟩,
    ⟨some 26, none, .call 60 [.t 24, .t 25]⟩,
    ⟨some 6, none, .new [.int .i64 0, .slice none 0 0, .slice none 0 0]⟩,
    ⟨none, none, .store 3 (.t 6) (.t 26)⟩])
  (.seq (.seq (.ops [⟨some 27, none, .faddr 0 (.t 6)⟩,
    ⟨some 28, none, .load false 1 (.t 27)⟩,
    ⟨some 29, none, .bin .neq (.t 28) (.c (.int .i64 0))⟩])
  (.cond (.t 29)
   (.seq (.draw [⟨some 30, none, .load true 2 (.t 3)⟩,
     ⟨some 31, none, .mv (.t 4)⟩,
     ⟨some 32, none, .call 59 [.t 30, .t 31]⟩,
     ⟨some 33, none, .field false 0 1 (.t 32)⟩,
     ⟨some 34, none, .faddr 0 (.t 6)⟩,
     ⟨some 35, none, .load false 1 (.t 34)⟩] [⟨some 36, none, .bin .eql (.t 33) (.t 35)⟩,
     ⟨some 2, none, .mv (.t 36)⟩])
   (.ret))
   (.skip)))
  (.seq (.ops [⟨some 37, none, .faddr 1 (.t 6)⟩,
    ⟨some 38, none, .load true 2 (.t 37)⟩,
    ⟨some 39, none, .call 55 [.t 38]⟩,
    ⟨some 7, none, .new [.int .i64 0, .int .i64 0, .slice none 0 0]⟩,
    ⟨none, none, .store 3 (.t 7) (.t 39)⟩])
  (.seq (.ops [⟨some 40, none, .faddr 2 (.t 5)⟩,
    ⟨some 41, none, .load false 1 (.t 40)⟩,
    ⟨some 42, none, .len (.t 41)⟩,
    ⟨some 8, none, .mv (.t 42)⟩])
  (.seq (.seq (.ops [⟨some 43, none, .faddr 0 (.t 5)⟩,
    ⟨some 44, none, .load false 1 (.t 43)⟩,
    ⟨some 45, none, .bin .neq (.t 44) (.c (.int .i64 0))⟩,
    ⟨some 46, none, .mv (.t 45)⟩,
    ⟨some 47, some (46, false), .faddr 0 (.t 7)⟩,
    ⟨some 48, some (46, false), .load false 1 (.t 47)⟩,
    ⟨some 49, some (46, false), .bin .neq (.t 48) (.c (.int .i64 0))⟩,
    ⟨some 50, none, .pick (.t 46) (.c (.bool true)) (.t 49)⟩,
    ⟨some 51, none, .mv (.t 50)⟩,
    ⟨some 52, some (51, false), .faddr 2 (.t 7)⟩,
    ⟨some 53, some (51, false), .load false 1 (.t 52)⟩,
    ⟨some 54, some (51, false), .len (.t 53)⟩,
    ⟨some 55, some (51, false), .mv (.t 8)⟩,
    ⟨some 56, some (51, false), .bin .add (.t 55) (.c (.int .i64 1))⟩,
    ⟨some 57, some (51, false), .bin .neq (.t 54) (.t 56)⟩,
    ⟨some 58, none, .pick (.t 51) (.c (.bool true)) (.t 57)⟩,
    ⟨some 59, none, .mv (.t 58)⟩,
    ⟨some 60, some (59, false), .faddr 2 (.t 7)⟩,
    ⟨some 61, some (59, false), .load false 1 (.t 60)⟩,
    ⟨some 62, some (59, false), .mv (.t 8)⟩,
    ⟨some 63, some (59, false), .iaddr 1 (.t 61) (.t 62)⟩,
    ⟨some 64, some (59, false), .load false 1 (.t 63)⟩,
    ⟨some 65, some (59, false), .mv (.t 4)⟩,
    ⟨some 66, some (59, false), .call 29 [.t 64, .t 65]⟩,
    ⟨some 67, some (59, false), .not (.t 66)⟩,
    ⟨some 68, none, .pick (.t 59) (.c (.bool true)) (.t 67)⟩,
    ⟨some 69, none, .mv (.t 68)⟩,
    ⟨some 70, some (69, false), .faddr 1 (.t 7)⟩,
    ⟨some 71, some (69, false), .load false 1 (.t 70)⟩,
    ⟨some 72, some (69, false), .faddr 1 (.t 5)⟩,
    ⟨some 73, some (69, false), .load false 1 (.t 72)⟩,
    ⟨some 74, some (69, false), .bin .add (.t 73) (.c (.int .i64 2))⟩,
    ⟨some 75, some (69, false), .mv (.t 4)⟩,
    ⟨some 76, some (69, false), .len (.t 75)⟩,
    ⟨some 77, some (69, false), .bin .add (.t 74) (.t 76)⟩,
    ⟨some 78, some (69, false), .bin .neq (.t 71) (.t 77)⟩,
    ⟨some 79, none, .pick (.t 69) (.c (.bool true)) (.t 78)⟩,
    ⟨some 80, none, .mv (.t 79)⟩,
    ⟨some 81, some (80, false), .mv (.t 4)⟩,
    ⟨some 82, some (80, false), .call 62 [.t 81]⟩,
    ⟨some 83, some (80, false), .bin .neq (.t 82) (.c (.int .i64 0))⟩,
    ⟨some 84, none, .pick (.t 80) (.c (.bool true)) (.t 83)⟩])
  (.cond (.t 84)
   (.seq (.ops [⟨some 2, none, .mv (.c (.bool false))⟩])
   (.ret))
   (.skip)))
  (.seq (.ops [⟨some 85, none, .faddr 1 (.t 6)⟩,
    ⟨some 86, none, .load true 2 (.t 85)⟩,
    ⟨some 87, none, .call 46 [.t 86]⟩,
    ⟨some 9, none, .new [.int .i64 0, .slice none 0 0, .slice none 0 0]⟩,
    ⟨none, none, .store 3 (.t 9) (.t 87)⟩])
  (.seq (.ops [⟨some 88, none, .bslice 1 [] 0 []⟩,
    ⟨some 10, none, .mv (.t 88)⟩])
  (.seq (.seq (.ops [⟨some 11, none, .mv (.c (.int .i64 0))⟩])
  (.block 0 (.loop [0, 4, 7, 8, 9, 10, 11] [2, 4, 7, 8, 9, 10] l15_0)))
  (.seq (.ops [⟨some 100, none, .faddr 1 (.t 9)⟩,
    ⟨some 101, none, .load true 2 (.t 100)⟩,
    ⟨some 102, none, .mv (.t 4)⟩,
    ⟨some 103, none, .call 60 [.t 101, .t 102]⟩,
    ⟨some 12, none, .new [.int .i64 0, .slice none 0 0, .slice none 0 0]⟩,
    ⟨none, none, .store 3 (.t 12) (.t 103)⟩])
  (.seq (.seq (.ops [⟨some 104, none, .faddr 0 (.t 12)⟩,
    ⟨some 105, none, .load false 1 (.t 104)⟩,
    ⟨some 106, none, .bin .neq (.t 105) (.c (.int .i64 0))⟩])
  (.cond (.t 106)
   (.seq (.ops [⟨some 107, none, .faddr 0 (.t 12)⟩,
     ⟨some 108, none, .load false 1 (.t 107)⟩,
     ⟨some 109, none, .bin .eql (.t 108) (.c (.int .i64 8))⟩,
     ⟨some 110, none, .mv (.t 109)⟩,
     ⟨some 111, some (110, true), .faddr 0 (.t 9)⟩,
     ⟨some 112, some (110, true), .load false 1 (.t 111)⟩,
     ⟨some 113, some (110, true), .bin .eql (.t 112) (.c (.int .i64 0))⟩,
     ⟨some 114, none, .pick (.t 110) (.t 113) (.c (.bool false))⟩,
     ⟨some 2, none, .mv (.t 114)⟩])
   (.ret))
   (.skip)))
  (.seq (.ops [⟨some 115, none, .faddr 1 (.t 12)⟩,
    ⟨some 116, none, .load true 2 (.t 115)⟩,
    ⟨some 117, none, .mv (.t 10)⟩,
    ⟨some 118, none, .call 26 [.t 116, .t 117]⟩,
    ⟨some 119, none, .field true 1 2 (.t 118)⟩,
    ⟨some 120, none, .call 55 [.t 119]⟩,
    ⟨some 13, none, .new [.int .i64 0, .int .i64 0, .slice none 0 0]⟩,
    ⟨none, none, .store 3 (.t 13) (.t 120)⟩])
  (.seq (.seq (.ops [⟨some 121, none, .faddr 2 (.t 13)⟩,
    ⟨some 122, none, .load false 1 (.t 121)⟩,
    ⟨some 123, none, .len (.t 122)⟩,
    ⟨some 124, none, .mv (.t 8)⟩,
    ⟨some 125, none, .bin .add (.t 124) (.c (.int .i64 1))⟩,
    ⟨some 126, none, .bin .lss (.t 123) (.t 125)⟩])
  (.cond (.t 126)
   (.seq (.ops [⟨some 2, none, .mv (.c (.bool false))⟩])
   (.ret))
   (.skip)))
  (.seq (.seq (.ops [⟨some 14, none, .mv (.c (.int .i64 0))⟩])
  (.block 2 (.loop [4, 7, 8, 9, 13, 14] [2, 4, 9] l15_1)))
  (.seq (.ops [⟨some 144, none, .faddr 1 (.t 9)⟩,
    ⟨some 145, none, .load true 2 (.t 144)⟩,
    ⟨some 146, none, .call 49 [.t 145]⟩,
    ⟨some 147, none, .field false 1 1 (.t 146)⟩,
    ⟨some 148, none, .mv (.t 4)⟩,
    ⟨some 149, none, .len (.t 148)⟩,
    ⟨some 150, none, .bin .geq (.t 147) (.t 149)⟩,
    ⟨some 151, none, .mv (.t 150)⟩,
    ⟨some 152, some (151, true), .mv (.t 4)⟩,
    ⟨some 153, some (151, true), .call 64 [.t 152]⟩,
    ⟨some 154, some (151, true), .mv (.t 4)⟩,
    ⟨some 155, some (151, true), .call 65 [.t 154]⟩,
    ⟨some 156, some (151, true), .bin .eql (.t 153) (.t 155)⟩,
    ⟨some 157, none, .pick (.t 151) (.t 156) (.c (.bool false))⟩,
    ⟨some 2, none, .mv (.t 157)⟩])
  (.ret))))))))))))))))))⟩
theorem ok15 : FnOK Try.prog 15 v15 := ⟨⟨Try.f15, _, Try.func15, rfl, by kernel_rfl, rfl, by decide, by kernel_rfl, by kernel_rfl⟩⟩

/-- spec.DiskFault -/
def v17 : VF := ⟨1, 4, [.t 2], true,
  .seq (.ops [⟨some 1, none, .box (.t 0)⟩,
    ⟨some 2, none, .mv (.c (.int .i64 0))⟩])
  (.seq (.ops [⟨some 3, none, .call 68 [.t 1]⟩,
    ⟨some 2, none, .mv (.t 3)⟩])
  (.ret))⟩
theorem ok17 : FnOK Try.prog 17 v17 := ⟨⟨Try.f17, _, Try.func17, rfl, by kernel_rfl, rfl, by decide, by kernel_rfl, by kernel_rfl⟩⟩

/-- impl.DiskFault -/
def v19 : VF := ⟨1, 23, [.t 2], true,
  .seq (.ops [⟨some 1, none, .box (.t 0)⟩,
    ⟨some 2, none, .mv (.c (.int .i64 0))⟩])
  (.seq (.block 0 (.seq (.ops [⟨some 4, none, .faddr 0 (.t 1)⟩,
     ⟨some 5, none, .load false 1 (.t 4)⟩,
     ⟨some 6, none, .len (.t 5)⟩,
     ⟨some 7, none, .bin .neq (.t 6) (.c (.int .i64 64))⟩,
     ⟨some 3, none, .mv (.t 7)⟩])
   (.cond (.t 3)
    (.seq (.ops [⟨some 2, none, .mv (.c (.int .i64 1))⟩])
    (.ret))
    (.seq (.ops [⟨some 9, none, .faddr 1 (.t 1)⟩,
      ⟨some 10, none, .load false 1 (.t 9)⟩,
      ⟨some 11, none, .len (.t 10)⟩,
      ⟨some 12, none, .bin .gtr (.t 11) (.c (.int .i64 200))⟩,
      ⟨some 8, none, .mv (.t 12)⟩])
    (.cond (.t 8)
     (.seq (.ops [⟨some 2, none, .mv (.c (.int .i64 2))⟩])
     (.ret))
     (.seq (.ops [⟨some 14, none, .faddr 0 (.t 1)⟩,
       ⟨some 15, none, .load false 1 (.t 14)⟩,
       ⟨some 16, none, .call 70 [.t 15]⟩,
       ⟨some 17, none, .not (.t 16)⟩,
       ⟨some 18, none, .mv (.t 17)⟩,
       ⟨some 19, some (18, false), .faddr 1 (.t 1)⟩,
       ⟨some 20, some (18, false), .load false 1 (.t 19)⟩,
       ⟨some 21, some (18, false), .call 71 [.t 20, .c (.func (.func 72) #[] #[])]⟩,
       ⟨some 22, none, .pick (.t 18) (.c (.bool true)) (.t 21)⟩,
       ⟨some 13, none, .mv (.t 22)⟩])
     (.cond (.t 13)
      (.seq (.ops [⟨some 2, none, .mv (.c (.int .i64 3))⟩])
      (.ret))
      (.skip))))))))
  (.seq (.ops [⟨some 2, none, .mv (.c (.int .i64 0))⟩])
  (.ret)))⟩
theorem ok19 : FnOK Try.prog 19 v19 := ⟨⟨Try.f19, _, Try.func19, rfl, by kernel_rfl, rfl, by decide, by kernel_rfl, by kernel_rfl⟩⟩

/-- impl.WordAt -/
def v22 : VF := ⟨2, 20, [.cell 4 true 2], true,
  .seq (.ops [⟨some 2, none, .box (.t 0)⟩,
    ⟨some 4, none, .new [.int .i64 0, .int .i64 0]⟩])
  (.seq (.seq (.draw [⟨some 6, none, .load true 2 (.t 2)⟩,
    ⟨some 7, none, .mv (.t 1)⟩,
    ⟨some 8, none, .call 73 [.t 7]⟩] [⟨some 9, none, .call 78 [.t 6, .t 8]⟩,
    ⟨some 5, none, .mv (.t 9)⟩])
  (.seq (.ops [⟨some 10, none, .mv (.t 5)⟩,
    ⟨some 11, none, .bin .neq (.t 10) (.c (.int .i64 0))⟩])
  (.cond (.t 11)
   (.seq (.ops [⟨some 12, none, .mv (.t 5)⟩,
     ⟨some 13, none, .build [.int .i64 0, .int .i64 0] [(0, 1, .t 12)]⟩,
     ⟨none, none, .store 2 (.t 4) (.t 13)⟩])
   (.ret))
   (.skip))))
  (.seq (.ops [⟨some 14, none, .load true 2 (.t 2)⟩,
    ⟨some 15, none, .call 79 [.t 14]⟩,
    ⟨some 16, none, .mv (.t 1)⟩,
    ⟨some 17, none, .iaddr 1 (.t 15) (.t 16)⟩,
    ⟨some 18, none, .load false 1 (.t 17)⟩,
    ⟨some 19, none, .build [.int .i64 0, .int .i64 0] [(1, 1, .t 18)]⟩,
    ⟨none, none, .store 2 (.t 4) (.t 19)⟩])
  (.ret)))⟩
theorem ok22 : FnOK Try.prog 22 v22 := ⟨⟨Try.f22, _, Try.func22, rfl, by kernel_rfl, rfl, by decide, by kernel_rfl, by kernel_rfl⟩⟩

/-- laws.lwBig -/
def v24 : VF := ⟨1, 6, [.t 2], true,
  .seq (.ops [⟨some 2, none, .mv (.c (.bool false))⟩])
  (.seq (.ops [⟨some 3, none, .mv (.t 0)⟩,
    ⟨some 4, none, .len (.t 3)⟩,
    ⟨some 5, none, .bin .gtr (.t 4) (.c (.int .i64 1048576))⟩,
    ⟨some 2, none, .mv (.t 5)⟩])
  (.ret))⟩
theorem ok24 : FnOK Try.prog 24 v24 := ⟨⟨Try.f24, _, Try.func24, rfl, by kernel_rfl, rfl, by decide, by kernel_rfl, by kernel_rfl⟩⟩

/-- spec.DrawCrashDisk -/
def l25_0 : VC :=
  .seq (.seq (.ops [⟨some 15, none, .mv (.t 7)⟩,
    ⟨some 16, none, .bin .gtr (.t 15) (.c (.int .i64 0))⟩])
  (.cond (.t 16)
   (.skip)
   (.exit 0)))
  (.seq (.block 1 (.ops [⟨some 19, none, .mv (.t 6)⟩,
     ⟨some 20, none, .mv (.t 4)⟩,
     ⟨some 21, none, .call 83 [.t 20, .c (.int .i64 2)]⟩,
     ⟨some 22, none, .bslice 1 [.bool false] 1 [(0, 1, .t 21)]⟩,
     ⟨some 23, none, .append 1 1 (.t 19) (.t 22)⟩,
     ⟨some 6, none, .mv (.t 23)⟩]))
  (.ops [⟨some 17, none, .mv (.t 7)⟩,
    ⟨some 18, none, .bin .sub (.t 17) (.c (.int .i64 1))⟩,
    ⟨some 7, none, .mv (.t 18)⟩]))
def v25 : VF := ⟨1, 26, [.cell 2 true 2, .t 3], true,
  .seq (.ops [⟨some 2, none, .new [.slice none 0 0, .slice none 0 0]⟩,
    ⟨some 3, none, .mv (.c (.slice none 0 0))⟩])
  (.seq (.ops [⟨some 8, none, .mv (.t 0)⟩,
    ⟨some 9, none, .call 80 [.t 8]⟩,
    ⟨some 4, none, .mv (.t 9)⟩])
  (.seq (.ops [⟨some 10, none, .mv (.t 4)⟩,
    ⟨some 11, none, .call 81 [.t 10]⟩,
    ⟨some 5, none, .new [.slice none 0 0, .slice none 0 0]⟩,
    ⟨none, none, .store 2 (.t 5) (.t 11)⟩])
  (.seq (.ops [⟨some 12, none, .bslice 1 [] 0 []⟩,
    ⟨some 6, none, .mv (.t 12)⟩])
  (.seq (.seq (.ops [⟨some 13, none, .mv (.t 4)⟩,
    ⟨some 14, none, .call 82 [.t 13, .c (.int .i64 12)]⟩,
    ⟨some 7, none, .mv (.t 14)⟩])
  (.block 0 (.loop [2, 4, 5, 6, 7] [2, 3, 5, 6] l25_0)))
  (.seq (.ops [⟨some 24, none, .load true 2 (.t 5)⟩,
    ⟨some 25, none, .mv (.t 6)⟩,
    ⟨none, none, .store 2 (.t 2) (.t 24)⟩,
    ⟨some 3, none, .mv (.t 25)⟩])
  (.ret))))))⟩
theorem ok25 : FnOK Try.prog 25 v25 := ⟨⟨Try.f25, _, Try.func25, rfl, by kernel_rfl, rfl, by decide, by kernel_rfl, by kernel_rfl⟩⟩

/-- impl.CrashDisk -/
def l26_0 : VC :=
  .seq (.ops [⟨some 22, none, .bin .lss (.t 21) (.t 20)⟩])
  (.seq (.cond (.t 22)
   (.skip)
   (.exit 0))
  (.seq (.block 1 (.seq (.ops [⟨some 23, none, .mv (.t 21)⟩,
     ⟨some 24, none, .iaddr 2 (.t 19) (.t 21)⟩,
     ⟨some 25, none, .load true 2 (.t 24)⟩,
     ⟨some 8, none, .new [.int .i64 0, .int .i64 0]⟩,
     ⟨some 7, none, .mv (.t 23)⟩,
     ⟨none, none, .store 2 (.t 8) (.t 25)⟩])
   (.seq (.ops [⟨some 26, none, .mv (.t 7)⟩,
     ⟨some 27, none, .mv (.t 1)⟩,
     ⟨some 28, none, .len (.t 27)⟩,
     ⟨some 29, none, .bin .lss (.t 26) (.t 28)⟩,
     ⟨some 30, none, .mv (.t 29)⟩,
     ⟨some 31, some (30, true), .mv (.t 1)⟩,
     ⟨some 32, some (30, true), .mv (.t 7)⟩,
     ⟨some 33, some (30, true), .iaddr 1 (.t 31) (.t 32)⟩,
     ⟨some 34, some (30, true), .load false 1 (.t 33)⟩,
     ⟨some 35, none, .pick (.t 30) (.t 34) (.c (.bool false))⟩])
   (.cond (.t 35)
    (.ops [⟨some 36, none, .faddr 1 (.t 6)⟩,
      ⟨some 37, none, .load false 1 (.t 36)⟩,
      ⟨some 38, none, .load true 2 (.t 8)⟩,
      ⟨some 39, none, .bslice 2 [.int .i64 0, .int .i64 0] 1 [(0, 2, .t 38)]⟩,
      ⟨some 40, none, .append 2 16 (.t 37) (.t 39)⟩,
      ⟨some 41, none, .faddr 1 (.t 6)⟩,
      ⟨none, none, .store 1 (.t 41) (.t 40)⟩])
    (.skip)))))
  (.ops [⟨some 42, none, .bin .add (.t 21) (.c (.int .i64 1))⟩,
    ⟨some 21, none, .mv (.t 42)⟩])))
def v26 : VF := ⟨2, 47, [.cell 4 true 3], true,
  .seq (.ops [⟨some 2, none, .box (.t 0)⟩,
    ⟨some 4, none, .new [.int .i64 0, .slice none 0 0, .slice none 0 0]⟩])
  (.seq (.seq (.ops [⟨some 9, none, .load true 2 (.t 2)⟩,
    ⟨some 10, none, .call 19 [.t 9]⟩,
    ⟨some 5, none, .mv (.t 10)⟩])
  (.seq (.ops [⟨some 11, none, .mv (.t 5)⟩,
    ⟨some 12, none, .bin .neq (.t 11) (.c (.int .i64 0))⟩])
  (.cond (.t 12)
   (.seq (.ops [⟨some 13, none, .mv (.t 5)⟩,
     ⟨some 14, none, .build [.int .i64 0, .slice none 0 0, .slice none 0 0] [(0, 1, .t 13)]⟩,
     ⟨none, none, .store 3 (.t 4) (.t 14)⟩])
   (.ret))
   (.skip))))
  (.seq (.ops [⟨some 15, none, .faddr 0 (.t 2)⟩,
    ⟨some 16, none, .load false 1 (.t 15)⟩,
    ⟨some 17, none, .build [.slice none 0 0, .slice none 0 0] [(0, 1, .t 16)]⟩,
    ⟨some 6, none, .new [.slice none 0 0, .slice none 0 0]⟩,
    ⟨none, none, .store 2 (.t 6) (.t 17)⟩])
  (.seq (.seq (.ops [⟨some 18, none, .faddr 1 (.t 2)⟩,
    ⟨some 19, none, .load false 1 (.t 18)⟩,
    ⟨some 20, none, .len (.t 19)⟩,
    ⟨some 21, none, .mv (.c (.int .i64 0))⟩])
  (.block 0 (.loop [1, 4, 6, 19, 20, 21] [4, 6] l26_0)))
  (.seq (.ops [⟨some 43, none, .load true 2 (.t 6)⟩,
    ⟨some 44, none, .call 79 [.t 43]⟩,
    ⟨some 45, none, .build [.slice none 0 0, .slice none 0 0] [(0, 1, .t 44)]⟩,
    ⟨some 46, none, .build [.int .i64 0, .slice none 0 0, .slice none 0 0] [(1, 2, .t 45)]⟩,
    ⟨none, none, .store 3 (.t 4) (.t 46)⟩])
  (.ret)))))⟩
theorem ok26 : FnOK Try.prog 26 v26 := ⟨⟨Try.f26, _, Try.func26, rfl, by kernel_rfl, rfl, by decide, by kernel_rfl, by kernel_rfl⟩⟩

/-- impl.FlushDisk -/
def v27 : VF := ⟨1, 14, [.cell 2 true 3], true,
  .seq (.ops [⟨some 1, none, .box (.t 0)⟩,
    ⟨some 2, none, .new [.int .i64 0, .slice none 0 0, .slice none 0 0]⟩])
  (.seq (.seq (.ops [⟨some 4, none, .load true 2 (.t 1)⟩,
    ⟨some 5, none, .call 19 [.t 4]⟩,
    ⟨some 3, none, .mv (.t 5)⟩])
  (.seq (.ops [⟨some 6, none, .mv (.t 3)⟩,
    ⟨some 7, none, .bin .neq (.t 6) (.c (.int .i64 0))⟩])
  (.cond (.t 7)
   (.seq (.ops [⟨some 8, none, .mv (.t 3)⟩,
     ⟨some 9, none, .build [.int .i64 0, .slice none 0 0, .slice none 0 0] [(0, 1, .t 8)]⟩,
     ⟨none, none, .store 3 (.t 2) (.t 9)⟩])
   (.ret))
   (.skip))))
  (.seq (.ops [⟨some 10, none, .load true 2 (.t 1)⟩,
    ⟨some 11, none, .call 79 [.t 10]⟩,
    ⟨some 12, none, .build [.slice none 0 0, .slice none 0 0] [(0, 1, .t 11)]⟩,
    ⟨some 13, none, .build [.int .i64 0, .slice none 0 0, .slice none 0 0] [(1, 2, .t 12)]⟩,
    ⟨none, none, .store 3 (.t 2) (.t 13)⟩])
  (.ret)))⟩
theorem ok27 : FnOK Try.prog 27 v27 := ⟨⟨Try.f27, _, Try.func27, rfl, by kernel_rfl, rfl, by decide, by kernel_rfl, by kernel_rfl⟩⟩

/-- impl.AllWords -/
def v28 : VF := ⟨1, 13, [.cell 2 true 2], true,
  .seq (.ops [⟨some 1, none, .box (.t 0)⟩,
    ⟨some 2, none, .new [.int .i64 0, .slice none 0 0]⟩])
  (.seq (.seq (.ops [⟨some 4, none, .load true 2 (.t 1)⟩,
    ⟨some 5, none, .call 19 [.t 4]⟩,
    ⟨some 3, none, .mv (.t 5)⟩])
  (.seq (.ops [⟨some 6, none, .mv (.t 3)⟩,
    ⟨some 7, none, .bin .neq (.t 6) (.c (.int .i64 0))⟩])
  (.cond (.t 7)
   (.seq (.ops [⟨some 8, none, .mv (.t 3)⟩,
     ⟨some 9, none, .build [.int .i64 0, .slice none 0 0] [(0, 1, .t 8)]⟩,
     ⟨none, none, .store 2 (.t 2) (.t 9)⟩])
   (.ret))
   (.skip))))
  (.seq (.ops [⟨some 10, none, .load true 2 (.t 1)⟩,
    ⟨some 11, none, .call 79 [.t 10]⟩,
    ⟨some 12, none, .build [.int .i64 0, .slice none 0 0] [(1, 1, .t 11)]⟩,
    ⟨none, none, .store 2 (.t 2) (.t 12)⟩])
  (.ret)))⟩
theorem ok28 : FnOK Try.prog 28 v28 := ⟨⟨Try.f28, _, Try.func28, rfl, by kernel_rfl, rfl, by decide, by kernel_rfl, by kernel_rfl⟩⟩

/-- laws.lwNums -/
def l29_0 : VC :=
  .seq (.seq (.ops [⟨some 11, none, .mv (.t 5)⟩,
    ⟨some 12, none, .mv (.t 0)⟩,
    ⟨some 13, none, .len (.t 12)⟩,
    ⟨some 14, none, .bin .lss (.t 11) (.t 13)⟩])
  (.cond (.t 14)
   (.skip)
   (.exit 0)))
  (.seq (.block 1 (.seq (.draw [⟨some 17, none, .mv (.t 0)⟩,
     ⟨some 18, none, .mv (.t 5)⟩,
     ⟨some 19, none, .iaddr 1 (.t 17) (.t 18)⟩,
     ⟨some 20, none, .load false 1 (.t 19)⟩,
     ⟨some 21, none, .mv (.t 1)⟩,
     ⟨some 22, none, .mv (.t 5)⟩,
     ⟨some 23, none, .iaddr 1 (.t 21) (.t 22)⟩,
     ⟨some 24, none, .load false 1 (.t 23)⟩] [⟨some 25, none, .bin .neq (.t 20) (.t 24)⟩])
   (.cond (.t 25)
    (.seq (.ops [⟨some 4, none, .mv (.c (.bool false))⟩])
    (.ret))
    (.skip))))
  (.ops [⟨some 15, none, .mv (.t 5)⟩,
    ⟨some 16, none, .bin .add (.t 15) (.c (.int .i64 1))⟩,
    ⟨some 5, none, .mv (.t 16)⟩]))
def v29 : VF := ⟨2, 26, [.t 4], true,
  .seq (.ops [⟨some 4, none, .mv (.c (.bool false))⟩])
  (.seq (.seq (.ops [⟨some 6, none, .mv (.t 0)⟩,
    ⟨some 7, none, .len (.t 6)⟩,
    ⟨some 8, none, .mv (.t 1)⟩,
    ⟨some 9, none, .len (.t 8)⟩,
    ⟨some 10, none, .bin .neq (.t 7) (.t 9)⟩])
  (.cond (.t 10)
   (.seq (.ops [⟨some 4, none, .mv (.c (.bool false))⟩])
   (.ret))
   (.skip)))
  (.seq (.seq (.ops [⟨some 5, none, .mv (.c (.int .i64 0))⟩])
  (.block 0 (.loop [0, 1, 5] [4] l29_0)))
  (.seq (.ops [⟨some 4, none, .mv (.c (.bool true))⟩])
  (.ret))))⟩
theorem ok29 : FnOK Try.prog 29 v29 := ⟨⟨Try.f29, _, Try.func29, rfl, by kernel_rfl, rfl, by decide, by kernel_rfl, by kernel_rfl⟩⟩

/-- impl.PutWord -/
def v30 : VF := ⟨3, 40, [.cell 6 true 3], true,
  .seq (.ops [⟨some 3, none, .box (.t 0)⟩,
    ⟨some 6, none, .new [.int .i64 0, .slice none 0 0, .slice none 0 0]⟩])
  (.seq (.draw [⟨some 9, none, .load true 2 (.t 3)⟩,
    ⟨some 10, none, .mv (.t 1)⟩,
    ⟨some 11, none, .call 73 [.t 10]⟩,
    ⟨some 12, none, .mv (.t 11)⟩,
    ⟨some 13, some (12, true), .mv (.t 2)⟩,
    ⟨some 14, some (12, true), .call 74 [.t 13]⟩,
    ⟨some 15, none, .pick (.t 12) (.t 14) (.c (.bool false))⟩] [⟨some 16, none, .call 78 [.t 9, .t 15]⟩,
    ⟨some 7, none, .mv (.t 16)⟩])
  (.seq (.block 0 (.seq (.ops [⟨some 18, none, .mv (.t 7)⟩,
     ⟨some 19, none, .bin .neq (.t 18) (.c (.int .i64 0))⟩,
     ⟨some 17, none, .mv (.t 19)⟩])
   (.cond (.t 17)
    (.seq (.ops [⟨some 20, none, .mv (.t 7)⟩,
      ⟨some 21, none, .build [.int .i64 0, .slice none 0 0, .slice none 0 0] [(0, 1, .t 20)]⟩,
      ⟨none, none, .store 3 (.t 6) (.t 21)⟩])
    (.ret))
    (.seq (.ops [⟨some 23, none, .faddr 1 (.t 3)⟩,
      ⟨some 24, none, .load false 1 (.t 23)⟩,
      ⟨some 25, none, .len (.t 24)⟩,
      ⟨some 26, none, .bin .eql (.t 25) (.c (.int .i64 200))⟩,
      ⟨some 22, none, .mv (.t 26)⟩])
    (.cond (.t 22)
     (.seq (.ops [⟨some 27, none, .build [.int .i64 0, .slice none 0 0, .slice none 0 0] [(0, 1, .c (.int .i64 2))]⟩,
       ⟨none, none, .store 3 (.t 6) (.t 27)⟩])
     (.ret))
     (.skip))))))
  (.seq (.ops [⟨some 28, none, .load true 2 (.t 3)⟩,
    ⟨some 29, none, .call 84 [.t 28]⟩,
    ⟨some 8, none, .new [.slice none 0 0, .slice none 0 0]⟩,
    ⟨none, none, .store 2 (.t 8) (.t 29)⟩])
  (.seq (.ops [⟨some 30, none, .faddr 1 (.t 8)⟩,
    ⟨some 31, none, .load false 1 (.t 30)⟩,
    ⟨some 32, none, .mv (.t 1)⟩,
    ⟨some 33, none, .mv (.t 2)⟩,
    ⟨some 34, none, .build [.int .i64 0, .int .i64 0] [(0, 1, .t 32), (1, 1, .t 33)]⟩,
    ⟨some 35, none, .bslice 2 [.int .i64 0, .int .i64 0] 1 [(0, 2, .t 34)]⟩,
    ⟨some 36, none, .append 2 16 (.t 31) (.t 35)⟩,
    ⟨some 37, none, .faddr 1 (.t 8)⟩,
    ⟨none, none, .store 1 (.t 37) (.t 36)⟩])
  (.seq (.ops [⟨some 38, none, .load true 2 (.t 8)⟩,
    ⟨some 39, none, .build [.int .i64 0, .slice none 0 0, .slice none 0 0] [(1, 2, .t 38)]⟩,
    ⟨none, none, .store 3 (.t 6) (.t 39)⟩])
  (.ret))))))⟩
theorem ok30 : FnOK Try.prog 30 v30 := ⟨⟨Try.f30, _, Try.func30, rfl, by kernel_rfl, rfl, by decide, by kernel_rfl, by kernel_rfl⟩⟩

/-- impl.NewDisk -/
def v31 : VF := ⟨1, 22, [.cell 2 true 3], true,
  .seq (.ops [⟨some 2, none, .new [.int .i64 0, .slice none 0 0, .slice none 0 0]⟩])
  (.seq (.ops [⟨some 5, none, .mv (.t 0)⟩,
    ⟨some 6, none, .mv (.t 0)⟩,
    ⟨some 7, none, .len (.t 6)⟩,
    ⟨some 8, none, .bin .sub (.c (.int .i64 64)) (.t 7)⟩,
    ⟨some 9, none, .mx (.c (.int .i64 0)) (.t 8)⟩,
    ⟨some 10, none, .mkslice 1 8 [.int .i64 0] (.t 9) (.t 9)⟩,
    ⟨some 11, none, .bslice 1 [.slice none 0 0, .slice none 0 0] 2 [(0, 1, .t 5), (1, 1, .t 10)]⟩,
    ⟨some 12, none, .call 85 [.t 11]⟩,
    ⟨some 13, none, .build [.slice none 0 0, .slice none 0 0] [(0, 1, .t 12)]⟩,
    ⟨some 3, none, .new [.slice none 0 0, .slice none 0 0]⟩,
    ⟨none, none, .store 2 (.t 3) (.t 13)⟩])
  (.seq (.seq (.ops [⟨some 14, none, .load true 2 (.t 3)⟩,
    ⟨some 15, none, .call 19 [.t 14]⟩,
    ⟨some 4, none, .mv (.t 15)⟩])
  (.seq (.ops [⟨some 16, none, .mv (.t 4)⟩,
    ⟨some 17, none, .bin .neq (.t 16) (.c (.int .i64 0))⟩])
  (.cond (.t 17)
   (.seq (.ops [⟨some 18, none, .mv (.t 4)⟩,
     ⟨some 19, none, .build [.int .i64 0, .slice none 0 0, .slice none 0 0] [(0, 1, .t 18)]⟩,
     ⟨none, none, .store 3 (.t 2) (.t 19)⟩])
   (.ret))
   (.skip))))
  (.seq (.ops [⟨some 20, none, .load true 2 (.t 3)⟩,
    ⟨some 21, none, .build [.int .i64 0, .slice none 0 0, .slice none 0 0] [(1, 2, .t 20)]⟩,
    ⟨none, none, .store 3 (.t 2) (.t 21)⟩])
  (.ret))))⟩
theorem ok31 : FnOK Try.prog 31 v31 := ⟨⟨Try.f31, _, Try.func31, rfl, by kernel_rfl, rfl, by decide, by kernel_rfl, by kernel_rfl⟩⟩

/-- spec.FlushDisk -/
def v44 : VF := ⟨1, 12, [.cell 2 true 3], true,
  .seq (.ops [⟨some 1, none, .box (.t 0)⟩,
    ⟨some 2, none, .new [.int .i64 0, .slice none 0 0, .slice none 0 0]⟩])
  (.seq (.seq (.ops [⟨some 4, none, .call 68 [.t 1]⟩,
    ⟨some 3, none, .mv (.t 4)⟩])
  (.seq (.ops [⟨some 5, none, .mv (.t 3)⟩,
    ⟨some 6, none, .bin .neq (.t 5) (.c (.int .i64 0))⟩])
  (.cond (.t 6)
   (.seq (.ops [⟨some 7, none, .mv (.t 3)⟩,
     ⟨some 8, none, .build [.int .i64 0, .slice none 0 0, .slice none 0 0] [(0, 1, .t 7)]⟩,
     ⟨none, none, .store 3 (.t 2) (.t 8)⟩])
   (.ret))
   (.skip))))
  (.seq (.ops [⟨some 9, none, .call 87 [.t 1]⟩,
    ⟨some 10, none, .build [.slice none 0 0, .slice none 0 0] [(0, 1, .t 9)]⟩,
    ⟨some 11, none, .build [.int .i64 0, .slice none 0 0, .slice none 0 0] [(1, 2, .t 10)]⟩,
    ⟨none, none, .store 3 (.t 2) (.t 11)⟩])
  (.ret)))⟩
theorem ok44 : FnOK Try.prog 44 v44 := ⟨⟨Try.f44, _, Try.func44, rfl, by kernel_rfl, rfl, by decide, by kernel_rfl, by kernel_rfl⟩⟩

/-- spec.CommitJournal -/
def v45 : VF := ⟨1, 5, [.cell 2 true 3], true,
  .seq (.ops [⟨some 1, none, .box (.t 0)⟩,
    ⟨some 2, none, .new [.int .i64 0, .slice none 0 0, .slice none 0 0]⟩])
  (.seq (.ops [⟨some 3, none, .load true 2 (.t 1)⟩,
    ⟨some 4, none, .call 44 [.t 3]⟩,
    ⟨none, none, .store 3 (.t 2) (.t 4)⟩])
  (.ret))⟩
theorem ok45 : FnOK Try.prog 45 v45 := ⟨⟨Try.f45, _, Try.func45, rfl, by kernel_rfl, rfl, by decide, by kernel_rfl, by kernel_rfl⟩⟩

/-- impl.CommitJournal -/
def v46 : VF := ⟨1, 5, [.cell 2 true 3], true,
  .seq (.ops [⟨some 1, none, .box (.t 0)⟩,
    ⟨some 2, none, .new [.int .i64 0, .slice none 0 0, .slice none 0 0]⟩])
  (.seq (.ops [⟨some 3, none, .load true 2 (.t 1)⟩,
    ⟨some 4, none, .call 27 [.t 3]⟩,
    ⟨none, none, .store 3 (.t 2) (.t 4)⟩])
  (.ret))⟩
theorem ok46 : FnOK Try.prog 46 v46 := ⟨⟨Try.f46, _, Try.func46, rfl, by kernel_rfl, rfl, by decide, by kernel_rfl, by kernel_rfl⟩⟩

/-- impl.RoomOf -/
def v49 : VF := ⟨1, 22, [.cell 2 true 2], true,
  .seq (.ops [⟨some 1, none, .box (.t 0)⟩,
    ⟨some 2, none, .new [.int .i64 0, .int .i64 0]⟩])
  (.seq (.seq (.ops [⟨some 6, none, .load true 2 (.t 1)⟩,
    ⟨some 7, none, .call 19 [.t 6]⟩,
    ⟨some 3, none, .mv (.t 7)⟩])
  (.seq (.ops [⟨some 8, none, .mv (.t 3)⟩,
    ⟨some 9, none, .bin .neq (.t 8) (.c (.int .i64 0))⟩])
  (.cond (.t 9)
   (.seq (.ops [⟨some 10, none, .mv (.t 3)⟩,
     ⟨some 11, none, .build [.int .i64 0, .int .i64 0] [(0, 1, .t 10)]⟩,
     ⟨none, none, .store 2 (.t 2) (.t 11)⟩])
   (.ret))
   (.skip))))
  (.seq (.ops [⟨some 13, none, .load true 2 (.t 1)⟩,
    ⟨some 14, none, .call 94 [.t 13]⟩,
    ⟨some 12, none, .mv (.t 14)⟩,
    ⟨some 15, none, .ext 0 (.t 12)⟩,
    ⟨some 16, none, .ext 1 (.t 12)⟩,
    ⟨some 4, none, .mv (.t 15)⟩,
    ⟨some 5, none, .mv (.t 16)⟩])
  (.seq (.ops [⟨some 17, none, .mv (.t 5)⟩,
    ⟨some 18, none, .bin .sub (.c (.int .i64 64)) (.t 17)⟩,
    ⟨some 19, none, .bin .sub (.t 18) (.c (.int .i64 2))⟩,
    ⟨some 20, none, .mx (.c (.int .i64 0)) (.t 19)⟩,
    ⟨some 21, none, .build [.int .i64 0, .int .i64 0] [(1, 1, .t 20)]⟩,
    ⟨none, none, .store 2 (.t 2) (.t 21)⟩])
  (.ret))))⟩
theorem ok49 : FnOK Try.prog 49 v49 := ⟨⟨Try.f49, _, Try.func49, rfl, by kernel_rfl, rfl, by decide, by kernel_rfl, by kernel_rfl⟩⟩

/-- spec.CrashDisk -/
def l50_0 : VC :=
  .seq (.seq (.ops [⟨some 18, none, .mv (.t 7)⟩,
    ⟨some 19, none, .faddr 1 (.t 2)⟩,
    ⟨some 20, none, .load false 1 (.t 19)⟩,
    ⟨some 21, none, .len (.t 20)⟩,
    ⟨some 22, none, .bin .lss (.t 18) (.t 21)⟩,
    ⟨some 23, none, .mv (.t 22)⟩,
    ⟨some 24, some (23, true), .mv (.t 7)⟩,
    ⟨some 25, some (23, true), .mv (.t 1)⟩,
    ⟨some 26, some (23, true), .len (.t 25)⟩,
    ⟨some 27, some (23, true), .bin .lss (.t 24) (.t 26)⟩,
    ⟨some 28, none, .pick (.t 23) (.t 27) (.c (.bool false))⟩])
  (.cond (.t 28)
   (.skip)
   (.exit 0)))
  (.seq (.block 1 (.seq (.ops [⟨some 31, none, .mv (.t 1)⟩,
     ⟨some 32, none, .mv (.t 7)⟩,
     ⟨some 33, none, .iaddr 1 (.t 31) (.t 32)⟩,
     ⟨some 34, none, .load false 1 (.t 33)⟩])
   (.cond (.t 34)
    (.draw [⟨some 35, none, .faddr 0 (.t 6)⟩,
      ⟨some 36, none, .load false 1 (.t 35)⟩,
      ⟨some 37, none, .faddr 1 (.t 2)⟩,
      ⟨some 38, none, .load false 1 (.t 37)⟩,
      ⟨some 39, none, .mv (.t 7)⟩,
      ⟨some 40, none, .iaddr 2 (.t 38) (.t 39)⟩,
      ⟨some 41, none, .faddr 0 (.t 40)⟩,
      ⟨some 42, none, .load false 1 (.t 41)⟩,
      ⟨some 43, none, .faddr 1 (.t 2)⟩,
      ⟨some 44, none, .load false 1 (.t 43)⟩,
      ⟨some 45, none, .mv (.t 7)⟩,
      ⟨some 46, none, .iaddr 2 (.t 44) (.t 45)⟩,
      ⟨some 47, none, .faddr 1 (.t 46)⟩,
      ⟨some 48, none, .load false 1 (.t 47)⟩] [⟨some 49, none, .iaddr 1 (.t 36) (.t 42)⟩,
      ⟨none, none, .store 1 (.t 49) (.t 48)⟩])
    (.skip))))
  (.ops [⟨some 29, none, .mv (.t 7)⟩,
    ⟨some 30, none, .bin .add (.t 29) (.c (.int .i64 1))⟩,
    ⟨some 7, none, .mv (.t 30)⟩]))
def v50 : VF := ⟨2, 52, [.cell 4 true 3], true,
  .seq (.ops [⟨some 2, none, .box (.t 0)⟩,
    ⟨some 4, none, .new [.int .i64 0, .slice none 0 0, .slice none 0 0]⟩])
  (.seq (.seq (.ops [⟨some 8, none, .call 68 [.t 2]⟩,
    ⟨some 5, none, .mv (.t 8)⟩])
  (.seq (.ops [⟨some 9, none, .mv (.t 5)⟩,
    ⟨some 10, none, .bin .neq (.t 9) (.c (.int .i64 0))⟩])
  (.cond (.t 10)
   (.seq (.ops [⟨some 11, none, .mv (.t 5)⟩,
     ⟨some 12, none, .build [.int .i64 0, .slice none 0 0, .slice none 0 0] [(0, 1, .t 11)]⟩,
     ⟨none, none, .store 3 (.t 4) (.t 12)⟩])
   (.ret))
   (.skip))))
  (.seq (.ops [⟨some 13, none, .bslice 1 [] 0 []⟩,
    ⟨some 14, none, .faddr 0 (.t 2)⟩,
    ⟨some 15, none, .load false 1 (.t 14)⟩,
    ⟨some 16, none, .append 1 8 (.t 13) (.t 15)⟩,
    ⟨some 17, none, .build [.slice none 0 0, .slice none 0 0] [(0, 1, .t 16)]⟩,
    ⟨some 6, none, .new [.slice none 0 0, .slice none 0 0]⟩,
    ⟨none, none, .store 2 (.t 6) (.t 17)⟩])
  (.seq (.seq (.ops [⟨some 7, none, .mv (.c (.int .i64 0))⟩])
  (.block 0 (.loop [1, 2, 4, 6, 7] [4, 6] l50_0)))
  (.seq (.ops [⟨some 50, none, .load true 2 (.t 6)⟩,
    ⟨some 51, none, .build [.int .i64 0, .slice none 0 0, .slice none 0 0] [(1, 2, .t 50)]⟩,
    ⟨none, none, .store 3 (.t 4) (.t 51)⟩])
  (.ret)))))⟩
theorem ok50 : FnOK Try.prog 50 v50 := ⟨⟨Try.f50, _, Try.func50, rfl, by kernel_rfl, rfl, by decide, by kernel_rfl, by kernel_rfl⟩⟩

/-- impl.ScanJournal -/
def v55 : VF := ⟨1, 20, [.cell 2 true 3], true,
  .seq (.ops [⟨some 1, none, .box (.t 0)⟩,
    ⟨some 2, none, .new [.int .i64 0, .int .i64 0, .slice none 0 0]⟩])
  (.seq (.seq (.ops [⟨some 6, none, .load true 2 (.t 1)⟩,
    ⟨some 7, none, .call 19 [.t 6]⟩,
    ⟨some 3, none, .mv (.t 7)⟩])
  (.seq (.ops [⟨some 8, none, .mv (.t 3)⟩,
    ⟨some 9, none, .bin .neq (.t 8) (.c (.int .i64 0))⟩])
  (.cond (.t 9)
   (.seq (.ops [⟨some 10, none, .mv (.t 3)⟩,
     ⟨some 11, none, .build [.int .i64 0, .int .i64 0, .slice none 0 0] [(0, 1, .t 10)]⟩,
     ⟨none, none, .store 3 (.t 2) (.t 11)⟩])
   (.ret))
   (.skip))))
  (.seq (.ops [⟨some 13, none, .load true 2 (.t 1)⟩,
    ⟨some 14, none, .call 94 [.t 13]⟩,
    ⟨some 12, none, .mv (.t 14)⟩,
    ⟨some 15, none, .ext 0 (.t 12)⟩,
    ⟨some 16, none, .ext 1 (.t 12)⟩,
    ⟨some 4, none, .mv (.t 15)⟩,
    ⟨some 5, none, .mv (.t 16)⟩])
  (.seq (.ops [⟨some 17, none, .mv (.t 4)⟩,
    ⟨some 18, none, .mv (.t 5)⟩,
    ⟨some 19, none, .build [.int .i64 0, .int .i64 0, .slice none 0 0] [(2, 1, .t 17), (1, 1, .t 18)]⟩,
    ⟨none, none, .store 3 (.t 2) (.t 19)⟩])
  (.ret))))⟩
theorem ok55 : FnOK Try.prog 55 v55 := ⟨⟨Try.f55, _, Try.func55, rfl, by kernel_rfl, rfl, by decide, by kernel_rfl, by kernel_rfl⟩⟩

/-- spec.AppendJournal -/
def l59_0 : VC :=
  .seq (.seq (.ops [⟨some 65, none, .mv (.t 12)⟩,
    ⟨some 66, none, .mv (.t 11)⟩,
    ⟨some 67, none, .len (.t 66)⟩,
    ⟨some 68, none, .bin .lss (.t 65) (.t 67)⟩])
  (.cond (.t 68)
   (.skip)
   (.exit 0)))
  (.seq (.block 1 (.draw [⟨some 71, none, .faddr 1 (.t 10)⟩,
     ⟨some 72, none, .load false 1 (.t 71)⟩,
     ⟨some 73, none, .mv (.t 8)⟩,
     ⟨some 74, none, .mv (.t 12)⟩,
     ⟨some 75, none, .bin .add (.t 73) (.t 74)⟩,
     ⟨some 76, none, .mv (.t 11)⟩,
     ⟨some 77, none, .mv (.t 12)⟩,
     ⟨some 78, none, .iaddr 1 (.t 76) (.t 77)⟩,
     ⟨some 79, none, .load false 1 (.t 78)⟩,
     ⟨some 80, none, .build [.int .i64 0, .int .i64 0] [(0, 1, .t 75), (1, 1, .t 79)]⟩,
     ⟨some 81, none, .bslice 2 [.int .i64 0, .int .i64 0] 1 [(0, 2, .t 80)]⟩] [⟨some 82, none, .append 2 16 (.t 72) (.t 81)⟩,
     ⟨some 83, none, .faddr 1 (.t 10)⟩,
     ⟨none, none, .store 1 (.t 83) (.t 82)⟩]))
  (.ops [⟨some 69, none, .mv (.t 12)⟩,
    ⟨some 70, none, .bin .add (.t 69) (.c (.int .i64 1))⟩,
    ⟨some 12, none, .mv (.t 70)⟩]))
def v59 : VF := ⟨2, 86, [.cell 4 true 3], true,
  .seq (.ops [⟨some 2, none, .box (.t 0)⟩,
    ⟨some 4, none, .new [.int .i64 0, .slice none 0 0, .slice none 0 0]⟩])
  (.seq (.seq (.ops [⟨some 13, none, .call 68 [.t 2]⟩,
    ⟨some 5, none, .mv (.t 13)⟩])
  (.seq (.ops [⟨some 14, none, .mv (.t 5)⟩,
    ⟨some 15, none, .bin .neq (.t 14) (.c (.int .i64 0))⟩])
  (.cond (.t 15)
   (.seq (.ops [⟨some 16, none, .mv (.t 5)⟩,
     ⟨some 17, none, .build [.int .i64 0, .slice none 0 0, .slice none 0 0] [(0, 1, .t 16)]⟩,
     ⟨none, none, .store 3 (.t 4) (.t 17)⟩])
   (.ret))
   (.skip))))
  (.seq (.seq (.ops [⟨some 18, none, .mv (.t 1)⟩,
    ⟨some 19, none, .call 98 [.t 18]⟩,
    ⟨some 6, none, .mv (.t 19)⟩])
  (.seq (.ops [⟨some 20, none, .mv (.t 6)⟩,
    ⟨some 21, none, .bin .neq (.t 20) (.c (.int .i64 0))⟩])
  (.cond (.t 21)
   (.seq (.ops [⟨some 22, none, .mv (.t 6)⟩,
     ⟨some 23, none, .build [.int .i64 0, .slice none 0 0, .slice none 0 0] [(0, 1, .t 22)]⟩,
     ⟨none, none, .store 3 (.t 4) (.t 23)⟩])
   (.ret))
   (.skip))))
  (.seq (.ops [⟨some 25, none, .call 87 [.t 2]⟩,
    ⟨some 26, none, .call 92 [.t 25]⟩,
    ⟨some 24, none, .mv (.t 26)⟩,
    ⟨some 27, none, .ext 0 (.t 24)⟩,
    ⟨some 28, none, .ext 1 (.t 24)⟩,
    ⟨some 7, none, .mv (.t 27)⟩,
    ⟨some 8, none, .mv (.t 28)⟩])
  (.seq (.ops [⟨some 29, none, .mv (.t 1)⟩,
    ⟨some 30, none, .len (.t 29)⟩,
    ⟨some 9, none, .mv (.t 30)⟩])
  (.seq (.seq (.ops [⟨some 31, none, .mv (.t 8)⟩,
    ⟨some 32, none, .bin .add (.t 31) (.c (.int .i64 2))⟩,
    ⟨some 33, none, .mv (.t 9)⟩,
    ⟨some 34, none, .bin .add (.t 32) (.t 33)⟩,
    ⟨some 35, none, .bin .gtr (.t 34) (.c (.int .i64 64))⟩,
    ⟨some 36, none, .mv (.t 35)⟩,
    ⟨some 37, some (36, false), .faddr 1 (.t 2)⟩,
    ⟨some 38, some (36, false), .load false 1 (.t 37)⟩,
    ⟨some 39, some (36, false), .len (.t 38)⟩,
    ⟨some 40, some (36, false), .bin .add (.t 39) (.c (.int .i64 3))⟩,
    ⟨some 41, some (36, false), .mv (.t 1)⟩,
    ⟨some 42, some (36, false), .len (.t 41)⟩,
    ⟨some 43, some (36, false), .bin .add (.t 40) (.t 42)⟩,
    ⟨some 44, some (36, false), .bin .gtr (.t 43) (.c (.int .i64 200))⟩,
    ⟨some 45, none, .pick (.t 36) (.c (.bool true)) (.t 44)⟩])
  (.cond (.t 45)
   (.seq (.ops [⟨some 46, none, .build [.int .i64 0, .slice none 0 0, .slice none 0 0] [(0, 1, .c (.int .i64 8))]⟩,
     ⟨none, none, .store 3 (.t 4) (.t 46)⟩])
   (.ret))
   (.skip)))
  (.seq (.ops [⟨some 47, none, .load true 2 (.t 2)⟩,
    ⟨some 48, none, .call 91 [.t 47]⟩,
    ⟨some 10, none, .new [.slice none 0 0, .slice none 0 0]⟩,
    ⟨none, none, .store 2 (.t 10) (.t 48)⟩])
  (.seq (.ops [⟨some 49, none, .mv (.t 9)⟩,
    ⟨some 50, none, .mv (.t 7)⟩,
    ⟨some 51, none, .len (.t 50)⟩,
    ⟨some 52, none, .mv (.t 1)⟩,
    ⟨some 53, none, .call 99 [.t 51, .t 52]⟩,
    ⟨some 54, none, .bslice 1 [.int .i64 0, .int .i64 0] 2 [(0, 1, .t 49), (1, 1, .t 53)]⟩,
    ⟨some 55, none, .mv (.t 1)⟩,
    ⟨some 56, none, .append 1 8 (.t 54) (.t 55)⟩,
    ⟨some 11, none, .mv (.t 56)⟩])
  (.seq (.seq (.ops [⟨some 57, none, .mv (.t 8)⟩,
    ⟨some 58, none, .bin .add (.t 57) (.c (.int .i64 2))⟩,
    ⟨some 59, none, .mv (.t 9)⟩,
    ⟨some 60, none, .bin .add (.t 58) (.t 59)⟩,
    ⟨some 61, none, .bin .lss (.t 60) (.c (.int .i64 64))⟩])
  (.cond (.t 61)
   (.ops [⟨some 62, none, .mv (.t 11)⟩,
     ⟨some 63, none, .bslice 1 [.int .i64 0] 1 [(0, 1, .c (.int .i64 0))]⟩,
     ⟨some 64, none, .append 1 8 (.t 62) (.t 63)⟩,
     ⟨some 11, none, .mv (.t 64)⟩])
   (.skip)))
  (.seq (.seq (.ops [⟨some 12, none, .mv (.c (.int .i64 0))⟩])
  (.block 0 (.loop [4, 8, 10, 11, 12] [4, 10] l59_0)))
  (.seq (.ops [⟨some 84, none, .load true 2 (.t 10)⟩,
    ⟨some 85, none, .build [.int .i64 0, .slice none 0 0, .slice none 0 0] [(1, 2, .t 84)]⟩,
    ⟨none, none, .store 3 (.t 4) (.t 85)⟩])
  (.ret)))))))))))⟩
theorem ok59 : FnOK Try.prog 59 v59 := ⟨⟨Try.f59, _, Try.func59, rfl, by kernel_rfl, rfl, by decide, by kernel_rfl, by kernel_rfl⟩⟩

/-- impl.AppendJournal -/
def l60_0 : VC :=
  .seq (.ops [⟨some 55, none, .bin .lss (.t 54) (.t 53)⟩])
  (.seq (.cond (.t 55)
   (.skip)
   (.exit 0))
  (.seq (.block 1 (.seq (.ops [⟨some 56, none, .mv (.t 54)⟩,
     ⟨some 57, none, .iaddr 1 (.t 52) (.t 54)⟩,
     ⟨some 58, none, .load false 1 (.t 57)⟩,
     ⟨some 10, none, .mv (.t 56)⟩,
     ⟨some 11, none, .mv (.t 58)⟩])
   (.seq (.ops [⟨some 59, none, .mv (.t 8)⟩,
     ⟨some 60, none, .mv (.t 10)⟩,
     ⟨some 61, none, .bin .add (.t 59) (.t 60)⟩,
     ⟨some 62, none, .bin .lss (.t 61) (.c (.int .i64 64))⟩])
   (.cond (.t 62)
    (.ops [⟨some 63, none, .faddr 1 (.t 9)⟩,
      ⟨some 64, none, .load false 1 (.t 63)⟩,
      ⟨some 65, none, .mv (.t 8)⟩,
      ⟨some 66, none, .mv (.t 10)⟩,
      ⟨some 67, none, .bin .add (.t 65) (.t 66)⟩,
      ⟨some 68, none, .mv (.t 11)⟩,
      ⟨some 69, none, .build [.int .i64 0, .int .i64 0] [(0, 1, .t 67), (1, 1, .t 68)]⟩,
      ⟨some 70, none, .bslice 2 [.int .i64 0, .int .i64 0] 1 [(0, 2, .t 69)]⟩,
      ⟨some 71, none, .append 2 16 (.t 64) (.t 70)⟩,
      ⟨some 72, none, .faddr 1 (.t 9)⟩,
      ⟨none, none, .store 1 (.t 72) (.t 71)⟩])
    (.skip)))))
  (.ops [⟨some 73, none, .bin .add (.t 54) (.c (.int .i64 1))⟩,
    ⟨some 54, none, .mv (.t 73)⟩])))
def v60 : VF := ⟨2, 76, [.cell 4 true 3], true,
  .seq (.ops [⟨some 2, none, .box (.t 0)⟩,
    ⟨some 4, none, .new [.int .i64 0, .slice none 0 0, .slice none 0 0]⟩])
  (.seq (.seq (.ops [⟨some 12, none, .load true 2 (.t 2)⟩,
    ⟨some 13, none, .call 19 [.t 12]⟩,
    ⟨some 5, none, .mv (.t 13)⟩])
  (.seq (.ops [⟨some 14, none, .mv (.t 5)⟩,
    ⟨some 15, none, .bin .neq (.t 14) (.c (.int .i64 0))⟩])
  (.cond (.t 15)
   (.seq (.ops [⟨some 16, none, .mv (.t 5)⟩,
     ⟨some 17, none, .build [.int .i64 0, .slice none 0 0, .slice none 0 0] [(0, 1, .t 16)]⟩,
     ⟨none, none, .store 3 (.t 4) (.t 17)⟩])
   (.ret))
   (.skip))))
  (.seq (.seq (.ops [⟨some 18, none, .mv (.t 1)⟩,
    ⟨some 19, none, .call 62 [.t 18]⟩,
    ⟨some 6, none, .mv (.t 19)⟩])
  (.seq (.ops [⟨some 20, none, .mv (.t 6)⟩,
    ⟨some 21, none, .bin .neq (.t 20) (.c (.int .i64 0))⟩])
  (.cond (.t 21)
   (.seq (.ops [⟨some 22, none, .mv (.t 6)⟩,
     ⟨some 23, none, .build [.int .i64 0, .slice none 0 0, .slice none 0 0] [(0, 1, .t 22)]⟩,
     ⟨none, none, .store 3 (.t 4) (.t 23)⟩])
   (.ret))
   (.skip))))
  (.seq (.ops [⟨some 25, none, .load true 2 (.t 2)⟩,
    ⟨some 26, none, .call 94 [.t 25]⟩,
    ⟨some 24, none, .mv (.t 26)⟩,
    ⟨some 27, none, .ext 0 (.t 24)⟩,
    ⟨some 28, none, .ext 1 (.t 24)⟩,
    ⟨some 7, none, .mv (.t 27)⟩,
    ⟨some 8, none, .mv (.t 28)⟩])
  (.seq (.seq (.ops [⟨some 29, none, .mv (.t 8)⟩,
    ⟨some 30, none, .bin .sub (.c (.int .i64 64)) (.t 29)⟩,
    ⟨some 31, none, .mv (.t 1)⟩,
    ⟨some 32, none, .len (.t 31)⟩,
    ⟨some 33, none, .bin .add (.t 32) (.c (.int .i64 2))⟩,
    ⟨some 34, none, .bin .lss (.t 30) (.t 33)⟩,
    ⟨some 35, none, .mv (.t 34)⟩,
    ⟨some 36, some (35, false), .faddr 1 (.t 2)⟩,
    ⟨some 37, some (35, false), .load false 1 (.t 36)⟩,
    ⟨some 38, some (35, false), .len (.t 37)⟩,
    ⟨some 39, some (35, false), .mv (.t 1)⟩,
    ⟨some 40, some (35, false), .len (.t 39)⟩,
    ⟨some 41, some (35, false), .bin .sub (.c (.int .i64 197)) (.t 40)⟩,
    ⟨some 42, some (35, false), .bin .gtr (.t 38) (.t 41)⟩,
    ⟨some 43, none, .pick (.t 35) (.c (.bool true)) (.t 42)⟩])
  (.cond (.t 43)
   (.seq (.ops [⟨some 44, none, .build [.int .i64 0, .slice none 0 0, .slice none 0 0] [(0, 1, .c (.int .i64 8))]⟩,
     ⟨none, none, .store 3 (.t 4) (.t 44)⟩])
   (.ret))
   (.skip)))
  (.seq (.ops [⟨some 45, none, .load true 2 (.t 2)⟩,
    ⟨some 46, none, .call 84 [.t 45]⟩,
    ⟨some 9, none, .new [.slice none 0 0, .slice none 0 0]⟩,
    ⟨none, none, .store 2 (.t 9) (.t 46)⟩])
  (.seq (.seq (.ops [⟨some 47, none, .mv (.t 7)⟩,
    ⟨some 48, none, .len (.t 47)⟩,
    ⟨some 49, none, .mv (.t 1)⟩,
    ⟨some 50, none, .call 100 [.t 48, .t 49]⟩,
    ⟨some 51, none, .bslice 1 [.int .i64 0] 1 [(0, 1, .c (.int .i64 0))]⟩,
    ⟨some 52, none, .append 1 8 (.t 50) (.t 51)⟩,
    ⟨some 53, none, .len (.t 52)⟩,
    ⟨some 54, none, .mv (.c (.int .i64 0))⟩])
  (.block 0 (.loop [4, 8, 9, 52, 53, 54] [4, 9] l60_0)))
  (.seq (.ops [⟨some 74, none, .load true 2 (.t 9)⟩,
    ⟨some 75, none, .build [.int .i64 0, .slice none 0 0, .slice none 0 0] [(1, 2, .t 74)]⟩,
    ⟨none, none, .store 3 (.t 4) (.t 75)⟩])
  (.ret))))))))⟩
theorem ok60 : FnOK Try.prog 60 v60 := ⟨⟨Try.f60, _, Try.func60, rfl, by kernel_rfl, rfl, by decide, by kernel_rfl, by kernel_rfl⟩⟩

/-- spec.DrawAppendJournal -/
def v61 : VF := ⟨1, 19, [.cell 2 true 2, .t 3], true,
  .seq (.ops [⟨some 2, none, .new [.slice none 0 0, .slice none 0 0]⟩,
    ⟨some 3, none, .mv (.c (.slice none 0 0))⟩])
  (.seq (.ops [⟨some 7, none, .mv (.t 0)⟩,
    ⟨some 8, none, .call 80 [.t 7]⟩,
    ⟨some 4, none, .mv (.t 8)⟩])
  (.seq (.ops [⟨some 9, none, .mv (.t 4)⟩,
    ⟨some 10, none, .call 101 [.t 9]⟩,
    ⟨some 5, none, .new [.slice none 0 0, .slice none 0 0]⟩,
    ⟨none, none, .store 2 (.t 5) (.t 10)⟩])
  (.seq (.ops [⟨some 11, none, .mv (.t 4)⟩,
    ⟨some 12, none, .call 102 [.t 11]⟩,
    ⟨some 6, none, .mv (.t 12)⟩])
  (.seq (.seq (.ops [⟨some 13, none, .mv (.t 4)⟩,
    ⟨some 14, none, .call 83 [.t 13, .c (.int .i64 10)]⟩])
  (.cond (.t 14)
   (.ops [⟨some 15, none, .mv (.t 0)⟩,
     ⟨some 16, none, .call 103 [.t 15]⟩,
     ⟨some 6, none, .mv (.t 16)⟩])
   (.skip)))
  (.seq (.ops [⟨some 17, none, .load true 2 (.t 5)⟩,
    ⟨some 18, none, .mv (.t 6)⟩,
    ⟨none, none, .store 2 (.t 2) (.t 17)⟩,
    ⟨some 3, none, .mv (.t 18)⟩])
  (.ret))))))⟩
theorem ok61 : FnOK Try.prog 61 v61 := ⟨⟨Try.f61, _, Try.func61, rfl, by kernel_rfl, rfl, by decide, by kernel_rfl, by kernel_rfl⟩⟩

/-- impl.RecordFault -/
def v62 : VF := ⟨1, 12, [.t 2], true,
  .seq (.ops [⟨some 2, none, .mv (.c (.int .i64 0))⟩])
  (.seq (.block 0 (.seq (.ops [⟨some 4, none, .mv (.t 0)⟩,
     ⟨some 5, none, .len (.t 4)⟩,
     ⟨some 6, none, .call 104 [.t 5, .c (.int .i64 1), .c (.int .i64 8)]⟩,
     ⟨some 7, none, .not (.t 6)⟩,
     ⟨some 3, none, .mv (.t 7)⟩])
   (.cond (.t 3)
    (.seq (.ops [⟨some 2, none, .mv (.c (.int .i64 2))⟩])
    (.ret))
    (.seq (.ops [⟨some 9, none, .mv (.t 0)⟩,
      ⟨some 10, none, .call 70 [.t 9]⟩,
      ⟨some 11, none, .not (.t 10)⟩,
      ⟨some 8, none, .mv (.t 11)⟩])
    (.cond (.t 8)
     (.seq (.ops [⟨some 2, none, .mv (.c (.int .i64 3))⟩])
     (.ret))
     (.skip))))))
  (.seq (.ops [⟨some 2, none, .mv (.c (.int .i64 0))⟩])
  (.ret)))⟩
theorem ok62 : FnOK Try.prog 62 v62 := ⟨⟨Try.f62, _, Try.func62, rfl, by kernel_rfl, rfl, by decide, by kernel_rfl, by kernel_rfl⟩⟩

/-- laws.lwAt -/
def v63 : VF := ⟨3, 47, [.t 6], true,
  .seq (.ops [⟨some 6, none, .mv (.c (.int .i64 0))⟩])
  (.seq (.ops [⟨some 9, none, .mv (.t 0)⟩,
    ⟨some 10, none, .len (.t 9)⟩,
    ⟨some 7, none, .mv (.t 10)⟩])
  (.seq (.seq (.ops [⟨some 11, none, .mv (.t 2)⟩,
    ⟨some 12, none, .bin .leq (.t 11) (.c (.int .i64 1))⟩])
  (.cond (.t 12)
   (.seq (.ops [⟨some 6, none, .mv (.c (.int .i64 0))⟩])
   (.ret))
   (.skip)))
  (.seq (.seq (.ops [⟨some 13, none, .mv (.t 7)⟩,
    ⟨some 14, none, .bin .eql (.t 13) (.c (.int .i64 0))⟩])
  (.cond (.t 14)
   (.seq (.ops [⟨some 15, none, .mv (.t 1)⟩,
     ⟨some 16, none, .bin .mul (.t 15) (.c (.int .i64 7))⟩,
     ⟨some 17, none, .mv (.t 2)⟩,
     ⟨some 18, none, .bin .rem (.t 16) (.t 17)⟩,
     ⟨some 6, none, .mv (.t 18)⟩])
   (.ret))
   (.skip)))
  (.seq (.draw [⟨some 19, none, .mv (.t 0)⟩,
    ⟨some 20, none, .mv (.t 1)⟩,
    ⟨some 21, none, .mv (.t 7)⟩,
    ⟨some 22, none, .bin .rem (.t 20) (.t 21)⟩,
    ⟨some 23, none, .iaddr 1 (.t 19) (.t 22)⟩,
    ⟨some 24, none, .load false 1 (.t 23)⟩,
    ⟨some 25, none, .conv .i64 (.t 24)⟩,
    ⟨some 26, none, .mv (.t 1)⟩,
    ⟨some 27, none, .mv (.t 7)⟩,
    ⟨some 28, none, .bin .quo (.t 26) (.t 27)⟩,
    ⟨some 29, none, .bin .mul (.t 28) (.c (.int .i64 3))⟩] [⟨some 30, none, .bin .add (.t 25) (.t 29)⟩,
    ⟨some 8, none, .mv (.t 30)⟩])
  (.seq (.seq (.ops [⟨some 31, none, .mv (.t 2)⟩,
    ⟨some 32, none, .bin .gtr (.t 31) (.c (.int .i64 200))⟩])
  (.cond (.t 32)
   (.ops [⟨some 33, none, .mv (.t 8)⟩,
     ⟨some 34, none, .bin .mul (.t 33) (.c (.int .i64 251))⟩,
     ⟨some 35, none, .mv (.t 0)⟩,
     ⟨some 36, none, .mv (.t 1)⟩,
     ⟨some 37, none, .bin .add (.t 36) (.c (.int .i64 1))⟩,
     ⟨some 38, none, .mv (.t 7)⟩,
     ⟨some 39, none, .bin .rem (.t 37) (.t 38)⟩,
     ⟨some 40, none, .iaddr 1 (.t 35) (.t 39)⟩,
     ⟨some 41, none, .load false 1 (.t 40)⟩,
     ⟨some 42, none, .conv .i64 (.t 41)⟩,
     ⟨some 43, none, .bin .add (.t 34) (.t 42)⟩,
     ⟨some 8, none, .mv (.t 43)⟩])
   (.skip)))
  (.seq (.ops [⟨some 44, none, .mv (.t 8)⟩,
    ⟨some 45, none, .mv (.t 2)⟩,
    ⟨some 46, none, .bin .rem (.t 44) (.t 45)⟩,
    ⟨some 6, none, .mv (.t 46)⟩])
  (.ret)))))))⟩
theorem ok63 : FnOK Try.prog 63 v63 := ⟨⟨Try.f63, _, Try.func63, rfl, by kernel_rfl, rfl, by decide, by kernel_rfl, by kernel_rfl⟩⟩

/-- impl.SumWords -/
def l64_0 : VC :=
  .seq (.ops [⟨some 10, none, .bin .lss (.t 9) (.t 8)⟩])
  (.seq (.cond (.t 10)
   (.skip)
   (.exit 0))
  (.seq (.block 1 (.seq (.ops [⟨some 11, none, .iaddr 1 (.t 7) (.t 9)⟩,
     ⟨some 12, none, .load false 1 (.t 11)⟩,
     ⟨some 5, none, .mv (.t 12)⟩])
   (.seq (.ops [⟨some 13, none, .mv (.t 5)⟩,
     ⟨some 14, none, .bin .rem (.t 13) (.c (.int .i64 65521))⟩,
     ⟨some 6, none, .mv (.t 14)⟩])
   (.seq (.seq (.ops [⟨some 15, none, .mv (.t 6)⟩,
     ⟨some 16, none, .bin .lss (.t 15) (.c (.int .i64 0))⟩])
   (.cond (.t 16)
    (.ops [⟨some 17, none, .mv (.t 6)⟩,
      ⟨some 18, none, .bin .add (.t 17) (.c (.int .i64 65521))⟩,
      ⟨some 6, none, .mv (.t 18)⟩])
    (.skip)))
   (.ops [⟨some 19, none, .mv (.t 3)⟩,
     ⟨some 20, none, .bin .mul (.t 19) (.c (.int .i64 263))⟩,
     ⟨some 21, none, .mv (.t 6)⟩,
     ⟨some 22, none, .bin .add (.t 20) (.t 21)⟩,
     ⟨some 23, none, .bin .add (.t 22) (.c (.int .i64 1))⟩,
     ⟨some 24, none, .bin .rem (.t 23) (.c (.int .i64 65521))⟩,
     ⟨some 3, none, .mv (.t 24)⟩])))))
  (.ops [⟨some 25, none, .bin .add (.t 9) (.c (.int .i64 1))⟩,
    ⟨some 9, none, .mv (.t 25)⟩])))
def v64 : VF := ⟨1, 27, [.t 2], true,
  .seq (.ops [⟨some 2, none, .mv (.c (.int .i64 0))⟩])
  (.seq (.ops [⟨some 3, none, .mv (.c (.int .i64 9))⟩])
  (.seq (.seq (.ops [⟨some 7, none, .mv (.t 0)⟩,
    ⟨some 8, none, .len (.t 7)⟩,
    ⟨some 9, none, .mv (.c (.int .i64 0))⟩])
  (.block 0 (.loop [3, 7, 8, 9] [2, 3] l64_0)))
  (.seq (.ops [⟨some 26, none, .mv (.t 3)⟩,
    ⟨some 2, none, .mv (.t 26)⟩])
  (.ret))))⟩
theorem ok64 : FnOK Try.prog 64 v64 := ⟨⟨Try.f64, _, Try.func64, rfl, by kernel_rfl, rfl, by decide, by kernel_rfl, by kernel_rfl⟩⟩

/-- spec.SumWords -/
def l65_0 : VC :=
  .seq (.seq (.ops [⟨some 5, none, .mv (.t 4)⟩,
    ⟨some 6, none, .mv (.t 0)⟩,
    ⟨some 7, none, .len (.t 6)⟩,
    ⟨some 8, none, .bin .lss (.t 5) (.t 7)⟩])
  (.cond (.t 8)
   (.skip)
   (.exit 0)))
  (.seq (.block 1 (.ops [⟨some 11, none, .mv (.t 3)⟩,
     ⟨some 12, none, .bin .mul (.t 11) (.c (.int .i64 263))⟩,
     ⟨some 13, none, .mv (.t 0)⟩,
     ⟨some 14, none, .mv (.t 4)⟩,
     ⟨some 15, none, .iaddr 1 (.t 13) (.t 14)⟩,
     ⟨some 16, none, .load false 1 (.t 15)⟩,
     ⟨some 17, none, .bin .rem (.t 16) (.c (.int .i64 65521))⟩,
     ⟨some 18, none, .bin .add (.t 17) (.c (.int .i64 65521))⟩,
     ⟨some 19, none, .bin .rem (.t 18) (.c (.int .i64 65521))⟩,
     ⟨some 20, none, .bin .add (.t 12) (.t 19)⟩,
     ⟨some 21, none, .bin .add (.t 20) (.c (.int .i64 1))⟩,
     ⟨some 22, none, .bin .rem (.t 21) (.c (.int .i64 65521))⟩,
     ⟨some 3, none, .mv (.t 22)⟩]))
  (.ops [⟨some 9, none, .mv (.t 4)⟩,
    ⟨some 10, none, .bin .add (.t 9) (.c (.int .i64 1))⟩,
    ⟨some 4, none, .mv (.t 10)⟩]))
def v65 : VF := ⟨1, 24, [.t 2], true,
  .seq (.ops [⟨some 2, none, .mv (.c (.int .i64 0))⟩])
  (.seq (.ops [⟨some 3, none, .mv (.c (.int .i64 9))⟩])
  (.seq (.seq (.ops [⟨some 4, none, .mv (.c (.int .i64 0))⟩])
  (.block 0 (.loop [0, 3, 4] [2, 3] l65_0)))
  (.seq (.ops [⟨some 23, none, .mv (.t 3)⟩,
    ⟨some 2, none, .mv (.t 23)⟩])
  (.ret))))⟩
theorem ok65 : FnOK Try.prog 65 v65 := ⟨⟨Try.f65, _, Try.func65, rfl, by kernel_rfl, rfl, by decide, by kernel_rfl, by kernel_rfl⟩⟩

/-- spec.l1Fault -/
def l68_0 : VC :=
  .seq (.seq (.ops [⟨some 17, none, .mv (.t 3)⟩,
    ⟨some 18, none, .mv (.t 0)⟩,
    ⟨some 19, none, .nilck (.t 18)⟩,
    ⟨some 20, none, .faddr 0 (.t 19)⟩,
    ⟨some 21, none, .load false 1 (.t 20)⟩,
    ⟨some 22, none, .len (.t 21)⟩,
    ⟨some 23, none, .bin .lss (.t 17) (.t 22)⟩])
  (.cond (.t 23)
   (.skip)
   (.exit 0)))
  (.seq (.block 1 (.seq (.ops [⟨some 26, none, .mv (.t 0)⟩,
     ⟨some 27, none, .nilck (.t 26)⟩,
     ⟨some 28, none, .faddr 0 (.t 27)⟩,
     ⟨some 29, none, .load false 1 (.t 28)⟩,
     ⟨some 30, none, .mv (.t 3)⟩,
     ⟨some 31, none, .iaddr 1 (.t 29) (.t 30)⟩,
     ⟨some 32, none, .load false 1 (.t 31)⟩,
     ⟨some 33, none, .call 90 [.t 32]⟩,
     ⟨some 34, none, .not (.t 33)⟩])
   (.cond (.t 34)
    (.seq (.ops [⟨some 2, none, .mv (.c (.int .i64 3))⟩])
    (.ret))
    (.skip))))
  (.ops [⟨some 24, none, .mv (.t 3)⟩,
    ⟨some 25, none, .bin .add (.t 24) (.c (.int .i64 1))⟩,
    ⟨some 3, none, .mv (.t 25)⟩]))
def l68_1 : VC :=
  .seq (.seq (.ops [⟨some 35, none, .mv (.t 4)⟩,
    ⟨some 36, none, .mv (.t 0)⟩,
    ⟨some 37, none, .nilck (.t 36)⟩,
    ⟨some 38, none, .faddr 1 (.t 37)⟩,
    ⟨some 39, none, .load false 1 (.t 38)⟩,
    ⟨some 40, none, .len (.t 39)⟩,
    ⟨some 41, none, .bin .lss (.t 35) (.t 40)⟩])
  (.cond (.t 41)
   (.skip)
   (.exit 2)))
  (.seq (.block 3 (.seq (.ops [⟨some 44, none, .mv (.t 0)⟩,
     ⟨some 45, none, .nilck (.t 44)⟩,
     ⟨some 46, none, .faddr 1 (.t 45)⟩,
     ⟨some 47, none, .load false 1 (.t 46)⟩,
     ⟨some 48, none, .mv (.t 4)⟩,
     ⟨some 49, none, .iaddr 2 (.t 47) (.t 48)⟩,
     ⟨some 50, none, .faddr 0 (.t 49)⟩,
     ⟨some 51, none, .load false 1 (.t 50)⟩,
     ⟨some 52, none, .call 76 [.t 51]⟩,
     ⟨some 53, none, .not (.t 52)⟩,
     ⟨some 54, none, .mv (.t 53)⟩,
     ⟨some 55, some (54, false), .mv (.t 0)⟩,
     ⟨some 56, some (54, false), .nilck (.t 55)⟩,
     ⟨some 57, some (54, false), .faddr 1 (.t 56)⟩,
     ⟨some 58, some (54, false), .load false 1 (.t 57)⟩,
     ⟨some 59, some (54, false), .mv (.t 4)⟩,
     ⟨some 60, some (54, false), .iaddr 2 (.t 58) (.t 59)⟩,
     ⟨some 61, some (54, false), .faddr 1 (.t 60)⟩,
     ⟨some 62, some (54, false), .load false 1 (.t 61)⟩,
     ⟨some 63, some (54, false), .call 90 [.t 62]⟩,
     ⟨some 64, some (54, false), .not (.t 63)⟩,
     ⟨some 65, none, .pick (.t 54) (.c (.bool true)) (.t 64)⟩])
   (.cond (.t 65)
    (.seq (.ops [⟨some 2, none, .mv (.c (.int .i64 3))⟩])
    (.ret))
    (.skip))))
  (.ops [⟨some 42, none, .mv (.t 4)⟩,
    ⟨some 43, none, .bin .add (.t 42) (.c (.int .i64 1))⟩,
    ⟨some 4, none, .mv (.t 43)⟩]))
def v68 : VF := ⟨1, 66, [.t 2], true,
  .seq (.ops [⟨some 2, none, .mv (.c (.int .i64 0))⟩])
  (.seq (.seq (.ops [⟨some 5, none, .mv (.t 0)⟩,
    ⟨some 6, none, .nilck (.t 5)⟩,
    ⟨some 7, none, .faddr 0 (.t 6)⟩,
    ⟨some 8, none, .load false 1 (.t 7)⟩,
    ⟨some 9, none, .len (.t 8)⟩,
    ⟨some 10, none, .bin .neq (.t 9) (.c (.int .i64 64))⟩])
  (.cond (.t 10)
   (.seq (.ops [⟨some 2, none, .mv (.c (.int .i64 1))⟩])
   (.ret))
   (.skip)))
  (.seq (.seq (.ops [⟨some 11, none, .mv (.t 0)⟩,
    ⟨some 12, none, .nilck (.t 11)⟩,
    ⟨some 13, none, .faddr 1 (.t 12)⟩,
    ⟨some 14, none, .load false 1 (.t 13)⟩,
    ⟨some 15, none, .len (.t 14)⟩,
    ⟨some 16, none, .bin .gtr (.t 15) (.c (.int .i64 200))⟩])
  (.cond (.t 16)
   (.seq (.ops [⟨some 2, none, .mv (.c (.int .i64 2))⟩])
   (.ret))
   (.skip)))
  (.seq (.seq (.ops [⟨some 3, none, .mv (.c (.int .i64 0))⟩])
  (.block 0 (.loop [0, 3] [0, 2] l68_0)))
  (.seq (.seq (.ops [⟨some 4, none, .mv (.c (.int .i64 0))⟩])
  (.block 2 (.loop [0, 4] [2] l68_1)))
  (.seq (.ops [⟨some 2, none, .mv (.c (.int .i64 0))⟩])
  (.ret))))))⟩
theorem ok68 : FnOK Try.prog 68 v68 := ⟨⟨Try.f68, _, Try.func68, rfl, by kernel_rfl, rfl, by decide, by kernel_rfl, by kernel_rfl⟩⟩

/-- impl.areWords -/
def v70 : VF := ⟨1, 6, [.t 2], true,
  .seq (.ops [⟨some 2, none, .mv (.c (.bool false))⟩])
  (.seq (.ops [⟨some 3, none, .mv (.t 0)⟩,
    ⟨some 4, none, .call 106 [.t 3, .c (.func (.func 107) #[] #[])]⟩,
    ⟨some 5, none, .not (.t 4)⟩,
    ⟨some 2, none, .mv (.t 5)⟩])
  (.ret))⟩
theorem ok70 : FnOK Try.prog 70 v70 := ⟨⟨Try.f70, _, Try.func70, rfl, by kernel_rfl, rfl, by decide, by kernel_rfl, by kernel_rfl⟩⟩

/-- impl.Put] -/
def v71 : VF := ⟨2, 9, [.t 4], true,
  .seq (.ops [⟨some 4, none, .mv (.c (.bool false))⟩])
  (.seq (.ops [⟨some 5, none, .mv (.t 0)⟩,
    ⟨some 6, none, .mv (.t 1)⟩,
    ⟨some 7, none, .call 108 [.t 5, .t 6]⟩,
    ⟨some 8, none, .bin .geq (.t 7) (.c (.int .i64 0))⟩,
    ⟨some 4, none, .mv (.t 8)⟩])
  (.ret))⟩
theorem ok71 : FnOK Try.prog 71 v71 := ⟨⟨Try.f71, _, Try.func71, rfl, by kernel_rfl, rfl, by decide, by kernel_rfl, by kernel_rfl⟩⟩

/-- impl.DiskFault$1 -/
def v72 : VF := ⟨1, 13, [.t 2], true,
  .seq (.ops [⟨some 1, none, .box (.t 0)⟩,
    ⟨some 2, none, .mv (.c (.bool false))⟩])
  (.seq (.ops [⟨some 3, none, .faddr 0 (.t 1)⟩,
    ⟨some 4, none, .load false 1 (.t 3)⟩,
    ⟨some 5, none, .call 73 [.t 4]⟩,
    ⟨some 6, none, .not (.t 5)⟩,
    ⟨some 7, none, .mv (.t 6)⟩,
    ⟨some 8, some (7, false), .faddr 1 (.t 1)⟩,
    ⟨some 9, some (7, false), .load false 1 (.t 8)⟩,
    ⟨some 10, some (7, false), .call 74 [.t 9]⟩,
    ⟨some 11, some (7, false), .not (.t 10)⟩,
    ⟨some 12, none, .pick (.t 7) (.c (.bool true)) (.t 11)⟩,
    ⟨some 2, none, .mv (.t 12)⟩])
  (.ret))⟩
theorem ok72 : FnOK Try.prog 72 v72 := ⟨⟨Try.f72, _, Try.func72, rfl, by kernel_rfl, rfl, by decide, by kernel_rfl, by kernel_rfl⟩⟩

/-- impl.isPlace -/
def v73 : VF := ⟨1, 5, [.t 2], true,
  .seq (.ops [⟨some 2, none, .mv (.c (.bool false))⟩])
  (.seq (.ops [⟨some 3, none, .mv (.t 0)⟩,
    ⟨some 4, none, .call 104 [.t 3, .c (.int .i64 0), .c (.int .i64 63)]⟩,
    ⟨some 2, none, .mv (.t 4)⟩])
  (.ret))⟩
theorem ok73 : FnOK Try.prog 73 v73 := ⟨⟨Try.f73, _, Try.func73, rfl, by kernel_rfl, rfl, by decide, by kernel_rfl, by kernel_rfl⟩⟩

/-- impl.isWord -/
def v74 : VF := ⟨1, 5, [.t 2], true,
  .seq (.ops [⟨some 2, none, .mv (.c (.bool false))⟩])
  (.seq (.ops [⟨some 3, none, .mv (.t 0)⟩,
    ⟨some 4, none, .call 104 [.t 3, .c (.int .i64 0), .c (.int .i64 65535)]⟩,
    ⟨some 2, none, .mv (.t 4)⟩])
  (.ret))⟩
theorem ok74 : FnOK Try.prog 74 v74 := ⟨⟨Try.f74, _, Try.func74, rfl, by kernel_rfl, rfl, by decide, by kernel_rfl, by kernel_rfl⟩⟩

/-- spec.l1Place -/
def v76 : VF := ⟨1, 5, [.t 2], true,
  .seq (.ops [⟨some 2, none, .mv (.c (.bool false))⟩])
  (.seq (.ops [⟨some 3, none, .mv (.t 0)⟩,
    ⟨some 4, none, .call 110 [.t 3, .c (.int .i64 0), .c (.int .i64 63)]⟩,
    ⟨some 2, none, .mv (.t 4)⟩])
  (.ret))⟩
theorem ok76 : FnOK Try.prog 76 v76 := ⟨⟨Try.f76, _, Try.func76, rfl, by kernel_rfl, rfl, by decide, by kernel_rfl, by kernel_rfl⟩⟩

/-- spec.l1At -/
def l77_0 : VC :=
  .seq (.seq (.ops [⟨some 12, none, .mv (.t 5)⟩,
    ⟨some 13, none, .bin .geq (.t 12) (.c (.int .i64 0))⟩])
  (.cond (.t 13)
   (.skip)
   (.exit 0)))
  (.seq (.block 1 (.seq (.ops [⟨some 16, none, .mv (.t 0)⟩,
     ⟨some 17, none, .nilck (.t 16)⟩,
     ⟨some 18, none, .faddr 1 (.t 17)⟩,
     ⟨some 19, none, .load false 1 (.t 18)⟩,
     ⟨some 20, none, .mv (.t 5)⟩,
     ⟨some 21, none, .iaddr 2 (.t 19) (.t 20)⟩,
     ⟨some 22, none, .faddr 0 (.t 21)⟩,
     ⟨some 23, none, .load false 1 (.t 22)⟩,
     ⟨some 24, none, .mv (.t 1)⟩,
     ⟨some 25, none, .bin .eql (.t 23) (.t 24)⟩])
   (.cond (.t 25)
    (.seq (.ops [⟨some 26, none, .mv (.t 0)⟩,
      ⟨some 27, none, .nilck (.t 26)⟩,
      ⟨some 28, none, .faddr 1 (.t 27)⟩,
      ⟨some 29, none, .load false 1 (.t 28)⟩,
      ⟨some 30, none, .mv (.t 5)⟩,
      ⟨some 31, none, .iaddr 2 (.t 29) (.t 30)⟩,
      ⟨some 32, none, .faddr 1 (.t 31)⟩,
      ⟨some 33, none, .load false 1 (.t 32)⟩,
      ⟨some 4, none, .mv (.t 33)⟩])
    (.ret))
    (.skip))))
  (.ops [⟨some 14, none, .mv (.t 5)⟩,
    ⟨some 15, none, .bin .sub (.t 14) (.c (.int .i64 1))⟩,
    ⟨some 5, none, .mv (.t 15)⟩]))
def v77 : VF := ⟨2, 41, [.t 4], true,
  .seq (.ops [⟨some 4, none, .mv (.c (.int .i64 0))⟩])
  (.seq (.seq (.ops [⟨some 6, none, .mv (.t 0)⟩,
    ⟨some 7, none, .nilck (.t 6)⟩,
    ⟨some 8, none, .faddr 1 (.t 7)⟩,
    ⟨some 9, none, .load false 1 (.t 8)⟩,
    ⟨some 10, none, .len (.t 9)⟩,
    ⟨some 11, none, .bin .sub (.t 10) (.c (.int .i64 1))⟩,
    ⟨some 5, none, .mv (.t 11)⟩])
  (.block 0 (.loop [0, 1, 5] [0, 1, 4] l77_0)))
  (.seq (.ops [⟨some 34, none, .mv (.t 0)⟩,
    ⟨some 35, none, .nilck (.t 34)⟩,
    ⟨some 36, none, .faddr 0 (.t 35)⟩,
    ⟨some 37, none, .load false 1 (.t 36)⟩,
    ⟨some 38, none, .mv (.t 1)⟩,
    ⟨some 39, none, .iaddr 1 (.t 37) (.t 38)⟩,
    ⟨some 40, none, .load false 1 (.t 39)⟩,
    ⟨some 4, none, .mv (.t 40)⟩])
  (.ret)))⟩
theorem ok77 : FnOK Try.prog 77 v77 := ⟨⟨Try.f77, _, Try.func77, rfl, by kernel_rfl, rfl, by decide, by kernel_rfl, by kernel_rfl⟩⟩

/-- impl.diskCode -/
def v78 : VF := ⟨2, 13, [.t 4], true,
  .seq (.ops [⟨some 2, none, .box (.t 0)⟩,
    ⟨some 4, none, .mv (.c (.int .i64 0))⟩])
  (.seq (.seq (.ops [⟨some 6, none, .load true 2 (.t 2)⟩,
    ⟨some 7, none, .call 19 [.t 6]⟩,
    ⟨some 5, none, .mv (.t 7)⟩])
  (.seq (.ops [⟨some 8, none, .mv (.t 5)⟩,
    ⟨some 9, none, .bin .neq (.t 8) (.c (.int .i64 0))⟩])
  (.cond (.t 9)
   (.seq (.ops [⟨some 10, none, .mv (.t 5)⟩,
     ⟨some 4, none, .mv (.t 10)⟩])
   (.ret))
   (.skip))))
  (.seq (.seq (.ops [⟨some 11, none, .mv (.t 1)⟩,
    ⟨some 12, none, .not (.t 11)⟩])
  (.cond (.t 12)
   (.seq (.ops [⟨some 4, none, .mv (.c (.int .i64 3))⟩])
   (.ret))
   (.skip)))
  (.seq (.ops [⟨some 4, none, .mv (.c (.int .i64 0))⟩])
  (.ret))))⟩
theorem ok78 : FnOK Try.prog 78 v78 := ⟨⟨Try.f78, _, Try.func78, rfl, by kernel_rfl, rfl, by decide, by kernel_rfl, by kernel_rfl⟩⟩

/-- impl.flushed -/
def l79_0 : VC :=
  .seq (.ops [⟨some 13, none, .bin .lss (.t 12) (.t 11)⟩])
  (.seq (.cond (.t 13)
   (.skip)
   (.exit 0))
  (.seq (.block 1 (.seq (.ops [⟨some 14, none, .iaddr 2 (.t 10) (.t 12)⟩,
     ⟨some 15, none, .load true 2 (.t 14)⟩,
     ⟨some 5, none, .new [.int .i64 0, .int .i64 0]⟩,
     ⟨none, none, .store 2 (.t 5) (.t 15)⟩])
   (.ops [⟨some 16, none, .mv (.t 3)⟩,
     ⟨some 17, none, .faddr 0 (.t 5)⟩,
     ⟨some 18, none, .load false 1 (.t 17)⟩,
     ⟨some 19, none, .faddr 1 (.t 5)⟩,
     ⟨some 20, none, .load false 1 (.t 19)⟩,
     ⟨some 21, none, .iaddr 1 (.t 16) (.t 18)⟩,
     ⟨none, none, .store 1 (.t 21) (.t 20)⟩])))
  (.ops [⟨some 22, none, .bin .add (.t 12) (.c (.int .i64 1))⟩,
    ⟨some 12, none, .mv (.t 22)⟩])))
def v79 : VF := ⟨1, 24, [.t 2], true,
  .seq (.ops [⟨some 1, none, .box (.t 0)⟩,
    ⟨some 2, none, .mv (.c (.slice none 0 0))⟩])
  (.seq (.ops [⟨some 6, none, .faddr 0 (.t 1)⟩,
    ⟨some 7, none, .load false 1 (.t 6)⟩,
    ⟨some 8, none, .call 111 [.t 7]⟩,
    ⟨some 3, none, .mv (.t 8)⟩])
  (.seq (.seq (.ops [⟨some 9, none, .faddr 1 (.t 1)⟩,
    ⟨some 10, none, .load false 1 (.t 9)⟩,
    ⟨some 11, none, .len (.t 10)⟩,
    ⟨some 12, none, .mv (.c (.int .i64 0))⟩])
  (.block 0 (.loop [3, 10, 11, 12] [2, 3] l79_0)))
  (.seq (.ops [⟨some 23, none, .mv (.t 3)⟩,
    ⟨some 2, none, .mv (.t 23)⟩])
  (.ret))))⟩
theorem ok79 : FnOK Try.prog 79 v79 := ⟨⟨Try.f79, _, Try.func79, rfl, by kernel_rfl, rfl, by decide, by kernel_rfl, by kernel_rfl⟩⟩

/-- spec.l1Source -/
def v80 : VF := ⟨1, 6, [.t 2], true,
  .seq (.ops [⟨some 2, none, .mv (.c (.pointer none))⟩])
  (.seq (.ops [⟨some 3, none, .mv (.t 0)⟩,
    ⟨some 4, none, .build [.slice none 0 0, .int .i64 0] [(0, 1, .t 3)]⟩,
    ⟨some 5, none, .box (.t 4)⟩,
    ⟨some 2, none, .mv (.t 5)⟩])
  (.ret))⟩
theorem ok80 : FnOK Try.prog 80 v80 := ⟨⟨Try.f80, _, Try.func80, rfl, by kernel_rfl, rfl, by decide, by kernel_rfl, by kernel_rfl⟩⟩

/-- spec.l1Disk -/
def l81_0 : VC :=
  .seq (.seq (.ops [⟨some 9, none, .mv (.t 4)⟩,
    ⟨some 10, none, .bin .gtr (.t 9) (.c (.int .i64 0))⟩])
  (.cond (.t 10)
   (.skip)
   (.exit 0)))
  (.seq (.block 1 (.drawD [0] [⟨some 13, none, .faddr 0 (.t 3)⟩,
     ⟨some 14, none, .load false 1 (.t 13)⟩,
     ⟨some 15, none, .mv (.t 0)⟩,
     ⟨some 16, none, .call 82 [.t 15, .c (.int .i64 9)]⟩,
     ⟨some 17, none, .mv (.t 0)⟩,
     ⟨some 18, none, .call 82 [.t 17, .c (.int .i64 99)]⟩] [⟨some 19, none, .iaddr 1 (.t 14) (.t 16)⟩,
     ⟨none, none, .store 1 (.t 19) (.t 18)⟩]))
  (.ops [⟨some 11, none, .mv (.t 4)⟩,
    ⟨some 12, none, .bin .sub (.t 11) (.c (.int .i64 1))⟩,
    ⟨some 4, none, .mv (.t 12)⟩]))
def l81_1 : VC :=
  .seq (.seq (.ops [⟨some 22, none, .mv (.t 5)⟩,
    ⟨some 23, none, .bin .gtr (.t 22) (.c (.int .i64 0))⟩])
  (.cond (.t 23)
   (.skip)
   (.exit 2)))
  (.seq (.block 3 (.drawD [0] [⟨some 26, none, .faddr 1 (.t 3)⟩,
     ⟨some 27, none, .load false 1 (.t 26)⟩,
     ⟨some 28, none, .mv (.t 0)⟩,
     ⟨some 29, none, .call 82 [.t 28, .c (.int .i64 9)]⟩,
     ⟨some 30, none, .mv (.t 0)⟩,
     ⟨some 31, none, .call 82 [.t 30, .c (.int .i64 99)]⟩,
     ⟨some 32, none, .build [.int .i64 0, .int .i64 0] [(0, 1, .t 29), (1, 1, .t 31)]⟩,
     ⟨some 33, none, .bslice 2 [.int .i64 0, .int .i64 0] 1 [(0, 2, .t 32)]⟩] [⟨some 34, none, .append 2 16 (.t 27) (.t 33)⟩,
     ⟨some 35, none, .faddr 1 (.t 3)⟩,
     ⟨none, none, .store 1 (.t 35) (.t 34)⟩]))
  (.ops [⟨some 24, none, .mv (.t 5)⟩,
    ⟨some 25, none, .bin .sub (.t 24) (.c (.int .i64 1))⟩,
    ⟨some 5, none, .mv (.t 25)⟩]))
def v81 : VF := ⟨1, 74, [.cell 2 true 2], false,
  .seq (.ops [⟨some 2, none, .new [.slice none 0 0, .slice none 0 0]⟩])
  (.seq (.ops [⟨some 6, none, .call 112 []⟩,
    ⟨some 3, none, .new [.slice none 0 0, .slice none 0 0]⟩,
    ⟨none, none, .store 2 (.t 3) (.t 6)⟩])
  (.seq (.seq (.ops [⟨some 7, none, .mv (.t 0)⟩,
    ⟨some 8, none, .call 82 [.t 7, .c (.int .i64 9)]⟩,
    ⟨some 4, none, .mv (.t 8)⟩])
  (.block 0 (.loop [0, 2, 3, 4] [0, 2, 3] l81_0)))
  (.seq (.seq (.ops [⟨some 20, none, .mv (.t 0)⟩,
    ⟨some 21, none, .call 82 [.t 20, .c (.int .i64 9)]⟩,
    ⟨some 5, none, .mv (.t 21)⟩])
  (.block 2 (.loop [0, 2, 3, 5] [0, 2, 3] l81_1)))
  (.seq (.seq (.ops [⟨some 36, none, .mv (.t 0)⟩,
    ⟨some 37, none, .call 82 [.t 36, .c (.int .i64 18)]⟩])
  (.block 4 (.seq (.ops [⟨some 39, none, .bin .eql (.t 37) (.c (.int .i64 0))⟩,
     ⟨some 38, none, .mv (.t 39)⟩])
   (.cond (.t 38)
    (.ops [⟨some 40, none, .faddr 0 (.t 3)⟩,
      ⟨some 41, none, .load false 1 (.t 40)⟩,
      ⟨some 42, none, .slice 1 (.t 41) (some (.c (.int .i64 1))) none none⟩,
      ⟨some 43, none, .faddr 0 (.t 3)⟩,
      ⟨none, none, .store 1 (.t 43) (.t 42)⟩])
    (.seq (.ops [⟨some 45, none, .bin .eql (.t 37) (.c (.int .i64 1))⟩,
      ⟨some 44, none, .mv (.t 45)⟩])
    (.cond (.t 44)
     (.drawD [0] [⟨some 46, none, .faddr 0 (.t 3)⟩,
       ⟨some 47, none, .load false 1 (.t 46)⟩,
       ⟨some 48, none, .mv (.t 0)⟩,
       ⟨some 49, none, .bslice 1 [.int .i64 0, .int .i64 0, .int .i64 0] 3 [(0, 1, .c (.int .i64 (-1))), (1, 1, .c (.int .i64 65536)), (2, 1, .c (.int .i64 65535))]⟩,
       ⟨some 50, none, .call 113 [.t 48, .t 49]⟩] [⟨some 51, none, .iaddr 1 (.t 47) (.c (.int .i64 3))⟩,
       ⟨none, none, .store 1 (.t 51) (.t 50)⟩])
     (.seq (.ops [⟨some 53, none, .bin .eql (.t 37) (.c (.int .i64 2))⟩,
       ⟨some 52, none, .mv (.t 53)⟩])
     (.cond (.t 52)
      (.drawF [0] [⟨some 54, none, .faddr 1 (.t 3)⟩,
        ⟨some 55, none, .load false 1 (.t 54)⟩,
        ⟨some 56, none, .mv (.t 0)⟩,
        ⟨some 57, none, .bslice 1 [.int .i64 0, .int .i64 0, .int .i64 0] 3 [(0, 1, .c (.int .i64 (-1))), (1, 1, .c (.int .i64 64)), (2, 1, .c (.int .i64 63))]⟩,
        ⟨some 58, none, .call 113 [.t 56, .t 57]⟩,
        ⟨some 59, none, .mv (.t 0)⟩,
        ⟨some 60, none, .bslice 1 [.int .i64 0, .int .i64 0] 2 [(0, 1, .c (.int .i64 0)), (1, 1, .c (.int .i64 65536))]⟩,
        ⟨some 61, none, .call 113 [.t 59, .t 60]⟩,
        ⟨some 62, none, .build [.int .i64 0, .int .i64 0] [(0, 1, .t 58), (1, 1, .t 61)]⟩,
        ⟨some 63, none, .bslice 2 [.int .i64 0, .int .i64 0] 1 [(0, 2, .t 62)]⟩] [⟨some 64, none, .append 2 16 (.t 55) (.t 63)⟩,
        ⟨some 65, none, .faddr 1 (.t 3)⟩,
        ⟨none, none, .store 1 (.t 65) (.t 64)⟩])
      (.seq (.ops [⟨some 67, none, .bin .eql (.t 37) (.c (.int .i64 3))⟩,
        ⟨some 66, none, .mv (.t 67)⟩])
      (.cond (.t 66)
       (.ops [⟨some 68, none, .mv (.t 0)⟩,
         ⟨some 69, none, .call 82 [.t 68, .c (.int .i64 2)]⟩,
         ⟨some 70, none, .bin .add (.c (.int .i64 200)) (.t 69)⟩,
         ⟨some 71, none, .mkslice 2 16 [.int .i64 0, .int .i64 0] (.t 70) (.t 70)⟩,
         ⟨some 72, none, .faddr 1 (.t 3)⟩,
         ⟨none, none, .store 1 (.t 72) (.t 71)⟩])
       (.skip)))))))))))
  (.seq (.ops [⟨some 73, none, .load true 2 (.t 3)⟩,
    ⟨none, none, .store 2 (.t 2) (.t 73)⟩])
  (.ret))))))⟩
theorem ok81 : FnOK Try.prog 81 v81 := ⟨⟨Try.f81, _, Try.func81, rfl, by kernel_rfl, rfl, by decide, by kernel_rfl, by kernel_rfl⟩⟩

/-- spec.l1Next -/
def v82 : VF := ⟨2, 71, [.t 4], false,
  .seq (.ops [⟨some 4, none, .mv (.c (.int .i64 0))⟩])
  (.seq (.ops [⟨some 8, none, .mv (.t 0)⟩,
    ⟨some 9, none, .mv (.t 0)⟩,
    ⟨some 10, none, .nilck (.t 9)⟩,
    ⟨some 11, none, .faddr 1 (.t 10)⟩,
    ⟨some 12, none, .load false 1 (.t 11)⟩,
    ⟨some 13, none, .bin .add (.t 12) (.c (.int .i64 1))⟩,
    ⟨some 14, none, .nilck (.t 8)⟩,
    ⟨some 15, none, .faddr 1 (.t 14)⟩,
    ⟨none, none, .store 1 (.t 15) (.t 13)⟩])
  (.seq (.seq (.ops [⟨some 16, none, .mv (.t 1)⟩,
    ⟨some 17, none, .bin .lss (.t 16) (.c (.int .i64 1))⟩])
  (.cond (.t 17)
   (.seq (.ops [⟨some 4, none, .mv (.c (.int .i64 0))⟩])
   (.ret))
   (.skip)))
  (.seq (.ops [⟨some 18, none, .mv (.t 0)⟩,
    ⟨some 19, none, .nilck (.t 18)⟩,
    ⟨some 20, none, .faddr 1 (.t 19)⟩,
    ⟨some 21, none, .load false 1 (.t 20)⟩,
    ⟨some 22, none, .bin .sub (.t 21) (.c (.int .i64 1))⟩,
    ⟨some 5, none, .mv (.t 22)⟩])
  (.seq (.ops [⟨some 23, none, .mv (.t 0)⟩,
    ⟨some 24, none, .nilck (.t 23)⟩,
    ⟨some 25, none, .faddr 0 (.t 24)⟩,
    ⟨some 26, none, .load false 1 (.t 25)⟩,
    ⟨some 27, none, .len (.t 26)⟩,
    ⟨some 6, none, .mv (.t 27)⟩])
  (.seq (.seq (.ops [⟨some 28, none, .mv (.t 6)⟩,
    ⟨some 29, none, .bin .eql (.t 28) (.c (.int .i64 0))⟩])
  (.cond (.t 29)
   (.seq (.ops [⟨some 30, none, .mv (.t 5)⟩,
     ⟨some 31, none, .bin .mul (.t 30) (.c (.int .i64 7))⟩,
     ⟨some 32, none, .mv (.t 1)⟩,
     ⟨some 33, none, .bin .rem (.t 31) (.t 32)⟩,
     ⟨some 4, none, .mv (.t 33)⟩])
   (.ret))
   (.skip)))
  (.seq (.draw [⟨some 34, none, .mv (.t 0)⟩,
    ⟨some 35, none, .nilck (.t 34)⟩,
    ⟨some 36, none, .faddr 0 (.t 35)⟩,
    ⟨some 37, none, .load false 1 (.t 36)⟩,
    ⟨some 38, none, .mv (.t 5)⟩,
    ⟨some 39, none, .mv (.t 6)⟩,
    ⟨some 40, none, .bin .rem (.t 38) (.t 39)⟩,
    ⟨some 41, none, .iaddr 1 (.t 37) (.t 40)⟩,
    ⟨some 42, none, .load false 1 (.t 41)⟩,
    ⟨some 43, none, .conv .i64 (.t 42)⟩,
    ⟨some 44, none, .mv (.t 5)⟩,
    ⟨some 45, none, .mv (.t 6)⟩,
    ⟨some 46, none, .bin .quo (.t 44) (.t 45)⟩,
    ⟨some 47, none, .bin .mul (.t 46) (.c (.int .i64 37))⟩] [⟨some 48, none, .bin .add (.t 43) (.t 47)⟩,
    ⟨some 7, none, .mv (.t 48)⟩])
  (.seq (.seq (.ops [⟨some 49, none, .mv (.t 1)⟩,
    ⟨some 50, none, .bin .gtr (.t 49) (.c (.int .i64 200))⟩])
  (.cond (.t 50)
   (.draw [⟨some 51, none, .mv (.t 7)⟩,
     ⟨some 52, none, .bin .mul (.t 51) (.c (.int .i64 251))⟩,
     ⟨some 53, none, .mv (.t 0)⟩,
     ⟨some 54, none, .nilck (.t 53)⟩,
     ⟨some 55, none, .faddr 0 (.t 54)⟩,
     ⟨some 56, none, .load false 1 (.t 55)⟩,
     ⟨some 57, none, .mv (.t 5)⟩,
     ⟨some 58, none, .bin .add (.t 57) (.c (.int .i64 1))⟩,
     ⟨some 59, none, .mv (.t 6)⟩,
     ⟨some 60, none, .bin .rem (.t 58) (.t 59)⟩,
     ⟨some 61, none, .iaddr 1 (.t 56) (.t 60)⟩,
     ⟨some 62, none, .load false 1 (.t 61)⟩,
     ⟨some 63, none, .conv .i64 (.t 62)⟩,
     ⟨some 64, none, .bin .mul (.t 63) (.c (.int .i64 13))⟩,
     ⟨some 65, none, .bin .add (.t 52) (.t 64)⟩,
     ⟨some 66, none, .mv (.t 5)⟩] [⟨some 67, none, .bin .add (.t 65) (.t 66)⟩,
     ⟨some 7, none, .mv (.t 67)⟩])
   (.skip)))
  (.seq (.ops [⟨some 68, none, .mv (.t 7)⟩,
    ⟨some 69, none, .mv (.t 1)⟩,
    ⟨some 70, none, .bin .rem (.t 68) (.t 69)⟩,
    ⟨some 4, none, .mv (.t 70)⟩])
  (.ret)))))))))⟩
theorem ok82 : FnOK Try.prog 82 v82 := ⟨⟨Try.f82, _, Try.func82, rfl, by kernel_rfl, rfl, by decide, by kernel_rfl, by kernel_rfl⟩⟩

/-- spec.l1Chance -/
def v83 : VF := ⟨2, 9, [.t 4], false,
  .seq (.ops [⟨some 4, none, .mv (.c (.bool false))⟩])
  (.seq (.ops [⟨some 5, none, .mv (.t 0)⟩,
    ⟨some 6, none, .mv (.t 1)⟩,
    ⟨some 7, none, .call 82 [.t 5, .t 6]⟩,
    ⟨some 8, none, .bin .eql (.t 7) (.c (.int .i64 0))⟩,
    ⟨some 4, none, .mv (.t 8)⟩])
  (.ret))⟩
theorem ok83 : FnOK Try.prog 83 v83 := ⟨⟨Try.f83, _, Try.func83, rfl, by kernel_rfl, rfl, by decide, by kernel_rfl, by kernel_rfl⟩⟩

/-- impl.ownDisk -/
def v84 : VF := ⟨1, 10, [.cell 2 true 2], true,
  .seq (.ops [⟨some 1, none, .box (.t 0)⟩,
    ⟨some 2, none, .new [.slice none 0 0, .slice none 0 0]⟩])
  (.seq (.draw [⟨some 3, none, .faddr 0 (.t 1)⟩,
    ⟨some 4, none, .load false 1 (.t 3)⟩,
    ⟨some 5, none, .call 111 [.t 4]⟩,
    ⟨some 6, none, .faddr 1 (.t 1)⟩,
    ⟨some 7, none, .load false 1 (.t 6)⟩] [⟨some 8, none, .call 114 [.t 7]⟩,
    ⟨some 9, none, .build [.slice none 0 0, .slice none 0 0] [(0, 1, .t 5), (1, 1, .t 8)]⟩,
    ⟨none, none, .store 2 (.t 2) (.t 9)⟩])
  (.ret))⟩
theorem ok84 : FnOK Try.prog 84 v84 := ⟨⟨Try.f84, _, Try.func84, rfl, by kernel_rfl, rfl, by decide, by kernel_rfl, by kernel_rfl⟩⟩
def env0 : Env := [(5, v5), (15, v15), (17, v17), (19, v19), (22, v22), (24, v24), (25, v25), (26, v26), (27, v27), (28, v28), (29, v29), (30, v30), (31, v31), (44, v44), (45, v45), (46, v46), (49, v49), (50, v50), (55, v55), (59, v59), (60, v60), (61, v61), (62, v62), (63, v63), (64, v64), (65, v65), (68, v68), (70, v70), (71, v71), (72, v72), (73, v73), (74, v74), (76, v76), (77, v77), (78, v78), (79, v79), (80, v80), (81, v81), (82, v82), (83, v83), (84, v84)]
theorem envOK0 : EnvOK Try.prog env0 := .cons ok5 (.cons ok15 (.cons ok17 (.cons ok19 (.cons ok22 (.cons ok24 (.cons ok25 (.cons ok26 (.cons ok27 (.cons ok28 (.cons ok29 (.cons ok30 (.cons ok31 (.cons ok44 (.cons ok45 (.cons ok46 (.cons ok49 (.cons ok50 (.cons ok55 (.cons ok59 (.cons ok60 (.cons ok61 (.cons ok62 (.cons ok63 (.cons ok64 (.cons ok65 (.cons ok68 (.cons ok70 (.cons ok71 (.cons ok72 (.cons ok73 (.cons ok74 (.cons ok76 (.cons ok77 (.cons ok78 (.cons ok79 (.cons ok80 (.cons ok81 (.cons ok82 (.cons ok83 (.cons ok84 (.nil)))))))))))))))))))))))))))))))))))))))))
end Go.Proofs.Ytaahjfjpbilfnaa.V
