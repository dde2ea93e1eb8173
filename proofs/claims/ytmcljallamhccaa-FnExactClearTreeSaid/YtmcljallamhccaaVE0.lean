/- The machine's code of the program's functions; each is the program's own, by the kernel. Laid by a program (wip/v/vmgen.py). -/
import Derived.Test.YtmcljallamhccaaVMS
import Derived.Test.YtmcljallamhccaaProg
namespace Go.Proofs.Ytmcljallamhccaa.V
open Go
set_option maxRecDepth 100000
/-- laws.FnExactShareTree -/
def v14 : VF := ⟨2, 74, [.t 4], true,
  .seq (.ops [⟨some 2, none, .box (.t 0)⟩,
    ⟨some 4, none, .mv (.c (.bool false))⟩])
  (.seq (.ops [⟨some 5, none, .mv (.c (.int .i64 1048576))⟩])
  (.seq (.ops [⟨some 13, none, .load true 2 (.t 2)⟩,
    ⟨some 14, none, .mv (.t 5)⟩,
    ⟨some 15, none, .call 51 [.t 13, .t 14]⟩,
    ⟨some 5, none, .mv (.t 15)⟩])
  (.seq (.seq (.ops [⟨some 16, none, .mv (.t 5)⟩,
    ⟨some 17, none, .bin .lss (.t 16) (.c (.int .i64 0))⟩])
  (.cond (.t 17)
   (.seq (.ops [⟨some 4, none, .mv (.c (.bool true))⟩])
   (.ret))
   (.skip)))
  (.seq (.ops [⟨some 18, none, .load true 2 (.t 2)⟩,
    ⟨some 19, none, .call 53 [.t 18]⟩,
    ⟨some 20, none, .mv (.t 1)⟩,
    ⟨some 21, none, .call 64 [.t 19, .t 20]⟩,
    ⟨some 6, none, .new [.int .i64 0, .int .i64 0, .slice none 0 0, .slice none 0 0]⟩,
    ⟨none, none, .store 4 (.t 6) (.t 21)⟩])
  (.seq (.ops [⟨some 22, none, .load true 2 (.t 2)⟩,
    ⟨some 23, none, .call 53 [.t 22]⟩,
    ⟨some 7, none, .new [.slice none 0 0, .slice none 0 0]⟩,
    ⟨none, none, .store 2 (.t 7) (.t 23)⟩])
  (.seq (.ops [⟨some 24, none, .load true 2 (.t 7)⟩,
    ⟨some 25, none, .mv (.t 1)⟩,
    ⟨some 26, none, .call 65 [.t 24, .t 25]⟩,
    ⟨some 8, none, .new [.int .i64 0, .int .i64 0, .slice none 0 0, .slice none 0 0]⟩,
    ⟨none, none, .store 4 (.t 8) (.t 26)⟩])
  (.seq (.seq (.ops [⟨some 27, none, .load true 4 (.t 8)⟩,
    ⟨some 28, none, .load true 4 (.t 6)⟩,
    ⟨some 29, none, .call 43 [.t 27, .t 28]⟩,
    ⟨some 30, none, .not (.t 29)⟩])
  (.cond (.t 30)
   (.seq (.ops [⟨some 4, none, .mv (.c (.bool false))⟩])
   (.ret))
   (.skip)))
  (.seq (.seq (.draw [⟨some 31, none, .load true 2 (.t 7)⟩,
    ⟨some 32, none, .load true 2 (.t 2)⟩,
    ⟨some 33, none, .call 53 [.t 32]⟩] [⟨some 34, none, .call 55 [.t 31, .t 33]⟩,
    ⟨some 35, none, .not (.t 34)⟩])
  (.cond (.t 35)
   (.seq (.ops [⟨some 4, none, .mv (.c (.bool false))⟩])
   (.ret))
   (.skip)))
  (.seq (.ops [⟨some 9, none, .mv (.c (.int .i64 1))⟩])
  (.seq (.ops [⟨some 36, none, .load true 2 (.t 7)⟩,
    ⟨some 37, none, .mv (.t 9)⟩,
    ⟨some 38, none, .call 61 [.t 36, .t 37]⟩,
    ⟨some 9, none, .mv (.t 38)⟩])
  (.seq (.seq (.ops [⟨some 39, none, .mv (.t 9)⟩,
    ⟨some 40, none, .bin .lss (.t 39) (.c (.int .i64 0))⟩,
    ⟨some 41, none, .mv (.t 40)⟩,
    ⟨some 42, some (41, false), .load true 4 (.t 8)⟩,
    ⟨some 43, some (41, false), .load true 4 (.t 6)⟩,
    ⟨some 44, some (41, false), .call 43 [.t 42, .t 43]⟩,
    ⟨some 45, some (41, false), .not (.t 44)⟩,
    ⟨some 46, none, .pick (.t 41) (.c (.bool true)) (.t 45)⟩])
  (.cond (.t 46)
   (.seq (.ops [⟨some 4, none, .mv (.c (.bool false))⟩])
   (.ret))
   (.skip)))
  (.seq (.ops [⟨some 10, none, .mv (.c (.int .i64 1))⟩])
  (.seq (.ops [⟨some 47, none, .load true 4 (.t 8)⟩,
    ⟨some 48, none, .mv (.t 10)⟩,
    ⟨some 49, none, .call 44 [.t 47, .t 48]⟩,
    ⟨some 10, none, .mv (.t 49)⟩])
  (.seq (.ops [⟨some 11, none, .mv (.c (.int .i64 1))⟩])
  (.seq (.ops [⟨some 50, none, .load true 4 (.t 8)⟩,
    ⟨some 51, none, .mv (.t 11)⟩,
    ⟨some 52, none, .call 45 [.t 50, .t 51]⟩,
    ⟨some 11, none, .mv (.t 52)⟩])
  (.seq (.seq (.ops [⟨some 53, none, .mv (.t 11)⟩,
    ⟨some 54, none, .bin .lss (.t 53) (.c (.int .i64 0))⟩])
  (.cond (.t 54)
   (.seq (.ops [⟨some 4, none, .mv (.c (.bool false))⟩])
   (.ret))
   (.skip)))
  (.seq (.seq (.ops [⟨some 55, none, .mv (.t 11)⟩,
    ⟨some 56, none, .mv (.t 10)⟩,
    ⟨some 57, none, .bin .neq (.t 55) (.t 56)⟩])
  (.cond (.t 57)
   (.seq (.ops [⟨some 4, none, .mv (.c (.bool false))⟩])
   (.ret))
   (.skip)))
  (.seq (.ops [⟨some 58, none, .load true 2 (.t 2)⟩,
    ⟨some 59, none, .call 53 [.t 58]⟩,
    ⟨some 60, none, .mv (.t 1)⟩,
    ⟨some 61, none, .call 65 [.t 59, .t 60]⟩,
    ⟨some 12, none, .new [.int .i64 0, .int .i64 0, .slice none 0 0, .slice none 0 0]⟩,
    ⟨none, none, .store 4 (.t 12) (.t 61)⟩])
  (.seq (.seq (.ops [⟨some 62, none, .load true 4 (.t 12)⟩,
    ⟨some 63, none, .load true 4 (.t 6)⟩,
    ⟨some 64, none, .call 43 [.t 62, .t 63]⟩,
    ⟨some 65, none, .not (.t 64)⟩])
  (.cond (.t 65)
   (.seq (.ops [⟨some 4, none, .mv (.c (.bool false))⟩])
   (.ret))
   (.skip)))
  (.seq (.ops [⟨some 11, none, .mv (.c (.int .i64 1))⟩])
  (.seq (.ops [⟨some 66, none, .load true 4 (.t 8)⟩,
    ⟨some 67, none, .mv (.t 11)⟩,
    ⟨some 68, none, .call 45 [.t 66, .t 67]⟩,
    ⟨some 11, none, .mv (.t 68)⟩])
  (.seq (.seq (.ops [⟨some 69, none, .mv (.t 11)⟩,
    ⟨some 70, none, .bin .lss (.t 69) (.c (.int .i64 0))⟩])
  (.cond (.t 70)
   (.seq (.ops [⟨some 4, none, .mv (.c (.bool false))⟩])
   (.ret))
   (.skip)))
  (.seq (.seq (.ops [⟨some 71, none, .mv (.t 11)⟩,
    ⟨some 72, none, .mv (.t 10)⟩,
    ⟨some 73, none, .bin .neq (.t 71) (.t 72)⟩])
  (.cond (.t 73)
   (.seq (.ops [⟨some 4, none, .mv (.c (.bool false))⟩])
   (.ret))
   (.skip)))
  (.seq (.ops [⟨some 4, none, .mv (.c (.bool true))⟩])
  (.ret)))))))))))))))))))))))))⟩
theorem ok14 : FnOK Try.prog 14 v14 := ⟨⟨Try.f14, _, Try.func14, rfl, by kernel_rfl, rfl, by decide, by kernel_rfl, by kernel_rfl⟩⟩

/-- laws.FnExactDropTree -/
def v15 : VF := ⟨2, 74, [.t 4], true,
  .seq (.ops [⟨some 2, none, .box (.t 0)⟩,
    ⟨some 4, none, .mv (.c (.bool false))⟩])
  (.seq (.ops [⟨some 5, none, .mv (.c (.int .i64 1048576))⟩])
  (.seq (.ops [⟨some 13, none, .load true 2 (.t 2)⟩,
    ⟨some 14, none, .mv (.t 5)⟩,
    ⟨some 15, none, .call 51 [.t 13, .t 14]⟩,
    ⟨some 5, none, .mv (.t 15)⟩])
  (.seq (.seq (.ops [⟨some 16, none, .mv (.t 5)⟩,
    ⟨some 17, none, .bin .lss (.t 16) (.c (.int .i64 0))⟩])
  (.cond (.t 17)
   (.seq (.ops [⟨some 4, none, .mv (.c (.bool true))⟩])
   (.ret))
   (.skip)))
  (.seq (.ops [⟨some 18, none, .load true 2 (.t 2)⟩,
    ⟨some 19, none, .call 53 [.t 18]⟩,
    ⟨some 20, none, .mv (.t 1)⟩,
    ⟨some 21, none, .call 66 [.t 19, .t 20]⟩,
    ⟨some 6, none, .new [.int .i64 0, .int .i64 0, .slice none 0 0, .slice none 0 0]⟩,
    ⟨none, none, .store 4 (.t 6) (.t 21)⟩])
  (.seq (.ops [⟨some 22, none, .load true 2 (.t 2)⟩,
    ⟨some 23, none, .call 53 [.t 22]⟩,
    ⟨some 7, none, .new [.slice none 0 0, .slice none 0 0]⟩,
    ⟨none, none, .store 2 (.t 7) (.t 23)⟩])
  (.seq (.ops [⟨some 24, none, .load true 2 (.t 7)⟩,
    ⟨some 25, none, .mv (.t 1)⟩,
    ⟨some 26, none, .call 67 [.t 24, .t 25]⟩,
    ⟨some 8, none, .new [.int .i64 0, .int .i64 0, .slice none 0 0, .slice none 0 0]⟩,
    ⟨none, none, .store 4 (.t 8) (.t 26)⟩])
  (.seq (.seq (.ops [⟨some 27, none, .load true 4 (.t 8)⟩,
    ⟨some 28, none, .load true 4 (.t 6)⟩,
    ⟨some 29, none, .call 43 [.t 27, .t 28]⟩,
    ⟨some 30, none, .not (.t 29)⟩])
  (.cond (.t 30)
   (.seq (.ops [⟨some 4, none, .mv (.c (.bool false))⟩])
   (.ret))
   (.skip)))
  (.seq (.seq (.draw [⟨some 31, none, .load true 2 (.t 7)⟩,
    ⟨some 32, none, .load true 2 (.t 2)⟩,
    ⟨some 33, none, .call 53 [.t 32]⟩] [⟨some 34, none, .call 55 [.t 31, .t 33]⟩,
    ⟨some 35, none, .not (.t 34)⟩])
  (.cond (.t 35)
   (.seq (.ops [⟨some 4, none, .mv (.c (.bool false))⟩])
   (.ret))
   (.skip)))
  (.seq (.ops [⟨some 9, none, .mv (.c (.int .i64 1))⟩])
  (.seq (.ops [⟨some 36, none, .load true 2 (.t 7)⟩,
    ⟨some 37, none, .mv (.t 9)⟩,
    ⟨some 38, none, .call 61 [.t 36, .t 37]⟩,
    ⟨some 9, none, .mv (.t 38)⟩])
  (.seq (.seq (.ops [⟨some 39, none, .mv (.t 9)⟩,
    ⟨some 40, none, .bin .lss (.t 39) (.c (.int .i64 0))⟩,
    ⟨some 41, none, .mv (.t 40)⟩,
    ⟨some 42, some (41, false), .load true 4 (.t 8)⟩,
    ⟨some 43, some (41, false), .load true 4 (.t 6)⟩,
    ⟨some 44, some (41, false), .call 43 [.t 42, .t 43]⟩,
    ⟨some 45, some (41, false), .not (.t 44)⟩,
    ⟨some 46, none, .pick (.t 41) (.c (.bool true)) (.t 45)⟩])
  (.cond (.t 46)
   (.seq (.ops [⟨some 4, none, .mv (.c (.bool false))⟩])
   (.ret))
   (.skip)))
  (.seq (.ops [⟨some 10, none, .mv (.c (.int .i64 1))⟩])
  (.seq (.ops [⟨some 47, none, .load true 4 (.t 8)⟩,
    ⟨some 48, none, .mv (.t 10)⟩,
    ⟨some 49, none, .call 44 [.t 47, .t 48]⟩,
    ⟨some 10, none, .mv (.t 49)⟩])
  (.seq (.ops [⟨some 11, none, .mv (.c (.int .i64 1))⟩])
  (.seq (.ops [⟨some 50, none, .load true 4 (.t 8)⟩,
    ⟨some 51, none, .mv (.t 11)⟩,
    ⟨some 52, none, .call 45 [.t 50, .t 51]⟩,
    ⟨some 11, none, .mv (.t 52)⟩])
  (.seq (.seq (.ops [⟨some 53, none, .mv (.t 11)⟩,
    ⟨some 54, none, .bin .lss (.t 53) (.c (.int .i64 0))⟩])
  (.cond (.t 54)
   (.seq (.ops [⟨some 4, none, .mv (.c (.bool false))⟩])
   (.ret))
   (.skip)))
  (.seq (.seq (.ops [⟨some 55, none, .mv (.t 11)⟩,
    ⟨some 56, none, .mv (.t 10)⟩,
    ⟨some 57, none, .bin .neq (.t 55) (.t 56)⟩])
  (.cond (.t 57)
   (.seq (.ops [⟨some 4, none, .mv (.c (.bool false))⟩])
   (.ret))
   (.skip)))
  (.seq (.ops [⟨some 58, none, .load true 2 (.t 2)⟩,
    ⟨some 59, none, .call 53 [.t 58]⟩,
    ⟨some 60, none, .mv (.t 1)⟩,
    ⟨some 61, none, .call 67 [.t 59, .t 60]⟩,
    ⟨some 12, none, .new [.int .i64 0, .int .i64 0, .slice none 0 0, .slice none 0 0]⟩,
    ⟨none, none, .store 4 (.t 12) (.t 61)⟩])
  (.seq (.seq (.ops [⟨some 62, none, .load true 4 (.t 12)⟩,
    ⟨some 63, none, .load true 4 (.t 6)⟩,
    ⟨some 64, none, .call 43 [.t 62, .t 63]⟩,
    ⟨some 65, none, .not (.t 64)⟩])
  (.cond (.t 65)
   (.seq (.ops [⟨some 4, none, .mv (.c (.bool false))⟩])
   (.ret))
   (.skip)))
  (.seq (.ops [⟨some 11, none, .mv (.c (.int .i64 1))⟩])
  (.seq (.ops [⟨some 66, none, .load true 4 (.t 8)⟩,
    ⟨some 67, none, .mv (.t 11)⟩,
    ⟨some 68, none, .call 45 [.t 66, .t 67]⟩,
    ⟨some 11, none, .mv (.t 68)⟩])
  (.seq (.seq (.ops [⟨some 69, none, .mv (.t 11)⟩,
    ⟨some 70, none, .bin .lss (.t 69) (.c (.int .i64 0))⟩])
  (.cond (.t 70)
   (.seq (.ops [⟨some 4, none, .mv (.c (.bool false))⟩])
   (.ret))
   (.skip)))
  (.seq (.seq (.ops [⟨some 71, none, .mv (.t 11)⟩,
    ⟨some 72, none, .mv (.t 10)⟩,
    ⟨some 73, none, .bin .neq (.t 71) (.t 72)⟩])
  (.cond (.t 73)
   (.seq (.ops [⟨some 4, none, .mv (.c (.bool false))⟩])
   (.ret))
   (.skip)))
  (.seq (.ops [⟨some 4, none, .mv (.c (.bool true))⟩])
  (.ret)))))))))))))))))))))))))⟩
theorem ok15 : FnOK Try.prog 15 v15 := ⟨⟨Try.f15, _, Try.func15, rfl, by kernel_rfl, rfl, by decide, by kernel_rfl, by kernel_rfl⟩⟩

/-- laws.FnExactClearTree -/
def v16 : VF := ⟨3, 79, [.t 6], true,
  .seq (.ops [⟨some 3, none, .box (.t 0)⟩,
    ⟨some 6, none, .mv (.c (.bool false))⟩])
  (.seq (.ops [⟨some 7, none, .mv (.c (.int .i64 1048576))⟩])
  (.seq (.ops [⟨some 15, none, .load true 2 (.t 3)⟩,
    ⟨some 16, none, .mv (.t 7)⟩,
    ⟨some 17, none, .call 51 [.t 15, .t 16]⟩,
    ⟨some 7, none, .mv (.t 17)⟩])
  (.seq (.seq (.ops [⟨some 18, none, .mv (.t 7)⟩,
    ⟨some 19, none, .bin .lss (.t 18) (.c (.int .i64 0))⟩])
  (.cond (.t 19)
   (.seq (.ops [⟨some 6, none, .mv (.c (.bool true))⟩])
   (.ret))
   (.skip)))
  (.seq (.ops [⟨some 20, none, .load true 2 (.t 3)⟩,
    ⟨some 21, none, .call 53 [.t 20]⟩,
    ⟨some 22, none, .mv (.t 1)⟩,
    ⟨some 23, none, .mv (.t 2)⟩,
    ⟨some 24, none, .call 68 [.t 21, .t 22, .t 23]⟩,
    ⟨some 8, none, .new [.int .i64 0, .int .i64 0, .slice none 0 0, .slice none 0 0]⟩,
    ⟨none, none, .store 4 (.t 8) (.t 24)⟩])
  (.seq (.ops [⟨some 25, none, .load true 2 (.t 3)⟩,
    ⟨some 26, none, .call 53 [.t 25]⟩,
    ⟨some 9, none, .new [.slice none 0 0, .slice none 0 0]⟩,
    ⟨none, none, .store 2 (.t 9) (.t 26)⟩])
  (.seq (.ops [⟨some 27, none, .load true 2 (.t 9)⟩,
    ⟨some 28, none, .mv (.t 1)⟩,
    ⟨some 29, none, .mv (.t 2)⟩,
    ⟨some 30, none, .call 69 [.t 27, .t 28, .t 29]⟩,
    ⟨some 10, none, .new [.int .i64 0, .int .i64 0, .slice none 0 0, .slice none 0 0]⟩,
    ⟨none, none, .store 4 (.t 10) (.t 30)⟩])
  (.seq (.seq (.ops [⟨some 31, none, .load true 4 (.t 10)⟩,
    ⟨some 32, none, .load true 4 (.t 8)⟩,
    ⟨some 33, none, .call 43 [.t 31, .t 32]⟩,
    ⟨some 34, none, .not (.t 33)⟩])
  (.cond (.t 34)
   (.seq (.ops [⟨some 6, none, .mv (.c (.bool false))⟩])
   (.ret))
   (.skip)))
  (.seq (.seq (.draw [⟨some 35, none, .load true 2 (.t 9)⟩,
    ⟨some 36, none, .load true 2 (.t 3)⟩,
    ⟨some 37, none, .call 53 [.t 36]⟩] [⟨some 38, none, .call 55 [.t 35, .t 37]⟩,
    ⟨some 39, none, .not (.t 38)⟩])
  (.cond (.t 39)
   (.seq (.ops [⟨some 6, none, .mv (.c (.bool false))⟩])
   (.ret))
   (.skip)))
  (.seq (.ops [⟨some 11, none, .mv (.c (.int .i64 1))⟩])
  (.seq (.ops [⟨some 40, none, .load true 2 (.t 9)⟩,
    ⟨some 41, none, .mv (.t 11)⟩,
    ⟨some 42, none, .call 61 [.t 40, .t 41]⟩,
    ⟨some 11, none, .mv (.t 42)⟩])
  (.seq (.seq (.ops [⟨some 43, none, .mv (.t 11)⟩,
    ⟨some 44, none, .bin .lss (.t 43) (.c (.int .i64 0))⟩,
    ⟨some 45, none, .mv (.t 44)⟩,
    ⟨some 46, some (45, false), .load true 4 (.t 10)⟩,
    ⟨some 47, some (45, false), .load true 4 (.t 8)⟩,
    ⟨some 48, some (45, false), .call 43 [.t 46, .t 47]⟩,
    ⟨some 49, some (45, false), .not (.t 48)⟩,
    ⟨some 50, none, .pick (.t 45) (.c (.bool true)) (.t 49)⟩])
  (.cond (.t 50)
   (.seq (.ops [⟨some 6, none, .mv (.c (.bool false))⟩])
   (.ret))
   (.skip)))
  (.seq (.ops [⟨some 12, none, .mv (.c (.int .i64 1))⟩])
  (.seq (.ops [⟨some 51, none, .load true 4 (.t 10)⟩,
    ⟨some 52, none, .mv (.t 12)⟩,
    ⟨some 53, none, .call 44 [.t 51, .t 52]⟩,
    ⟨some 12, none, .mv (.t 53)⟩])
  (.seq (.ops [⟨some 13, none, .mv (.c (.int .i64 1))⟩])
  (.seq (.ops [⟨some 54, none, .load true 4 (.t 10)⟩,
    ⟨some 55, none, .mv (.t 13)⟩,
    ⟨some 56, none, .call 45 [.t 54, .t 55]⟩,
    ⟨some 13, none, .mv (.t 56)⟩])
  (.seq (.seq (.ops [⟨some 57, none, .mv (.t 13)⟩,
    ⟨some 58, none, .bin .lss (.t 57) (.c (.int .i64 0))⟩])
  (.cond (.t 58)
   (.seq (.ops [⟨some 6, none, .mv (.c (.bool false))⟩])
   (.ret))
   (.skip)))
  (.seq (.seq (.ops [⟨some 59, none, .mv (.t 13)⟩,
    ⟨some 60, none, .mv (.t 12)⟩,
    ⟨some 61, none, .bin .neq (.t 59) (.t 60)⟩])
  (.cond (.t 61)
   (.seq (.ops [⟨some 6, none, .mv (.c (.bool false))⟩])
   (.ret))
   (.skip)))
  (.seq (.ops [⟨some 62, none, .load true 2 (.t 3)⟩,
    ⟨some 63, none, .call 53 [.t 62]⟩,
    ⟨some 64, none, .mv (.t 1)⟩,
    ⟨some 65, none, .mv (.t 2)⟩,
    ⟨some 66, none, .call 69 [.t 63, .t 64, .t 65]⟩,
    ⟨some 14, none, .new [.int .i64 0, .int .i64 0, .slice none 0 0, .slice none 0 0]⟩,
    ⟨none, none, .store 4 (.t 14) (.t 66)⟩])
  (.seq (.seq (.ops [⟨some 67, none, .load true 4 (.t 14)⟩,
    ⟨some 68, none, .load true 4 (.t 8)⟩,
    ⟨some 69, none, .call 43 [.t 67, .t 68]⟩,
    ⟨some 70, none, .not (.t 69)⟩])
  (.cond (.t 70)
   (.seq (.ops [⟨some 6, none, .mv (.c (.bool false))⟩])
   (.ret))
   (.skip)))
  (.seq (.ops [⟨some 13, none, .mv (.c (.int .i64 1))⟩])
  (.seq (.ops [⟨some 71, none, .load true 4 (.t 10)⟩,
    ⟨some 72, none, .mv (.t 13)⟩,
    ⟨some 73, none, .call 45 [.t 71, .t 72]⟩,
    ⟨some 13, none, .mv (.t 73)⟩])
  (.seq (.seq (.ops [⟨some 74, none, .mv (.t 13)⟩,
    ⟨some 75, none, .bin .lss (.t 74) (.c (.int .i64 0))⟩])
  (.cond (.t 75)
   (.seq (.ops [⟨some 6, none, .mv (.c (.bool false))⟩])
   (.ret))
   (.skip)))
  (.seq (.seq (.ops [⟨some 76, none, .mv (.t 13)⟩,
    ⟨some 77, none, .mv (.t 12)⟩,
    ⟨some 78, none, .bin .neq (.t 76) (.t 77)⟩])
  (.cond (.t 78)
   (.seq (.ops [⟨some 6, none, .mv (.c (.bool false))⟩])
   (.ret))
   (.skip)))
  (.seq (.ops [⟨some 6, none, .mv (.c (.bool true))⟩])
  (.ret)))))))))))))))))))))))))⟩
theorem ok16 : FnOK Try.prog 16 v16 := ⟨⟨Try.f16, _, Try.func16, rfl, by kernel_rfl, rfl, by decide, by kernel_rfl, by kernel_rfl⟩⟩

/-- laws.FnExactSetTree -/
def v17 : VF := ⟨4, 84, [.t 8], true,
  .seq (.ops [⟨some 4, none, .box (.t 0)⟩,
    ⟨some 8, none, .mv (.c (.bool false))⟩])
  (.seq (.ops [⟨some 9, none, .mv (.c (.int .i64 1048576))⟩])
  (.seq (.ops [⟨some 17, none, .load true 2 (.t 4)⟩,
    ⟨some 18, none, .mv (.t 9)⟩,
    ⟨some 19, none, .call 51 [.t 17, .t 18]⟩,
    ⟨some 9, none, .mv (.t 19)⟩])
  (.seq (.seq (.ops [⟨some 20, none, .mv (.t 9)⟩,
    ⟨some 21, none, .bin .lss (.t 20) (.c (.int .i64 0))⟩])
  (.cond (.t 21)
   (.seq (.ops [⟨some 8, none, .mv (.c (.bool true))⟩])
   (.ret))
   (.skip)))
  (.seq (.ops [⟨some 22, none, .load true 2 (.t 4)⟩,
    ⟨some 23, none, .call 53 [.t 22]⟩,
    ⟨some 24, none, .mv (.t 1)⟩,
    ⟨some 25, none, .mv (.t 2)⟩,
    ⟨some 26, none, .mv (.t 3)⟩,
    ⟨some 27, none, .call 70 [.t 23, .t 24, .t 25, .t 26]⟩,
    ⟨some 10, none, .new [.int .i64 0, .int .i64 0, .slice none 0 0, .slice none 0 0]⟩,
    ⟨none, none, .store 4 (.t 10) (.t 27)⟩])
  (.seq (.ops [⟨some 28, none, .load true 2 (.t 4)⟩,
    ⟨some 29, none, .call 53 [.t 28]⟩,
    ⟨some 11, none, .new [.slice none 0 0, .slice none 0 0]⟩,
    ⟨none, none, .store 2 (.t 11) (.t 29)⟩])
  (.seq (.ops [⟨some 30, none, .load true 2 (.t 11)⟩,
    ⟨some 31, none, .mv (.t 1)⟩,
    ⟨some 32, none, .mv (.t 2)⟩,
    ⟨some 33, none, .mv (.t 3)⟩,
    ⟨some 34, none, .call 71 [.t 30, .t 31, .t 32, .t 33]⟩,
    ⟨some 12, none, .new [.int .i64 0, .int .i64 0, .slice none 0 0, .slice none 0 0]⟩,
    ⟨none, none, .store 4 (.t 12) (.t 34)⟩])
  (.seq (.seq (.ops [⟨some 35, none, .load true 4 (.t 12)⟩,
    ⟨some 36, none, .load true 4 (.t 10)⟩,
    ⟨some 37, none, .call 43 [.t 35, .t 36]⟩,
    ⟨some 38, none, .not (.t 37)⟩])
  (.cond (.t 38)
   (.seq (.ops [⟨some 8, none, .mv (.c (.bool false))⟩])
   (.ret))
   (.skip)))
  (.seq (.seq (.draw [⟨some 39, none, .load true 2 (.t 11)⟩,
    ⟨some 40, none, .load true 2 (.t 4)⟩,
    ⟨some 41, none, .call 53 [.t 40]⟩] [⟨some 42, none, .call 55 [.t 39, .t 41]⟩,
    ⟨some 43, none, .not (.t 42)⟩])
  (.cond (.t 43)
   (.seq (.ops [⟨some 8, none, .mv (.c (.bool false))⟩])
   (.ret))
   (.skip)))
  (.seq (.ops [⟨some 13, none, .mv (.c (.int .i64 1))⟩])
  (.seq (.ops [⟨some 44, none, .load true 2 (.t 11)⟩,
    ⟨some 45, none, .mv (.t 13)⟩,
    ⟨some 46, none, .call 61 [.t 44, .t 45]⟩,
    ⟨some 13, none, .mv (.t 46)⟩])
  (.seq (.seq (.ops [⟨some 47, none, .mv (.t 13)⟩,
    ⟨some 48, none, .bin .lss (.t 47) (.c (.int .i64 0))⟩,
    ⟨some 49, none, .mv (.t 48)⟩,
    ⟨some 50, some (49, false), .load true 4 (.t 12)⟩,
    ⟨some 51, some (49, false), .load true 4 (.t 10)⟩,
    ⟨some 52, some (49, false), .call 43 [.t 50, .t 51]⟩,
    ⟨some 53, some (49, false), .not (.t 52)⟩,
    ⟨some 54, none, .pick (.t 49) (.c (.bool true)) (.t 53)⟩])
  (.cond (.t 54)
   (.seq (.ops [⟨some 8, none, .mv (.c (.bool false))⟩])
   (.ret))
   (.skip)))
  (.seq (.ops [⟨some 14, none, .mv (.c (.int .i64 1))⟩])
  (.seq (.ops [⟨some 55, none, .load true 4 (.t 12)⟩,
    ⟨some 56, none, .mv (.t 14)⟩,
    ⟨some 57, none, .call 44 [.t 55, .t 56]⟩,
    ⟨some 14, none, .mv (.t 57)⟩])
  (.seq (.ops [⟨some 15, none, .mv (.c (.int .i64 1))⟩])
  (.seq (.ops [⟨some 58, none, .load true 4 (.t 12)⟩,
    ⟨some 59, none, .mv (.t 15)⟩,
    ⟨some 60, none, .call 45 [.t 58, .t 59]⟩,
    ⟨some 15, none, .mv (.t 60)⟩])
  (.seq (.seq (.ops [⟨some 61, none, .mv (.t 15)⟩,
    ⟨some 62, none, .bin .lss (.t 61) (.c (.int .i64 0))⟩])
  (.cond (.t 62)
   (.seq (.ops [⟨some 8, none, .mv (.c (.bool false))⟩])
   (.ret))
   (.skip)))
  (.seq (.seq (.ops [⟨some 63, none, .mv (.t 15)⟩,
    ⟨some 64, none, .mv (.t 14)⟩,
    ⟨some 65, none, .bin .neq (.t 63) (.t 64)⟩])
  (.cond (.t 65)
   (.seq (.ops [⟨some 8, none, .mv (.c (.bool false))⟩])
   (.ret))
   (.skip)))
  (.seq (.ops [⟨some 66, none, .load true 2 (.t 4)⟩,
    ⟨some 67, none, .call 53 [.t 66]⟩,
    ⟨some 68, none, .mv (.t 1)⟩,
    ⟨some 69, none, .mv (.t 2)⟩,
    ⟨some 70, none, .mv (.t 3)⟩,
    ⟨some 71, none, .call 71 [.t 67, .t 68, .t 69, .t 70]⟩,
    ⟨some 16, none, .new [.int .i64 0, .int .i64 0, .slice none 0 0, .slice none 0 0]⟩,
    ⟨none, none, .store 4 (.t 16) (.t 71)⟩])
  (.seq (.seq (.ops [⟨some 72, none, .load true 4 (.t 16)⟩,
    ⟨some 73, none, .load true 4 (.t 10)⟩,
    ⟨some 74, none, .call 43 [.t 72, .t 73]⟩,
    ⟨some 75, none, .not (.t 74)⟩])
  (.cond (.t 75)
   (.seq (.ops [⟨some 8, none, .mv (.c (.bool false))⟩])
   (.ret))
   (.skip)))
  (.seq (.ops [⟨some 15, none, .mv (.c (.int .i64 1))⟩])
  (.seq (.ops [⟨some 76, none, .load true 4 (.t 12)⟩,
    ⟨some 77, none, .mv (.t 15)⟩,
    ⟨some 78, none, .call 45 [.t 76, .t 77]⟩,
    ⟨some 15, none, .mv (.t 78)⟩])
  (.seq (.seq (.ops [⟨some 79, none, .mv (.t 15)⟩,
    ⟨some 80, none, .bin .lss (.t 79) (.c (.int .i64 0))⟩])
  (.cond (.t 80)
   (.seq (.ops [⟨some 8, none, .mv (.c (.bool false))⟩])
   (.ret))
   (.skip)))
  (.seq (.seq (.ops [⟨some 81, none, .mv (.t 15)⟩,
    ⟨some 82, none, .mv (.t 14)⟩,
    ⟨some 83, none, .bin .neq (.t 81) (.t 82)⟩])
  (.cond (.t 83)
   (.seq (.ops [⟨some 8, none, .mv (.c (.bool false))⟩])
   (.ret))
   (.skip)))
  (.seq (.ops [⟨some 8, none, .mv (.c (.bool true))⟩])
  (.ret)))))))))))))))))))))))))⟩
theorem ok17 : FnOK Try.prog 17 v17 := ⟨⟨Try.f17, _, Try.func17, rfl, by kernel_rfl, rfl, by decide, by kernel_rfl, by kernel_rfl⟩⟩

/-- laws.szBlockS -/
def v25 : VF := ⟨2, 12, [.t 4], true,
  .seq (.ops [⟨some 4, none, .mv (.c (.int .i64 0))⟩])
  (.seq (.ops [⟨some 5, none, .mv (.t 1)⟩,
    ⟨some 6, none, .mv (.t 0)⟩,
    ⟨some 7, none, .len (.t 6)⟩,
    ⟨some 8, none, .bin .sub (.t 5) (.t 7)⟩,
    ⟨some 1, none, .mv (.t 8)⟩])
  (.seq (.seq (.ops [⟨some 9, none, .mv (.t 1)⟩,
    ⟨some 10, none, .bin .lss (.t 9) (.c (.int .i64 0))⟩])
  (.cond (.t 10)
   (.seq (.ops [⟨some 4, none, .mv (.c (.int .i64 (-1)))⟩])
   (.ret))
   (.skip)))
  (.seq (.ops [⟨some 11, none, .mv (.t 1)⟩,
    ⟨some 4, none, .mv (.t 11)⟩])
  (.ret))))⟩
theorem ok25 : FnOK Try.prog 25 v25 := ⟨⟨Try.f25, _, Try.func25, rfl, by kernel_rfl, rfl, by decide, by kernel_rfl, by kernel_rfl⟩⟩

/-- laws.toBlockS -/
def l27_0 : VC :=
  .seq (.seq (.ops [⟨some 8, none, .mv (.t 4)⟩,
    ⟨some 9, none, .mv (.t 0)⟩,
    ⟨some 10, none, .len (.t 9)⟩,
    ⟨some 11, none, .bin .lss (.t 8) (.t 10)⟩])
  (.cond (.t 11)
   (.skip)
   (.exit 0)))
  (.seq (.block 1 (.ops [⟨some 14, none, .mv (.t 3)⟩,
     ⟨some 15, none, .mv (.t 4)⟩,
     ⟨some 16, none, .mv (.t 0)⟩,
     ⟨some 17, none, .mv (.t 4)⟩,
     ⟨some 18, none, .iaddr 2 (.t 16) (.t 17)⟩,
     ⟨some 19, none, .load true 2 (.t 18)⟩,
     ⟨some 20, none, .call 81 [.t 19]⟩,
     ⟨some 21, none, .iaddr 2 (.t 14) (.t 15)⟩,
     ⟨none, none, .store 2 (.t 21) (.t 20)⟩]))
  (.ops [⟨some 12, none, .mv (.t 4)⟩,
    ⟨some 13, none, .bin .add (.t 12) (.c (.int .i64 1))⟩,
    ⟨some 4, none, .mv (.t 13)⟩]))
def v27 : VF := ⟨1, 23, [.t 2], true,
  .seq (.ops [⟨some 2, none, .mv (.c (.slice none 0 0))⟩])
  (.seq (.ops [⟨some 5, none, .mv (.t 0)⟩,
    ⟨some 6, none, .len (.t 5)⟩,
    ⟨some 7, none, .mkslice 2 16 [.int .i64 0, .int .i64 0] (.t 6) (.t 6)⟩,
    ⟨some 3, none, .mv (.t 7)⟩])
  (.seq (.seq (.ops [⟨some 4, none, .mv (.c (.int .i64 0))⟩])
  (.block 0 (.loop [0, 3, 4] [2, 3] l27_0)))
  (.seq (.ops [⟨some 22, none, .mv (.t 3)⟩,
    ⟨some 2, none, .mv (.t 22)⟩])
  (.ret))))⟩
theorem ok27 : FnOK Try.prog 27 v27 := ⟨⟨Try.f27, _, Try.func27, rfl, by kernel_rfl, rfl, by decide, by kernel_rfl, by kernel_rfl⟩⟩

/-- laws.eqBlockS -/
def l30_0 : VC :=
  .seq (.seq (.ops [⟨some 11, none, .mv (.t 5)⟩,
    ⟨some 12, none, .mv (.t 0)⟩,
    ⟨some 13, none, .len (.t 12)⟩,
    ⟨some 14, none, .bin .lss (.t 11) (.t 13)⟩])
  (.cond (.t 14)
   (.skip)
   (.exit 0)))
  (.seq (.block 1 (.seq (.draw [⟨some 17, none, .mv (.t 0)⟩,
     ⟨some 18, none, .mv (.t 5)⟩,
     ⟨some 19, none, .iaddr 2 (.t 17) (.t 18)⟩,
     ⟨some 20, none, .load true 2 (.t 19)⟩,
     ⟨some 21, none, .mv (.t 1)⟩,
     ⟨some 22, none, .mv (.t 5)⟩,
     ⟨some 23, none, .iaddr 2 (.t 21) (.t 22)⟩,
     ⟨some 24, none, .load true 2 (.t 23)⟩] [⟨some 25, none, .call 82 [.t 20, .t 24]⟩,
     ⟨some 26, none, .not (.t 25)⟩])
   (.cond (.t 26)
    (.seq (.ops [⟨some 4, none, .mv (.c (.bool false))⟩])
    (.ret))
    (.skip))))
  (.ops [⟨some 15, none, .mv (.t 5)⟩,
    ⟨some 16, none, .bin .add (.t 15) (.c (.int .i64 1))⟩,
    ⟨some 5, none, .mv (.t 16)⟩]))
def v30 : VF := ⟨2, 27, [.t 4], true,
  .seq (.ops [⟨some 4, none, .mv (.c (.bool false))⟩])
  (.seq (.seq (.ops [⟨some 6, none, .mv (.t 0)⟩,
    ⟨some 7, none, .len (.t 6)⟩,
    ⟨some 8, none, .mv (.t 1)⟩,
    ⟨some 9, none, .len (.t 8)⟩,
    ⟨some 10, none, .bin .neq (.t 7) (.t 9)⟩])
  (.cond (.t 10)
   (.seq (.ops [⟨some 4, none, .mv (.c (.bool false))⟩])
   (.ret))
   (.skip)))
  (.seq (.seq (.ops [⟨some 5, none, .mv (.c (.int .i64 0))⟩])
  (.block 0 (.loop [0, 1, 5] [4] l30_0)))
  (.seq (.ops [⟨some 4, none, .mv (.c (.bool true))⟩])
  (.ret))))⟩
theorem ok30 : FnOK Try.prog 30 v30 := ⟨⟨Try.f30, _, Try.func30, rfl, by kernel_rfl, rfl, by decide, by kernel_rfl, by kernel_rfl⟩⟩

/-- laws.markBlockS -/
def l33_0 : VC :=
  .seq (.seq (.ops [⟨some 6, none, .mv (.t 5)⟩,
    ⟨some 7, none, .mv (.t 0)⟩,
    ⟨some 8, none, .len (.t 7)⟩,
    ⟨some 9, none, .bin .lss (.t 6) (.t 8)⟩])
  (.cond (.t 9)
   (.skip)
   (.exit 0)))
  (.seq (.block 1 (.seq (.ops [⟨some 12, none, .mv (.t 0)⟩,
     ⟨some 13, none, .mv (.t 5)⟩,
     ⟨some 14, none, .mv (.t 1)⟩,
     ⟨some 15, none, .iaddr 2 (.t 12) (.t 13)⟩,
     ⟨some 16, none, .faddr 0 (.t 15)⟩,
     ⟨none, none, .store 1 (.t 16) (.t 14)⟩])
   (.seq (.ops [⟨some 17, none, .mv (.t 1)⟩,
     ⟨some 18, none, .bin .add (.t 17) (.c (.int .i64 1))⟩,
     ⟨some 1, none, .mv (.t 18)⟩])
   (.seq (.ops [⟨some 19, none, .mv (.t 0)⟩,
     ⟨some 20, none, .mv (.t 5)⟩,
     ⟨some 21, none, .mv (.t 1)⟩,
     ⟨some 22, none, .iaddr 2 (.t 19) (.t 20)⟩,
     ⟨some 23, none, .faddr 1 (.t 22)⟩,
     ⟨none, none, .store 1 (.t 23) (.t 21)⟩])
   (.ops [⟨some 24, none, .mv (.t 1)⟩,
     ⟨some 25, none, .bin .add (.t 24) (.c (.int .i64 1))⟩,
     ⟨some 1, none, .mv (.t 25)⟩])))))
  (.ops [⟨some 10, none, .mv (.t 5)⟩,
    ⟨some 11, none, .bin .add (.t 10) (.c (.int .i64 1))⟩,
    ⟨some 5, none, .mv (.t 11)⟩]))
def v33 : VF := ⟨2, 27, [.t 4], false,
  .seq (.ops [⟨some 4, none, .mv (.c (.int .i64 0))⟩])
  (.seq (.seq (.ops [⟨some 5, none, .mv (.c (.int .i64 0))⟩])
  (.block 0 (.loop [0, 1, 5] [1, 4] l33_0)))
  (.seq (.ops [⟨some 26, none, .mv (.t 1)⟩,
    ⟨some 4, none, .mv (.t 26)⟩])
  (.ret)))⟩
theorem ok33 : FnOK Try.prog 33 v33 := ⟨⟨Try.f33, _, Try.func33, rfl, by kernel_rfl, rfl, by decide, by kernel_rfl, by kernel_rfl⟩⟩

/-- impl.BlocksFault -/
def l40_0 : VC :=
  .seq (.ops [⟨some 11, none, .bin .lss (.t 10) (.t 9)⟩])
  (.seq (.cond (.t 11)
   (.skip)
   (.exit 0))
  (.seq (.block 1 (.seq (.ops [⟨some 12, none, .iaddr 2 (.t 8) (.t 10)⟩,
     ⟨some 13, none, .load true 2 (.t 12)⟩,
     ⟨some 4, none, .new [.int .i64 0, .int .i64 0]⟩,
     ⟨none, none, .store 2 (.t 4) (.t 13)⟩])
   (.block 2 (.seq (.ops [⟨some 15, none, .faddr 0 (.t 4)⟩,
      ⟨some 16, none, .load false 1 (.t 15)⟩,
      ⟨some 17, none, .call 97 [.t 16]⟩,
      ⟨some 18, none, .not (.t 17)⟩,
      ⟨some 19, none, .mv (.t 18)⟩,
      ⟨some 20, some (19, false), .faddr 1 (.t 4)⟩,
      ⟨some 21, some (19, false), .load false 1 (.t 20)⟩,
      ⟨some 22, some (19, false), .call 90 [.t 21]⟩,
      ⟨some 23, some (19, false), .not (.t 22)⟩,
      ⟨some 24, none, .pick (.t 19) (.c (.bool true)) (.t 23)⟩,
      ⟨some 14, none, .mv (.t 24)⟩])
    (.cond (.t 14)
     (.seq (.ops [⟨some 2, none, .mv (.c (.int .i64 3))⟩])
     (.ret))
     (.seq (.ops [⟨some 26, none, .faddr 0 (.t 4)⟩,
       ⟨some 27, none, .load false 1 (.t 26)⟩,
       ⟨some 28, none, .bin .eql (.t 27) (.c (.int .i64 0))⟩,
       ⟨some 29, none, .mv (.t 28)⟩,
       ⟨some 30, some (29, true), .faddr 1 (.t 4)⟩,
       ⟨some 31, some (29, true), .load false 1 (.t 30)⟩,
       ⟨some 32, some (29, true), .bin .neq (.t 31) (.c (.int .i64 0))⟩,
       ⟨some 33, none, .pick (.t 29) (.t 32) (.c (.bool false))⟩,
       ⟨some 25, none, .mv (.t 33)⟩])
     (.cond (.t 25)
      (.seq (.ops [⟨some 2, none, .mv (.c (.int .i64 1))⟩])
      (.ret))
      (.skip))))))))
  (.ops [⟨some 34, none, .bin .add (.t 10) (.c (.int .i64 1))⟩,
    ⟨some 10, none, .mv (.t 34)⟩])))
def v40 : VF := ⟨1, 35, [.t 2], true,
  .seq (.ops [⟨some 2, none, .mv (.c (.int .i64 0))⟩])
  (.seq (.seq (.ops [⟨some 5, none, .mv (.t 0)⟩,
    ⟨some 6, none, .len (.t 5)⟩,
    ⟨some 7, none, .bin .gtr (.t 6) (.c (.int .i64 24))⟩])
  (.cond (.t 7)
   (.seq (.ops [⟨some 2, none, .mv (.c (.int .i64 2))⟩])
   (.ret))
   (.skip)))
  (.seq (.seq (.ops [⟨some 8, none, .mv (.t 0)⟩,
    ⟨some 9, none, .len (.t 8)⟩,
    ⟨some 10, none, .mv (.c (.int .i64 0))⟩])
  (.block 0 (.loop [8, 9, 10] [2] l40_0)))
  (.seq (.ops [⟨some 2, none, .mv (.c (.int .i64 0))⟩])
  (.ret))))⟩
theorem ok40 : FnOK Try.prog 40 v40 := ⟨⟨Try.f40, _, Try.func40, rfl, by kernel_rfl, rfl, by decide, by kernel_rfl, by kernel_rfl⟩⟩

/-- laws.eqForestResult -/
def v43 : VF := ⟨2, 21, [.t 4], true,
  .seq (.ops [⟨some 2, none, .box (.t 0)⟩,
    ⟨some 3, none, .box (.t 1)⟩,
    ⟨some 4, none, .mv (.c (.bool false))⟩])
  (.seq (.seq (.ops [⟨some 5, none, .faddr 0 (.t 2)⟩,
    ⟨some 6, none, .load false 1 (.t 5)⟩,
    ⟨some 7, none, .faddr 0 (.t 3)⟩,
    ⟨some 8, none, .load false 1 (.t 7)⟩,
    ⟨some 9, none, .bin .neq (.t 6) (.t 8)⟩])
  (.cond (.t 9)
   (.seq (.ops [⟨some 4, none, .mv (.c (.bool false))⟩])
   (.ret))
   (.skip)))
  (.seq (.seq (.ops [⟨some 10, none, .faddr 1 (.t 2)⟩,
    ⟨some 11, none, .load false 1 (.t 10)⟩,
    ⟨some 12, none, .faddr 1 (.t 3)⟩,
    ⟨some 13, none, .load false 1 (.t 12)⟩,
    ⟨some 14, none, .bin .neq (.t 11) (.t 13)⟩])
  (.cond (.t 14)
   (.seq (.ops [⟨some 4, none, .mv (.c (.bool false))⟩])
   (.ret))
   (.skip)))
  (.seq (.seq (.ops [⟨some 15, none, .faddr 2 (.t 2)⟩,
    ⟨some 16, none, .load true 2 (.t 15)⟩,
    ⟨some 17, none, .faddr 2 (.t 3)⟩,
    ⟨some 18, none, .load true 2 (.t 17)⟩,
    ⟨some 19, none, .call 55 [.t 16, .t 18]⟩,
    ⟨some 20, none, .not (.t 19)⟩])
  (.cond (.t 20)
   (.seq (.ops [⟨some 4, none, .mv (.c (.bool false))⟩])
   (.ret))
   (.skip)))
  (.seq (.ops [⟨some 4, none, .mv (.c (.bool true))⟩])
  (.ret)))))⟩
theorem ok43 : FnOK Try.prog 43 v43 := ⟨⟨Try.f43, _, Try.func43, rfl, by kernel_rfl, rfl, by decide, by kernel_rfl, by kernel_rfl⟩⟩

/-- laws.markForestResult -/
def v44 : VF := ⟨2, 10, [.t 4], false,
  .seq (.ops [⟨some 2, none, .box (.t 0)⟩,
    ⟨some 4, none, .mv (.c (.int .i64 0))⟩])
  (.seq (.ops [⟨some 5, none, .faddr 2 (.t 2)⟩,
    ⟨some 6, none, .load true 2 (.t 5)⟩,
    ⟨some 7, none, .mv (.t 1)⟩,
    ⟨some 8, none, .call 61 [.t 6, .t 7]⟩,
    ⟨some 1, none, .mv (.t 8)⟩])
  (.seq (.ops [⟨some 9, none, .mv (.t 1)⟩,
    ⟨some 4, none, .mv (.t 9)⟩])
  (.ret)))⟩
theorem ok44 : FnOK Try.prog 44 v44 := ⟨⟨Try.f44, _, Try.func44, rfl, by kernel_rfl, rfl, by decide, by kernel_rfl, by kernel_rfl⟩⟩

/-- laws.heldForestResult -/
def v45 : VF := ⟨2, 12, [.t 4], true,
  .seq (.ops [⟨some 2, none, .box (.t 0)⟩,
    ⟨some 4, none, .mv (.c (.int .i64 0))⟩])
  (.seq (.ops [⟨some 5, none, .faddr 2 (.t 2)⟩,
    ⟨some 6, none, .load true 2 (.t 5)⟩,
    ⟨some 7, none, .mv (.t 1)⟩,
    ⟨some 8, none, .call 99 [.t 6, .t 7]⟩,
    ⟨some 1, none, .mv (.t 8)⟩])
  (.seq (.seq (.ops [⟨some 9, none, .mv (.t 1)⟩,
    ⟨some 10, none, .bin .lss (.t 9) (.c (.int .i64 0))⟩])
  (.cond (.t 10)
   (.seq (.ops [⟨some 4, none, .mv (.c (.int .i64 (-1)))⟩])
   (.ret))
   (.skip)))
  (.seq (.ops [⟨some 11, none, .mv (.t 1)⟩,
    ⟨some 4, none, .mv (.t 11)⟩])
  (.ret))))⟩
theorem ok45 : FnOK Try.prog 45 v45 := ⟨⟨Try.f45, _, Try.func45, rfl, by kernel_rfl, rfl, by decide, by kernel_rfl, by kernel_rfl⟩⟩

/-- laws.szForest -/
def v51 : VF := ⟨2, 18, [.t 4], true,
  .seq (.ops [⟨some 2, none, .box (.t 0)⟩,
    ⟨some 4, none, .mv (.c (.int .i64 0))⟩])
  (.seq (.ops [⟨some 5, none, .faddr 0 (.t 2)⟩,
    ⟨some 6, none, .load false 1 (.t 5)⟩,
    ⟨some 7, none, .mv (.t 1)⟩,
    ⟨some 8, none, .call 103 [.t 6, .t 7]⟩,
    ⟨some 1, none, .mv (.t 8)⟩])
  (.seq (.seq (.ops [⟨some 9, none, .mv (.t 1)⟩,
    ⟨some 10, none, .bin .lss (.t 9) (.c (.int .i64 0))⟩])
  (.cond (.t 10)
   (.seq (.ops [⟨some 4, none, .mv (.c (.int .i64 (-1)))⟩])
   (.ret))
   (.skip)))
  (.seq (.ops [⟨some 11, none, .faddr 1 (.t 2)⟩,
    ⟨some 12, none, .load false 1 (.t 11)⟩,
    ⟨some 13, none, .mv (.t 1)⟩,
    ⟨some 14, none, .call 25 [.t 12, .t 13]⟩,
    ⟨some 1, none, .mv (.t 14)⟩])
  (.seq (.seq (.ops [⟨some 15, none, .mv (.t 1)⟩,
    ⟨some 16, none, .bin .lss (.t 15) (.c (.int .i64 0))⟩])
  (.cond (.t 16)
   (.seq (.ops [⟨some 4, none, .mv (.c (.int .i64 (-1)))⟩])
   (.ret))
   (.skip)))
  (.seq (.ops [⟨some 17, none, .mv (.t 1)⟩,
    ⟨some 4, none, .mv (.t 17)⟩])
  (.ret))))))⟩
theorem ok51 : FnOK Try.prog 51 v51 := ⟨⟨Try.f51, _, Try.func51, rfl, by kernel_rfl, rfl, by decide, by kernel_rfl, by kernel_rfl⟩⟩

/-- laws.toForest -/
def v53 : VF := ⟨1, 13, [.cell 2 true 2], true,
  .seq (.ops [⟨some 1, none, .box (.t 0)⟩,
    ⟨some 2, none, .new [.slice none 0 0, .slice none 0 0]⟩])
  (.seq (.ops [⟨some 3, none, .new [.slice none 0 0, .slice none 0 0]⟩])
  (.seq (.ops [⟨some 4, none, .faddr 0 (.t 1)⟩,
    ⟨some 5, none, .load false 1 (.t 4)⟩,
    ⟨some 6, none, .call 105 [.t 5]⟩,
    ⟨some 7, none, .faddr 0 (.t 3)⟩,
    ⟨none, none, .store 1 (.t 7) (.t 6)⟩])
  (.seq (.ops [⟨some 8, none, .faddr 1 (.t 1)⟩,
    ⟨some 9, none, .load false 1 (.t 8)⟩,
    ⟨some 10, none, .call 27 [.t 9]⟩,
    ⟨some 11, none, .faddr 1 (.t 3)⟩,
    ⟨none, none, .store 1 (.t 11) (.t 10)⟩])
  (.seq (.ops [⟨some 12, none, .load true 2 (.t 3)⟩,
    ⟨none, none, .store 2 (.t 2) (.t 12)⟩])
  (.ret)))))⟩
theorem ok53 : FnOK Try.prog 53 v53 := ⟨⟨Try.f53, _, Try.func53, rfl, by kernel_rfl, rfl, by decide, by kernel_rfl, by kernel_rfl⟩⟩

/-- impl.ForestFault -/
def l54_0 : VC :=
  .seq (.ops [⟨some 24, none, .bin .lss (.t 23) (.t 22)⟩])
  (.seq (.cond (.t 24)
   (.skip)
   (.exit 0))
  (.seq (.block 1 (.seq (.ops [⟨some 25, none, .iaddr 3 (.t 21) (.t 23)⟩,
     ⟨some 26, none, .load true 3 (.t 25)⟩,
     ⟨some 5, none, .new [.int .i64 0, .bool false, .slice none 0 0]⟩,
     ⟨none, none, .store 3 (.t 5) (.t 26)⟩])
   (.block 2 (.seq (.ops [⟨some 28, none, .faddr 0 (.t 5)⟩,
      ⟨some 29, none, .load false 1 (.t 28)⟩,
      ⟨some 30, none, .call 97 [.t 29]⟩,
      ⟨some 31, none, .not (.t 30)⟩,
      ⟨some 27, none, .mv (.t 31)⟩])
    (.cond (.t 27)
     (.seq (.ops [⟨some 2, none, .mv (.c (.int .i64 3))⟩])
     (.ret))
     (.seq (.ops [⟨some 33, none, .faddr 0 (.t 5)⟩,
       ⟨some 34, none, .load false 1 (.t 33)⟩,
       ⟨some 35, none, .bin .eql (.t 34) (.c (.int .i64 0))⟩,
       ⟨some 36, none, .mv (.t 35)⟩,
       ⟨some 37, some (36, true), .faddr 1 (.t 5)⟩,
       ⟨some 38, some (36, true), .load false 1 (.t 37)⟩,
       ⟨some 39, some (36, true), .mv (.t 38)⟩,
       ⟨some 40, some (39, false), .faddr 2 (.t 5)⟩,
       ⟨some 41, some (39, false), .load false 1 (.t 40)⟩,
       ⟨some 42, some (39, false), .len (.t 41)⟩,
       ⟨some 43, some (39, false), .bin .gtr (.t 42) (.c (.int .i64 0))⟩,
       ⟨some 44, some (36, true), .pick (.t 39) (.c (.bool true)) (.t 43)⟩,
       ⟨some 45, none, .pick (.t 36) (.t 44) (.c (.bool false))⟩,
       ⟨some 32, none, .mv (.t 45)⟩])
     (.cond (.t 32)
      (.seq (.ops [⟨some 2, none, .mv (.c (.int .i64 1))⟩])
      (.ret))
      (.seq (.ops [⟨some 47, none, .faddr 0 (.t 5)⟩,
        ⟨some 48, none, .load false 1 (.t 47)⟩,
        ⟨some 49, none, .bin .eql (.t 48) (.c (.int .i64 0))⟩,
        ⟨some 46, none, .mv (.t 49)⟩])
      (.cond (.t 46)
       (.exit 1)
       (.seq (.ops [⟨some 51, none, .faddr 2 (.t 5)⟩,
         ⟨some 52, none, .load false 1 (.t 51)⟩,
         ⟨some 53, none, .len (.t 52)⟩,
         ⟨some 54, none, .bin .neq (.t 53) (.c (.int .i64 4))⟩,
         ⟨some 55, none, .mv (.t 54)⟩,
         ⟨some 56, some (55, false), .faddr 2 (.t 5)⟩,
         ⟨some 57, some (55, false), .load false 1 (.t 56)⟩,
         ⟨some 58, some (55, false), .call 106 [.t 57]⟩,
         ⟨some 59, none, .pick (.t 55) (.c (.bool true)) (.t 58)⟩,
         ⟨some 60, none, .mv (.t 59)⟩,
         ⟨some 61, some (60, false), .faddr 2 (.t 5)⟩,
         ⟨some 62, some (60, false), .load false 1 (.t 61)⟩,
         ⟨some 63, some (60, false), .mkfn 108 [.t 1, .t 5]⟩,
         ⟨some 64, some (60, false), .call 107 [.t 62, .t 63]⟩,
         ⟨some 65, none, .pick (.t 60) (.c (.bool true)) (.t 64)⟩,
         ⟨some 50, none, .mv (.t 65)⟩])
       (.cond (.t 50)
        (.seq (.ops [⟨some 2, none, .mv (.c (.int .i64 1))⟩])
        (.ret))
        (.skip))))))))))))
  (.ops [⟨some 66, none, .bin .add (.t 23) (.c (.int .i64 1))⟩,
    ⟨some 23, none, .mv (.t 66)⟩])))
def l54_1 : VC :=
  .seq (.ops [⟨some 74, none, .bin .lss (.t 73) (.t 72)⟩])
  (.seq (.cond (.t 74)
   (.skip)
   (.exit 3))
  (.seq (.block 4 (.seq (.ops [⟨some 75, none, .mv (.t 73)⟩,
     ⟨some 76, none, .iaddr 1 (.t 71) (.t 73)⟩,
     ⟨some 77, none, .load false 1 (.t 76)⟩,
     ⟨some 6, none, .mv (.t 75)⟩,
     ⟨some 7, none, .mv (.t 77)⟩])
   (.seq (.ops [⟨some 78, none, .faddr 1 (.t 1)⟩,
     ⟨some 79, none, .load false 1 (.t 78)⟩,
     ⟨some 80, none, .mv (.t 6)⟩,
     ⟨some 81, none, .iaddr 2 (.t 79) (.t 80)⟩,
     ⟨some 82, none, .faddr 0 (.t 81)⟩,
     ⟨some 83, none, .load false 1 (.t 82)⟩,
     ⟨some 84, none, .mv (.t 7)⟩,
     ⟨some 85, none, .bin .neq (.t 83) (.t 84)⟩])
   (.cond (.t 85)
    (.seq (.ops [⟨some 2, none, .mv (.c (.int .i64 1))⟩])
    (.ret))
    (.skip)))))
  (.ops [⟨some 86, none, .bin .add (.t 73) (.c (.int .i64 1))⟩,
    ⟨some 73, none, .mv (.t 86)⟩])))
def l54_2 : VC :=
  .seq (.ops [⟨some 94, none, .bin .lss (.t 93) (.t 92)⟩])
  (.seq (.cond (.t 94)
   (.skip)
   (.exit 5))
  (.seq (.block 6 (.seq (.ops [⟨some 95, none, .mv (.t 93)⟩,
     ⟨some 96, none, .iaddr 1 (.t 91) (.t 93)⟩,
     ⟨some 97, none, .load false 1 (.t 96)⟩,
     ⟨some 8, none, .mv (.t 95)⟩,
     ⟨some 9, none, .mv (.t 97)⟩])
   (.seq (.ops [⟨some 98, none, .faddr 0 (.t 1)⟩,
     ⟨some 99, none, .load false 1 (.t 98)⟩,
     ⟨some 100, none, .mv (.t 8)⟩,
     ⟨some 101, none, .iaddr 3 (.t 99) (.t 100)⟩,
     ⟨some 102, none, .faddr 1 (.t 101)⟩,
     ⟨some 103, none, .load false 1 (.t 102)⟩,
     ⟨some 104, none, .mv (.t 103)⟩,
     ⟨some 105, some (104, true), .faddr 0 (.t 1)⟩,
     ⟨some 106, some (104, true), .load false 1 (.t 105)⟩,
     ⟨some 107, some (104, true), .mv (.t 8)⟩,
     ⟨some 108, some (104, true), .iaddr 3 (.t 106) (.t 107)⟩,
     ⟨some 109, some (104, true), .faddr 0 (.t 108)⟩,
     ⟨some 110, some (104, true), .load false 1 (.t 109)⟩,
     ⟨some 111, some (104, true), .mv (.t 9)⟩,
     ⟨some 112, some (104, true), .bin .lss (.t 110) (.t 111)⟩,
     ⟨some 113, none, .pick (.t 104) (.t 112) (.c (.bool false))⟩])
   (.cond (.t 113)
    (.seq (.ops [⟨some 2, none, .mv (.c (.int .i64 1))⟩])
    (.ret))
    (.skip)))))
  (.ops [⟨some 114, none, .bin .add (.t 93) (.c (.int .i64 1))⟩,
    ⟨some 93, none, .mv (.t 114)⟩])))
def v54 : VF := ⟨1, 115, [.t 2], true,
  .seq (.ops [⟨some 1, none, .box (.t 0)⟩,
    ⟨some 2, none, .mv (.c (.int .i64 0))⟩])
  (.seq (.seq (.ops [⟨some 10, none, .faddr 1 (.t 1)⟩,
    ⟨some 11, none, .load false 1 (.t 10)⟩,
    ⟨some 12, none, .call 40 [.t 11]⟩,
    ⟨some 3, none, .mv (.t 12)⟩])
  (.seq (.ops [⟨some 13, none, .mv (.t 3)⟩,
    ⟨some 14, none, .bin .neq (.t 13) (.c (.int .i64 0))⟩])
  (.cond (.t 14)
   (.seq (.ops [⟨some 15, none, .mv (.t 3)⟩,
     ⟨some 2, none, .mv (.t 15)⟩])
   (.ret))
   (.skip))))
  (.seq (.seq (.ops [⟨some 16, none, .faddr 0 (.t 1)⟩,
    ⟨some 17, none, .load false 1 (.t 16)⟩,
    ⟨some 18, none, .len (.t 17)⟩,
    ⟨some 19, none, .bin .gtr (.t 18) (.c (.int .i64 60))⟩])
  (.cond (.t 19)
   (.seq (.ops [⟨some 2, none, .mv (.c (.int .i64 2))⟩])
   (.ret))
   (.skip)))
  (.seq (.seq (.ops [⟨some 20, none, .faddr 0 (.t 1)⟩,
    ⟨some 21, none, .load false 1 (.t 20)⟩,
    ⟨some 22, none, .len (.t 21)⟩,
    ⟨some 23, none, .mv (.c (.int .i64 0))⟩])
  (.block 0 (.loop [1, 21, 22, 23] [1, 2] l54_0)))
  (.seq (.seq (.ops [⟨some 67, none, .load true 2 (.t 1)⟩,
    ⟨some 68, none, .faddr 1 (.t 1)⟩,
    ⟨some 69, none, .load false 1 (.t 68)⟩,
    ⟨some 70, none, .len (.t 69)⟩,
    ⟨some 71, none, .call 110 [.t 67, .c (.bool true), .t 70]⟩,
    ⟨some 72, none, .len (.t 71)⟩,
    ⟨some 73, none, .mv (.c (.int .i64 0))⟩])
  (.block 3 (.loop [1, 71, 72, 73] [1, 2] l54_1)))
  (.seq (.seq (.ops [⟨some 87, none, .load true 2 (.t 1)⟩,
    ⟨some 88, none, .faddr 0 (.t 1)⟩,
    ⟨some 89, none, .load false 1 (.t 88)⟩,
    ⟨some 90, none, .len (.t 89)⟩,
    ⟨some 91, none, .call 110 [.t 87, .c (.bool false), .t 90]⟩,
    ⟨some 92, none, .len (.t 91)⟩,
    ⟨some 93, none, .mv (.c (.int .i64 0))⟩])
  (.block 5 (.loop [1, 91, 92, 93] [2] l54_2)))
  (.seq (.ops [⟨some 2, none, .mv (.c (.int .i64 0))⟩])
  (.ret)))))))⟩
theorem ok54 : FnOK Try.prog 54 v54 := ⟨⟨Try.f54, _, Try.func54, rfl, by kernel_rfl, rfl, by decide, by kernel_rfl, by kernel_rfl⟩⟩

/-- laws.eqForest -/
def v55 : VF := ⟨2, 17, [.t 4], true,
  .seq (.ops [⟨some 2, none, .box (.t 0)⟩,
    ⟨some 3, none, .box (.t 1)⟩,
    ⟨some 4, none, .mv (.c (.bool false))⟩])
  (.seq (.seq (.ops [⟨some 5, none, .faddr 0 (.t 2)⟩,
    ⟨some 6, none, .load false 1 (.t 5)⟩,
    ⟨some 7, none, .faddr 0 (.t 3)⟩,
    ⟨some 8, none, .load false 1 (.t 7)⟩,
    ⟨some 9, none, .call 111 [.t 6, .t 8]⟩,
    ⟨some 10, none, .not (.t 9)⟩])
  (.cond (.t 10)
   (.seq (.ops [⟨some 4, none, .mv (.c (.bool false))⟩])
   (.ret))
   (.skip)))
  (.seq (.seq (.ops [⟨some 11, none, .faddr 1 (.t 2)⟩,
    ⟨some 12, none, .load false 1 (.t 11)⟩,
    ⟨some 13, none, .faddr 1 (.t 3)⟩,
    ⟨some 14, none, .load false 1 (.t 13)⟩,
    ⟨some 15, none, .call 30 [.t 12, .t 14]⟩,
    ⟨some 16, none, .not (.t 15)⟩])
  (.cond (.t 16)
   (.seq (.ops [⟨some 4, none, .mv (.c (.bool false))⟩])
   (.ret))
   (.skip)))
  (.seq (.ops [⟨some 4, none, .mv (.c (.bool true))⟩])
  (.ret))))⟩
theorem ok55 : FnOK Try.prog 55 v55 := ⟨⟨Try.f55, _, Try.func55, rfl, by kernel_rfl, rfl, by decide, by kernel_rfl, by kernel_rfl⟩⟩

/-- laws.markForest -/
def v61 : VF := ⟨2, 14, [.t 4], false,
  .seq (.ops [⟨some 2, none, .box (.t 0)⟩,
    ⟨some 4, none, .mv (.c (.int .i64 0))⟩])
  (.seq (.ops [⟨some 5, none, .faddr 0 (.t 2)⟩,
    ⟨some 6, none, .load false 1 (.t 5)⟩,
    ⟨some 7, none, .mv (.t 1)⟩,
    ⟨some 8, none, .call 120 [.t 6, .t 7]⟩,
    ⟨some 1, none, .mv (.t 8)⟩])
  (.seq (.ops [⟨some 9, none, .faddr 1 (.t 2)⟩,
    ⟨some 10, none, .load false 1 (.t 9)⟩,
    ⟨some 11, none, .mv (.t 1)⟩,
    ⟨some 12, none, .call 33 [.t 10, .t 11]⟩,
    ⟨some 1, none, .mv (.t 12)⟩])
  (.seq (.ops [⟨some 13, none, .mv (.t 1)⟩,
    ⟨some 4, none, .mv (.t 13)⟩])
  (.ret))))⟩
theorem ok61 : FnOK Try.prog 61 v61 := ⟨⟨Try.f61, _, Try.func61, rfl, by kernel_rfl, rfl, by decide, by kernel_rfl, by kernel_rfl⟩⟩

/-- spec.ShareTree -/
def v64 : VF := ⟨2, 37, [.cell 4 true 4], true,
  .seq (.ops [⟨some 2, none, .box (.t 0)⟩,
    ⟨some 4, none, .new [.int .i64 0, .int .i64 0, .slice none 0 0, .slice none 0 0]⟩])
  (.seq (.seq (.ops [⟨some 7, none, .mv (.t 1)⟩,
    ⟨some 8, none, .call 112 [.t 2, .t 7, .c (.int .i64 0)]⟩,
    ⟨some 5, none, .mv (.t 8)⟩])
  (.seq (.ops [⟨some 9, none, .mv (.t 5)⟩,
    ⟨some 10, none, .bin .neq (.t 9) (.c (.int .i64 0))⟩])
  (.cond (.t 10)
   (.seq (.ops [⟨some 11, none, .mv (.t 5)⟩,
     ⟨some 12, none, .call 98 [.t 11]⟩,
     ⟨none, none, .store 4 (.t 4) (.t 12)⟩])
   (.ret))
   (.skip))))
  (.seq (.ops [⟨some 13, none, .load true 2 (.t 2)⟩,
    ⟨some 14, none, .call 123 [.t 13]⟩,
    ⟨some 6, none, .new [.slice none 0 0, .slice none 0 0]⟩,
    ⟨none, none, .store 2 (.t 6) (.t 14)⟩])
  (.seq (.seq (.ops [⟨some 15, none, .mv (.t 1)⟩,
    ⟨some 16, none, .bin .geq (.t 15) (.c (.int .i64 0))⟩])
  (.cond (.t 16)
   (.seq (.seq (.ops [⟨some 17, none, .faddr 0 (.t 2)⟩,
     ⟨some 18, none, .load false 1 (.t 17)⟩,
     ⟨some 19, none, .mv (.t 1)⟩,
     ⟨some 20, none, .iaddr 3 (.t 18) (.t 19)⟩,
     ⟨some 21, none, .faddr 0 (.t 20)⟩,
     ⟨some 22, none, .load false 1 (.t 21)⟩,
     ⟨some 23, none, .bin .geq (.t 22) (.c (.int .i64 200))⟩])
   (.cond (.t 23)
    (.seq (.ops [⟨some 24, none, .call 98 [.c (.int .i64 2)]⟩,
      ⟨none, none, .store 4 (.t 4) (.t 24)⟩])
    (.ret))
    (.skip)))
   (.ops [⟨some 25, none, .faddr 0 (.t 6)⟩,
     ⟨some 26, none, .load false 1 (.t 25)⟩,
     ⟨some 27, none, .mv (.t 1)⟩,
     ⟨some 28, none, .iaddr 3 (.t 26) (.t 27)⟩,
     ⟨some 29, none, .faddr 0 (.t 28)⟩,
     ⟨some 30, none, .load false 1 (.t 29)⟩,
     ⟨some 31, none, .bin .add (.t 30) (.c (.int .i64 1))⟩,
     ⟨some 32, none, .iaddr 3 (.t 26) (.t 27)⟩,
     ⟨some 33, none, .faddr 0 (.t 32)⟩,
     ⟨none, none, .store 1 (.t 33) (.t 31)⟩]))
   (.skip)))
  (.seq (.ops [⟨some 34, none, .mv (.t 1)⟩,
    ⟨some 35, none, .load true 2 (.t 6)⟩,
    ⟨some 36, none, .build [.int .i64 0, .int .i64 0, .slice none 0 0, .slice none 0 0] [(1, 1, .t 34), (2, 2, .t 35)]⟩,
    ⟨none, none, .store 4 (.t 4) (.t 36)⟩])
  (.ret)))))⟩
theorem ok64 : FnOK Try.prog 64 v64 := ⟨⟨Try.f64, _, Try.func64, rfl, by kernel_rfl, rfl, by decide, by kernel_rfl, by kernel_rfl⟩⟩

/-- impl.ShareTree -/
def v65 : VF := ⟨2, 28, [.cell 4 true 4], true,
  .seq (.ops [⟨some 2, none, .box (.t 0)⟩,
    ⟨some 4, none, .new [.int .i64 0, .int .i64 0, .slice none 0 0, .slice none 0 0]⟩])
  (.seq (.seq (.ops [⟨some 8, none, .load true 2 (.t 2)⟩,
    ⟨some 9, none, .mv (.t 1)⟩,
    ⟨some 10, none, .call 114 [.t 8, .t 9, .c (.bool true)]⟩,
    ⟨some 5, none, .mv (.t 10)⟩])
  (.seq (.ops [⟨some 11, none, .mv (.t 5)⟩,
    ⟨some 12, none, .bin .neq (.t 11) (.c (.int .i64 0))⟩])
  (.cond (.t 12)
   (.seq (.ops [⟨some 13, none, .mv (.t 5)⟩,
     ⟨some 14, none, .build [.int .i64 0, .int .i64 0, .slice none 0 0, .slice none 0 0] [(0, 1, .t 13)]⟩,
     ⟨none, none, .store 4 (.t 4) (.t 14)⟩])
   (.ret))
   (.skip))))
  (.seq (.ops [⟨some 15, none, .load true 2 (.t 2)⟩,
    ⟨some 16, none, .call 124 [.t 15]⟩,
    ⟨some 6, none, .new [.slice none 0 0, .slice none 0 0]⟩,
    ⟨none, none, .store 2 (.t 6) (.t 16)⟩])
  (.seq (.seq (.ops [⟨some 17, none, .mv (.t 1)⟩,
    ⟨some 18, none, .bin .neq (.t 17) (.c (.int .i64 (-1)))⟩])
  (.cond (.t 18)
   (.seq (.ops [⟨some 19, none, .mv (.t 1)⟩,
     ⟨some 20, none, .call 125 [.t 6, .t 19]⟩,
     ⟨some 7, none, .mv (.t 20)⟩])
   (.seq (.ops [⟨some 21, none, .mv (.t 7)⟩,
     ⟨some 22, none, .bin .neq (.t 21) (.c (.int .i64 0))⟩])
   (.cond (.t 22)
    (.seq (.ops [⟨some 23, none, .mv (.t 7)⟩,
      ⟨some 24, none, .build [.int .i64 0, .int .i64 0, .slice none 0 0, .slice none 0 0] [(0, 1, .t 23)]⟩,
      ⟨none, none, .store 4 (.t 4) (.t 24)⟩])
    (.ret))
    (.skip))))
   (.skip)))
  (.seq (.ops [⟨some 25, none, .mv (.t 1)⟩,
    ⟨some 26, none, .load true 2 (.t 6)⟩,
    ⟨some 27, none, .build [.int .i64 0, .int .i64 0, .slice none 0 0, .slice none 0 0] [(1, 1, .t 25), (2, 2, .t 26)]⟩,
    ⟨none, none, .store 4 (.t 4) (.t 27)⟩])
  (.ret)))))⟩
theorem ok65 : FnOK Try.prog 65 v65 := ⟨⟨Try.f65, _, Try.func65, rfl, by kernel_rfl, rfl, by decide, by kernel_rfl, by kernel_rfl⟩⟩

/-- spec.DropTree -/
def v66 : VF := ⟨2, 21, [.cell 4 true 4], true,
  .seq (.ops [⟨some 2, none, .box (.t 0)⟩,
    ⟨some 4, none, .new [.int .i64 0, .int .i64 0, .slice none 0 0, .slice none 0 0]⟩])
  (.seq (.seq (.ops [⟨some 7, none, .mv (.t 1)⟩,
    ⟨some 8, none, .call 112 [.t 2, .t 7, .c (.int .i64 0)]⟩,
    ⟨some 5, none, .mv (.t 8)⟩])
  (.seq (.ops [⟨some 9, none, .mv (.t 5)⟩,
    ⟨some 10, none, .bin .neq (.t 9) (.c (.int .i64 0))⟩])
  (.cond (.t 10)
   (.seq (.ops [⟨some 11, none, .mv (.t 5)⟩,
     ⟨some 12, none, .call 98 [.t 11]⟩,
     ⟨none, none, .store 4 (.t 4) (.t 12)⟩])
   (.ret))
   (.skip))))
  (.seq (.ops [⟨some 13, none, .load true 2 (.t 2)⟩,
    ⟨some 14, none, .call 123 [.t 13]⟩,
    ⟨some 6, none, .new [.slice none 0 0, .slice none 0 0]⟩,
    ⟨none, none, .store 2 (.t 6) (.t 14)⟩])
  (.seq (.seq (.ops [⟨some 15, none, .mv (.t 1)⟩,
    ⟨some 16, none, .bin .geq (.t 15) (.c (.int .i64 0))⟩])
  (.cond (.t 16)
   (.ops [⟨some 17, none, .mv (.t 1)⟩,
     ⟨some 18, none, .call 126 [.t 6, .t 17]⟩])
   (.skip)))
  (.seq (.ops [⟨some 19, none, .load true 2 (.t 6)⟩,
    ⟨some 20, none, .build [.int .i64 0, .int .i64 0, .slice none 0 0, .slice none 0 0] [(1, 1, .c (.int .i64 (-1))), (2, 2, .t 19)]⟩,
    ⟨none, none, .store 4 (.t 4) (.t 20)⟩])
  (.ret)))))⟩
theorem ok66 : FnOK Try.prog 66 v66 := ⟨⟨Try.f66, _, Try.func66, rfl, by kernel_rfl, rfl, by decide, by kernel_rfl, by kernel_rfl⟩⟩

/-- impl.DropTree -/
def v67 : VF := ⟨2, 22, [.cell 4 true 4], true,
  .seq (.ops [⟨some 2, none, .box (.t 0)⟩,
    ⟨some 4, none, .new [.int .i64 0, .int .i64 0, .slice none 0 0, .slice none 0 0]⟩])
  (.seq (.seq (.ops [⟨some 7, none, .load true 2 (.t 2)⟩,
    ⟨some 8, none, .mv (.t 1)⟩,
    ⟨some 9, none, .call 114 [.t 7, .t 8, .c (.bool true)]⟩,
    ⟨some 5, none, .mv (.t 9)⟩])
  (.seq (.ops [⟨some 10, none, .mv (.t 5)⟩,
    ⟨some 11, none, .bin .neq (.t 10) (.c (.int .i64 0))⟩])
  (.cond (.t 11)
   (.seq (.ops [⟨some 12, none, .mv (.t 5)⟩,
     ⟨some 13, none, .build [.int .i64 0, .int .i64 0, .slice none 0 0, .slice none 0 0] [(0, 1, .t 12)]⟩,
     ⟨none, none, .store 4 (.t 4) (.t 13)⟩])
   (.ret))
   (.skip))))
  (.seq (.ops [⟨some 14, none, .load true 2 (.t 2)⟩,
    ⟨some 15, none, .call 124 [.t 14]⟩,
    ⟨some 6, none, .new [.slice none 0 0, .slice none 0 0]⟩,
    ⟨none, none, .store 2 (.t 6) (.t 15)⟩])
  (.seq (.seq (.ops [⟨some 16, none, .mv (.t 1)⟩,
    ⟨some 17, none, .bin .neq (.t 16) (.c (.int .i64 (-1)))⟩])
  (.cond (.t 17)
   (.ops [⟨some 18, none, .mv (.t 1)⟩,
     ⟨some 19, none, .call 127 [.t 6, .t 18]⟩])
   (.skip)))
  (.seq (.ops [⟨some 20, none, .load true 2 (.t 6)⟩,
    ⟨some 21, none, .build [.int .i64 0, .int .i64 0, .slice none 0 0, .slice none 0 0] [(1, 1, .c (.int .i64 (-1))), (2, 2, .t 20)]⟩,
    ⟨none, none, .store 4 (.t 4) (.t 21)⟩])
  (.ret)))))⟩
theorem ok67 : FnOK Try.prog 67 v67 := ⟨⟨Try.f67, _, Try.func67, rfl, by kernel_rfl, rfl, by decide, by kernel_rfl, by kernel_rfl⟩⟩

/-- spec.ClearTree -/
def v68 : VF := ⟨3, 38, [.cell 6 true 4], true,
  .seq (.ops [⟨some 3, none, .box (.t 0)⟩,
    ⟨some 6, none, .new [.int .i64 0, .int .i64 0, .slice none 0 0, .slice none 0 0]⟩])
  (.seq (.seq (.ops [⟨some 11, none, .mv (.t 1)⟩,
    ⟨some 12, none, .mv (.t 2)⟩,
    ⟨some 13, none, .call 112 [.t 3, .t 11, .t 12]⟩,
    ⟨some 7, none, .mv (.t 13)⟩])
  (.seq (.ops [⟨some 14, none, .mv (.t 7)⟩,
    ⟨some 15, none, .bin .neq (.t 14) (.c (.int .i64 0))⟩])
  (.cond (.t 15)
   (.seq (.ops [⟨some 16, none, .mv (.t 7)⟩,
     ⟨some 17, none, .call 98 [.t 16]⟩,
     ⟨none, none, .store 4 (.t 6) (.t 17)⟩])
   (.ret))
   (.skip))))
  (.seq (.seq (.ops [⟨some 18, none, .mv (.t 1)⟩,
    ⟨some 19, none, .mv (.t 2)⟩,
    ⟨some 20, none, .call 113 [.t 3, .t 18, .t 19]⟩,
    ⟨some 21, none, .bin .lss (.t 20) (.c (.int .i64 0))⟩])
  (.cond (.t 21)
   (.seq (.ops [⟨some 22, none, .call 98 [.c (.int .i64 4)]⟩,
     ⟨none, none, .store 4 (.t 6) (.t 22)⟩])
   (.ret))
   (.skip)))
  (.seq (.ops [⟨some 23, none, .load true 2 (.t 3)⟩,
    ⟨some 24, none, .call 123 [.t 23]⟩,
    ⟨some 8, none, .new [.slice none 0 0, .slice none 0 0]⟩,
    ⟨none, none, .store 2 (.t 8) (.t 24)⟩])
  (.seq (.ops [⟨some 26, none, .mv (.t 1)⟩,
    ⟨some 27, none, .mv (.t 2)⟩,
    ⟨some 28, none, .call 128 [.t 8, .t 26, .t 27, .c (.int .i64 (-1))]⟩,
    ⟨some 25, none, .mv (.t 28)⟩,
    ⟨some 29, none, .ext 0 (.t 25)⟩,
    ⟨some 30, none, .ext 1 (.t 25)⟩,
    ⟨some 9, none, .mv (.t 29)⟩,
    ⟨some 10, none, .mv (.t 30)⟩])
  (.seq (.seq (.ops [⟨some 31, none, .mv (.t 10)⟩,
    ⟨some 32, none, .bin .neq (.t 31) (.c (.int .i64 0))⟩])
  (.cond (.t 32)
   (.seq (.ops [⟨some 33, none, .mv (.t 10)⟩,
     ⟨some 34, none, .call 98 [.t 33]⟩,
     ⟨none, none, .store 4 (.t 6) (.t 34)⟩])
   (.ret))
   (.skip)))
  (.seq (.ops [⟨some 35, none, .mv (.t 9)⟩,
    ⟨some 36, none, .load true 2 (.t 8)⟩,
    ⟨some 37, none, .build [.int .i64 0, .int .i64 0, .slice none 0 0, .slice none 0 0] [(1, 1, .t 35), (2, 2, .t 36)]⟩,
    ⟨none, none, .store 4 (.t 6) (.t 37)⟩])
  (.ret)))))))⟩
theorem ok68 : FnOK Try.prog 68 v68 := ⟨⟨Try.f68, _, Try.func68, rfl, by kernel_rfl, rfl, by decide, by kernel_rfl, by kernel_rfl⟩⟩

/-- impl.ClearTree -/
def v69 : VF := ⟨3, 42, [.cell 6 true 4], true,
  .seq (.ops [⟨some 3, none, .box (.t 0)⟩,
    ⟨some 6, none, .new [.int .i64 0, .int .i64 0, .slice none 0 0, .slice none 0 0]⟩])
  (.seq (.draw [⟨some 11, none, .load true 2 (.t 3)⟩,
    ⟨some 12, none, .mv (.t 1)⟩,
    ⟨some 13, none, .mv (.t 2)⟩,
    ⟨some 14, none, .call 115 [.t 13]⟩] [⟨some 15, none, .call 114 [.t 11, .t 12, .t 14]⟩,
    ⟨some 7, none, .mv (.t 15)⟩])
  (.seq (.block 0 (.seq (.ops [⟨some 17, none, .mv (.t 7)⟩,
     ⟨some 18, none, .bin .neq (.t 17) (.c (.int .i64 0))⟩,
     ⟨some 16, none, .mv (.t 18)⟩])
   (.cond (.t 16)
    (.seq (.ops [⟨some 19, none, .mv (.t 7)⟩,
      ⟨some 20, none, .build [.int .i64 0, .int .i64 0, .slice none 0 0, .slice none 0 0] [(0, 1, .t 19)]⟩,
      ⟨none, none, .store 4 (.t 6) (.t 20)⟩])
    (.ret))
    (.seq (.ops [⟨some 22, none, .mv (.t 1)⟩,
      ⟨some 23, none, .mv (.t 2)⟩,
      ⟨some 24, none, .call 116 [.t 3, .t 22, .t 23]⟩,
      ⟨some 25, none, .bin .eql (.t 24) (.c (.int .i64 (-1)))⟩,
      ⟨some 21, none, .mv (.t 25)⟩])
    (.cond (.t 21)
     (.seq (.ops [⟨some 26, none, .build [.int .i64 0, .int .i64 0, .slice none 0 0, .slice none 0 0] [(0, 1, .c (.int .i64 4))]⟩,
       ⟨none, none, .store 4 (.t 6) (.t 26)⟩])
     (.ret))
     (.skip))))))
  (.seq (.ops [⟨some 27, none, .load true 2 (.t 3)⟩,
    ⟨some 28, none, .call 124 [.t 27]⟩,
    ⟨some 8, none, .new [.slice none 0 0, .slice none 0 0]⟩,
    ⟨none, none, .store 2 (.t 8) (.t 28)⟩])
  (.seq (.ops [⟨some 30, none, .mv (.t 1)⟩,
    ⟨some 31, none, .mv (.t 2)⟩,
    ⟨some 32, none, .call 129 [.t 8, .t 30, .t 31, .c (.int .i64 (-1))]⟩,
    ⟨some 29, none, .mv (.t 32)⟩,
    ⟨some 33, none, .ext 0 (.t 29)⟩,
    ⟨some 34, none, .ext 1 (.t 29)⟩,
    ⟨some 9, none, .mv (.t 33)⟩,
    ⟨some 10, none, .mv (.t 34)⟩])
  (.seq (.seq (.ops [⟨some 35, none, .mv (.t 10)⟩,
    ⟨some 36, none, .bin .neq (.t 35) (.c (.int .i64 0))⟩])
  (.cond (.t 36)
   (.seq (.ops [⟨some 37, none, .mv (.t 10)⟩,
     ⟨some 38, none, .build [.int .i64 0, .int .i64 0, .slice none 0 0, .slice none 0 0] [(0, 1, .t 37)]⟩,
     ⟨none, none, .store 4 (.t 6) (.t 38)⟩])
   (.ret))
   (.skip)))
  (.seq (.ops [⟨some 39, none, .mv (.t 9)⟩,
    ⟨some 40, none, .load true 2 (.t 8)⟩,
    ⟨some 41, none, .build [.int .i64 0, .int .i64 0, .slice none 0 0, .slice none 0 0] [(1, 1, .t 39), (2, 2, .t 40)]⟩,
    ⟨none, none, .store 4 (.t 6) (.t 41)⟩])
  (.ret)))))))⟩
theorem ok69 : FnOK Try.prog 69 v69 := ⟨⟨Try.f69, _, Try.func69, rfl, by kernel_rfl, rfl, by decide, by kernel_rfl, by kernel_rfl⟩⟩

/-- spec.SetTree -/
def v70 : VF := ⟨4, 53, [.cell 8 true 4], true,
  .seq (.ops [⟨some 4, none, .box (.t 0)⟩,
    ⟨some 8, none, .new [.int .i64 0, .int .i64 0, .slice none 0 0, .slice none 0 0]⟩])
  (.seq (.seq (.ops [⟨some 14, none, .mv (.t 1)⟩,
    ⟨some 15, none, .mv (.t 2)⟩,
    ⟨some 16, none, .call 112 [.t 4, .t 14, .t 15]⟩,
    ⟨some 9, none, .mv (.t 16)⟩])
  (.seq (.ops [⟨some 17, none, .mv (.t 9)⟩,
    ⟨some 18, none, .bin .neq (.t 17) (.c (.int .i64 0))⟩])
  (.cond (.t 18)
   (.seq (.ops [⟨some 19, none, .mv (.t 9)⟩,
     ⟨some 20, none, .call 98 [.t 19]⟩,
     ⟨none, none, .store 4 (.t 8) (.t 20)⟩])
   (.ret))
   (.skip))))
  (.seq (.seq (.ops [⟨some 21, none, .mv (.t 3)⟩,
    ⟨some 22, none, .call 88 [.t 21]⟩,
    ⟨some 23, none, .not (.t 22)⟩])
  (.cond (.t 23)
   (.seq (.ops [⟨some 24, none, .call 98 [.c (.int .i64 3)]⟩,
     ⟨none, none, .store 4 (.t 8) (.t 24)⟩])
   (.ret))
   (.skip)))
  (.seq (.ops [⟨some 25, none, .load true 2 (.t 4)⟩,
    ⟨some 26, none, .call 123 [.t 25]⟩,
    ⟨some 10, none, .new [.slice none 0 0, .slice none 0 0]⟩,
    ⟨none, none, .store 2 (.t 10) (.t 26)⟩])
  (.seq (.ops [⟨some 27, none, .faddr 1 (.t 10)⟩,
    ⟨some 28, none, .load false 1 (.t 27)⟩,
    ⟨some 29, none, .call 89 [.t 28]⟩,
    ⟨some 11, none, .mv (.t 29)⟩])
  (.seq (.seq (.ops [⟨some 30, none, .mv (.t 11)⟩,
    ⟨some 31, none, .bin .lss (.t 30) (.c (.int .i64 0))⟩])
  (.cond (.t 31)
   (.seq (.ops [⟨some 32, none, .call 98 [.c (.int .i64 8)]⟩,
     ⟨none, none, .store 4 (.t 8) (.t 32)⟩])
   (.ret))
   (.skip)))
  (.seq (.ops [⟨some 33, none, .faddr 1 (.t 10)⟩,
    ⟨some 34, none, .load false 1 (.t 33)⟩,
    ⟨some 35, none, .mv (.t 11)⟩,
    ⟨some 36, none, .mv (.t 3)⟩,
    ⟨some 37, none, .build [.int .i64 0, .int .i64 0] [(0, 1, .c (.int .i64 1)), (1, 1, .t 36)]⟩,
    ⟨some 38, none, .iaddr 2 (.t 34) (.t 35)⟩,
    ⟨none, none, .store 2 (.t 38) (.t 37)⟩])
  (.seq (.ops [⟨some 40, none, .mv (.t 1)⟩,
    ⟨some 41, none, .mv (.t 2)⟩,
    ⟨some 42, none, .mv (.t 11)⟩,
    ⟨some 43, none, .call 128 [.t 10, .t 40, .t 41, .t 42]⟩,
    ⟨some 39, none, .mv (.t 43)⟩,
    ⟨some 44, none, .ext 0 (.t 39)⟩,
    ⟨some 45, none, .ext 1 (.t 39)⟩,
    ⟨some 12, none, .mv (.t 44)⟩,
    ⟨some 13, none, .mv (.t 45)⟩])
  (.seq (.seq (.ops [⟨some 46, none, .mv (.t 13)⟩,
    ⟨some 47, none, .bin .neq (.t 46) (.c (.int .i64 0))⟩])
  (.cond (.t 47)
   (.seq (.ops [⟨some 48, none, .mv (.t 13)⟩,
     ⟨some 49, none, .call 98 [.t 48]⟩,
     ⟨none, none, .store 4 (.t 8) (.t 49)⟩])
   (.ret))
   (.skip)))
  (.seq (.ops [⟨some 50, none, .mv (.t 12)⟩,
    ⟨some 51, none, .load true 2 (.t 10)⟩,
    ⟨some 52, none, .build [.int .i64 0, .int .i64 0, .slice none 0 0, .slice none 0 0] [(1, 1, .t 50), (2, 2, .t 51)]⟩,
    ⟨none, none, .store 4 (.t 8) (.t 52)⟩])
  (.ret))))))))))⟩
theorem ok70 : FnOK Try.prog 70 v70 := ⟨⟨Try.f70, _, Try.func70, rfl, by kernel_rfl, rfl, by decide, by kernel_rfl, by kernel_rfl⟩⟩

/-- impl.SetTree -/
def v71 : VF := ⟨4, 55, [.cell 8 true 4], true,
  .seq (.ops [⟨some 4, none, .box (.t 0)⟩,
    ⟨some 8, none, .new [.int .i64 0, .int .i64 0, .slice none 0 0, .slice none 0 0]⟩])
  (.seq (.seq (.draw [⟨some 15, none, .load true 2 (.t 4)⟩,
    ⟨some 16, none, .mv (.t 1)⟩,
    ⟨some 17, none, .mv (.t 2)⟩,
    ⟨some 18, none, .call 115 [.t 17]⟩,
    ⟨some 19, none, .mv (.t 18)⟩,
    ⟨some 20, some (19, true), .mv (.t 3)⟩,
    ⟨some 21, some (19, true), .call 90 [.t 20]⟩,
    ⟨some 22, none, .pick (.t 19) (.t 21) (.c (.bool false))⟩] [⟨some 23, none, .call 114 [.t 15, .t 16, .t 22]⟩,
    ⟨some 9, none, .mv (.t 23)⟩])
  (.seq (.ops [⟨some 24, none, .mv (.t 9)⟩,
    ⟨some 25, none, .bin .neq (.t 24) (.c (.int .i64 0))⟩])
  (.cond (.t 25)
   (.seq (.ops [⟨some 26, none, .mv (.t 9)⟩,
     ⟨some 27, none, .build [.int .i64 0, .int .i64 0, .slice none 0 0, .slice none 0 0] [(0, 1, .t 26)]⟩,
     ⟨none, none, .store 4 (.t 8) (.t 27)⟩])
   (.ret))
   (.skip))))
  (.seq (.ops [⟨some 28, none, .load true 2 (.t 4)⟩,
    ⟨some 29, none, .call 124 [.t 28]⟩,
    ⟨some 10, none, .new [.slice none 0 0, .slice none 0 0]⟩,
    ⟨none, none, .store 2 (.t 10) (.t 29)⟩])
  (.seq (.ops [⟨some 31, none, .faddr 1 (.t 10)⟩,
    ⟨some 32, none, .load false 1 (.t 31)⟩,
    ⟨some 33, none, .mv (.t 3)⟩,
    ⟨some 34, none, .call 92 [.t 32, .t 33]⟩,
    ⟨some 30, none, .mv (.t 34)⟩,
    ⟨some 35, none, .ext 0 (.t 30)⟩,
    ⟨some 36, none, .ext 1 (.t 30)⟩,
    ⟨some 11, none, .mv (.t 35)⟩,
    ⟨some 12, none, .mv (.t 36)⟩])
  (.seq (.seq (.ops [⟨some 37, none, .mv (.t 12)⟩,
    ⟨some 38, none, .bin .neq (.t 37) (.c (.int .i64 0))⟩])
  (.cond (.t 38)
   (.seq (.ops [⟨some 39, none, .mv (.t 12)⟩,
     ⟨some 40, none, .build [.int .i64 0, .int .i64 0, .slice none 0 0, .slice none 0 0] [(0, 1, .t 39)]⟩,
     ⟨none, none, .store 4 (.t 8) (.t 40)⟩])
   (.ret))
   (.skip)))
  (.seq (.ops [⟨some 42, none, .mv (.t 1)⟩,
    ⟨some 43, none, .mv (.t 2)⟩,
    ⟨some 44, none, .mv (.t 11)⟩,
    ⟨some 45, none, .call 129 [.t 10, .t 42, .t 43, .t 44]⟩,
    ⟨some 41, none, .mv (.t 45)⟩,
    ⟨some 46, none, .ext 0 (.t 41)⟩,
    ⟨some 47, none, .ext 1 (.t 41)⟩,
    ⟨some 13, none, .mv (.t 46)⟩,
    ⟨some 14, none, .mv (.t 47)⟩])
  (.seq (.seq (.ops [⟨some 48, none, .mv (.t 14)⟩,
    ⟨some 49, none, .bin .neq (.t 48) (.c (.int .i64 0))⟩])
  (.cond (.t 49)
   (.seq (.ops [⟨some 50, none, .mv (.t 14)⟩,
     ⟨some 51, none, .build [.int .i64 0, .int .i64 0, .slice none 0 0, .slice none 0 0] [(0, 1, .t 50)]⟩,
     ⟨none, none, .store 4 (.t 8) (.t 51)⟩])
   (.ret))
   (.skip)))
  (.seq (.ops [⟨some 52, none, .mv (.t 13)⟩,
    ⟨some 53, none, .load true 2 (.t 10)⟩,
    ⟨some 54, none, .build [.int .i64 0, .int .i64 0, .slice none 0 0, .slice none 0 0] [(1, 1, .t 52), (2, 2, .t 53)]⟩,
    ⟨none, none, .store 4 (.t 8) (.t 54)⟩])
  (.ret))))))))⟩
theorem ok71 : FnOK Try.prog 71 v71 := ⟨⟨Try.f71, _, Try.func71, rfl, by kernel_rfl, rfl, by decide, by kernel_rfl, by kernel_rfl⟩⟩

/-- spec.l1In -/
def v75 : VF := ⟨3, 15, [.t 6], true,
  .seq (.ops [⟨some 6, none, .mv (.c (.bool false))⟩])
  (.seq (.ops [⟨some 7, none, .mv (.t 0)⟩,
    ⟨some 8, none, .mv (.t 1)⟩,
    ⟨some 9, none, .bin .geq (.t 7) (.t 8)⟩,
    ⟨some 10, none, .mv (.t 9)⟩,
    ⟨some 11, some (10, true), .mv (.t 0)⟩,
    ⟨some 12, some (10, true), .mv (.t 2)⟩,
    ⟨some 13, some (10, true), .bin .leq (.t 11) (.t 12)⟩,
    ⟨some 14, none, .pick (.t 10) (.t 13) (.c (.bool false))⟩,
    ⟨some 6, none, .mv (.t 14)⟩])
  (.ret))⟩
theorem ok75 : FnOK Try.prog 75 v75 := ⟨⟨Try.f75, _, Try.func75, rfl, by kernel_rfl, rfl, by decide, by kernel_rfl, by kernel_rfl⟩⟩

/-- impl.within -/
def v77 : VF := ⟨3, 15, [.t 6], true,
  .seq (.ops [⟨some 6, none, .mv (.c (.bool false))⟩])
  (.seq (.ops [⟨some 7, none, .mv (.t 1)⟩,
    ⟨some 8, none, .mv (.t 0)⟩,
    ⟨some 9, none, .bin .leq (.t 7) (.t 8)⟩,
    ⟨some 10, none, .mv (.t 9)⟩,
    ⟨some 11, some (10, true), .mv (.t 0)⟩,
    ⟨some 12, some (10, true), .mv (.t 2)⟩,
    ⟨some 13, some (10, true), .bin .leq (.t 11) (.t 12)⟩,
    ⟨some 14, none, .pick (.t 10) (.t 13) (.c (.bool false))⟩,
    ⟨some 6, none, .mv (.t 14)⟩])
  (.ret))⟩
theorem ok77 : FnOK Try.prog 77 v77 := ⟨⟨Try.f77, _, Try.func77, rfl, by kernel_rfl, rfl, by decide, by kernel_rfl, by kernel_rfl⟩⟩

/-- laws.heldBlockS -/
def l78_0 : VC :=
  .seq (.seq (.ops [⟨some 6, none, .mv (.t 5)⟩,
    ⟨some 7, none, .mv (.t 0)⟩,
    ⟨some 8, none, .len (.t 7)⟩,
    ⟨some 9, none, .bin .lss (.t 6) (.t 8)⟩])
  (.cond (.t 9)
   (.skip)
   (.exit 0)))
  (.seq (.block 1 (.seq (.seq (.ops [⟨some 12, none, .mv (.t 0)⟩,
     ⟨some 13, none, .mv (.t 5)⟩,
     ⟨some 14, none, .iaddr 2 (.t 12) (.t 13)⟩,
     ⟨some 15, none, .faddr 0 (.t 14)⟩,
     ⟨some 16, none, .load false 1 (.t 15)⟩,
     ⟨some 17, none, .mv (.t 1)⟩,
     ⟨some 18, none, .bin .neq (.t 16) (.t 17)⟩])
   (.cond (.t 18)
    (.seq (.ops [⟨some 4, none, .mv (.c (.int .i64 (-1)))⟩])
    (.ret))
    (.skip)))
   (.seq (.ops [⟨some 19, none, .mv (.t 1)⟩,
     ⟨some 20, none, .bin .add (.t 19) (.c (.int .i64 1))⟩,
     ⟨some 1, none, .mv (.t 20)⟩])
   (.seq (.seq (.ops [⟨some 21, none, .mv (.t 0)⟩,
     ⟨some 22, none, .mv (.t 5)⟩,
     ⟨some 23, none, .iaddr 2 (.t 21) (.t 22)⟩,
     ⟨some 24, none, .faddr 1 (.t 23)⟩,
     ⟨some 25, none, .load false 1 (.t 24)⟩,
     ⟨some 26, none, .mv (.t 1)⟩,
     ⟨some 27, none, .bin .neq (.t 25) (.t 26)⟩])
   (.cond (.t 27)
    (.seq (.ops [⟨some 4, none, .mv (.c (.int .i64 (-1)))⟩])
    (.ret))
    (.skip)))
   (.ops [⟨some 28, none, .mv (.t 1)⟩,
     ⟨some 29, none, .bin .add (.t 28) (.c (.int .i64 1))⟩,
     ⟨some 1, none, .mv (.t 29)⟩])))))
  (.ops [⟨some 10, none, .mv (.t 5)⟩,
    ⟨some 11, none, .bin .add (.t 10) (.c (.int .i64 1))⟩,
    ⟨some 5, none, .mv (.t 11)⟩]))
def v78 : VF := ⟨2, 31, [.t 4], true,
  .seq (.ops [⟨some 4, none, .mv (.c (.int .i64 0))⟩])
  (.seq (.seq (.ops [⟨some 5, none, .mv (.c (.int .i64 0))⟩])
  (.block 0 (.loop [0, 1, 5] [1, 4] l78_0)))
  (.seq (.ops [⟨some 30, none, .mv (.t 1)⟩,
    ⟨some 4, none, .mv (.t 30)⟩])
  (.ret)))⟩
theorem ok78 : FnOK Try.prog 78 v78 := ⟨⟨Try.f78, _, Try.func78, rfl, by kernel_rfl, rfl, by decide, by kernel_rfl, by kernel_rfl⟩⟩

/-- spec.BlocksFault -/
def l79_0 : VC :=
  .seq (.seq (.ops [⟨some 7, none, .mv (.t 3)⟩,
    ⟨some 8, none, .mv (.t 0)⟩,
    ⟨some 9, none, .len (.t 8)⟩,
    ⟨some 10, none, .bin .lss (.t 7) (.t 9)⟩])
  (.cond (.t 10)
   (.skip)
   (.exit 0)))
  (.seq (.block 1 (.seq (.seq (.ops [⟨some 13, none, .mv (.t 0)⟩,
     ⟨some 14, none, .mv (.t 3)⟩,
     ⟨some 15, none, .iaddr 2 (.t 13) (.t 14)⟩,
     ⟨some 16, none, .faddr 0 (.t 15)⟩,
     ⟨some 17, none, .load false 1 (.t 16)⟩,
     ⟨some 18, none, .call 75 [.t 17, .c (.int .i64 0), .c (.int .i64 200)]⟩,
     ⟨some 19, none, .not (.t 18)⟩,
     ⟨some 20, none, .mv (.t 19)⟩,
     ⟨some 21, some (20, false), .mv (.t 0)⟩,
     ⟨some 22, some (20, false), .mv (.t 3)⟩,
     ⟨some 23, some (20, false), .iaddr 2 (.t 21) (.t 22)⟩,
     ⟨some 24, some (20, false), .faddr 1 (.t 23)⟩,
     ⟨some 25, some (20, false), .load false 1 (.t 24)⟩,
     ⟨some 26, some (20, false), .call 88 [.t 25]⟩,
     ⟨some 27, some (20, false), .not (.t 26)⟩,
     ⟨some 28, none, .pick (.t 20) (.c (.bool true)) (.t 27)⟩])
   (.cond (.t 28)
    (.seq (.ops [⟨some 2, none, .mv (.c (.int .i64 3))⟩])
    (.ret))
    (.skip)))
   (.seq (.ops [⟨some 29, none, .mv (.t 0)⟩,
     ⟨some 30, none, .mv (.t 3)⟩,
     ⟨some 31, none, .iaddr 2 (.t 29) (.t 30)⟩,
     ⟨some 32, none, .faddr 0 (.t 31)⟩,
     ⟨some 33, none, .load false 1 (.t 32)⟩,
     ⟨some 34, none, .bin .eql (.t 33) (.c (.int .i64 0))⟩,
     ⟨some 35, none, .mv (.t 34)⟩,
     ⟨some 36, some (35, true), .mv (.t 0)⟩,
     ⟨some 37, some (35, true), .mv (.t 3)⟩,
     ⟨some 38, some (35, true), .iaddr 2 (.t 36) (.t 37)⟩,
     ⟨some 39, some (35, true), .faddr 1 (.t 38)⟩,
     ⟨some 40, some (35, true), .load false 1 (.t 39)⟩,
     ⟨some 41, some (35, true), .bin .neq (.t 40) (.c (.int .i64 0))⟩,
     ⟨some 42, none, .pick (.t 35) (.t 41) (.c (.bool false))⟩])
   (.cond (.t 42)
    (.seq (.ops [⟨some 2, none, .mv (.c (.int .i64 1))⟩])
    (.ret))
    (.skip)))))
  (.ops [⟨some 11, none, .mv (.t 3)⟩,
    ⟨some 12, none, .bin .add (.t 11) (.c (.int .i64 1))⟩,
    ⟨some 3, none, .mv (.t 12)⟩]))
def v79 : VF := ⟨1, 43, [.t 2], true,
  .seq (.ops [⟨some 2, none, .mv (.c (.int .i64 0))⟩])
  (.seq (.seq (.ops [⟨some 4, none, .mv (.t 0)⟩,
    ⟨some 5, none, .len (.t 4)⟩,
    ⟨some 6, none, .bin .gtr (.t 5) (.c (.int .i64 24))⟩])
  (.cond (.t 6)
   (.seq (.ops [⟨some 2, none, .mv (.c (.int .i64 2))⟩])
   (.ret))
   (.skip)))
  (.seq (.seq (.ops [⟨some 3, none, .mv (.c (.int .i64 0))⟩])
  (.block 0 (.loop [0, 3] [2] l79_0)))
  (.seq (.ops [⟨some 2, none, .mv (.c (.int .i64 0))⟩])
  (.ret))))⟩
theorem ok79 : FnOK Try.prog 79 v79 := ⟨⟨Try.f79, _, Try.func79, rfl, by kernel_rfl, rfl, by decide, by kernel_rfl, by kernel_rfl⟩⟩

/-- laws.toBlock -/
def v81 : VF := ⟨1, 11, [.cell 2 true 2], true,
  .seq (.ops [⟨some 1, none, .box (.t 0)⟩,
    ⟨some 2, none, .new [.int .i64 0, .int .i64 0]⟩])
  (.seq (.ops [⟨some 3, none, .new [.int .i64 0, .int .i64 0]⟩])
  (.seq (.ops [⟨some 4, none, .faddr 0 (.t 1)⟩,
    ⟨some 5, none, .load false 1 (.t 4)⟩,
    ⟨some 6, none, .faddr 0 (.t 3)⟩,
    ⟨none, none, .store 1 (.t 6) (.t 5)⟩])
  (.seq (.ops [⟨some 7, none, .faddr 1 (.t 1)⟩,
    ⟨some 8, none, .load false 1 (.t 7)⟩,
    ⟨some 9, none, .faddr 1 (.t 3)⟩,
    ⟨none, none, .store 1 (.t 9) (.t 8)⟩])
  (.seq (.ops [⟨some 10, none, .load true 2 (.t 3)⟩,
    ⟨none, none, .store 2 (.t 2) (.t 10)⟩])
  (.ret)))))⟩
theorem ok81 : FnOK Try.prog 81 v81 := ⟨⟨Try.f81, _, Try.func81, rfl, by kernel_rfl, rfl, by decide, by kernel_rfl, by kernel_rfl⟩⟩

/-- laws.eqBlock -/
def v82 : VF := ⟨2, 15, [.t 4], true,
  .seq (.ops [⟨some 2, none, .box (.t 0)⟩,
    ⟨some 3, none, .box (.t 1)⟩,
    ⟨some 4, none, .mv (.c (.bool false))⟩])
  (.seq (.seq (.ops [⟨some 5, none, .faddr 0 (.t 2)⟩,
    ⟨some 6, none, .load false 1 (.t 5)⟩,
    ⟨some 7, none, .faddr 0 (.t 3)⟩,
    ⟨some 8, none, .load false 1 (.t 7)⟩,
    ⟨some 9, none, .bin .neq (.t 6) (.t 8)⟩])
  (.cond (.t 9)
   (.seq (.ops [⟨some 4, none, .mv (.c (.bool false))⟩])
   (.ret))
   (.skip)))
  (.seq (.seq (.ops [⟨some 10, none, .faddr 1 (.t 2)⟩,
    ⟨some 11, none, .load false 1 (.t 10)⟩,
    ⟨some 12, none, .faddr 1 (.t 3)⟩,
    ⟨some 13, none, .load false 1 (.t 12)⟩,
    ⟨some 14, none, .bin .neq (.t 11) (.t 13)⟩])
  (.cond (.t 14)
   (.seq (.ops [⟨some 4, none, .mv (.c (.bool false))⟩])
   (.ret))
   (.skip)))
  (.seq (.ops [⟨some 4, none, .mv (.c (.bool true))⟩])
  (.ret))))⟩
theorem ok82 : FnOK Try.prog 82 v82 := ⟨⟨Try.f82, _, Try.func82, rfl, by kernel_rfl, rfl, by decide, by kernel_rfl, by kernel_rfl⟩⟩

/-- impl.share -/
def v85 : VF := ⟨2, 24, [.t 4], false,
  .seq (.ops [⟨some 4, none, .mv (.c (.int .i64 0))⟩])
  (.seq (.seq (.ops [⟨some 6, none, .mv (.t 0)⟩,
    ⟨some 7, none, .mv (.t 1)⟩,
    ⟨some 8, none, .iaddr 2 (.t 6) (.t 7)⟩,
    ⟨some 5, none, .mv (.t 8)⟩])
  (.seq (.ops [⟨some 9, none, .mv (.t 5)⟩,
    ⟨some 10, none, .nilck (.t 9)⟩,
    ⟨some 11, none, .faddr 0 (.t 10)⟩,
    ⟨some 12, none, .load false 1 (.t 11)⟩])
  (.block 0 (.seq (.ops [⟨some 21, none, .bin .eql (.t 12) (.c (.int .i64 0))⟩,
     ⟨some 20, none, .mv (.t 21)⟩])
   (.cond (.t 20)
    (.seq (.ops [⟨some 4, none, .mv (.c (.int .i64 4))⟩])
    (.ret))
    (.seq (.ops [⟨some 23, none, .bin .eql (.t 12) (.c (.int .i64 200))⟩,
      ⟨some 22, none, .mv (.t 23)⟩])
    (.cond (.t 22)
     (.seq (.ops [⟨some 4, none, .mv (.c (.int .i64 2))⟩])
     (.ret))
     (.ops [⟨some 13, none, .mv (.t 5)⟩,
       ⟨some 14, none, .nilck (.t 13)⟩,
       ⟨some 15, none, .faddr 0 (.t 14)⟩,
       ⟨some 16, none, .load false 1 (.t 15)⟩,
       ⟨some 17, none, .bin .add (.t 16) (.c (.int .i64 1))⟩,
       ⟨some 18, none, .nilck (.t 13)⟩,
       ⟨some 19, none, .faddr 0 (.t 18)⟩,
       ⟨none, none, .store 1 (.t 19) (.t 17)⟩]))))))))
  (.seq (.ops [⟨some 4, none, .mv (.c (.int .i64 0))⟩])
  (.ret)))⟩
theorem ok85 : FnOK Try.prog 85 v85 := ⟨⟨Try.f85, _, Try.func85, rfl, by kernel_rfl, rfl, by decide, by kernel_rfl, by kernel_rfl⟩⟩

/-- spec.l3Drop -/
def v86 : VF := ⟨2, 22, [], false,
  .seq (.ops [⟨some 4, none, .mv (.t 0)⟩,
    ⟨some 5, none, .mv (.t 1)⟩,
    ⟨some 6, none, .iaddr 2 (.t 4) (.t 5)⟩,
    ⟨some 7, none, .faddr 0 (.t 6)⟩,
    ⟨some 8, none, .load false 1 (.t 7)⟩,
    ⟨some 9, none, .bin .sub (.t 8) (.c (.int .i64 1))⟩,
    ⟨some 10, none, .iaddr 2 (.t 4) (.t 5)⟩,
    ⟨some 11, none, .faddr 0 (.t 10)⟩,
    ⟨none, none, .store 1 (.t 11) (.t 9)⟩])
  (.seq (.ops [⟨some 12, none, .mv (.t 0)⟩,
    ⟨some 13, none, .mv (.t 1)⟩,
    ⟨some 14, none, .iaddr 2 (.t 12) (.t 13)⟩,
    ⟨some 15, none, .faddr 0 (.t 14)⟩,
    ⟨some 16, none, .load false 1 (.t 15)⟩,
    ⟨some 17, none, .bin .eql (.t 16) (.c (.int .i64 0))⟩])
  (.cond (.t 17)
   (.ops [⟨some 18, none, .mv (.t 0)⟩,
     ⟨some 19, none, .mv (.t 1)⟩,
     ⟨some 20, none, .iaddr 2 (.t 18) (.t 19)⟩,
     ⟨some 21, none, .faddr 1 (.t 20)⟩,
     ⟨none, none, .store 1 (.t 21) (.c (.int .i64 0))⟩])
   (.skip)))⟩
theorem ok86 : FnOK Try.prog 86 v86 := ⟨⟨Try.f86, _, Try.func86, rfl, by kernel_rfl, rfl, by decide, by kernel_rfl, by kernel_rfl⟩⟩

/-- impl.drop -/
def v87 : VF := ⟨2, 29, [.t 4], false,
  .seq (.ops [⟨some 4, none, .mv (.c (.int .i64 0))⟩])
  (.seq (.ops [⟨some 6, none, .mv (.t 0)⟩,
    ⟨some 7, none, .mv (.t 1)⟩,
    ⟨some 8, none, .iaddr 2 (.t 6) (.t 7)⟩,
    ⟨some 5, none, .mv (.t 8)⟩])
  (.seq (.seq (.ops [⟨some 9, none, .mv (.t 5)⟩,
    ⟨some 10, none, .nilck (.t 9)⟩,
    ⟨some 11, none, .faddr 0 (.t 10)⟩,
    ⟨some 12, none, .load false 1 (.t 11)⟩,
    ⟨some 13, none, .bin .eql (.t 12) (.c (.int .i64 0))⟩])
  (.cond (.t 13)
   (.seq (.ops [⟨some 4, none, .mv (.c (.int .i64 4))⟩])
   (.ret))
   (.skip)))
  (.seq (.ops [⟨some 14, none, .mv (.t 5)⟩,
    ⟨some 15, none, .nilck (.t 14)⟩,
    ⟨some 16, none, .faddr 0 (.t 15)⟩,
    ⟨some 17, none, .load false 1 (.t 16)⟩,
    ⟨some 18, none, .bin .sub (.t 17) (.c (.int .i64 1))⟩,
    ⟨some 19, none, .nilck (.t 14)⟩,
    ⟨some 20, none, .faddr 0 (.t 19)⟩,
    ⟨none, none, .store 1 (.t 20) (.t 18)⟩])
  (.seq (.seq (.ops [⟨some 21, none, .mv (.t 5)⟩,
    ⟨some 22, none, .nilck (.t 21)⟩,
    ⟨some 23, none, .faddr 0 (.t 22)⟩,
    ⟨some 24, none, .load false 1 (.t 23)⟩,
    ⟨some 25, none, .bin .eql (.t 24) (.c (.int .i64 0))⟩])
  (.cond (.t 25)
   (.ops [⟨some 26, none, .mv (.t 5)⟩,
     ⟨some 27, none, .nilck (.t 26)⟩,
     ⟨some 28, none, .faddr 1 (.t 27)⟩,
     ⟨none, none, .store 1 (.t 28) (.c (.int .i64 0))⟩])
   (.skip)))
  (.seq (.ops [⟨some 4, none, .mv (.c (.int .i64 0))⟩])
  (.ret))))))⟩
theorem ok87 : FnOK Try.prog 87 v87 := ⟨⟨Try.f87, _, Try.func87, rfl, by kernel_rfl, rfl, by decide, by kernel_rfl, by kernel_rfl⟩⟩

/-- spec.l3Data -/
def v88 : VF := ⟨1, 5, [.t 2], true,
  .seq (.ops [⟨some 2, none, .mv (.c (.bool false))⟩])
  (.seq (.ops [⟨some 3, none, .mv (.t 0)⟩,
    ⟨some 4, none, .call 75 [.t 3, .c (.int .i64 0), .c (.int .i64 255)]⟩,
    ⟨some 2, none, .mv (.t 4)⟩])
  (.ret))⟩
theorem ok88 : FnOK Try.prog 88 v88 := ⟨⟨Try.f88, _, Try.func88, rfl, by kernel_rfl, rfl, by decide, by kernel_rfl, by kernel_rfl⟩⟩

/-- spec.l3Free -/
def l89_0 : VC :=
  .seq (.seq (.ops [⟨some 4, none, .mv (.t 3)⟩,
    ⟨some 5, none, .mv (.t 0)⟩,
    ⟨some 6, none, .len (.t 5)⟩,
    ⟨some 7, none, .bin .lss (.t 4) (.t 6)⟩])
  (.cond (.t 7)
   (.skip)
   (.exit 0)))
  (.seq (.block 1 (.seq (.ops [⟨some 10, none, .mv (.t 0)⟩,
     ⟨some 11, none, .mv (.t 3)⟩,
     ⟨some 12, none, .iaddr 2 (.t 10) (.t 11)⟩,
     ⟨some 13, none, .faddr 0 (.t 12)⟩,
     ⟨some 14, none, .load false 1 (.t 13)⟩,
     ⟨some 15, none, .bin .eql (.t 14) (.c (.int .i64 0))⟩])
   (.cond (.t 15)
    (.seq (.ops [⟨some 16, none, .mv (.t 3)⟩,
      ⟨some 2, none, .mv (.t 16)⟩])
    (.ret))
    (.skip))))
  (.ops [⟨some 8, none, .mv (.t 3)⟩,
    ⟨some 9, none, .bin .add (.t 8) (.c (.int .i64 1))⟩,
    ⟨some 3, none, .mv (.t 9)⟩]))
def v89 : VF := ⟨1, 17, [.t 2], true,
  .seq (.ops [⟨some 2, none, .mv (.c (.int .i64 0))⟩])
  (.seq (.seq (.ops [⟨some 3, none, .mv (.c (.int .i64 0))⟩])
  (.block 0 (.loop [0, 3] [2] l89_0)))
  (.seq (.ops [⟨some 2, none, .mv (.c (.int .i64 (-1)))⟩])
  (.ret)))⟩
theorem ok89 : FnOK Try.prog 89 v89 := ⟨⟨Try.f89, _, Try.func89, rfl, by kernel_rfl, rfl, by decide, by kernel_rfl, by kernel_rfl⟩⟩

/-- impl.isByte -/
def v90 : VF := ⟨1, 5, [.t 2], true,
  .seq (.ops [⟨some 2, none, .mv (.c (.bool false))⟩])
  (.seq (.ops [⟨some 3, none, .mv (.t 0)⟩,
    ⟨some 4, none, .call 77 [.t 3, .c (.int .i64 0), .c (.int .i64 255)]⟩,
    ⟨some 2, none, .mv (.t 4)⟩])
  (.ret))⟩
theorem ok90 : FnOK Try.prog 90 v90 := ⟨⟨Try.f90, _, Try.func90, rfl, by kernel_rfl, rfl, by decide, by kernel_rfl, by kernel_rfl⟩⟩

/-- impl.Block] -/
def v91 : VF := ⟨1, 8, [.t 2], true,
  .seq (.ops [⟨some 2, none, .mv (.c (.slice none 0 0))⟩])
  (.seq (.seq (.ops [⟨some 3, none, .mv (.t 0)⟩,
    ⟨some 4, none, .snil false (.t 3)⟩])
  (.cond (.t 4)
   (.seq (.ops [⟨some 2, none, .mv (.c (.slice none 0 0))⟩])
   (.ret))
   (.skip)))
  (.seq (.ops [⟨some 5, none, .bslice 2 [] 0 []⟩,
    ⟨some 6, none, .mv (.t 0)⟩,
    ⟨some 7, none, .append 2 16 (.t 5) (.t 6)⟩,
    ⟨some 2, none, .mv (.t 7)⟩])
  (.ret)))⟩
theorem ok91 : FnOK Try.prog 91 v91 := ⟨⟨Try.f91, _, Try.func91, rfl, by kernel_rfl, rfl, by decide, by kernel_rfl, by kernel_rfl⟩⟩

/-- impl.take -/
def v92 : VF := ⟨2, 17, [.t 4, .t 5], false,
  .seq (.ops [⟨some 4, none, .mv (.c (.int .i64 0))⟩,
    ⟨some 5, none, .mv (.c (.int .i64 0))⟩])
  (.seq (.ops [⟨some 7, none, .mv (.t 0)⟩,
    ⟨some 8, none, .call 131 [.t 7, .c (.func (.func 132) #[] #[])]⟩,
    ⟨some 6, none, .mv (.t 8)⟩])
  (.seq (.seq (.ops [⟨some 9, none, .mv (.t 6)⟩,
    ⟨some 10, none, .bin .lss (.t 9) (.c (.int .i64 0))⟩])
  (.cond (.t 10)
   (.seq (.ops [⟨some 4, none, .mv (.c (.int .i64 0))⟩,
     ⟨some 5, none, .mv (.c (.int .i64 8))⟩])
   (.ret))
   (.skip)))
  (.seq (.ops [⟨some 11, none, .mv (.t 0)⟩,
    ⟨some 12, none, .mv (.t 6)⟩,
    ⟨some 13, none, .mv (.t 1)⟩,
    ⟨some 14, none, .build [.int .i64 0, .int .i64 0] [(0, 1, .c (.int .i64 1)), (1, 1, .t 13)]⟩,
    ⟨some 15, none, .iaddr 2 (.t 11) (.t 12)⟩,
    ⟨none, none, .store 2 (.t 15) (.t 14)⟩])
  (.seq (.ops [⟨some 16, none, .mv (.t 6)⟩,
    ⟨some 4, none, .mv (.t 16)⟩,
    ⟨some 5, none, .mv (.c (.int .i64 0))⟩])
  (.ret)))))⟩
theorem ok92 : FnOK Try.prog 92 v92 := ⟨⟨Try.f92, _, Try.func92, rfl, by kernel_rfl, rfl, by decide, by kernel_rfl, by kernel_rfl⟩⟩

/-- impl.areRefs -/
def v97 : VF := ⟨1, 5, [.t 2], true,
  .seq (.ops [⟨some 2, none, .mv (.c (.bool false))⟩])
  (.seq (.ops [⟨some 3, none, .mv (.t 0)⟩,
    ⟨some 4, none, .call 77 [.t 3, .c (.int .i64 0), .c (.int .i64 200)]⟩,
    ⟨some 2, none, .mv (.t 4)⟩])
  (.ret))⟩
theorem ok97 : FnOK Try.prog 97 v97 := ⟨⟨Try.f97, _, Try.func97, rfl, by kernel_rfl, rfl, by decide, by kernel_rfl, by kernel_rfl⟩⟩

/-- spec.l4Bad -/
def v98 : VF := ⟨1, 5, [.cell 2 true 4], true,
  .seq (.ops [⟨some 2, none, .new [.int .i64 0, .int .i64 0, .slice none 0 0, .slice none 0 0]⟩])
  (.seq (.ops [⟨some 3, none, .mv (.t 0)⟩,
    ⟨some 4, none, .build [.int .i64 0, .int .i64 0, .slice none 0 0, .slice none 0 0] [(0, 1, .t 3)]⟩,
    ⟨none, none, .store 4 (.t 2) (.t 4)⟩])
  (.ret))⟩
theorem ok98 : FnOK Try.prog 98 v98 := ⟨⟨Try.f98, _, Try.func98, rfl, by kernel_rfl, rfl, by decide, by kernel_rfl, by kernel_rfl⟩⟩

/-- laws.heldForest -/
def v99 : VF := ⟨2, 18, [.t 4], true,
  .seq (.ops [⟨some 2, none, .box (.t 0)⟩,
    ⟨some 4, none, .mv (.c (.int .i64 0))⟩])
  (.seq (.ops [⟨some 5, none, .faddr 0 (.t 2)⟩,
    ⟨some 6, none, .load false 1 (.t 5)⟩,
    ⟨some 7, none, .mv (.t 1)⟩,
    ⟨some 8, none, .call 134 [.t 6, .t 7]⟩,
    ⟨some 1, none, .mv (.t 8)⟩])
  (.seq (.seq (.ops [⟨some 9, none, .mv (.t 1)⟩,
    ⟨some 10, none, .bin .lss (.t 9) (.c (.int .i64 0))⟩])
  (.cond (.t 10)
   (.seq (.ops [⟨some 4, none, .mv (.c (.int .i64 (-1)))⟩])
   (.ret))
   (.skip)))
  (.seq (.ops [⟨some 11, none, .faddr 1 (.t 2)⟩,
    ⟨some 12, none, .load false 1 (.t 11)⟩,
    ⟨some 13, none, .mv (.t 1)⟩,
    ⟨some 14, none, .call 78 [.t 12, .t 13]⟩,
    ⟨some 1, none, .mv (.t 14)⟩])
  (.seq (.seq (.ops [⟨some 15, none, .mv (.t 1)⟩,
    ⟨some 16, none, .bin .lss (.t 15) (.c (.int .i64 0))⟩])
  (.cond (.t 16)
   (.seq (.ops [⟨some 4, none, .mv (.c (.int .i64 (-1)))⟩])
   (.ret))
   (.skip)))
  (.seq (.ops [⟨some 17, none, .mv (.t 1)⟩,
    ⟨some 4, none, .mv (.t 17)⟩])
  (.ret))))))⟩
theorem ok99 : FnOK Try.prog 99 v99 := ⟨⟨Try.f99, _, Try.func99, rfl, by kernel_rfl, rfl, by decide, by kernel_rfl, by kernel_rfl⟩⟩

/-- laws.szNodeS -/
def l103_0 : VC :=
  .seq (.seq (.ops [⟨some 12, none, .mv (.t 5)⟩,
    ⟨some 13, none, .mv (.t 0)⟩,
    ⟨some 14, none, .len (.t 13)⟩,
    ⟨some 15, none, .bin .lss (.t 12) (.t 14)⟩])
  (.cond (.t 15)
   (.skip)
   (.exit 0)))
  (.seq (.block 1 (.seq (.ops [⟨some 18, none, .mv (.t 0)⟩,
     ⟨some 19, none, .mv (.t 5)⟩,
     ⟨some 20, none, .iaddr 3 (.t 18) (.t 19)⟩,
     ⟨some 21, none, .load true 3 (.t 20)⟩,
     ⟨some 22, none, .mv (.t 1)⟩,
     ⟨some 23, none, .call 138 [.t 21, .t 22]⟩,
     ⟨some 1, none, .mv (.t 23)⟩])
   (.seq (.ops [⟨some 24, none, .mv (.t 1)⟩,
     ⟨some 25, none, .bin .lss (.t 24) (.c (.int .i64 0))⟩])
   (.cond (.t 25)
    (.seq (.ops [⟨some 4, none, .mv (.c (.int .i64 (-1)))⟩])
    (.ret))
    (.skip)))))
  (.ops [⟨some 16, none, .mv (.t 5)⟩,
    ⟨some 17, none, .bin .add (.t 16) (.c (.int .i64 1))⟩,
    ⟨some 5, none, .mv (.t 17)⟩]))
def v103 : VF := ⟨2, 27, [.t 4], true,
  .seq (.ops [⟨some 4, none, .mv (.c (.int .i64 0))⟩])
  (.seq (.ops [⟨some 6, none, .mv (.t 1)⟩,
    ⟨some 7, none, .mv (.t 0)⟩,
    ⟨some 8, none, .len (.t 7)⟩,
    ⟨some 9, none, .bin .sub (.t 6) (.t 8)⟩,
    ⟨some 1, none, .mv (.t 9)⟩])
  (.seq (.seq (.ops [⟨some 10, none, .mv (.t 1)⟩,
    ⟨some 11, none, .bin .lss (.t 10) (.c (.int .i64 0))⟩])
  (.cond (.t 11)
   (.seq (.ops [⟨some 4, none, .mv (.c (.int .i64 (-1)))⟩])
   (.ret))
   (.skip)))
  (.seq (.seq (.ops [⟨some 5, none, .mv (.c (.int .i64 0))⟩])
  (.block 0 (.loop [0, 1, 5] [1, 4] l103_0)))
  (.seq (.ops [⟨some 26, none, .mv (.t 1)⟩,
    ⟨some 4, none, .mv (.t 26)⟩])
  (.ret)))))⟩
theorem ok103 : FnOK Try.prog 103 v103 := ⟨⟨Try.f103, _, Try.func103, rfl, by kernel_rfl, rfl, by decide, by kernel_rfl, by kernel_rfl⟩⟩
def env0 : Env := [(14, v14), (15, v15), (16, v16), (17, v17), (25, v25), (27, v27), (30, v30), (33, v33), (40, v40), (43, v43), (44, v44), (45, v45), (51, v51), (53, v53), (54, v54), (55, v55), (61, v61), (64, v64), (65, v65), (66, v66), (67, v67), (68, v68), (69, v69), (70, v70), (71, v71), (75, v75), (77, v77), (78, v78), (79, v79), (81, v81), (82, v82), (85, v85), (86, v86), (87, v87), (88, v88), (89, v89), (90, v90), (91, v91), (92, v92), (97, v97), (98, v98), (99, v99), (103, v103)]
theorem envOK0 : EnvOK Try.prog env0 := .cons ok14 (.cons ok15 (.cons ok16 (.cons ok17 (.cons ok25 (.cons ok27 (.cons ok30 (.cons ok33 (.cons ok40 (.cons ok43 (.cons ok44 (.cons ok45 (.cons ok51 (.cons ok53 (.cons ok54 (.cons ok55 (.cons ok61 (.cons ok64 (.cons ok65 (.cons ok66 (.cons ok67 (.cons ok68 (.cons ok69 (.cons ok70 (.cons ok71 (.cons ok75 (.cons ok77 (.cons ok78 (.cons ok79 (.cons ok81 (.cons ok82 (.cons ok85 (.cons ok86 (.cons ok87 (.cons ok88 (.cons ok89 (.cons ok90 (.cons ok91 (.cons ok92 (.cons ok97 (.cons ok98 (.cons ok99 (.cons ok103 (.nil)))))))))))))))))))))))))))))))))))))))))))
end Go.Proofs.Ytmcljallamhccaa.V
