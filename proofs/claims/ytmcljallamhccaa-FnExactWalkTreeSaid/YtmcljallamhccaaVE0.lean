/- The machine's code of the program's functions; each is the program's own, by the kernel. Laid by a program (wip/v/vmgen.py). -/
import Derived.Test.YtmcljallamhccaaVMF
import Derived.Test.YtmcljallamhccaaProg
namespace Go.Proofs.Ytmcljallamhccaa.V
open Go
set_option maxRecDepth 100000
/-- laws.FnExactNewBlocks -/
def v3 : VF := ⟨1, 41, [.t 2], true,
  .seq (.ops [⟨some 2, none, .mv (.c (.bool false))⟩])
  (.seq (.ops [⟨some 8, none, .mv (.t 0)⟩,
    ⟨some 9, none, .call 20 [.t 8]⟩,
    ⟨some 3, none, .new [.int .i64 0, .int .i64 0, .slice none 0 0]⟩,
    ⟨none, none, .store 3 (.t 3) (.t 9)⟩])
  (.seq (.ops [⟨some 10, none, .mv (.t 0)⟩,
    ⟨some 11, none, .call 21 [.t 10]⟩,
    ⟨some 4, none, .new [.int .i64 0, .int .i64 0, .slice none 0 0]⟩,
    ⟨none, none, .store 3 (.t 4) (.t 11)⟩])
  (.seq (.seq (.ops [⟨some 12, none, .load true 3 (.t 4)⟩,
    ⟨some 13, none, .load true 3 (.t 3)⟩,
    ⟨some 14, none, .call 22 [.t 12, .t 13]⟩,
    ⟨some 15, none, .not (.t 14)⟩])
  (.cond (.t 15)
   (.seq (.ops [⟨some 2, none, .mv (.c (.bool false))⟩])
   (.ret))
   (.skip)))
  (.seq (.ops [⟨some 5, none, .mv (.c (.int .i64 1))⟩])
  (.seq (.ops [⟨some 16, none, .load true 3 (.t 4)⟩,
    ⟨some 17, none, .mv (.t 5)⟩,
    ⟨some 18, none, .call 23 [.t 16, .t 17]⟩,
    ⟨some 5, none, .mv (.t 18)⟩])
  (.seq (.ops [⟨some 6, none, .mv (.c (.int .i64 1))⟩])
  (.seq (.ops [⟨some 19, none, .load true 3 (.t 4)⟩,
    ⟨some 20, none, .mv (.t 6)⟩,
    ⟨some 21, none, .call 24 [.t 19, .t 20]⟩,
    ⟨some 6, none, .mv (.t 21)⟩])
  (.seq (.seq (.ops [⟨some 22, none, .mv (.t 6)⟩,
    ⟨some 23, none, .bin .lss (.t 22) (.c (.int .i64 0))⟩])
  (.cond (.t 23)
   (.seq (.ops [⟨some 2, none, .mv (.c (.bool false))⟩])
   (.ret))
   (.skip)))
  (.seq (.seq (.ops [⟨some 24, none, .mv (.t 6)⟩,
    ⟨some 25, none, .mv (.t 5)⟩,
    ⟨some 26, none, .bin .neq (.t 24) (.t 25)⟩])
  (.cond (.t 26)
   (.seq (.ops [⟨some 2, none, .mv (.c (.bool false))⟩])
   (.ret))
   (.skip)))
  (.seq (.ops [⟨some 27, none, .mv (.t 0)⟩,
    ⟨some 28, none, .call 21 [.t 27]⟩,
    ⟨some 7, none, .new [.int .i64 0, .int .i64 0, .slice none 0 0]⟩,
    ⟨none, none, .store 3 (.t 7) (.t 28)⟩])
  (.seq (.seq (.ops [⟨some 29, none, .load true 3 (.t 7)⟩,
    ⟨some 30, none, .load true 3 (.t 3)⟩,
    ⟨some 31, none, .call 22 [.t 29, .t 30]⟩,
    ⟨some 32, none, .not (.t 31)⟩])
  (.cond (.t 32)
   (.seq (.ops [⟨some 2, none, .mv (.c (.bool false))⟩])
   (.ret))
   (.skip)))
  (.seq (.ops [⟨some 6, none, .mv (.c (.int .i64 1))⟩])
  (.seq (.ops [⟨some 33, none, .load true 3 (.t 4)⟩,
    ⟨some 34, none, .mv (.t 6)⟩,
    ⟨some 35, none, .call 24 [.t 33, .t 34]⟩,
    ⟨some 6, none, .mv (.t 35)⟩])
  (.seq (.seq (.ops [⟨some 36, none, .mv (.t 6)⟩,
    ⟨some 37, none, .bin .lss (.t 36) (.c (.int .i64 0))⟩])
  (.cond (.t 37)
   (.seq (.ops [⟨some 2, none, .mv (.c (.bool false))⟩])
   (.ret))
   (.skip)))
  (.seq (.seq (.ops [⟨some 38, none, .mv (.t 6)⟩,
    ⟨some 39, none, .mv (.t 5)⟩,
    ⟨some 40, none, .bin .neq (.t 38) (.t 39)⟩])
  (.cond (.t 40)
   (.seq (.ops [⟨some 2, none, .mv (.c (.bool false))⟩])
   (.ret))
   (.skip)))
  (.seq (.ops [⟨some 2, none, .mv (.c (.bool true))⟩])
  (.ret)))))))))))))))))⟩
theorem ok3 : FnOK Try.prog 3 v3 := ⟨⟨Try.f3, _, Try.func3, rfl, by kernel_rfl, rfl, by decide, by kernel_rfl, by kernel_rfl⟩⟩

/-- laws.FnExactFreeOf -/
def v4 : VF := ⟨1, 28, [.t 2], true,
  .seq (.ops [⟨some 2, none, .mv (.c (.bool false))⟩])
  (.seq (.ops [⟨some 3, none, .mv (.c (.int .i64 1048576))⟩])
  (.seq (.ops [⟨some 7, none, .mv (.t 0)⟩,
    ⟨some 8, none, .mv (.t 3)⟩,
    ⟨some 9, none, .call 25 [.t 7, .t 8]⟩,
    ⟨some 3, none, .mv (.t 9)⟩])
  (.seq (.seq (.ops [⟨some 10, none, .mv (.t 3)⟩,
    ⟨some 11, none, .bin .lss (.t 10) (.c (.int .i64 0))⟩])
  (.cond (.t 11)
   (.seq (.ops [⟨some 2, none, .mv (.c (.bool true))⟩])
   (.ret))
   (.skip)))
  (.seq (.ops [⟨some 12, none, .mv (.t 0)⟩,
    ⟨some 13, none, .call 27 [.t 12]⟩,
    ⟨some 14, none, .call 26 [.t 13]⟩,
    ⟨some 4, none, .new [.int .i64 0, .int .i64 0]⟩,
    ⟨none, none, .store 2 (.t 4) (.t 14)⟩])
  (.seq (.ops [⟨some 15, none, .mv (.t 0)⟩,
    ⟨some 16, none, .call 27 [.t 15]⟩,
    ⟨some 5, none, .mv (.t 16)⟩])
  (.seq (.ops [⟨some 17, none, .mv (.t 5)⟩,
    ⟨some 18, none, .call 28 [.t 17]⟩,
    ⟨some 6, none, .new [.int .i64 0, .int .i64 0]⟩,
    ⟨none, none, .store 2 (.t 6) (.t 18)⟩])
  (.seq (.seq (.ops [⟨some 19, none, .load true 2 (.t 6)⟩,
    ⟨some 20, none, .load true 2 (.t 4)⟩,
    ⟨some 21, none, .call 29 [.t 19, .t 20]⟩,
    ⟨some 22, none, .not (.t 21)⟩])
  (.cond (.t 22)
   (.seq (.ops [⟨some 2, none, .mv (.c (.bool false))⟩])
   (.ret))
   (.skip)))
  (.seq (.seq (.ops [⟨some 23, none, .mv (.t 5)⟩,
    ⟨some 24, none, .mv (.t 0)⟩,
    ⟨some 25, none, .call 27 [.t 24]⟩,
    ⟨some 26, none, .call 30 [.t 23, .t 25]⟩,
    ⟨some 27, none, .not (.t 26)⟩])
  (.cond (.t 27)
   (.seq (.ops [⟨some 2, none, .mv (.c (.bool false))⟩])
   (.ret))
   (.skip)))
  (.seq (.ops [⟨some 2, none, .mv (.c (.bool true))⟩])
  (.ret))))))))))⟩
theorem ok4 : FnOK Try.prog 4 v4 := ⟨⟨Try.f4, _, Try.func4, rfl, by kernel_rfl, rfl, by decide, by kernel_rfl, by kernel_rfl⟩⟩

/-- laws.FnExactShareBlock -/
def v5 : VF := ⟨2, 74, [.t 4], true,
  .seq (.ops [⟨some 4, none, .mv (.c (.bool false))⟩])
  (.seq (.ops [⟨some 5, none, .mv (.c (.int .i64 1048576))⟩])
  (.seq (.ops [⟨some 13, none, .mv (.t 0)⟩,
    ⟨some 14, none, .mv (.t 5)⟩,
    ⟨some 15, none, .call 25 [.t 13, .t 14]⟩,
    ⟨some 5, none, .mv (.t 15)⟩])
  (.seq (.seq (.ops [⟨some 16, none, .mv (.t 5)⟩,
    ⟨some 17, none, .bin .lss (.t 16) (.c (.int .i64 0))⟩])
  (.cond (.t 17)
   (.seq (.ops [⟨some 4, none, .mv (.c (.bool true))⟩])
   (.ret))
   (.skip)))
  (.seq (.ops [⟨some 18, none, .mv (.t 0)⟩,
    ⟨some 19, none, .call 27 [.t 18]⟩,
    ⟨some 20, none, .mv (.t 1)⟩,
    ⟨some 21, none, .call 31 [.t 19, .t 20]⟩,
    ⟨some 6, none, .new [.int .i64 0, .int .i64 0, .slice none 0 0]⟩,
    ⟨none, none, .store 3 (.t 6) (.t 21)⟩])
  (.seq (.ops [⟨some 22, none, .mv (.t 0)⟩,
    ⟨some 23, none, .call 27 [.t 22]⟩,
    ⟨some 7, none, .mv (.t 23)⟩])
  (.seq (.ops [⟨some 24, none, .mv (.t 7)⟩,
    ⟨some 25, none, .mv (.t 1)⟩,
    ⟨some 26, none, .call 32 [.t 24, .t 25]⟩,
    ⟨some 8, none, .new [.int .i64 0, .int .i64 0, .slice none 0 0]⟩,
    ⟨none, none, .store 3 (.t 8) (.t 26)⟩])
  (.seq (.seq (.ops [⟨some 27, none, .load true 3 (.t 8)⟩,
    ⟨some 28, none, .load true 3 (.t 6)⟩,
    ⟨some 29, none, .call 22 [.t 27, .t 28]⟩,
    ⟨some 30, none, .not (.t 29)⟩])
  (.cond (.t 30)
   (.seq (.ops [⟨some 4, none, .mv (.c (.bool false))⟩])
   (.ret))
   (.skip)))
  (.seq (.seq (.ops [⟨some 31, none, .mv (.t 7)⟩,
    ⟨some 32, none, .mv (.t 0)⟩,
    ⟨some 33, none, .call 27 [.t 32]⟩,
    ⟨some 34, none, .call 30 [.t 31, .t 33]⟩,
    ⟨some 35, none, .not (.t 34)⟩])
  (.cond (.t 35)
   (.seq (.ops [⟨some 4, none, .mv (.c (.bool false))⟩])
   (.ret))
   (.skip)))
  (.seq (.ops [⟨some 9, none, .mv (.c (.int .i64 1))⟩])
  (.seq (.ops [⟨some 36, none, .mv (.t 7)⟩,
    ⟨some 37, none, .mv (.t 9)⟩,
    ⟨some 38, none, .call 33 [.t 36, .t 37]⟩,
    ⟨some 9, none, .mv (.t 38)⟩])
  (.seq (.seq (.ops [⟨some 39, none, .mv (.t 9)⟩,
    ⟨some 40, none, .bin .lss (.t 39) (.c (.int .i64 0))⟩,
    ⟨some 41, none, .mv (.t 40)⟩,
    ⟨some 42, some (41, false), .load true 3 (.t 8)⟩,
    ⟨some 43, some (41, false), .load true 3 (.t 6)⟩,
    ⟨some 44, some (41, false), .call 22 [.t 42, .t 43]⟩,
    ⟨some 45, some (41, false), .not (.t 44)⟩,
    ⟨some 46, none, .pick (.t 41) (.c (.bool true)) (.t 45)⟩])
  (.cond (.t 46)
   (.seq (.ops [⟨some 4, none, .mv (.c (.bool false))⟩])
   (.ret))
   (.skip)))
  (.seq (.ops [⟨some 10, none, .mv (.c (.int .i64 1))⟩])
  (.seq (.ops [⟨some 47, none, .load true 3 (.t 8)⟩,
    ⟨some 48, none, .mv (.t 10)⟩,
    ⟨some 49, none, .call 23 [.t 47, .t 48]⟩,
    ⟨some 10, none, .mv (.t 49)⟩])
  (.seq (.ops [⟨some 11, none, .mv (.c (.int .i64 1))⟩])
  (.seq (.ops [⟨some 50, none, .load true 3 (.t 8)⟩,
    ⟨some 51, none, .mv (.t 11)⟩,
    ⟨some 52, none, .call 24 [.t 50, .t 51]⟩,
    ⟨some 11, none, .mv (.t 52)⟩])
  (.seq (.seq (.ops [⟨some 53, none, .mv (.t 11)⟩,
    ⟨some 54, none, .bin .lss (.t 53) (.c (.int .i64 0))⟩])
  (.cond (.t 54)
   (.seq (.ops [⟨some 4, none, .mv (.c (.bool false))⟩])
   (.ret))
   (.skip)))
  (.seq (.seq (.ops [⟨some 55, none, .mv (.t 11)⟩,
    ⟨some 56, none, .mv (.t 10)⟩,
    ⟨some 57, none, .bin .neq (.t 55) (.t 56)⟩])
  (.cond (.t 57)
   (.seq (.ops [⟨some 4, none, .mv (.c (.bool false))⟩])
   (.ret))
   (.skip)))
  (.seq (.ops [⟨some 58, none, .mv (.t 0)⟩,
    ⟨some 59, none, .call 27 [.t 58]⟩,
    ⟨some 60, none, .mv (.t 1)⟩,
    ⟨some 61, none, .call 32 [.t 59, .t 60]⟩,
    ⟨some 12, none, .new [.int .i64 0, .int .i64 0, .slice none 0 0]⟩,
    ⟨none, none, .store 3 (.t 12) (.t 61)⟩])
  (.seq (.seq (.ops [⟨some 62, none, .load true 3 (.t 12)⟩,
    ⟨some 63, none, .load true 3 (.t 6)⟩,
    ⟨some 64, none, .call 22 [.t 62, .t 63]⟩,
    ⟨some 65, none, .not (.t 64)⟩])
  (.cond (.t 65)
   (.seq (.ops [⟨some 4, none, .mv (.c (.bool false))⟩])
   (.ret))
   (.skip)))
  (.seq (.ops [⟨some 11, none, .mv (.c (.int .i64 1))⟩])
  (.seq (.ops [⟨some 66, none, .load true 3 (.t 8)⟩,
    ⟨some 67, none, .mv (.t 11)⟩,
    ⟨some 68, none, .call 24 [.t 66, .t 67]⟩,
    ⟨some 11, none, .mv (.t 68)⟩])
  (.seq (.seq (.ops [⟨some 69, none, .mv (.t 11)⟩,
    ⟨some 70, none, .bin .lss (.t 69) (.c (.int .i64 0))⟩])
  (.cond (.t 70)
   (.seq (.ops [⟨some 4, none, .mv (.c (.bool false))⟩])
   (.ret))
   (.skip)))
  (.seq (.seq (.ops [⟨some 71, none, .mv (.t 11)⟩,
    ⟨some 72, none, .mv (.t 10)⟩,
    ⟨some 73, none, .bin .neq (.t 71) (.t 72)⟩])
  (.cond (.t 73)
   (.seq (.ops [⟨some 4, none, .mv (.c (.bool false))⟩])
   (.ret))
   (.skip)))
  (.seq (.ops [⟨some 4, none, .mv (.c (.bool true))⟩])
  (.ret)))))))))))))))))))))))))⟩
theorem ok5 : FnOK Try.prog 5 v5 := ⟨⟨Try.f5, _, Try.func5, rfl, by kernel_rfl, rfl, by decide, by kernel_rfl, by kernel_rfl⟩⟩

/-- laws.FnExactDropBlock -/
def v6 : VF := ⟨2, 74, [.t 4], true,
  .seq (.ops [⟨some 4, none, .mv (.c (.bool false))⟩])
  (.seq (.ops [⟨some 5, none, .mv (.c (.int .i64 1048576))⟩])
  (.seq (.ops [⟨some 13, none, .mv (.t 0)⟩,
    ⟨some 14, none, .mv (.t 5)⟩,
    ⟨some 15, none, .call 25 [.t 13, .t 14]⟩,
    ⟨some 5, none, .mv (.t 15)⟩])
  (.seq (.seq (.ops [⟨some 16, none, .mv (.t 5)⟩,
    ⟨some 17, none, .bin .lss (.t 16) (.c (.int .i64 0))⟩])
  (.cond (.t 17)
   (.seq (.ops [⟨some 4, none, .mv (.c (.bool true))⟩])
   (.ret))
   (.skip)))
  (.seq (.ops [⟨some 18, none, .mv (.t 0)⟩,
    ⟨some 19, none, .call 27 [.t 18]⟩,
    ⟨some 20, none, .mv (.t 1)⟩,
    ⟨some 21, none, .call 34 [.t 19, .t 20]⟩,
    ⟨some 6, none, .new [.int .i64 0, .int .i64 0, .slice none 0 0]⟩,
    ⟨none, none, .store 3 (.t 6) (.t 21)⟩])
  (.seq (.ops [⟨some 22, none, .mv (.t 0)⟩,
    ⟨some 23, none, .call 27 [.t 22]⟩,
    ⟨some 7, none, .mv (.t 23)⟩])
  (.seq (.ops [⟨some 24, none, .mv (.t 7)⟩,
    ⟨some 25, none, .mv (.t 1)⟩,
    ⟨some 26, none, .call 35 [.t 24, .t 25]⟩,
    ⟨some 8, none, .new [.int .i64 0, .int .i64 0, .slice none 0 0]⟩,
    ⟨none, none, .store 3 (.t 8) (.t 26)⟩])
  (.seq (.seq (.ops [⟨some 27, none, .load true 3 (.t 8)⟩,
    ⟨some 28, none, .load true 3 (.t 6)⟩,
    ⟨some 29, none, .call 22 [.t 27, .t 28]⟩,
    ⟨some 30, none, .not (.t 29)⟩])
  (.cond (.t 30)
   (.seq (.ops [⟨some 4, none, .mv (.c (.bool false))⟩])
   (.ret))
   (.skip)))
  (.seq (.seq (.ops [⟨some 31, none, .mv (.t 7)⟩,
    ⟨some 32, none, .mv (.t 0)⟩,
    ⟨some 33, none, .call 27 [.t 32]⟩,
    ⟨some 34, none, .call 30 [.t 31, .t 33]⟩,
    ⟨some 35, none, .not (.t 34)⟩])
  (.cond (.t 35)
   (.seq (.ops [⟨some 4, none, .mv (.c (.bool false))⟩])
   (.ret))
   (.skip)))
  (.seq (.ops [⟨some 9, none, .mv (.c (.int .i64 1))⟩])
  (.seq (.ops [⟨some 36, none, .mv (.t 7)⟩,
    ⟨some 37, none, .mv (.t 9)⟩,
    ⟨some 38, none, .call 33 [.t 36, .t 37]⟩,
    ⟨some 9, none, .mv (.t 38)⟩])
  (.seq (.seq (.ops [⟨some 39, none, .mv (.t 9)⟩,
    ⟨some 40, none, .bin .lss (.t 39) (.c (.int .i64 0))⟩,
    ⟨some 41, none, .mv (.t 40)⟩,
    ⟨some 42, some (41, false), .load true 3 (.t 8)⟩,
    ⟨some 43, some (41, false), .load true 3 (.t 6)⟩,
    ⟨some 44, some (41, false), .call 22 [.t 42, .t 43]⟩,
    ⟨some 45, some (41, false), .not (.t 44)⟩,
    ⟨some 46, none, .pick (.t 41) (.c (.bool true)) (.t 45)⟩])
  (.cond (.t 46)
   (.seq (.ops [⟨some 4, none, .mv (.c (.bool false))⟩])
   (.ret))
   (.skip)))
  (.seq (.ops [⟨some 10, none, .mv (.c (.int .i64 1))⟩])
  (.seq (.ops [⟨some 47, none, .load true 3 (.t 8)⟩,
    ⟨some 48, none, .mv (.t 10)⟩,
    ⟨some 49, none, .call 23 [.t 47, .t 48]⟩,
    ⟨some 10, none, .mv (.t 49)⟩])
  (.seq (.ops [⟨some 11, none, .mv (.c (.int .i64 1))⟩])
  (.seq (.ops [⟨some 50, none, .load true 3 (.t 8)⟩,
    ⟨some 51, none, .mv (.t 11)⟩,
    ⟨some 52, none, .call 24 [.t 50, .t 51]⟩,
    ⟨some 11, none, .mv (.t 52)⟩])
  (.seq (.seq (.ops [⟨some 53, none, .mv (.t 11)⟩,
    ⟨some 54, none, .bin .lss (.t 53) (.c (.int .i64 0))⟩])
  (.cond (.t 54)
   (.seq (.ops [⟨some 4, none, .mv (.c (.bool false))⟩])
   (.ret))
   (.skip)))
  (.seq (.seq (.ops [⟨some 55, none, .mv (.t 11)⟩,
    ⟨some 56, none, .mv (.t 10)⟩,
    ⟨some 57, none, .bin .neq (.t 55) (.t 56)⟩])
  (.cond (.t 57)
   (.seq (.ops [⟨some 4, none, .mv (.c (.bool false))⟩])
   (.ret))
   (.skip)))
  (.seq (.ops [⟨some 58, none, .mv (.t 0)⟩,
    ⟨some 59, none, .call 27 [.t 58]⟩,
    ⟨some 60, none, .mv (.t 1)⟩,
    ⟨some 61, none, .call 35 [.t 59, .t 60]⟩,
    ⟨some 12, none, .new [.int .i64 0, .int .i64 0, .slice none 0 0]⟩,
    ⟨none, none, .store 3 (.t 12) (.t 61)⟩])
  (.seq (.seq (.ops [⟨some 62, none, .load true 3 (.t 12)⟩,
    ⟨some 63, none, .load true 3 (.t 6)⟩,
    ⟨some 64, none, .call 22 [.t 62, .t 63]⟩,
    ⟨some 65, none, .not (.t 64)⟩])
  (.cond (.t 65)
   (.seq (.ops [⟨some 4, none, .mv (.c (.bool false))⟩])
   (.ret))
   (.skip)))
  (.seq (.ops [⟨some 11, none, .mv (.c (.int .i64 1))⟩])
  (.seq (.ops [⟨some 66, none, .load true 3 (.t 8)⟩,
    ⟨some 67, none, .mv (.t 11)⟩,
    ⟨some 68, none, .call 24 [.t 66, .t 67]⟩,
    ⟨some 11, none, .mv (.t 68)⟩])
  (.seq (.seq (.ops [⟨some 69, none, .mv (.t 11)⟩,
    ⟨some 70, none, .bin .lss (.t 69) (.c (.int .i64 0))⟩])
  (.cond (.t 70)
   (.seq (.ops [⟨some 4, none, .mv (.c (.bool false))⟩])
   (.ret))
   (.skip)))
  (.seq (.seq (.ops [⟨some 71, none, .mv (.t 11)⟩,
    ⟨some 72, none, .mv (.t 10)⟩,
    ⟨some 73, none, .bin .neq (.t 71) (.t 72)⟩])
  (.cond (.t 73)
   (.seq (.ops [⟨some 4, none, .mv (.c (.bool false))⟩])
   (.ret))
   (.skip)))
  (.seq (.ops [⟨some 4, none, .mv (.c (.bool true))⟩])
  (.ret)))))))))))))))))))))))))⟩
theorem ok6 : FnOK Try.prog 6 v6 := ⟨⟨Try.f6, _, Try.func6, rfl, by kernel_rfl, rfl, by decide, by kernel_rfl, by kernel_rfl⟩⟩

/-- laws.FnExactTakeBlock -/
def v7 : VF := ⟨2, 74, [.t 4], true,
  .seq (.ops [⟨some 4, none, .mv (.c (.bool false))⟩])
  (.seq (.ops [⟨some 5, none, .mv (.c (.int .i64 1048576))⟩])
  (.seq (.ops [⟨some 13, none, .mv (.t 0)⟩,
    ⟨some 14, none, .mv (.t 5)⟩,
    ⟨some 15, none, .call 25 [.t 13, .t 14]⟩,
    ⟨some 5, none, .mv (.t 15)⟩])
  (.seq (.seq (.ops [⟨some 16, none, .mv (.t 5)⟩,
    ⟨some 17, none, .bin .lss (.t 16) (.c (.int .i64 0))⟩])
  (.cond (.t 17)
   (.seq (.ops [⟨some 4, none, .mv (.c (.bool true))⟩])
   (.ret))
   (.skip)))
  (.seq (.ops [⟨some 18, none, .mv (.t 0)⟩,
    ⟨some 19, none, .call 27 [.t 18]⟩,
    ⟨some 20, none, .mv (.t 1)⟩,
    ⟨some 21, none, .call 36 [.t 19, .t 20]⟩,
    ⟨some 6, none, .new [.int .i64 0, .int .i64 0, .slice none 0 0]⟩,
    ⟨none, none, .store 3 (.t 6) (.t 21)⟩])
  (.seq (.ops [⟨some 22, none, .mv (.t 0)⟩,
    ⟨some 23, none, .call 27 [.t 22]⟩,
    ⟨some 7, none, .mv (.t 23)⟩])
  (.seq (.ops [⟨some 24, none, .mv (.t 7)⟩,
    ⟨some 25, none, .mv (.t 1)⟩,
    ⟨some 26, none, .call 37 [.t 24, .t 25]⟩,
    ⟨some 8, none, .new [.int .i64 0, .int .i64 0, .slice none 0 0]⟩,
    ⟨none, none, .store 3 (.t 8) (.t 26)⟩])
  (.seq (.seq (.ops [⟨some 27, none, .load true 3 (.t 8)⟩,
    ⟨some 28, none, .load true 3 (.t 6)⟩,
    ⟨some 29, none, .call 22 [.t 27, .t 28]⟩,
    ⟨some 30, none, .not (.t 29)⟩])
  (.cond (.t 30)
   (.seq (.ops [⟨some 4, none, .mv (.c (.bool false))⟩])
   (.ret))
   (.skip)))
  (.seq (.seq (.ops [⟨some 31, none, .mv (.t 7)⟩,
    ⟨some 32, none, .mv (.t 0)⟩,
    ⟨some 33, none, .call 27 [.t 32]⟩,
    ⟨some 34, none, .call 30 [.t 31, .t 33]⟩,
    ⟨some 35, none, .not (.t 34)⟩])
  (.cond (.t 35)
   (.seq (.ops [⟨some 4, none, .mv (.c (.bool false))⟩])
   (.ret))
   (.skip)))
  (.seq (.ops [⟨some 9, none, .mv (.c (.int .i64 1))⟩])
  (.seq (.ops [⟨some 36, none, .mv (.t 7)⟩,
    ⟨some 37, none, .mv (.t 9)⟩,
    ⟨some 38, none, .call 33 [.t 36, .t 37]⟩,
    ⟨some 9, none, .mv (.t 38)⟩])
  (.seq (.seq (.ops [⟨some 39, none, .mv (.t 9)⟩,
    ⟨some 40, none, .bin .lss (.t 39) (.c (.int .i64 0))⟩,
    ⟨some 41, none, .mv (.t 40)⟩,
    ⟨some 42, some (41, false), .load true 3 (.t 8)⟩,
    ⟨some 43, some (41, false), .load true 3 (.t 6)⟩,
    ⟨some 44, some (41, false), .call 22 [.t 42, .t 43]⟩,
    ⟨some 45, some (41, false), .not (.t 44)⟩,
    ⟨some 46, none, .pick (.t 41) (.c (.bool true)) (.t 45)⟩])
  (.cond (.t 46)
   (.seq (.ops [⟨some 4, none, .mv (.c (.bool false))⟩])
   (.ret))
   (.skip)))
  (.seq (.ops [⟨some 10, none, .mv (.c (.int .i64 1))⟩])
  (.seq (.ops [⟨some 47, none, .load true 3 (.t 8)⟩,
    ⟨some 48, none, .mv (.t 10)⟩,
    ⟨some 49, none, .call 23 [.t 47, .t 48]⟩,
    ⟨some 10, none, .mv (.t 49)⟩])
  (.seq (.ops [⟨some 11, none, .mv (.c (.int .i64 1))⟩])
  (.seq (.ops [⟨some 50, none, .load true 3 (.t 8)⟩,
    ⟨some 51, none, .mv (.t 11)⟩,
    ⟨some 52, none, .call 24 [.t 50, .t 51]⟩,
    ⟨some 11, none, .mv (.t 52)⟩])
  (.seq (.seq (.ops [⟨some 53, none, .mv (.t 11)⟩,
    ⟨some 54, none, .bin .lss (.t 53) (.c (.int .i64 0))⟩])
  (.cond (.t 54)
   (.seq (.ops [⟨some 4, none, .mv (.c (.bool false))⟩])
   (.ret))
   (.skip)))
  (.seq (.seq (.ops [⟨some 55, none, .mv (.t 11)⟩,
    ⟨some 56, none, .mv (.t 10)⟩,
    ⟨some 57, none, .bin .neq (.t 55) (.t 56)⟩])
  (.cond (.t 57)
   (.seq (.ops [⟨some 4, none, .mv (.c (.bool false))⟩])
   (.ret))
   (.skip)))
  (.seq (.ops [⟨some 58, none, .mv (.t 0)⟩,
    ⟨some 59, none, .call 27 [.t 58]⟩,
    ⟨some 60, none, .mv (.t 1)⟩,
    ⟨some 61, none, .call 37 [.t 59, .t 60]⟩,
    ⟨some 12, none, .new [.int .i64 0, .int .i64 0, .slice none 0 0]⟩,
    ⟨none, none, .store 3 (.t 12) (.t 61)⟩])
  (.seq (.seq (.ops [⟨some 62, none, .load true 3 (.t 12)⟩,
    ⟨some 63, none, .load true 3 (.t 6)⟩,
    ⟨some 64, none, .call 22 [.t 62, .t 63]⟩,
    ⟨some 65, none, .not (.t 64)⟩])
  (.cond (.t 65)
   (.seq (.ops [⟨some 4, none, .mv (.c (.bool false))⟩])
   (.ret))
   (.skip)))
  (.seq (.ops [⟨some 11, none, .mv (.c (.int .i64 1))⟩])
  (.seq (.ops [⟨some 66, none, .load true 3 (.t 8)⟩,
    ⟨some 67, none, .mv (.t 11)⟩,
    ⟨some 68, none, .call 24 [.t 66, .t 67]⟩,
    ⟨some 11, none, .mv (.t 68)⟩])
  (.seq (.seq (.ops [⟨some 69, none, .mv (.t 11)⟩,
    ⟨some 70, none, .bin .lss (.t 69) (.c (.int .i64 0))⟩])
  (.cond (.t 70)
   (.seq (.ops [⟨some 4, none, .mv (.c (.bool false))⟩])
   (.ret))
   (.skip)))
  (.seq (.seq (.ops [⟨some 71, none, .mv (.t 11)⟩,
    ⟨some 72, none, .mv (.t 10)⟩,
    ⟨some 73, none, .bin .neq (.t 71) (.t 72)⟩])
  (.cond (.t 73)
   (.seq (.ops [⟨some 4, none, .mv (.c (.bool false))⟩])
   (.ret))
   (.skip)))
  (.seq (.ops [⟨some 4, none, .mv (.c (.bool true))⟩])
  (.ret)))))))))))))))))))))))))⟩
theorem ok7 : FnOK Try.prog 7 v7 := ⟨⟨Try.f7, _, Try.func7, rfl, by kernel_rfl, rfl, by decide, by kernel_rfl, by kernel_rfl⟩⟩

/-- laws.FnExactNewForest -/
def v9 : VF := ⟨1, 41, [.t 2], true,
  .seq (.ops [⟨some 2, none, .mv (.c (.bool false))⟩])
  (.seq (.ops [⟨some 8, none, .mv (.t 0)⟩,
    ⟨some 9, none, .call 41 [.t 8]⟩,
    ⟨some 3, none, .new [.int .i64 0, .int .i64 0, .slice none 0 0, .slice none 0 0]⟩,
    ⟨none, none, .store 4 (.t 3) (.t 9)⟩])
  (.seq (.ops [⟨some 10, none, .mv (.t 0)⟩,
    ⟨some 11, none, .call 42 [.t 10]⟩,
    ⟨some 4, none, .new [.int .i64 0, .int .i64 0, .slice none 0 0, .slice none 0 0]⟩,
    ⟨none, none, .store 4 (.t 4) (.t 11)⟩])
  (.seq (.seq (.ops [⟨some 12, none, .load true 4 (.t 4)⟩,
    ⟨some 13, none, .load true 4 (.t 3)⟩,
    ⟨some 14, none, .call 43 [.t 12, .t 13]⟩,
    ⟨some 15, none, .not (.t 14)⟩])
  (.cond (.t 15)
   (.seq (.ops [⟨some 2, none, .mv (.c (.bool false))⟩])
   (.ret))
   (.skip)))
  (.seq (.ops [⟨some 5, none, .mv (.c (.int .i64 1))⟩])
  (.seq (.ops [⟨some 16, none, .load true 4 (.t 4)⟩,
    ⟨some 17, none, .mv (.t 5)⟩,
    ⟨some 18, none, .call 44 [.t 16, .t 17]⟩,
    ⟨some 5, none, .mv (.t 18)⟩])
  (.seq (.ops [⟨some 6, none, .mv (.c (.int .i64 1))⟩])
  (.seq (.ops [⟨some 19, none, .load true 4 (.t 4)⟩,
    ⟨some 20, none, .mv (.t 6)⟩,
    ⟨some 21, none, .call 45 [.t 19, .t 20]⟩,
    ⟨some 6, none, .mv (.t 21)⟩])
  (.seq (.seq (.ops [⟨some 22, none, .mv (.t 6)⟩,
    ⟨some 23, none, .bin .lss (.t 22) (.c (.int .i64 0))⟩])
  (.cond (.t 23)
   (.seq (.ops [⟨some 2, none, .mv (.c (.bool false))⟩])
   (.ret))
   (.skip)))
  (.seq (.seq (.ops [⟨some 24, none, .mv (.t 6)⟩,
    ⟨some 25, none, .mv (.t 5)⟩,
    ⟨some 26, none, .bin .neq (.t 24) (.t 25)⟩])
  (.cond (.t 26)
   (.seq (.ops [⟨some 2, none, .mv (.c (.bool false))⟩])
   (.ret))
   (.skip)))
  (.seq (.ops [⟨some 27, none, .mv (.t 0)⟩,
    ⟨some 28, none, .call 42 [.t 27]⟩,
    ⟨some 7, none, .new [.int .i64 0, .int .i64 0, .slice none 0 0, .slice none 0 0]⟩,
    ⟨none, none, .store 4 (.t 7) (.t 28)⟩])
  (.seq (.seq (.ops [⟨some 29, none, .load true 4 (.t 7)⟩,
    ⟨some 30, none, .load true 4 (.t 3)⟩,
    ⟨some 31, none, .call 43 [.t 29, .t 30]⟩,
    ⟨some 32, none, .not (.t 31)⟩])
  (.cond (.t 32)
   (.seq (.ops [⟨some 2, none, .mv (.c (.bool false))⟩])
   (.ret))
   (.skip)))
  (.seq (.ops [⟨some 6, none, .mv (.c (.int .i64 1))⟩])
  (.seq (.ops [⟨some 33, none, .load true 4 (.t 4)⟩,
    ⟨some 34, none, .mv (.t 6)⟩,
    ⟨some 35, none, .call 45 [.t 33, .t 34]⟩,
    ⟨some 6, none, .mv (.t 35)⟩])
  (.seq (.seq (.ops [⟨some 36, none, .mv (.t 6)⟩,
    ⟨some 37, none, .bin .lss (.t 36) (.c (.int .i64 0))⟩])
  (.cond (.t 37)
   (.seq (.ops [⟨some 2, none, .mv (.c (.bool false))⟩])
   (.ret))
   (.skip)))
  (.seq (.seq (.ops [⟨some 38, none, .mv (.t 6)⟩,
    ⟨some 39, none, .mv (.t 5)⟩,
    ⟨some 40, none, .bin .neq (.t 38) (.t 39)⟩])
  (.cond (.t 40)
   (.seq (.ops [⟨some 2, none, .mv (.c (.bool false))⟩])
   (.ret))
   (.skip)))
  (.seq (.ops [⟨some 2, none, .mv (.c (.bool true))⟩])
  (.ret)))))))))))))))))⟩
theorem ok9 : FnOK Try.prog 9 v9 := ⟨⟨Try.f9, _, Try.func9, rfl, by kernel_rfl, rfl, by decide, by kernel_rfl, by kernel_rfl⟩⟩

/-- laws.FnExactNewPool -/
def v10 : VF := ⟨1, 41, [.t 2], true,
  .seq (.ops [⟨some 2, none, .mv (.c (.bool false))⟩])
  (.seq (.ops [⟨some 8, none, .mv (.t 0)⟩,
    ⟨some 9, none, .call 46 [.t 8]⟩,
    ⟨some 3, none, .new [.int .i64 0, .int .i64 0, .int .i64 0, .slice none 0 0, .slice none 0 0, .slice none 0 0]⟩,
    ⟨none, none, .store 6 (.t 3) (.t 9)⟩])
  (.seq (.ops [⟨some 10, none, .mv (.t 0)⟩,
    ⟨some 11, none, .call 47 [.t 10]⟩,
    ⟨some 4, none, .new [.int .i64 0, .int .i64 0, .int .i64 0, .slice none 0 0, .slice none 0 0, .slice none 0 0]⟩,
    ⟨none, none, .store 6 (.t 4) (.t 11)⟩])
  (.seq (.seq (.ops [⟨some 12, none, .load true 6 (.t 4)⟩,
    ⟨some 13, none, .load true 6 (.t 3)⟩,
    ⟨some 14, none, .call 48 [.t 12, .t 13]⟩,
    ⟨some 15, none, .not (.t 14)⟩])
  (.cond (.t 15)
   (.seq (.ops [⟨some 2, none, .mv (.c (.bool false))⟩])
   (.ret))
   (.skip)))
  (.seq (.ops [⟨some 5, none, .mv (.c (.int .i64 1))⟩])
  (.seq (.ops [⟨some 16, none, .load true 6 (.t 4)⟩,
    ⟨some 17, none, .mv (.t 5)⟩,
    ⟨some 18, none, .call 49 [.t 16, .t 17]⟩,
    ⟨some 5, none, .mv (.t 18)⟩])
  (.seq (.ops [⟨some 6, none, .mv (.c (.int .i64 1))⟩])
  (.seq (.ops [⟨some 19, none, .load true 6 (.t 4)⟩,
    ⟨some 20, none, .mv (.t 6)⟩,
    ⟨some 21, none, .call 50 [.t 19, .t 20]⟩,
    ⟨some 6, none, .mv (.t 21)⟩])
  (.seq (.seq (.ops [⟨some 22, none, .mv (.t 6)⟩,
    ⟨some 23, none, .bin .lss (.t 22) (.c (.int .i64 0))⟩])
  (.cond (.t 23)
   (.seq (.ops [⟨some 2, none, .mv (.c (.bool false))⟩])
   (.ret))
   (.skip)))
  (.seq (.seq (.ops [⟨some 24, none, .mv (.t 6)⟩,
    ⟨some 25, none, .mv (.t 5)⟩,
    ⟨some 26, none, .bin .neq (.t 24) (.t 25)⟩])
  (.cond (.t 26)
   (.seq (.ops [⟨some 2, none, .mv (.c (.bool false))⟩])
   (.ret))
   (.skip)))
  (.seq (.ops [⟨some 27, none, .mv (.t 0)⟩,
    ⟨some 28, none, .call 47 [.t 27]⟩,
    ⟨some 7, none, .new [.int .i64 0, .int .i64 0, .int .i64 0, .slice none 0 0, .slice none 0 0, .slice none 0 0]⟩,
    ⟨none, none, .store 6 (.t 7) (.t 28)⟩])
  (.seq (.seq (.ops [⟨some 29, none, .load true 6 (.t 7)⟩,
    ⟨some 30, none, .load true 6 (.t 3)⟩,
    ⟨some 31, none, .call 48 [.t 29, .t 30]⟩,
    ⟨some 32, none, .not (.t 31)⟩])
  (.cond (.t 32)
   (.seq (.ops [⟨some 2, none, .mv (.c (.bool false))⟩])
   (.ret))
   (.skip)))
  (.seq (.ops [⟨some 6, none, .mv (.c (.int .i64 1))⟩])
  (.seq (.ops [⟨some 33, none, .load true 6 (.t 4)⟩,
    ⟨some 34, none, .mv (.t 6)⟩,
    ⟨some 35, none, .call 50 [.t 33, .t 34]⟩,
    ⟨some 6, none, .mv (.t 35)⟩])
  (.seq (.seq (.ops [⟨some 36, none, .mv (.t 6)⟩,
    ⟨some 37, none, .bin .lss (.t 36) (.c (.int .i64 0))⟩])
  (.cond (.t 37)
   (.seq (.ops [⟨some 2, none, .mv (.c (.bool false))⟩])
   (.ret))
   (.skip)))
  (.seq (.seq (.ops [⟨some 38, none, .mv (.t 6)⟩,
    ⟨some 39, none, .mv (.t 5)⟩,
    ⟨some 40, none, .bin .neq (.t 38) (.t 39)⟩])
  (.cond (.t 40)
   (.seq (.ops [⟨some 2, none, .mv (.c (.bool false))⟩])
   (.ret))
   (.skip)))
  (.seq (.ops [⟨some 2, none, .mv (.c (.bool true))⟩])
  (.ret)))))))))))))))))⟩
theorem ok10 : FnOK Try.prog 10 v10 := ⟨⟨Try.f10, _, Try.func10, rfl, by kernel_rfl, rfl, by decide, by kernel_rfl, by kernel_rfl⟩⟩

/-- laws.FnExactForestFault -/
def v11 : VF := ⟨1, 27, [.t 2], true,
  .seq (.ops [⟨some 1, none, .box (.t 0)⟩,
    ⟨some 2, none, .mv (.c (.bool false))⟩])
  (.seq (.ops [⟨some 3, none, .mv (.c (.int .i64 1048576))⟩])
  (.seq (.ops [⟨some 7, none, .load true 2 (.t 1)⟩,
    ⟨some 8, none, .mv (.t 3)⟩,
    ⟨some 9, none, .call 51 [.t 7, .t 8]⟩,
    ⟨some 3, none, .mv (.t 9)⟩])
  (.seq (.seq (.ops [⟨some 10, none, .mv (.t 3)⟩,
    ⟨some 11, none, .bin .lss (.t 10) (.c (.int .i64 0))⟩])
  (.cond (.t 11)
   (.seq (.ops [⟨some 2, none, .mv (.c (.bool true))⟩])
   (.ret))
   (.skip)))
  (.seq (.ops [⟨some 12, none, .load true 2 (.t 1)⟩,
    ⟨some 13, none, .call 53 [.t 12]⟩,
    ⟨some 14, none, .call 52 [.t 13]⟩,
    ⟨some 4, none, .mv (.t 14)⟩])
  (.seq (.ops [⟨some 15, none, .load true 2 (.t 1)⟩,
    ⟨some 16, none, .call 53 [.t 15]⟩,
    ⟨some 5, none, .new [.slice none 0 0, .slice none 0 0]⟩,
    ⟨none, none, .store 2 (.t 5) (.t 16)⟩])
  (.seq (.ops [⟨some 17, none, .load true 2 (.t 5)⟩,
    ⟨some 18, none, .call 54 [.t 17]⟩,
    ⟨some 6, none, .mv (.t 18)⟩])
  (.seq (.seq (.ops [⟨some 19, none, .mv (.t 6)⟩,
    ⟨some 20, none, .mv (.t 4)⟩,
    ⟨some 21, none, .bin .neq (.t 19) (.t 20)⟩])
  (.cond (.t 21)
   (.seq (.ops [⟨some 2, none, .mv (.c (.bool false))⟩])
   (.ret))
   (.skip)))
  (.seq (.seq (.draw [⟨some 22, none, .load true 2 (.t 5)⟩,
    ⟨some 23, none, .load true 2 (.t 1)⟩,
    ⟨some 24, none, .call 53 [.t 23]⟩] [⟨some 25, none, .call 55 [.t 22, .t 24]⟩,
    ⟨some 26, none, .not (.t 25)⟩])
  (.cond (.t 26)
   (.seq (.ops [⟨some 2, none, .mv (.c (.bool false))⟩])
   (.ret))
   (.skip)))
  (.seq (.ops [⟨some 2, none, .mv (.c (.bool true))⟩])
  (.ret))))))))))⟩
theorem ok11 : FnOK Try.prog 11 v11 := ⟨⟨Try.f11, _, Try.func11, rfl, by kernel_rfl, rfl, by decide, by kernel_rfl, by kernel_rfl⟩⟩

/-- laws.FnExactLookTree -/
def v12 : VF := ⟨3, 36, [.t 6], true,
  .seq (.ops [⟨some 3, none, .box (.t 0)⟩,
    ⟨some 6, none, .mv (.c (.bool false))⟩])
  (.seq (.ops [⟨some 7, none, .mv (.c (.int .i64 1048576))⟩])
  (.seq (.ops [⟨some 11, none, .load true 2 (.t 3)⟩,
    ⟨some 12, none, .mv (.t 7)⟩,
    ⟨some 13, none, .call 51 [.t 11, .t 12]⟩,
    ⟨some 7, none, .mv (.t 13)⟩])
  (.seq (.seq (.ops [⟨some 14, none, .mv (.t 7)⟩,
    ⟨some 15, none, .bin .lss (.t 14) (.c (.int .i64 0))⟩])
  (.cond (.t 15)
   (.seq (.ops [⟨some 6, none, .mv (.c (.bool true))⟩])
   (.ret))
   (.skip)))
  (.seq (.ops [⟨some 16, none, .load true 2 (.t 3)⟩,
    ⟨some 17, none, .call 53 [.t 16]⟩,
    ⟨some 18, none, .mv (.t 1)⟩,
    ⟨some 19, none, .mv (.t 2)⟩,
    ⟨some 20, none, .call 56 [.t 17, .t 18, .t 19]⟩,
    ⟨some 8, none, .new [.int .i64 0, .int .i64 0]⟩,
    ⟨none, none, .store 2 (.t 8) (.t 20)⟩])
  (.seq (.ops [⟨some 21, none, .load true 2 (.t 3)⟩,
    ⟨some 22, none, .call 53 [.t 21]⟩,
    ⟨some 9, none, .new [.slice none 0 0, .slice none 0 0]⟩,
    ⟨none, none, .store 2 (.t 9) (.t 22)⟩])
  (.seq (.ops [⟨some 23, none, .load true 2 (.t 9)⟩,
    ⟨some 24, none, .mv (.t 1)⟩,
    ⟨some 25, none, .mv (.t 2)⟩,
    ⟨some 26, none, .call 57 [.t 23, .t 24, .t 25]⟩,
    ⟨some 10, none, .new [.int .i64 0, .int .i64 0]⟩,
    ⟨none, none, .store 2 (.t 10) (.t 26)⟩])
  (.seq (.seq (.ops [⟨some 27, none, .load true 2 (.t 10)⟩,
    ⟨some 28, none, .load true 2 (.t 8)⟩,
    ⟨some 29, none, .call 29 [.t 27, .t 28]⟩,
    ⟨some 30, none, .not (.t 29)⟩])
  (.cond (.t 30)
   (.seq (.ops [⟨some 6, none, .mv (.c (.bool false))⟩])
   (.ret))
   (.skip)))
  (.seq (.seq (.draw [⟨some 31, none, .load true 2 (.t 9)⟩,
    ⟨some 32, none, .load true 2 (.t 3)⟩,
    ⟨some 33, none, .call 53 [.t 32]⟩] [⟨some 34, none, .call 55 [.t 31, .t 33]⟩,
    ⟨some 35, none, .not (.t 34)⟩])
  (.cond (.t 35)
   (.seq (.ops [⟨some 6, none, .mv (.c (.bool false))⟩])
   (.ret))
   (.skip)))
  (.seq (.ops [⟨some 6, none, .mv (.c (.bool true))⟩])
  (.ret))))))))))⟩
theorem ok12 : FnOK Try.prog 12 v12 := ⟨⟨Try.f12, _, Try.func12, rfl, by kernel_rfl, rfl, by decide, by kernel_rfl, by kernel_rfl⟩⟩

/-- laws.FnExactWalkTree -/
def v13 : VF := ⟨2, 74, [.t 4], true,
  .seq (.ops [⟨some 2, none, .box (.t 0)⟩,
    ⟨some 4, none, .mv (.c (.bool false))⟩])
  (.seq (.ops [⟨some 5, none, .mv (.c (.int .i64 1048576))⟩])
  (.seq (.ops [⟨some 13, none, .load true 2 (.t 2)⟩,
    ⟨some 14, none, .mv (.t 5)⟩,
    ⟨some 15, none, .call 51 [.t 13, .t 14]⟩,
    ⟨some 5, none, .mv (.t 15)⟩])
  (.seq (.seq (.ops [⟨some 16, none, .mv (.t 5)⟩,
    ⟨some 17, none, .bin .lss (.t 16) (.c (.int .i64 0))⟩])
  (.cond (.t 17)
   (.seq (.ops [⟨some 4, none, .mv (.c (.bool true))⟩])
   (.ret))
   (.skip)))
  (.seq (.ops [⟨some 18, none, .load true 2 (.t 2)⟩,
    ⟨some 19, none, .call 53 [.t 18]⟩,
    ⟨some 20, none, .mv (.t 1)⟩,
    ⟨some 21, none, .call 58 [.t 19, .t 20]⟩,
    ⟨some 6, none, .new [.int .i64 0, .slice none 0 0]⟩,
    ⟨none, none, .store 2 (.t 6) (.t 21)⟩])
  (.seq (.ops [⟨some 22, none, .load true 2 (.t 2)⟩,
    ⟨some 23, none, .call 53 [.t 22]⟩,
    ⟨some 7, none, .new [.slice none 0 0, .slice none 0 0]⟩,
    ⟨none, none, .store 2 (.t 7) (.t 23)⟩])
  (.seq (.ops [⟨some 24, none, .load true 2 (.t 7)⟩,
    ⟨some 25, none, .mv (.t 1)⟩,
    ⟨some 26, none, .call 59 [.t 24, .t 25]⟩,
    ⟨some 8, none, .new [.int .i64 0, .slice none 0 0]⟩,
    ⟨none, none, .store 2 (.t 8) (.t 26)⟩])
  (.seq (.seq (.ops [⟨some 27, none, .load true 2 (.t 8)⟩,
    ⟨some 28, none, .load true 2 (.t 6)⟩,
    ⟨some 29, none, .call 60 [.t 27, .t 28]⟩,
    ⟨some 30, none, .not (.t 29)⟩])
  (.cond (.t 30)
   (.seq (.ops [⟨some 4, none, .mv (.c (.bool false))⟩])
   (.ret))
   (.skip)))
  (.seq (.seq (.draw [⟨some 31, none, .load true 2 (.t 7)⟩,
    ⟨some 32, none, .load true 2 (.t 2)⟩,
    ⟨some 33, none, .call 53 [.t 32]⟩] [⟨some 34, none, .call 55 [.t 31, .t 33]⟩,
    ⟨some 35, none, .not (.t 34)⟩])
  (.cond (.t 35)
   (.seq (.ops [⟨some 4, none, .mv (.c (.bool false))⟩])
   (.ret))
   (.skip)))
  (.seq (.ops [⟨some 9, none, .mv (.c (.int .i64 1))⟩])
  (.seq (.ops [⟨some 36, none, .load true 2 (.t 7)⟩,
    ⟨some 37, none, .mv (.t 9)⟩,
    ⟨some 38, none, .call 61 [.t 36, .t 37]⟩,
    ⟨some 9, none, .mv (.t 38)⟩])
  (.seq (.seq (.ops [⟨some 39, none, .mv (.t 9)⟩,
    ⟨some 40, none, .bin .lss (.t 39) (.c (.int .i64 0))⟩,
    ⟨some 41, none, .mv (.t 40)⟩,
    ⟨some 42, some (41, false), .load true 2 (.t 8)⟩,
    ⟨some 43, some (41, false), .load true 2 (.t 6)⟩,
    ⟨some 44, some (41, false), .call 60 [.t 42, .t 43]⟩,
    ⟨some 45, some (41, false), .not (.t 44)⟩,
    ⟨some 46, none, .pick (.t 41) (.c (.bool true)) (.t 45)⟩])
  (.cond (.t 46)
   (.seq (.ops [⟨some 4, none, .mv (.c (.bool false))⟩])
   (.ret))
   (.skip)))
  (.seq (.ops [⟨some 10, none, .mv (.c (.int .i64 1))⟩])
  (.seq (.ops [⟨some 47, none, .load true 2 (.t 8)⟩,
    ⟨some 48, none, .mv (.t 10)⟩,
    ⟨some 49, none, .call 62 [.t 47, .t 48]⟩,
    ⟨some 10, none, .mv (.t 49)⟩])
  (.seq (.ops [⟨some 11, none, .mv (.c (.int .i64 1))⟩])
  (.seq (.ops [⟨some 50, none, .load true 2 (.t 8)⟩,
    ⟨some 51, none, .mv (.t 11)⟩,
    ⟨some 52, none, .call 63 [.t 50, .t 51]⟩,
    ⟨some 11, none, .mv (.t 52)⟩])
  (.seq (.seq (.ops [⟨some 53, none, .mv (.t 11)⟩,
    ⟨some 54, none, .bin .lss (.t 53) (.c (.int .i64 0))⟩])
  (.cond (.t 54)
   (.seq (.ops [⟨some 4, none, .mv (.c (.bool false))⟩])
   (.ret))
   (.skip)))
  (.seq (.seq (.ops [⟨some 55, none, .mv (.t 11)⟩,
    ⟨some 56, none, .mv (.t 10)⟩,
    ⟨some 57, none, .bin .neq (.t 55) (.t 56)⟩])
  (.cond (.t 57)
   (.seq (.ops [⟨some 4, none, .mv (.c (.bool false))⟩])
   (.ret))
   (.skip)))
  (.seq (.ops [⟨some 58, none, .load true 2 (.t 2)⟩,
    ⟨some 59, none, .call 53 [.t 58]⟩,
    ⟨some 60, none, .mv (.t 1)⟩,
    ⟨some 61, none, .call 59 [.t 59, .t 60]⟩,
    ⟨some 12, none, .new [.int .i64 0, .slice none 0 0]⟩,
    ⟨none, none, .store 2 (.t 12) (.t 61)⟩])
  (.seq (.seq (.ops [⟨some 62, none, .load true 2 (.t 12)⟩,
    ⟨some 63, none, .load true 2 (.t 6)⟩,
    ⟨some 64, none, .call 60 [.t 62, .t 63]⟩,
    ⟨some 65, none, .not (.t 64)⟩])
  (.cond (.t 65)
   (.seq (.ops [⟨some 4, none, .mv (.c (.bool false))⟩])
   (.ret))
   (.skip)))
  (.seq (.ops [⟨some 11, none, .mv (.c (.int .i64 1))⟩])
  (.seq (.ops [⟨some 66, none, .load true 2 (.t 8)⟩,
    ⟨some 67, none, .mv (.t 11)⟩,
    ⟨some 68, none, .call 63 [.t 66, .t 67]⟩,
    ⟨some 11, none, .mv (.t 68)⟩])
  (.seq (.seq (.ops [⟨some 69, none, .mv (.t 11)⟩,
    ⟨some 70, none, .bin .lss (.t 69) (.c (.int .i64 0))⟩])
  (.cond (.t 70)
   (.seq (.ops [⟨some 4, none, .mv (.c (.bool false))⟩])
   (.ret))
   (.skip)))
  (.seq (.seq (.ops [⟨some 71, none, .mv (.t 11)⟩,
    ⟨some 72, none, .mv (.t 10)⟩,
    ⟨some 73, none, .bin .neq (.t 71) (.t 72)⟩])
  (.cond (.t 73)
   (.seq (.ops [⟨some 4, none, .mv (.c (.bool false))⟩])
   (.ret))
   (.skip)))
  (.seq (.ops [⟨some 4, none, .mv (.c (.bool true))⟩])
  (.ret)))))))))))))))))))))))))⟩
theorem ok13 : FnOK Try.prog 13 v13 := ⟨⟨Try.f13, _, Try.func13, rfl, by kernel_rfl, rfl, by decide, by kernel_rfl, by kernel_rfl⟩⟩

/-- laws.FnExactShareTree -/
def v14 : VF := ⟨2, 74, [.t 4], true,
  .seq (.ops [⟨some 2, none, .box (.t 0)⟩,
    ⟨some 4, none, .mv (.c (.bool false))⟩])
  (.seq (.ops [⟨some 5, none, .mv (.c (.int .i64 1048576))⟩])
  (.seq (.ops [⟨some 13, none, .load true 2 (.t 2)⟩,
    ⟨some 14, none, .mv (.t 5)⟩,
    ⟨some 15, none, .call 51 [.t 13, .t 14]⟩,
    ⟨some 5, none, .mv (.t 15)⟩])
  (.seq (.seq (.ops [⟨some 16, none, .mv (.t 5)⟩,
    ⟨some 17, none, .bin .lss (.t 16) (.c (.int .i64 0))⟩])
  (.cond (.t 17)
   (.seq (.ops [⟨some 4, none, .mv (.c (.bool true))⟩])
   (.ret))
   (.skip)))
  (.seq (.ops [⟨some 18, none, .load true 2 (.t 2)⟩,
    ⟨some 19, none, .call 53 [.t 18]⟩,
    ⟨some 20, none, .mv (.t 1)⟩,
    ⟨some 21, none, .call 64 [.t 19, .t 20]⟩,
    ⟨some 6, none, .new [.int .i64 0, .int .i64 0, .slice none 0 0, .slice none 0 0]⟩,
    ⟨none, none, .store 4 (.t 6) (.t 21)⟩])
  (.seq (.ops [⟨some 22, none, .load true 2 (.t 2)⟩,
    ⟨some 23, none, .call 53 [.t 22]⟩,
    ⟨some 7, none, .new [.slice none 0 0, .slice none 0 0]⟩,
    ⟨none, none, .store 2 (.t 7) (.t 23)⟩])
  (.seq (.ops [⟨some 24, none, .load true 2 (.t 7)⟩,
    ⟨some 25, none, .mv (.t 1)⟩,
    ⟨some 26, none, .call 65 [.t 24, .t 25]⟩,
    ⟨some 8, none, .new [.int .i64 0, .int .i64 0, .slice none 0 0, .slice none 0 0]⟩,
    ⟨none, none, .store 4 (.t 8) (.t 26)⟩])
  (.seq (.seq (.ops [⟨some 27, none, .load true 4 (.t 8)⟩,
    ⟨some 28, none, .load true 4 (.t 6)⟩,
    ⟨some 29, none, .call 43 [.t 27, .t 28]⟩,
    ⟨some 30, none, .not (.t 29)⟩])
  (.cond (.t 30)
   (.seq (.ops [⟨some 4, none, .mv (.c (.bool false))⟩])
   (.ret))
   (.skip)))
  (.seq (.seq (.draw [⟨some 31, none, .load true 2 (.t 7)⟩,
    ⟨some 32, none, .load true 2 (.t 2)⟩,
    ⟨some 33, none, .call 53 [.t 32]⟩] [⟨some 34, none, .call 55 [.t 31, .t 33]⟩,
    ⟨some 35, none, .not (.t 34)⟩])
  (.cond (.t 35)
   (.seq (.ops [⟨some 4, none, .mv (.c (.bool false))⟩])
   (.ret))
   (.skip)))
  (.seq (.ops [⟨some 9, none, .mv (.c (.int .i64 1))⟩])
  (.seq (.ops [⟨some 36, none, .load true 2 (.t 7)⟩,
    ⟨some 37, none, .mv (.t 9)⟩,
    ⟨some 38, none, .call 61 [.t 36, .t 37]⟩,
    ⟨some 9, none, .mv (.t 38)⟩])
  (.seq (.seq (.ops [⟨some 39, none, .mv (.t 9)⟩,
    ⟨some 40, none, .bin .lss (.t 39) (.c (.int .i64 0))⟩,
    ⟨some 41, none, .mv (.t 40)⟩,
    ⟨some 42, some (41, false), .load true 4 (.t 8)⟩,
    ⟨some 43, some (41, false), .load true 4 (.t 6)⟩,
    ⟨some 44, some (41, false), .call 43 [.t 42, .t 43]⟩,
    ⟨some 45, some (41, false), .not (.t 44)⟩,
    ⟨some 46, none, .pick (.t 41) (.c (.bool true)) (.t 45)⟩])
  (.cond (.t 46)
   (.seq (.ops [⟨some 4, none, .mv (.c (.bool false))⟩])
   (.ret))
   (.skip)))
  (.seq (.ops [⟨some 10, none, .mv (.c (.int .i64 1))⟩])
  (.seq (.ops [⟨some 47, none, .load true 4 (.t 8)⟩,
    ⟨some 48, none, .mv (.t 10)⟩,
    ⟨some 49, none, .call 44 [.t 47, .t 48]⟩,
    ⟨some 10, none, .mv (.t 49)⟩])
  (.seq (.ops [⟨some 11, none, .mv (.c (.int .i64 1))⟩])
  (.seq (.ops [⟨some 50, none, .load true 4 (.t 8)⟩,
    ⟨some 51, none, .mv (.t 11)⟩,
    ⟨some 52, none, .call 45 [.t 50, .t 51]⟩,
    ⟨some 11, none, .mv (.t 52)⟩])
  (.seq (.seq (.ops [⟨some 53, none, .mv (.t 11)⟩,
    ⟨some 54, none, .bin .lss (.t 53) (.c (.int .i64 0))⟩])
  (.cond (.t 54)
   (.seq (.ops [⟨some 4, none, .mv (.c (.bool false))⟩])
   (.ret))
   (.skip)))
  (.seq (.seq (.ops [⟨some 55, none, .mv (.t 11)⟩,
    ⟨some 56, none, .mv (.t 10)⟩,
    ⟨some 57, none, .bin .neq (.t 55) (.t 56)⟩])
  (.cond (.t 57)
   (.seq (.ops [⟨some 4, none, .mv (.c (.bool false))⟩])
   (.ret))
   (.skip)))
  (.seq (.ops [⟨some 58, none, .load true 2 (.t 2)⟩,
    ⟨some 59, none, .call 53 [.t 58]⟩,
    ⟨some 60, none, .mv (.t 1)⟩,
    ⟨some 61, none, .call 65 [.t 59, .t 60]⟩,
    ⟨some 12, none, .new [.int .i64 0, .int .i64 0, .slice none 0 0, .slice none 0 0]⟩,
    ⟨none, none, .store 4 (.t 12) (.t 61)⟩])
  (.seq (.seq (.ops [⟨some 62, none, .load true 4 (.t 12)⟩,
    ⟨some 63, none, .load true 4 (.t 6)⟩,
    ⟨some 64, none, .call 43 [.t 62, .t 63]⟩,
    ⟨some 65, none, .not (.t 64)⟩])
  (.cond (.t 65)
   (.seq (.ops [⟨some 4, none, .mv (.c (.bool false))⟩])
   (.ret))
   (.skip)))
  (.seq (.ops [⟨some 11, none, .mv (.c (.int .i64 1))⟩])
  (.seq (.ops [⟨some 66, none, .load true 4 (.t 8)⟩,
    ⟨some 67, none, .mv (.t 11)⟩,
    ⟨some 68, none, .call 45 [.t 66, .t 67]⟩,
    ⟨some 11, none, .mv (.t 68)⟩])
  (.seq (.seq (.ops [⟨some 69, none, .mv (.t 11)⟩,
    ⟨some 70, none, .bin .lss (.t 69) (.c (.int .i64 0))⟩])
  (.cond (.t 70)
   (.seq (.ops [⟨some 4, none, .mv (.c (.bool false))⟩])
   (.ret))
   (.skip)))
  (.seq (.seq (.ops [⟨some 71, none, .mv (.t 11)⟩,
    ⟨some 72, none, .mv (.t 10)⟩,
    ⟨some 73, none, .bin .neq (.t 71) (.t 72)⟩])
  (.cond (.t 73)
   (.seq (.ops [⟨some 4, none, .mv (.c (.bool false))⟩])
   (.ret))
   (.skip)))
  (.seq (.ops [⟨some 4, none, .mv (.c (.bool true))⟩])
  (.ret)))))))))))))))))))))))))⟩
theorem ok14 : FnOK Try.prog 14 v14 := ⟨⟨Try.f14, _, Try.func14, rfl, by kernel_rfl, rfl, by decide, by kernel_rfl, by kernel_rfl⟩⟩

/-- laws.FnExactDropTree -/
def v15 : VF := ⟨2, 74, [.t 4], true,
  .seq (.ops [⟨some 2, none, .box (.t 0)⟩,
    ⟨some 4, none, .mv (.c (.bool false))⟩])
  (.seq (.ops [⟨some 5, none, .mv (.c (.int .i64 1048576))⟩])
  (.seq (.ops [⟨some 13, none, .load true 2 (.t 2)⟩,
    ⟨some 14, none, .mv (.t 5)⟩,
    ⟨some 15, none, .call 51 [.t 13, .t 14]⟩,
    ⟨some 5, none, .mv (.t 15)⟩])
  (.seq (.seq (.ops [⟨some 16, none, .mv (.t 5)⟩,
    ⟨some 17, none, .bin .lss (.t 16) (.c (.int .i64 0))⟩])
  (.cond (.t 17)
   (.seq (.ops [⟨some 4, none, .mv (.c (.bool true))⟩])
   (.ret))
   (.skip)))
  (.seq (.ops [⟨some 18, none, .load true 2 (.t 2)⟩,
    ⟨some 19, none, .call 53 [.t 18]⟩,
    ⟨some 20, none, .mv (.t 1)⟩,
    ⟨some 21, none, .call 66 [.t 19, .t 20]⟩,
    ⟨some 6, none, .new [.int .i64 0, .int .i64 0, .slice none 0 0, .slice none 0 0]⟩,
    ⟨none, none, .store 4 (.t 6) (.t 21)⟩])
  (.seq (.ops [⟨some 22, none, .load true 2 (.t 2)⟩,
    ⟨some 23, none, .call 53 [.t 22]⟩,
    ⟨some 7, none, .new [.slice none 0 0, .slice none 0 0]⟩,
    ⟨none, none, .store 2 (.t 7) (.t 23)⟩])
  (.seq (.ops [⟨some 24, none, .load true 2 (.t 7)⟩,
    ⟨some 25, none, .mv (.t 1)⟩,
    ⟨some 26, none, .call 67 [.t 24, .t 25]⟩,
    ⟨some 8, none, .new [.int .i64 0, .int .i64 0, .slice none 0 0, .slice none 0 0]⟩,
    ⟨none, none, .store 4 (.t 8) (.t 26)⟩])
  (.seq (.seq (.ops [⟨some 27, none, .load true 4 (.t 8)⟩,
    ⟨some 28, none, .load true 4 (.t 6)⟩,
    ⟨some 29, none, .call 43 [.t 27, .t 28]⟩,
    ⟨some 30, none, .not (.t 29)⟩])
  (.cond (.t 30)
   (.seq (.ops [⟨some 4, none, .mv (.c (.bool false))⟩])
   (.ret))
   (.skip)))
  (.seq (.seq (.draw [⟨some 31, none, .load true 2 (.t 7)⟩,
    ⟨some 32, none, .load true 2 (.t 2)⟩,
    ⟨some 33, none, .call 53 [.t 32]⟩] [⟨some 34, none, .call 55 [.t 31, .t 33]⟩,
    ⟨some 35, none, .not (.t 34)⟩])
  (.cond (.t 35)
   (.seq (.ops [⟨some 4, none, .mv (.c (.bool false))⟩])
   (.ret))
   (.skip)))
  (.seq (.ops [⟨some 9, none, .mv (.c (.int .i64 1))⟩])
  (.seq (.ops [⟨some 36, none, .load true 2 (.t 7)⟩,
    ⟨some 37, none, .mv (.t 9)⟩,
    ⟨some 38, none, .call 61 [.t 36, .t 37]⟩,
    ⟨some 9, none, .mv (.t 38)⟩])
  (.seq (.seq (.ops [⟨some 39, none, .mv (.t 9)⟩,
    ⟨some 40, none, .bin .lss (.t 39) (.c (.int .i64 0))⟩,
    ⟨some 41, none, .mv (.t 40)⟩,
    ⟨some 42, some (41, false), .load true 4 (.t 8)⟩,
    ⟨some 43, some (41, false), .load true 4 (.t 6)⟩,
    ⟨some 44, some (41, false), .call 43 [.t 42, .t 43]⟩,
    ⟨some 45, some (41, false), .not (.t 44)⟩,
    ⟨some 46, none, .pick (.t 41) (.c (.bool true)) (.t 45)⟩])
  (.cond (.t 46)
   (.seq (.ops [⟨some 4, none, .mv (.c (.bool false))⟩])
   (.ret))
   (.skip)))
  (.seq (.ops [⟨some 10, none, .mv (.c (.int .i64 1))⟩])
  (.seq (.ops [⟨some 47, none, .load true 4 (.t 8)⟩,
    ⟨some 48, none, .mv (.t 10)⟩,
    ⟨some 49, none, .call 44 [.t 47, .t 48]⟩,
    ⟨some 10, none, .mv (.t 49)⟩])
  (.seq (.ops [⟨some 11, none, .mv (.c (.int .i64 1))⟩])
  (.seq (.ops [⟨some 50, none, .load true 4 (.t 8)⟩,
    ⟨some 51, none, .mv (.t 11)⟩,
    ⟨some 52, none, .call 45 [.t 50, .t 51]⟩,
    ⟨some 11, none, .mv (.t 52)⟩])
  (.seq (.seq (.ops [⟨some 53, none, .mv (.t 11)⟩,
    ⟨some 54, none, .bin .lss (.t 53) (.c (.int .i64 0))⟩])
  (.cond (.t 54)
   (.seq (.ops [⟨some 4, none, .mv (.c (.bool false))⟩])
   (.ret))
   (.skip)))
  (.seq (.seq (.ops [⟨some 55, none, .mv (.t 11)⟩,
    ⟨some 56, none, .mv (.t 10)⟩,
    ⟨some 57, none, .bin .neq (.t 55) (.t 56)⟩])
  (.cond (.t 57)
   (.seq (.ops [⟨some 4, none, .mv (.c (.bool false))⟩])
   (.ret))
   (.skip)))
  (.seq (.ops [⟨some 58, none, .load true 2 (.t 2)⟩,
    ⟨some 59, none, .call 53 [.t 58]⟩,
    ⟨some 60, none, .mv (.t 1)⟩,
    ⟨some 61, none, .call 67 [.t 59, .t 60]⟩,
    ⟨some 12, none, .new [.int .i64 0, .int .i64 0, .slice none 0 0, .slice none 0 0]⟩,
    ⟨none, none, .store 4 (.t 12) (.t 61)⟩])
  (.seq (.seq (.ops [⟨some 62, none, .load true 4 (.t 12)⟩,
    ⟨some 63, none, .load true 4 (.t 6)⟩,
    ⟨some 64, none, .call 43 [.t 62, .t 63]⟩,
    ⟨some 65, none, .not (.t 64)⟩])
  (.cond (.t 65)
   (.seq (.ops [⟨some 4, none, .mv (.c (.bool false))⟩])
   (.ret))
   (.skip)))
  (.seq (.ops [⟨some 11, none, .mv (.c (.int .i64 1))⟩])
  (.seq (.ops [⟨some 66, none, .load true 4 (.t 8)⟩,
    ⟨some 67, none, .mv (.t 11)⟩,
    ⟨some 68, none, .call 45 [.t 66, .t 67]⟩,
    ⟨some 11, none, .mv (.t 68)⟩])
  (.seq (.seq (.ops [⟨some 69, none, .mv (.t 11)⟩,
    ⟨some 70, none, .bin .lss (.t 69) (.c (.int .i64 0))⟩])
  (.cond (.t 70)
   (.seq (.ops [⟨some 4, none, .mv (.c (.bool false))⟩])
   (.ret))
   (.skip)))
  (.seq (.seq (.ops [⟨some 71, none, .mv (.t 11)⟩,
    ⟨some 72, none, .mv (.t 10)⟩,
    ⟨some 73, none, .bin .neq (.t 71) (.t 72)⟩])
  (.cond (.t 73)
   (.seq (.ops [⟨some 4, none, .mv (.c (.bool false))⟩])
   (.ret))
   (.skip)))
  (.seq (.ops [⟨some 4, none, .mv (.c (.bool true))⟩])
  (.ret)))))))))))))))))))))))))⟩
theorem ok15 : FnOK Try.prog 15 v15 := ⟨⟨Try.f15, _, Try.func15, rfl, by kernel_rfl, rfl, by decide, by kernel_rfl, by kernel_rfl⟩⟩

/-- laws.FnExactClearTree -/
def v16 : VF := ⟨3, 79, [.t 6], true,
  .seq (.ops [⟨some 3, none, .box (.t 0)⟩,
    ⟨some 6, none, .mv (.c (.bool false))⟩])
  (.seq (.ops [⟨some 7, none, .mv (.c (.int .i64 1048576))⟩])
  (.seq (.ops [⟨some 15, none, .load true 2 (.t 3)⟩,
    ⟨some 16, none, .mv (.t 7)⟩,
    ⟨some 17, none, .call 51 [.t 15, .t 16]⟩,
    ⟨some 7, none, .mv (.t 17)⟩])
  (.seq (.seq (.ops [⟨some 18, none, .mv (.t 7)⟩,
    ⟨some 19, none, .bin .lss (.t 18) (.c (.int .i64 0))⟩])
  (.cond (.t 19)
   (.seq (.ops [⟨some 6, none, .mv (.c (.bool true))⟩])
   (.ret))
   (.skip)))
  (.seq (.ops [⟨some 20, none, .load true 2 (.t 3)⟩,
    ⟨some 21, none, .call 53 [.t 20]⟩,
    ⟨some 22, none, .mv (.t 1)⟩,
    ⟨some 23, none, .mv (.t 2)⟩,
    ⟨some 24, none, .call 68 [.t 21, .t 22, .t 23]⟩,
    ⟨some 8, none, .new [.int .i64 0, .int .i64 0, .slice none 0 0, .slice none 0 0]⟩,
    ⟨none, none, .store 4 (.t 8) (.t 24)⟩])
  (.seq (.ops [⟨some 25, none, .load true 2 (.t 3)⟩,
    ⟨some 26, none, .call 53 [.t 25]⟩,
    ⟨some 9, none, .new [.slice none 0 0, .slice none 0 0]⟩,
    ⟨none, none, .store 2 (.t 9) (.t 26)⟩])
  (.seq (.ops [⟨some 27, none, .load true 2 (.t 9)⟩,
    ⟨some 28, none, .mv (.t 1)⟩,
    ⟨some 29, none, .mv (.t 2)⟩,
    ⟨some 30, none, .call 69 [.t 27, .t 28, .t 29]⟩,
    ⟨some 10, none, .new [.int .i64 0, .int .i64 0, .slice none 0 0, .slice none 0 0]⟩,
    ⟨none, none, .store 4 (.t 10) (.t 30)⟩])
  (.seq (.seq (.ops [⟨some 31, none, .load true 4 (.t 10)⟩,
    ⟨some 32, none, .load true 4 (.t 8)⟩,
    ⟨some 33, none, .call 43 [.t 31, .t 32]⟩,
    ⟨some 34, none, .not (.t 33)⟩])
  (.cond (.t 34)
   (.seq (.ops [⟨some 6, none, .mv (.c (.bool false))⟩])
   (.ret))
   (.skip)))
  (.seq (.seq (.draw [⟨some 35, none, .load true 2 (.t 9)⟩,
    ⟨some 36, none, .load true 2 (.t 3)⟩,
    ⟨some 37, none, .call 53 [.t 36]⟩] [⟨some 38, none, .call 55 [.t 35, .t 37]⟩,
    ⟨some 39, none, .not (.t 38)⟩])
  (.cond (.t 39)
   (.seq (.ops [⟨some 6, none, .mv (.c (.bool false))⟩])
   (.ret))
   (.skip)))
  (.seq (.ops [⟨some 11, none, .mv (.c (.int .i64 1))⟩])
  (.seq (.ops [⟨some 40, none, .load true 2 (.t 9)⟩,
    ⟨some 41, none, .mv (.t 11)⟩,
    ⟨some 42, none, .call 61 [.t 40, .t 41]⟩,
    ⟨some 11, none, .mv (.t 42)⟩])
  (.seq (.seq (.ops [⟨some 43, none, .mv (.t 11)⟩,
    ⟨some 44, none, .bin .lss (.t 43) (.c (.int .i64 0))⟩,
    ⟨some 45, none, .mv (.t 44)⟩,
    ⟨some 46, some (45, false), .load true 4 (.t 10)⟩,
    ⟨some 47, some (45, false), .load true 4 (.t 8)⟩,
    ⟨some 48, some (45, false), .call 43 [.t 46, .t 47]⟩,
    ⟨some 49, some (45, false), .not (.t 48)⟩,
    ⟨some 50, none, .pick (.t 45) (.c (.bool true)) (.t 49)⟩])
  (.cond (.t 50)
   (.seq (.ops [⟨some 6, none, .mv (.c (.bool false))⟩])
   (.ret))
   (.skip)))
  (.seq (.ops [⟨some 12, none, .mv (.c (.int .i64 1))⟩])
  (.seq (.ops [⟨some 51, none, .load true 4 (.t 10)⟩,
    ⟨some 52, none, .mv (.t 12)⟩,
    ⟨some 53, none, .call 44 [.t 51, .t 52]⟩,
    ⟨some 12, none, .mv (.t 53)⟩])
  (.seq (.ops [⟨some 13, none, .mv (.c (.int .i64 1))⟩])
  (.seq (.ops [⟨some 54, none, .load true 4 (.t 10)⟩,
    ⟨some 55, none, .mv (.t 13)⟩,
    ⟨some 56, none, .call 45 [.t 54, .t 55]⟩,
    ⟨some 13, none, .mv (.t 56)⟩])
  (.seq (.seq (.ops [⟨some 57, none, .mv (.t 13)⟩,
    ⟨some 58, none, .bin .lss (.t 57) (.c (.int .i64 0))⟩])
  (.cond (.t 58)
   (.seq (.ops [⟨some 6, none, .mv (.c (.bool false))⟩])
   (.ret))
   (.skip)))
  (.seq (.seq (.ops [⟨some 59, none, .mv (.t 13)⟩,
    ⟨some 60, none, .mv (.t 12)⟩,
    ⟨some 61, none, .bin .neq (.t 59) (.t 60)⟩])
  (.cond (.t 61)
   (.seq (.ops [⟨some 6, none, .mv (.c (.bool false))⟩])
   (.ret))
   (.skip)))
  (.seq (.ops [⟨some 62, none, .load true 2 (.t 3)⟩,
    ⟨some 63, none, .call 53 [.t 62]⟩,
    ⟨some 64, none, .mv (.t 1)⟩,
    ⟨some 65, none, .mv (.t 2)⟩,
    ⟨some 66, none, .call 69 [.t 63, .t 64, .t 65]⟩,
    ⟨some 14, none, .new [.int .i64 0, .int .i64 0, .slice none 0 0, .slice none 0 0]⟩,
    ⟨none, none, .store 4 (.t 14) (.t 66)⟩])
  (.seq (.seq (.ops [⟨some 67, none, .load true 4 (.t 14)⟩,
    ⟨some 68, none, .load true 4 (.t 8)⟩,
    ⟨some 69, none, .call 43 [.t 67, .t 68]⟩,
    ⟨some 70, none, .not (.t 69)⟩])
  (.cond (.t 70)
   (.seq (.ops [⟨some 6, none, .mv (.c (.bool false))⟩])
   (.ret))
   (.skip)))
  (.seq (.ops [⟨some 13, none, .mv (.c (.int .i64 1))⟩])
  (.seq (.ops [⟨some 71, none, .load true 4 (.t 10)⟩,
    ⟨some 72, none, .mv (.t 13)⟩,
    ⟨some 73, none, .call 45 [.t 71, .t 72]⟩,
    ⟨some 13, none, .mv (.t 73)⟩])
  (.seq (.seq (.ops [⟨some 74, none, .mv (.t 13)⟩,
    ⟨some 75, none, .bin .lss (.t 74) (.c (.int .i64 0))⟩])
  (.cond (.t 75)
   (.seq (.ops [⟨some 6, none, .mv (.c (.bool false))⟩])
   (.ret))
   (.skip)))
  (.seq (.seq (.ops [⟨some 76, none, .mv (.t 13)⟩,
    ⟨some 77, none, .mv (.t 12)⟩,
    ⟨some 78, none, .bin .neq (.t 76) (.t 77)⟩])
  (.cond (.t 78)
   (.seq (.ops [⟨some 6, none, .mv (.c (.bool false))⟩])
   (.ret))
   (.skip)))
  (.seq (.ops [⟨some 6, none, .mv (.c (.bool true))⟩])
  (.ret)))))))))))))))))))))))))⟩
theorem ok16 : FnOK Try.prog 16 v16 := ⟨⟨Try.f16, _, Try.func16, rfl, by kernel_rfl, rfl, by decide, by kernel_rfl, by kernel_rfl⟩⟩

/-- laws.FnExactSetTree -/
def v17 : VF := ⟨4, 84, [.t 8], true,
  .seq (.ops [⟨some 4, none, .box (.t 0)⟩,
    ⟨some 8, none, .mv (.c (.bool false))⟩])
  (.seq (.ops [⟨some 9, none, .mv (.c (.int .i64 1048576))⟩])
  (.seq (.ops [⟨some 17, none, .load true 2 (.t 4)⟩,
    ⟨some 18, none, .mv (.t 9)⟩,
    ⟨some 19, none, .call 51 [.t 17, .t 18]⟩,
    ⟨some 9, none, .mv (.t 19)⟩])
  (.seq (.seq (.ops [⟨some 20, none, .mv (.t 9)⟩,
    ⟨some 21, none, .bin .lss (.t 20) (.c (.int .i64 0))⟩])
  (.cond (.t 21)
   (.seq (.ops [⟨some 8, none, .mv (.c (.bool true))⟩])
   (.ret))
   (.skip)))
  (.seq (.ops [⟨some 22, none, .load true 2 (.t 4)⟩,
    ⟨some 23, none, .call 53 [.t 22]⟩,
    ⟨some 24, none, .mv (.t 1)⟩,
    ⟨some 25, none, .mv (.t 2)⟩,
    ⟨some 26, none, .mv (.t 3)⟩,
    ⟨some 27, none, .call 70 [.t 23, .t 24, .t 25, .t 26]⟩,
    ⟨some 10, none, .new [.int .i64 0, .int .i64 0, .slice none 0 0, .slice none 0 0]⟩,
    ⟨none, none, .store 4 (.t 10) (.t 27)⟩])
  (.seq (.ops [⟨some 28, none, .load true 2 (.t 4)⟩,
    ⟨some 29, none, .call 53 [.t 28]⟩,
    ⟨some 11, none, .new [.slice none 0 0, .slice none 0 0]⟩,
    ⟨none, none, .store 2 (.t 11) (.t 29)⟩])
  (.seq (.ops [⟨some 30, none, .load true 2 (.t 11)⟩,
    ⟨some 31, none, .mv (.t 1)⟩,
    ⟨some 32, none, .mv (.t 2)⟩,
    ⟨some 33, none, .mv (.t 3)⟩,
    ⟨some 34, none, .call 71 [.t 30, .t 31, .t 32, .t 33]⟩,
    ⟨some 12, none, .new [.int .i64 0, .int .i64 0, .slice none 0 0, .slice none 0 0]⟩,
    ⟨none, none, .store 4 (.t 12) (.t 34)⟩])
  (.seq (.seq (.ops [⟨some 35, none, .load true 4 (.t 12)⟩,
    ⟨some 36, none, .load true 4 (.t 10)⟩,
    ⟨some 37, none, .call 43 [.t 35, .t 36]⟩,
    ⟨some 38, none, .not (.t 37)⟩])
  (.cond (.t 38)
   (.seq (.ops [⟨some 8, none, .mv (.c (.bool false))⟩])
   (.ret))
   (.skip)))
  (.seq (.seq (.draw [⟨some 39, none, .load true 2 (.t 11)⟩,
    ⟨some 40, none, .load true 2 (.t 4)⟩,
    ⟨some 41, none, .call 53 [.t 40]⟩] [⟨some 42, none, .call 55 [.t 39, .t 41]⟩,
    ⟨some 43, none, .not (.t 42)⟩])
  (.cond (.t 43)
   (.seq (.ops [⟨some 8, none, .mv (.c (.bool false))⟩])
   (.ret))
   (.skip)))
  (.seq (.ops [⟨some 13, none, .mv (.c (.int .i64 1))⟩])
  (.seq (.ops [⟨some 44, none, .load true 2 (.t 11)⟩,
    ⟨some 45, none, .mv (.t 13)⟩,
    ⟨some 46, none, .call 61 [.t 44, .t 45]⟩,
    ⟨some 13, none, .mv (.t 46)⟩])
  (.seq (.seq (.ops [⟨some 47, none, .mv (.t 13)⟩,
    ⟨some 48, none, .bin .lss (.t 47) (.c (.int .i64 0))⟩,
    ⟨some 49, none, .mv (.t 48)⟩,
    ⟨some 50, some (49, false), .load true 4 (.t 12)⟩,
    ⟨some 51, some (49, false), .load true 4 (.t 10)⟩,
    ⟨some 52, some (49, false), .call 43 [.t 50, .t 51]⟩,
    ⟨some 53, some (49, false), .not (.t 52)⟩,
    ⟨some 54, none, .pick (.t 49) (.c (.bool true)) (.t 53)⟩])
  (.cond (.t 54)
   (.seq (.ops [⟨some 8, none, .mv (.c (.bool false))⟩])
   (.ret))
   (.skip)))
  (.seq (.ops [⟨some 14, none, .mv (.c (.int .i64 1))⟩])
  (.seq (.ops [⟨some 55, none, .load true 4 (.t 12)⟩,
    ⟨some 56, none, .mv (.t 14)⟩,
    ⟨some 57, none, .call 44 [.t 55, .t 56]⟩,
    ⟨some 14, none, .mv (.t 57)⟩])
  (.seq (.ops [⟨some 15, none, .mv (.c (.int .i64 1))⟩])
  (.seq (.ops [⟨some 58, none, .load true 4 (.t 12)⟩,
    ⟨some 59, none, .mv (.t 15)⟩,
    ⟨some 60, none, .call 45 [.t 58, .t 59]⟩,
    ⟨some 15, none, .mv (.t 60)⟩])
  (.seq (.seq (.ops [⟨some 61, none, .mv (.t 15)⟩,
    ⟨some 62, none, .bin .lss (.t 61) (.c (.int .i64 0))⟩])
  (.cond (.t 62)
   (.seq (.ops [⟨some 8, none, .mv (.c (.bool false))⟩])
   (.ret))
   (.skip)))
  (.seq (.seq (.ops [⟨some 63, none, .mv (.t 15)⟩,
    ⟨some 64, none, .mv (.t 14)⟩,
    ⟨some 65, none, .bin .neq (.t 63) (.t 64)⟩])
  (.cond (.t 65)
   (.seq (.ops [⟨some 8, none, .mv (.c (.bool false))⟩])
   (.ret))
   (.skip)))
  (.seq (.ops [⟨some 66, none, .load true 2 (.t 4)⟩,
    ⟨some 67, none, .call 53 [.t 66]⟩,
    ⟨some 68, none, .mv (.t 1)⟩,
    ⟨some 69, none, .mv (.t 2)⟩,
    ⟨some 70, none, .mv (.t 3)⟩,
    ⟨some 71, none, .call 71 [.t 67, .t 68, .t 69, .t 70]⟩,
    ⟨some 16, none, .new [.int .i64 0, .int .i64 0, .slice none 0 0, .slice none 0 0]⟩,
    ⟨none, none, .store 4 (.t 16) (.t 71)⟩])
  (.seq (.seq (.ops [⟨some 72, none, .load true 4 (.t 16)⟩,
    ⟨some 73, none, .load true 4 (.t 10)⟩,
    ⟨some 74, none, .call 43 [.t 72, .t 73]⟩,
    ⟨some 75, none, .not (.t 74)⟩])
  (.cond (.t 75)
   (.seq (.ops [⟨some 8, none, .mv (.c (.bool false))⟩])
   (.ret))
   (.skip)))
  (.seq (.ops [⟨some 15, none, .mv (.c (.int .i64 1))⟩])
  (.seq (.ops [⟨some 76, none, .load true 4 (.t 12)⟩,
    ⟨some 77, none, .mv (.t 15)⟩,
    ⟨some 78, none, .call 45 [.t 76, .t 77]⟩,
    ⟨some 15, none, .mv (.t 78)⟩])
  (.seq (.seq (.ops [⟨some 79, none, .mv (.t 15)⟩,
    ⟨some 80, none, .bin .lss (.t 79) (.c (.int .i64 0))⟩])
  (.cond (.t 80)
   (.seq (.ops [⟨some 8, none, .mv (.c (.bool false))⟩])
   (.ret))
   (.skip)))
  (.seq (.seq (.ops [⟨some 81, none, .mv (.t 15)⟩,
    ⟨some 82, none, .mv (.t 14)⟩,
    ⟨some 83, none, .bin .neq (.t 81) (.t 82)⟩])
  (.cond (.t 83)
   (.seq (.ops [⟨some 8, none, .mv (.c (.bool false))⟩])
   (.ret))
   (.skip)))
  (.seq (.ops [⟨some 8, none, .mv (.c (.bool true))⟩])
  (.ret)))))))))))))))))))))))))⟩
theorem ok17 : FnOK Try.prog 17 v17 := ⟨⟨Try.f17, _, Try.func17, rfl, by kernel_rfl, rfl, by decide, by kernel_rfl, by kernel_rfl⟩⟩

/-- spec.NewBlocks -/
def v20 : VF := ⟨1, 10, [.cell 2 true 3], true,
  .seq (.ops [⟨some 2, none, .new [.int .i64 0, .int .i64 0, .slice none 0 0]⟩])
  (.seq (.seq (.ops [⟨some 3, none, .mv (.t 0)⟩,
    ⟨some 4, none, .call 75 [.t 3, .c (.int .i64 0), .c (.int .i64 24)]⟩,
    ⟨some 5, none, .not (.t 4)⟩])
  (.cond (.t 5)
   (.seq (.ops [⟨some 6, none, .call 76 [.c (.int .i64 3)]⟩,
     ⟨none, none, .store 3 (.t 2) (.t 6)⟩])
   (.ret))
   (.skip)))
  (.seq (.ops [⟨some 7, none, .mv (.t 0)⟩,
    ⟨some 8, none, .mkslice 2 16 [.int .i64 0, .int .i64 0] (.t 7) (.t 7)⟩,
    ⟨some 9, none, .build [.int .i64 0, .int .i64 0, .slice none 0 0] [(2, 1, .t 8)]⟩,
    ⟨none, none, .store 3 (.t 2) (.t 9)⟩])
  (.ret)))⟩
theorem ok20 : FnOK Try.prog 20 v20 := ⟨⟨Try.f20, _, Try.func20, rfl, by kernel_rfl, rfl, by decide, by kernel_rfl, by kernel_rfl⟩⟩

/-- impl.NewBlocks -/
def v21 : VF := ⟨1, 10, [.cell 2 true 3], true,
  .seq (.ops [⟨some 2, none, .new [.int .i64 0, .int .i64 0, .slice none 0 0]⟩])
  (.seq (.seq (.ops [⟨some 3, none, .mv (.t 0)⟩,
    ⟨some 4, none, .call 77 [.t 3, .c (.int .i64 0), .c (.int .i64 24)]⟩,
    ⟨some 5, none, .not (.t 4)⟩])
  (.cond (.t 5)
   (.seq (.ops [⟨some 6, none, .build [.int .i64 0, .int .i64 0, .slice none 0 0] [(0, 1, .c (.int .i64 3))]⟩,
     ⟨none, none, .store 3 (.t 2) (.t 6)⟩])
   (.ret))
   (.skip)))
  (.seq (.ops [⟨some 7, none, .mv (.t 0)⟩,
    ⟨some 8, none, .mkslice 2 16 [.int .i64 0, .int .i64 0] (.t 7) (.t 7)⟩,
    ⟨some 9, none, .build [.int .i64 0, .int .i64 0, .slice none 0 0] [(2, 1, .t 8)]⟩,
    ⟨none, none, .store 3 (.t 2) (.t 9)⟩])
  (.ret)))⟩
theorem ok21 : FnOK Try.prog 21 v21 := ⟨⟨Try.f21, _, Try.func21, rfl, by kernel_rfl, rfl, by decide, by kernel_rfl, by kernel_rfl⟩⟩

/-- laws.eqBlocksResult -/
def v22 : VF := ⟨2, 21, [.t 4], true,
  .seq (.ops [⟨some 2, none, .box (.t 0)⟩,
    ⟨some 3, none, .box (.t 1)⟩,
    ⟨some 4, none, .mv (.c (.bool false))⟩])
  (.seq (.seq (.ops [⟨some 5, none, .faddr 0 (.t 2)⟩,
    ⟨some 6, none, .load false 1 (.t 5)⟩,
    ⟨some 7, none, .faddr 0 (.t 3)⟩,
    ⟨some 8, none, .load false 1 (.t 7)⟩,
    ⟨some 9, none, .bin .neq (.t 6) (.t 8)⟩])
  (.cond (.t 9)
   (.seq (.ops [⟨some 4, none, .mv (.c (.bool false))⟩])
   (.ret))
   (.skip)))
  (.seq (.seq (.ops [⟨some 10, none, .faddr 1 (.t 2)⟩,
    ⟨some 11, none, .load false 1 (.t 10)⟩,
    ⟨some 12, none, .faddr 1 (.t 3)⟩,
    ⟨some 13, none, .load false 1 (.t 12)⟩,
    ⟨some 14, none, .bin .neq (.t 11) (.t 13)⟩])
  (.cond (.t 14)
   (.seq (.ops [⟨some 4, none, .mv (.c (.bool false))⟩])
   (.ret))
   (.skip)))
  (.seq (.seq (.ops [⟨some 15, none, .faddr 2 (.t 2)⟩,
    ⟨some 16, none, .load false 1 (.t 15)⟩,
    ⟨some 17, none, .faddr 2 (.t 3)⟩,
    ⟨some 18, none, .load false 1 (.t 17)⟩,
    ⟨some 19, none, .call 30 [.t 16, .t 18]⟩,
    ⟨some 20, none, .not (.t 19)⟩])
  (.cond (.t 20)
   (.seq (.ops [⟨some 4, none, .mv (.c (.bool false))⟩])
   (.ret))
   (.skip)))
  (.seq (.ops [⟨some 4, none, .mv (.c (.bool true))⟩])
  (.ret)))))⟩
theorem ok22 : FnOK Try.prog 22 v22 := ⟨⟨Try.f22, _, Try.func22, rfl, by kernel_rfl, rfl, by decide, by kernel_rfl, by kernel_rfl⟩⟩

/-- laws.markBlocksResult -/
def v23 : VF := ⟨2, 10, [.t 4], false,
  .seq (.ops [⟨some 2, none, .box (.t 0)⟩,
    ⟨some 4, none, .mv (.c (.int .i64 0))⟩])
  (.seq (.ops [⟨some 5, none, .faddr 2 (.t 2)⟩,
    ⟨some 6, none, .load false 1 (.t 5)⟩,
    ⟨some 7, none, .mv (.t 1)⟩,
    ⟨some 8, none, .call 33 [.t 6, .t 7]⟩,
    ⟨some 1, none, .mv (.t 8)⟩])
  (.seq (.ops [⟨some 9, none, .mv (.t 1)⟩,
    ⟨some 4, none, .mv (.t 9)⟩])
  (.ret)))⟩
theorem ok23 : FnOK Try.prog 23 v23 := ⟨⟨Try.f23, _, Try.func23, rfl, by kernel_rfl, rfl, by decide, by kernel_rfl, by kernel_rfl⟩⟩

/-- laws.heldBlocksResult -/
def v24 : VF := ⟨2, 12, [.t 4], true,
  .seq (.ops [⟨some 2, none, .box (.t 0)⟩,
    ⟨some 4, none, .mv (.c (.int .i64 0))⟩])
  (.seq (.ops [⟨some 5, none, .faddr 2 (.t 2)⟩,
    ⟨some 6, none, .load false 1 (.t 5)⟩,
    ⟨some 7, none, .mv (.t 1)⟩,
    ⟨some 8, none, .call 78 [.t 6, .t 7]⟩,
    ⟨some 1, none, .mv (.t 8)⟩])
  (.seq (.seq (.ops [⟨some 9, none, .mv (.t 1)⟩,
    ⟨some 10, none, .bin .lss (.t 9) (.c (.int .i64 0))⟩])
  (.cond (.t 10)
   (.seq (.ops [⟨some 4, none, .mv (.c (.int .i64 (-1)))⟩])
   (.ret))
   (.skip)))
  (.seq (.ops [⟨some 11, none, .mv (.t 1)⟩,
    ⟨some 4, none, .mv (.t 11)⟩])
  (.ret))))⟩
theorem ok24 : FnOK Try.prog 24 v24 := ⟨⟨Try.f24, _, Try.func24, rfl, by kernel_rfl, rfl, by decide, by kernel_rfl, by kernel_rfl⟩⟩

/-- laws.szBlockS -/
def v25 : VF := ⟨2, 12, [.t 4], true,
  .seq (.ops [⟨some 4, none, .mv (.c (.int .i64 0))⟩])
  (.seq (.ops [⟨some 5, none, .mv (.t 1)⟩,
    ⟨some 6, none, .mv (.t 0)⟩,
    ⟨some 7, none, .len (.t 6)⟩,
    ⟨some 8, none, .bin .sub (.t 5) (.t 7)⟩,
    ⟨some 1, none, .mv (.t 8)⟩])
  (.seq (.seq (.ops [⟨some 9, none, .mv (.t 1)⟩,
    ⟨some 10, none, .bin .lss (.t 9) (.c (.int .i64 0))⟩])
  (.cond (.t 10)
   (.seq (.ops [⟨some 4, none, .mv (.c (.int .i64 (-1)))⟩])
   (.ret))
   (.skip)))
  (.seq (.ops [⟨some 11, none, .mv (.t 1)⟩,
    ⟨some 4, none, .mv (.t 11)⟩])
  (.ret))))⟩
theorem ok25 : FnOK Try.prog 25 v25 := ⟨⟨Try.f25, _, Try.func25, rfl, by kernel_rfl, rfl, by decide, by kernel_rfl, by kernel_rfl⟩⟩

/-- spec.FreeOf -/
def v26 : VF := ⟨1, 13, [.cell 2 true 2], true,
  .seq (.ops [⟨some 2, none, .new [.int .i64 0, .int .i64 0]⟩])
  (.seq (.seq (.ops [⟨some 4, none, .mv (.t 0)⟩,
    ⟨some 5, none, .call 79 [.t 4]⟩,
    ⟨some 3, none, .mv (.t 5)⟩])
  (.seq (.ops [⟨some 6, none, .mv (.t 3)⟩,
    ⟨some 7, none, .bin .neq (.t 6) (.c (.int .i64 0))⟩])
  (.cond (.t 7)
   (.seq (.ops [⟨some 8, none, .mv (.t 3)⟩,
     ⟨some 9, none, .build [.int .i64 0, .int .i64 0] [(0, 1, .t 8)]⟩,
     ⟨none, none, .store 2 (.t 2) (.t 9)⟩])
   (.ret))
   (.skip))))
  (.seq (.ops [⟨some 10, none, .mv (.t 0)⟩,
    ⟨some 11, none, .call 80 [.t 10]⟩,
    ⟨some 12, none, .build [.int .i64 0, .int .i64 0] [(1, 1, .t 11)]⟩,
    ⟨none, none, .store 2 (.t 2) (.t 12)⟩])
  (.ret)))⟩
theorem ok26 : FnOK Try.prog 26 v26 := ⟨⟨Try.f26, _, Try.func26, rfl, by kernel_rfl, rfl, by decide, by kernel_rfl, by kernel_rfl⟩⟩

/-- laws.toBlockS -/
def l27_0 : VC :=
  .seq (.seq (.ops [⟨some 8, none, .mv (.t 4)⟩,
    ⟨some 9, none, .mv (.t 0)⟩,
    ⟨some 10, none, .len (.t 9)⟩,
    ⟨some 11, none, .bin .lss (.t 8) (.t 10)⟩])
  (.cond (.t 11)
   (.skip)
   (.exit 0)))
  (.seq (.block 1 (.ops [⟨some 14, none, .mv (.t 3)⟩,
     ⟨some 15, none, .mv (.t 4)⟩,
     ⟨some 16, none, .mv (.t 0)⟩,
     ⟨some 17, none, .mv (.t 4)⟩,
     ⟨some 18, none, .iaddr 2 (.t 16) (.t 17)⟩,
     ⟨some 19, none, .load true 2 (.t 18)⟩,
     ⟨some 20, none, .call 81 [.t 19]⟩,
     ⟨some 21, none, .iaddr 2 (.t 14) (.t 15)⟩,
     ⟨none, none, .store 2 (.t 21) (.t 20)⟩]))
  (.ops [⟨some 12, none, .mv (.t 4)⟩,
    ⟨some 13, none, .bin .add (.t 12) (.c (.int .i64 1))⟩,
    ⟨some 4, none, .mv (.t 13)⟩]))
def v27 : VF := ⟨1, 23, [.t 2], true,
  .seq (.ops [⟨some 2, none, .mv (.c (.slice none 0 0))⟩])
  (.seq (.ops [⟨some 5, none, .mv (.t 0)⟩,
    ⟨some 6, none, .len (.t 5)⟩,
    ⟨some 7, none, .mkslice 2 16 [.int .i64 0, .int .i64 0] (.t 6) (.t 6)⟩,
    ⟨some 3, none, .mv (.t 7)⟩])
  (.seq (.seq (.ops [⟨some 4, none, .mv (.c (.int .i64 0))⟩])
  (.block 0 (.loop [0, 3, 4] [2, 3] l27_0)))
  (.seq (.ops [⟨some 22, none, .mv (.t 3)⟩,
    ⟨some 2, none, .mv (.t 22)⟩])
  (.ret))))⟩
theorem ok27 : FnOK Try.prog 27 v27 := ⟨⟨Try.f27, _, Try.func27, rfl, by kernel_rfl, rfl, by decide, by kernel_rfl, by kernel_rfl⟩⟩

/-- impl.FreeOf -/
def l28_0 : VC :=
  .seq (.ops [⟨some 16, none, .bin .lss (.t 15) (.t 14)⟩])
  (.seq (.cond (.t 16)
   (.skip)
   (.exit 0))
  (.seq (.block 1 (.seq (.ops [⟨some 17, none, .iaddr 2 (.t 13) (.t 15)⟩,
     ⟨some 18, none, .load true 2 (.t 17)⟩,
     ⟨some 6, none, .new [.int .i64 0, .int .i64 0]⟩,
     ⟨none, none, .store 2 (.t 6) (.t 18)⟩])
   (.seq (.ops [⟨some 19, none, .faddr 0 (.t 6)⟩,
     ⟨some 20, none, .load false 1 (.t 19)⟩,
     ⟨some 21, none, .bin .eql (.t 20) (.c (.int .i64 0))⟩])
   (.cond (.t 21)
    (.ops [⟨some 22, none, .mv (.t 4)⟩,
      ⟨some 23, none, .bin .add (.t 22) (.c (.int .i64 1))⟩,
      ⟨some 4, none, .mv (.t 23)⟩])
    (.skip)))))
  (.ops [⟨some 24, none, .bin .add (.t 15) (.c (.int .i64 1))⟩,
    ⟨some 15, none, .mv (.t 24)⟩])))
def v28 : VF := ⟨1, 27, [.cell 2 true 2], true,
  .seq (.ops [⟨some 2, none, .new [.int .i64 0, .int .i64 0]⟩])
  (.seq (.seq (.ops [⟨some 7, none, .mv (.t 0)⟩,
    ⟨some 8, none, .call 40 [.t 7]⟩,
    ⟨some 3, none, .mv (.t 8)⟩])
  (.seq (.ops [⟨some 9, none, .mv (.t 3)⟩,
    ⟨some 10, none, .bin .neq (.t 9) (.c (.int .i64 0))⟩])
  (.cond (.t 10)
   (.seq (.ops [⟨some 11, none, .mv (.t 3)⟩,
     ⟨some 12, none, .build [.int .i64 0, .int .i64 0] [(0, 1, .t 11)]⟩,
     ⟨none, none, .store 2 (.t 2) (.t 12)⟩])
   (.ret))
   (.skip))))
  (.seq (.ops [⟨some 4, none, .mv (.c (.int .i64 0))⟩])
  (.seq (.seq (.ops [⟨some 13, none, .mv (.t 0)⟩,
    ⟨some 14, none, .len (.t 13)⟩,
    ⟨some 15, none, .mv (.c (.int .i64 0))⟩])
  (.block 0 (.loop [2, 4, 13, 14, 15] [2, 4] l28_0)))
  (.seq (.ops [⟨some 25, none, .mv (.t 4)⟩,
    ⟨some 26, none, .build [.int .i64 0, .int .i64 0] [(1, 1, .t 25)]⟩,
    ⟨none, none, .store 2 (.t 2) (.t 26)⟩])
  (.ret)))))⟩
theorem ok28 : FnOK Try.prog 28 v28 := ⟨⟨Try.f28, _, Try.func28, rfl, by kernel_rfl, rfl, by decide, by kernel_rfl, by kernel_rfl⟩⟩

/-- laws.eqIntResult -/
def v29 : VF := ⟨2, 15, [.t 4], true,
  .seq (.ops [⟨some 2, none, .box (.t 0)⟩,
    ⟨some 3, none, .box (.t 1)⟩,
    ⟨some 4, none, .mv (.c (.bool false))⟩])
  (.seq (.seq (.ops [⟨some 5, none, .faddr 0 (.t 2)⟩,
    ⟨some 6, none, .load false 1 (.t 5)⟩,
    ⟨some 7, none, .faddr 0 (.t 3)⟩,
    ⟨some 8, none, .load false 1 (.t 7)⟩,
    ⟨some 9, none, .bin .neq (.t 6) (.t 8)⟩])
  (.cond (.t 9)
   (.seq (.ops [⟨some 4, none, .mv (.c (.bool false))⟩])
   (.ret))
   (.skip)))
  (.seq (.seq (.ops [⟨some 10, none, .faddr 1 (.t 2)⟩,
    ⟨some 11, none, .load false 1 (.t 10)⟩,
    ⟨some 12, none, .faddr 1 (.t 3)⟩,
    ⟨some 13, none, .load false 1 (.t 12)⟩,
    ⟨some 14, none, .bin .neq (.t 11) (.t 13)⟩])
  (.cond (.t 14)
   (.seq (.ops [⟨some 4, none, .mv (.c (.bool false))⟩])
   (.ret))
   (.skip)))
  (.seq (.ops [⟨some 4, none, .mv (.c (.bool true))⟩])
  (.ret))))⟩
theorem ok29 : FnOK Try.prog 29 v29 := ⟨⟨Try.f29, _, Try.func29, rfl, by kernel_rfl, rfl, by decide, by kernel_rfl, by kernel_rfl⟩⟩

/-- laws.eqBlockS -/
def l30_0 : VC :=
  .seq (.seq (.ops [⟨some 11, none, .mv (.t 5)⟩,
    ⟨some 12, none, .mv (.t 0)⟩,
    ⟨some 13, none, .len (.t 12)⟩,
    ⟨some 14, none, .bin .lss (.t 11) (.t 13)⟩])
  (.cond (.t 14)
   (.skip)
   (.exit 0)))
  (.seq (.block 1 (.seq (.draw [⟨some 17, none, .mv (.t 0)⟩,
     ⟨some 18, none, .mv (.t 5)⟩,
     ⟨some 19, none, .iaddr 2 (.t 17) (.t 18)⟩,
     ⟨some 20, none, .load true 2 (.t 19)⟩,
     ⟨some 21, none, .mv (.t 1)⟩,
     ⟨some 22, none, .mv (.t 5)⟩,
     ⟨some 23, none, .iaddr 2 (.t 21) (.t 22)⟩,
     ⟨some 24, none, .load true 2 (.t 23)⟩] [⟨some 25, none, .call 82 [.t 20, .t 24]⟩,
     ⟨some 26, none, .not (.t 25)⟩])
   (.cond (.t 26)
    (.seq (.ops [⟨some 4, none, .mv (.c (.bool false))⟩])
    (.ret))
    (.skip))))
  (.ops [⟨some 15, none, .mv (.t 5)⟩,
    ⟨some 16, none, .bin .add (.t 15) (.c (.int .i64 1))⟩,
    ⟨some 5, none, .mv (.t 16)⟩]))
def v30 : VF := ⟨2, 27, [.t 4], true,
  .seq (.ops [⟨some 4, none, .mv (.c (.bool false))⟩])
  (.seq (.seq (.ops [⟨some 6, none, .mv (.t 0)⟩,
    ⟨some 7, none, .len (.t 6)⟩,
    ⟨some 8, none, .mv (.t 1)⟩,
    ⟨some 9, none, .len (.t 8)⟩,
    ⟨some 10, none, .bin .neq (.t 7) (.t 9)⟩])
  (.cond (.t 10)
   (.seq (.ops [⟨some 4, none, .mv (.c (.bool false))⟩])
   (.ret))
   (.skip)))
  (.seq (.seq (.ops [⟨some 5, none, .mv (.c (.int .i64 0))⟩])
  (.block 0 (.loop [0, 1, 5] [4] l30_0)))
  (.seq (.ops [⟨some 4, none, .mv (.c (.bool true))⟩])
  (.ret))))⟩
theorem ok30 : FnOK Try.prog 30 v30 := ⟨⟨Try.f30, _, Try.func30, rfl, by kernel_rfl, rfl, by decide, by kernel_rfl, by kernel_rfl⟩⟩

/-- spec.ShareBlock -/
def v31 : VF := ⟨2, 35, [.cell 4 true 3], true,
  .seq (.ops [⟨some 4, none, .new [.int .i64 0, .int .i64 0, .slice none 0 0]⟩])
  (.seq (.seq (.ops [⟨some 7, none, .mv (.t 0)⟩,
    ⟨some 8, none, .mv (.t 1)⟩,
    ⟨some 9, none, .call 83 [.t 7, .t 8]⟩,
    ⟨some 5, none, .mv (.t 9)⟩])
  (.seq (.ops [⟨some 10, none, .mv (.t 5)⟩,
    ⟨some 11, none, .bin .neq (.t 10) (.c (.int .i64 0))⟩])
  (.cond (.t 11)
   (.seq (.ops [⟨some 12, none, .mv (.t 5)⟩,
     ⟨some 13, none, .call 76 [.t 12]⟩,
     ⟨none, none, .store 3 (.t 4) (.t 13)⟩])
   (.ret))
   (.skip))))
  (.seq (.seq (.ops [⟨some 14, none, .mv (.t 0)⟩,
    ⟨some 15, none, .mv (.t 1)⟩,
    ⟨some 16, none, .iaddr 2 (.t 14) (.t 15)⟩,
    ⟨some 17, none, .faddr 0 (.t 16)⟩,
    ⟨some 18, none, .load false 1 (.t 17)⟩,
    ⟨some 19, none, .bin .geq (.t 18) (.c (.int .i64 200))⟩])
  (.cond (.t 19)
   (.seq (.ops [⟨some 20, none, .call 76 [.c (.int .i64 2)]⟩,
     ⟨none, none, .store 3 (.t 4) (.t 20)⟩])
   (.ret))
   (.skip)))
  (.seq (.ops [⟨some 21, none, .bslice 2 [] 0 []⟩,
    ⟨some 22, none, .mv (.t 0)⟩,
    ⟨some 23, none, .append 2 16 (.t 21) (.t 22)⟩,
    ⟨some 6, none, .mv (.t 23)⟩])
  (.seq (.ops [⟨some 24, none, .mv (.t 6)⟩,
    ⟨some 25, none, .mv (.t 1)⟩,
    ⟨some 26, none, .iaddr 2 (.t 24) (.t 25)⟩,
    ⟨some 27, none, .faddr 0 (.t 26)⟩,
    ⟨some 28, none, .load false 1 (.t 27)⟩,
    ⟨some 29, none, .bin .add (.t 28) (.c (.int .i64 1))⟩,
    ⟨some 30, none, .iaddr 2 (.t 24) (.t 25)⟩,
    ⟨some 31, none, .faddr 0 (.t 30)⟩,
    ⟨none, none, .store 1 (.t 31) (.t 29)⟩])
  (.seq (.ops [⟨some 32, none, .mv (.t 1)⟩,
    ⟨some 33, none, .mv (.t 6)⟩,
    ⟨some 34, none, .build [.int .i64 0, .int .i64 0, .slice none 0 0] [(1, 1, .t 32), (2, 1, .t 33)]⟩,
    ⟨none, none, .store 3 (.t 4) (.t 34)⟩])
  (.ret))))))⟩
theorem ok31 : FnOK Try.prog 31 v31 := ⟨⟨Try.f31, _, Try.func31, rfl, by kernel_rfl, rfl, by decide, by kernel_rfl, by kernel_rfl⟩⟩

/-- impl.ShareBlock -/
def v32 : VF := ⟨2, 8, [.cell 4 true 3], true,
  .seq (.ops [⟨some 4, none, .new [.int .i64 0, .int .i64 0, .slice none 0 0]⟩])
  (.seq (.ops [⟨some 5, none, .mv (.t 0)⟩,
    ⟨some 6, none, .mv (.t 1)⟩,
    ⟨some 7, none, .call 84 [.t 5, .t 6, .c (.func (.func 85) #[] #[])]⟩,
    ⟨none, none, .store 3 (.t 4) (.t 7)⟩])
  (.ret))⟩
theorem ok32 : FnOK Try.prog 32 v32 := ⟨⟨Try.f32, _, Try.func32, rfl, by kernel_rfl, rfl, by decide, by kernel_rfl, by kernel_rfl⟩⟩

/-- laws.markBlockS -/
def l33_0 : VC :=
  .seq (.seq (.ops [⟨some 6, none, .mv (.t 5)⟩,
    ⟨some 7, none, .mv (.t 0)⟩,
    ⟨some 8, none, .len (.t 7)⟩,
    ⟨some 9, none, .bin .lss (.t 6) (.t 8)⟩])
  (.cond (.t 9)
   (.skip)
   (.exit 0)))
  (.seq (.block 1 (.seq (.ops [⟨some 12, none, .mv (.t 0)⟩,
     ⟨some 13, none, .mv (.t 5)⟩,
     ⟨some 14, none, .mv (.t 1)⟩,
     ⟨some 15, none, .iaddr 2 (.t 12) (.t 13)⟩,
     ⟨some 16, none, .faddr 0 (.t 15)⟩,
     ⟨none, none, .store 1 (.t 16) (.t 14)⟩])
   (.seq (.ops [⟨some 17, none, .mv (.t 1)⟩,
     ⟨some 18, none, .bin .add (.t 17) (.c (.int .i64 1))⟩,
     ⟨some 1, none, .mv (.t 18)⟩])
   (.seq (.ops [⟨some 19, none, .mv (.t 0)⟩,
     ⟨some 20, none, .mv (.t 5)⟩,
     ⟨some 21, none, .mv (.t 1)⟩,
     ⟨some 22, none, .iaddr 2 (.t 19) (.t 20)⟩,
     ⟨some 23, none, .faddr 1 (.t 22)⟩,
     ⟨none, none, .store 1 (.t 23) (.t 21)⟩])
   (.ops [⟨some 24, none, .mv (.t 1)⟩,
     ⟨some 25, none, .bin .add (.t 24) (.c (.int .i64 1))⟩,
     ⟨some 1, none, .mv (.t 25)⟩])))))
  (.ops [⟨some 10, none, .mv (.t 5)⟩,
    ⟨some 11, none, .bin .add (.t 10) (.c (.int .i64 1))⟩,
    ⟨some 5, none, .mv (.t 11)⟩]))
def v33 : VF := ⟨2, 27, [.t 4], false,
  .seq (.ops [⟨some 4, none, .mv (.c (.int .i64 0))⟩])
  (.seq (.seq (.ops [⟨some 5, none, .mv (.c (.int .i64 0))⟩])
  (.block 0 (.loop [0, 1, 5] [1, 4] l33_0)))
  (.seq (.ops [⟨some 26, none, .mv (.t 1)⟩,
    ⟨some 4, none, .mv (.t 26)⟩])
  (.ret)))⟩
theorem ok33 : FnOK Try.prog 33 v33 := ⟨⟨Try.f33, _, Try.func33, rfl, by kernel_rfl, rfl, by decide, by kernel_rfl, by kernel_rfl⟩⟩

/-- spec.DropBlock -/
def v34 : VF := ⟨2, 23, [.cell 4 true 3], true,
  .seq (.ops [⟨some 4, none, .new [.int .i64 0, .int .i64 0, .slice none 0 0]⟩])
  (.seq (.seq (.ops [⟨some 7, none, .mv (.t 0)⟩,
    ⟨some 8, none, .mv (.t 1)⟩,
    ⟨some 9, none, .call 83 [.t 7, .t 8]⟩,
    ⟨some 5, none, .mv (.t 9)⟩])
  (.seq (.ops [⟨some 10, none, .mv (.t 5)⟩,
    ⟨some 11, none, .bin .neq (.t 10) (.c (.int .i64 0))⟩])
  (.cond (.t 11)
   (.seq (.ops [⟨some 12, none, .mv (.t 5)⟩,
     ⟨some 13, none, .call 76 [.t 12]⟩,
     ⟨none, none, .store 3 (.t 4) (.t 13)⟩])
   (.ret))
   (.skip))))
  (.seq (.ops [⟨some 14, none, .bslice 2 [] 0 []⟩,
    ⟨some 15, none, .mv (.t 0)⟩,
    ⟨some 16, none, .append 2 16 (.t 14) (.t 15)⟩,
    ⟨some 6, none, .mv (.t 16)⟩])
  (.seq (.ops [⟨some 17, none, .mv (.t 6)⟩,
    ⟨some 18, none, .mv (.t 1)⟩,
    ⟨some 19, none, .call 86 [.t 17, .t 18]⟩])
  (.seq (.ops [⟨some 20, none, .mv (.t 1)⟩,
    ⟨some 21, none, .mv (.t 6)⟩,
    ⟨some 22, none, .build [.int .i64 0, .int .i64 0, .slice none 0 0] [(1, 1, .t 20), (2, 1, .t 21)]⟩,
    ⟨none, none, .store 3 (.t 4) (.t 22)⟩])
  (.ret)))))⟩
theorem ok34 : FnOK Try.prog 34 v34 := ⟨⟨Try.f34, _, Try.func34, rfl, by kernel_rfl, rfl, by decide, by kernel_rfl, by kernel_rfl⟩⟩

/-- impl.DropBlock -/
def v35 : VF := ⟨2, 8, [.cell 4 true 3], true,
  .seq (.ops [⟨some 4, none, .new [.int .i64 0, .int .i64 0, .slice none 0 0]⟩])
  (.seq (.ops [⟨some 5, none, .mv (.t 0)⟩,
    ⟨some 6, none, .mv (.t 1)⟩,
    ⟨some 7, none, .call 84 [.t 5, .t 6, .c (.func (.func 87) #[] #[])]⟩,
    ⟨none, none, .store 3 (.t 4) (.t 7)⟩])
  (.ret))⟩
theorem ok35 : FnOK Try.prog 35 v35 := ⟨⟨Try.f35, _, Try.func35, rfl, by kernel_rfl, rfl, by decide, by kernel_rfl, by kernel_rfl⟩⟩

/-- spec.TakeBlock -/
def v36 : VF := ⟨2, 34, [.cell 4 true 3], true,
  .seq (.ops [⟨some 4, none, .new [.int .i64 0, .int .i64 0, .slice none 0 0]⟩])
  (.seq (.seq (.ops [⟨some 8, none, .mv (.t 0)⟩,
    ⟨some 9, none, .call 79 [.t 8]⟩,
    ⟨some 5, none, .mv (.t 9)⟩])
  (.seq (.ops [⟨some 10, none, .mv (.t 5)⟩,
    ⟨some 11, none, .bin .neq (.t 10) (.c (.int .i64 0))⟩])
  (.cond (.t 11)
   (.seq (.ops [⟨some 12, none, .mv (.t 5)⟩,
     ⟨some 13, none, .call 76 [.t 12]⟩,
     ⟨none, none, .store 3 (.t 4) (.t 13)⟩])
   (.ret))
   (.skip))))
  (.seq (.seq (.ops [⟨some 14, none, .mv (.t 1)⟩,
    ⟨some 15, none, .call 88 [.t 14]⟩,
    ⟨some 16, none, .not (.t 15)⟩])
  (.cond (.t 16)
   (.seq (.ops [⟨some 17, none, .call 76 [.c (.int .i64 3)]⟩,
     ⟨none, none, .store 3 (.t 4) (.t 17)⟩])
   (.ret))
   (.skip)))
  (.seq (.ops [⟨some 18, none, .mv (.t 0)⟩,
    ⟨some 19, none, .call 89 [.t 18]⟩,
    ⟨some 6, none, .mv (.t 19)⟩])
  (.seq (.seq (.ops [⟨some 20, none, .mv (.t 6)⟩,
    ⟨some 21, none, .bin .lss (.t 20) (.c (.int .i64 0))⟩])
  (.cond (.t 21)
   (.seq (.ops [⟨some 22, none, .call 76 [.c (.int .i64 8)]⟩,
     ⟨none, none, .store 3 (.t 4) (.t 22)⟩])
   (.ret))
   (.skip)))
  (.seq (.ops [⟨some 23, none, .bslice 2 [] 0 []⟩,
    ⟨some 24, none, .mv (.t 0)⟩,
    ⟨some 25, none, .append 2 16 (.t 23) (.t 24)⟩,
    ⟨some 7, none, .mv (.t 25)⟩])
  (.seq (.ops [⟨some 26, none, .mv (.t 7)⟩,
    ⟨some 27, none, .mv (.t 6)⟩,
    ⟨some 28, none, .mv (.t 1)⟩,
    ⟨some 29, none, .build [.int .i64 0, .int .i64 0] [(0, 1, .c (.int .i64 1)), (1, 1, .t 28)]⟩,
    ⟨some 30, none, .iaddr 2 (.t 26) (.t 27)⟩,
    ⟨none, none, .store 2 (.t 30) (.t 29)⟩])
  (.seq (.ops [⟨some 31, none, .mv (.t 6)⟩,
    ⟨some 32, none, .mv (.t 7)⟩,
    ⟨some 33, none, .build [.int .i64 0, .int .i64 0, .slice none 0 0] [(1, 1, .t 31), (2, 1, .t 32)]⟩,
    ⟨none, none, .store 3 (.t 4) (.t 33)⟩])
  (.ret))))))))⟩
theorem ok36 : FnOK Try.prog 36 v36 := ⟨⟨Try.f36, _, Try.func36, rfl, by kernel_rfl, rfl, by decide, by kernel_rfl, by kernel_rfl⟩⟩

/-- impl.TakeBlock -/
def v37 : VF := ⟨2, 36, [.cell 4 true 3], true,
  .seq (.ops [⟨some 4, none, .new [.int .i64 0, .int .i64 0, .slice none 0 0]⟩])
  (.seq (.ops [⟨some 9, none, .mv (.t 0)⟩,
    ⟨some 10, none, .call 40 [.t 9]⟩,
    ⟨some 5, none, .mv (.t 10)⟩])
  (.seq (.block 0 (.seq (.ops [⟨some 12, none, .mv (.t 5)⟩,
     ⟨some 13, none, .bin .neq (.t 12) (.c (.int .i64 0))⟩,
     ⟨some 11, none, .mv (.t 13)⟩])
   (.cond (.t 11)
    (.seq (.ops [⟨some 14, none, .mv (.t 5)⟩,
      ⟨some 15, none, .build [.int .i64 0, .int .i64 0, .slice none 0 0] [(0, 1, .t 14)]⟩,
      ⟨none, none, .store 3 (.t 4) (.t 15)⟩])
    (.ret))
    (.seq (.ops [⟨some 17, none, .mv (.t 1)⟩,
      ⟨some 18, none, .call 90 [.t 17]⟩,
      ⟨some 19, none, .not (.t 18)⟩,
      ⟨some 16, none, .mv (.t 19)⟩])
    (.cond (.t 16)
     (.seq (.ops [⟨some 20, none, .build [.int .i64 0, .int .i64 0, .slice none 0 0] [(0, 1, .c (.int .i64 3))]⟩,
       ⟨none, none, .store 3 (.t 4) (.t 20)⟩])
     (.ret))
     (.skip))))))
  (.seq (.ops [⟨some 21, none, .mv (.t 0)⟩,
    ⟨some 22, none, .call 91 [.t 21]⟩,
    ⟨some 6, none, .mv (.t 22)⟩])
  (.seq (.ops [⟨some 24, none, .mv (.t 6)⟩,
    ⟨some 25, none, .mv (.t 1)⟩,
    ⟨some 26, none, .call 92 [.t 24, .t 25]⟩,
    ⟨some 23, none, .mv (.t 26)⟩,
    ⟨some 27, none, .ext 0 (.t 23)⟩,
    ⟨some 28, none, .ext 1 (.t 23)⟩,
    ⟨some 7, none, .mv (.t 27)⟩,
    ⟨some 8, none, .mv (.t 28)⟩])
  (.seq (.seq (.ops [⟨some 29, none, .mv (.t 8)⟩,
    ⟨some 30, none, .bin .neq (.t 29) (.c (.int .i64 0))⟩])
  (.cond (.t 30)
   (.seq (.ops [⟨some 31, none, .mv (.t 8)⟩,
     ⟨some 32, none, .build [.int .i64 0, .int .i64 0, .slice none 0 0] [(0, 1, .t 31)]⟩,
     ⟨none, none, .store 3 (.t 4) (.t 32)⟩])
   (.ret))
   (.skip)))
  (.seq (.ops [⟨some 33, none, .mv (.t 7)⟩,
    ⟨some 34, none, .mv (.t 6)⟩,
    ⟨some 35, none, .build [.int .i64 0, .int .i64 0, .slice none 0 0] [(1, 1, .t 33), (2, 1, .t 34)]⟩,
    ⟨none, none, .store 3 (.t 4) (.t 35)⟩])
  (.ret)))))))⟩
theorem ok37 : FnOK Try.prog 37 v37 := ⟨⟨Try.f37, _, Try.func37, rfl, by kernel_rfl, rfl, by decide, by kernel_rfl, by kernel_rfl⟩⟩

/-- impl.BlocksFault -/
def l40_0 : VC :=
  .seq (.ops [⟨some 11, none, .bin .lss (.t 10) (.t 9)⟩])
  (.seq (.cond (.t 11)
   (.skip)
   (.exit 0))
  (.seq (.block 1 (.seq (.ops [⟨some 12, none, .iaddr 2 (.t 8) (.t 10)⟩,
     ⟨some 13, none, .load true 2 (.t 12)⟩,
     ⟨some 4, none, .new [.int .i64 0, .int .i64 0]⟩,
     ⟨none, none, .store 2 (.t 4) (.t 13)⟩])
   (.block 2 (.seq (.ops [⟨some 15, none, .faddr 0 (.t 4)⟩,
      ⟨some 16, none, .load false 1 (.t 15)⟩,
      ⟨some 17, none, .call 97 [.t 16]⟩,
      ⟨some 18, none, .not (.t 17)⟩,
      ⟨some 19, none, .mv (.t 18)⟩,
      ⟨some 20, some (19, false), .faddr 1 (.t 4)⟩,
      ⟨some 21, some (19, false), .load false 1 (.t 20)⟩,
      ⟨some 22, some (19, false), .call 90 [.t 21]⟩,
      ⟨some 23, some (19, false), .not (.t 22)⟩,
      ⟨some 24, none, .pick (.t 19) (.c (.bool true)) (.t 23)⟩,
      ⟨some 14, none, .mv (.t 24)⟩])
    (.cond (.t 14)
     (.seq (.ops [⟨some 2, none, .mv (.c (.int .i64 3))⟩])
     (.ret))
     (.seq (.ops [⟨some 26, none, .faddr 0 (.t 4)⟩,
       ⟨some 27, none, .load false 1 (.t 26)⟩,
       ⟨some 28, none, .bin .eql (.t 27) (.c (.int .i64 0))⟩,
       ⟨some 29, none, .mv (.t 28)⟩,
       ⟨some 30, some (29, true), .faddr 1 (.t 4)⟩,
       ⟨some 31, some (29, true), .load false 1 (.t 30)⟩,
       ⟨some 32, some (29, true), .bin .neq (.t 31) (.c (.int .i64 0))⟩,
       ⟨some 33, none, .pick (.t 29) (.t 32) (.c (.bool false))⟩,
       ⟨some 25, none, .mv (.t 33)⟩])
     (.cond (.t 25)
      (.seq (.ops [⟨some 2, none, .mv (.c (.int .i64 1))⟩])
      (.ret))
      (.skip))))))))
  (.ops [⟨some 34, none, .bin .add (.t 10) (.c (.int .i64 1))⟩,
    ⟨some 10, none, .mv (.t 34)⟩])))
def v40 : VF := ⟨1, 35, [.t 2], true,
  .seq (.ops [⟨some 2, none, .mv (.c (.int .i64 0))⟩])
  (.seq (.seq (.ops [⟨some 5, none, .mv (.t 0)⟩,
    ⟨some 6, none, .len (.t 5)⟩,
    ⟨some 7, none, .bin .gtr (.t 6) (.c (.int .i64 24))⟩])
  (.cond (.t 7)
   (.seq (.ops [⟨some 2, none, .mv (.c (.int .i64 2))⟩])
   (.ret))
   (.skip)))
  (.seq (.seq (.ops [⟨some 8, none, .mv (.t 0)⟩,
    ⟨some 9, none, .len (.t 8)⟩,
    ⟨some 10, none, .mv (.c (.int .i64 0))⟩])
  (.block 0 (.loop [8, 9, 10] [2] l40_0)))
  (.seq (.ops [⟨some 2, none, .mv (.c (.int .i64 0))⟩])
  (.ret))))⟩
theorem ok40 : FnOK Try.prog 40 v40 := ⟨⟨Try.f40, _, Try.func40, rfl, by kernel_rfl, rfl, by decide, by kernel_rfl, by kernel_rfl⟩⟩

/-- spec.NewForest -/
def v41 : VF := ⟨1, 16, [.cell 2 true 4], true,
  .seq (.ops [⟨some 2, none, .new [.int .i64 0, .int .i64 0, .slice none 0 0, .slice none 0 0]⟩])
  (.seq (.ops [⟨some 4, none, .mv (.t 0)⟩,
    ⟨some 5, none, .call 20 [.t 4]⟩,
    ⟨some 3, none, .new [.int .i64 0, .int .i64 0, .slice none 0 0]⟩,
    ⟨none, none, .store 3 (.t 3) (.t 5)⟩])
  (.seq (.seq (.ops [⟨some 6, none, .faddr 0 (.t 3)⟩,
    ⟨some 7, none, .load false 1 (.t 6)⟩,
    ⟨some 8, none, .bin .neq (.t 7) (.c (.int .i64 0))⟩])
  (.cond (.t 8)
   (.seq (.ops [⟨some 9, none, .faddr 0 (.t 3)⟩,
     ⟨some 10, none, .load false 1 (.t 9)⟩,
     ⟨some 11, none, .call 98 [.t 10]⟩,
     ⟨none, none, .store 4 (.t 2) (.t 11)⟩])
   (.ret))
   (.skip)))
  (.seq (.ops [⟨some 12, none, .faddr 2 (.t 3)⟩,
    ⟨some 13, none, .load false 1 (.t 12)⟩,
    ⟨some 14, none, .build [.slice none 0 0, .slice none 0 0] [(1, 1, .t 13)]⟩,
    ⟨some 15, none, .build [.int .i64 0, .int .i64 0, .slice none 0 0, .slice none 0 0] [(1, 1, .c (.int .i64 (-1))), (2, 2, .t 14)]⟩,
    ⟨none, none, .store 4 (.t 2) (.t 15)⟩])
  (.ret))))⟩
theorem ok41 : FnOK Try.prog 41 v41 := ⟨⟨Try.f41, _, Try.func41, rfl, by kernel_rfl, rfl, by decide, by kernel_rfl, by kernel_rfl⟩⟩

/-- impl.NewForest -/
def v42 : VF := ⟨1, 16, [.cell 2 true 4], true,
  .seq (.ops [⟨some 2, none, .new [.int .i64 0, .int .i64 0, .slice none 0 0, .slice none 0 0]⟩])
  (.seq (.ops [⟨some 4, none, .mv (.t 0)⟩,
    ⟨some 5, none, .call 21 [.t 4]⟩,
    ⟨some 3, none, .new [.int .i64 0, .int .i64 0, .slice none 0 0]⟩,
    ⟨none, none, .store 3 (.t 3) (.t 5)⟩])
  (.seq (.seq (.ops [⟨some 6, none, .faddr 0 (.t 3)⟩,
    ⟨some 7, none, .load false 1 (.t 6)⟩,
    ⟨some 8, none, .bin .neq (.t 7) (.c (.int .i64 0))⟩])
  (.cond (.t 8)
   (.seq (.ops [⟨some 9, none, .faddr 0 (.t 3)⟩,
     ⟨some 10, none, .load false 1 (.t 9)⟩,
     ⟨some 11, none, .build [.int .i64 0, .int .i64 0, .slice none 0 0, .slice none 0 0] [(0, 1, .t 10)]⟩,
     ⟨none, none, .store 4 (.t 2) (.t 11)⟩])
   (.ret))
   (.skip)))
  (.seq (.ops [⟨some 12, none, .faddr 2 (.t 3)⟩,
    ⟨some 13, none, .load false 1 (.t 12)⟩,
    ⟨some 14, none, .build [.slice none 0 0, .slice none 0 0] [(1, 1, .t 13)]⟩,
    ⟨some 15, none, .build [.int .i64 0, .int .i64 0, .slice none 0 0, .slice none 0 0] [(1, 1, .c (.int .i64 (-1))), (2, 2, .t 14)]⟩,
    ⟨none, none, .store 4 (.t 2) (.t 15)⟩])
  (.ret))))⟩
theorem ok42 : FnOK Try.prog 42 v42 := ⟨⟨Try.f42, _, Try.func42, rfl, by kernel_rfl, rfl, by decide, by kernel_rfl, by kernel_rfl⟩⟩

/-- laws.eqForestResult -/
def v43 : VF := ⟨2, 21, [.t 4], true,
  .seq (.ops [⟨some 2, none, .box (.t 0)⟩,
    ⟨some 3, none, .box (.t 1)⟩,
    ⟨some 4, none, .mv (.c (.bool false))⟩])
  (.seq (.seq (.ops [⟨some 5, none, .faddr 0 (.t 2)⟩,
    ⟨some 6, none, .load false 1 (.t 5)⟩,
    ⟨some 7, none, .faddr 0 (.t 3)⟩,
    ⟨some 8, none, .load false 1 (.t 7)⟩,
    ⟨some 9, none, .bin .neq (.t 6) (.t 8)⟩])
  (.cond (.t 9)
   (.seq (.ops [⟨some 4, none, .mv (.c (.bool false))⟩])
   (.ret))
   (.skip)))
  (.seq (.seq (.ops [⟨some 10, none, .faddr 1 (.t 2)⟩,
    ⟨some 11, none, .load false 1 (.t 10)⟩,
    ⟨some 12, none, .faddr 1 (.t 3)⟩,
    ⟨some 13, none, .load false 1 (.t 12)⟩,
    ⟨some 14, none, .bin .neq (.t 11) (.t 13)⟩])
  (.cond (.t 14)
   (.seq (.ops [⟨some 4, none, .mv (.c (.bool false))⟩])
   (.ret))
   (.skip)))
  (.seq (.seq (.ops [⟨some 15, none, .faddr 2 (.t 2)⟩,
    ⟨some 16, none, .load true 2 (.t 15)⟩,
    ⟨some 17, none, .faddr 2 (.t 3)⟩,
    ⟨some 18, none, .load true 2 (.t 17)⟩,
    ⟨some 19, none, .call 55 [.t 16, .t 18]⟩,
    ⟨some 20, none, .not (.t 19)⟩])
  (.cond (.t 20)
   (.seq (.ops [⟨some 4, none, .mv (.c (.bool false))⟩])
   (.ret))
   (.skip)))
  (.seq (.ops [⟨some 4, none, .mv (.c (.bool true))⟩])
  (.ret)))))⟩
theorem ok43 : FnOK Try.prog 43 v43 := ⟨⟨Try.f43, _, Try.func43, rfl, by kernel_rfl, rfl, by decide, by kernel_rfl, by kernel_rfl⟩⟩
def env0 : Env := [(3, v3), (4, v4), (5, v5), (6, v6), (7, v7), (9, v9), (10, v10), (11, v11), (12, v12), (13, v13), (14, v14), (15, v15), (16, v16), (17, v17), (20, v20), (21, v21), (22, v22), (23, v23), (24, v24), (25, v25), (26, v26), (27, v27), (28, v28), (29, v29), (30, v30), (31, v31), (32, v32), (33, v33), (34, v34), (35, v35), (36, v36), (37, v37), (40, v40), (41, v41), (42, v42), (43, v43)]
theorem envOK0 : EnvOK Try.prog env0 := .cons ok3 (.cons ok4 (.cons ok5 (.cons ok6 (.cons ok7 (.cons ok9 (.cons ok10 (.cons ok11 (.cons ok12 (.cons ok13 (.cons ok14 (.cons ok15 (.cons ok16 (.cons ok17 (.cons ok20 (.cons ok21 (.cons ok22 (.cons ok23 (.cons ok24 (.cons ok25 (.cons ok26 (.cons ok27 (.cons ok28 (.cons ok29 (.cons ok30 (.cons ok31 (.cons ok32 (.cons ok33 (.cons ok34 (.cons ok35 (.cons ok36 (.cons ok37 (.cons ok40 (.cons ok41 (.cons ok42 (.cons ok43 (.nil))))))))))))))))))))))))))))))))))))
end Go.Proofs.Ytmcljallamhccaa.V
