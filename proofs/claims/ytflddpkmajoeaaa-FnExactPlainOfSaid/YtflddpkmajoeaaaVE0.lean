/- The machine's code of the program's functions; each is the program's own, by the kernel. Laid by a program (wip/v/vmgen.py). -/
import Derived.Test.YtflddpkmajoeaaaVMS
import Derived.Test.YtflddpkmajoeaaaProg
namespace Go.Proofs.Ytflddpkmajoeaaa.V
open Go
set_option maxRecDepth 100000
/-- laws.FnExactSamePools -/
def v5 : VF := ⟨2, 45, [.t 4], true,
  .seq (.ops [⟨some 2, none, .box (.t 0)⟩,
    ⟨some 3, none, .box (.t 1)⟩,
    ⟨some 4, none, .mv (.c (.bool false))⟩])
  (.seq (.ops [⟨some 5, none, .mv (.c (.int .i64 1048576))⟩])
  (.seq (.ops [⟨some 10, none, .load true 3 (.t 2)⟩,
    ⟨some 11, none, .mv (.t 5)⟩,
    ⟨some 12, none, .call 26 [.t 10, .t 11]⟩,
    ⟨some 5, none, .mv (.t 12)⟩])
  (.seq (.seq (.ops [⟨some 13, none, .mv (.t 5)⟩,
    ⟨some 14, none, .bin .lss (.t 13) (.c (.int .i64 0))⟩])
  (.cond (.t 14)
   (.seq (.ops [⟨some 4, none, .mv (.c (.bool true))⟩])
   (.ret))
   (.skip)))
  (.seq (.ops [⟨some 15, none, .load true 3 (.t 3)⟩,
    ⟨some 16, none, .mv (.t 5)⟩,
    ⟨some 17, none, .call 26 [.t 15, .t 16]⟩,
    ⟨some 5, none, .mv (.t 17)⟩])
  (.seq (.seq (.ops [⟨some 18, none, .mv (.t 5)⟩,
    ⟨some 19, none, .bin .lss (.t 18) (.c (.int .i64 0))⟩])
  (.cond (.t 19)
   (.seq (.ops [⟨some 4, none, .mv (.c (.bool true))⟩])
   (.ret))
   (.skip)))
  (.seq (.draw [⟨some 20, none, .load true 3 (.t 2)⟩,
    ⟨some 21, none, .call 28 [.t 20]⟩,
    ⟨some 22, none, .load true 3 (.t 3)⟩] [⟨some 23, none, .call 28 [.t 22]⟩,
    ⟨some 24, none, .call 27 [.t 21, .t 23]⟩,
    ⟨some 6, none, .mv (.t 24)⟩])
  (.seq (.ops [⟨some 25, none, .load true 3 (.t 2)⟩,
    ⟨some 26, none, .call 28 [.t 25]⟩,
    ⟨some 7, none, .new [.slice none 0 0, .slice none 0 0, .slice none 0 0]⟩,
    ⟨none, none, .store 3 (.t 7) (.t 26)⟩])
  (.seq (.ops [⟨some 27, none, .load true 3 (.t 3)⟩,
    ⟨some 28, none, .call 28 [.t 27]⟩,
    ⟨some 8, none, .new [.slice none 0 0, .slice none 0 0, .slice none 0 0]⟩,
    ⟨none, none, .store 3 (.t 8) (.t 28)⟩])
  (.seq (.ops [⟨some 29, none, .load true 3 (.t 7)⟩,
    ⟨some 30, none, .load true 3 (.t 8)⟩,
    ⟨some 31, none, .call 29 [.t 29, .t 30]⟩,
    ⟨some 9, none, .mv (.t 31)⟩])
  (.seq (.seq (.ops [⟨some 32, none, .mv (.t 9)⟩,
    ⟨some 33, none, .mv (.t 6)⟩,
    ⟨some 34, none, .beq true (.t 32) (.t 33)⟩])
  (.cond (.t 34)
   (.seq (.ops [⟨some 4, none, .mv (.c (.bool false))⟩])
   (.ret))
   (.skip)))
  (.seq (.seq (.draw [⟨some 35, none, .load true 3 (.t 7)⟩,
    ⟨some 36, none, .load true 3 (.t 2)⟩,
    ⟨some 37, none, .call 28 [.t 36]⟩] [⟨some 38, none, .call 30 [.t 35, .t 37]⟩,
    ⟨some 39, none, .not (.t 38)⟩])
  (.cond (.t 39)
   (.seq (.ops [⟨some 4, none, .mv (.c (.bool false))⟩])
   (.ret))
   (.skip)))
  (.seq (.seq (.draw [⟨some 40, none, .load true 3 (.t 8)⟩,
    ⟨some 41, none, .load true 3 (.t 3)⟩,
    ⟨some 42, none, .call 28 [.t 41]⟩] [⟨some 43, none, .call 30 [.t 40, .t 42]⟩,
    ⟨some 44, none, .not (.t 43)⟩])
  (.cond (.t 44)
   (.seq (.ops [⟨some 4, none, .mv (.c (.bool false))⟩])
   (.ret))
   (.skip)))
  (.seq (.ops [⟨some 4, none, .mv (.c (.bool true))⟩])
  (.ret))))))))))))))⟩
theorem ok5 : FnOK Try.prog 5 v5 := ⟨⟨Try.f5, _, Try.func5, rfl, by kernel_rfl, rfl, by decide, by kernel_rfl, by kernel_rfl⟩⟩

/-- laws.FnExactPoolFault -/
def v6 : VF := ⟨1, 27, [.t 2], true,
  .seq (.ops [⟨some 1, none, .box (.t 0)⟩,
    ⟨some 2, none, .mv (.c (.bool false))⟩])
  (.seq (.ops [⟨some 3, none, .mv (.c (.int .i64 1048576))⟩])
  (.seq (.ops [⟨some 7, none, .load true 3 (.t 1)⟩,
    ⟨some 8, none, .mv (.t 3)⟩,
    ⟨some 9, none, .call 26 [.t 7, .t 8]⟩,
    ⟨some 3, none, .mv (.t 9)⟩])
  (.seq (.seq (.ops [⟨some 10, none, .mv (.t 3)⟩,
    ⟨some 11, none, .bin .lss (.t 10) (.c (.int .i64 0))⟩])
  (.cond (.t 11)
   (.seq (.ops [⟨some 2, none, .mv (.c (.bool true))⟩])
   (.ret))
   (.skip)))
  (.seq (.ops [⟨some 12, none, .load true 3 (.t 1)⟩,
    ⟨some 13, none, .call 28 [.t 12]⟩,
    ⟨some 14, none, .call 31 [.t 13]⟩,
    ⟨some 4, none, .mv (.t 14)⟩])
  (.seq (.ops [⟨some 15, none, .load true 3 (.t 1)⟩,
    ⟨some 16, none, .call 28 [.t 15]⟩,
    ⟨some 5, none, .new [.slice none 0 0, .slice none 0 0, .slice none 0 0]⟩,
    ⟨none, none, .store 3 (.t 5) (.t 16)⟩])
  (.seq (.ops [⟨some 17, none, .load true 3 (.t 5)⟩,
    ⟨some 18, none, .call 32 [.t 17]⟩,
    ⟨some 6, none, .mv (.t 18)⟩])
  (.seq (.seq (.ops [⟨some 19, none, .mv (.t 6)⟩,
    ⟨some 20, none, .mv (.t 4)⟩,
    ⟨some 21, none, .bin .neq (.t 19) (.t 20)⟩])
  (.cond (.t 21)
   (.seq (.ops [⟨some 2, none, .mv (.c (.bool false))⟩])
   (.ret))
   (.skip)))
  (.seq (.seq (.draw [⟨some 22, none, .load true 3 (.t 5)⟩,
    ⟨some 23, none, .load true 3 (.t 1)⟩,
    ⟨some 24, none, .call 28 [.t 23]⟩] [⟨some 25, none, .call 30 [.t 22, .t 24]⟩,
    ⟨some 26, none, .not (.t 25)⟩])
  (.cond (.t 26)
   (.seq (.ops [⟨some 2, none, .mv (.c (.bool false))⟩])
   (.ret))
   (.skip)))
  (.seq (.ops [⟨some 2, none, .mv (.c (.bool true))⟩])
  (.ret))))))))))⟩
theorem ok6 : FnOK Try.prog 6 v6 := ⟨⟨Try.f6, _, Try.func6, rfl, by kernel_rfl, rfl, by decide, by kernel_rfl, by kernel_rfl⟩⟩

/-- laws.FnExactVolAt -/
def v7 : VF := ⟨2, 32, [.t 4], true,
  .seq (.ops [⟨some 2, none, .box (.t 0)⟩,
    ⟨some 4, none, .mv (.c (.bool false))⟩])
  (.seq (.ops [⟨some 5, none, .mv (.c (.int .i64 1048576))⟩])
  (.seq (.ops [⟨some 9, none, .load true 3 (.t 2)⟩,
    ⟨some 10, none, .mv (.t 5)⟩,
    ⟨some 11, none, .call 26 [.t 9, .t 10]⟩,
    ⟨some 5, none, .mv (.t 11)⟩])
  (.seq (.seq (.ops [⟨some 12, none, .mv (.t 5)⟩,
    ⟨some 13, none, .bin .lss (.t 12) (.c (.int .i64 0))⟩])
  (.cond (.t 13)
   (.seq (.ops [⟨some 4, none, .mv (.c (.bool true))⟩])
   (.ret))
   (.skip)))
  (.seq (.ops [⟨some 14, none, .load true 3 (.t 2)⟩,
    ⟨some 15, none, .call 28 [.t 14]⟩,
    ⟨some 16, none, .mv (.t 1)⟩,
    ⟨some 17, none, .call 33 [.t 15, .t 16]⟩,
    ⟨some 6, none, .new [.int .i64 0, .int .i64 0]⟩,
    ⟨none, none, .store 2 (.t 6) (.t 17)⟩])
  (.seq (.ops [⟨some 18, none, .load true 3 (.t 2)⟩,
    ⟨some 19, none, .call 28 [.t 18]⟩,
    ⟨some 7, none, .new [.slice none 0 0, .slice none 0 0, .slice none 0 0]⟩,
    ⟨none, none, .store 3 (.t 7) (.t 19)⟩])
  (.seq (.ops [⟨some 20, none, .load true 3 (.t 7)⟩,
    ⟨some 21, none, .mv (.t 1)⟩,
    ⟨some 22, none, .call 34 [.t 20, .t 21]⟩,
    ⟨some 8, none, .new [.int .i64 0, .int .i64 0]⟩,
    ⟨none, none, .store 2 (.t 8) (.t 22)⟩])
  (.seq (.seq (.ops [⟨some 23, none, .load true 2 (.t 8)⟩,
    ⟨some 24, none, .load true 2 (.t 6)⟩,
    ⟨some 25, none, .call 35 [.t 23, .t 24]⟩,
    ⟨some 26, none, .not (.t 25)⟩])
  (.cond (.t 26)
   (.seq (.ops [⟨some 4, none, .mv (.c (.bool false))⟩])
   (.ret))
   (.skip)))
  (.seq (.seq (.draw [⟨some 27, none, .load true 3 (.t 7)⟩,
    ⟨some 28, none, .load true 3 (.t 2)⟩,
    ⟨some 29, none, .call 28 [.t 28]⟩] [⟨some 30, none, .call 30 [.t 27, .t 29]⟩,
    ⟨some 31, none, .not (.t 30)⟩])
  (.cond (.t 31)
   (.seq (.ops [⟨some 4, none, .mv (.c (.bool false))⟩])
   (.ret))
   (.skip)))
  (.seq (.ops [⟨some 4, none, .mv (.c (.bool true))⟩])
  (.ret))))))))))⟩
theorem ok7 : FnOK Try.prog 7 v7 := ⟨⟨Try.f7, _, Try.func7, rfl, by kernel_rfl, rfl, by decide, by kernel_rfl, by kernel_rfl⟩⟩

/-- laws.FnExactUsedOf -/
def v8 : VF := ⟨2, 32, [.t 4], true,
  .seq (.ops [⟨some 2, none, .box (.t 0)⟩,
    ⟨some 4, none, .mv (.c (.bool false))⟩])
  (.seq (.ops [⟨some 5, none, .mv (.c (.int .i64 1048576))⟩])
  (.seq (.ops [⟨some 9, none, .load true 3 (.t 2)⟩,
    ⟨some 10, none, .mv (.t 5)⟩,
    ⟨some 11, none, .call 26 [.t 9, .t 10]⟩,
    ⟨some 5, none, .mv (.t 11)⟩])
  (.seq (.seq (.ops [⟨some 12, none, .mv (.t 5)⟩,
    ⟨some 13, none, .bin .lss (.t 12) (.c (.int .i64 0))⟩])
  (.cond (.t 13)
   (.seq (.ops [⟨some 4, none, .mv (.c (.bool true))⟩])
   (.ret))
   (.skip)))
  (.seq (.ops [⟨some 14, none, .load true 3 (.t 2)⟩,
    ⟨some 15, none, .call 28 [.t 14]⟩,
    ⟨some 16, none, .mv (.t 1)⟩,
    ⟨some 17, none, .call 36 [.t 15, .t 16]⟩,
    ⟨some 6, none, .new [.int .i64 0, .int .i64 0]⟩,
    ⟨none, none, .store 2 (.t 6) (.t 17)⟩])
  (.seq (.ops [⟨some 18, none, .load true 3 (.t 2)⟩,
    ⟨some 19, none, .call 28 [.t 18]⟩,
    ⟨some 7, none, .new [.slice none 0 0, .slice none 0 0, .slice none 0 0]⟩,
    ⟨none, none, .store 3 (.t 7) (.t 19)⟩])
  (.seq (.ops [⟨some 20, none, .load true 3 (.t 7)⟩,
    ⟨some 21, none, .mv (.t 1)⟩,
    ⟨some 22, none, .call 37 [.t 20, .t 21]⟩,
    ⟨some 8, none, .new [.int .i64 0, .int .i64 0]⟩,
    ⟨none, none, .store 2 (.t 8) (.t 22)⟩])
  (.seq (.seq (.ops [⟨some 23, none, .load true 2 (.t 8)⟩,
    ⟨some 24, none, .load true 2 (.t 6)⟩,
    ⟨some 25, none, .call 35 [.t 23, .t 24]⟩,
    ⟨some 26, none, .not (.t 25)⟩])
  (.cond (.t 26)
   (.seq (.ops [⟨some 4, none, .mv (.c (.bool false))⟩])
   (.ret))
   (.skip)))
  (.seq (.seq (.draw [⟨some 27, none, .load true 3 (.t 7)⟩,
    ⟨some 28, none, .load true 3 (.t 2)⟩,
    ⟨some 29, none, .call 28 [.t 28]⟩] [⟨some 30, none, .call 30 [.t 27, .t 29]⟩,
    ⟨some 31, none, .not (.t 30)⟩])
  (.cond (.t 31)
   (.seq (.ops [⟨some 4, none, .mv (.c (.bool false))⟩])
   (.ret))
   (.skip)))
  (.seq (.ops [⟨some 4, none, .mv (.c (.bool true))⟩])
  (.ret))))))))))⟩
theorem ok8 : FnOK Try.prog 8 v8 := ⟨⟨Try.f8, _, Try.func8, rfl, by kernel_rfl, rfl, by decide, by kernel_rfl, by kernel_rfl⟩⟩

/-- laws.FnExactPlainOf -/
def v9 : VF := ⟨1, 69, [.t 2], true,
  .seq (.ops [⟨some 1, none, .box (.t 0)⟩,
    ⟨some 2, none, .mv (.c (.bool false))⟩])
  (.seq (.ops [⟨some 3, none, .mv (.c (.int .i64 1048576))⟩])
  (.seq (.ops [⟨some 11, none, .load true 3 (.t 1)⟩,
    ⟨some 12, none, .mv (.t 3)⟩,
    ⟨some 13, none, .call 26 [.t 11, .t 12]⟩,
    ⟨some 3, none, .mv (.t 13)⟩])
  (.seq (.seq (.ops [⟨some 14, none, .mv (.t 3)⟩,
    ⟨some 15, none, .bin .lss (.t 14) (.c (.int .i64 0))⟩])
  (.cond (.t 15)
   (.seq (.ops [⟨some 2, none, .mv (.c (.bool true))⟩])
   (.ret))
   (.skip)))
  (.seq (.ops [⟨some 16, none, .load true 3 (.t 1)⟩,
    ⟨some 17, none, .call 28 [.t 16]⟩,
    ⟨some 18, none, .call 38 [.t 17]⟩,
    ⟨some 4, none, .new [.int .i64 0, .int .i64 0, .int .i64 0, .int .i64 0, .slice none 0 0, .slice none 0 0, .slice none 0 0]⟩,
    ⟨none, none, .store 7 (.t 4) (.t 18)⟩])
  (.seq (.ops [⟨some 19, none, .load true 3 (.t 1)⟩,
    ⟨some 20, none, .call 28 [.t 19]⟩,
    ⟨some 5, none, .new [.slice none 0 0, .slice none 0 0, .slice none 0 0]⟩,
    ⟨none, none, .store 3 (.t 5) (.t 20)⟩])
  (.seq (.ops [⟨some 21, none, .load true 3 (.t 5)⟩,
    ⟨some 22, none, .call 39 [.t 21]⟩,
    ⟨some 6, none, .new [.int .i64 0, .int .i64 0, .int .i64 0, .int .i64 0, .slice none 0 0, .slice none 0 0, .slice none 0 0]⟩,
    ⟨none, none, .store 7 (.t 6) (.t 22)⟩])
  (.seq (.seq (.ops [⟨some 23, none, .load true 7 (.t 6)⟩,
    ⟨some 24, none, .load true 7 (.t 4)⟩,
    ⟨some 25, none, .call 40 [.t 23, .t 24]⟩,
    ⟨some 26, none, .not (.t 25)⟩])
  (.cond (.t 26)
   (.seq (.ops [⟨some 2, none, .mv (.c (.bool false))⟩])
   (.ret))
   (.skip)))
  (.seq (.seq (.draw [⟨some 27, none, .load true 3 (.t 5)⟩,
    ⟨some 28, none, .load true 3 (.t 1)⟩,
    ⟨some 29, none, .call 28 [.t 28]⟩] [⟨some 30, none, .call 30 [.t 27, .t 29]⟩,
    ⟨some 31, none, .not (.t 30)⟩])
  (.cond (.t 31)
   (.seq (.ops [⟨some 2, none, .mv (.c (.bool false))⟩])
   (.ret))
   (.skip)))
  (.seq (.ops [⟨some 7, none, .mv (.c (.int .i64 1))⟩])
  (.seq (.ops [⟨some 32, none, .load true 3 (.t 5)⟩,
    ⟨some 33, none, .mv (.t 7)⟩,
    ⟨some 34, none, .call 41 [.t 32, .t 33]⟩,
    ⟨some 7, none, .mv (.t 34)⟩])
  (.seq (.seq (.ops [⟨some 35, none, .mv (.t 7)⟩,
    ⟨some 36, none, .bin .lss (.t 35) (.c (.int .i64 0))⟩,
    ⟨some 37, none, .mv (.t 36)⟩,
    ⟨some 38, some (37, false), .load true 7 (.t 6)⟩,
    ⟨some 39, some (37, false), .load true 7 (.t 4)⟩,
    ⟨some 40, some (37, false), .call 40 [.t 38, .t 39]⟩,
    ⟨some 41, some (37, false), .not (.t 40)⟩,
    ⟨some 42, none, .pick (.t 37) (.c (.bool true)) (.t 41)⟩])
  (.cond (.t 42)
   (.seq (.ops [⟨some 2, none, .mv (.c (.bool false))⟩])
   (.ret))
   (.skip)))
  (.seq (.ops [⟨some 8, none, .mv (.c (.int .i64 1))⟩])
  (.seq (.ops [⟨some 43, none, .load true 7 (.t 6)⟩,
    ⟨some 44, none, .mv (.t 8)⟩,
    ⟨some 45, none, .call 42 [.t 43, .t 44]⟩,
    ⟨some 8, none, .mv (.t 45)⟩])
  (.seq (.ops [⟨some 9, none, .mv (.c (.int .i64 1))⟩])
  (.seq (.ops [⟨some 46, none, .load true 7 (.t 6)⟩,
    ⟨some 47, none, .mv (.t 9)⟩,
    ⟨some 48, none, .call 43 [.t 46, .t 47]⟩,
    ⟨some 9, none, .mv (.t 48)⟩])
  (.seq (.seq (.ops [⟨some 49, none, .mv (.t 9)⟩,
    ⟨some 50, none, .bin .lss (.t 49) (.c (.int .i64 0))⟩])
  (.cond (.t 50)
   (.seq (.ops [⟨some 2, none, .mv (.c (.bool false))⟩])
   (.ret))
   (.skip)))
  (.seq (.seq (.ops [⟨some 51, none, .mv (.t 9)⟩,
    ⟨some 52, none, .mv (.t 8)⟩,
    ⟨some 53, none, .bin .neq (.t 51) (.t 52)⟩])
  (.cond (.t 53)
   (.seq (.ops [⟨some 2, none, .mv (.c (.bool false))⟩])
   (.ret))
   (.skip)))
  (.seq (.ops [⟨some 54, none, .load true 3 (.t 1)⟩,
    ⟨some 55, none, .call 28 [.t 54]⟩,
    ⟨some 56, none, .call 39 [.t 55]⟩,
    ⟨some 10, none, .new [.int .i64 0, .int .i64 0, .int .i64 0, .int .i64 0, .slice none 0 0, .slice none 0 0, .slice none 0 0]⟩,
    ⟨none, none, .store 7 (.t 10) (.t 56)⟩])
  (.seq (.seq (.ops [⟨some 57, none, .load true 7 (.t 10)⟩,
    ⟨some 58, none, .load true 7 (.t 4)⟩,
    ⟨some 59, none, .call 40 [.t 57, .t 58]⟩,
    ⟨some 60, none, .not (.t 59)⟩])
  (.cond (.t 60)
   (.seq (.ops [⟨some 2, none, .mv (.c (.bool false))⟩])
   (.ret))
   (.skip)))
  (.seq (.ops [⟨some 9, none, .mv (.c (.int .i64 1))⟩])
  (.seq (.ops [⟨some 61, none, .load true 7 (.t 6)⟩,
    ⟨some 62, none, .mv (.t 9)⟩,
    ⟨some 63, none, .call 43 [.t 61, .t 62]⟩,
    ⟨some 9, none, .mv (.t 63)⟩])
  (.seq (.seq (.ops [⟨some 64, none, .mv (.t 9)⟩,
    ⟨some 65, none, .bin .lss (.t 64) (.c (.int .i64 0))⟩])
  (.cond (.t 65)
   (.seq (.ops [⟨some 2, none, .mv (.c (.bool false))⟩])
   (.ret))
   (.skip)))
  (.seq (.seq (.ops [⟨some 66, none, .mv (.t 9)⟩,
    ⟨some 67, none, .mv (.t 8)⟩,
    ⟨some 68, none, .bin .neq (.t 66) (.t 67)⟩])
  (.cond (.t 68)
   (.seq (.ops [⟨some 2, none, .mv (.c (.bool false))⟩])
   (.ret))
   (.skip)))
  (.seq (.ops [⟨some 2, none, .mv (.c (.bool true))⟩])
  (.ret)))))))))))))))))))))))))⟩
theorem ok9 : FnOK Try.prog 9 v9 := ⟨⟨Try.f9, _, Try.func9, rfl, by kernel_rfl, rfl, by decide, by kernel_rfl, by kernel_rfl⟩⟩

/-- laws.FnExactPlainFault -/
def v10 : VF := ⟨1, 27, [.t 2], true,
  .seq (.ops [⟨some 1, none, .box (.t 0)⟩,
    ⟨some 2, none, .mv (.c (.bool false))⟩])
  (.seq (.ops [⟨some 3, none, .mv (.c (.int .i64 1048576))⟩])
  (.seq (.ops [⟨some 7, none, .load true 4 (.t 1)⟩,
    ⟨some 8, none, .mv (.t 3)⟩,
    ⟨some 9, none, .call 21 [.t 7, .t 8]⟩,
    ⟨some 3, none, .mv (.t 9)⟩])
  (.seq (.seq (.ops [⟨some 10, none, .mv (.t 3)⟩,
    ⟨some 11, none, .bin .lss (.t 10) (.c (.int .i64 0))⟩])
  (.cond (.t 11)
   (.seq (.ops [⟨some 2, none, .mv (.c (.bool true))⟩])
   (.ret))
   (.skip)))
  (.seq (.ops [⟨some 12, none, .load true 4 (.t 1)⟩,
    ⟨some 13, none, .call 23 [.t 12]⟩,
    ⟨some 14, none, .call 44 [.t 13]⟩,
    ⟨some 4, none, .mv (.t 14)⟩])
  (.seq (.ops [⟨some 15, none, .load true 4 (.t 1)⟩,
    ⟨some 16, none, .call 23 [.t 15]⟩,
    ⟨some 5, none, .new [.int .i64 0, .slice none 0 0, .slice none 0 0, .slice none 0 0]⟩,
    ⟨none, none, .store 4 (.t 5) (.t 16)⟩])
  (.seq (.ops [⟨some 17, none, .load true 4 (.t 5)⟩,
    ⟨some 18, none, .call 45 [.t 17]⟩,
    ⟨some 6, none, .mv (.t 18)⟩])
  (.seq (.seq (.ops [⟨some 19, none, .mv (.t 6)⟩,
    ⟨some 20, none, .mv (.t 4)⟩,
    ⟨some 21, none, .bin .neq (.t 19) (.t 20)⟩])
  (.cond (.t 21)
   (.seq (.ops [⟨some 2, none, .mv (.c (.bool false))⟩])
   (.ret))
   (.skip)))
  (.seq (.seq (.draw [⟨some 22, none, .load true 4 (.t 5)⟩,
    ⟨some 23, none, .load true 4 (.t 1)⟩,
    ⟨some 24, none, .call 23 [.t 23]⟩] [⟨some 25, none, .call 25 [.t 22, .t 24]⟩,
    ⟨some 26, none, .not (.t 25)⟩])
  (.cond (.t 26)
   (.seq (.ops [⟨some 2, none, .mv (.c (.bool false))⟩])
   (.ret))
   (.skip)))
  (.seq (.ops [⟨some 2, none, .mv (.c (.bool true))⟩])
  (.ret))))))))))⟩
theorem ok10 : FnOK Try.prog 10 v10 := ⟨⟨Try.f10, _, Try.func10, rfl, by kernel_rfl, rfl, by decide, by kernel_rfl, by kernel_rfl⟩⟩

/-- laws.FnExactCellIn -/
def v11 : VF := ⟨3, 36, [.t 6], true,
  .seq (.ops [⟨some 3, none, .box (.t 0)⟩,
    ⟨some 6, none, .mv (.c (.bool false))⟩])
  (.seq (.ops [⟨some 7, none, .mv (.c (.int .i64 1048576))⟩])
  (.seq (.ops [⟨some 11, none, .load true 4 (.t 3)⟩,
    ⟨some 12, none, .mv (.t 7)⟩,
    ⟨some 13, none, .call 21 [.t 11, .t 12]⟩,
    ⟨some 7, none, .mv (.t 13)⟩])
  (.seq (.seq (.ops [⟨some 14, none, .mv (.t 7)⟩,
    ⟨some 15, none, .bin .lss (.t 14) (.c (.int .i64 0))⟩])
  (.cond (.t 15)
   (.seq (.ops [⟨some 6, none, .mv (.c (.bool true))⟩])
   (.ret))
   (.skip)))
  (.seq (.ops [⟨some 16, none, .load true 4 (.t 3)⟩,
    ⟨some 17, none, .call 23 [.t 16]⟩,
    ⟨some 18, none, .mv (.t 1)⟩,
    ⟨some 19, none, .mv (.t 2)⟩,
    ⟨some 20, none, .call 46 [.t 17, .t 18, .t 19]⟩,
    ⟨some 8, none, .new [.int .i64 0, .int .i64 0]⟩,
    ⟨none, none, .store 2 (.t 8) (.t 20)⟩])
  (.seq (.ops [⟨some 21, none, .load true 4 (.t 3)⟩,
    ⟨some 22, none, .call 23 [.t 21]⟩,
    ⟨some 9, none, .new [.int .i64 0, .slice none 0 0, .slice none 0 0, .slice none 0 0]⟩,
    ⟨none, none, .store 4 (.t 9) (.t 22)⟩])
  (.seq (.ops [⟨some 23, none, .load true 4 (.t 9)⟩,
    ⟨some 24, none, .mv (.t 1)⟩,
    ⟨some 25, none, .mv (.t 2)⟩,
    ⟨some 26, none, .call 47 [.t 23, .t 24, .t 25]⟩,
    ⟨some 10, none, .new [.int .i64 0, .int .i64 0]⟩,
    ⟨none, none, .store 2 (.t 10) (.t 26)⟩])
  (.seq (.seq (.ops [⟨some 27, none, .load true 2 (.t 10)⟩,
    ⟨some 28, none, .load true 2 (.t 8)⟩,
    ⟨some 29, none, .call 35 [.t 27, .t 28]⟩,
    ⟨some 30, none, .not (.t 29)⟩])
  (.cond (.t 30)
   (.seq (.ops [⟨some 6, none, .mv (.c (.bool false))⟩])
   (.ret))
   (.skip)))
  (.seq (.seq (.draw [⟨some 31, none, .load true 4 (.t 9)⟩,
    ⟨some 32, none, .load true 4 (.t 3)⟩,
    ⟨some 33, none, .call 23 [.t 32]⟩] [⟨some 34, none, .call 25 [.t 31, .t 33]⟩,
    ⟨some 35, none, .not (.t 34)⟩])
  (.cond (.t 35)
   (.seq (.ops [⟨some 6, none, .mv (.c (.bool false))⟩])
   (.ret))
   (.skip)))
  (.seq (.ops [⟨some 6, none, .mv (.c (.bool true))⟩])
  (.ret))))))))))⟩
theorem ok11 : FnOK Try.prog 11 v11 := ⟨⟨Try.f11, _, Try.func11, rfl, by kernel_rfl, rfl, by decide, by kernel_rfl, by kernel_rfl⟩⟩

/-- laws.toInt64S -/
def l14_0 : VC :=
  .seq (.seq (.ops [⟨some 8, none, .mv (.t 4)⟩,
    ⟨some 9, none, .mv (.t 0)⟩,
    ⟨some 10, none, .len (.t 9)⟩,
    ⟨some 11, none, .bin .lss (.t 8) (.t 10)⟩])
  (.cond (.t 11)
   (.skip)
   (.exit 0)))
  (.seq (.block 1 (.ops [⟨some 14, none, .mv (.t 3)⟩,
     ⟨some 15, none, .mv (.t 4)⟩,
     ⟨some 16, none, .mv (.t 0)⟩,
     ⟨some 17, none, .mv (.t 4)⟩,
     ⟨some 18, none, .iaddr 1 (.t 16) (.t 17)⟩,
     ⟨some 19, none, .load false 1 (.t 18)⟩,
     ⟨some 20, none, .iaddr 1 (.t 14) (.t 15)⟩,
     ⟨none, none, .store 1 (.t 20) (.t 19)⟩]))
  (.ops [⟨some 12, none, .mv (.t 4)⟩,
    ⟨some 13, none, .bin .add (.t 12) (.c (.int .i64 1))⟩,
    ⟨some 4, none, .mv (.t 13)⟩]))
def v14 : VF := ⟨1, 22, [.t 2], true,
  .seq (.ops [⟨some 2, none, .mv (.c (.slice none 0 0))⟩])
  (.seq (.ops [⟨some 5, none, .mv (.t 0)⟩,
    ⟨some 6, none, .len (.t 5)⟩,
    ⟨some 7, none, .mkslice 1 8 [.int .i64 0] (.t 6) (.t 6)⟩,
    ⟨some 3, none, .mv (.t 7)⟩])
  (.seq (.seq (.ops [⟨some 4, none, .mv (.c (.int .i64 0))⟩])
  (.block 0 (.loop [0, 3, 4] [2, 3] l14_0)))
  (.seq (.ops [⟨some 21, none, .mv (.t 3)⟩,
    ⟨some 2, none, .mv (.t 21)⟩])
  (.ret))))⟩
theorem ok14 : FnOK Try.prog 14 v14 := ⟨⟨Try.f14, _, Try.func14, rfl, by kernel_rfl, rfl, by decide, by kernel_rfl, by kernel_rfl⟩⟩

/-- laws.eqInt64S -/
def l17_0 : VC :=
  .seq (.seq (.ops [⟨some 11, none, .mv (.t 5)⟩,
    ⟨some 12, none, .mv (.t 0)⟩,
    ⟨some 13, none, .len (.t 12)⟩,
    ⟨some 14, none, .bin .lss (.t 11) (.t 13)⟩])
  (.cond (.t 14)
   (.skip)
   (.exit 0)))
  (.seq (.block 1 (.seq (.draw [⟨some 17, none, .mv (.t 0)⟩,
     ⟨some 18, none, .mv (.t 5)⟩,
     ⟨some 19, none, .iaddr 1 (.t 17) (.t 18)⟩,
     ⟨some 20, none, .load false 1 (.t 19)⟩,
     ⟨some 21, none, .mv (.t 1)⟩,
     ⟨some 22, none, .mv (.t 5)⟩,
     ⟨some 23, none, .iaddr 1 (.t 21) (.t 22)⟩,
     ⟨some 24, none, .load false 1 (.t 23)⟩] [⟨some 25, none, .bin .neq (.t 20) (.t 24)⟩])
   (.cond (.t 25)
    (.seq (.ops [⟨some 4, none, .mv (.c (.bool false))⟩])
    (.ret))
    (.skip))))
  (.ops [⟨some 15, none, .mv (.t 5)⟩,
    ⟨some 16, none, .bin .add (.t 15) (.c (.int .i64 1))⟩,
    ⟨some 5, none, .mv (.t 16)⟩]))
def v17 : VF := ⟨2, 26, [.t 4], true,
  .seq (.ops [⟨some 4, none, .mv (.c (.bool false))⟩])
  (.seq (.seq (.ops [⟨some 6, none, .mv (.t 0)⟩,
    ⟨some 7, none, .len (.t 6)⟩,
    ⟨some 8, none, .mv (.t 1)⟩,
    ⟨some 9, none, .len (.t 8)⟩,
    ⟨some 10, none, .bin .neq (.t 7) (.t 9)⟩])
  (.cond (.t 10)
   (.seq (.ops [⟨some 4, none, .mv (.c (.bool false))⟩])
   (.ret))
   (.skip)))
  (.seq (.seq (.ops [⟨some 5, none, .mv (.c (.int .i64 0))⟩])
  (.block 0 (.loop [0, 1, 5] [4] l17_0)))
  (.seq (.ops [⟨some 4, none, .mv (.c (.bool true))⟩])
  (.ret))))⟩
theorem ok17 : FnOK Try.prog 17 v17 := ⟨⟨Try.f17, _, Try.func17, rfl, by kernel_rfl, rfl, by decide, by kernel_rfl, by kernel_rfl⟩⟩

/-- laws.markInt64S -/
def l18_0 : VC :=
  .seq (.seq (.ops [⟨some 6, none, .mv (.t 5)⟩,
    ⟨some 7, none, .mv (.t 0)⟩,
    ⟨some 8, none, .len (.t 7)⟩,
    ⟨some 9, none, .bin .lss (.t 6) (.t 8)⟩])
  (.cond (.t 9)
   (.skip)
   (.exit 0)))
  (.seq (.block 1 (.seq (.ops [⟨some 12, none, .mv (.t 0)⟩,
     ⟨some 13, none, .mv (.t 5)⟩,
     ⟨some 14, none, .mv (.t 1)⟩,
     ⟨some 15, none, .iaddr 1 (.t 12) (.t 13)⟩,
     ⟨none, none, .store 1 (.t 15) (.t 14)⟩])
   (.ops [⟨some 16, none, .mv (.t 1)⟩,
     ⟨some 17, none, .bin .add (.t 16) (.c (.int .i64 1))⟩,
     ⟨some 1, none, .mv (.t 17)⟩])))
  (.ops [⟨some 10, none, .mv (.t 5)⟩,
    ⟨some 11, none, .bin .add (.t 10) (.c (.int .i64 1))⟩,
    ⟨some 5, none, .mv (.t 11)⟩]))
def v18 : VF := ⟨2, 19, [.t 4], false,
  .seq (.ops [⟨some 4, none, .mv (.c (.int .i64 0))⟩])
  (.seq (.seq (.ops [⟨some 5, none, .mv (.c (.int .i64 0))⟩])
  (.block 0 (.loop [0, 1, 5] [1, 4] l18_0)))
  (.seq (.ops [⟨some 18, none, .mv (.t 1)⟩,
    ⟨some 4, none, .mv (.t 18)⟩])
  (.ret)))⟩
theorem ok18 : FnOK Try.prog 18 v18 := ⟨⟨Try.f18, _, Try.func18, rfl, by kernel_rfl, rfl, by decide, by kernel_rfl, by kernel_rfl⟩⟩

/-- laws.szPlain -/
def v21 : VF := ⟨2, 24, [.t 4], true,
  .seq (.ops [⟨some 2, none, .box (.t 0)⟩,
    ⟨some 4, none, .mv (.c (.int .i64 0))⟩])
  (.seq (.ops [⟨some 5, none, .faddr 1 (.t 2)⟩,
    ⟨some 6, none, .load false 1 (.t 5)⟩,
    ⟨some 7, none, .mv (.t 1)⟩,
    ⟨some 8, none, .call 58 [.t 6, .t 7]⟩,
    ⟨some 1, none, .mv (.t 8)⟩])
  (.seq (.seq (.ops [⟨some 9, none, .mv (.t 1)⟩,
    ⟨some 10, none, .bin .lss (.t 9) (.c (.int .i64 0))⟩])
  (.cond (.t 10)
   (.seq (.ops [⟨some 4, none, .mv (.c (.int .i64 (-1)))⟩])
   (.ret))
   (.skip)))
  (.seq (.ops [⟨some 11, none, .faddr 2 (.t 2)⟩,
    ⟨some 12, none, .load false 1 (.t 11)⟩,
    ⟨some 13, none, .mv (.t 1)⟩,
    ⟨some 14, none, .call 59 [.t 12, .t 13]⟩,
    ⟨some 1, none, .mv (.t 14)⟩])
  (.seq (.seq (.ops [⟨some 15, none, .mv (.t 1)⟩,
    ⟨some 16, none, .bin .lss (.t 15) (.c (.int .i64 0))⟩])
  (.cond (.t 16)
   (.seq (.ops [⟨some 4, none, .mv (.c (.int .i64 (-1)))⟩])
   (.ret))
   (.skip)))
  (.seq (.ops [⟨some 17, none, .faddr 3 (.t 2)⟩,
    ⟨some 18, none, .load false 1 (.t 17)⟩,
    ⟨some 19, none, .mv (.t 1)⟩,
    ⟨some 20, none, .call 60 [.t 18, .t 19]⟩,
    ⟨some 1, none, .mv (.t 20)⟩])
  (.seq (.seq (.ops [⟨some 21, none, .mv (.t 1)⟩,
    ⟨some 22, none, .bin .lss (.t 21) (.c (.int .i64 0))⟩])
  (.cond (.t 22)
   (.seq (.ops [⟨some 4, none, .mv (.c (.int .i64 (-1)))⟩])
   (.ret))
   (.skip)))
  (.seq (.ops [⟨some 23, none, .mv (.t 1)⟩,
    ⟨some 4, none, .mv (.t 23)⟩])
  (.ret))))))))⟩
theorem ok21 : FnOK Try.prog 21 v21 := ⟨⟨Try.f21, _, Try.func21, rfl, by kernel_rfl, rfl, by decide, by kernel_rfl, by kernel_rfl⟩⟩

/-- laws.toPlain -/
def v23 : VF := ⟨1, 20, [.cell 2 true 4], true,
  .seq (.ops [⟨some 1, none, .box (.t 0)⟩,
    ⟨some 2, none, .new [.int .i64 0, .slice none 0 0, .slice none 0 0, .slice none 0 0]⟩])
  (.seq (.ops [⟨some 3, none, .new [.int .i64 0, .slice none 0 0, .slice none 0 0, .slice none 0 0]⟩])
  (.seq (.ops [⟨some 4, none, .faddr 0 (.t 1)⟩,
    ⟨some 5, none, .load false 1 (.t 4)⟩,
    ⟨some 6, none, .faddr 0 (.t 3)⟩,
    ⟨none, none, .store 1 (.t 6) (.t 5)⟩])
  (.seq (.ops [⟨some 7, none, .faddr 1 (.t 1)⟩,
    ⟨some 8, none, .load false 1 (.t 7)⟩,
    ⟨some 9, none, .call 61 [.t 8]⟩,
    ⟨some 10, none, .faddr 1 (.t 3)⟩,
    ⟨none, none, .store 1 (.t 10) (.t 9)⟩])
  (.seq (.ops [⟨some 11, none, .faddr 2 (.t 1)⟩,
    ⟨some 12, none, .load false 1 (.t 11)⟩,
    ⟨some 13, none, .call 62 [.t 12]⟩,
    ⟨some 14, none, .faddr 2 (.t 3)⟩,
    ⟨none, none, .store 1 (.t 14) (.t 13)⟩])
  (.seq (.ops [⟨some 15, none, .faddr 3 (.t 1)⟩,
    ⟨some 16, none, .load false 1 (.t 15)⟩,
    ⟨some 17, none, .call 14 [.t 16]⟩,
    ⟨some 18, none, .faddr 3 (.t 3)⟩,
    ⟨none, none, .store 1 (.t 18) (.t 17)⟩])
  (.seq (.ops [⟨some 19, none, .load true 4 (.t 3)⟩,
    ⟨none, none, .store 4 (.t 2) (.t 19)⟩])
  (.ret)))))))⟩
theorem ok23 : FnOK Try.prog 23 v23 := ⟨⟨Try.f23, _, Try.func23, rfl, by kernel_rfl, rfl, by decide, by kernel_rfl, by kernel_rfl⟩⟩

/-- laws.eqPlain -/
def v25 : VF := ⟨2, 28, [.t 4], true,
  .seq (.ops [⟨some 2, none, .box (.t 0)⟩,
    ⟨some 3, none, .box (.t 1)⟩,
    ⟨some 4, none, .mv (.c (.bool false))⟩])
  (.seq (.seq (.ops [⟨some 5, none, .faddr 0 (.t 2)⟩,
    ⟨some 6, none, .load false 1 (.t 5)⟩,
    ⟨some 7, none, .faddr 0 (.t 3)⟩,
    ⟨some 8, none, .load false 1 (.t 7)⟩,
    ⟨some 9, none, .bin .neq (.t 6) (.t 8)⟩])
  (.cond (.t 9)
   (.seq (.ops [⟨some 4, none, .mv (.c (.bool false))⟩])
   (.ret))
   (.skip)))
  (.seq (.seq (.ops [⟨some 10, none, .faddr 1 (.t 2)⟩,
    ⟨some 11, none, .load false 1 (.t 10)⟩,
    ⟨some 12, none, .faddr 1 (.t 3)⟩,
    ⟨some 13, none, .load false 1 (.t 12)⟩,
    ⟨some 14, none, .call 65 [.t 11, .t 13]⟩,
    ⟨some 15, none, .not (.t 14)⟩])
  (.cond (.t 15)
   (.seq (.ops [⟨some 4, none, .mv (.c (.bool false))⟩])
   (.ret))
   (.skip)))
  (.seq (.seq (.ops [⟨some 16, none, .faddr 2 (.t 2)⟩,
    ⟨some 17, none, .load false 1 (.t 16)⟩,
    ⟨some 18, none, .faddr 2 (.t 3)⟩,
    ⟨some 19, none, .load false 1 (.t 18)⟩,
    ⟨some 20, none, .call 66 [.t 17, .t 19]⟩,
    ⟨some 21, none, .not (.t 20)⟩])
  (.cond (.t 21)
   (.seq (.ops [⟨some 4, none, .mv (.c (.bool false))⟩])
   (.ret))
   (.skip)))
  (.seq (.seq (.ops [⟨some 22, none, .faddr 3 (.t 2)⟩,
    ⟨some 23, none, .load false 1 (.t 22)⟩,
    ⟨some 24, none, .faddr 3 (.t 3)⟩,
    ⟨some 25, none, .load false 1 (.t 24)⟩,
    ⟨some 26, none, .call 17 [.t 23, .t 25]⟩,
    ⟨some 27, none, .not (.t 26)⟩])
  (.cond (.t 27)
   (.seq (.ops [⟨some 4, none, .mv (.c (.bool false))⟩])
   (.ret))
   (.skip)))
  (.seq (.ops [⟨some 4, none, .mv (.c (.bool true))⟩])
  (.ret))))))⟩
theorem ok25 : FnOK Try.prog 25 v25 := ⟨⟨Try.f25, _, Try.func25, rfl, by kernel_rfl, rfl, by decide, by kernel_rfl, by kernel_rfl⟩⟩

/-- laws.szPool -/
def v26 : VF := ⟨2, 18, [.t 4], true,
  .seq (.ops [⟨some 2, none, .box (.t 0)⟩,
    ⟨some 4, none, .mv (.c (.int .i64 0))⟩])
  (.seq (.ops [⟨some 5, none, .faddr 0 (.t 2)⟩,
    ⟨some 6, none, .load true 2 (.t 5)⟩,
    ⟨some 7, none, .mv (.t 1)⟩,
    ⟨some 8, none, .call 67 [.t 6, .t 7]⟩,
    ⟨some 1, none, .mv (.t 8)⟩])
  (.seq (.seq (.ops [⟨some 9, none, .mv (.t 1)⟩,
    ⟨some 10, none, .bin .lss (.t 9) (.c (.int .i64 0))⟩])
  (.cond (.t 10)
   (.seq (.ops [⟨some 4, none, .mv (.c (.int .i64 (-1)))⟩])
   (.ret))
   (.skip)))
  (.seq (.ops [⟨some 11, none, .faddr 2 (.t 2)⟩,
    ⟨some 12, none, .load false 1 (.t 11)⟩,
    ⟨some 13, none, .mv (.t 1)⟩,
    ⟨some 14, none, .call 58 [.t 12, .t 13]⟩,
    ⟨some 1, none, .mv (.t 14)⟩])
  (.seq (.seq (.ops [⟨some 15, none, .mv (.t 1)⟩,
    ⟨some 16, none, .bin .lss (.t 15) (.c (.int .i64 0))⟩])
  (.cond (.t 16)
   (.seq (.ops [⟨some 4, none, .mv (.c (.int .i64 (-1)))⟩])
   (.ret))
   (.skip)))
  (.seq (.ops [⟨some 17, none, .mv (.t 1)⟩,
    ⟨some 4, none, .mv (.t 17)⟩])
  (.ret))))))⟩
theorem ok26 : FnOK Try.prog 26 v26 := ⟨⟨Try.f26, _, Try.func26, rfl, by kernel_rfl, rfl, by decide, by kernel_rfl, by kernel_rfl⟩⟩

/-- laws.toPool -/
def v28 : VF := ⟨1, 13, [.cell 2 true 3], true,
  .seq (.ops [⟨some 1, none, .box (.t 0)⟩,
    ⟨some 2, none, .new [.slice none 0 0, .slice none 0 0, .slice none 0 0]⟩])
  (.seq (.ops [⟨some 3, none, .new [.slice none 0 0, .slice none 0 0, .slice none 0 0]⟩])
  (.seq (.ops [⟨some 4, none, .faddr 0 (.t 1)⟩,
    ⟨some 5, none, .load true 2 (.t 4)⟩,
    ⟨some 6, none, .call 69 [.t 5]⟩,
    ⟨some 7, none, .faddr 0 (.t 3)⟩,
    ⟨none, none, .store 2 (.t 7) (.t 6)⟩])
  (.seq (.ops [⟨some 8, none, .faddr 2 (.t 1)⟩,
    ⟨some 9, none, .load false 1 (.t 8)⟩,
    ⟨some 10, none, .call 61 [.t 9]⟩,
    ⟨some 11, none, .faddr 2 (.t 3)⟩,
    ⟨none, none, .store 1 (.t 11) (.t 10)⟩])
  (.seq (.ops [⟨some 12, none, .load true 3 (.t 3)⟩,
    ⟨none, none, .store 3 (.t 2) (.t 12)⟩])
  (.ret)))))⟩
theorem ok28 : FnOK Try.prog 28 v28 := ⟨⟨Try.f28, _, Try.func28, rfl, by kernel_rfl, rfl, by decide, by kernel_rfl, by kernel_rfl⟩⟩

/-- impl.SamePools -/
def v29 : VF := ⟨2, 28, [.t 4], true,
  .seq (.ops [⟨some 2, none, .box (.t 0)⟩,
    ⟨some 3, none, .box (.t 1)⟩,
    ⟨some 4, none, .mv (.c (.bool false))⟩])
  (.seq (.ops [⟨some 5, none, .faddr 2 (.t 2)⟩,
    ⟨some 6, none, .load false 1 (.t 5)⟩,
    ⟨some 7, none, .faddr 2 (.t 3)⟩,
    ⟨some 8, none, .load false 1 (.t 7)⟩,
    ⟨some 9, none, .call 63 [.t 6, .t 8]⟩,
    ⟨some 10, none, .mv (.t 9)⟩,
    ⟨some 11, some (10, true), .faddr 0 (.t 2)⟩,
    ⟨some 12, some (10, true), .faddr 1 (.t 11)⟩,
    ⟨some 13, some (10, true), .load false 1 (.t 12)⟩,
    ⟨some 14, some (10, true), .faddr 0 (.t 3)⟩,
    ⟨some 15, some (10, true), .faddr 1 (.t 14)⟩,
    ⟨some 16, some (10, true), .load false 1 (.t 15)⟩,
    ⟨some 17, some (10, true), .call 70 [.t 13, .t 16]⟩,
    ⟨some 18, none, .pick (.t 10) (.t 17) (.c (.bool false))⟩,
    ⟨some 19, none, .mv (.t 18)⟩,
    ⟨some 20, some (19, true), .faddr 0 (.t 2)⟩,
    ⟨some 21, some (19, true), .faddr 0 (.t 20)⟩,
    ⟨some 22, some (19, true), .load false 1 (.t 21)⟩,
    ⟨some 23, some (19, true), .faddr 0 (.t 3)⟩,
    ⟨some 24, some (19, true), .faddr 0 (.t 23)⟩,
    ⟨some 25, some (19, true), .load false 1 (.t 24)⟩,
    ⟨some 26, some (19, true), .call 71 [.t 22, .t 25, .c (.func (.func 72) #[] #[])]⟩,
    ⟨some 27, none, .pick (.t 19) (.t 26) (.c (.bool false))⟩,
    ⟨some 4, none, .mv (.t 27)⟩])
  (.ret))⟩
theorem ok29 : FnOK Try.prog 29 v29 := ⟨⟨Try.f29, _, Try.func29, rfl, by kernel_rfl, rfl, by decide, by kernel_rfl, by kernel_rfl⟩⟩

/-- laws.eqPool -/
def v30 : VF := ⟨2, 17, [.t 4], true,
  .seq (.ops [⟨some 2, none, .box (.t 0)⟩,
    ⟨some 3, none, .box (.t 1)⟩,
    ⟨some 4, none, .mv (.c (.bool false))⟩])
  (.seq (.seq (.ops [⟨some 5, none, .faddr 0 (.t 2)⟩,
    ⟨some 6, none, .load true 2 (.t 5)⟩,
    ⟨some 7, none, .faddr 0 (.t 3)⟩,
    ⟨some 8, none, .load true 2 (.t 7)⟩,
    ⟨some 9, none, .call 74 [.t 6, .t 8]⟩,
    ⟨some 10, none, .not (.t 9)⟩])
  (.cond (.t 10)
   (.seq (.ops [⟨some 4, none, .mv (.c (.bool false))⟩])
   (.ret))
   (.skip)))
  (.seq (.seq (.ops [⟨some 11, none, .faddr 2 (.t 2)⟩,
    ⟨some 12, none, .load false 1 (.t 11)⟩,
    ⟨some 13, none, .faddr 2 (.t 3)⟩,
    ⟨some 14, none, .load false 1 (.t 13)⟩,
    ⟨some 15, none, .call 65 [.t 12, .t 14]⟩,
    ⟨some 16, none, .not (.t 15)⟩])
  (.cond (.t 16)
   (.seq (.ops [⟨some 4, none, .mv (.c (.bool false))⟩])
   (.ret))
   (.skip)))
  (.seq (.ops [⟨some 4, none, .mv (.c (.bool true))⟩])
  (.ret))))⟩
theorem ok30 : FnOK Try.prog 30 v30 := ⟨⟨Try.f30, _, Try.func30, rfl, by kernel_rfl, rfl, by decide, by kernel_rfl, by kernel_rfl⟩⟩

/-- spec.PoolFault -/
def v31 : VF := ⟨1, 4, [.t 2], true,
  .seq (.ops [⟨some 1, none, .box (.t 0)⟩,
    ⟨some 2, none, .mv (.c (.int .i64 0))⟩])
  (.seq (.ops [⟨some 3, none, .call 75 [.t 1]⟩,
    ⟨some 2, none, .mv (.t 3)⟩])
  (.ret))⟩
theorem ok31 : FnOK Try.prog 31 v31 := ⟨⟨Try.f31, _, Try.func31, rfl, by kernel_rfl, rfl, by decide, by kernel_rfl, by kernel_rfl⟩⟩

/-- impl.PoolFault -/
def l32_0 : VC :=
  .seq (.ops [⟨some 29, none, .bin .lss (.t 28) (.t 27)⟩])
  (.seq (.cond (.t 29)
   (.skip)
   (.exit 0))
  (.seq (.block 1 (.seq (.ops [⟨some 30, none, .mv (.t 28)⟩,
     ⟨some 31, none, .iaddr 3 (.t 26) (.t 28)⟩,
     ⟨some 32, none, .load true 3 (.t 31)⟩,
     ⟨some 6, none, .new [.int .i64 0, .int .i64 0, .int .i64 0]⟩,
     ⟨some 5, none, .mv (.t 30)⟩,
     ⟨none, none, .store 3 (.t 6) (.t 32)⟩])
   (.seq (.block 2 (.seq (.ops [⟨some 34, none, .faddr 0 (.t 6)⟩,
      ⟨some 35, none, .load false 1 (.t 34)⟩,
      ⟨some 36, none, .call 77 [.t 35]⟩,
      ⟨some 37, none, .not (.t 36)⟩,
      ⟨some 38, none, .mv (.t 37)⟩,
      ⟨some 39, some (38, false), .faddr 1 (.t 6)⟩,
      ⟨some 40, some (38, false), .load false 1 (.t 39)⟩,
      ⟨some 41, some (38, false), .call 78 [.t 40]⟩,
      ⟨some 42, some (38, false), .not (.t 41)⟩,
      ⟨some 43, none, .pick (.t 38) (.c (.bool true)) (.t 42)⟩,
      ⟨some 44, none, .mv (.t 43)⟩,
      ⟨some 45, some (44, false), .faddr 0 (.t 1)⟩,
      ⟨some 46, some (44, false), .load true 2 (.t 45)⟩,
      ⟨some 47, some (44, false), .faddr 2 (.t 6)⟩,
      ⟨some 48, some (44, false), .load false 1 (.t 47)⟩,
      ⟨some 49, some (44, false), .call 79 [.t 46, .t 48]⟩,
      ⟨some 50, some (44, false), .not (.t 49)⟩,
      ⟨some 51, none, .pick (.t 44) (.c (.bool true)) (.t 50)⟩,
      ⟨some 33, none, .mv (.t 51)⟩])
    (.cond (.t 33)
     (.seq (.ops [⟨some 2, none, .mv (.c (.int .i64 3))⟩])
     (.ret))
     (.seq (.draw [⟨some 53, none, .mv (.t 5)⟩,
       ⟨some 54, none, .bin .gtr (.t 53) (.c (.int .i64 0))⟩,
       ⟨some 55, none, .mv (.t 54)⟩,
       ⟨some 56, some (55, true), .faddr 0 (.t 6)⟩,
       ⟨some 57, some (55, true), .load false 1 (.t 56)⟩,
       ⟨some 58, some (55, true), .faddr 2 (.t 1)⟩,
       ⟨some 59, some (55, true), .load false 1 (.t 58)⟩,
       ⟨some 60, some (55, true), .mv (.t 5)⟩,
       ⟨some 61, some (55, true), .bin .sub (.t 60) (.c (.int .i64 1))⟩,
       ⟨some 62, some (55, true), .iaddr 3 (.t 59) (.t 61)⟩,
       ⟨some 63, some (55, true), .faddr 0 (.t 62)⟩,
       ⟨some 64, some (55, true), .load false 1 (.t 63)⟩] [⟨some 65, some (55, true), .bin .leq (.t 57) (.t 64)⟩,
       ⟨some 66, none, .pick (.t 55) (.t 65) (.c (.bool false))⟩,
       ⟨some 52, none, .mv (.t 66)⟩])
     (.cond (.t 52)
      (.seq (.ops [⟨some 2, none, .mv (.c (.int .i64 1))⟩])
      (.ret))
      (.seq (.draw [⟨some 68, none, .load true 3 (.t 6)⟩,
        ⟨some 69, none, .call 80 [.t 1, .t 68]⟩,
        ⟨some 70, none, .faddr 1 (.t 6)⟩,
        ⟨some 71, none, .load false 1 (.t 70)⟩] [⟨some 72, none, .bin .gtr (.t 69) (.t 71)⟩,
        ⟨some 67, none, .mv (.t 72)⟩])
      (.cond (.t 67)
       (.seq (.ops [⟨some 2, none, .mv (.c (.int .i64 9))⟩])
       (.ret))
       (.skip))))))))
   (.seq (.ops [⟨some 73, none, .faddr 2 (.t 6)⟩,
     ⟨some 74, none, .load false 1 (.t 73)⟩,
     ⟨some 75, none, .bin .neq (.t 74) (.c (.int .i64 (-1)))⟩])
   (.cond (.t 75)
    (.ops [⟨some 76, none, .mv (.t 4)⟩,
      ⟨some 77, none, .faddr 2 (.t 6)⟩,
      ⟨some 78, none, .load false 1 (.t 77)⟩,
      ⟨some 79, none, .iaddr 1 (.t 76) (.t 78)⟩,
      ⟨some 80, none, .load false 1 (.t 79)⟩,
      ⟨some 81, none, .bin .add (.t 80) (.c (.int .i64 1))⟩,
      ⟨some 82, none, .iaddr 1 (.t 76) (.t 78)⟩,
      ⟨none, none, .store 1 (.t 82) (.t 81)⟩])
    (.skip))))))
  (.ops [⟨some 83, none, .bin .add (.t 28) (.c (.int .i64 1))⟩,
    ⟨some 28, none, .mv (.t 83)⟩])))
def l32_1 : VC :=
  .seq (.ops [⟨some 93, none, .bin .lss (.t 92) (.t 91)⟩])
  (.seq (.cond (.t 93)
   (.skip)
   (.exit 3))
  (.seq (.block 4 (.seq (.ops [⟨some 94, none, .mv (.t 92)⟩,
     ⟨some 95, none, .iaddr 1 (.t 90) (.t 92)⟩,
     ⟨some 96, none, .load false 1 (.t 95)⟩,
     ⟨some 7, none, .mv (.t 94)⟩,
     ⟨some 8, none, .mv (.t 96)⟩])
   (.seq (.ops [⟨some 97, none, .faddr 0 (.t 1)⟩,
     ⟨some 98, none, .faddr 0 (.t 97)⟩,
     ⟨some 99, none, .load false 1 (.t 98)⟩,
     ⟨some 100, none, .mv (.t 7)⟩,
     ⟨some 101, none, .iaddr 3 (.t 99) (.t 100)⟩,
     ⟨some 102, none, .load true 3 (.t 101)⟩,
     ⟨some 9, none, .new [.int .i64 0, .bool false, .slice none 0 0]⟩,
     ⟨none, none, .store 3 (.t 9) (.t 102)⟩])
   (.seq (.draw [⟨some 103, none, .faddr 1 (.t 9)⟩,
     ⟨some 104, none, .load false 1 (.t 103)⟩,
     ⟨some 105, none, .mv (.t 104)⟩,
     ⟨some 106, some (105, true), .faddr 0 (.t 9)⟩,
     ⟨some 107, some (105, true), .load false 1 (.t 106)⟩,
     ⟨some 108, some (105, true), .mv (.t 8)⟩,
     ⟨some 109, some (105, true), .bin .neq (.t 107) (.t 108)⟩,
     ⟨some 110, none, .pick (.t 105) (.t 109) (.c (.bool false))⟩,
     ⟨some 111, none, .mv (.t 110)⟩,
     ⟨some 112, some (111, false), .faddr 1 (.t 9)⟩,
     ⟨some 113, some (111, false), .load false 1 (.t 112)⟩,
     ⟨some 114, some (111, false), .not (.t 113)⟩,
     ⟨some 115, some (111, false), .mv (.t 114)⟩,
     ⟨some 116, some (115, true), .faddr 0 (.t 9)⟩,
     ⟨some 117, some (115, true), .load false 1 (.t 116)⟩,
     ⟨some 118, some (115, true), .mv (.t 4)⟩,
     ⟨some 119, some (115, true), .mv (.t 7)⟩,
     ⟨some 120, some (115, true), .iaddr 1 (.t 118) (.t 119)⟩,
     ⟨some 121, some (115, true), .load false 1 (.t 120)⟩] [⟨some 122, some (115, true), .bin .neq (.t 117) (.t 121)⟩,
     ⟨some 123, some (111, false), .pick (.t 115) (.t 122) (.c (.bool false))⟩,
     ⟨some 124, none, .pick (.t 111) (.c (.bool true)) (.t 123)⟩])
   (.cond (.t 124)
    (.seq (.ops [⟨some 2, none, .mv (.c (.int .i64 1))⟩])
    (.ret))
    (.skip))))))
  (.ops [⟨some 125, none, .bin .add (.t 92) (.c (.int .i64 1))⟩,
    ⟨some 92, none, .mv (.t 125)⟩])))
def v32 : VF := ⟨1, 126, [.t 2], true,
  .seq (.ops [⟨some 1, none, .box (.t 0)⟩,
    ⟨some 2, none, .mv (.c (.int .i64 0))⟩])
  (.seq (.seq (.ops [⟨some 10, none, .faddr 0 (.t 1)⟩,
    ⟨some 11, none, .load true 2 (.t 10)⟩,
    ⟨some 12, none, .call 76 [.t 11]⟩,
    ⟨some 3, none, .mv (.t 12)⟩])
  (.seq (.ops [⟨some 13, none, .mv (.t 3)⟩,
    ⟨some 14, none, .bin .neq (.t 13) (.c (.int .i64 0))⟩])
  (.cond (.t 14)
   (.seq (.ops [⟨some 15, none, .mv (.t 3)⟩,
     ⟨some 2, none, .mv (.t 15)⟩])
   (.ret))
   (.skip))))
  (.seq (.seq (.ops [⟨some 16, none, .faddr 2 (.t 1)⟩,
    ⟨some 17, none, .load false 1 (.t 16)⟩,
    ⟨some 18, none, .len (.t 17)⟩,
    ⟨some 19, none, .bin .gtr (.t 18) (.c (.int .i64 6))⟩])
  (.cond (.t 19)
   (.seq (.ops [⟨some 2, none, .mv (.c (.int .i64 2))⟩])
   (.ret))
   (.skip)))
  (.seq (.ops [⟨some 20, none, .faddr 0 (.t 1)⟩,
    ⟨some 21, none, .faddr 0 (.t 20)⟩,
    ⟨some 22, none, .load false 1 (.t 21)⟩,
    ⟨some 23, none, .len (.t 22)⟩,
    ⟨some 24, none, .mkslice 1 8 [.int .i64 0] (.t 23) (.t 23)⟩,
    ⟨some 4, none, .mv (.t 24)⟩])
  (.seq (.seq (.ops [⟨some 25, none, .faddr 2 (.t 1)⟩,
    ⟨some 26, none, .load false 1 (.t 25)⟩,
    ⟨some 27, none, .len (.t 26)⟩,
    ⟨some 28, none, .mv (.c (.int .i64 0))⟩])
  (.block 0 (.loop [1, 4, 26, 27, 28] [1, 2, 4] l32_0)))
  (.seq (.seq (.ops [⟨some 84, none, .faddr 0 (.t 1)⟩,
    ⟨some 85, none, .load true 2 (.t 84)⟩,
    ⟨some 86, none, .faddr 0 (.t 1)⟩,
    ⟨some 87, none, .faddr 0 (.t 86)⟩,
    ⟨some 88, none, .load false 1 (.t 87)⟩,
    ⟨some 89, none, .len (.t 88)⟩,
    ⟨some 90, none, .call 81 [.t 85, .c (.bool false), .t 89]⟩,
    ⟨some 91, none, .len (.t 90)⟩,
    ⟨some 92, none, .mv (.c (.int .i64 0))⟩])
  (.block 3 (.loop [1, 4, 90, 91, 92] [2] l32_1)))
  (.seq (.ops [⟨some 2, none, .mv (.c (.int .i64 0))⟩])
  (.ret)))))))⟩
theorem ok32 : FnOK Try.prog 32 v32 := ⟨⟨Try.f32, _, Try.func32, rfl, by kernel_rfl, rfl, by decide, by kernel_rfl, by kernel_rfl⟩⟩

/-- spec.VolAt -/
def v33 : VF := ⟨2, 19, [.cell 4 true 2], true,
  .seq (.ops [⟨some 2, none, .box (.t 0)⟩,
    ⟨some 4, none, .new [.int .i64 0, .int .i64 0]⟩])
  (.seq (.seq (.ops [⟨some 7, none, .call 75 [.t 2]⟩,
    ⟨some 5, none, .mv (.t 7)⟩])
  (.seq (.ops [⟨some 8, none, .mv (.t 5)⟩,
    ⟨some 9, none, .bin .neq (.t 8) (.c (.int .i64 0))⟩])
  (.cond (.t 9)
   (.seq (.ops [⟨some 10, none, .mv (.t 5)⟩,
     ⟨some 11, none, .build [.int .i64 0, .int .i64 0] [(0, 1, .t 10)]⟩,
     ⟨none, none, .store 2 (.t 4) (.t 11)⟩])
   (.ret))
   (.skip))))
  (.seq (.ops [⟨some 12, none, .mv (.t 1)⟩,
    ⟨some 13, none, .call 82 [.t 2, .t 12]⟩,
    ⟨some 6, none, .mv (.t 13)⟩])
  (.seq (.seq (.ops [⟨some 14, none, .mv (.t 6)⟩,
    ⟨some 15, none, .bin .lss (.t 14) (.c (.int .i64 0))⟩])
  (.cond (.t 15)
   (.seq (.ops [⟨some 16, none, .build [.int .i64 0, .int .i64 0] [(0, 1, .c (.int .i64 4))]⟩,
     ⟨none, none, .store 2 (.t 4) (.t 16)⟩])
   (.ret))
   (.skip)))
  (.seq (.ops [⟨some 17, none, .mv (.t 6)⟩,
    ⟨some 18, none, .build [.int .i64 0, .int .i64 0] [(1, 1, .t 17)]⟩,
    ⟨none, none, .store 2 (.t 4) (.t 18)⟩])
  (.ret)))))⟩
theorem ok33 : FnOK Try.prog 33 v33 := ⟨⟨Try.f33, _, Try.func33, rfl, by kernel_rfl, rfl, by decide, by kernel_rfl, by kernel_rfl⟩⟩

/-- impl.VolAt -/
def v34 : VF := ⟨2, 22, [.cell 4 true 2], true,
  .seq (.ops [⟨some 2, none, .box (.t 0)⟩,
    ⟨some 4, none, .new [.int .i64 0, .int .i64 0]⟩])
  (.seq (.seq (.ops [⟨some 7, none, .load true 3 (.t 2)⟩,
    ⟨some 8, none, .call 32 [.t 7]⟩,
    ⟨some 5, none, .mv (.t 8)⟩])
  (.seq (.ops [⟨some 9, none, .mv (.t 5)⟩,
    ⟨some 10, none, .bin .neq (.t 9) (.c (.int .i64 0))⟩])
  (.cond (.t 10)
   (.seq (.ops [⟨some 11, none, .mv (.t 5)⟩,
     ⟨some 12, none, .build [.int .i64 0, .int .i64 0] [(0, 1, .t 11)]⟩,
     ⟨none, none, .store 2 (.t 4) (.t 12)⟩])
   (.ret))
   (.skip))))
  (.seq (.ops [⟨some 13, none, .faddr 2 (.t 2)⟩,
    ⟨some 14, none, .load false 1 (.t 13)⟩,
    ⟨some 15, none, .mv (.t 1)⟩,
    ⟨some 16, none, .call 83 [.t 14, .t 15]⟩,
    ⟨some 6, none, .mv (.t 16)⟩])
  (.seq (.seq (.ops [⟨some 17, none, .mv (.t 6)⟩,
    ⟨some 18, none, .bin .lss (.t 17) (.c (.int .i64 0))⟩])
  (.cond (.t 18)
   (.seq (.ops [⟨some 19, none, .build [.int .i64 0, .int .i64 0] [(0, 1, .c (.int .i64 4))]⟩,
     ⟨none, none, .store 2 (.t 4) (.t 19)⟩])
   (.ret))
   (.skip)))
  (.seq (.ops [⟨some 20, none, .mv (.t 6)⟩,
    ⟨some 21, none, .build [.int .i64 0, .int .i64 0] [(1, 1, .t 20)]⟩,
    ⟨none, none, .store 2 (.t 4) (.t 21)⟩])
  (.ret)))))⟩
theorem ok34 : FnOK Try.prog 34 v34 := ⟨⟨Try.f34, _, Try.func34, rfl, by kernel_rfl, rfl, by decide, by kernel_rfl, by kernel_rfl⟩⟩

/-- laws.eqIntResult -/
def v35 : VF := ⟨2, 15, [.t 4], true,
  .seq (.ops [⟨some 2, none, .box (.t 0)⟩,
    ⟨some 3, none, .box (.t 1)⟩,
    ⟨some 4, none, .mv (.c (.bool false))⟩])
  (.seq (.seq (.ops [⟨some 5, none, .faddr 0 (.t 2)⟩,
    ⟨some 6, none, .load false 1 (.t 5)⟩,
    ⟨some 7, none, .faddr 0 (.t 3)⟩,
    ⟨some 8, none, .load false 1 (.t 7)⟩,
    ⟨some 9, none, .bin .neq (.t 6) (.t 8)⟩])
  (.cond (.t 9)
   (.seq (.ops [⟨some 4, none, .mv (.c (.bool false))⟩])
   (.ret))
   (.skip)))
  (.seq (.seq (.ops [⟨some 10, none, .faddr 1 (.t 2)⟩,
    ⟨some 11, none, .load false 1 (.t 10)⟩,
    ⟨some 12, none, .faddr 1 (.t 3)⟩,
    ⟨some 13, none, .load false 1 (.t 12)⟩,
    ⟨some 14, none, .bin .neq (.t 11) (.t 13)⟩])
  (.cond (.t 14)
   (.seq (.ops [⟨some 4, none, .mv (.c (.bool false))⟩])
   (.ret))
   (.skip)))
  (.seq (.ops [⟨some 4, none, .mv (.c (.bool true))⟩])
  (.ret))))⟩
theorem ok35 : FnOK Try.prog 35 v35 := ⟨⟨Try.f35, _, Try.func35, rfl, by kernel_rfl, rfl, by decide, by kernel_rfl, by kernel_rfl⟩⟩

/-- spec.UsedOf -/
def v36 : VF := ⟨2, 23, [.cell 4 true 2], true,
  .seq (.ops [⟨some 2, none, .box (.t 0)⟩,
    ⟨some 4, none, .new [.int .i64 0, .int .i64 0]⟩])
  (.seq (.ops [⟨some 6, none, .load true 3 (.t 2)⟩,
    ⟨some 7, none, .mv (.t 1)⟩,
    ⟨some 8, none, .call 33 [.t 6, .t 7]⟩,
    ⟨some 5, none, .new [.int .i64 0, .int .i64 0]⟩,
    ⟨none, none, .store 2 (.t 5) (.t 8)⟩])
  (.seq (.seq (.ops [⟨some 9, none, .faddr 0 (.t 5)⟩,
    ⟨some 10, none, .load false 1 (.t 9)⟩,
    ⟨some 11, none, .bin .neq (.t 10) (.c (.int .i64 0))⟩])
  (.cond (.t 11)
   (.seq (.ops [⟨some 12, none, .load true 2 (.t 5)⟩,
     ⟨none, none, .store 2 (.t 4) (.t 12)⟩])
   (.ret))
   (.skip)))
  (.seq (.ops [⟨some 13, none, .faddr 0 (.t 2)⟩,
    ⟨some 14, none, .faddr 2 (.t 2)⟩,
    ⟨some 15, none, .load false 1 (.t 14)⟩,
    ⟨some 16, none, .faddr 1 (.t 5)⟩,
    ⟨some 17, none, .load false 1 (.t 16)⟩,
    ⟨some 18, none, .iaddr 3 (.t 15) (.t 17)⟩,
    ⟨some 19, none, .faddr 2 (.t 18)⟩,
    ⟨some 20, none, .load false 1 (.t 19)⟩,
    ⟨some 21, none, .call 84 [.t 13, .t 20]⟩,
    ⟨some 22, none, .build [.int .i64 0, .int .i64 0] [(1, 1, .t 21)]⟩,
    ⟨none, none, .store 2 (.t 4) (.t 22)⟩])
  (.ret))))⟩
theorem ok36 : FnOK Try.prog 36 v36 := ⟨⟨Try.f36, _, Try.func36, rfl, by kernel_rfl, rfl, by decide, by kernel_rfl, by kernel_rfl⟩⟩

/-- impl.UsedOf -/
def v37 : VF := ⟨2, 21, [.cell 4 true 2], true,
  .seq (.ops [⟨some 2, none, .box (.t 0)⟩,
    ⟨some 4, none, .new [.int .i64 0, .int .i64 0]⟩])
  (.seq (.ops [⟨some 6, none, .load true 3 (.t 2)⟩,
    ⟨some 7, none, .mv (.t 1)⟩,
    ⟨some 8, none, .call 34 [.t 6, .t 7]⟩,
    ⟨some 5, none, .new [.int .i64 0, .int .i64 0]⟩,
    ⟨none, none, .store 2 (.t 5) (.t 8)⟩])
  (.seq (.seq (.ops [⟨some 9, none, .faddr 0 (.t 5)⟩,
    ⟨some 10, none, .load false 1 (.t 9)⟩,
    ⟨some 11, none, .bin .neq (.t 10) (.c (.int .i64 0))⟩])
  (.cond (.t 11)
   (.seq (.ops [⟨some 12, none, .load true 2 (.t 5)⟩,
     ⟨none, none, .store 2 (.t 4) (.t 12)⟩])
   (.ret))
   (.skip)))
  (.seq (.ops [⟨some 13, none, .faddr 2 (.t 2)⟩,
    ⟨some 14, none, .load false 1 (.t 13)⟩,
    ⟨some 15, none, .faddr 1 (.t 5)⟩,
    ⟨some 16, none, .load false 1 (.t 15)⟩,
    ⟨some 17, none, .iaddr 3 (.t 14) (.t 16)⟩,
    ⟨some 18, none, .load true 3 (.t 17)⟩,
    ⟨some 19, none, .call 80 [.t 2, .t 18]⟩,
    ⟨some 20, none, .build [.int .i64 0, .int .i64 0] [(1, 1, .t 19)]⟩,
    ⟨none, none, .store 2 (.t 4) (.t 20)⟩])
  (.ret))))⟩
theorem ok37 : FnOK Try.prog 37 v37 := ⟨⟨Try.f37, _, Try.func37, rfl, by kernel_rfl, rfl, by decide, by kernel_rfl, by kernel_rfl⟩⟩

/-- spec.PlainOf -/
def v38 : VF := ⟨1, 11, [.cell 2 true 7], true,
  .seq (.ops [⟨some 1, none, .box (.t 0)⟩,
    ⟨some 2, none, .new [.int .i64 0, .int .i64 0, .int .i64 0, .int .i64 0, .slice none 0 0, .slice none 0 0, .slice none 0 0]⟩])
  (.seq (.seq (.ops [⟨some 4, none, .call 75 [.t 1]⟩,
    ⟨some 3, none, .mv (.t 4)⟩])
  (.seq (.ops [⟨some 5, none, .mv (.t 3)⟩,
    ⟨some 6, none, .bin .neq (.t 5) (.c (.int .i64 0))⟩])
  (.cond (.t 6)
   (.seq (.ops [⟨some 7, none, .mv (.t 3)⟩,
     ⟨some 8, none, .build [.int .i64 0, .int .i64 0, .int .i64 0, .int .i64 0, .slice none 0 0, .slice none 0 0, .slice none 0 0] [(0, 1, .t 7)]⟩,
     ⟨none, none, .store 7 (.t 2) (.t 8)⟩])
   (.ret))
   (.skip))))
  (.seq (.ops [⟨some 9, none, .call 85 [.t 1]⟩,
    ⟨some 10, none, .build [.int .i64 0, .int .i64 0, .int .i64 0, .int .i64 0, .slice none 0 0, .slice none 0 0, .slice none 0 0] [(3, 4, .t 9)]⟩,
    ⟨none, none, .store 7 (.t 2) (.t 10)⟩])
  (.ret)))⟩
theorem ok38 : FnOK Try.prog 38 v38 := ⟨⟨Try.f38, _, Try.func38, rfl, by kernel_rfl, rfl, by decide, by kernel_rfl, by kernel_rfl⟩⟩

/-- impl.PlainOf -/
def v39 : VF := ⟨1, 13, [.cell 2 true 7], true,
  .seq (.ops [⟨some 1, none, .box (.t 0)⟩,
    ⟨some 2, none, .new [.int .i64 0, .int .i64 0, .int .i64 0, .int .i64 0, .slice none 0 0, .slice none 0 0, .slice none 0 0]⟩])
  (.seq (.seq (.ops [⟨some 4, none, .load true 3 (.t 1)⟩,
    ⟨some 5, none, .call 32 [.t 4]⟩,
    ⟨some 3, none, .mv (.t 5)⟩])
  (.seq (.ops [⟨some 6, none, .mv (.t 3)⟩,
    ⟨some 7, none, .bin .neq (.t 6) (.c (.int .i64 0))⟩])
  (.cond (.t 7)
   (.seq (.ops [⟨some 8, none, .mv (.t 3)⟩,
     ⟨some 9, none, .build [.int .i64 0, .int .i64 0, .int .i64 0, .int .i64 0, .slice none 0 0, .slice none 0 0, .slice none 0 0] [(0, 1, .t 8)]⟩,
     ⟨none, none, .store 7 (.t 2) (.t 9)⟩])
   (.ret))
   (.skip))))
  (.seq (.ops [⟨some 10, none, .load true 3 (.t 1)⟩,
    ⟨some 11, none, .call 86 [.t 10]⟩,
    ⟨some 12, none, .build [.int .i64 0, .int .i64 0, .int .i64 0, .int .i64 0, .slice none 0 0, .slice none 0 0, .slice none 0 0] [(3, 4, .t 11)]⟩,
    ⟨none, none, .store 7 (.t 2) (.t 12)⟩])
  (.ret)))⟩
theorem ok39 : FnOK Try.prog 39 v39 := ⟨⟨Try.f39, _, Try.func39, rfl, by kernel_rfl, rfl, by decide, by kernel_rfl, by kernel_rfl⟩⟩

/-- laws.eqPlainResult -/
def v40 : VF := ⟨2, 26, [.t 4], true,
  .seq (.ops [⟨some 2, none, .box (.t 0)⟩,
    ⟨some 3, none, .box (.t 1)⟩,
    ⟨some 4, none, .mv (.c (.bool false))⟩])
  (.seq (.seq (.ops [⟨some 5, none, .faddr 0 (.t 2)⟩,
    ⟨some 6, none, .load false 1 (.t 5)⟩,
    ⟨some 7, none, .faddr 0 (.t 3)⟩,
    ⟨some 8, none, .load false 1 (.t 7)⟩,
    ⟨some 9, none, .bin .neq (.t 6) (.t 8)⟩])
  (.cond (.t 9)
   (.seq (.ops [⟨some 4, none, .mv (.c (.bool false))⟩])
   (.ret))
   (.skip)))
  (.seq (.seq (.ops [⟨some 10, none, .faddr 1 (.t 2)⟩,
    ⟨some 11, none, .load false 1 (.t 10)⟩,
    ⟨some 12, none, .faddr 1 (.t 3)⟩,
    ⟨some 13, none, .load false 1 (.t 12)⟩,
    ⟨some 14, none, .bin .neq (.t 11) (.t 13)⟩])
  (.cond (.t 14)
   (.seq (.ops [⟨some 4, none, .mv (.c (.bool false))⟩])
   (.ret))
   (.skip)))
  (.seq (.seq (.ops [⟨some 15, none, .faddr 2 (.t 2)⟩,
    ⟨some 16, none, .load false 1 (.t 15)⟩,
    ⟨some 17, none, .faddr 2 (.t 3)⟩,
    ⟨some 18, none, .load false 1 (.t 17)⟩,
    ⟨some 19, none, .bin .neq (.t 16) (.t 18)⟩])
  (.cond (.t 19)
   (.seq (.ops [⟨some 4, none, .mv (.c (.bool false))⟩])
   (.ret))
   (.skip)))
  (.seq (.seq (.ops [⟨some 20, none, .faddr 3 (.t 2)⟩,
    ⟨some 21, none, .load true 4 (.t 20)⟩,
    ⟨some 22, none, .faddr 3 (.t 3)⟩,
    ⟨some 23, none, .load true 4 (.t 22)⟩,
    ⟨some 24, none, .call 25 [.t 21, .t 23]⟩,
    ⟨some 25, none, .not (.t 24)⟩])
  (.cond (.t 25)
   (.seq (.ops [⟨some 4, none, .mv (.c (.bool false))⟩])
   (.ret))
   (.skip)))
  (.seq (.ops [⟨some 4, none, .mv (.c (.bool true))⟩])
  (.ret))))))⟩
theorem ok40 : FnOK Try.prog 40 v40 := ⟨⟨Try.f40, _, Try.func40, rfl, by kernel_rfl, rfl, by decide, by kernel_rfl, by kernel_rfl⟩⟩

/-- laws.markPool -/
def v41 : VF := ⟨2, 14, [.t 4], false,
  .seq (.ops [⟨some 2, none, .box (.t 0)⟩,
    ⟨some 4, none, .mv (.c (.int .i64 0))⟩])
  (.seq (.ops [⟨some 5, none, .faddr 0 (.t 2)⟩,
    ⟨some 6, none, .load true 2 (.t 5)⟩,
    ⟨some 7, none, .mv (.t 1)⟩,
    ⟨some 8, none, .call 87 [.t 6, .t 7]⟩,
    ⟨some 1, none, .mv (.t 8)⟩])
  (.seq (.ops [⟨some 9, none, .faddr 2 (.t 2)⟩,
    ⟨some 10, none, .load false 1 (.t 9)⟩,
    ⟨some 11, none, .mv (.t 1)⟩,
    ⟨some 12, none, .call 88 [.t 10, .t 11]⟩,
    ⟨some 1, none, .mv (.t 12)⟩])
  (.seq (.ops [⟨some 13, none, .mv (.t 1)⟩,
    ⟨some 4, none, .mv (.t 13)⟩])
  (.ret))))⟩
theorem ok41 : FnOK Try.prog 41 v41 := ⟨⟨Try.f41, _, Try.func41, rfl, by kernel_rfl, rfl, by decide, by kernel_rfl, by kernel_rfl⟩⟩

/-- laws.markPlainResult -/
def v42 : VF := ⟨2, 10, [.t 4], false,
  .seq (.ops [⟨some 2, none, .box (.t 0)⟩,
    ⟨some 4, none, .mv (.c (.int .i64 0))⟩])
  (.seq (.ops [⟨some 5, none, .faddr 3 (.t 2)⟩,
    ⟨some 6, none, .load true 4 (.t 5)⟩,
    ⟨some 7, none, .mv (.t 1)⟩,
    ⟨some 8, none, .call 89 [.t 6, .t 7]⟩,
    ⟨some 1, none, .mv (.t 8)⟩])
  (.seq (.ops [⟨some 9, none, .mv (.t 1)⟩,
    ⟨some 4, none, .mv (.t 9)⟩])
  (.ret)))⟩
theorem ok42 : FnOK Try.prog 42 v42 := ⟨⟨Try.f42, _, Try.func42, rfl, by kernel_rfl, rfl, by decide, by kernel_rfl, by kernel_rfl⟩⟩

/-- laws.heldPlainResult -/
def v43 : VF := ⟨2, 12, [.t 4], true,
  .seq (.ops [⟨some 2, none, .box (.t 0)⟩,
    ⟨some 4, none, .mv (.c (.int .i64 0))⟩])
  (.seq (.ops [⟨some 5, none, .faddr 3 (.t 2)⟩,
    ⟨some 6, none, .load true 4 (.t 5)⟩,
    ⟨some 7, none, .mv (.t 1)⟩,
    ⟨some 8, none, .call 90 [.t 6, .t 7]⟩,
    ⟨some 1, none, .mv (.t 8)⟩])
  (.seq (.seq (.ops [⟨some 9, none, .mv (.t 1)⟩,
    ⟨some 10, none, .bin .lss (.t 9) (.c (.int .i64 0))⟩])
  (.cond (.t 10)
   (.seq (.ops [⟨some 4, none, .mv (.c (.int .i64 (-1)))⟩])
   (.ret))
   (.skip)))
  (.seq (.ops [⟨some 11, none, .mv (.t 1)⟩,
    ⟨some 4, none, .mv (.t 11)⟩])
  (.ret))))⟩
theorem ok43 : FnOK Try.prog 43 v43 := ⟨⟨Try.f43, _, Try.func43, rfl, by kernel_rfl, rfl, by decide, by kernel_rfl, by kernel_rfl⟩⟩

/-- spec.PlainFault -/
def v44 : VF := ⟨1, 4, [.t 2], true,
  .seq (.ops [⟨some 1, none, .box (.t 0)⟩,
    ⟨some 2, none, .mv (.c (.int .i64 0))⟩])
  (.seq (.ops [⟨some 3, none, .call 91 [.t 1]⟩,
    ⟨some 2, none, .mv (.t 3)⟩])
  (.ret))⟩
theorem ok44 : FnOK Try.prog 44 v44 := ⟨⟨Try.f44, _, Try.func44, rfl, by kernel_rfl, rfl, by decide, by kernel_rfl, by kernel_rfl⟩⟩

/-- impl.PlainFault -/
def l45_0 : VC :=
  .seq (.ops [⟨some 32, none, .bin .lss (.t 31) (.t 30)⟩])
  (.seq (.cond (.t 32)
   (.skip)
   (.exit 1))
  (.seq (.block 2 (.seq (.ops [⟨some 33, none, .mv (.t 31)⟩,
     ⟨some 34, none, .iaddr 3 (.t 29) (.t 31)⟩,
     ⟨some 35, none, .load true 3 (.t 34)⟩,
     ⟨some 5, none, .new [.int .i64 0, .int .i64 0, .int .i64 0]⟩,
     ⟨some 4, none, .mv (.t 33)⟩,
     ⟨none, none, .store 3 (.t 5) (.t 35)⟩])
   (.block 3 (.seq (.ops [⟨some 37, none, .faddr 1 (.t 5)⟩,
      ⟨some 38, none, .load false 1 (.t 37)⟩,
      ⟨some 39, none, .call 93 [.t 38]⟩,
      ⟨some 40, none, .not (.t 39)⟩,
      ⟨some 41, none, .mv (.t 40)⟩,
      ⟨some 42, some (41, false), .faddr 2 (.t 5)⟩,
      ⟨some 43, some (41, false), .load false 1 (.t 42)⟩,
      ⟨some 44, some (41, false), .call 94 [.t 43]⟩,
      ⟨some 45, some (41, false), .not (.t 44)⟩,
      ⟨some 46, none, .pick (.t 41) (.c (.bool true)) (.t 45)⟩,
      ⟨some 36, none, .mv (.t 46)⟩])
    (.cond (.t 36)
     (.seq (.ops [⟨some 2, none, .mv (.c (.int .i64 3))⟩])
     (.ret))
     (.seq (.ops [⟨some 48, none, .faddr 1 (.t 1)⟩,
       ⟨some 49, none, .load false 1 (.t 48)⟩,
       ⟨some 50, none, .faddr 0 (.t 5)⟩,
       ⟨some 51, none, .load false 1 (.t 50)⟩,
       ⟨some 52, none, .call 83 [.t 49, .t 51]⟩,
       ⟨some 53, none, .bin .lss (.t 52) (.c (.int .i64 0))⟩,
       ⟨some 47, none, .mv (.t 53)⟩])
     (.cond (.t 47)
      (.seq (.ops [⟨some 2, none, .mv (.c (.int .i64 4))⟩])
      (.ret))
      (.seq (.draw [⟨some 55, none, .mv (.t 4)⟩,
        ⟨some 56, none, .bin .gtr (.t 55) (.c (.int .i64 0))⟩,
        ⟨some 57, none, .mv (.t 56)⟩,
        ⟨some 58, some (57, true), .faddr 2 (.t 1)⟩,
        ⟨some 59, some (57, true), .load false 1 (.t 58)⟩,
        ⟨some 60, some (57, true), .mv (.t 4)⟩,
        ⟨some 61, some (57, true), .bin .sub (.t 60) (.c (.int .i64 1))⟩,
        ⟨some 62, some (57, true), .iaddr 3 (.t 59) (.t 61)⟩,
        ⟨some 63, some (57, true), .load true 3 (.t 62)⟩,
        ⟨some 64, some (57, true), .load true 3 (.t 5)⟩] [⟨some 65, some (57, true), .call 95 [.t 63, .t 64]⟩,
        ⟨some 66, some (57, true), .bin .geq (.t 65) (.c (.int .i64 0))⟩,
        ⟨some 67, none, .pick (.t 57) (.t 66) (.c (.bool false))⟩,
        ⟨some 54, none, .mv (.t 67)⟩])
      (.cond (.t 54)
       (.seq (.ops [⟨some 2, none, .mv (.c (.int .i64 1))⟩])
       (.ret))
       (.skip))))))))))
  (.ops [⟨some 68, none, .bin .add (.t 31) (.c (.int .i64 1))⟩,
    ⟨some 31, none, .mv (.t 68)⟩])))
def l45_1 : VC :=
  .seq (.ops [⟨some 73, none, .bin .lss (.t 72) (.t 71)⟩])
  (.seq (.cond (.t 73)
   (.skip)
   (.exit 4))
  (.seq (.block 5 (.seq (.ops [⟨some 74, none, .iaddr 3 (.t 70) (.t 72)⟩,
     ⟨some 75, none, .load true 3 (.t 74)⟩,
     ⟨some 7, none, .new [.int .i64 0, .int .i64 0, .int .i64 0]⟩,
     ⟨none, none, .store 3 (.t 7) (.t 75)⟩])
   (.seq (.draw [⟨some 76, none, .faddr 2 (.t 1)⟩,
     ⟨some 77, none, .load false 1 (.t 76)⟩,
     ⟨some 78, none, .faddr 0 (.t 7)⟩,
     ⟨some 79, none, .load false 1 (.t 78)⟩,
     ⟨some 80, none, .call 96 [.t 77, .t 79]⟩,
     ⟨some 81, none, .len (.t 80)⟩,
     ⟨some 82, none, .faddr 1 (.t 7)⟩,
     ⟨some 83, none, .load false 1 (.t 82)⟩] [⟨some 84, none, .bin .gtr (.t 81) (.t 83)⟩])
   (.cond (.t 84)
    (.seq (.ops [⟨some 2, none, .mv (.c (.int .i64 9))⟩])
    (.ret))
    (.skip)))))
  (.ops [⟨some 85, none, .bin .add (.t 72) (.c (.int .i64 1))⟩,
    ⟨some 72, none, .mv (.t 85)⟩])))
def v45 : VF := ⟨1, 106, [.t 2], true,
  .seq (.ops [⟨some 1, none, .box (.t 0)⟩,
    ⟨some 2, none, .mv (.c (.int .i64 0))⟩])
  (.seq (.block 0 (.seq (.ops [⟨some 9, none, .faddr 0 (.t 1)⟩,
     ⟨some 10, none, .load false 1 (.t 9)⟩,
     ⟨some 11, none, .call 55 [.t 10, .c (.int .i64 0), .c (.int .i64 24)]⟩,
     ⟨some 12, none, .not (.t 11)⟩,
     ⟨some 8, none, .mv (.t 12)⟩])
   (.cond (.t 8)
    (.seq (.ops [⟨some 2, none, .mv (.c (.int .i64 3))⟩])
    (.ret))
    (.seq (.ops [⟨some 14, none, .faddr 1 (.t 1)⟩,
      ⟨some 15, none, .load false 1 (.t 14)⟩,
      ⟨some 16, none, .len (.t 15)⟩,
      ⟨some 17, none, .bin .gtr (.t 16) (.c (.int .i64 6))⟩,
      ⟨some 13, none, .mv (.t 17)⟩])
    (.cond (.t 13)
     (.seq (.ops [⟨some 2, none, .mv (.c (.int .i64 2))⟩])
     (.ret))
     (.skip))))))
  (.seq (.seq (.ops [⟨some 18, none, .faddr 1 (.t 1)⟩,
    ⟨some 19, none, .load false 1 (.t 18)⟩,
    ⟨some 20, none, .call 92 [.t 19]⟩,
    ⟨some 3, none, .mv (.t 20)⟩])
  (.seq (.ops [⟨some 21, none, .mv (.t 3)⟩,
    ⟨some 22, none, .bin .neq (.t 21) (.c (.int .i64 0))⟩])
  (.cond (.t 22)
   (.seq (.ops [⟨some 23, none, .mv (.t 3)⟩,
     ⟨some 2, none, .mv (.t 23)⟩])
   (.ret))
   (.skip))))
  (.seq (.seq (.ops [⟨some 24, none, .faddr 2 (.t 1)⟩,
    ⟨some 25, none, .load false 1 (.t 24)⟩,
    ⟨some 26, none, .len (.t 25)⟩,
    ⟨some 27, none, .bin .gtr (.t 26) (.c (.int .i64 96))⟩])
  (.cond (.t 27)
   (.seq (.ops [⟨some 2, none, .mv (.c (.int .i64 2))⟩])
   (.ret))
   (.skip)))
  (.seq (.seq (.ops [⟨some 28, none, .faddr 2 (.t 1)⟩,
    ⟨some 29, none, .load false 1 (.t 28)⟩,
    ⟨some 30, none, .len (.t 29)⟩,
    ⟨some 31, none, .mv (.c (.int .i64 0))⟩])
  (.block 1 (.loop [1, 29, 30, 31] [1, 2] l45_0)))
  (.seq (.seq (.ops [⟨some 69, none, .faddr 1 (.t 1)⟩,
    ⟨some 70, none, .load false 1 (.t 69)⟩,
    ⟨some 71, none, .len (.t 70)⟩,
    ⟨some 72, none, .mv (.c (.int .i64 0))⟩])
  (.block 4 (.loop [1, 70, 71, 72] [1, 2] l45_1)))
  (.seq (.seq (.draw [⟨some 86, none, .faddr 3 (.t 1)⟩,
    ⟨some 87, none, .load false 1 (.t 86)⟩,
    ⟨some 88, none, .len (.t 87)⟩,
    ⟨some 89, none, .bin .gtr (.t 88) (.c (.int .i64 1))⟩,
    ⟨some 90, none, .mv (.t 89)⟩,
    ⟨some 91, some (90, false), .faddr 3 (.t 1)⟩,
    ⟨some 92, some (90, false), .load false 1 (.t 91)⟩,
    ⟨some 93, some (90, false), .len (.t 92)⟩,
    ⟨some 94, some (90, false), .bin .eql (.t 93) (.c (.int .i64 1))⟩,
    ⟨some 95, some (90, false), .mv (.t 94)⟩,
    ⟨some 96, some (95, true), .faddr 3 (.t 1)⟩,
    ⟨some 97, some (95, true), .load false 1 (.t 96)⟩,
    ⟨some 98, some (95, true), .iaddr 1 (.t 97) (.c (.int .i64 0))⟩,
    ⟨some 99, some (95, true), .load false 1 (.t 98)⟩,
    ⟨some 100, some (95, true), .faddr 0 (.t 1)⟩,
    ⟨some 101, some (95, true), .load false 1 (.t 100)⟩] [⟨some 102, some (95, true), .call 55 [.t 99, .c (.int .i64 1), .t 101]⟩,
    ⟨some 103, some (95, true), .not (.t 102)⟩,
    ⟨some 104, some (90, false), .pick (.t 95) (.t 103) (.c (.bool false))⟩,
    ⟨some 105, none, .pick (.t 90) (.c (.bool true)) (.t 104)⟩])
  (.cond (.t 105)
   (.seq (.ops [⟨some 2, none, .mv (.c (.int .i64 1))⟩])
   (.ret))
   (.skip)))
  (.seq (.ops [⟨some 2, none, .mv (.c (.int .i64 0))⟩])
  (.ret))))))))⟩
theorem ok45 : FnOK Try.prog 45 v45 := ⟨⟨Try.f45, _, Try.func45, rfl, by kernel_rfl, rfl, by decide, by kernel_rfl, by kernel_rfl⟩⟩

/-- spec.CellIn -/
def v46 : VF := ⟨3, 27, [.cell 6 true 2], true,
  .seq (.ops [⟨some 3, none, .box (.t 0)⟩,
    ⟨some 6, none, .new [.int .i64 0, .int .i64 0]⟩])
  (.seq (.seq (.ops [⟨some 9, none, .call 91 [.t 3]⟩,
    ⟨some 7, none, .mv (.t 9)⟩])
  (.seq (.ops [⟨some 10, none, .mv (.t 7)⟩,
    ⟨some 11, none, .bin .neq (.t 10) (.c (.int .i64 0))⟩])
  (.cond (.t 11)
   (.seq (.ops [⟨some 12, none, .mv (.t 7)⟩,
     ⟨some 13, none, .build [.int .i64 0, .int .i64 0] [(0, 1, .t 12)]⟩,
     ⟨none, none, .store 2 (.t 6) (.t 13)⟩])
   (.ret))
   (.skip))))
  (.seq (.ops [⟨some 14, none, .mv (.t 1)⟩,
    ⟨some 15, none, .mv (.t 2)⟩,
    ⟨some 16, none, .call 97 [.t 3, .t 14, .t 15]⟩,
    ⟨some 8, none, .mv (.t 16)⟩])
  (.seq (.seq (.ops [⟨some 17, none, .mv (.t 8)⟩,
    ⟨some 18, none, .bin .lss (.t 17) (.c (.int .i64 0))⟩])
  (.cond (.t 18)
   (.seq (.ops [⟨some 19, none, .build [.int .i64 0, .int .i64 0] [(0, 1, .c (.int .i64 4))]⟩,
     ⟨none, none, .store 2 (.t 6) (.t 19)⟩])
   (.ret))
   (.skip)))
  (.seq (.ops [⟨some 20, none, .faddr 2 (.t 3)⟩,
    ⟨some 21, none, .load false 1 (.t 20)⟩,
    ⟨some 22, none, .mv (.t 8)⟩,
    ⟨some 23, none, .iaddr 3 (.t 21) (.t 22)⟩,
    ⟨some 24, none, .faddr 2 (.t 23)⟩,
    ⟨some 25, none, .load false 1 (.t 24)⟩,
    ⟨some 26, none, .build [.int .i64 0, .int .i64 0] [(1, 1, .t 25)]⟩,
    ⟨none, none, .store 2 (.t 6) (.t 26)⟩])
  (.ret)))))⟩
theorem ok46 : FnOK Try.prog 46 v46 := ⟨⟨Try.f46, _, Try.func46, rfl, by kernel_rfl, rfl, by decide, by kernel_rfl, by kernel_rfl⟩⟩

/-- impl.CellIn -/
def v47 : VF := ⟨3, 34, [.cell 6 true 2], true,
  .seq (.ops [⟨some 3, none, .box (.t 0)⟩,
    ⟨some 6, none, .new [.int .i64 0, .int .i64 0]⟩])
  (.seq (.seq (.ops [⟨some 10, none, .load true 4 (.t 3)⟩,
    ⟨some 11, none, .call 45 [.t 10]⟩,
    ⟨some 7, none, .mv (.t 11)⟩])
  (.seq (.ops [⟨some 12, none, .mv (.t 7)⟩,
    ⟨some 13, none, .bin .neq (.t 12) (.c (.int .i64 0))⟩])
  (.cond (.t 13)
   (.seq (.ops [⟨some 14, none, .mv (.t 7)⟩,
     ⟨some 15, none, .build [.int .i64 0, .int .i64 0] [(0, 1, .t 14)]⟩,
     ⟨none, none, .store 2 (.t 6) (.t 15)⟩])
   (.ret))
   (.skip))))
  (.seq (.ops [⟨some 17, none, .faddr 2 (.t 3)⟩,
    ⟨some 18, none, .load false 1 (.t 17)⟩,
    ⟨some 19, none, .mv (.t 1)⟩,
    ⟨some 20, none, .mv (.t 2)⟩,
    ⟨some 21, none, .call 98 [.t 18, .t 19, .t 20]⟩,
    ⟨some 16, none, .mv (.t 21)⟩,
    ⟨some 22, none, .ext 0 (.t 16)⟩,
    ⟨some 23, none, .ext 1 (.t 16)⟩,
    ⟨some 8, none, .mv (.t 22)⟩,
    ⟨some 9, none, .mv (.t 23)⟩])
  (.seq (.seq (.ops [⟨some 24, none, .mv (.t 9)⟩,
    ⟨some 25, none, .not (.t 24)⟩])
  (.cond (.t 25)
   (.seq (.ops [⟨some 26, none, .build [.int .i64 0, .int .i64 0] [(0, 1, .c (.int .i64 4))]⟩,
     ⟨none, none, .store 2 (.t 6) (.t 26)⟩])
   (.ret))
   (.skip)))
  (.seq (.ops [⟨some 27, none, .faddr 2 (.t 3)⟩,
    ⟨some 28, none, .load false 1 (.t 27)⟩,
    ⟨some 29, none, .mv (.t 8)⟩,
    ⟨some 30, none, .iaddr 3 (.t 28) (.t 29)⟩,
    ⟨some 31, none, .faddr 2 (.t 30)⟩,
    ⟨some 32, none, .load false 1 (.t 31)⟩,
    ⟨some 33, none, .build [.int .i64 0, .int .i64 0] [(1, 1, .t 32)]⟩,
    ⟨none, none, .store 2 (.t 6) (.t 33)⟩])
  (.ret)))))⟩
theorem ok47 : FnOK Try.prog 47 v47 := ⟨⟨Try.f47, _, Try.func47, rfl, by kernel_rfl, rfl, by decide, by kernel_rfl, by kernel_rfl⟩⟩

/-- spec.l1In -/
def v53 : VF := ⟨3, 15, [.t 6], true,
  .seq (.ops [⟨some 6, none, .mv (.c (.bool false))⟩])
  (.seq (.ops [⟨some 7, none, .mv (.t 0)⟩,
    ⟨some 8, none, .mv (.t 1)⟩,
    ⟨some 9, none, .bin .geq (.t 7) (.t 8)⟩,
    ⟨some 10, none, .mv (.t 9)⟩,
    ⟨some 11, some (10, true), .mv (.t 0)⟩,
    ⟨some 12, some (10, true), .mv (.t 2)⟩,
    ⟨some 13, some (10, true), .bin .leq (.t 11) (.t 12)⟩,
    ⟨some 14, none, .pick (.t 10) (.t 13) (.c (.bool false))⟩,
    ⟨some 6, none, .mv (.t 14)⟩])
  (.ret))⟩
theorem ok53 : FnOK Try.prog 53 v53 := ⟨⟨Try.f53, _, Try.func53, rfl, by kernel_rfl, rfl, by decide, by kernel_rfl, by kernel_rfl⟩⟩

/-- impl.within -/
def v55 : VF := ⟨3, 15, [.t 6], true,
  .seq (.ops [⟨some 6, none, .mv (.c (.bool false))⟩])
  (.seq (.ops [⟨some 7, none, .mv (.t 1)⟩,
    ⟨some 8, none, .mv (.t 0)⟩,
    ⟨some 9, none, .bin .leq (.t 7) (.t 8)⟩,
    ⟨some 10, none, .mv (.t 9)⟩,
    ⟨some 11, some (10, true), .mv (.t 0)⟩,
    ⟨some 12, some (10, true), .mv (.t 2)⟩,
    ⟨some 13, some (10, true), .bin .leq (.t 11) (.t 12)⟩,
    ⟨some 14, none, .pick (.t 10) (.t 13) (.c (.bool false))⟩,
    ⟨some 6, none, .mv (.t 14)⟩])
  (.ret))⟩
theorem ok55 : FnOK Try.prog 55 v55 := ⟨⟨Try.f55, _, Try.func55, rfl, by kernel_rfl, rfl, by decide, by kernel_rfl, by kernel_rfl⟩⟩

/-- laws.heldInt64S -/
def l57_0 : VC :=
  .seq (.seq (.ops [⟨some 6, none, .mv (.t 5)⟩,
    ⟨some 7, none, .mv (.t 0)⟩,
    ⟨some 8, none, .len (.t 7)⟩,
    ⟨some 9, none, .bin .lss (.t 6) (.t 8)⟩])
  (.cond (.t 9)
   (.skip)
   (.exit 0)))
  (.seq (.block 1 (.seq (.seq (.ops [⟨some 12, none, .mv (.t 0)⟩,
     ⟨some 13, none, .mv (.t 5)⟩,
     ⟨some 14, none, .iaddr 1 (.t 12) (.t 13)⟩,
     ⟨some 15, none, .load false 1 (.t 14)⟩,
     ⟨some 16, none, .mv (.t 1)⟩,
     ⟨some 17, none, .bin .neq (.t 15) (.t 16)⟩])
   (.cond (.t 17)
    (.seq (.ops [⟨some 4, none, .mv (.c (.int .i64 (-1)))⟩])
    (.ret))
    (.skip)))
   (.ops [⟨some 18, none, .mv (.t 1)⟩,
     ⟨some 19, none, .bin .add (.t 18) (.c (.int .i64 1))⟩,
     ⟨some 1, none, .mv (.t 19)⟩])))
  (.ops [⟨some 10, none, .mv (.t 5)⟩,
    ⟨some 11, none, .bin .add (.t 10) (.c (.int .i64 1))⟩,
    ⟨some 5, none, .mv (.t 11)⟩]))
def v57 : VF := ⟨2, 21, [.t 4], true,
  .seq (.ops [⟨some 4, none, .mv (.c (.int .i64 0))⟩])
  (.seq (.seq (.ops [⟨some 5, none, .mv (.c (.int .i64 0))⟩])
  (.block 0 (.loop [0, 1, 5] [1, 4] l57_0)))
  (.seq (.ops [⟨some 20, none, .mv (.t 1)⟩,
    ⟨some 4, none, .mv (.t 20)⟩])
  (.ret)))⟩
theorem ok57 : FnOK Try.prog 57 v57 := ⟨⟨Try.f57, _, Try.func57, rfl, by kernel_rfl, rfl, by decide, by kernel_rfl, by kernel_rfl⟩⟩

/-- laws.szVolS -/
def v58 : VF := ⟨2, 12, [.t 4], true,
  .seq (.ops [⟨some 4, none, .mv (.c (.int .i64 0))⟩])
  (.seq (.ops [⟨some 5, none, .mv (.t 1)⟩,
    ⟨some 6, none, .mv (.t 0)⟩,
    ⟨some 7, none, .len (.t 6)⟩,
    ⟨some 8, none, .bin .sub (.t 5) (.t 7)⟩,
    ⟨some 1, none, .mv (.t 8)⟩])
  (.seq (.seq (.ops [⟨some 9, none, .mv (.t 1)⟩,
    ⟨some 10, none, .bin .lss (.t 9) (.c (.int .i64 0))⟩])
  (.cond (.t 10)
   (.seq (.ops [⟨some 4, none, .mv (.c (.int .i64 (-1)))⟩])
   (.ret))
   (.skip)))
  (.seq (.ops [⟨some 11, none, .mv (.t 1)⟩,
    ⟨some 4, none, .mv (.t 11)⟩])
  (.ret))))⟩
theorem ok58 : FnOK Try.prog 58 v58 := ⟨⟨Try.f58, _, Try.func58, rfl, by kernel_rfl, rfl, by decide, by kernel_rfl, by kernel_rfl⟩⟩

/-- laws.szCellS -/
def v59 : VF := ⟨2, 12, [.t 4], true,
  .seq (.ops [⟨some 4, none, .mv (.c (.int .i64 0))⟩])
  (.seq (.ops [⟨some 5, none, .mv (.t 1)⟩,
    ⟨some 6, none, .mv (.t 0)⟩,
    ⟨some 7, none, .len (.t 6)⟩,
    ⟨some 8, none, .bin .sub (.t 5) (.t 7)⟩,
    ⟨some 1, none, .mv (.t 8)⟩])
  (.seq (.seq (.ops [⟨some 9, none, .mv (.t 1)⟩,
    ⟨some 10, none, .bin .lss (.t 9) (.c (.int .i64 0))⟩])
  (.cond (.t 10)
   (.seq (.ops [⟨some 4, none, .mv (.c (.int .i64 (-1)))⟩])
   (.ret))
   (.skip)))
  (.seq (.ops [⟨some 11, none, .mv (.t 1)⟩,
    ⟨some 4, none, .mv (.t 11)⟩])
  (.ret))))⟩
theorem ok59 : FnOK Try.prog 59 v59 := ⟨⟨Try.f59, _, Try.func59, rfl, by kernel_rfl, rfl, by decide, by kernel_rfl, by kernel_rfl⟩⟩

/-- laws.szInt64S -/
def v60 : VF := ⟨2, 12, [.t 4], true,
  .seq (.ops [⟨some 4, none, .mv (.c (.int .i64 0))⟩])
  (.seq (.ops [⟨some 5, none, .mv (.t 1)⟩,
    ⟨some 6, none, .mv (.t 0)⟩,
    ⟨some 7, none, .len (.t 6)⟩,
    ⟨some 8, none, .bin .sub (.t 5) (.t 7)⟩,
    ⟨some 1, none, .mv (.t 8)⟩])
  (.seq (.seq (.ops [⟨some 9, none, .mv (.t 1)⟩,
    ⟨some 10, none, .bin .lss (.t 9) (.c (.int .i64 0))⟩])
  (.cond (.t 10)
   (.seq (.ops [⟨some 4, none, .mv (.c (.int .i64 (-1)))⟩])
   (.ret))
   (.skip)))
  (.seq (.ops [⟨some 11, none, .mv (.t 1)⟩,
    ⟨some 4, none, .mv (.t 11)⟩])
  (.ret))))⟩
theorem ok60 : FnOK Try.prog 60 v60 := ⟨⟨Try.f60, _, Try.func60, rfl, by kernel_rfl, rfl, by decide, by kernel_rfl, by kernel_rfl⟩⟩

/-- laws.toVolS -/
def l61_0 : VC :=
  .seq (.seq (.ops [⟨some 8, none, .mv (.t 4)⟩,
    ⟨some 9, none, .mv (.t 0)⟩,
    ⟨some 10, none, .len (.t 9)⟩,
    ⟨some 11, none, .bin .lss (.t 8) (.t 10)⟩])
  (.cond (.t 11)
   (.skip)
   (.exit 0)))
  (.seq (.block 1 (.ops [⟨some 14, none, .mv (.t 3)⟩,
     ⟨some 15, none, .mv (.t 4)⟩,
     ⟨some 16, none, .mv (.t 0)⟩,
     ⟨some 17, none, .mv (.t 4)⟩,
     ⟨some 18, none, .iaddr 3 (.t 16) (.t 17)⟩,
     ⟨some 19, none, .load true 3 (.t 18)⟩,
     ⟨some 20, none, .call 108 [.t 19]⟩,
     ⟨some 21, none, .iaddr 3 (.t 14) (.t 15)⟩,
     ⟨none, none, .store 3 (.t 21) (.t 20)⟩]))
  (.ops [⟨some 12, none, .mv (.t 4)⟩,
    ⟨some 13, none, .bin .add (.t 12) (.c (.int .i64 1))⟩,
    ⟨some 4, none, .mv (.t 13)⟩]))
def v61 : VF := ⟨1, 23, [.t 2], true,
  .seq (.ops [⟨some 2, none, .mv (.c (.slice none 0 0))⟩])
  (.seq (.ops [⟨some 5, none, .mv (.t 0)⟩,
    ⟨some 6, none, .len (.t 5)⟩,
    ⟨some 7, none, .mkslice 3 24 [.int .i64 0, .int .i64 0, .int .i64 0] (.t 6) (.t 6)⟩,
    ⟨some 3, none, .mv (.t 7)⟩])
  (.seq (.seq (.ops [⟨some 4, none, .mv (.c (.int .i64 0))⟩])
  (.block 0 (.loop [0, 3, 4] [2, 3] l61_0)))
  (.seq (.ops [⟨some 22, none, .mv (.t 3)⟩,
    ⟨some 2, none, .mv (.t 22)⟩])
  (.ret))))⟩
theorem ok61 : FnOK Try.prog 61 v61 := ⟨⟨Try.f61, _, Try.func61, rfl, by kernel_rfl, rfl, by decide, by kernel_rfl, by kernel_rfl⟩⟩

/-- laws.toCellS -/
def l62_0 : VC :=
  .seq (.seq (.ops [⟨some 8, none, .mv (.t 4)⟩,
    ⟨some 9, none, .mv (.t 0)⟩,
    ⟨some 10, none, .len (.t 9)⟩,
    ⟨some 11, none, .bin .lss (.t 8) (.t 10)⟩])
  (.cond (.t 11)
   (.skip)
   (.exit 0)))
  (.seq (.block 1 (.ops [⟨some 14, none, .mv (.t 3)⟩,
     ⟨some 15, none, .mv (.t 4)⟩,
     ⟨some 16, none, .mv (.t 0)⟩,
     ⟨some 17, none, .mv (.t 4)⟩,
     ⟨some 18, none, .iaddr 3 (.t 16) (.t 17)⟩,
     ⟨some 19, none, .load true 3 (.t 18)⟩,
     ⟨some 20, none, .call 109 [.t 19]⟩,
     ⟨some 21, none, .iaddr 3 (.t 14) (.t 15)⟩,
     ⟨none, none, .store 3 (.t 21) (.t 20)⟩]))
  (.ops [⟨some 12, none, .mv (.t 4)⟩,
    ⟨some 13, none, .bin .add (.t 12) (.c (.int .i64 1))⟩,
    ⟨some 4, none, .mv (.t 13)⟩]))
def v62 : VF := ⟨1, 23, [.t 2], true,
  .seq (.ops [⟨some 2, none, .mv (.c (.slice none 0 0))⟩])
  (.seq (.ops [⟨some 5, none, .mv (.t 0)⟩,
    ⟨some 6, none, .len (.t 5)⟩,
    ⟨some 7, none, .mkslice 3 24 [.int .i64 0, .int .i64 0, .int .i64 0] (.t 6) (.t 6)⟩,
    ⟨some 3, none, .mv (.t 7)⟩])
  (.seq (.seq (.ops [⟨some 4, none, .mv (.c (.int .i64 0))⟩])
  (.block 0 (.loop [0, 3, 4] [2, 3] l62_0)))
  (.seq (.ops [⟨some 22, none, .mv (.t 3)⟩,
    ⟨some 2, none, .mv (.t 22)⟩])
  (.ret))))⟩
theorem ok62 : FnOK Try.prog 62 v62 := ⟨⟨Try.f62, _, Try.func62, rfl, by kernel_rfl, rfl, by decide, by kernel_rfl, by kernel_rfl⟩⟩

/-- laws.eqVolS -/
def l65_0 : VC :=
  .seq (.seq (.ops [⟨some 11, none, .mv (.t 5)⟩,
    ⟨some 12, none, .mv (.t 0)⟩,
    ⟨some 13, none, .len (.t 12)⟩,
    ⟨some 14, none, .bin .lss (.t 11) (.t 13)⟩])
  (.cond (.t 14)
   (.skip)
   (.exit 0)))
  (.seq (.block 1 (.seq (.draw [⟨some 17, none, .mv (.t 0)⟩,
     ⟨some 18, none, .mv (.t 5)⟩,
     ⟨some 19, none, .iaddr 3 (.t 17) (.t 18)⟩,
     ⟨some 20, none, .load true 3 (.t 19)⟩,
     ⟨some 21, none, .mv (.t 1)⟩,
     ⟨some 22, none, .mv (.t 5)⟩,
     ⟨some 23, none, .iaddr 3 (.t 21) (.t 22)⟩,
     ⟨some 24, none, .load true 3 (.t 23)⟩] [⟨some 25, none, .call 110 [.t 20, .t 24]⟩,
     ⟨some 26, none, .not (.t 25)⟩])
   (.cond (.t 26)
    (.seq (.ops [⟨some 4, none, .mv (.c (.bool false))⟩])
    (.ret))
    (.skip))))
  (.ops [⟨some 15, none, .mv (.t 5)⟩,
    ⟨some 16, none, .bin .add (.t 15) (.c (.int .i64 1))⟩,
    ⟨some 5, none, .mv (.t 16)⟩]))
def v65 : VF := ⟨2, 27, [.t 4], true,
  .seq (.ops [⟨some 4, none, .mv (.c (.bool false))⟩])
  (.seq (.seq (.ops [⟨some 6, none, .mv (.t 0)⟩,
    ⟨some 7, none, .len (.t 6)⟩,
    ⟨some 8, none, .mv (.t 1)⟩,
    ⟨some 9, none, .len (.t 8)⟩,
    ⟨some 10, none, .bin .neq (.t 7) (.t 9)⟩])
  (.cond (.t 10)
   (.seq (.ops [⟨some 4, none, .mv (.c (.bool false))⟩])
   (.ret))
   (.skip)))
  (.seq (.seq (.ops [⟨some 5, none, .mv (.c (.int .i64 0))⟩])
  (.block 0 (.loop [0, 1, 5] [4] l65_0)))
  (.seq (.ops [⟨some 4, none, .mv (.c (.bool true))⟩])
  (.ret))))⟩
theorem ok65 : FnOK Try.prog 65 v65 := ⟨⟨Try.f65, _, Try.func65, rfl, by kernel_rfl, rfl, by decide, by kernel_rfl, by kernel_rfl⟩⟩

/-- laws.eqCellS -/
def l66_0 : VC :=
  .seq (.seq (.ops [⟨some 11, none, .mv (.t 5)⟩,
    ⟨some 12, none, .mv (.t 0)⟩,
    ⟨some 13, none, .len (.t 12)⟩,
    ⟨some 14, none, .bin .lss (.t 11) (.t 13)⟩])
  (.cond (.t 14)
   (.skip)
   (.exit 0)))
  (.seq (.block 1 (.seq (.draw [⟨some 17, none, .mv (.t 0)⟩,
     ⟨some 18, none, .mv (.t 5)⟩,
     ⟨some 19, none, .iaddr 3 (.t 17) (.t 18)⟩,
     ⟨some 20, none, .load true 3 (.t 19)⟩,
     ⟨some 21, none, .mv (.t 1)⟩,
     ⟨some 22, none, .mv (.t 5)⟩,
     ⟨some 23, none, .iaddr 3 (.t 21) (.t 22)⟩,
     ⟨some 24, none, .load true 3 (.t 23)⟩] [⟨some 25, none, .call 111 [.t 20, .t 24]⟩,
     ⟨some 26, none, .not (.t 25)⟩])
   (.cond (.t 26)
    (.seq (.ops [⟨some 4, none, .mv (.c (.bool false))⟩])
    (.ret))
    (.skip))))
  (.ops [⟨some 15, none, .mv (.t 5)⟩,
    ⟨some 16, none, .bin .add (.t 15) (.c (.int .i64 1))⟩,
    ⟨some 5, none, .mv (.t 16)⟩]))
def v66 : VF := ⟨2, 27, [.t 4], true,
  .seq (.ops [⟨some 4, none, .mv (.c (.bool false))⟩])
  (.seq (.seq (.ops [⟨some 6, none, .mv (.t 0)⟩,
    ⟨some 7, none, .len (.t 6)⟩,
    ⟨some 8, none, .mv (.t 1)⟩,
    ⟨some 9, none, .len (.t 8)⟩,
    ⟨some 10, none, .bin .neq (.t 7) (.t 9)⟩])
  (.cond (.t 10)
   (.seq (.ops [⟨some 4, none, .mv (.c (.bool false))⟩])
   (.ret))
   (.skip)))
  (.seq (.seq (.ops [⟨some 5, none, .mv (.c (.int .i64 0))⟩])
  (.block 0 (.loop [0, 1, 5] [4] l66_0)))
  (.seq (.ops [⟨some 4, none, .mv (.c (.bool true))⟩])
  (.ret))))⟩
theorem ok66 : FnOK Try.prog 66 v66 := ⟨⟨Try.f66, _, Try.func66, rfl, by kernel_rfl, rfl, by decide, by kernel_rfl, by kernel_rfl⟩⟩

/-- laws.szForest -/
def v67 : VF := ⟨2, 18, [.t 4], true,
  .seq (.ops [⟨some 2, none, .box (.t 0)⟩,
    ⟨some 4, none, .mv (.c (.int .i64 0))⟩])
  (.seq (.ops [⟨some 5, none, .faddr 0 (.t 2)⟩,
    ⟨some 6, none, .load false 1 (.t 5)⟩,
    ⟨some 7, none, .mv (.t 1)⟩,
    ⟨some 8, none, .call 112 [.t 6, .t 7]⟩,
    ⟨some 1, none, .mv (.t 8)⟩])
  (.seq (.seq (.ops [⟨some 9, none, .mv (.t 1)⟩,
    ⟨some 10, none, .bin .lss (.t 9) (.c (.int .i64 0))⟩])
  (.cond (.t 10)
   (.seq (.ops [⟨some 4, none, .mv (.c (.int .i64 (-1)))⟩])
   (.ret))
   (.skip)))
  (.seq (.ops [⟨some 11, none, .faddr 1 (.t 2)⟩,
    ⟨some 12, none, .load false 1 (.t 11)⟩,
    ⟨some 13, none, .mv (.t 1)⟩,
    ⟨some 14, none, .call 113 [.t 12, .t 13]⟩,
    ⟨some 1, none, .mv (.t 14)⟩])
  (.seq (.seq (.ops [⟨some 15, none, .mv (.t 1)⟩,
    ⟨some 16, none, .bin .lss (.t 15) (.c (.int .i64 0))⟩])
  (.cond (.t 16)
   (.seq (.ops [⟨some 4, none, .mv (.c (.int .i64 (-1)))⟩])
   (.ret))
   (.skip)))
  (.seq (.ops [⟨some 17, none, .mv (.t 1)⟩,
    ⟨some 4, none, .mv (.t 17)⟩])
  (.ret))))))⟩
theorem ok67 : FnOK Try.prog 67 v67 := ⟨⟨Try.f67, _, Try.func67, rfl, by kernel_rfl, rfl, by decide, by kernel_rfl, by kernel_rfl⟩⟩

/-- spec.l5Nums -/
def l68_0 : VC :=
  .seq (.seq (.ops [⟨some 11, none, .mv (.t 5)⟩,
    ⟨some 12, none, .mv (.t 0)⟩,
    ⟨some 13, none, .len (.t 12)⟩,
    ⟨some 14, none, .bin .lss (.t 11) (.t 13)⟩])
  (.cond (.t 14)
   (.skip)
   (.exit 0)))
  (.seq (.block 1 (.seq (.draw [⟨some 17, none, .mv (.t 0)⟩,
     ⟨some 18, none, .mv (.t 5)⟩,
     ⟨some 19, none, .iaddr 1 (.t 17) (.t 18)⟩,
     ⟨some 20, none, .load false 1 (.t 19)⟩,
     ⟨some 21, none, .mv (.t 1)⟩,
     ⟨some 22, none, .mv (.t 5)⟩,
     ⟨some 23, none, .iaddr 1 (.t 21) (.t 22)⟩,
     ⟨some 24, none, .load false 1 (.t 23)⟩] [⟨some 25, none, .bin .neq (.t 20) (.t 24)⟩])
   (.cond (.t 25)
    (.seq (.ops [⟨some 4, none, .mv (.c (.bool false))⟩])
    (.ret))
    (.skip))))
  (.ops [⟨some 15, none, .mv (.t 5)⟩,
    ⟨some 16, none, .bin .add (.t 15) (.c (.int .i64 1))⟩,
    ⟨some 5, none, .mv (.t 16)⟩]))
def v68 : VF := ⟨2, 26, [.t 4], true,
  .seq (.ops [⟨some 4, none, .mv (.c (.bool false))⟩])
  (.seq (.seq (.ops [⟨some 6, none, .mv (.t 0)⟩,
    ⟨some 7, none, .len (.t 6)⟩,
    ⟨some 8, none, .mv (.t 1)⟩,
    ⟨some 9, none, .len (.t 8)⟩,
    ⟨some 10, none, .bin .neq (.t 7) (.t 9)⟩])
  (.cond (.t 10)
   (.seq (.ops [⟨some 4, none, .mv (.c (.bool false))⟩])
   (.ret))
   (.skip)))
  (.seq (.seq (.ops [⟨some 5, none, .mv (.c (.int .i64 0))⟩])
  (.block 0 (.loop [0, 1, 5] [4] l68_0)))
  (.seq (.ops [⟨some 4, none, .mv (.c (.bool true))⟩])
  (.ret))))⟩
theorem ok68 : FnOK Try.prog 68 v68 := ⟨⟨Try.f68, _, Try.func68, rfl, by kernel_rfl, rfl, by decide, by kernel_rfl, by kernel_rfl⟩⟩

/-- laws.toForest -/
def v69 : VF := ⟨1, 13, [.cell 2 true 2], true,
  .seq (.ops [⟨some 1, none, .box (.t 0)⟩,
    ⟨some 2, none, .new [.slice none 0 0, .slice none 0 0]⟩])
  (.seq (.ops [⟨some 3, none, .new [.slice none 0 0, .slice none 0 0]⟩])
  (.seq (.ops [⟨some 4, none, .faddr 0 (.t 1)⟩,
    ⟨some 5, none, .load false 1 (.t 4)⟩,
    ⟨some 6, none, .call 114 [.t 5]⟩,
    ⟨some 7, none, .faddr 0 (.t 3)⟩,
    ⟨none, none, .store 1 (.t 7) (.t 6)⟩])
  (.seq (.ops [⟨some 8, none, .faddr 1 (.t 1)⟩,
    ⟨some 9, none, .load false 1 (.t 8)⟩,
    ⟨some 10, none, .call 115 [.t 9]⟩,
    ⟨some 11, none, .faddr 1 (.t 3)⟩,
    ⟨none, none, .store 1 (.t 11) (.t 10)⟩])
  (.seq (.ops [⟨some 12, none, .load true 2 (.t 3)⟩,
    ⟨none, none, .store 2 (.t 2) (.t 12)⟩])
  (.ret)))))⟩
theorem ok69 : FnOK Try.prog 69 v69 := ⟨⟨Try.f69, _, Try.func69, rfl, by kernel_rfl, rfl, by decide, by kernel_rfl, by kernel_rfl⟩⟩

/-- impl.Node] -/
def l71_0 : VC :=
  .seq (.ops [⟨some 18, none, .bin .lss (.t 17) (.t 16)⟩])
  (.seq (.cond (.t 18)
   (.skip)
   (.exit 0))
  (.seq (.block 1 (.seq (.ops [⟨some 19, none, .mv (.t 17)⟩,
     ⟨some 20, none, .iaddr 3 (.t 15) (.t 17)⟩,
     ⟨some 21, none, .load true 3 (.t 20)⟩,
     ⟨some 8, none, .new [.int .i64 0, .bool false, .slice none 0 0]⟩,
     ⟨some 7, none, .mv (.t 19)⟩,
     ⟨none, none, .store 3 (.t 8) (.t 21)⟩])
   (.seq (.ops [⟨some 22, none, .mv (.t 1)⟩,
     ⟨some 23, none, .mv (.t 7)⟩,
     ⟨some 24, none, .iaddr 3 (.t 22) (.t 23)⟩,
     ⟨some 25, none, .load true 3 (.t 24)⟩,
     ⟨some 9, none, .new [.int .i64 0, .bool false, .slice none 0 0]⟩,
     ⟨none, none, .store 3 (.t 9) (.t 25)⟩])
   (.seq (.ops [⟨some 26, none, .mv (.t 2)⟩,
     ⟨some 27, none, .load true 3 (.t 8)⟩,
     ⟨some 28, none, .load true 3 (.t 9)⟩,
     ⟨some 29, none, .callv (.t 26) [.t 27, .t 28]⟩,
     ⟨some 30, none, .not (.t 29)⟩])
   (.cond (.t 30)
    (.seq (.ops [⟨some 6, none, .mv (.c (.bool false))⟩])
    (.ret))
    (.skip))))))
  (.ops [⟨some 31, none, .bin .add (.t 17) (.c (.int .i64 1))⟩,
    ⟨some 17, none, .mv (.t 31)⟩])))
def v71 : VF := ⟨3, 32, [.t 6], true,
  .seq (.ops [⟨some 6, none, .mv (.c (.bool false))⟩])
  (.seq (.seq (.ops [⟨some 10, none, .mv (.t 0)⟩,
    ⟨some 11, none, .len (.t 10)⟩,
    ⟨some 12, none, .mv (.t 1)⟩,
    ⟨some 13, none, .len (.t 12)⟩,
    ⟨some 14, none, .bin .neq (.t 11) (.t 13)⟩])
  (.cond (.t 14)
   (.seq (.ops [⟨some 6, none, .mv (.c (.bool false))⟩])
   (.ret))
   (.skip)))
  (.seq (.seq (.ops [⟨some 15, none, .mv (.t 0)⟩,
    ⟨some 16, none, .len (.t 15)⟩,
    ⟨some 17, none, .mv (.c (.int .i64 0))⟩])
  (.block 0 (.loop [1, 2, 15, 16, 17] [6] l71_0)))
  (.seq (.ops [⟨some 6, none, .mv (.c (.bool true))⟩])
  (.ret))))⟩
theorem ok71 : FnOK Try.prog 71 v71 := ⟨⟨Try.f71, _, Try.func71, rfl, by kernel_rfl, rfl, by decide, by kernel_rfl, by kernel_rfl⟩⟩

/-- impl.SamePools$1 -/
def v72 : VF := ⟨2, 24, [.t 4], true,
  .seq (.ops [⟨some 2, none, .box (.t 0)⟩,
    ⟨some 3, none, .box (.t 1)⟩,
    ⟨some 4, none, .mv (.c (.bool false))⟩])
  (.seq (.ops [⟨some 5, none, .faddr 0 (.t 2)⟩,
    ⟨some 6, none, .load false 1 (.t 5)⟩,
    ⟨some 7, none, .faddr 0 (.t 3)⟩,
    ⟨some 8, none, .load false 1 (.t 7)⟩,
    ⟨some 9, none, .bin .eql (.t 6) (.t 8)⟩,
    ⟨some 10, none, .mv (.t 9)⟩,
    ⟨some 11, some (10, true), .faddr 1 (.t 2)⟩,
    ⟨some 12, some (10, true), .load false 1 (.t 11)⟩,
    ⟨some 13, some (10, true), .faddr 1 (.t 3)⟩,
    ⟨some 14, some (10, true), .load false 1 (.t 13)⟩,
    ⟨some 15, some (10, true), .beq false (.t 12) (.t 14)⟩,
    ⟨some 16, none, .pick (.t 10) (.t 15) (.c (.bool false))⟩,
    ⟨some 17, none, .mv (.t 16)⟩,
    ⟨some 18, some (17, true), .faddr 2 (.t 2)⟩,
    ⟨some 19, some (17, true), .load false 1 (.t 18)⟩,
    ⟨some 20, some (17, true), .faddr 2 (.t 3)⟩,
    ⟨some 21, some (17, true), .load false 1 (.t 20)⟩,
    ⟨some 22, some (17, true), .call 73 [.t 19, .t 21]⟩,
    ⟨some 23, none, .pick (.t 17) (.t 22) (.c (.bool false))⟩,
    ⟨some 4, none, .mv (.t 23)⟩])
  (.ret))⟩
theorem ok72 : FnOK Try.prog 72 v72 := ⟨⟨Try.f72, _, Try.func72, rfl, by kernel_rfl, rfl, by decide, by kernel_rfl, by kernel_rfl⟩⟩

/-- slices.Equal[[]int64,int64] -/
def l73_0 : VC :=
  .seq (.ops [⟨some 14, none, .bin .lss (.t 13) (.t 12)⟩])
  (.seq (.cond (.t 14)
   (.skip)
   (.exit 0))
  (.seq (.block 1 (.seq (.ops [⟨some 15, none, .mv (.t 13)⟩,
     ⟨some 5, none, .mv (.t 15)⟩])
   (.seq (.draw [⟨some 16, none, .mv (.t 0)⟩,
     ⟨some 17, none, .mv (.t 5)⟩,
     ⟨some 18, none, .iaddr 1 (.t 16) (.t 17)⟩,
     ⟨some 19, none, .load false 1 (.t 18)⟩,
     ⟨some 20, none, .mv (.t 1)⟩,
     ⟨some 21, none, .mv (.t 5)⟩,
     ⟨some 22, none, .iaddr 1 (.t 20) (.t 21)⟩,
     ⟨some 23, none, .load false 1 (.t 22)⟩] [⟨some 24, none, .bin .neq (.t 19) (.t 23)⟩])
   (.cond (.t 24)
    (.seq (.ops [⟨some 4, none, .mv (.c (.bool false))⟩])
    (.ret))
    (.skip)))))
  (.ops [⟨some 25, none, .bin .add (.t 13) (.c (.int .i64 1))⟩,
    ⟨some 13, none, .mv (.t 25)⟩])))
def v73 : VF := ⟨2, 26, [.t 4], true,
  .seq (.ops [⟨some 4, none, .mv (.c (.bool false))⟩])
  (.seq (.seq (.ops [⟨some 6, none, .mv (.t 0)⟩,
    ⟨some 7, none, .len (.t 6)⟩,
    ⟨some 8, none, .mv (.t 1)⟩,
    ⟨some 9, none, .len (.t 8)⟩,
    ⟨some 10, none, .bin .neq (.t 7) (.t 9)⟩])
  (.cond (.t 10)
   (.seq (.ops [⟨some 4, none, .mv (.c (.bool false))⟩])
   (.ret))
   (.skip)))
  (.seq (.seq (.ops [⟨some 11, none, .mv (.t 0)⟩,
    ⟨some 12, none, .len (.t 11)⟩,
    ⟨some 13, none, .mv (.c (.int .i64 0))⟩])
  (.block 0 (.loop [0, 1, 12, 13] [4] l73_0)))
  (.seq (.ops [⟨some 4, none, .mv (.c (.bool true))⟩])
  (.ret))))⟩
theorem ok73 : FnOK Try.prog 73 v73 := ⟨⟨Try.f73, _, Try.func73, rfl, by kernel_rfl, rfl, by decide, by kernel_rfl, by kernel_rfl⟩⟩

/-- laws.eqForest -/
def v74 : VF := ⟨2, 17, [.t 4], true,
  .seq (.ops [⟨some 2, none, .box (.t 0)⟩,
    ⟨some 3, none, .box (.t 1)⟩,
    ⟨some 4, none, .mv (.c (.bool false))⟩])
  (.seq (.seq (.ops [⟨some 5, none, .faddr 0 (.t 2)⟩,
    ⟨some 6, none, .load false 1 (.t 5)⟩,
    ⟨some 7, none, .faddr 0 (.t 3)⟩,
    ⟨some 8, none, .load false 1 (.t 7)⟩,
    ⟨some 9, none, .call 116 [.t 6, .t 8]⟩,
    ⟨some 10, none, .not (.t 9)⟩])
  (.cond (.t 10)
   (.seq (.ops [⟨some 4, none, .mv (.c (.bool false))⟩])
   (.ret))
   (.skip)))
  (.seq (.seq (.ops [⟨some 11, none, .faddr 1 (.t 2)⟩,
    ⟨some 12, none, .load false 1 (.t 11)⟩,
    ⟨some 13, none, .faddr 1 (.t 3)⟩,
    ⟨some 14, none, .load false 1 (.t 13)⟩,
    ⟨some 15, none, .call 117 [.t 12, .t 14]⟩,
    ⟨some 16, none, .not (.t 15)⟩])
  (.cond (.t 16)
   (.seq (.ops [⟨some 4, none, .mv (.c (.bool false))⟩])
   (.ret))
   (.skip)))
  (.seq (.ops [⟨some 4, none, .mv (.c (.bool true))⟩])
  (.ret))))⟩
theorem ok74 : FnOK Try.prog 74 v74 := ⟨⟨Try.f74, _, Try.func74, rfl, by kernel_rfl, rfl, by decide, by kernel_rfl, by kernel_rfl⟩⟩
def env0 : Env := [(5, v5), (6, v6), (7, v7), (8, v8), (9, v9), (10, v10), (11, v11), (14, v14), (17, v17), (18, v18), (21, v21), (23, v23), (25, v25), (26, v26), (28, v28), (29, v29), (30, v30), (31, v31), (32, v32), (33, v33), (34, v34), (35, v35), (36, v36), (37, v37), (38, v38), (39, v39), (40, v40), (41, v41), (42, v42), (43, v43), (44, v44), (45, v45), (46, v46), (47, v47), (53, v53), (55, v55), (57, v57), (58, v58), (59, v59), (60, v60), (61, v61), (62, v62), (65, v65), (66, v66), (67, v67), (68, v68), (69, v69), (71, v71), (72, v72), (73, v73), (74, v74)]
theorem envOK0 : EnvOK Try.prog env0 := .cons ok5 (.cons ok6 (.cons ok7 (.cons ok8 (.cons ok9 (.cons ok10 (.cons ok11 (.cons ok14 (.cons ok17 (.cons ok18 (.cons ok21 (.cons ok23 (.cons ok25 (.cons ok26 (.cons ok28 (.cons ok29 (.cons ok30 (.cons ok31 (.cons ok32 (.cons ok33 (.cons ok34 (.cons ok35 (.cons ok36 (.cons ok37 (.cons ok38 (.cons ok39 (.cons ok40 (.cons ok41 (.cons ok42 (.cons ok43 (.cons ok44 (.cons ok45 (.cons ok46 (.cons ok47 (.cons ok53 (.cons ok55 (.cons ok57 (.cons ok58 (.cons ok59 (.cons ok60 (.cons ok61 (.cons ok62 (.cons ok65 (.cons ok66 (.cons ok67 (.cons ok68 (.cons ok69 (.cons ok71 (.cons ok72 (.cons ok73 (.cons ok74 (.nil)))))))))))))))))))))))))))))))))))))))))))))))))))
end Go.Proofs.Ytflddpkmajoeaaa.V
