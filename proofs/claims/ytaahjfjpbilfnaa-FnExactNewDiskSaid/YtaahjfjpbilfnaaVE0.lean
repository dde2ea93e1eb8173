/- The machine's code of the program's functions; each is the program's own, by the kernel. Laid by a program (wip/v/vmgen.py). -/
import Derived.Test.YtaahjfjpbilfnaaVMS
import Derived.Test.YtaahjfjpbilfnaaProg
namespace Go.Proofs.Ytaahjfjpbilfnaa.V
open Go
set_option maxRecDepth 100000
/-- laws.FnExactNewDisk -/
def v6 : VF := ⟨1, 66, [.t 2], true,
  .seq (.ops [⟨some 2, none, .mv (.c (.bool false))⟩])
  (.seq (.seq (.ops [⟨some 10, none, .mv (.t 0)⟩,
    ⟨some 11, none, .len (.t 10)⟩,
    ⟨some 12, none, .bin .gtr (.t 11) (.c (.int .i64 1048576))⟩])
  (.cond (.t 12)
   (.seq (.ops [⟨some 2, none, .mv (.c (.bool true))⟩])
   (.ret))
   (.skip)))
  (.seq (.ops [⟨some 13, none, .mv (.t 0)⟩,
    ⟨some 14, none, .call 33 [.t 13]⟩,
    ⟨some 15, none, .call 32 [.t 14]⟩,
    ⟨some 3, none, .new [.int .i64 0, .slice none 0 0, .slice none 0 0]⟩,
    ⟨none, none, .store 3 (.t 3) (.t 15)⟩])
  (.seq (.ops [⟨some 16, none, .mv (.t 0)⟩,
    ⟨some 17, none, .call 33 [.t 16]⟩,
    ⟨some 4, none, .mv (.t 17)⟩])
  (.seq (.ops [⟨some 18, none, .mv (.t 4)⟩,
    ⟨some 19, none, .call 31 [.t 18]⟩,
    ⟨some 5, none, .new [.int .i64 0, .slice none 0 0, .slice none 0 0]⟩,
    ⟨none, none, .store 3 (.t 5) (.t 19)⟩])
  (.seq (.seq (.ops [⟨some 20, none, .load true 3 (.t 5)⟩,
    ⟨some 21, none, .load true 3 (.t 3)⟩,
    ⟨some 22, none, .call 34 [.t 20, .t 21]⟩,
    ⟨some 23, none, .not (.t 22)⟩])
  (.cond (.t 23)
   (.seq (.ops [⟨some 2, none, .mv (.c (.bool false))⟩])
   (.ret))
   (.skip)))
  (.seq (.seq (.ops [⟨some 24, none, .mv (.t 4)⟩,
    ⟨some 25, none, .mv (.t 0)⟩,
    ⟨some 26, none, .call 33 [.t 25]⟩,
    ⟨some 27, none, .call 35 [.t 24, .t 26]⟩,
    ⟨some 28, none, .not (.t 27)⟩])
  (.cond (.t 28)
   (.seq (.ops [⟨some 2, none, .mv (.c (.bool false))⟩])
   (.ret))
   (.skip)))
  (.seq (.ops [⟨some 6, none, .mv (.c (.int .i64 1))⟩])
  (.seq (.ops [⟨some 29, none, .mv (.t 4)⟩,
    ⟨some 30, none, .mv (.t 6)⟩,
    ⟨some 31, none, .call 36 [.t 29, .t 30]⟩,
    ⟨some 6, none, .mv (.t 31)⟩])
  (.seq (.seq (.ops [⟨some 32, none, .mv (.t 6)⟩,
    ⟨some 33, none, .bin .lss (.t 32) (.c (.int .i64 0))⟩,
    ⟨some 34, none, .mv (.t 33)⟩,
    ⟨some 35, some (34, false), .load true 3 (.t 5)⟩,
    ⟨some 36, some (34, false), .load true 3 (.t 3)⟩,
    ⟨some 37, some (34, false), .call 34 [.t 35, .t 36]⟩,
    ⟨some 38, some (34, false), .not (.t 37)⟩,
    ⟨some 39, none, .pick (.t 34) (.c (.bool true)) (.t 38)⟩])
  (.cond (.t 39)
   (.seq (.ops [⟨some 2, none, .mv (.c (.bool false))⟩])
   (.ret))
   (.skip)))
  (.seq (.ops [⟨some 7, none, .mv (.c (.int .i64 1))⟩])
  (.seq (.ops [⟨some 40, none, .load true 3 (.t 5)⟩,
    ⟨some 41, none, .mv (.t 7)⟩,
    ⟨some 42, none, .call 37 [.t 40, .t 41]⟩,
    ⟨some 7, none, .mv (.t 42)⟩])
  (.seq (.ops [⟨some 8, none, .mv (.c (.int .i64 1))⟩])
  (.seq (.ops [⟨some 43, none, .load true 3 (.t 5)⟩,
    ⟨some 44, none, .mv (.t 8)⟩,
    ⟨some 45, none, .call 38 [.t 43, .t 44]⟩,
    ⟨some 8, none, .mv (.t 45)⟩])
  (.seq (.seq (.ops [⟨some 46, none, .mv (.t 8)⟩,
    ⟨some 47, none, .bin .lss (.t 46) (.c (.int .i64 0))⟩])
  (.cond (.t 47)
   (.seq (.ops [⟨some 2, none, .mv (.c (.bool false))⟩])
   (.ret))
   (.skip)))
  (.seq (.seq (.ops [⟨some 48, none, .mv (.t 8)⟩,
    ⟨some 49, none, .mv (.t 7)⟩,
    ⟨some 50, none, .bin .neq (.t 48) (.t 49)⟩])
  (.cond (.t 50)
   (.seq (.ops [⟨some 2, none, .mv (.c (.bool false))⟩])
   (.ret))
   (.skip)))
  (.seq (.ops [⟨some 51, none, .mv (.t 0)⟩,
    ⟨some 52, none, .call 33 [.t 51]⟩,
    ⟨some 53, none, .call 31 [.t 52]⟩,
    ⟨some 9, none, .new [.int .i64 0, .slice none 0 0, .slice none 0 0]⟩,
    ⟨none, none, .store 3 (.t 9) (.t 53)⟩])
  (.seq (.seq (.ops [⟨some 54, none, .load true 3 (.t 9)⟩,
    ⟨some 55, none, .load true 3 (.t 3)⟩,
    ⟨some 56, none, .call 34 [.t 54, .t 55]⟩,
    ⟨some 57, none, .not (.t 56)⟩])
  (.cond (.t 57)
   (.seq (.ops [⟨some 2, none, .mv (.c (.bool false))⟩])
   (.ret))
   (.skip)))
  (.seq (.ops [⟨some 8, none, .mv (.c (.int .i64 1))⟩])
  (.seq (.ops [⟨some 58, none, .load true 3 (.t 5)⟩,
    ⟨some 59, none, .mv (.t 8)⟩,
    ⟨some 60, none, .call 38 [.t 58, .t 59]⟩,
    ⟨some 8, none, .mv (.t 60)⟩])
  (.seq (.seq (.ops [⟨some 61, none, .mv (.t 8)⟩,
    ⟨some 62, none, .bin .lss (.t 61) (.c (.int .i64 0))⟩])
  (.cond (.t 62)
   (.seq (.ops [⟨some 2, none, .mv (.c (.bool false))⟩])
   (.ret))
   (.skip)))
  (.seq (.seq (.ops [⟨some 63, none, .mv (.t 8)⟩,
    ⟨some 64, none, .mv (.t 7)⟩,
    ⟨some 65, none, .bin .neq (.t 63) (.t 64)⟩])
  (.cond (.t 65)
   (.seq (.ops [⟨some 2, none, .mv (.c (.bool false))⟩])
   (.ret))
   (.skip)))
  (.seq (.ops [⟨some 2, none, .mv (.c (.bool true))⟩])
  (.ret)))))))))))))))))))))))⟩
theorem ok6 : FnOK Try.prog 6 v6 := ⟨⟨Try.f6, _, Try.func6, rfl, by kernel_rfl, rfl, by decide, by kernel_rfl, by kernel_rfl⟩⟩

/-- impl.DiskFault -/
def v19 : VF := ⟨1, 23, [.t 2], true,
  .seq (.ops [⟨some 1, none, .box (.t 0)⟩,
    ⟨some 2, none, .mv (.c (.int .i64 0))⟩])
  (.seq (.block 0 (.seq (.ops [⟨some 4, none, .faddr 0 (.t 1)⟩,
     ⟨some 5, none, .load false 1 (.t 4)⟩,
     ⟨some 6, none, .len (.t 5)⟩,
     ⟨some 7, none, .bin .neq (.t 6) (.c (.int .i64 64))⟩,
     ⟨some 3, none, .mv (.t 7)⟩])
   (.cond (.t 3)
    (.seq (.ops [⟨some 2, none, .mv (.c (.int .i64 1))⟩])
    (.ret))
    (.seq (.ops [⟨some 9, none, .faddr 1 (.t 1)⟩,
      ⟨some 10, none, .load false 1 (.t 9)⟩,
      ⟨some 11, none, .len (.t 10)⟩,
      ⟨some 12, none, .bin .gtr (.t 11) (.c (.int .i64 200))⟩,
      ⟨some 8, none, .mv (.t 12)⟩])
    (.cond (.t 8)
     (.seq (.ops [⟨some 2, none, .mv (.c (.int .i64 2))⟩])
     (.ret))
     (.seq (.ops [⟨some 14, none, .faddr 0 (.t 1)⟩,
       ⟨some 15, none, .load false 1 (.t 14)⟩,
       ⟨some 16, none, .call 70 [.t 15]⟩,
       ⟨some 17, none, .not (.t 16)⟩,
       ⟨some 18, none, .mv (.t 17)⟩,
       ⟨some 19, some (18, false), .faddr 1 (.t 1)⟩,
       ⟨some 20, some (18, false), .load false 1 (.t 19)⟩,
       ⟨some 21, some (18, false), .call 71 [.t 20, .c (.func (.func 72) #[] #[])]⟩,
       ⟨some 22, none, .pick (.t 18) (.c (.bool true)) (.t 21)⟩,
       ⟨some 13, none, .mv (.t 22)⟩])
     (.cond (.t 13)
      (.seq (.ops [⟨some 2, none, .mv (.c (.int .i64 3))⟩])
      (.ret))
      (.skip))))))))
  (.seq (.ops [⟨some 2, none, .mv (.c (.int .i64 0))⟩])
  (.ret)))⟩
theorem ok19 : FnOK Try.prog 19 v19 := ⟨⟨Try.f19, _, Try.func19, rfl, by kernel_rfl, rfl, by decide, by kernel_rfl, by kernel_rfl⟩⟩

/-- laws.eqDisk -/
def v20 : VF := ⟨2, 17, [.t 4], true,
  .seq (.ops [⟨some 2, none, .box (.t 0)⟩,
    ⟨some 3, none, .box (.t 1)⟩,
    ⟨some 4, none, .mv (.c (.bool false))⟩])
  (.seq (.seq (.ops [⟨some 5, none, .faddr 0 (.t 2)⟩,
    ⟨some 6, none, .load false 1 (.t 5)⟩,
    ⟨some 7, none, .faddr 0 (.t 3)⟩,
    ⟨some 8, none, .load false 1 (.t 7)⟩,
    ⟨some 9, none, .call 35 [.t 6, .t 8]⟩,
    ⟨some 10, none, .not (.t 9)⟩])
  (.cond (.t 10)
   (.seq (.ops [⟨some 4, none, .mv (.c (.bool false))⟩])
   (.ret))
   (.skip)))
  (.seq (.seq (.ops [⟨some 11, none, .faddr 1 (.t 2)⟩,
    ⟨some 12, none, .load false 1 (.t 11)⟩,
    ⟨some 13, none, .faddr 1 (.t 3)⟩,
    ⟨some 14, none, .load false 1 (.t 13)⟩,
    ⟨some 15, none, .call 75 [.t 12, .t 14]⟩,
    ⟨some 16, none, .not (.t 15)⟩])
  (.cond (.t 16)
   (.seq (.ops [⟨some 4, none, .mv (.c (.bool false))⟩])
   (.ret))
   (.skip)))
  (.seq (.ops [⟨some 4, none, .mv (.c (.bool true))⟩])
  (.ret))))⟩
theorem ok20 : FnOK Try.prog 20 v20 := ⟨⟨Try.f20, _, Try.func20, rfl, by kernel_rfl, rfl, by decide, by kernel_rfl, by kernel_rfl⟩⟩

/-- impl.NewDisk -/
def v31 : VF := ⟨1, 22, [.cell 2 true 3], true,
  .seq (.ops [⟨some 2, none, .new [.int .i64 0, .slice none 0 0, .slice none 0 0]⟩])
  (.seq (.ops [⟨some 5, none, .mv (.t 0)⟩,
    ⟨some 6, none, .mv (.t 0)⟩,
    ⟨some 7, none, .len (.t 6)⟩,
    ⟨some 8, none, .bin .sub (.c (.int .i64 64)) (.t 7)⟩,
    ⟨some 9, none, .mx (.c (.int .i64 0)) (.t 8)⟩,
    ⟨some 10, none, .mkslice 1 8 [.int .i64 0] (.t 9) (.t 9)⟩,
    ⟨some 11, none, .bslice 1 [.slice none 0 0, .slice none 0 0] 2 [(0, 1, .t 5), (1, 1, .t 10)]⟩,
    ⟨some 12, none, .call 85 [.t 11]⟩,
    ⟨some 13, none, .build [.slice none 0 0, .slice none 0 0] [(0, 1, .t 12)]⟩,
    ⟨some 3, none, .new [.slice none 0 0, .slice none 0 0]⟩,
    ⟨none, none, .store 2 (.t 3) (.t 13)⟩])
  (.seq (.seq (.ops [⟨some 14, none, .load true 2 (.t 3)⟩,
    ⟨some 15, none, .call 19 [.t 14]⟩,
    ⟨some 4, none, .mv (.t 15)⟩])
  (.seq (.ops [⟨some 16, none, .mv (.t 4)⟩,
    ⟨some 17, none, .bin .neq (.t 16) (.c (.int .i64 0))⟩])
  (.cond (.t 17)
   (.seq (.ops [⟨some 18, none, .mv (.t 4)⟩,
     ⟨some 19, none, .build [.int .i64 0, .slice none 0 0, .slice none 0 0] [(0, 1, .t 18)]⟩,
     ⟨none, none, .store 3 (.t 2) (.t 19)⟩])
   (.ret))
   (.skip))))
  (.seq (.ops [⟨some 20, none, .load true 2 (.t 3)⟩,
    ⟨some 21, none, .build [.int .i64 0, .slice none 0 0, .slice none 0 0] [(1, 2, .t 20)]⟩,
    ⟨none, none, .store 3 (.t 2) (.t 21)⟩])
  (.ret))))⟩
theorem ok31 : FnOK Try.prog 31 v31 := ⟨⟨Try.f31, _, Try.func31, rfl, by kernel_rfl, rfl, by decide, by kernel_rfl, by kernel_rfl⟩⟩

/-- spec.NewDisk -/
def l32_0 : VC :=
  .seq (.seq (.ops [⟨some 9, none, .faddr 0 (.t 3)⟩,
    ⟨some 10, none, .load false 1 (.t 9)⟩,
    ⟨some 11, none, .len (.t 10)⟩,
    ⟨some 12, none, .bin .lss (.t 11) (.c (.int .i64 64))⟩])
  (.cond (.t 12)
   (.skip)
   (.exit 0)))
  (.block 1 (.ops [⟨some 13, none, .faddr 0 (.t 3)⟩,
     ⟨some 14, none, .load false 1 (.t 13)⟩,
     ⟨some 15, none, .bslice 1 [.int .i64 0] 1 [(0, 1, .c (.int .i64 0))]⟩,
     ⟨some 16, none, .append 1 8 (.t 14) (.t 15)⟩,
     ⟨some 17, none, .faddr 0 (.t 3)⟩,
     ⟨none, none, .store 1 (.t 17) (.t 16)⟩]))
def v32 : VF := ⟨1, 25, [.cell 2 true 3], true,
  .seq (.ops [⟨some 2, none, .new [.int .i64 0, .slice none 0 0, .slice none 0 0]⟩])
  (.seq (.ops [⟨some 5, none, .bslice 1 [] 0 []⟩,
    ⟨some 6, none, .mv (.t 0)⟩,
    ⟨some 7, none, .append 1 8 (.t 5) (.t 6)⟩,
    ⟨some 8, none, .build [.slice none 0 0, .slice none 0 0] [(0, 1, .t 7)]⟩,
    ⟨some 3, none, .new [.slice none 0 0, .slice none 0 0]⟩,
    ⟨none, none, .store 2 (.t 3) (.t 8)⟩])
  (.seq (.block 0 (.loop [2, 3] [2, 3] l32_0))
  (.seq (.seq (.ops [⟨some 18, none, .call 68 [.t 3]⟩,
    ⟨some 4, none, .mv (.t 18)⟩])
  (.seq (.ops [⟨some 19, none, .mv (.t 4)⟩,
    ⟨some 20, none, .bin .neq (.t 19) (.c (.int .i64 0))⟩])
  (.cond (.t 20)
   (.seq (.ops [⟨some 21, none, .mv (.t 4)⟩,
     ⟨some 22, none, .build [.int .i64 0, .slice none 0 0, .slice none 0 0] [(0, 1, .t 21)]⟩,
     ⟨none, none, .store 3 (.t 2) (.t 22)⟩])
   (.ret))
   (.skip))))
  (.seq (.ops [⟨some 23, none, .load true 2 (.t 3)⟩,
    ⟨some 24, none, .build [.int .i64 0, .slice none 0 0, .slice none 0 0] [(1, 2, .t 23)]⟩,
    ⟨none, none, .store 3 (.t 2) (.t 24)⟩])
  (.ret)))))⟩
theorem ok32 : FnOK Try.prog 32 v32 := ⟨⟨Try.f32, _, Try.func32, rfl, by kernel_rfl, rfl, by decide, by kernel_rfl, by kernel_rfl⟩⟩

/-- laws.toInt64S -/
def l33_0 : VC :=
  .seq (.seq (.ops [⟨some 8, none, .mv (.t 4)⟩,
    ⟨some 9, none, .mv (.t 0)⟩,
    ⟨some 10, none, .len (.t 9)⟩,
    ⟨some 11, none, .bin .lss (.t 8) (.t 10)⟩])
  (.cond (.t 11)
   (.skip)
   (.exit 0)))
  (.seq (.block 1 (.ops [⟨some 14, none, .mv (.t 3)⟩,
     ⟨some 15, none, .mv (.t 4)⟩,
     ⟨some 16, none, .mv (.t 0)⟩,
     ⟨some 17, none, .mv (.t 4)⟩,
     ⟨some 18, none, .iaddr 1 (.t 16) (.t 17)⟩,
     ⟨some 19, none, .load false 1 (.t 18)⟩,
     ⟨some 20, none, .iaddr 1 (.t 14) (.t 15)⟩,
     ⟨none, none, .store 1 (.t 20) (.t 19)⟩]))
  (.ops [⟨some 12, none, .mv (.t 4)⟩,
    ⟨some 13, none, .bin .add (.t 12) (.c (.int .i64 1))⟩,
    ⟨some 4, none, .mv (.t 13)⟩]))
def v33 : VF := ⟨1, 22, [.t 2], true,
  .seq (.ops [⟨some 2, none, .mv (.c (.slice none 0 0))⟩])
  (.seq (.ops [⟨some 5, none, .mv (.t 0)⟩,
    ⟨some 6, none, .len (.t 5)⟩,
    ⟨some 7, none, .mkslice 1 8 [.int .i64 0] (.t 6) (.t 6)⟩,
    ⟨some 3, none, .mv (.t 7)⟩])
  (.seq (.seq (.ops [⟨some 4, none, .mv (.c (.int .i64 0))⟩])
  (.block 0 (.loop [0, 3, 4] [2, 3] l33_0)))
  (.seq (.ops [⟨some 21, none, .mv (.t 3)⟩,
    ⟨some 2, none, .mv (.t 21)⟩])
  (.ret))))⟩
theorem ok33 : FnOK Try.prog 33 v33 := ⟨⟨Try.f33, _, Try.func33, rfl, by kernel_rfl, rfl, by decide, by kernel_rfl, by kernel_rfl⟩⟩

/-- laws.eqDiskResult -/
def v34 : VF := ⟨2, 16, [.t 4], true,
  .seq (.ops [⟨some 2, none, .box (.t 0)⟩,
    ⟨some 3, none, .box (.t 1)⟩,
    ⟨some 4, none, .mv (.c (.bool false))⟩])
  (.seq (.seq (.ops [⟨some 5, none, .faddr 0 (.t 2)⟩,
    ⟨some 6, none, .load false 1 (.t 5)⟩,
    ⟨some 7, none, .faddr 0 (.t 3)⟩,
    ⟨some 8, none, .load false 1 (.t 7)⟩,
    ⟨some 9, none, .bin .neq (.t 6) (.t 8)⟩])
  (.cond (.t 9)
   (.seq (.ops [⟨some 4, none, .mv (.c (.bool false))⟩])
   (.ret))
   (.skip)))
  (.seq (.seq (.ops [⟨some 10, none, .faddr 1 (.t 2)⟩,
    ⟨some 11, none, .load true 2 (.t 10)⟩,
    ⟨some 12, none, .faddr 1 (.t 3)⟩,
    ⟨some 13, none, .load true 2 (.t 12)⟩,
    ⟨some 14, none, .call 20 [.t 11, .t 13]⟩,
    ⟨some 15, none, .not (.t 14)⟩])
  (.cond (.t 15)
   (.seq (.ops [⟨some 4, none, .mv (.c (.bool false))⟩])
   (.ret))
   (.skip)))
  (.seq (.ops [⟨some 4, none, .mv (.c (.bool true))⟩])
  (.ret))))⟩
theorem ok34 : FnOK Try.prog 34 v34 := ⟨⟨Try.f34, _, Try.func34, rfl, by kernel_rfl, rfl, by decide, by kernel_rfl, by kernel_rfl⟩⟩

/-- laws.eqInt64S -/
def l35_0 : VC :=
  .seq (.seq (.ops [⟨some 11, none, .mv (.t 5)⟩,
    ⟨some 12, none, .mv (.t 0)⟩,
    ⟨some 13, none, .len (.t 12)⟩,
    ⟨some 14, none, .bin .lss (.t 11) (.t 13)⟩])
  (.cond (.t 14)
   (.skip)
   (.exit 0)))
  (.seq (.block 1 (.seq (.draw [⟨some 17, none, .mv (.t 0)⟩,
     ⟨some 18, none, .mv (.t 5)⟩,
     ⟨some 19, none, .iaddr 1 (.t 17) (.t 18)⟩,
     ⟨some 20, none, .load false 1 (.t 19)⟩,
     ⟨some 21, none, .mv (.t 1)⟩,
     ⟨some 22, none, .mv (.t 5)⟩,
     ⟨some 23, none, .iaddr 1 (.t 21) (.t 22)⟩,
     ⟨some 24, none, .load false 1 (.t 23)⟩] [⟨some 25, none, .bin .neq (.t 20) (.t 24)⟩])
   (.cond (.t 25)
    (.seq (.ops [⟨some 4, none, .mv (.c (.bool false))⟩])
    (.ret))
    (.skip))))
  (.ops [⟨some 15, none, .mv (.t 5)⟩,
    ⟨some 16, none, .bin .add (.t 15) (.c (.int .i64 1))⟩,
    ⟨some 5, none, .mv (.t 16)⟩]))
def v35 : VF := ⟨2, 26, [.t 4], true,
  .seq (.ops [⟨some 4, none, .mv (.c (.bool false))⟩])
  (.seq (.seq (.ops [⟨some 6, none, .mv (.t 0)⟩,
    ⟨some 7, none, .len (.t 6)⟩,
    ⟨some 8, none, .mv (.t 1)⟩,
    ⟨some 9, none, .len (.t 8)⟩,
    ⟨some 10, none, .bin .neq (.t 7) (.t 9)⟩])
  (.cond (.t 10)
   (.seq (.ops [⟨some 4, none, .mv (.c (.bool false))⟩])
   (.ret))
   (.skip)))
  (.seq (.seq (.ops [⟨some 5, none, .mv (.c (.int .i64 0))⟩])
  (.block 0 (.loop [0, 1, 5] [4] l35_0)))
  (.seq (.ops [⟨some 4, none, .mv (.c (.bool true))⟩])
  (.ret))))⟩
theorem ok35 : FnOK Try.prog 35 v35 := ⟨⟨Try.f35, _, Try.func35, rfl, by kernel_rfl, rfl, by decide, by kernel_rfl, by kernel_rfl⟩⟩

/-- laws.markInt64S -/
def l36_0 : VC :=
  .seq (.seq (.ops [⟨some 6, none, .mv (.t 5)⟩,
    ⟨some 7, none, .mv (.t 0)⟩,
    ⟨some 8, none, .len (.t 7)⟩,
    ⟨some 9, none, .bin .lss (.t 6) (.t 8)⟩])
  (.cond (.t 9)
   (.skip)
   (.exit 0)))
  (.seq (.block 1 (.seq (.ops [⟨some 12, none, .mv (.t 0)⟩,
     ⟨some 13, none, .mv (.t 5)⟩,
     ⟨some 14, none, .mv (.t 1)⟩,
     ⟨some 15, none, .iaddr 1 (.t 12) (.t 13)⟩,
     ⟨none, none, .store 1 (.t 15) (.t 14)⟩])
   (.ops [⟨some 16, none, .mv (.t 1)⟩,
     ⟨some 17, none, .bin .add (.t 16) (.c (.int .i64 1))⟩,
     ⟨some 1, none, .mv (.t 17)⟩])))
  (.ops [⟨some 10, none, .mv (.t 5)⟩,
    ⟨some 11, none, .bin .add (.t 10) (.c (.int .i64 1))⟩,
    ⟨some 5, none, .mv (.t 11)⟩]))
def v36 : VF := ⟨2, 19, [.t 4], false,
  .seq (.ops [⟨some 4, none, .mv (.c (.int .i64 0))⟩])
  (.seq (.seq (.ops [⟨some 5, none, .mv (.c (.int .i64 0))⟩])
  (.block 0 (.loop [0, 1, 5] [1, 4] l36_0)))
  (.seq (.ops [⟨some 18, none, .mv (.t 1)⟩,
    ⟨some 4, none, .mv (.t 18)⟩])
  (.ret)))⟩
theorem ok36 : FnOK Try.prog 36 v36 := ⟨⟨Try.f36, _, Try.func36, rfl, by kernel_rfl, rfl, by decide, by kernel_rfl, by kernel_rfl⟩⟩

/-- laws.markDiskResult -/
def v37 : VF := ⟨2, 10, [.t 4], false,
  .seq (.ops [⟨some 2, none, .box (.t 0)⟩,
    ⟨some 4, none, .mv (.c (.int .i64 0))⟩])
  (.seq (.ops [⟨some 5, none, .faddr 1 (.t 2)⟩,
    ⟨some 6, none, .load true 2 (.t 5)⟩,
    ⟨some 7, none, .mv (.t 1)⟩,
    ⟨some 8, none, .call 41 [.t 6, .t 7]⟩,
    ⟨some 1, none, .mv (.t 8)⟩])
  (.seq (.ops [⟨some 9, none, .mv (.t 1)⟩,
    ⟨some 4, none, .mv (.t 9)⟩])
  (.ret)))⟩
theorem ok37 : FnOK Try.prog 37 v37 := ⟨⟨Try.f37, _, Try.func37, rfl, by kernel_rfl, rfl, by decide, by kernel_rfl, by kernel_rfl⟩⟩

/-- laws.heldDiskResult -/
def v38 : VF := ⟨2, 12, [.t 4], true,
  .seq (.ops [⟨some 2, none, .box (.t 0)⟩,
    ⟨some 4, none, .mv (.c (.int .i64 0))⟩])
  (.seq (.ops [⟨some 5, none, .faddr 1 (.t 2)⟩,
    ⟨some 6, none, .load true 2 (.t 5)⟩,
    ⟨some 7, none, .mv (.t 1)⟩,
    ⟨some 8, none, .call 86 [.t 6, .t 7]⟩,
    ⟨some 1, none, .mv (.t 8)⟩])
  (.seq (.seq (.ops [⟨some 9, none, .mv (.t 1)⟩,
    ⟨some 10, none, .bin .lss (.t 9) (.c (.int .i64 0))⟩])
  (.cond (.t 10)
   (.seq (.ops [⟨some 4, none, .mv (.c (.int .i64 (-1)))⟩])
   (.ret))
   (.skip)))
  (.seq (.ops [⟨some 11, none, .mv (.t 1)⟩,
    ⟨some 4, none, .mv (.t 11)⟩])
  (.ret))))⟩
theorem ok38 : FnOK Try.prog 38 v38 := ⟨⟨Try.f38, _, Try.func38, rfl, by kernel_rfl, rfl, by decide, by kernel_rfl, by kernel_rfl⟩⟩

/-- laws.markDisk -/
def v41 : VF := ⟨2, 14, [.t 4], false,
  .seq (.ops [⟨some 2, none, .box (.t 0)⟩,
    ⟨some 4, none, .mv (.c (.int .i64 0))⟩])
  (.seq (.ops [⟨some 5, none, .faddr 0 (.t 2)⟩,
    ⟨some 6, none, .load false 1 (.t 5)⟩,
    ⟨some 7, none, .mv (.t 1)⟩,
    ⟨some 8, none, .call 36 [.t 6, .t 7]⟩,
    ⟨some 1, none, .mv (.t 8)⟩])
  (.seq (.ops [⟨some 9, none, .faddr 1 (.t 2)⟩,
    ⟨some 10, none, .load false 1 (.t 9)⟩,
    ⟨some 11, none, .mv (.t 1)⟩,
    ⟨some 12, none, .call 88 [.t 10, .t 11]⟩,
    ⟨some 1, none, .mv (.t 12)⟩])
  (.seq (.ops [⟨some 13, none, .mv (.t 1)⟩,
    ⟨some 4, none, .mv (.t 13)⟩])
  (.ret))))⟩
theorem ok41 : FnOK Try.prog 41 v41 := ⟨⟨Try.f41, _, Try.func41, rfl, by kernel_rfl, rfl, by decide, by kernel_rfl, by kernel_rfl⟩⟩

/-- spec.l1Fault -/
def l68_0 : VC :=
  .seq (.seq (.ops [⟨some 17, none, .mv (.t 3)⟩,
    ⟨some 18, none, .mv (.t 0)⟩,
    ⟨some 19, none, .nilck (.t 18)⟩,
    ⟨some 20, none, .faddr 0 (.t 19)⟩,
    ⟨some 21, none, .load false 1 (.t 20)⟩,
    ⟨some 22, none, .len (.t 21)⟩,
    ⟨some 23, none, .bin .lss (.t 17) (.t 22)⟩])
  (.cond (.t 23)
   (.skip)
   (.exit 0)))
  (.seq (.block 1 (.seq (.ops [⟨some 26, none, .mv (.t 0)⟩,
     ⟨some 27, none, .nilck (.t 26)⟩,
     ⟨some 28, none, .faddr 0 (.t 27)⟩,
     ⟨some 29, none, .load false 1 (.t 28)⟩,
     ⟨some 30, none, .mv (.t 3)⟩,
     ⟨some 31, none, .iaddr 1 (.t 29) (.t 30)⟩,
     ⟨some 32, none, .load false 1 (.t 31)⟩,
     ⟨some 33, none, .call 90 [.t 32]⟩,
     ⟨some 34, none, .not (.t 33)⟩])
   (.cond (.t 34)
    (.seq (.ops [⟨some 2, none, .mv (.c (.int .i64 3))⟩])
    (.ret))
    (.skip))))
  (.ops [⟨some 24, none, .mv (.t 3)⟩,
    ⟨some 25, none, .bin .add (.t 24) (.c (.int .i64 1))⟩,
    ⟨some 3, none, .mv (.t 25)⟩]))
def l68_1 : VC :=
  .seq (.seq (.ops [⟨some 35, none, .mv (.t 4)⟩,
    ⟨some 36, none, .mv (.t 0)⟩,
    ⟨some 37, none, .nilck (.t 36)⟩,
    ⟨some 38, none, .faddr 1 (.t 37)⟩,
    ⟨some 39, none, .load false 1 (.t 38)⟩,
    ⟨some 40, none, .len (.t 39)⟩,
    ⟨some 41, none, .bin .lss (.t 35) (.t 40)⟩])
  (.cond (.t 41)
   (.skip)
   (.exit 2)))
  (.seq (.block 3 (.seq (.ops [⟨some 44, none, .mv (.t 0)⟩,
     ⟨some 45, none, .nilck (.t 44)⟩,
     ⟨some 46, none, .faddr 1 (.t 45)⟩,
     ⟨some 47, none, .load false 1 (.t 46)⟩,
     ⟨some 48, none, .mv (.t 4)⟩,
     ⟨some 49, none, .iaddr 2 (.t 47) (.t 48)⟩,
     ⟨some 50, none, .faddr 0 (.t 49)⟩,
     ⟨some 51, none, .load false 1 (.t 50)⟩,
     ⟨some 52, none, .call 76 [.t 51]⟩,
     ⟨some 53, none, .not (.t 52)⟩,
     ⟨some 54, none, .mv (.t 53)⟩,
     ⟨some 55, some (54, false), .mv (.t 0)⟩,
     ⟨some 56, some (54, false), .nilck (.t 55)⟩,
     ⟨some 57, some (54, false), .faddr 1 (.t 56)⟩,
     ⟨some 58, some (54, false), .load false 1 (.t 57)⟩,
     ⟨some 59, some (54, false), .mv (.t 4)⟩,
     ⟨some 60, some (54, false), .iaddr 2 (.t 58) (.t 59)⟩,
     ⟨some 61, some (54, false), .faddr 1 (.t 60)⟩,
     ⟨some 62, some (54, false), .load false 1 (.t 61)⟩,
     ⟨some 63, some (54, false), .call 90 [.t 62]⟩,
     ⟨some 64, some (54, false), .not (.t 63)⟩,
     ⟨some 65, none, .pick (.t 54) (.c (.bool true)) (.t 64)⟩])
   (.cond (.t 65)
    (.seq (.ops [⟨some 2, none, .mv (.c (.int .i64 3))⟩])
    (.ret))
    (.skip))))
  (.ops [⟨some 42, none, .mv (.t 4)⟩,
    ⟨some 43, none, .bin .add (.t 42) (.c (.int .i64 1))⟩,
    ⟨some 4, none, .mv (.t 43)⟩]))
def v68 : VF := ⟨1, 66, [.t 2], true,
  .seq (.ops [⟨some 2, none, .mv (.c (.int .i64 0))⟩])
  (.seq (.seq (.ops [⟨some 5, none, .mv (.t 0)⟩,
    ⟨some 6, none, .nilck (.t 5)⟩,
    ⟨some 7, none, .faddr 0 (.t 6)⟩,
    ⟨some 8, none, .load false 1 (.t 7)⟩,
    ⟨some 9, none, .len (.t 8)⟩,
    ⟨some 10, none, .bin .neq (.t 9) (.c (.int .i64 64))⟩])
  (.cond (.t 10)
   (.seq (.ops [⟨some 2, none, .mv (.c (.int .i64 1))⟩])
   (.ret))
   (.skip)))
  (.seq (.seq (.ops [⟨some 11, none, .mv (.t 0)⟩,
    ⟨some 12, none, .nilck (.t 11)⟩,
    ⟨some 13, none, .faddr 1 (.t 12)⟩,
    ⟨some 14, none, .load false 1 (.t 13)⟩,
    ⟨some 15, none, .len (.t 14)⟩,
    ⟨some 16, none, .bin .gtr (.t 15) (.c (.int .i64 200))⟩])
  (.cond (.t 16)
   (.seq (.ops [⟨some 2, none, .mv (.c (.int .i64 2))⟩])
   (.ret))
   (.skip)))
  (.seq (.seq (.ops [⟨some 3, none, .mv (.c (.int .i64 0))⟩])
  (.block 0 (.loop [0, 3] [0, 2] l68_0)))
  (.seq (.seq (.ops [⟨some 4, none, .mv (.c (.int .i64 0))⟩])
  (.block 2 (.loop [0, 4] [2] l68_1)))
  (.seq (.ops [⟨some 2, none, .mv (.c (.int .i64 0))⟩])
  (.ret))))))⟩
theorem ok68 : FnOK Try.prog 68 v68 := ⟨⟨Try.f68, _, Try.func68, rfl, by kernel_rfl, rfl, by decide, by kernel_rfl, by kernel_rfl⟩⟩

/-- impl.areWords -/
def v70 : VF := ⟨1, 6, [.t 2], true,
  .seq (.ops [⟨some 2, none, .mv (.c (.bool false))⟩])
  (.seq (.ops [⟨some 3, none, .mv (.t 0)⟩,
    ⟨some 4, none, .call 106 [.t 3, .c (.func (.func 107) #[] #[])]⟩,
    ⟨some 5, none, .not (.t 4)⟩,
    ⟨some 2, none, .mv (.t 5)⟩])
  (.ret))⟩
theorem ok70 : FnOK Try.prog 70 v70 := ⟨⟨Try.f70, _, Try.func70, rfl, by kernel_rfl, rfl, by decide, by kernel_rfl, by kernel_rfl⟩⟩

/-- impl.Put] -/
def v71 : VF := ⟨2, 9, [.t 4], true,
  .seq (.ops [⟨some 4, none, .mv (.c (.bool false))⟩])
  (.seq (.ops [⟨some 5, none, .mv (.t 0)⟩,
    ⟨some 6, none, .mv (.t 1)⟩,
    ⟨some 7, none, .call 108 [.t 5, .t 6]⟩,
    ⟨some 8, none, .bin .geq (.t 7) (.c (.int .i64 0))⟩,
    ⟨some 4, none, .mv (.t 8)⟩])
  (.ret))⟩
theorem ok71 : FnOK Try.prog 71 v71 := ⟨⟨Try.f71, _, Try.func71, rfl, by kernel_rfl, rfl, by decide, by kernel_rfl, by kernel_rfl⟩⟩

/-- impl.DiskFault$1 -/
def v72 : VF := ⟨1, 13, [.t 2], true,
  .seq (.ops [⟨some 1, none, .box (.t 0)⟩,
    ⟨some 2, none, .mv (.c (.bool false))⟩])
  (.seq (.ops [⟨some 3, none, .faddr 0 (.t 1)⟩,
    ⟨some 4, none, .load false 1 (.t 3)⟩,
    ⟨some 5, none, .call 73 [.t 4]⟩,
    ⟨some 6, none, .not (.t 5)⟩,
    ⟨some 7, none, .mv (.t 6)⟩,
    ⟨some 8, some (7, false), .faddr 1 (.t 1)⟩,
    ⟨some 9, some (7, false), .load false 1 (.t 8)⟩,
    ⟨some 10, some (7, false), .call 74 [.t 9]⟩,
    ⟨some 11, some (7, false), .not (.t 10)⟩,
    ⟨some 12, none, .pick (.t 7) (.c (.bool true)) (.t 11)⟩,
    ⟨some 2, none, .mv (.t 12)⟩])
  (.ret))⟩
theorem ok72 : FnOK Try.prog 72 v72 := ⟨⟨Try.f72, _, Try.func72, rfl, by kernel_rfl, rfl, by decide, by kernel_rfl, by kernel_rfl⟩⟩

/-- impl.isPlace -/
def v73 : VF := ⟨1, 5, [.t 2], true,
  .seq (.ops [⟨some 2, none, .mv (.c (.bool false))⟩])
  (.seq (.ops [⟨some 3, none, .mv (.t 0)⟩,
    ⟨some 4, none, .call 104 [.t 3, .c (.int .i64 0), .c (.int .i64 63)]⟩,
    ⟨some 2, none, .mv (.t 4)⟩])
  (.ret))⟩
theorem ok73 : FnOK Try.prog 73 v73 := ⟨⟨Try.f73, _, Try.func73, rfl, by kernel_rfl, rfl, by decide, by kernel_rfl, by kernel_rfl⟩⟩

/-- impl.isWord -/
def v74 : VF := ⟨1, 5, [.t 2], true,
  .seq (.ops [⟨some 2, none, .mv (.c (.bool false))⟩])
  (.seq (.ops [⟨some 3, none, .mv (.t 0)⟩,
    ⟨some 4, none, .call 104 [.t 3, .c (.int .i64 0), .c (.int .i64 65535)]⟩,
    ⟨some 2, none, .mv (.t 4)⟩])
  (.ret))⟩
theorem ok74 : FnOK Try.prog 74 v74 := ⟨⟨Try.f74, _, Try.func74, rfl, by kernel_rfl, rfl, by decide, by kernel_rfl, by kernel_rfl⟩⟩

/-- laws.eqPutS -/
def l75_0 : VC :=
  .seq (.seq (.ops [⟨some 11, none, .mv (.t 5)⟩,
    ⟨some 12, none, .mv (.t 0)⟩,
    ⟨some 13, none, .len (.t 12)⟩,
    ⟨some 14, none, .bin .lss (.t 11) (.t 13)⟩])
  (.cond (.t 14)
   (.skip)
   (.exit 0)))
  (.seq (.block 1 (.seq (.draw [⟨some 17, none, .mv (.t 0)⟩,
     ⟨some 18, none, .mv (.t 5)⟩,
     ⟨some 19, none, .iaddr 2 (.t 17) (.t 18)⟩,
     ⟨some 20, none, .load true 2 (.t 19)⟩,
     ⟨some 21, none, .mv (.t 1)⟩,
     ⟨some 22, none, .mv (.t 5)⟩,
     ⟨some 23, none, .iaddr 2 (.t 21) (.t 22)⟩,
     ⟨some 24, none, .load true 2 (.t 23)⟩] [⟨some 25, none, .call 109 [.t 20, .t 24]⟩,
     ⟨some 26, none, .not (.t 25)⟩])
   (.cond (.t 26)
    (.seq (.ops [⟨some 4, none, .mv (.c (.bool false))⟩])
    (.ret))
    (.skip))))
  (.ops [⟨some 15, none, .mv (.t 5)⟩,
    ⟨some 16, none, .bin .add (.t 15) (.c (.int .i64 1))⟩,
    ⟨some 5, none, .mv (.t 16)⟩]))
def v75 : VF := ⟨2, 27, [.t 4], true,
  .seq (.ops [⟨some 4, none, .mv (.c (.bool false))⟩])
  (.seq (.seq (.ops [⟨some 6, none, .mv (.t 0)⟩,
    ⟨some 7, none, .len (.t 6)⟩,
    ⟨some 8, none, .mv (.t 1)⟩,
    ⟨some 9, none, .len (.t 8)⟩,
    ⟨some 10, none, .bin .neq (.t 7) (.t 9)⟩])
  (.cond (.t 10)
   (.seq (.ops [⟨some 4, none, .mv (.c (.bool false))⟩])
   (.ret))
   (.skip)))
  (.seq (.seq (.ops [⟨some 5, none, .mv (.c (.int .i64 0))⟩])
  (.block 0 (.loop [0, 1, 5] [4] l75_0)))
  (.seq (.ops [⟨some 4, none, .mv (.c (.bool true))⟩])
  (.ret))))⟩
theorem ok75 : FnOK Try.prog 75 v75 := ⟨⟨Try.f75, _, Try.func75, rfl, by kernel_rfl, rfl, by decide, by kernel_rfl, by kernel_rfl⟩⟩

/-- spec.l1Place -/
def v76 : VF := ⟨1, 5, [.t 2], true,
  .seq (.ops [⟨some 2, none, .mv (.c (.bool false))⟩])
  (.seq (.ops [⟨some 3, none, .mv (.t 0)⟩,
    ⟨some 4, none, .call 110 [.t 3, .c (.int .i64 0), .c (.int .i64 63)]⟩,
    ⟨some 2, none, .mv (.t 4)⟩])
  (.ret))⟩
theorem ok76 : FnOK Try.prog 76 v76 := ⟨⟨Try.f76, _, Try.func76, rfl, by kernel_rfl, rfl, by decide, by kernel_rfl, by kernel_rfl⟩⟩

/-- slices.Concat[[]int64,int64] -/
def l85_0 : VC :=
  .seq (.ops [⟨some 12, none, .bin .lss (.t 11) (.t 10)⟩])
  (.seq (.cond (.t 12)
   (.skip)
   (.exit 0))
  (.seq (.block 1 (.seq (.ops [⟨some 13, none, .iaddr 1 (.t 9) (.t 11)⟩,
     ⟨some 14, none, .load false 1 (.t 13)⟩,
     ⟨some 5, none, .mv (.t 14)⟩])
   (.seq (.ops [⟨some 15, none, .mv (.t 3)⟩,
     ⟨some 16, none, .mv (.t 5)⟩,
     ⟨some 17, none, .len (.t 16)⟩,
     ⟨some 18, none, .bin .add (.t 15) (.t 17)⟩,
     ⟨some 3, none, .mv (.t 18)⟩])
   (.seq (.ops [⟨some 19, none, .mv (.t 3)⟩,
     ⟨some 20, none, .bin .lss (.t 19) (.c (.int .i64 0))⟩])
   (.cond (.t 20)
    (.ops [⟨some 21, none, .bad⟩,
      ⟨none, none, .bad⟩])
    (.skip))))))
  (.ops [⟨some 22, none, .bin .add (.t 11) (.c (.int .i64 1))⟩,
    ⟨some 11, none, .mv (.t 22)⟩])))
def l85_1 : VC :=
  .seq (.ops [⟨some 28, none, .bin .lss (.t 27) (.t 26)⟩])
  (.seq (.cond (.t 28)
   (.skip)
   (.exit 2))
  (.seq (.block 3 (.seq (.ops [⟨some 29, none, .iaddr 1 (.t 25) (.t 27)⟩,
     ⟨some 30, none, .load false 1 (.t 29)⟩,
     ⟨some 8, none, .mv (.t 30)⟩])
   (.ops [⟨some 31, none, .mv (.t 6)⟩,
     ⟨some 32, none, .mv (.t 8)⟩,
     ⟨some 33, none, .append 1 8 (.t 31) (.t 32)⟩,
     ⟨some 6, none, .mv (.t 33)⟩])))
  (.ops [⟨some 34, none, .bin .add (.t 27) (.c (.int .i64 1))⟩,
    ⟨some 27, none, .mv (.t 34)⟩])))
def v85 : VF := ⟨1, 36, [.t 2], true,
  .seq (.ops [⟨some 2, none, .mv (.c (.slice none 0 0))⟩])
  (.seq (.ops [⟨some 3, none, .mv (.c (.int .i64 0))⟩])
  (.seq (.seq (.ops [⟨some 9, none, .mv (.t 0)⟩,
    ⟨some 10, none, .len (.t 9)⟩,
    ⟨some 11, none, .mv (.c (.int .i64 0))⟩])
  (.block 0 (.loop [0, 3, 9, 10, 11] [0, 2, 3] l85_0)))
  (.seq (.ops [⟨some 23, none, .mv (.t 3)⟩,
    ⟨some 24, none, .call 115 [.c (.slice none 0 0), .t 23]⟩,
    ⟨some 6, none, .mv (.t 24)⟩])
  (.seq (.seq (.ops [⟨some 25, none, .mv (.t 0)⟩,
    ⟨some 26, none, .len (.t 25)⟩,
    ⟨some 27, none, .mv (.c (.int .i64 0))⟩])
  (.block 2 (.loop [6, 25, 26, 27] [2, 6] l85_1)))
  (.seq (.ops [⟨some 35, none, .mv (.t 6)⟩,
    ⟨some 2, none, .mv (.t 35)⟩])
  (.ret))))))⟩
theorem ok85 : FnOK Try.prog 85 v85 := ⟨⟨Try.f85, _, Try.func85, rfl, by kernel_rfl, rfl, by decide, by kernel_rfl, by kernel_rfl⟩⟩

/-- laws.heldDisk -/
def v86 : VF := ⟨2, 18, [.t 4], true,
  .seq (.ops [⟨some 2, none, .box (.t 0)⟩,
    ⟨some 4, none, .mv (.c (.int .i64 0))⟩])
  (.seq (.ops [⟨some 5, none, .faddr 0 (.t 2)⟩,
    ⟨some 6, none, .load false 1 (.t 5)⟩,
    ⟨some 7, none, .mv (.t 1)⟩,
    ⟨some 8, none, .call 89 [.t 6, .t 7]⟩,
    ⟨some 1, none, .mv (.t 8)⟩])
  (.seq (.seq (.ops [⟨some 9, none, .mv (.t 1)⟩,
    ⟨some 10, none, .bin .lss (.t 9) (.c (.int .i64 0))⟩])
  (.cond (.t 10)
   (.seq (.ops [⟨some 4, none, .mv (.c (.int .i64 (-1)))⟩])
   (.ret))
   (.skip)))
  (.seq (.ops [⟨some 11, none, .faddr 1 (.t 2)⟩,
    ⟨some 12, none, .load false 1 (.t 11)⟩,
    ⟨some 13, none, .mv (.t 1)⟩,
    ⟨some 14, none, .call 116 [.t 12, .t 13]⟩,
    ⟨some 1, none, .mv (.t 14)⟩])
  (.seq (.seq (.ops [⟨some 15, none, .mv (.t 1)⟩,
    ⟨some 16, none, .bin .lss (.t 15) (.c (.int .i64 0))⟩])
  (.cond (.t 16)
   (.seq (.ops [⟨some 4, none, .mv (.c (.int .i64 (-1)))⟩])
   (.ret))
   (.skip)))
  (.seq (.ops [⟨some 17, none, .mv (.t 1)⟩,
    ⟨some 4, none, .mv (.t 17)⟩])
  (.ret))))))⟩
theorem ok86 : FnOK Try.prog 86 v86 := ⟨⟨Try.f86, _, Try.func86, rfl, by kernel_rfl, rfl, by decide, by kernel_rfl, by kernel_rfl⟩⟩

/-- laws.markPutS -/
def l88_0 : VC :=
  .seq (.seq (.ops [⟨some 6, none, .mv (.t 5)⟩,
    ⟨some 7, none, .mv (.t 0)⟩,
    ⟨some 8, none, .len (.t 7)⟩,
    ⟨some 9, none, .bin .lss (.t 6) (.t 8)⟩])
  (.cond (.t 9)
   (.skip)
   (.exit 0)))
  (.seq (.block 1 (.seq (.ops [⟨some 12, none, .mv (.t 0)⟩,
     ⟨some 13, none, .mv (.t 5)⟩,
     ⟨some 14, none, .mv (.t 1)⟩,
     ⟨some 15, none, .iaddr 2 (.t 12) (.t 13)⟩,
     ⟨some 16, none, .faddr 0 (.t 15)⟩,
     ⟨none, none, .store 1 (.t 16) (.t 14)⟩])
   (.seq (.ops [⟨some 17, none, .mv (.t 1)⟩,
     ⟨some 18, none, .bin .add (.t 17) (.c (.int .i64 1))⟩,
     ⟨some 1, none, .mv (.t 18)⟩])
   (.seq (.ops [⟨some 19, none, .mv (.t 0)⟩,
     ⟨some 20, none, .mv (.t 5)⟩,
     ⟨some 21, none, .mv (.t 1)⟩,
     ⟨some 22, none, .iaddr 2 (.t 19) (.t 20)⟩,
     ⟨some 23, none, .faddr 1 (.t 22)⟩,
     ⟨none, none, .store 1 (.t 23) (.t 21)⟩])
   (.ops [⟨some 24, none, .mv (.t 1)⟩,
     ⟨some 25, none, .bin .add (.t 24) (.c (.int .i64 1))⟩,
     ⟨some 1, none, .mv (.t 25)⟩])))))
  (.ops [⟨some 10, none, .mv (.t 5)⟩,
    ⟨some 11, none, .bin .add (.t 10) (.c (.int .i64 1))⟩,
    ⟨some 5, none, .mv (.t 11)⟩]))
def v88 : VF := ⟨2, 27, [.t 4], false,
  .seq (.ops [⟨some 4, none, .mv (.c (.int .i64 0))⟩])
  (.seq (.seq (.ops [⟨some 5, none, .mv (.c (.int .i64 0))⟩])
  (.block 0 (.loop [0, 1, 5] [1, 4] l88_0)))
  (.seq (.ops [⟨some 26, none, .mv (.t 1)⟩,
    ⟨some 4, none, .mv (.t 26)⟩])
  (.ret)))⟩
theorem ok88 : FnOK Try.prog 88 v88 := ⟨⟨Try.f88, _, Try.func88, rfl, by kernel_rfl, rfl, by decide, by kernel_rfl, by kernel_rfl⟩⟩

/-- laws.heldInt64S -/
def l89_0 : VC :=
  .seq (.seq (.ops [⟨some 6, none, .mv (.t 5)⟩,
    ⟨some 7, none, .mv (.t 0)⟩,
    ⟨some 8, none, .len (.t 7)⟩,
    ⟨some 9, none, .bin .lss (.t 6) (.t 8)⟩])
  (.cond (.t 9)
   (.skip)
   (.exit 0)))
  (.seq (.block 1 (.seq (.seq (.ops [⟨some 12, none, .mv (.t 0)⟩,
     ⟨some 13, none, .mv (.t 5)⟩,
     ⟨some 14, none, .iaddr 1 (.t 12) (.t 13)⟩,
     ⟨some 15, none, .load false 1 (.t 14)⟩,
     ⟨some 16, none, .mv (.t 1)⟩,
     ⟨some 17, none, .bin .neq (.t 15) (.t 16)⟩])
   (.cond (.t 17)
    (.seq (.ops [⟨some 4, none, .mv (.c (.int .i64 (-1)))⟩])
    (.ret))
    (.skip)))
   (.ops [⟨some 18, none, .mv (.t 1)⟩,
     ⟨some 19, none, .bin .add (.t 18) (.c (.int .i64 1))⟩,
     ⟨some 1, none, .mv (.t 19)⟩])))
  (.ops [⟨some 10, none, .mv (.t 5)⟩,
    ⟨some 11, none, .bin .add (.t 10) (.c (.int .i64 1))⟩,
    ⟨some 5, none, .mv (.t 11)⟩]))
def v89 : VF := ⟨2, 21, [.t 4], true,
  .seq (.ops [⟨some 4, none, .mv (.c (.int .i64 0))⟩])
  (.seq (.seq (.ops [⟨some 5, none, .mv (.c (.int .i64 0))⟩])
  (.block 0 (.loop [0, 1, 5] [1, 4] l89_0)))
  (.seq (.ops [⟨some 20, none, .mv (.t 1)⟩,
    ⟨some 4, none, .mv (.t 20)⟩])
  (.ret)))⟩
theorem ok89 : FnOK Try.prog 89 v89 := ⟨⟨Try.f89, _, Try.func89, rfl, by kernel_rfl, rfl, by decide, by kernel_rfl, by kernel_rfl⟩⟩

/-- spec.l1Word -/
def v90 : VF := ⟨1, 5, [.t 2], true,
  .seq (.ops [⟨some 2, none, .mv (.c (.bool false))⟩])
  (.seq (.ops [⟨some 3, none, .mv (.t 0)⟩,
    ⟨some 4, none, .call 110 [.t 3, .c (.int .i64 0), .c (.int .i64 65535)]⟩,
    ⟨some 2, none, .mv (.t 4)⟩])
  (.ret))⟩
theorem ok90 : FnOK Try.prog 90 v90 := ⟨⟨Try.f90, _, Try.func90, rfl, by kernel_rfl, rfl, by decide, by kernel_rfl, by kernel_rfl⟩⟩

/-- impl.within -/
def v104 : VF := ⟨3, 15, [.t 6], true,
  .seq (.ops [⟨some 6, none, .mv (.c (.bool false))⟩])
  (.seq (.ops [⟨some 7, none, .mv (.t 1)⟩,
    ⟨some 8, none, .mv (.t 0)⟩,
    ⟨some 9, none, .bin .leq (.t 7) (.t 8)⟩,
    ⟨some 10, none, .mv (.t 9)⟩,
    ⟨some 11, some (10, true), .mv (.t 0)⟩,
    ⟨some 12, some (10, true), .mv (.t 2)⟩,
    ⟨some 13, some (10, true), .bin .leq (.t 11) (.t 12)⟩,
    ⟨some 14, none, .pick (.t 10) (.t 13) (.c (.bool false))⟩,
    ⟨some 6, none, .mv (.t 14)⟩])
  (.ret))⟩
theorem ok104 : FnOK Try.prog 104 v104 := ⟨⟨Try.f104, _, Try.func104, rfl, by kernel_rfl, rfl, by decide, by kernel_rfl, by kernel_rfl⟩⟩

/-- slices.ContainsFunc[[]int64,int64] -/
def v106 : VF := ⟨2, 9, [.t 4], true,
  .seq (.ops [⟨some 4, none, .mv (.c (.bool false))⟩])
  (.seq (.ops [⟨some 5, none, .mv (.t 0)⟩,
    ⟨some 6, none, .mv (.t 1)⟩,
    ⟨some 7, none, .call 118 [.t 5, .t 6]⟩,
    ⟨some 8, none, .bin .geq (.t 7) (.c (.int .i64 0))⟩,
    ⟨some 4, none, .mv (.t 8)⟩])
  (.ret))⟩
theorem ok106 : FnOK Try.prog 106 v106 := ⟨⟨Try.f106, _, Try.func106, rfl, by kernel_rfl, rfl, by decide, by kernel_rfl, by kernel_rfl⟩⟩

/-- impl.areWords$1 -/
def v107 : VF := ⟨1, 6, [.t 2], true,
  .seq (.ops [⟨some 2, none, .mv (.c (.bool false))⟩])
  (.seq (.ops [⟨some 3, none, .mv (.t 0)⟩,
    ⟨some 4, none, .call 74 [.t 3]⟩,
    ⟨some 5, none, .not (.t 4)⟩,
    ⟨some 2, none, .mv (.t 5)⟩])
  (.ret))⟩
theorem ok107 : FnOK Try.prog 107 v107 := ⟨⟨Try.f107, _, Try.func107, rfl, by kernel_rfl, rfl, by decide, by kernel_rfl, by kernel_rfl⟩⟩

/-- impl.Put] -/
def l108_0 : VC :=
  .seq (.ops [⟨some 9, none, .bin .lss (.t 8) (.t 7)⟩])
  (.seq (.cond (.t 9)
   (.skip)
   (.exit 0))
  (.seq (.block 1 (.seq (.ops [⟨some 10, none, .mv (.t 8)⟩,
     ⟨some 5, none, .mv (.t 10)⟩])
   (.seq (.ops [⟨some 11, none, .mv (.t 1)⟩,
     ⟨some 12, none, .mv (.t 0)⟩,
     ⟨some 13, none, .mv (.t 5)⟩,
     ⟨some 14, none, .iaddr 2 (.t 12) (.t 13)⟩,
     ⟨some 15, none, .load true 2 (.t 14)⟩,
     ⟨some 16, none, .callv (.t 11) [.t 15]⟩])
   (.cond (.t 16)
    (.seq (.ops [⟨some 17, none, .mv (.t 5)⟩,
      ⟨some 4, none, .mv (.t 17)⟩])
    (.ret))
    (.skip)))))
  (.ops [⟨some 18, none, .bin .add (.t 8) (.c (.int .i64 1))⟩,
    ⟨some 8, none, .mv (.t 18)⟩])))
def v108 : VF := ⟨2, 19, [.t 4], true,
  .seq (.ops [⟨some 4, none, .mv (.c (.int .i64 0))⟩])
  (.seq (.seq (.ops [⟨some 6, none, .mv (.t 0)⟩,
    ⟨some 7, none, .len (.t 6)⟩,
    ⟨some 8, none, .mv (.c (.int .i64 0))⟩])
  (.block 0 (.loop [0, 1, 7, 8] [4] l108_0)))
  (.seq (.ops [⟨some 4, none, .mv (.c (.int .i64 (-1)))⟩])
  (.ret)))⟩
theorem ok108 : FnOK Try.prog 108 v108 := ⟨⟨Try.f108, _, Try.func108, rfl, by kernel_rfl, rfl, by decide, by kernel_rfl, by kernel_rfl⟩⟩

/-- laws.eqPut -/
def v109 : VF := ⟨2, 15, [.t 4], true,
  .seq (.ops [⟨some 2, none, .box (.t 0)⟩,
    ⟨some 3, none, .box (.t 1)⟩,
    ⟨some 4, none, .mv (.c (.bool false))⟩])
  (.seq (.seq (.ops [⟨some 5, none, .faddr 0 (.t 2)⟩,
    ⟨some 6, none, .load false 1 (.t 5)⟩,
    ⟨some 7, none, .faddr 0 (.t 3)⟩,
    ⟨some 8, none, .load false 1 (.t 7)⟩,
    ⟨some 9, none, .bin .neq (.t 6) (.t 8)⟩])
  (.cond (.t 9)
   (.seq (.ops [⟨some 4, none, .mv (.c (.bool false))⟩])
   (.ret))
   (.skip)))
  (.seq (.seq (.ops [⟨some 10, none, .faddr 1 (.t 2)⟩,
    ⟨some 11, none, .load false 1 (.t 10)⟩,
    ⟨some 12, none, .faddr 1 (.t 3)⟩,
    ⟨some 13, none, .load false 1 (.t 12)⟩,
    ⟨some 14, none, .bin .neq (.t 11) (.t 13)⟩])
  (.cond (.t 14)
   (.seq (.ops [⟨some 4, none, .mv (.c (.bool false))⟩])
   (.ret))
   (.skip)))
  (.seq (.ops [⟨some 4, none, .mv (.c (.bool true))⟩])
  (.ret))))⟩
theorem ok109 : FnOK Try.prog 109 v109 := ⟨⟨Try.f109, _, Try.func109, rfl, by kernel_rfl, rfl, by decide, by kernel_rfl, by kernel_rfl⟩⟩

/-- spec.l1In -/
def v110 : VF := ⟨3, 15, [.t 6], true,
  .seq (.ops [⟨some 6, none, .mv (.c (.bool false))⟩])
  (.seq (.ops [⟨some 7, none, .mv (.t 0)⟩,
    ⟨some 8, none, .mv (.t 1)⟩,
    ⟨some 9, none, .bin .geq (.t 7) (.t 8)⟩,
    ⟨some 10, none, .mv (.t 9)⟩,
    ⟨some 11, some (10, true), .mv (.t 0)⟩,
    ⟨some 12, some (10, true), .mv (.t 2)⟩,
    ⟨some 13, some (10, true), .bin .leq (.t 11) (.t 12)⟩,
    ⟨some 14, none, .pick (.t 10) (.t 13) (.c (.bool false))⟩,
    ⟨some 6, none, .mv (.t 14)⟩])
  (.ret))⟩
theorem ok110 : FnOK Try.prog 110 v110 := ⟨⟨Try.f110, _, Try.func110, rfl, by kernel_rfl, rfl, by decide, by kernel_rfl, by kernel_rfl⟩⟩

/-- slices.Grow[[]int64,int64] -/
def v115 : VF := ⟨2, 27, [.t 4], true,
  .seq (.ops [⟨some 4, none, .mv (.c (.slice none 0 0))⟩])
  (.seq (.seq (.ops [⟨some 5, none, .mv (.t 1)⟩,
    ⟨some 6, none, .bin .lss (.t 5) (.c (.int .i64 0))⟩])
  (.cond (.t 6)
   (.ops [⟨some 7, none, .bad⟩,
     ⟨none, none, .bad⟩])
   (.skip)))
  (.seq (.seq (.ops [⟨some 8, none, .mv (.t 1)⟩,
    ⟨some 9, none, .mv (.t 0)⟩,
    ⟨some 10, none, .capn (.t 9)⟩,
    ⟨some 11, none, .mv (.t 0)⟩,
    ⟨some 12, none, .len (.t 11)⟩,
    ⟨some 13, none, .bin .sub (.t 10) (.t 12)⟩,
    ⟨some 14, none, .bin .sub (.t 8) (.t 13)⟩,
    ⟨some 1, none, .mv (.t 14)⟩])
  (.seq (.ops [⟨some 15, none, .mv (.t 1)⟩,
    ⟨some 16, none, .bin .gtr (.t 15) (.c (.int .i64 0))⟩])
  (.cond (.t 16)
   (.ops [⟨some 17, none, .mv (.t 0)⟩,
     ⟨some 18, none, .mv (.t 0)⟩,
     ⟨some 19, none, .capn (.t 18)⟩,
     ⟨some 20, none, .slice 1 (.t 17) none (some (.t 19)) none⟩,
     ⟨some 21, none, .mv (.t 1)⟩,
     ⟨some 22, none, .appz 1 8 [.int .i64 0] (.t 20) (.t 21)⟩,
     ⟨some 23, none, .mv (.t 0)⟩,
     ⟨some 24, none, .len (.t 23)⟩,
     ⟨some 25, none, .slice 1 (.t 22) none (some (.t 24)) none⟩,
     ⟨some 0, none, .mv (.t 25)⟩])
   (.skip))))
  (.seq (.ops [⟨some 26, none, .mv (.t 0)⟩,
    ⟨some 4, none, .mv (.t 26)⟩])
  (.ret))))⟩
theorem ok115 : FnOK Try.prog 115 v115 := ⟨⟨Try.f115, _, Try.func115, rfl, by kernel_rfl, rfl, by decide, by kernel_rfl, by kernel_rfl⟩⟩

/-- laws.heldPutS -/
def l116_0 : VC :=
  .seq (.seq (.ops [⟨some 6, none, .mv (.t 5)⟩,
    ⟨some 7, none, .mv (.t 0)⟩,
    ⟨some 8, none, .len (.t 7)⟩,
    ⟨some 9, none, .bin .lss (.t 6) (.t 8)⟩])
  (.cond (.t 9)
   (.skip)
   (.exit 0)))
  (.seq (.block 1 (.seq (.seq (.ops [⟨some 12, none, .mv (.t 0)⟩,
     ⟨some 13, none, .mv (.t 5)⟩,
     ⟨some 14, none, .iaddr 2 (.t 12) (.t 13)⟩,
     ⟨some 15, none, .faddr 0 (.t 14)⟩,
     ⟨some 16, none, .load false 1 (.t 15)⟩,
     ⟨some 17, none, .mv (.t 1)⟩,
     ⟨some 18, none, .bin .neq (.t 16) (.t 17)⟩])
   (.cond (.t 18)
    (.seq (.ops [⟨some 4, none, .mv (.c (.int .i64 (-1)))⟩])
    (.ret))
    (.skip)))
   (.seq (.ops [⟨some 19, none, .mv (.t 1)⟩,
     ⟨some 20, none, .bin .add (.t 19) (.c (.int .i64 1))⟩,
     ⟨some 1, none, .mv (.t 20)⟩])
   (.seq (.seq (.ops [⟨some 21, none, .mv (.t 0)⟩,
     ⟨some 22, none, .mv (.t 5)⟩,
     ⟨some 23, none, .iaddr 2 (.t 21) (.t 22)⟩,
     ⟨some 24, none, .faddr 1 (.t 23)⟩,
     ⟨some 25, none, .load false 1 (.t 24)⟩,
     ⟨some 26, none, .mv (.t 1)⟩,
     ⟨some 27, none, .bin .neq (.t 25) (.t 26)⟩])
   (.cond (.t 27)
    (.seq (.ops [⟨some 4, none, .mv (.c (.int .i64 (-1)))⟩])
    (.ret))
    (.skip)))
   (.ops [⟨some 28, none, .mv (.t 1)⟩,
     ⟨some 29, none, .bin .add (.t 28) (.c (.int .i64 1))⟩,
     ⟨some 1, none, .mv (.t 29)⟩])))))
  (.ops [⟨some 10, none, .mv (.t 5)⟩,
    ⟨some 11, none, .bin .add (.t 10) (.c (.int .i64 1))⟩,
    ⟨some 5, none, .mv (.t 11)⟩]))
def v116 : VF := ⟨2, 31, [.t 4], true,
  .seq (.ops [⟨some 4, none, .mv (.c (.int .i64 0))⟩])
  (.seq (.seq (.ops [⟨some 5, none, .mv (.c (.int .i64 0))⟩])
  (.block 0 (.loop [0, 1, 5] [1, 4] l116_0)))
  (.seq (.ops [⟨some 30, none, .mv (.t 1)⟩,
    ⟨some 4, none, .mv (.t 30)⟩])
  (.ret)))⟩
theorem ok116 : FnOK Try.prog 116 v116 := ⟨⟨Try.f116, _, Try.func116, rfl, by kernel_rfl, rfl, by decide, by kernel_rfl, by kernel_rfl⟩⟩

/-- slices.IndexFunc[[]int64,int64] -/
def l118_0 : VC :=
  .seq (.ops [⟨some 9, none, .bin .lss (.t 8) (.t 7)⟩])
  (.seq (.cond (.t 9)
   (.skip)
   (.exit 0))
  (.seq (.block 1 (.seq (.ops [⟨some 10, none, .mv (.t 8)⟩,
     ⟨some 5, none, .mv (.t 10)⟩])
   (.seq (.ops [⟨some 11, none, .mv (.t 1)⟩,
     ⟨some 12, none, .mv (.t 0)⟩,
     ⟨some 13, none, .mv (.t 5)⟩,
     ⟨some 14, none, .iaddr 1 (.t 12) (.t 13)⟩,
     ⟨some 15, none, .load false 1 (.t 14)⟩,
     ⟨some 16, none, .callv (.t 11) [.t 15]⟩])
   (.cond (.t 16)
    (.seq (.ops [⟨some 17, none, .mv (.t 5)⟩,
      ⟨some 4, none, .mv (.t 17)⟩])
    (.ret))
    (.skip)))))
  (.ops [⟨some 18, none, .bin .add (.t 8) (.c (.int .i64 1))⟩,
    ⟨some 8, none, .mv (.t 18)⟩])))
def v118 : VF := ⟨2, 19, [.t 4], true,
  .seq (.ops [⟨some 4, none, .mv (.c (.int .i64 0))⟩])
  (.seq (.seq (.ops [⟨some 6, none, .mv (.t 0)⟩,
    ⟨some 7, none, .len (.t 6)⟩,
    ⟨some 8, none, .mv (.c (.int .i64 0))⟩])
  (.block 0 (.loop [0, 1, 7, 8] [4] l118_0)))
  (.seq (.ops [⟨some 4, none, .mv (.c (.int .i64 (-1)))⟩])
  (.ret)))⟩
theorem ok118 : FnOK Try.prog 118 v118 := ⟨⟨Try.f118, _, Try.func118, rfl, by kernel_rfl, rfl, by decide, by kernel_rfl, by kernel_rfl⟩⟩
def env0 : Env := [(6, v6), (19, v19), (20, v20), (31, v31), (32, v32), (33, v33), (34, v34), (35, v35), (36, v36), (37, v37), (38, v38), (41, v41), (68, v68), (70, v70), (71, v71), (72, v72), (73, v73), (74, v74), (75, v75), (76, v76), (85, v85), (86, v86), (88, v88), (89, v89), (90, v90), (104, v104), (106, v106), (107, v107), (108, v108), (109, v109), (110, v110), (115, v115), (116, v116), (118, v118)]
theorem envOK0 : EnvOK Try.prog env0 := .cons ok6 (.cons ok19 (.cons ok20 (.cons ok31 (.cons ok32 (.cons ok33 (.cons ok34 (.cons ok35 (.cons ok36 (.cons ok37 (.cons ok38 (.cons ok41 (.cons ok68 (.cons ok70 (.cons ok71 (.cons ok72 (.cons ok73 (.cons ok74 (.cons ok75 (.cons ok76 (.cons ok85 (.cons ok86 (.cons ok88 (.cons ok89 (.cons ok90 (.cons ok104 (.cons ok106 (.cons ok107 (.cons ok108 (.cons ok109 (.cons ok110 (.cons ok115 (.cons ok116 (.cons ok118 (.nil))))))))))))))))))))))))))))))))))
end Go.Proofs.Ytaahjfjpbilfnaa.V
