/- The machine's code of the program's functions; each is the program's own, by the kernel. Laid by a program (wip/v/vmgen.py). -/
import Derived.Test.YtmcljallamhccaaVMS
import Derived.Test.YtmcljallamhccaaProg
namespace Go.Proofs.Ytmcljallamhccaa.V
open Go
set_option maxRecDepth 100000
/-- spec.l3Data -/
def v88 : VF := ⟨1, 5, [.t 2], true,
  .seq (.ops [⟨some 2, none, .mv (.c (.bool false))⟩])
  (.seq (.ops [⟨some 3, none, .mv (.t 0)⟩,
    ⟨some 4, none, .call 75 [.t 3, .c (.int .i64 0), .c (.int .i64 255)]⟩,
    ⟨some 2, none, .mv (.t 4)⟩])
  (.ret))⟩
theorem ok88 : FnOK Try.prog 88 v88 := ⟨⟨Try.f88, _, Try.func88, rfl, by kernel_rfl, rfl, by decide, by kernel_rfl, by kernel_rfl⟩⟩

/-- spec.l3Free -/
def l89_0 : VC :=
  .seq (.seq (.ops [⟨some 4, none, .mv (.t 3)⟩,
    ⟨some 5, none, .mv (.t 0)⟩,
    ⟨some 6, none, .len (.t 5)⟩,
    ⟨some 7, none, .bin .lss (.t 4) (.t 6)⟩])
  (.cond (.t 7)
   (.skip)
   (.exit 0)))
  (.seq (.block 1 (.seq (.ops [⟨some 10, none, .mv (.t 0)⟩,
     ⟨some 11, none, .mv (.t 3)⟩,
     ⟨some 12, none, .iaddr 2 (.t 10) (.t 11)⟩,
     ⟨some 13, none, .faddr 0 (.t 12)⟩,
     ⟨some 14, none, .load false 1 (.t 13)⟩,
     ⟨some 15, none, .bin .eql (.t 14) (.c (.int .i64 0))⟩])
   (.cond (.t 15)
    (.seq (.ops [⟨some 16, none, .mv (.t 3)⟩,
      ⟨some 2, none, .mv (.t 16)⟩])
    (.ret))
    (.skip))))
  (.ops [⟨some 8, none, .mv (.t 3)⟩,
    ⟨some 9, none, .bin .add (.t 8) (.c (.int .i64 1))⟩,
    ⟨some 3, none, .mv (.t 9)⟩]))
def v89 : VF := ⟨1, 17, [.t 2], true,
  .seq (.ops [⟨some 2, none, .mv (.c (.int .i64 0))⟩])
  (.seq (.seq (.ops [⟨some 3, none, .mv (.c (.int .i64 0))⟩])
  (.block 0 (.loop [0, 3] [2] l89_0)))
  (.seq (.ops [⟨some 2, none, .mv (.c (.int .i64 (-1)))⟩])
  (.ret)))⟩
theorem ok89 : FnOK Try.prog 89 v89 := ⟨⟨Try.f89, _, Try.func89, rfl, by kernel_rfl, rfl, by decide, by kernel_rfl, by kernel_rfl⟩⟩

/-- impl.isByte -/
def v90 : VF := ⟨1, 5, [.t 2], true,
  .seq (.ops [⟨some 2, none, .mv (.c (.bool false))⟩])
  (.seq (.ops [⟨some 3, none, .mv (.t 0)⟩,
    ⟨some 4, none, .call 77 [.t 3, .c (.int .i64 0), .c (.int .i64 255)]⟩,
    ⟨some 2, none, .mv (.t 4)⟩])
  (.ret))⟩
theorem ok90 : FnOK Try.prog 90 v90 := ⟨⟨Try.f90, _, Try.func90, rfl, by kernel_rfl, rfl, by decide, by kernel_rfl, by kernel_rfl⟩⟩

/-- impl.Block] -/
def v91 : VF := ⟨1, 8, [.t 2], true,
  .seq (.ops [⟨some 2, none, .mv (.c (.slice none 0 0))⟩])
  (.seq (.seq (.ops [⟨some 3, none, .mv (.t 0)⟩,
    ⟨some 4, none, .snil false (.t 3)⟩])
  (.cond (.t 4)
   (.seq (.ops [⟨some 2, none, .mv (.c (.slice none 0 0))⟩])
   (.ret))
   (.skip)))
  (.seq (.ops [⟨some 5, none, .bslice 2 [] 0 []⟩,
    ⟨some 6, none, .mv (.t 0)⟩,
    ⟨some 7, none, .append 2 16 (.t 5) (.t 6)⟩,
    ⟨some 2, none, .mv (.t 7)⟩])
  (.ret)))⟩
theorem ok91 : FnOK Try.prog 91 v91 := ⟨⟨Try.f91, _, Try.func91, rfl, by kernel_rfl, rfl, by decide, by kernel_rfl, by kernel_rfl⟩⟩

/-- impl.take -/
def v92 : VF := ⟨2, 17, [.t 4, .t 5], false,
  .seq (.ops [⟨some 4, none, .mv (.c (.int .i64 0))⟩,
    ⟨some 5, none, .mv (.c (.int .i64 0))⟩])
  (.seq (.ops [⟨some 7, none, .mv (.t 0)⟩,
    ⟨some 8, none, .call 131 [.t 7, .c (.func (.func 132) #[] #[])]⟩,
    ⟨some 6, none, .mv (.t 8)⟩])
  (.seq (.seq (.ops [⟨some 9, none, .mv (.t 6)⟩,
    ⟨some 10, none, .bin .lss (.t 9) (.c (.int .i64 0))⟩])
  (.cond (.t 10)
   (.seq (.ops [⟨some 4, none, .mv (.c (.int .i64 0))⟩,
     ⟨some 5, none, .mv (.c (.int .i64 8))⟩])
   (.ret))
   (.skip)))
  (.seq (.ops [⟨some 11, none, .mv (.t 0)⟩,
    ⟨some 12, none, .mv (.t 6)⟩,
    ⟨some 13, none, .mv (.t 1)⟩,
    ⟨some 14, none, .build [.int .i64 0, .int .i64 0] [(0, 1, .c (.int .i64 1)), (1, 1, .t 13)]⟩,
    ⟨some 15, none, .iaddr 2 (.t 11) (.t 12)⟩,
    ⟨none, none, .store 2 (.t 15) (.t 14)⟩])
  (.seq (.ops [⟨some 16, none, .mv (.t 6)⟩,
    ⟨some 4, none, .mv (.t 16)⟩,
    ⟨some 5, none, .mv (.c (.int .i64 0))⟩])
  (.ret)))))⟩
theorem ok92 : FnOK Try.prog 92 v92 := ⟨⟨Try.f92, _, Try.func92, rfl, by kernel_rfl, rfl, by decide, by kernel_rfl, by kernel_rfl⟩⟩

/-- spec.l1Source -/
def v93 : VF := ⟨1, 6, [.t 2], true,
  .seq (.ops [⟨some 2, none, .mv (.c (.pointer none))⟩])
  (.seq (.ops [⟨some 3, none, .mv (.t 0)⟩,
    ⟨some 4, none, .build [.slice none 0 0, .int .i64 0] [(0, 1, .t 3)]⟩,
    ⟨some 5, none, .box (.t 4)⟩,
    ⟨some 2, none, .mv (.t 5)⟩])
  (.ret))⟩
theorem ok93 : FnOK Try.prog 93 v93 := ⟨⟨Try.f93, _, Try.func93, rfl, by kernel_rfl, rfl, by decide, by kernel_rfl, by kernel_rfl⟩⟩

/-- spec.l3Blocks -/
def l94_0 : VC :=
  .seq (.seq (.ops [⟨some 9, none, .mv (.t 4)⟩,
    ⟨some 10, none, .bin .gtr (.t 9) (.c (.int .i64 0))⟩])
  (.cond (.t 10)
   (.skip)
   (.exit 0)))
  (.seq (.block 1 (.seq (.ops [⟨some 13, none, .mv (.t 0)⟩,
     ⟨some 14, none, .bslice 1 [.int .i64 0, .int .i64 0, .int .i64 0, .int .i64 0, .int .i64 0] 5 [(0, 1, .c (.int .i64 0)), (1, 1, .c (.int .i64 1)), (2, 1, .c (.int .i64 1)), (3, 1, .c (.int .i64 2)), (4, 1, .c (.int .i64 200))]⟩,
     ⟨some 15, none, .call 95 [.t 13, .t 14]⟩,
     ⟨some 16, none, .build [.int .i64 0, .int .i64 0] [(0, 1, .t 15)]⟩,
     ⟨some 5, none, .new [.int .i64 0, .int .i64 0]⟩,
     ⟨none, none, .store 2 (.t 5) (.t 16)⟩])
   (.seq (.seq (.ops [⟨some 17, none, .faddr 0 (.t 5)⟩,
     ⟨some 18, none, .load false 1 (.t 17)⟩,
     ⟨some 19, none, .bin .gtr (.t 18) (.c (.int .i64 0))⟩])
   (.cond (.t 19)
    (.ops [⟨some 20, none, .mv (.t 0)⟩,
      ⟨some 21, none, .call 96 [.t 20, .c (.int .i64 256)]⟩,
      ⟨some 22, none, .faddr 1 (.t 5)⟩,
      ⟨none, none, .store 1 (.t 22) (.t 21)⟩])
    (.skip)))
   (.ops [⟨some 23, none, .mv (.t 3)⟩,
     ⟨some 24, none, .load true 2 (.t 5)⟩,
     ⟨some 25, none, .bslice 2 [.int .i64 0, .int .i64 0] 1 [(0, 2, .t 24)]⟩,
     ⟨some 26, none, .append 2 16 (.t 23) (.t 25)⟩,
     ⟨some 3, none, .mv (.t 26)⟩]))))
  (.ops [⟨some 11, none, .mv (.t 4)⟩,
    ⟨some 12, none, .bin .sub (.t 11) (.c (.int .i64 1))⟩,
    ⟨some 4, none, .mv (.t 12)⟩]))
def v94 : VF := ⟨1, 52, [.t 2], false,
  .seq (.ops [⟨some 2, none, .mv (.c (.slice none 0 0))⟩])
  (.seq (.ops [⟨some 6, none, .bslice 2 [] 0 []⟩,
    ⟨some 3, none, .mv (.t 6)⟩])
  (.seq (.seq (.ops [⟨some 7, none, .mv (.t 0)⟩,
    ⟨some 8, none, .call 96 [.t 7, .c (.int .i64 9)]⟩,
    ⟨some 4, none, .mv (.t 8)⟩])
  (.block 0 (.loop [0, 3, 4] [0, 2, 3] l94_0)))
  (.seq (.seq (.ops [⟨some 27, none, .mv (.t 3)⟩,
    ⟨some 28, none, .len (.t 27)⟩,
    ⟨some 29, none, .bin .gtr (.t 28) (.c (.int .i64 0))⟩])
  (.cond (.t 29)
   (.seq (.ops [⟨some 30, none, .mv (.t 0)⟩,
     ⟨some 31, none, .call 96 [.t 30, .c (.int .i64 16)]⟩])
   (.block 2 (.seq (.ops [⟨some 33, none, .bin .eql (.t 31) (.c (.int .i64 0))⟩,
      ⟨some 32, none, .mv (.t 33)⟩])
    (.cond (.t 32)
     (.ops [⟨some 34, none, .mv (.t 3)⟩,
       ⟨some 35, none, .mv (.t 0)⟩,
       ⟨some 36, none, .bslice 1 [.int .i64 0, .int .i64 0, .int .i64 0] 3 [(0, 1, .c (.int .i64 (-1))), (1, 1, .c (.int .i64 201)), (2, 1, .c (.int .i64 0))]⟩,
       ⟨some 37, none, .call 95 [.t 35, .t 36]⟩,
       ⟨some 38, none, .iaddr 2 (.t 34) (.c (.int .i64 0))⟩,
       ⟨some 39, none, .faddr 0 (.t 38)⟩,
       ⟨none, none, .store 1 (.t 39) (.t 37)⟩])
     (.seq (.ops [⟨some 41, none, .bin .eql (.t 31) (.c (.int .i64 1))⟩,
       ⟨some 40, none, .mv (.t 41)⟩])
     (.cond (.t 40)
      (.ops [⟨some 42, none, .mv (.t 3)⟩,
        ⟨some 43, none, .mv (.t 0)⟩,
        ⟨some 44, none, .bslice 1 [.int .i64 0, .int .i64 0, .int .i64 0] 3 [(0, 1, .c (.int .i64 (-1))), (1, 1, .c (.int .i64 256)), (2, 1, .c (.int .i64 5))]⟩,
        ⟨some 45, none, .call 95 [.t 43, .t 44]⟩,
        ⟨some 46, none, .iaddr 2 (.t 42) (.c (.int .i64 0))⟩,
        ⟨some 47, none, .faddr 1 (.t 46)⟩,
        ⟨none, none, .store 1 (.t 47) (.t 45)⟩])
      (.skip)))))))
   (.skip)))
  (.seq (.seq (.ops [⟨some 48, none, .mv (.t 0)⟩,
    ⟨some 49, none, .call 133 [.t 48, .c (.int .i64 40)]⟩])
  (.cond (.t 49)
   (.ops [⟨some 50, none, .mkslice 2 16 [.int .i64 0, .int .i64 0] (.c (.int .i64 25)) (.c (.int .i64 25))⟩,
     ⟨some 3, none, .mv (.t 50)⟩])
   (.skip)))
  (.seq (.ops [⟨some 51, none, .mv (.t 3)⟩,
    ⟨some 2, none, .mv (.t 51)⟩])
  (.ret))))))⟩
theorem ok94 : FnOK Try.prog 94 v94 := ⟨⟨Try.f94, _, Try.func94, rfl, by kernel_rfl, rfl, by decide, by kernel_rfl, by kernel_rfl⟩⟩

/-- spec.l1Pick -/
def v95 : VF := ⟨2, 12, [.t 4], false,
  .seq (.ops [⟨some 4, none, .mv (.c (.int .i64 0))⟩])
  (.seq (.ops [⟨some 5, none, .mv (.t 1)⟩,
    ⟨some 6, none, .mv (.t 0)⟩,
    ⟨some 7, none, .mv (.t 1)⟩,
    ⟨some 8, none, .len (.t 7)⟩,
    ⟨some 9, none, .call 96 [.t 6, .t 8]⟩,
    ⟨some 10, none, .iaddr 1 (.t 5) (.t 9)⟩,
    ⟨some 11, none, .load false 1 (.t 10)⟩,
    ⟨some 4, none, .mv (.t 11)⟩])
  (.ret))⟩
theorem ok95 : FnOK Try.prog 95 v95 := ⟨⟨Try.f95, _, Try.func95, rfl, by kernel_rfl, rfl, by decide, by kernel_rfl, by kernel_rfl⟩⟩

/-- spec.l1Next -/
def v96 : VF := ⟨2, 71, [.t 4], false,
  .seq (.ops [⟨some 4, none, .mv (.c (.int .i64 0))⟩])
  (.seq (.ops [⟨some 8, none, .mv (.t 0)⟩,
    ⟨some 9, none, .mv (.t 0)⟩,
    ⟨some 10, none, .nilck (.t 9)⟩,
    ⟨some 11, none, .faddr 1 (.t 10)⟩,
    ⟨some 12, none, .load false 1 (.t 11)⟩,
    ⟨some 13, none, .bin .add (.t 12) (.c (.int .i64 1))⟩,
    ⟨some 14, none, .nilck (.t 8)⟩,
    ⟨some 15, none, .faddr 1 (.t 14)⟩,
    ⟨none, none, .store 1 (.t 15) (.t 13)⟩])
  (.seq (.seq (.ops [⟨some 16, none, .mv (.t 1)⟩,
    ⟨some 17, none, .bin .lss (.t 16) (.c (.int .i64 1))⟩])
  (.cond (.t 17)
   (.seq (.ops [⟨some 4, none, .mv (.c (.int .i64 0))⟩])
   (.ret))
   (.skip)))
  (.seq (.ops [⟨some 18, none, .mv (.t 0)⟩,
    ⟨some 19, none, .nilck (.t 18)⟩,
    ⟨some 20, none, .faddr 1 (.t 19)⟩,
    ⟨some 21, none, .load false 1 (.t 20)⟩,
    ⟨some 22, none, .bin .sub (.t 21) (.c (.int .i64 1))⟩,
    ⟨some 5, none, .mv (.t 22)⟩])
  (.seq (.ops [⟨some 23, none, .mv (.t 0)⟩,
    ⟨some 24, none, .nilck (.t 23)⟩,
    ⟨some 25, none, .faddr 0 (.t 24)⟩,
    ⟨some 26, none, .load false 1 (.t 25)⟩,
    ⟨some 27, none, .len (.t 26)⟩,
    ⟨some 6, none, .mv (.t 27)⟩])
  (.seq (.seq (.ops [⟨some 28, none, .mv (.t 6)⟩,
    ⟨some 29, none, .bin .eql (.t 28) (.c (.int .i64 0))⟩])
  (.cond (.t 29)
   (.seq (.ops [⟨some 30, none, .mv (.t 5)⟩,
     ⟨some 31, none, .bin .mul (.t 30) (.c (.int .i64 7))⟩,
     ⟨some 32, none, .mv (.t 1)⟩,
     ⟨some 33, none, .bin .rem (.t 31) (.t 32)⟩,
     ⟨some 4, none, .mv (.t 33)⟩])
   (.ret))
   (.skip)))
  (.seq (.draw [⟨some 34, none, .mv (.t 0)⟩,
    ⟨some 35, none, .nilck (.t 34)⟩,
    ⟨some 36, none, .faddr 0 (.t 35)⟩,
    ⟨some 37, none, .load false 1 (.t 36)⟩,
    ⟨some 38, none, .mv (.t 5)⟩,
    ⟨some 39, none, .mv (.t 6)⟩,
    ⟨some 40, none, .bin .rem (.t 38) (.t 39)⟩,
    ⟨some 41, none, .iaddr 1 (.t 37) (.t 40)⟩,
    ⟨some 42, none, .load false 1 (.t 41)⟩,
    ⟨some 43, none, .conv .i64 (.t 42)⟩,
    ⟨some 44, none, .mv (.t 5)⟩,
    ⟨some 45, none, .mv (.t 6)⟩,
    ⟨some 46, none, .bin .quo (.t 44) (.t 45)⟩,
    ⟨some 47, none, .bin .mul (.t 46) (.c (.int .i64 37))⟩] [⟨some 48, none, .bin .add (.t 43) (.t 47)⟩,
    ⟨some 7, none, .mv (.t 48)⟩])
  (.seq (.seq (.ops [⟨some 49, none, .mv (.t 1)⟩,
    ⟨some 50, none, .bin .gtr (.t 49) (.c (.int .i64 200))⟩])
  (.cond (.t 50)
   (.draw [⟨some 51, none, .mv (.t 7)⟩,
     ⟨some 52, none, .bin .mul (.t 51) (.c (.int .i64 251))⟩,
     ⟨some 53, none, .mv (.t 0)⟩,
     ⟨some 54, none, .nilck (.t 53)⟩,
     ⟨some 55, none, .faddr 0 (.t 54)⟩,
     ⟨some 56, none, .load false 1 (.t 55)⟩,
     ⟨some 57, none, .mv (.t 5)⟩,
     ⟨some 58, none, .bin .add (.t 57) (.c (.int .i64 1))⟩,
     ⟨some 59, none, .mv (.t 6)⟩,
     ⟨some 60, none, .bin .rem (.t 58) (.t 59)⟩,
     ⟨some 61, none, .iaddr 1 (.t 56) (.t 60)⟩,
     ⟨some 62, none, .load false 1 (.t 61)⟩,
     ⟨some 63, none, .conv .i64 (.t 62)⟩,
     ⟨some 64, none, .bin .mul (.t 63) (.c (.int .i64 13))⟩,
     ⟨some 65, none, .bin .add (.t 52) (.t 64)⟩,
     ⟨some 66, none, .mv (.t 5)⟩] [⟨some 67, none, .bin .add (.t 65) (.t 66)⟩,
     ⟨some 7, none, .mv (.t 67)⟩])
   (.skip)))
  (.seq (.ops [⟨some 68, none, .mv (.t 7)⟩,
    ⟨some 69, none, .mv (.t 1)⟩,
    ⟨some 70, none, .bin .rem (.t 68) (.t 69)⟩,
    ⟨some 4, none, .mv (.t 70)⟩])
  (.ret)))))))))⟩
theorem ok96 : FnOK Try.prog 96 v96 := ⟨⟨Try.f96, _, Try.func96, rfl, by kernel_rfl, rfl, by decide, by kernel_rfl, by kernel_rfl⟩⟩

/-- impl.areRefs -/
def v97 : VF := ⟨1, 5, [.t 2], true,
  .seq (.ops [⟨some 2, none, .mv (.c (.bool false))⟩])
  (.seq (.ops [⟨some 3, none, .mv (.t 0)⟩,
    ⟨some 4, none, .call 77 [.t 3, .c (.int .i64 0), .c (.int .i64 200)]⟩,
    ⟨some 2, none, .mv (.t 4)⟩])
  (.ret))⟩
theorem ok97 : FnOK Try.prog 97 v97 := ⟨⟨Try.f97, _, Try.func97, rfl, by kernel_rfl, rfl, by decide, by kernel_rfl, by kernel_rfl⟩⟩

/-- spec.l4Bad -/
def v98 : VF := ⟨1, 5, [.cell 2 true 4], true,
  .seq (.ops [⟨some 2, none, .new [.int .i64 0, .int .i64 0, .slice none 0 0, .slice none 0 0]⟩])
  (.seq (.ops [⟨some 3, none, .mv (.t 0)⟩,
    ⟨some 4, none, .build [.int .i64 0, .int .i64 0, .slice none 0 0, .slice none 0 0] [(0, 1, .t 3)]⟩,
    ⟨none, none, .store 4 (.t 2) (.t 4)⟩])
  (.ret))⟩
theorem ok98 : FnOK Try.prog 98 v98 := ⟨⟨Try.f98, _, Try.func98, rfl, by kernel_rfl, rfl, by decide, by kernel_rfl, by kernel_rfl⟩⟩

/-- spec.l4Fault -/
def l104_0 : VC :=
  .seq (.seq (.ops [⟨some 22, none, .mv (.t 4)⟩,
    ⟨some 23, none, .mv (.t 0)⟩,
    ⟨some 24, none, .nilck (.t 23)⟩,
    ⟨some 25, none, .faddr 0 (.t 24)⟩,
    ⟨some 26, none, .load false 1 (.t 25)⟩,
    ⟨some 27, none, .len (.t 26)⟩,
    ⟨some 28, none, .bin .lss (.t 22) (.t 27)⟩])
  (.cond (.t 28)
   (.skip)
   (.exit 0)))
  (.seq (.block 1 (.seq (.ops [⟨some 31, none, .mv (.t 0)⟩,
     ⟨some 32, none, .mv (.t 0)⟩,
     ⟨some 33, none, .nilck (.t 32)⟩,
     ⟨some 34, none, .faddr 0 (.t 33)⟩,
     ⟨some 35, none, .load false 1 (.t 34)⟩,
     ⟨some 36, none, .mv (.t 4)⟩,
     ⟨some 37, none, .iaddr 3 (.t 35) (.t 36)⟩,
     ⟨some 38, none, .call 139 [.t 31, .t 37]⟩,
     ⟨some 5, none, .mv (.t 38)⟩])
   (.seq (.ops [⟨some 39, none, .mv (.t 5)⟩,
     ⟨some 40, none, .bin .neq (.t 39) (.c (.int .i64 0))⟩])
   (.cond (.t 40)
    (.seq (.ops [⟨some 41, none, .mv (.t 5)⟩,
      ⟨some 2, none, .mv (.t 41)⟩])
    (.ret))
    (.skip)))))
  (.ops [⟨some 29, none, .mv (.t 4)⟩,
    ⟨some 30, none, .bin .add (.t 29) (.c (.int .i64 1))⟩,
    ⟨some 4, none, .mv (.t 30)⟩]))
def l104_1 : VC :=
  .seq (.seq (.ops [⟨some 42, none, .mv (.t 6)⟩,
    ⟨some 43, none, .mv (.t 0)⟩,
    ⟨some 44, none, .nilck (.t 43)⟩,
    ⟨some 45, none, .faddr 1 (.t 44)⟩,
    ⟨some 46, none, .load false 1 (.t 45)⟩,
    ⟨some 47, none, .len (.t 46)⟩,
    ⟨some 48, none, .bin .lss (.t 42) (.t 47)⟩])
  (.cond (.t 48)
   (.skip)
   (.exit 2)))
  (.seq (.block 3 (.seq (.draw [⟨some 51, none, .mv (.t 0)⟩,
     ⟨some 52, none, .nilck (.t 51)⟩,
     ⟨some 53, none, .faddr 1 (.t 52)⟩,
     ⟨some 54, none, .load false 1 (.t 53)⟩,
     ⟨some 55, none, .mv (.t 6)⟩,
     ⟨some 56, none, .iaddr 2 (.t 54) (.t 55)⟩,
     ⟨some 57, none, .faddr 0 (.t 56)⟩,
     ⟨some 58, none, .load false 1 (.t 57)⟩,
     ⟨some 59, none, .mv (.t 0)⟩,
     ⟨some 60, none, .mv (.t 6)⟩,
     ⟨some 61, none, .call 140 [.t 59, .c (.bool true), .t 60]⟩] [⟨some 62, none, .bin .neq (.t 58) (.t 61)⟩])
   (.cond (.t 62)
    (.seq (.ops [⟨some 2, none, .mv (.c (.int .i64 1))⟩])
    (.ret))
    (.skip))))
  (.ops [⟨some 49, none, .mv (.t 6)⟩,
    ⟨some 50, none, .bin .add (.t 49) (.c (.int .i64 1))⟩,
    ⟨some 6, none, .mv (.t 50)⟩]))
def l104_2 : VC :=
  .seq (.seq (.ops [⟨some 63, none, .mv (.t 7)⟩,
    ⟨some 64, none, .mv (.t 0)⟩,
    ⟨some 65, none, .nilck (.t 64)⟩,
    ⟨some 66, none, .faddr 0 (.t 65)⟩,
    ⟨some 67, none, .load false 1 (.t 66)⟩,
    ⟨some 68, none, .len (.t 67)⟩,
    ⟨some 69, none, .bin .lss (.t 63) (.t 68)⟩])
  (.cond (.t 69)
   (.skip)
   (.exit 4)))
  (.seq (.block 5 (.seq (.draw [⟨some 72, none, .mv (.t 0)⟩,
     ⟨some 73, none, .nilck (.t 72)⟩,
     ⟨some 74, none, .faddr 0 (.t 73)⟩,
     ⟨some 75, none, .load false 1 (.t 74)⟩,
     ⟨some 76, none, .mv (.t 7)⟩,
     ⟨some 77, none, .iaddr 3 (.t 75) (.t 76)⟩,
     ⟨some 78, none, .faddr 1 (.t 77)⟩,
     ⟨some 79, none, .load false 1 (.t 78)⟩,
     ⟨some 80, none, .mv (.t 79)⟩,
     ⟨some 81, some (80, true), .mv (.t 0)⟩,
     ⟨some 82, some (80, true), .nilck (.t 81)⟩,
     ⟨some 83, some (80, true), .faddr 0 (.t 82)⟩,
     ⟨some 84, some (80, true), .load false 1 (.t 83)⟩,
     ⟨some 85, some (80, true), .mv (.t 7)⟩,
     ⟨some 86, some (80, true), .iaddr 3 (.t 84) (.t 85)⟩,
     ⟨some 87, some (80, true), .faddr 0 (.t 86)⟩,
     ⟨some 88, some (80, true), .load false 1 (.t 87)⟩,
     ⟨some 89, some (80, true), .mv (.t 0)⟩,
     ⟨some 90, some (80, true), .mv (.t 7)⟩,
     ⟨some 91, some (80, true), .call 140 [.t 89, .c (.bool false), .t 90]⟩] [⟨some 92, some (80, true), .bin .lss (.t 88) (.t 91)⟩,
     ⟨some 93, none, .pick (.t 80) (.t 92) (.c (.bool false))⟩])
   (.cond (.t 93)
    (.seq (.ops [⟨some 2, none, .mv (.c (.int .i64 1))⟩])
    (.ret))
    (.skip))))
  (.ops [⟨some 70, none, .mv (.t 7)⟩,
    ⟨some 71, none, .bin .add (.t 70) (.c (.int .i64 1))⟩,
    ⟨some 7, none, .mv (.t 71)⟩]))
def v104 : VF := ⟨1, 94, [.t 2], true,
  .seq (.ops [⟨some 2, none, .mv (.c (.int .i64 0))⟩])
  (.seq (.seq (.ops [⟨some 8, none, .mv (.t 0)⟩,
    ⟨some 9, none, .nilck (.t 8)⟩,
    ⟨some 10, none, .faddr 1 (.t 9)⟩,
    ⟨some 11, none, .load false 1 (.t 10)⟩,
    ⟨some 12, none, .call 79 [.t 11]⟩,
    ⟨some 3, none, .mv (.t 12)⟩])
  (.seq (.ops [⟨some 13, none, .mv (.t 3)⟩,
    ⟨some 14, none, .bin .neq (.t 13) (.c (.int .i64 0))⟩])
  (.cond (.t 14)
   (.seq (.ops [⟨some 15, none, .mv (.t 3)⟩,
     ⟨some 2, none, .mv (.t 15)⟩])
   (.ret))
   (.skip))))
  (.seq (.seq (.ops [⟨some 16, none, .mv (.t 0)⟩,
    ⟨some 17, none, .nilck (.t 16)⟩,
    ⟨some 18, none, .faddr 0 (.t 17)⟩,
    ⟨some 19, none, .load false 1 (.t 18)⟩,
    ⟨some 20, none, .len (.t 19)⟩,
    ⟨some 21, none, .bin .gtr (.t 20) (.c (.int .i64 60))⟩])
  (.cond (.t 21)
   (.seq (.ops [⟨some 2, none, .mv (.c (.int .i64 2))⟩])
   (.ret))
   (.skip)))
  (.seq (.seq (.ops [⟨some 4, none, .mv (.c (.int .i64 0))⟩])
  (.block 0 (.loop [0, 4] [0, 2] l104_0)))
  (.seq (.seq (.ops [⟨some 6, none, .mv (.c (.int .i64 0))⟩])
  (.block 2 (.loop [0, 6] [0, 2] l104_1)))
  (.seq (.seq (.ops [⟨some 7, none, .mv (.c (.int .i64 0))⟩])
  (.block 4 (.loop [0, 7] [2] l104_2)))
  (.seq (.ops [⟨some 2, none, .mv (.c (.int .i64 0))⟩])
  (.ret)))))))⟩
theorem ok104 : FnOK Try.prog 104 v104 := ⟨⟨Try.f104, _, Try.func104, rfl, by kernel_rfl, rfl, by decide, by kernel_rfl, by kernel_rfl⟩⟩

/-- impl.isEmpty -/
def v106 : VF := ⟨1, 6, [.t 2], true,
  .seq (.ops [⟨some 2, none, .mv (.c (.bool false))⟩])
  (.seq (.ops [⟨some 3, none, .mv (.t 0)⟩,
    ⟨some 4, none, .call 107 [.t 3, .c (.func (.func 142) #[] #[])]⟩,
    ⟨some 5, none, .not (.t 4)⟩,
    ⟨some 2, none, .mv (.t 5)⟩])
  (.ret))⟩
theorem ok106 : FnOK Try.prog 106 v106 := ⟨⟨Try.f106, _, Try.func106, rfl, by kernel_rfl, rfl, by decide, by kernel_rfl, by kernel_rfl⟩⟩

/-- slices.ContainsFunc[[]int64,int64] -/
def v107 : VF := ⟨2, 9, [.t 4], true,
  .seq (.ops [⟨some 4, none, .mv (.c (.bool false))⟩])
  (.seq (.ops [⟨some 5, none, .mv (.t 0)⟩,
    ⟨some 6, none, .mv (.t 1)⟩,
    ⟨some 7, none, .call 143 [.t 5, .t 6]⟩,
    ⟨some 8, none, .bin .geq (.t 7) (.c (.int .i64 0))⟩,
    ⟨some 4, none, .mv (.t 8)⟩])
  (.ret))⟩
theorem ok107 : FnOK Try.prog 107 v107 := ⟨⟨Try.f107, _, Try.func107, rfl, by kernel_rfl, rfl, by decide, by kernel_rfl, by kernel_rfl⟩⟩

/-- impl.ForestFault$1 -/
def v108 : VF := ⟨3, 10, [.t 4], true,
  .seq (.ops [⟨some 4, none, .mv (.c (.bool false))⟩])
  (.seq (.ops [⟨some 5, none, .load true 2 (.t 1)⟩,
    ⟨some 6, none, .load true 3 (.t 2)⟩,
    ⟨some 7, none, .mv (.t 0)⟩,
    ⟨some 8, none, .call 109 [.t 5, .t 6, .t 7]⟩,
    ⟨some 9, none, .not (.t 8)⟩,
    ⟨some 4, none, .mv (.t 9)⟩])
  (.ret))⟩
theorem ok108 : FnOK Try.prog 108 v108 := ⟨⟨Try.f108, _, Try.func108, rfl, by kernel_rfl, rfl, by decide, by kernel_rfl, by kernel_rfl⟩⟩

/-- impl.isKid -/
def v109 : VF := ⟨3, 51, [.t 6], true,
  .seq (.ops [⟨some 3, none, .box (.t 0)⟩,
    ⟨some 4, none, .box (.t 1)⟩,
    ⟨some 6, none, .mv (.c (.bool false))⟩])
  (.seq (.block 0 (.seq (.ops [⟨some 8, none, .mv (.t 2)⟩,
     ⟨some 9, none, .bin .eql (.t 8) (.c (.int .i64 (-1)))⟩,
     ⟨some 7, none, .mv (.t 9)⟩])
   (.cond (.t 7)
    (.seq (.ops [⟨some 6, none, .mv (.c (.bool true))⟩])
    (.ret))
    (.seq (.ops [⟨some 11, none, .faddr 1 (.t 4)⟩,
      ⟨some 12, none, .load false 1 (.t 11)⟩,
      ⟨some 10, none, .mv (.t 12)⟩])
    (.cond (.t 10)
     (.seq (.ops [⟨some 13, none, .mv (.t 2)⟩,
       ⟨some 14, none, .faddr 1 (.t 3)⟩,
       ⟨some 15, none, .load false 1 (.t 14)⟩,
       ⟨some 16, none, .len (.t 15)⟩,
       ⟨some 17, none, .bin .sub (.t 16) (.c (.int .i64 1))⟩,
       ⟨some 18, none, .call 77 [.t 13, .c (.int .i64 0), .t 17]⟩,
       ⟨some 19, none, .mv (.t 18)⟩,
       ⟨some 20, some (19, true), .faddr 1 (.t 3)⟩,
       ⟨some 21, some (19, true), .load false 1 (.t 20)⟩,
       ⟨some 22, some (19, true), .mv (.t 2)⟩,
       ⟨some 23, some (19, true), .iaddr 2 (.t 21) (.t 22)⟩,
       ⟨some 24, some (19, true), .faddr 0 (.t 23)⟩,
       ⟨some 25, some (19, true), .load false 1 (.t 24)⟩,
       ⟨some 26, some (19, true), .bin .gtr (.t 25) (.c (.int .i64 0))⟩,
       ⟨some 27, none, .pick (.t 19) (.t 26) (.c (.bool false))⟩,
       ⟨some 6, none, .mv (.t 27)⟩])
     (.ret))
     (.skip))))))
  (.seq (.ops [⟨some 28, none, .mv (.t 2)⟩,
    ⟨some 29, none, .faddr 0 (.t 3)⟩,
    ⟨some 30, none, .load false 1 (.t 29)⟩,
    ⟨some 31, none, .len (.t 30)⟩,
    ⟨some 32, none, .bin .sub (.t 31) (.c (.int .i64 1))⟩,
    ⟨some 33, none, .call 77 [.t 28, .c (.int .i64 0), .t 32]⟩,
    ⟨some 34, none, .mv (.t 33)⟩,
    ⟨some 35, some (34, true), .faddr 0 (.t 3)⟩,
    ⟨some 36, some (34, true), .load false 1 (.t 35)⟩,
    ⟨some 37, some (34, true), .mv (.t 2)⟩,
    ⟨some 38, some (34, true), .iaddr 3 (.t 36) (.t 37)⟩,
    ⟨some 39, some (34, true), .faddr 1 (.t 38)⟩,
    ⟨some 40, some (34, true), .load false 1 (.t 39)⟩,
    ⟨some 41, none, .pick (.t 34) (.t 40) (.c (.bool false))⟩,
    ⟨some 42, none, .mv (.t 41)⟩,
    ⟨some 43, some (42, true), .faddr 0 (.t 3)⟩,
    ⟨some 44, some (42, true), .load false 1 (.t 43)⟩,
    ⟨some 45, some (42, true), .mv (.t 2)⟩,
    ⟨some 46, some (42, true), .iaddr 3 (.t 44) (.t 45)⟩,
    ⟨some 47, some (42, true), .faddr 0 (.t 46)⟩,
    ⟨some 48, some (42, true), .load false 1 (.t 47)⟩,
    ⟨some 49, some (42, true), .bin .gtr (.t 48) (.c (.int .i64 0))⟩,
    ⟨some 50, none, .pick (.t 42) (.t 49) (.c (.bool false))⟩,
    ⟨some 6, none, .mv (.t 50)⟩])
  (.ret)))⟩
theorem ok109 : FnOK Try.prog 109 v109 := ⟨⟨Try.f109, _, Try.func109, rfl, by kernel_rfl, rfl, by decide, by kernel_rfl, by kernel_rfl⟩⟩

/-- impl.named -/
def l110_0 : VC :=
  .seq (.ops [⟨some 34, none, .bin .lss (.t 33) (.t 32)⟩])
  (.seq (.cond (.t 34)
   (.skip)
   (.exit 2))
  (.seq (.block 3 (.seq (.ops [⟨some 35, none, .iaddr 1 (.t 31) (.t 33)⟩,
     ⟨some 36, none, .load false 1 (.t 35)⟩,
     ⟨some 11, none, .mv (.t 36)⟩])
   (.seq (.ops [⟨some 37, none, .mv (.t 11)⟩,
     ⟨some 38, none, .bin .geq (.t 37) (.c (.int .i64 0))⟩])
   (.cond (.t 38)
    (.ops [⟨some 39, none, .mv (.t 7)⟩,
      ⟨some 40, none, .mv (.t 11)⟩,
      ⟨some 41, none, .iaddr 1 (.t 39) (.t 40)⟩,
      ⟨some 42, none, .load false 1 (.t 41)⟩,
      ⟨some 43, none, .bin .add (.t 42) (.c (.int .i64 1))⟩,
      ⟨some 44, none, .iaddr 1 (.t 39) (.t 40)⟩,
      ⟨none, none, .store 1 (.t 44) (.t 43)⟩])
    (.skip)))))
  (.ops [⟨some 45, none, .bin .add (.t 33) (.c (.int .i64 1))⟩,
    ⟨some 33, none, .mv (.t 45)⟩])))
def l110_1 : VC :=
  .seq (.ops [⟨some 18, none, .bin .lss (.t 17) (.t 16)⟩])
  (.seq (.cond (.t 18)
   (.skip)
   (.exit 0))
  (.seq (.block 1 (.seq (.ops [⟨some 19, none, .iaddr 3 (.t 15) (.t 17)⟩,
     ⟨some 20, none, .load true 3 (.t 19)⟩,
     ⟨some 9, none, .new [.int .i64 0, .bool false, .slice none 0 0]⟩,
     ⟨none, none, .store 3 (.t 9) (.t 20)⟩])
   (.seq (.seq (.ops [⟨some 21, none, .faddr 0 (.t 9)⟩,
     ⟨some 22, none, .load false 1 (.t 21)⟩,
     ⟨some 23, none, .bin .eql (.t 22) (.c (.int .i64 0))⟩,
     ⟨some 24, none, .mv (.t 23)⟩,
     ⟨some 25, some (24, false), .faddr 1 (.t 9)⟩,
     ⟨some 26, some (24, false), .load false 1 (.t 25)⟩,
     ⟨some 27, some (24, false), .mv (.t 1)⟩,
     ⟨some 28, some (24, false), .beq true (.t 26) (.t 27)⟩,
     ⟨some 29, none, .pick (.t 24) (.c (.bool true)) (.t 28)⟩])
   (.cond (.t 29)
    (.exit 1)
    (.skip)))
   (.seq (.ops [⟨some 30, none, .faddr 2 (.t 9)⟩,
     ⟨some 31, none, .load false 1 (.t 30)⟩,
     ⟨some 32, none, .len (.t 31)⟩,
     ⟨some 33, none, .mv (.c (.int .i64 0))⟩])
   (.block 2 (.loop [1, 7, 15, 16, 17, 31, 32, 33] [1, 6, 7, 15, 16, 17] l110_0))))))
  (.ops [⟨some 46, none, .bin .add (.t 17) (.c (.int .i64 1))⟩,
    ⟨some 17, none, .mv (.t 46)⟩])))
def v110 : VF := ⟨3, 48, [.t 6], true,
  .seq (.ops [⟨some 3, none, .box (.t 0)⟩,
    ⟨some 6, none, .mv (.c (.slice none 0 0))⟩])
  (.seq (.ops [⟨some 12, none, .mv (.t 2)⟩,
    ⟨some 13, none, .mkslice 1 8 [.int .i64 0] (.t 12) (.t 12)⟩,
    ⟨some 7, none, .mv (.t 13)⟩])
  (.seq (.seq (.ops [⟨some 14, none, .faddr 0 (.t 3)⟩,
    ⟨some 15, none, .load false 1 (.t 14)⟩,
    ⟨some 16, none, .len (.t 15)⟩,
    ⟨some 17, none, .mv (.c (.int .i64 0))⟩])
  (.block 0 (.loop [1, 7, 15, 16, 17] [6, 7] l110_1)))
  (.seq (.ops [⟨some 47, none, .mv (.t 7)⟩,
    ⟨some 6, none, .mv (.t 47)⟩])
  (.ret))))⟩
theorem ok110 : FnOK Try.prog 110 v110 := ⟨⟨Try.f110, _, Try.func110, rfl, by kernel_rfl, rfl, by decide, by kernel_rfl, by kernel_rfl⟩⟩

/-- spec.l4Asked -/
def v112 : VF := ⟨3, 22, [.t 6], true,
  .seq (.ops [⟨some 6, none, .mv (.c (.int .i64 0))⟩])
  (.seq (.seq (.ops [⟨some 8, none, .mv (.t 0)⟩,
    ⟨some 9, none, .call 104 [.t 8]⟩,
    ⟨some 7, none, .mv (.t 9)⟩])
  (.seq (.ops [⟨some 10, none, .mv (.t 7)⟩,
    ⟨some 11, none, .bin .neq (.t 10) (.c (.int .i64 0))⟩])
  (.cond (.t 11)
   (.seq (.ops [⟨some 12, none, .mv (.t 7)⟩,
     ⟨some 6, none, .mv (.t 12)⟩])
   (.ret))
   (.skip))))
  (.seq (.seq (.ops [⟨some 13, none, .mv (.t 0)⟩,
    ⟨some 14, none, .mv (.t 1)⟩,
    ⟨some 15, none, .call 145 [.t 13, .t 14]⟩,
    ⟨some 16, none, .not (.t 15)⟩,
    ⟨some 17, none, .mv (.t 16)⟩,
    ⟨some 18, some (17, false), .mv (.t 2)⟩,
    ⟨some 19, some (17, false), .call 146 [.t 18]⟩,
    ⟨some 20, some (17, false), .not (.t 19)⟩,
    ⟨some 21, none, .pick (.t 17) (.c (.bool true)) (.t 20)⟩])
  (.cond (.t 21)
   (.seq (.ops [⟨some 6, none, .mv (.c (.int .i64 3))⟩])
   (.ret))
   (.skip)))
  (.seq (.ops [⟨some 6, none, .mv (.c (.int .i64 0))⟩])
  (.ret))))⟩
theorem ok112 : FnOK Try.prog 112 v112 := ⟨⟨Try.f112, _, Try.func112, rfl, by kernel_rfl, rfl, by decide, by kernel_rfl, by kernel_rfl⟩⟩

/-- spec.l4Block -/
def v113 : VF := ⟨3, 26, [.t 6], true,
  .seq (.ops [⟨some 6, none, .mv (.c (.int .i64 0))⟩])
  (.seq (.ops [⟨some 8, none, .mv (.t 0)⟩,
    ⟨some 9, none, .mv (.t 1)⟩,
    ⟨some 10, none, .mv (.t 2)⟩,
    ⟨some 11, none, .call 147 [.t 8, .t 9, .t 10]⟩,
    ⟨some 7, none, .mv (.t 11)⟩])
  (.seq (.seq (.ops [⟨some 12, none, .mv (.t 7)⟩,
    ⟨some 13, none, .bin .lss (.t 12) (.c (.int .i64 0))⟩])
  (.cond (.t 13)
   (.seq (.ops [⟨some 6, none, .mv (.c (.int .i64 (-1)))⟩])
   (.ret))
   (.skip)))
  (.seq (.ops [⟨some 14, none, .mv (.t 0)⟩,
    ⟨some 15, none, .nilck (.t 14)⟩,
    ⟨some 16, none, .faddr 0 (.t 15)⟩,
    ⟨some 17, none, .load false 1 (.t 16)⟩,
    ⟨some 18, none, .mv (.t 7)⟩,
    ⟨some 19, none, .iaddr 3 (.t 17) (.t 18)⟩,
    ⟨some 20, none, .faddr 2 (.t 19)⟩,
    ⟨some 21, none, .load false 1 (.t 20)⟩,
    ⟨some 22, none, .mv (.t 2)⟩,
    ⟨some 23, none, .bin .rem (.t 22) (.c (.int .i64 4))⟩,
    ⟨some 24, none, .iaddr 1 (.t 21) (.t 23)⟩,
    ⟨some 25, none, .load false 1 (.t 24)⟩,
    ⟨some 6, none, .mv (.t 25)⟩])
  (.ret))))⟩
theorem ok113 : FnOK Try.prog 113 v113 := ⟨⟨Try.f113, _, Try.func113, rfl, by kernel_rfl, rfl, by decide, by kernel_rfl, by kernel_rfl⟩⟩

/-- impl.forestCode -/
def v114 : VF := ⟨3, 21, [.t 6], true,
  .seq (.ops [⟨some 3, none, .box (.t 0)⟩,
    ⟨some 6, none, .mv (.c (.int .i64 0))⟩])
  (.seq (.seq (.ops [⟨some 8, none, .load true 2 (.t 3)⟩,
    ⟨some 9, none, .call 54 [.t 8]⟩,
    ⟨some 7, none, .mv (.t 9)⟩])
  (.seq (.ops [⟨some 10, none, .mv (.t 7)⟩,
    ⟨some 11, none, .bin .neq (.t 10) (.c (.int .i64 0))⟩])
  (.cond (.t 11)
   (.seq (.ops [⟨some 12, none, .mv (.t 7)⟩,
     ⟨some 6, none, .mv (.t 12)⟩])
   (.ret))
   (.skip))))
  (.seq (.seq (.ops [⟨some 13, none, .load true 2 (.t 3)⟩,
    ⟨some 14, none, .mv (.t 1)⟩,
    ⟨some 15, none, .call 148 [.t 13, .t 14]⟩,
    ⟨some 16, none, .not (.t 15)⟩,
    ⟨some 17, none, .mv (.t 16)⟩,
    ⟨some 18, some (17, false), .mv (.t 2)⟩,
    ⟨some 19, some (17, false), .not (.t 18)⟩,
    ⟨some 20, none, .pick (.t 17) (.c (.bool true)) (.t 19)⟩])
  (.cond (.t 20)
   (.seq (.ops [⟨some 6, none, .mv (.c (.int .i64 3))⟩])
   (.ret))
   (.skip)))
  (.seq (.ops [⟨some 6, none, .mv (.c (.int .i64 0))⟩])
  (.ret))))⟩
theorem ok114 : FnOK Try.prog 114 v114 := ⟨⟨Try.f114, _, Try.func114, rfl, by kernel_rfl, rfl, by decide, by kernel_rfl, by kernel_rfl⟩⟩

/-- impl.isTreePlace -/
def v115 : VF := ⟨1, 5, [.t 2], true,
  .seq (.ops [⟨some 2, none, .mv (.c (.bool false))⟩])
  (.seq (.ops [⟨some 3, none, .mv (.t 0)⟩,
    ⟨some 4, none, .call 77 [.t 3, .c (.int .i64 0), .c (.int .i64 15)]⟩,
    ⟨some 2, none, .mv (.t 4)⟩])
  (.ret))⟩
theorem ok115 : FnOK Try.prog 115 v115 := ⟨⟨Try.f115, _, Try.func115, rfl, by kernel_rfl, rfl, by decide, by kernel_rfl, by kernel_rfl⟩⟩

/-- impl.Forest).block -/
def v116 : VF := ⟨3, 16, [.t 6], true,
  .seq (.ops [⟨some 6, none, .mv (.c (.int .i64 0))⟩])
  (.seq (.ops [⟨some 7, none, .mv (.t 0)⟩,
    ⟨some 8, none, .mv (.t 0)⟩,
    ⟨some 9, none, .mv (.t 1)⟩,
    ⟨some 10, none, .mv (.t 2)⟩,
    ⟨some 11, none, .bin .quo (.t 10) (.c (.int .i64 4))⟩,
    ⟨some 12, none, .call 149 [.t 8, .t 9, .t 11]⟩,
    ⟨some 13, none, .mv (.t 2)⟩,
    ⟨some 14, none, .bin .rem (.t 13) (.c (.int .i64 4))⟩,
    ⟨some 15, none, .call 149 [.t 7, .t 12, .t 14]⟩,
    ⟨some 6, none, .mv (.t 15)⟩])
  (.ret))⟩
theorem ok116 : FnOK Try.prog 116 v116 := ⟨⟨Try.f116, _, Try.func116, rfl, by kernel_rfl, rfl, by decide, by kernel_rfl, by kernel_rfl⟩⟩

/-- spec.l4Walk -/
def l117_0 : VC :=
  .seq (.seq (.ops [⟨some 9, none, .mv (.t 6)⟩,
    ⟨some 10, none, .bin .lss (.t 9) (.c (.int .i64 16))⟩])
  (.cond (.t 10)
   (.skip)
   (.exit 0)))
  (.seq (.block 1 (.seq (.ops [⟨some 13, none, .mv (.t 0)⟩,
     ⟨some 14, none, .mv (.t 1)⟩,
     ⟨some 15, none, .mv (.t 6)⟩,
     ⟨some 16, none, .call 113 [.t 13, .t 14, .t 15]⟩,
     ⟨some 7, none, .mv (.t 16)⟩])
   (.seq (.ops [⟨some 17, none, .mv (.t 7)⟩,
     ⟨some 18, none, .bin .geq (.t 17) (.c (.int .i64 0))⟩])
   (.cond (.t 18)
    (.ops [⟨some 19, none, .mv (.t 5)⟩,
      ⟨some 20, none, .mv (.t 6)⟩,
      ⟨some 21, none, .mv (.t 0)⟩,
      ⟨some 22, none, .nilck (.t 21)⟩,
      ⟨some 23, none, .faddr 1 (.t 22)⟩,
      ⟨some 24, none, .load false 1 (.t 23)⟩,
      ⟨some 25, none, .mv (.t 7)⟩,
      ⟨some 26, none, .iaddr 2 (.t 24) (.t 25)⟩,
      ⟨some 27, none, .faddr 1 (.t 26)⟩,
      ⟨some 28, none, .load false 1 (.t 27)⟩,
      ⟨some 29, none, .bslice 1 [.int .i64 0, .int .i64 0] 2 [(0, 1, .t 20), (1, 1, .t 28)]⟩,
      ⟨some 30, none, .append 1 8 (.t 19) (.t 29)⟩,
      ⟨some 5, none, .mv (.t 30)⟩])
    (.skip)))))
  (.ops [⟨some 11, none, .mv (.t 6)⟩,
    ⟨some 12, none, .bin .add (.t 11) (.c (.int .i64 1))⟩,
    ⟨some 6, none, .mv (.t 12)⟩]))
def v117 : VF := ⟨2, 32, [.t 4], true,
  .seq (.ops [⟨some 4, none, .mv (.c (.slice none 0 0))⟩])
  (.seq (.ops [⟨some 8, none, .bslice 1 [] 0 []⟩,
    ⟨some 5, none, .mv (.t 8)⟩])
  (.seq (.seq (.ops [⟨some 6, none, .mv (.c (.int .i64 0))⟩])
  (.block 0 (.loop [0, 1, 5, 6] [4, 5] l117_0)))
  (.seq (.ops [⟨some 31, none, .mv (.t 5)⟩,
    ⟨some 4, none, .mv (.t 31)⟩])
  (.ret))))⟩
theorem ok117 : FnOK Try.prog 117 v117 := ⟨⟨Try.f117, _, Try.func117, rfl, by kernel_rfl, rfl, by decide, by kernel_rfl, by kernel_rfl⟩⟩

/-- impl.Forest).walk -/
def l118_0 : VC :=
  .seq (.ops [⟨some 10, none, .bin .lss (.t 9) (.c (.int .i64 16))⟩])
  (.seq (.cond (.t 10)
   (.skip)
   (.exit 0))
  (.seq (.block 1 (.seq (.ops [⟨some 11, none, .mv (.t 9)⟩,
     ⟨some 6, none, .mv (.t 11)⟩])
   (.seq (.ops [⟨some 12, none, .mv (.t 0)⟩,
     ⟨some 13, none, .mv (.t 1)⟩,
     ⟨some 14, none, .mv (.t 6)⟩,
     ⟨some 15, none, .call 116 [.t 12, .t 13, .t 14]⟩,
     ⟨some 7, none, .mv (.t 15)⟩])
   (.seq (.ops [⟨some 16, none, .mv (.t 7)⟩,
     ⟨some 17, none, .bin .neq (.t 16) (.c (.int .i64 (-1)))⟩])
   (.cond (.t 17)
    (.ops [⟨some 18, none, .mv (.t 5)⟩,
      ⟨some 19, none, .mv (.t 6)⟩,
      ⟨some 20, none, .mv (.t 0)⟩,
      ⟨some 21, none, .nilck (.t 20)⟩,
      ⟨some 22, none, .faddr 1 (.t 21)⟩,
      ⟨some 23, none, .load false 1 (.t 22)⟩,
      ⟨some 24, none, .mv (.t 7)⟩,
      ⟨some 25, none, .iaddr 2 (.t 23) (.t 24)⟩,
      ⟨some 26, none, .faddr 1 (.t 25)⟩,
      ⟨some 27, none, .load false 1 (.t 26)⟩,
      ⟨some 28, none, .bslice 1 [.int .i64 0, .int .i64 0] 2 [(0, 1, .t 19), (1, 1, .t 27)]⟩,
      ⟨some 29, none, .append 1 8 (.t 18) (.t 28)⟩,
      ⟨some 5, none, .mv (.t 29)⟩])
    (.skip))))))
  (.ops [⟨some 30, none, .bin .add (.t 9) (.c (.int .i64 1))⟩,
    ⟨some 9, none, .mv (.t 30)⟩])))
def v118 : VF := ⟨2, 32, [.t 4], true,
  .seq (.ops [⟨some 4, none, .mv (.c (.slice none 0 0))⟩])
  (.seq (.ops [⟨some 8, none, .bslice 1 [] 0 []⟩,
    ⟨some 5, none, .mv (.t 8)⟩])
  (.seq (.seq (.ops [⟨some 9, none, .mv (.c (.int .i64 0))⟩])
  (.block 0 (.loop [0, 1, 5, 9] [4, 5] l118_0)))
  (.seq (.ops [⟨some 31, none, .mv (.t 5)⟩,
    ⟨some 4, none, .mv (.t 31)⟩])
  (.ret))))⟩
theorem ok118 : FnOK Try.prog 118 v118 := ⟨⟨Try.f118, _, Try.func118, rfl, by kernel_rfl, rfl, by decide, by kernel_rfl, by kernel_rfl⟩⟩

/-- spec.l4Copy -/
def l123_0 : VC :=
  .seq (.seq (.ops [⟨some 11, none, .mv (.t 4)⟩,
    ⟨some 12, none, .faddr 0 (.t 1)⟩,
    ⟨some 13, none, .load false 1 (.t 12)⟩,
    ⟨some 14, none, .len (.t 13)⟩,
    ⟨some 15, none, .bin .lss (.t 11) (.t 14)⟩])
  (.cond (.t 15)
   (.skip)
   (.exit 0)))
  (.seq (.block 1 (.seq (.ops [⟨some 18, none, .faddr 0 (.t 1)⟩,
     ⟨some 19, none, .load false 1 (.t 18)⟩,
     ⟨some 20, none, .mv (.t 4)⟩,
     ⟨some 21, none, .iaddr 3 (.t 19) (.t 20)⟩,
     ⟨some 22, none, .load true 3 (.t 21)⟩,
     ⟨some 5, none, .new [.int .i64 0, .bool false, .slice none 0 0]⟩,
     ⟨none, none, .store 3 (.t 5) (.t 22)⟩])
   (.seq (.ops [⟨some 23, none, .bslice 1 [] 0 []⟩,
     ⟨some 24, none, .faddr 2 (.t 5)⟩,
     ⟨some 25, none, .load false 1 (.t 24)⟩,
     ⟨some 26, none, .append 1 8 (.t 23) (.t 25)⟩,
     ⟨some 27, none, .faddr 2 (.t 5)⟩,
     ⟨none, none, .store 1 (.t 27) (.t 26)⟩])
   (.ops [⟨some 28, none, .faddr 0 (.t 3)⟩,
     ⟨some 29, none, .load false 1 (.t 28)⟩,
     ⟨some 30, none, .load true 3 (.t 5)⟩,
     ⟨some 31, none, .bslice 3 [.int .i64 0, .bool false, .slice none 0 0] 1 [(0, 3, .t 30)]⟩,
     ⟨some 32, none, .append 3 40 (.t 29) (.t 31)⟩,
     ⟨some 33, none, .faddr 0 (.t 3)⟩,
     ⟨none, none, .store 1 (.t 33) (.t 32)⟩]))))
  (.ops [⟨some 16, none, .mv (.t 4)⟩,
    ⟨some 17, none, .bin .add (.t 16) (.c (.int .i64 1))⟩,
    ⟨some 4, none, .mv (.t 17)⟩]))
def v123 : VF := ⟨1, 35, [.cell 2 true 2], true,
  .seq (.ops [⟨some 1, none, .box (.t 0)⟩,
    ⟨some 2, none, .new [.slice none 0 0, .slice none 0 0]⟩])
  (.seq (.ops [⟨some 6, none, .bslice 2 [] 0 []⟩,
    ⟨some 7, none, .faddr 1 (.t 1)⟩,
    ⟨some 8, none, .load false 1 (.t 7)⟩,
    ⟨some 9, none, .append 2 16 (.t 6) (.t 8)⟩,
    ⟨some 10, none, .build [.slice none 0 0, .slice none 0 0] [(1, 1, .t 9)]⟩,
    ⟨some 3, none, .new [.slice none 0 0, .slice none 0 0]⟩,
    ⟨none, none, .store 2 (.t 3) (.t 10)⟩])
  (.seq (.seq (.ops [⟨some 4, none, .mv (.c (.int .i64 0))⟩])
  (.block 0 (.loop [1, 2, 3, 4] [2, 3] l123_0)))
  (.seq (.ops [⟨some 34, none, .load true 2 (.t 3)⟩,
    ⟨none, none, .store 2 (.t 2) (.t 34)⟩])
  (.ret))))⟩
theorem ok123 : FnOK Try.prog 123 v123 := ⟨⟨Try.f123, _, Try.func123, rfl, by kernel_rfl, rfl, by decide, by kernel_rfl, by kernel_rfl⟩⟩

/-- impl.ownForest -/
def l124_0 : VC :=
  .seq (.ops [⟨some 14, none, .bin .lss (.t 13) (.t 12)⟩])
  (.seq (.cond (.t 14)
   (.skip)
   (.exit 0))
  (.seq (.block 1 (.seq (.ops [⟨some 15, none, .iaddr 3 (.t 11) (.t 13)⟩,
     ⟨some 16, none, .load true 3 (.t 15)⟩,
     ⟨some 5, none, .new [.int .i64 0, .bool false, .slice none 0 0]⟩,
     ⟨none, none, .store 3 (.t 5) (.t 16)⟩])
   (.seq (.ops [⟨some 17, none, .faddr 2 (.t 5)⟩,
     ⟨some 18, none, .load false 1 (.t 17)⟩,
     ⟨some 19, none, .call 150 [.t 18]⟩,
     ⟨some 20, none, .faddr 2 (.t 5)⟩,
     ⟨none, none, .store 1 (.t 20) (.t 19)⟩])
   (.ops [⟨some 21, none, .faddr 0 (.t 3)⟩,
     ⟨some 22, none, .load false 1 (.t 21)⟩,
     ⟨some 23, none, .load true 3 (.t 5)⟩,
     ⟨some 24, none, .bslice 3 [.int .i64 0, .bool false, .slice none 0 0] 1 [(0, 3, .t 23)]⟩,
     ⟨some 25, none, .append 3 40 (.t 22) (.t 24)⟩,
     ⟨some 26, none, .faddr 0 (.t 3)⟩,
     ⟨none, none, .store 1 (.t 26) (.t 25)⟩]))))
  (.ops [⟨some 27, none, .bin .add (.t 13) (.c (.int .i64 1))⟩,
    ⟨some 13, none, .mv (.t 27)⟩])))
def v124 : VF := ⟨1, 29, [.cell 2 true 2], true,
  .seq (.ops [⟨some 1, none, .box (.t 0)⟩,
    ⟨some 2, none, .new [.slice none 0 0, .slice none 0 0]⟩])
  (.seq (.ops [⟨some 6, none, .faddr 1 (.t 1)⟩,
    ⟨some 7, none, .load false 1 (.t 6)⟩,
    ⟨some 8, none, .call 91 [.t 7]⟩,
    ⟨some 9, none, .build [.slice none 0 0, .slice none 0 0] [(1, 1, .t 8)]⟩,
    ⟨some 3, none, .new [.slice none 0 0, .slice none 0 0]⟩,
    ⟨none, none, .store 2 (.t 3) (.t 9)⟩])
  (.seq (.seq (.ops [⟨some 10, none, .faddr 0 (.t 1)⟩,
    ⟨some 11, none, .load false 1 (.t 10)⟩,
    ⟨some 12, none, .len (.t 11)⟩,
    ⟨some 13, none, .mv (.c (.int .i64 0))⟩])
  (.block 0 (.loop [2, 3, 11, 12, 13] [2, 3] l124_0)))
  (.seq (.ops [⟨some 28, none, .load true 2 (.t 3)⟩,
    ⟨none, none, .store 2 (.t 2) (.t 28)⟩])
  (.ret))))⟩
theorem ok124 : FnOK Try.prog 124 v124 := ⟨⟨Try.f124, _, Try.func124, rfl, by kernel_rfl, rfl, by decide, by kernel_rfl, by kernel_rfl⟩⟩

/-- impl.Forest).more -/
def v125 : VF := ⟨2, 24, [.t 4], false,
  .seq (.ops [⟨some 4, none, .mv (.c (.int .i64 0))⟩])
  (.seq (.ops [⟨some 6, none, .mv (.t 0)⟩,
    ⟨some 7, none, .nilck (.t 6)⟩,
    ⟨some 8, none, .faddr 0 (.t 7)⟩,
    ⟨some 9, none, .load false 1 (.t 8)⟩,
    ⟨some 10, none, .mv (.t 1)⟩,
    ⟨some 11, none, .iaddr 3 (.t 9) (.t 10)⟩,
    ⟨some 5, none, .mv (.t 11)⟩])
  (.seq (.seq (.ops [⟨some 12, none, .mv (.t 5)⟩,
    ⟨some 13, none, .nilck (.t 12)⟩,
    ⟨some 14, none, .faddr 0 (.t 13)⟩,
    ⟨some 15, none, .load false 1 (.t 14)⟩,
    ⟨some 16, none, .bin .eql (.t 15) (.c (.int .i64 200))⟩])
  (.cond (.t 16)
   (.seq (.ops [⟨some 4, none, .mv (.c (.int .i64 2))⟩])
   (.ret))
   (.skip)))
  (.seq (.ops [⟨some 17, none, .mv (.t 5)⟩,
    ⟨some 18, none, .nilck (.t 17)⟩,
    ⟨some 19, none, .faddr 0 (.t 18)⟩,
    ⟨some 20, none, .load false 1 (.t 19)⟩,
    ⟨some 21, none, .bin .add (.t 20) (.c (.int .i64 1))⟩,
    ⟨some 22, none, .nilck (.t 17)⟩,
    ⟨some 23, none, .faddr 0 (.t 22)⟩,
    ⟨none, none, .store 1 (.t 23) (.t 21)⟩])
  (.seq (.ops [⟨some 4, none, .mv (.c (.int .i64 0))⟩])
  (.ret)))))⟩
theorem ok125 : FnOK Try.prog 125 v125 := ⟨⟨Try.f125, _, Try.func125, rfl, by kernel_rfl, rfl, by decide, by kernel_rfl, by kernel_rfl⟩⟩

/-- spec.l4Less -/
def l126_0 : VC :=
  .seq (.seq (.ops [⟨some 40, none, .mv (.t 7)⟩,
    ⟨some 41, none, .mv (.t 5)⟩,
    ⟨some 42, none, .len (.t 41)⟩,
    ⟨some 43, none, .bin .lss (.t 40) (.t 42)⟩])
  (.cond (.t 43)
   (.skip)
   (.exit 0)))
  (.seq (.block 1 (.seq (.seq (.ops [⟨some 46, none, .mv (.t 5)⟩,
     ⟨some 47, none, .mv (.t 7)⟩,
     ⟨some 48, none, .iaddr 1 (.t 46) (.t 47)⟩,
     ⟨some 49, none, .load false 1 (.t 48)⟩,
     ⟨some 50, none, .bin .lss (.t 49) (.c (.int .i64 0))⟩])
   (.cond (.t 50)
    (.exit 1)
    (.skip)))
   (.seq (.ops [⟨some 51, none, .mv (.t 6)⟩])
   (.cond (.t 51)
    (.draw [⟨some 52, none, .mv (.t 0)⟩,
      ⟨some 53, none, .nilck (.t 52)⟩,
      ⟨some 54, none, .faddr 1 (.t 53)⟩,
      ⟨some 55, none, .load false 1 (.t 54)⟩,
      ⟨some 56, none, .mv (.t 5)⟩,
      ⟨some 57, none, .mv (.t 7)⟩,
      ⟨some 58, none, .iaddr 1 (.t 56) (.t 57)⟩,
      ⟨some 59, none, .load false 1 (.t 58)⟩] [⟨some 60, none, .call 86 [.t 55, .t 59]⟩])
    (.ops [⟨some 61, none, .mv (.t 0)⟩,
      ⟨some 62, none, .mv (.t 5)⟩,
      ⟨some 63, none, .mv (.t 7)⟩,
      ⟨some 64, none, .iaddr 1 (.t 62) (.t 63)⟩,
      ⟨some 65, none, .load false 1 (.t 64)⟩,
      ⟨some 66, none, .call 126 [.t 61, .t 65]⟩])))))
  (.ops [⟨some 44, none, .mv (.t 7)⟩,
    ⟨some 45, none, .bin .add (.t 44) (.c (.int .i64 1))⟩,
    ⟨some 7, none, .mv (.t 45)⟩]))
def v126 : VF := ⟨2, 67, [], false,
  .seq (.ops [⟨some 8, none, .mv (.t 0)⟩,
    ⟨some 9, none, .nilck (.t 8)⟩,
    ⟨some 10, none, .faddr 0 (.t 9)⟩,
    ⟨some 11, none, .load false 1 (.t 10)⟩,
    ⟨some 12, none, .mv (.t 1)⟩,
    ⟨some 13, none, .iaddr 3 (.t 11) (.t 12)⟩,
    ⟨some 4, none, .mv (.t 13)⟩])
  (.seq (.ops [⟨some 14, none, .mv (.t 4)⟩,
    ⟨some 15, none, .nilck (.t 14)⟩,
    ⟨some 16, none, .faddr 0 (.t 15)⟩,
    ⟨some 17, none, .load false 1 (.t 16)⟩,
    ⟨some 18, none, .bin .sub (.t 17) (.c (.int .i64 1))⟩,
    ⟨some 19, none, .nilck (.t 14)⟩,
    ⟨some 20, none, .faddr 0 (.t 19)⟩,
    ⟨none, none, .store 1 (.t 20) (.t 18)⟩])
  (.seq (.seq (.ops [⟨some 21, none, .mv (.t 4)⟩,
    ⟨some 22, none, .nilck (.t 21)⟩,
    ⟨some 23, none, .faddr 0 (.t 22)⟩,
    ⟨some 24, none, .load false 1 (.t 23)⟩,
    ⟨some 25, none, .bin .gtr (.t 24) (.c (.int .i64 0))⟩])
  (.cond (.t 25)
   (.ret)
   (.skip)))
  (.seq (.ops [⟨some 26, none, .mv (.t 4)⟩,
    ⟨some 27, none, .nilck (.t 26)⟩,
    ⟨some 28, none, .faddr 2 (.t 27)⟩,
    ⟨some 29, none, .load false 1 (.t 28)⟩,
    ⟨some 5, none, .mv (.t 29)⟩])
  (.seq (.ops [⟨some 30, none, .mv (.t 4)⟩,
    ⟨some 31, none, .nilck (.t 30)⟩,
    ⟨some 32, none, .faddr 1 (.t 31)⟩,
    ⟨some 33, none, .load false 1 (.t 32)⟩,
    ⟨some 6, none, .mv (.t 33)⟩])
  (.seq (.ops [⟨some 34, none, .mv (.t 4)⟩,
    ⟨some 35, none, .nilck (.t 34)⟩,
    ⟨some 36, none, .faddr 2 (.t 35)⟩,
    ⟨none, none, .store 1 (.t 36) (.c (.slice none 0 0))⟩])
  (.seq (.ops [⟨some 37, none, .mv (.t 4)⟩,
    ⟨some 38, none, .nilck (.t 37)⟩,
    ⟨some 39, none, .faddr 1 (.t 38)⟩,
    ⟨none, none, .store 1 (.t 39) (.c (.bool false))⟩])
  (.seq (.ops [⟨some 7, none, .mv (.c (.int .i64 0))⟩])
  (.block 0 (.loop [0, 5, 6, 7] [] l126_0)))))))))⟩
theorem ok126 : FnOK Try.prog 126 v126 := ⟨⟨Try.f126, _, Try.func126, rfl, by kernel_rfl, rfl, by decide, by kernel_rfl, by kernel_rfl⟩⟩

/-- impl.Forest).less -/
def l127_0 : VC :=
  .seq (.ops [⟨some 36, none, .bin .lss (.t 35) (.t 34)⟩])
  (.seq (.cond (.t 36)
   (.skip)
   (.exit 0))
  (.seq (.block 1 (.seq (.ops [⟨some 37, none, .iaddr 1 (.t 33) (.t 35)⟩,
     ⟨some 38, none, .load false 1 (.t 37)⟩,
     ⟨some 7, none, .mv (.t 38)⟩])
   (.block 2 (.seq (.ops [⟨some 43, none, .mv (.t 7)⟩,
      ⟨some 44, none, .bin .eql (.t 43) (.c (.int .i64 (-1)))⟩,
      ⟨some 42, none, .mv (.t 44)⟩])
    (.cond (.t 42)
     (.skip)
     (.seq (.ops [⟨some 46, none, .faddr 1 (.t 5)⟩,
       ⟨some 47, none, .load false 1 (.t 46)⟩,
       ⟨some 45, none, .mv (.t 47)⟩])
     (.cond (.t 45)
      (.ops [⟨some 48, none, .mv (.t 0)⟩,
        ⟨some 49, none, .nilck (.t 48)⟩,
        ⟨some 50, none, .faddr 1 (.t 49)⟩,
        ⟨some 51, none, .load false 1 (.t 50)⟩,
        ⟨some 52, none, .mv (.t 7)⟩,
        ⟨some 53, none, .call 87 [.t 51, .t 52]⟩])
      (.ops [⟨some 39, none, .mv (.t 0)⟩,
        ⟨some 40, none, .mv (.t 7)⟩,
        ⟨some 41, none, .call 127 [.t 39, .t 40]⟩]))))))))
  (.ops [⟨some 54, none, .bin .add (.t 35) (.c (.int .i64 1))⟩,
    ⟨some 35, none, .mv (.t 54)⟩])))
def v127 : VF := ⟨2, 55, [], false,
  .seq (.ops [⟨some 8, none, .mv (.t 0)⟩,
    ⟨some 9, none, .nilck (.t 8)⟩,
    ⟨some 10, none, .faddr 0 (.t 9)⟩,
    ⟨some 11, none, .load false 1 (.t 10)⟩,
    ⟨some 12, none, .mv (.t 1)⟩,
    ⟨some 13, none, .iaddr 3 (.t 11) (.t 12)⟩,
    ⟨some 4, none, .mv (.t 13)⟩])
  (.seq (.ops [⟨some 14, none, .mv (.t 4)⟩,
    ⟨some 15, none, .nilck (.t 14)⟩,
    ⟨some 16, none, .faddr 0 (.t 15)⟩,
    ⟨some 17, none, .load false 1 (.t 16)⟩,
    ⟨some 18, none, .bin .sub (.t 17) (.c (.int .i64 1))⟩,
    ⟨some 19, none, .nilck (.t 14)⟩,
    ⟨some 20, none, .faddr 0 (.t 19)⟩,
    ⟨none, none, .store 1 (.t 20) (.t 18)⟩])
  (.seq (.seq (.ops [⟨some 21, none, .mv (.t 4)⟩,
    ⟨some 22, none, .nilck (.t 21)⟩,
    ⟨some 23, none, .faddr 0 (.t 22)⟩,
    ⟨some 24, none, .load false 1 (.t 23)⟩,
    ⟨some 25, none, .bin .gtr (.t 24) (.c (.int .i64 0))⟩])
  (.cond (.t 25)
   (.ret)
   (.skip)))
  (.seq (.ops [⟨some 26, none, .mv (.t 4)⟩,
    ⟨some 27, none, .nilck (.t 26)⟩,
    ⟨some 28, none, .load true 3 (.t 27)⟩,
    ⟨some 5, none, .new [.int .i64 0, .bool false, .slice none 0 0]⟩,
    ⟨none, none, .store 3 (.t 5) (.t 28)⟩])
  (.seq (.ops [⟨some 29, none, .mv (.t 4)⟩,
    ⟨some 30, none, .build [.int .i64 0, .bool false, .slice none 0 0] []⟩,
    ⟨some 31, none, .nilck (.t 29)⟩,
    ⟨none, none, .store 3 (.t 31) (.t 30)⟩])
  (.seq (.ops [⟨some 32, none, .faddr 2 (.t 5)⟩,
    ⟨some 33, none, .load false 1 (.t 32)⟩,
    ⟨some 34, none, .len (.t 33)⟩,
    ⟨some 35, none, .mv (.c (.int .i64 0))⟩])
  (.block 0 (.loop [0, 5, 33, 34, 35] [] l127_0)))))))⟩
theorem ok127 : FnOK Try.prog 127 v127 := ⟨⟨Try.f127, _, Try.func127, rfl, by kernel_rfl, rfl, by decide, by kernel_rfl, by kernel_rfl⟩⟩

/-- spec.l4Set -/
def v128 : VF := ⟨4, 30, [.t 8, .t 9], false,
  .seq (.ops [⟨some 8, none, .mv (.c (.int .i64 0))⟩,
    ⟨some 9, none, .mv (.c (.int .i64 0))⟩])
  (.seq (.ops [⟨some 13, none, .mv (.t 0)⟩,
    ⟨some 14, none, .mv (.t 1)⟩,
    ⟨some 15, none, .mv (.t 2)⟩,
    ⟨some 16, none, .mv (.t 3)⟩,
    ⟨some 17, none, .call 151 [.t 13, .t 14, .t 15, .t 16]⟩,
    ⟨some 12, none, .mv (.t 17)⟩,
    ⟨some 18, none, .ext 0 (.t 12)⟩,
    ⟨some 19, none, .ext 1 (.t 12)⟩,
    ⟨some 10, none, .mv (.t 18)⟩,
    ⟨some 11, none, .mv (.t 19)⟩])
  (.seq (.seq (.ops [⟨some 20, none, .mv (.t 11)⟩,
    ⟨some 21, none, .bin .neq (.t 20) (.c (.int .i64 0))⟩])
  (.cond (.t 21)
   (.seq (.ops [⟨some 22, none, .mv (.t 11)⟩,
     ⟨some 8, none, .mv (.c (.int .i64 (-1)))⟩,
     ⟨some 9, none, .mv (.t 22)⟩])
   (.ret))
   (.skip)))
  (.seq (.ops [⟨some 23, none, .mv (.t 0)⟩,
    ⟨some 24, none, .mv (.t 1)⟩,
    ⟨some 25, none, .mv (.t 2)⟩,
    ⟨some 26, none, .mv (.t 10)⟩,
    ⟨some 27, none, .call 152 [.t 23, .t 24, .t 25, .t 26]⟩,
    ⟨some 28, none, .ext 0 (.t 27)⟩,
    ⟨some 29, none, .ext 1 (.t 27)⟩,
    ⟨some 8, none, .mv (.t 28)⟩,
    ⟨some 9, none, .mv (.t 29)⟩])
  (.ret))))⟩
theorem ok128 : FnOK Try.prog 128 v128 := ⟨⟨Try.f128, _, Try.func128, rfl, by kernel_rfl, rfl, by decide, by kernel_rfl, by kernel_rfl⟩⟩

/-- impl.Forest).put -/
def v129 : VF := ⟨4, 143, [.t 8, .t 9], false,
  .seq (.ops [⟨some 8, none, .mv (.c (.int .i64 0))⟩,
    ⟨some 9, none, .mv (.c (.int .i64 0))⟩])
  (.seq (.ops [⟨some 20, none, .mv (.t 1)⟩,
    ⟨some 21, none, .bin .neq (.t 20) (.c (.int .i64 (-1)))⟩,
    ⟨some 22, none, .mv (.t 21)⟩,
    ⟨some 23, some (22, true), .mv (.t 0)⟩,
    ⟨some 24, some (22, true), .nilck (.t 23)⟩,
    ⟨some 25, some (22, true), .faddr 0 (.t 24)⟩,
    ⟨some 26, some (22, true), .load false 1 (.t 25)⟩,
    ⟨some 27, some (22, true), .mv (.t 1)⟩,
    ⟨some 28, some (22, true), .iaddr 3 (.t 26) (.t 27)⟩,
    ⟨some 29, some (22, true), .faddr 0 (.t 28)⟩,
    ⟨some 30, some (22, true), .load false 1 (.t 29)⟩,
    ⟨some 31, some (22, true), .bin .eql (.t 30) (.c (.int .i64 1))⟩,
    ⟨some 32, none, .pick (.t 22) (.t 31) (.c (.bool false))⟩,
    ⟨some 10, none, .mv (.t 32)⟩])
  (.seq (.ops [⟨some 33, none, .mv (.t 0)⟩,
    ⟨some 34, none, .mv (.t 1)⟩,
    ⟨some 35, none, .mv (.t 2)⟩,
    ⟨some 36, none, .bin .quo (.t 35) (.c (.int .i64 4))⟩,
    ⟨some 37, none, .call 149 [.t 33, .t 34, .t 36]⟩,
    ⟨some 11, none, .mv (.t 37)⟩])
  (.seq (.ops [⟨some 12, none, .mv (.c (.int .i64 (-1)))⟩])
  (.seq (.seq (.ops [⟨some 38, none, .mv (.t 0)⟩,
    ⟨some 39, none, .mv (.t 11)⟩,
    ⟨some 40, none, .mv (.t 2)⟩,
    ⟨some 41, none, .bin .rem (.t 40) (.c (.int .i64 4))⟩,
    ⟨some 42, none, .mv (.t 3)⟩,
    ⟨some 43, none, .call 153 [.t 38, .t 39, .t 41, .t 42]⟩,
    ⟨some 13, none, .mv (.t 43)⟩])
  (.block 0 (.seq (.ops [⟨some 57, none, .mv (.t 13)⟩,
     ⟨some 58, none, .call 106 [.t 57]⟩,
     ⟨some 56, none, .mv (.t 58)⟩])
   (.cond (.t 56)
    (.skip)
    (.seq (.ops [⟨some 60, none, .mv (.t 10)⟩,
      ⟨some 61, none, .mv (.t 60)⟩,
      ⟨some 62, some (61, true), .mv (.t 11)⟩,
      ⟨some 63, some (61, true), .bin .neq (.t 62) (.c (.int .i64 (-1)))⟩,
      ⟨some 64, none, .pick (.t 61) (.t 63) (.c (.bool false))⟩,
      ⟨some 65, none, .mv (.t 64)⟩,
      ⟨some 66, some (65, true), .mv (.t 0)⟩,
      ⟨some 67, some (65, true), .nilck (.t 66)⟩,
      ⟨some 68, some (65, true), .faddr 0 (.t 67)⟩,
      ⟨some 69, some (65, true), .load false 1 (.t 68)⟩,
      ⟨some 70, some (65, true), .mv (.t 11)⟩,
      ⟨some 71, some (65, true), .iaddr 3 (.t 69) (.t 70)⟩,
      ⟨some 72, some (65, true), .faddr 0 (.t 71)⟩,
      ⟨some 73, some (65, true), .load false 1 (.t 72)⟩,
      ⟨some 74, some (65, true), .bin .eql (.t 73) (.c (.int .i64 1))⟩,
      ⟨some 75, none, .pick (.t 65) (.t 74) (.c (.bool false))⟩,
      ⟨some 59, none, .mv (.t 75)⟩])
    (.cond (.t 59)
     (.seq (.seq (.ops [⟨some 76, none, .mv (.t 0)⟩,
       ⟨some 77, none, .mv (.t 11)⟩,
       ⟨some 78, none, .mv (.t 2)⟩,
       ⟨some 79, none, .bin .rem (.t 78) (.c (.int .i64 4))⟩,
       ⟨some 80, none, .call 149 [.t 76, .t 77, .t 79]⟩,
       ⟨some 14, none, .mv (.t 80)⟩])
     (.seq (.ops [⟨some 81, none, .mv (.t 14)⟩,
       ⟨some 82, none, .bin .neq (.t 81) (.c (.int .i64 (-1)))⟩])
     (.cond (.t 82)
      (.ops [⟨some 83, none, .mv (.t 0)⟩,
        ⟨some 84, none, .nilck (.t 83)⟩,
        ⟨some 85, none, .faddr 1 (.t 84)⟩,
        ⟨some 86, none, .load false 1 (.t 85)⟩,
        ⟨some 87, none, .mv (.t 14)⟩,
        ⟨some 88, none, .call 87 [.t 86, .t 87]⟩])
      (.skip))))
     (.seq (.ops [⟨some 89, none, .mv (.t 0)⟩,
       ⟨some 90, none, .nilck (.t 89)⟩,
       ⟨some 91, none, .faddr 0 (.t 90)⟩,
       ⟨some 92, none, .load false 1 (.t 91)⟩,
       ⟨some 93, none, .mv (.t 11)⟩,
       ⟨some 94, none, .mv (.t 13)⟩,
       ⟨some 95, none, .iaddr 3 (.t 92) (.t 93)⟩,
       ⟨some 96, none, .faddr 2 (.t 95)⟩,
       ⟨none, none, .store 1 (.t 96) (.t 94)⟩])
     (.seq (.ops [⟨some 97, none, .mv (.t 1)⟩,
       ⟨some 8, none, .mv (.t 97)⟩,
       ⟨some 9, none, .mv (.c (.int .i64 0))⟩])
     (.ret))))
     (.seq (.ops [⟨some 45, none, .mv (.t 0)⟩,
       ⟨some 46, none, .mv (.t 13)⟩,
       ⟨some 47, none, .mv (.t 2)⟩,
       ⟨some 48, none, .bin .rem (.t 47) (.c (.int .i64 4))⟩,
       ⟨some 49, none, .call 154 [.t 45, .c (.bool true), .t 46, .t 48]⟩,
       ⟨some 44, none, .mv (.t 49)⟩,
       ⟨some 50, none, .ext 0 (.t 44)⟩,
       ⟨some 51, none, .ext 1 (.t 44)⟩,
       ⟨some 15, none, .mv (.t 50)⟩,
       ⟨some 16, none, .mv (.t 51)⟩])
     (.seq (.seq (.ops [⟨some 52, none, .mv (.t 16)⟩,
       ⟨some 53, none, .bin .neq (.t 52) (.c (.int .i64 0))⟩])
     (.cond (.t 53)
      (.seq (.ops [⟨some 54, none, .mv (.t 16)⟩,
        ⟨some 8, none, .mv (.c (.int .i64 0))⟩,
        ⟨some 9, none, .mv (.t 54)⟩])
      (.ret))
      (.skip)))
     (.ops [⟨some 55, none, .mv (.t 15)⟩,
       ⟨some 12, none, .mv (.t 55)⟩])))))))))
  (.seq (.ops [⟨some 98, none, .mv (.t 0)⟩,
    ⟨some 99, none, .mv (.t 1)⟩,
    ⟨some 100, none, .mv (.t 2)⟩,
    ⟨some 101, none, .bin .quo (.t 100) (.c (.int .i64 4))⟩,
    ⟨some 102, none, .mv (.t 12)⟩,
    ⟨some 103, none, .call 153 [.t 98, .t 99, .t 101, .t 102]⟩,
    ⟨some 17, none, .mv (.t 103)⟩])
  (.seq (.block 1 (.seq (.ops [⟨some 105, none, .mv (.t 17)⟩,
     ⟨some 106, none, .call 106 [.t 105]⟩,
     ⟨some 104, none, .mv (.t 106)⟩])
   (.cond (.t 104)
    (.seq (.ops [⟨some 107, none, .mv (.t 0)⟩,
      ⟨some 108, none, .mv (.t 1)⟩,
      ⟨some 109, none, .call 127 [.t 107, .t 108]⟩])
    (.seq (.ops [⟨some 8, none, .mv (.c (.int .i64 (-1)))⟩,
      ⟨some 9, none, .mv (.c (.int .i64 0))⟩])
    (.ret)))
    (.seq (.ops [⟨some 111, none, .mv (.t 10)⟩,
      ⟨some 110, none, .mv (.t 111)⟩])
    (.cond (.t 110)
     (.seq (.ops [⟨some 112, none, .mv (.t 0)⟩,
       ⟨some 113, none, .nilck (.t 112)⟩,
       ⟨some 114, none, .faddr 0 (.t 113)⟩,
       ⟨some 115, none, .load false 1 (.t 114)⟩,
       ⟨some 116, none, .mv (.t 1)⟩,
       ⟨some 117, none, .mv (.t 17)⟩,
       ⟨some 118, none, .iaddr 3 (.t 115) (.t 116)⟩,
       ⟨some 119, none, .faddr 2 (.t 118)⟩,
       ⟨none, none, .store 1 (.t 119) (.t 117)⟩])
     (.seq (.seq (.ops [⟨some 120, none, .mv (.t 11)⟩,
       ⟨some 121, none, .bin .neq (.t 120) (.c (.int .i64 (-1)))⟩])
     (.cond (.t 121)
      (.ops [⟨some 122, none, .mv (.t 0)⟩,
        ⟨some 123, none, .mv (.t 11)⟩,
        ⟨some 124, none, .call 127 [.t 122, .t 123]⟩])
      (.skip)))
     (.seq (.ops [⟨some 125, none, .mv (.t 1)⟩,
       ⟨some 8, none, .mv (.t 125)⟩,
       ⟨some 9, none, .mv (.c (.int .i64 0))⟩])
     (.ret))))
     (.skip))))))
  (.seq (.ops [⟨some 127, none, .mv (.t 0)⟩,
    ⟨some 128, none, .mv (.t 17)⟩,
    ⟨some 129, none, .mv (.t 2)⟩,
    ⟨some 130, none, .bin .quo (.t 129) (.c (.int .i64 4))⟩,
    ⟨some 131, none, .call 154 [.t 127, .c (.bool false), .t 128, .t 130]⟩,
    ⟨some 126, none, .mv (.t 131)⟩,
    ⟨some 132, none, .ext 0 (.t 126)⟩,
    ⟨some 133, none, .ext 1 (.t 126)⟩,
    ⟨some 18, none, .mv (.t 132)⟩,
    ⟨some 19, none, .mv (.t 133)⟩])
  (.seq (.seq (.ops [⟨some 134, none, .mv (.t 19)⟩,
    ⟨some 135, none, .bin .neq (.t 134) (.c (.int .i64 0))⟩])
  (.cond (.t 135)
   (.seq (.ops [⟨some 136, none, .mv (.t 19)⟩,
     ⟨some 8, none, .mv (.c (.int .i64 0))⟩,
     ⟨some 9, none, .mv (.t 136)⟩])
   (.ret))
   (.skip)))
  (.seq (.seq (.ops [⟨some 137, none, .mv (.t 1)⟩,
    ⟨some 138, none, .bin .neq (.t 137) (.c (.int .i64 (-1)))⟩])
  (.cond (.t 138)
   (.ops [⟨some 139, none, .mv (.t 0)⟩,
     ⟨some 140, none, .mv (.t 1)⟩,
     ⟨some 141, none, .call 127 [.t 139, .t 140]⟩])
   (.skip)))
  (.seq (.ops [⟨some 142, none, .mv (.t 18)⟩,
    ⟨some 8, none, .mv (.t 142)⟩,
    ⟨some 9, none, .mv (.c (.int .i64 0))⟩])
  (.ret)))))))))))⟩
theorem ok129 : FnOK Try.prog 129 v129 := ⟨⟨Try.f129, _, Try.func129, rfl, by kernel_rfl, rfl, by decide, by kernel_rfl, by kernel_rfl⟩⟩

/-- spec.l4At -/
def v130 : VF := ⟨1, 26, [.cell 2 true 2, .t 3, .t 4], true,
  .seq (.ops [⟨some 2, none, .new [.slice none 0 0, .slice none 0 0]⟩,
    ⟨some 3, none, .mv (.c (.int .i64 0))⟩,
    ⟨some 4, none, .mv (.c (.int .i64 0))⟩])
  (.seq (.ops [⟨some 8, none, .mv (.t 0)⟩,
    ⟨some 9, none, .call 93 [.t 8]⟩,
    ⟨some 5, none, .mv (.t 9)⟩])
  (.seq (.ops [⟨some 11, none, .mv (.t 5)⟩,
    ⟨some 12, none, .call 155 [.t 11]⟩,
    ⟨some 10, none, .mv (.t 12)⟩,
    ⟨some 13, none, .ext 0 (.t 10)⟩,
    ⟨some 14, none, .ext 1 (.t 10)⟩,
    ⟨some 6, none, .new [.slice none 0 0, .slice none 0 0]⟩,
    ⟨none, none, .store 2 (.t 6) (.t 13)⟩,
    ⟨some 7, none, .mv (.t 14)⟩])
  (.seq (.drawD [5, 2] [⟨some 15, none, .load true 2 (.t 6)⟩,
    ⟨some 16, none, .mv (.t 7)⟩,
    ⟨some 17, none, .mv (.t 5)⟩,
    ⟨some 18, none, .mv (.t 5)⟩,
    ⟨some 19, none, .call 96 [.t 18, .c (.int .i64 16)]⟩,
    ⟨some 20, none, .mv (.t 5)⟩,
    ⟨some 21, none, .call 96 [.t 20, .c (.int .i64 16)]⟩,
    ⟨some 22, none, .mv (.t 5)⟩,
    ⟨some 23, none, .call 96 [.t 22, .c (.int .i64 16)]⟩,
    ⟨some 24, none, .bslice 1 [.int .i64 0, .int .i64 0, .int .i64 0, .int .i64 0, .int .i64 0] 5 [(0, 1, .t 19), (1, 1, .t 21), (2, 1, .t 23), (3, 1, .c (.int .i64 16)), (4, 1, .c (.int .i64 (-1)))]⟩,
    ⟨some 25, none, .call 95 [.t 17, .t 24]⟩,
    ⟨none, none, .store 2 (.t 2) (.t 15)⟩] [⟨some 3, none, .mv (.t 16)⟩,
    ⟨some 4, none, .mv (.t 25)⟩])
  (.ret))))⟩
theorem ok130 : FnOK Try.prog 130 v130 := ⟨⟨Try.f130, _, Try.func130, rfl, by kernel_rfl, rfl, by decide, by kernel_rfl, by kernel_rfl⟩⟩

/-- impl.Block] -/
def l131_0 : VC :=
  .seq (.ops [⟨some 9, none, .bin .lss (.t 8) (.t 7)⟩])
  (.seq (.cond (.t 9)
   (.skip)
   (.exit 0))
  (.seq (.block 1 (.seq (.ops [⟨some 10, none, .mv (.t 8)⟩,
     ⟨some 5, none, .mv (.t 10)⟩])
   (.seq (.ops [⟨some 11, none, .mv (.t 1)⟩,
     ⟨some 12, none, .mv (.t 0)⟩,
     ⟨some 13, none, .mv (.t 5)⟩,
     ⟨some 14, none, .iaddr 2 (.t 12) (.t 13)⟩,
     ⟨some 15, none, .load true 2 (.t 14)⟩,
     ⟨some 16, none, .callv (.t 11) [.t 15]⟩])
   (.cond (.t 16)
    (.seq (.ops [⟨some 17, none, .mv (.t 5)⟩,
      ⟨some 4, none, .mv (.t 17)⟩])
    (.ret))
    (.skip)))))
  (.ops [⟨some 18, none, .bin .add (.t 8) (.c (.int .i64 1))⟩,
    ⟨some 8, none, .mv (.t 18)⟩])))
def v131 : VF := ⟨2, 19, [.t 4], true,
  .seq (.ops [⟨some 4, none, .mv (.c (.int .i64 0))⟩])
  (.seq (.seq (.ops [⟨some 6, none, .mv (.t 0)⟩,
    ⟨some 7, none, .len (.t 6)⟩,
    ⟨some 8, none, .mv (.c (.int .i64 0))⟩])
  (.block 0 (.loop [0, 1, 7, 8] [4] l131_0)))
  (.seq (.ops [⟨some 4, none, .mv (.c (.int .i64 (-1)))⟩])
  (.ret)))⟩
theorem ok131 : FnOK Try.prog 131 v131 := ⟨⟨Try.f131, _, Try.func131, rfl, by kernel_rfl, rfl, by decide, by kernel_rfl, by kernel_rfl⟩⟩

/-- impl.take$1 -/
def v132 : VF := ⟨1, 6, [.t 2], true,
  .seq (.ops [⟨some 1, none, .box (.t 0)⟩,
    ⟨some 2, none, .mv (.c (.bool false))⟩])
  (.seq (.ops [⟨some 3, none, .faddr 0 (.t 1)⟩,
    ⟨some 4, none, .load false 1 (.t 3)⟩,
    ⟨some 5, none, .bin .eql (.t 4) (.c (.int .i64 0))⟩,
    ⟨some 2, none, .mv (.t 5)⟩])
  (.ret))⟩
theorem ok132 : FnOK Try.prog 132 v132 := ⟨⟨Try.f132, _, Try.func132, rfl, by kernel_rfl, rfl, by decide, by kernel_rfl, by kernel_rfl⟩⟩

/-- spec.l1Chance -/
def v133 : VF := ⟨2, 9, [.t 4], false,
  .seq (.ops [⟨some 4, none, .mv (.c (.bool false))⟩])
  (.seq (.ops [⟨some 5, none, .mv (.t 0)⟩,
    ⟨some 6, none, .mv (.t 1)⟩,
    ⟨some 7, none, .call 96 [.t 5, .t 6]⟩,
    ⟨some 8, none, .bin .eql (.t 7) (.c (.int .i64 0))⟩,
    ⟨some 4, none, .mv (.t 8)⟩])
  (.ret))⟩
theorem ok133 : FnOK Try.prog 133 v133 := ⟨⟨Try.f133, _, Try.func133, rfl, by kernel_rfl, rfl, by decide, by kernel_rfl, by kernel_rfl⟩⟩

/-- spec.l4Node -/
def l139_0 : VC :=
  .seq (.seq (.ops [⟨some 36, none, .mv (.t 6)⟩,
    ⟨some 37, none, .bin .lss (.t 36) (.c (.int .i64 4))⟩])
  (.cond (.t 37)
   (.skip)
   (.exit 0)))
  (.seq (.block 1 (.seq (.seq (.ops [⟨some 40, none, .mv (.t 0)⟩,
     ⟨some 41, none, .mv (.t 1)⟩,
     ⟨some 42, none, .mv (.t 1)⟩,
     ⟨some 43, none, .nilck (.t 42)⟩,
     ⟨some 44, none, .faddr 2 (.t 43)⟩,
     ⟨some 45, none, .load false 1 (.t 44)⟩,
     ⟨some 46, none, .mv (.t 6)⟩,
     ⟨some 47, none, .iaddr 1 (.t 45) (.t 46)⟩,
     ⟨some 48, none, .load false 1 (.t 47)⟩,
     ⟨some 49, none, .call 158 [.t 40, .t 41, .t 48]⟩,
     ⟨some 50, none, .not (.t 49)⟩])
   (.cond (.t 50)
    (.seq (.ops [⟨some 4, none, .mv (.c (.int .i64 1))⟩])
    (.ret))
    (.skip)))
   (.ops [⟨some 51, none, .mv (.t 5)⟩,
     ⟨some 52, none, .mv (.t 51)⟩,
     ⟨some 53, some (52, false), .mv (.t 1)⟩,
     ⟨some 54, some (52, false), .nilck (.t 53)⟩,
     ⟨some 55, some (52, false), .faddr 2 (.t 54)⟩,
     ⟨some 56, some (52, false), .load false 1 (.t 55)⟩,
     ⟨some 57, some (52, false), .mv (.t 6)⟩,
     ⟨some 58, some (52, false), .iaddr 1 (.t 56) (.t 57)⟩,
     ⟨some 59, some (52, false), .load false 1 (.t 58)⟩,
     ⟨some 60, some (52, false), .bin .geq (.t 59) (.c (.int .i64 0))⟩,
     ⟨some 61, none, .pick (.t 52) (.c (.bool true)) (.t 60)⟩,
     ⟨some 5, none, .mv (.t 61)⟩])))
  (.ops [⟨some 38, none, .mv (.t 6)⟩,
    ⟨some 39, none, .bin .add (.t 38) (.c (.int .i64 1))⟩,
    ⟨some 6, none, .mv (.t 39)⟩]))
def v139 : VF := ⟨2, 64, [.t 4], true,
  .seq (.ops [⟨some 4, none, .mv (.c (.int .i64 0))⟩])
  (.seq (.seq (.ops [⟨some 7, none, .mv (.t 1)⟩,
    ⟨some 8, none, .nilck (.t 7)⟩,
    ⟨some 9, none, .faddr 0 (.t 8)⟩,
    ⟨some 10, none, .load false 1 (.t 9)⟩,
    ⟨some 11, none, .call 75 [.t 10, .c (.int .i64 0), .c (.int .i64 200)]⟩,
    ⟨some 12, none, .not (.t 11)⟩])
  (.cond (.t 12)
   (.seq (.ops [⟨some 4, none, .mv (.c (.int .i64 3))⟩])
   (.ret))
   (.skip)))
  (.seq (.seq (.ops [⟨some 13, none, .mv (.t 1)⟩,
    ⟨some 14, none, .nilck (.t 13)⟩,
    ⟨some 15, none, .faddr 0 (.t 14)⟩,
    ⟨some 16, none, .load false 1 (.t 15)⟩,
    ⟨some 17, none, .bin .eql (.t 16) (.c (.int .i64 0))⟩])
  (.cond (.t 17)
   (.seq (.seq (.ops [⟨some 18, none, .mv (.t 1)⟩,
     ⟨some 19, none, .nilck (.t 18)⟩,
     ⟨some 20, none, .faddr 1 (.t 19)⟩,
     ⟨some 21, none, .load false 1 (.t 20)⟩,
     ⟨some 22, none, .mv (.t 21)⟩,
     ⟨some 23, some (22, false), .mv (.t 1)⟩,
     ⟨some 24, some (22, false), .nilck (.t 23)⟩,
     ⟨some 25, some (22, false), .faddr 2 (.t 24)⟩,
     ⟨some 26, some (22, false), .load false 1 (.t 25)⟩,
     ⟨some 27, some (22, false), .len (.t 26)⟩,
     ⟨some 28, some (22, false), .bin .gtr (.t 27) (.c (.int .i64 0))⟩,
     ⟨some 29, none, .pick (.t 22) (.c (.bool true)) (.t 28)⟩])
   (.cond (.t 29)
    (.seq (.ops [⟨some 4, none, .mv (.c (.int .i64 1))⟩])
    (.ret))
    (.skip)))
   (.seq (.ops [⟨some 4, none, .mv (.c (.int .i64 0))⟩])
   (.ret)))
   (.skip)))
  (.seq (.seq (.ops [⟨some 30, none, .mv (.t 1)⟩,
    ⟨some 31, none, .nilck (.t 30)⟩,
    ⟨some 32, none, .faddr 2 (.t 31)⟩,
    ⟨some 33, none, .load false 1 (.t 32)⟩,
    ⟨some 34, none, .len (.t 33)⟩,
    ⟨some 35, none, .bin .neq (.t 34) (.c (.int .i64 4))⟩])
  (.cond (.t 35)
   (.seq (.ops [⟨some 4, none, .mv (.c (.int .i64 1))⟩])
   (.ret))
   (.skip)))
  (.seq (.ops [⟨some 5, none, .mv (.c (.bool false))⟩])
  (.seq (.seq (.ops [⟨some 6, none, .mv (.c (.int .i64 0))⟩])
  (.block 0 (.loop [0, 1, 5, 6] [4, 5] l139_0)))
  (.seq (.seq (.ops [⟨some 62, none, .mv (.t 5)⟩,
    ⟨some 63, none, .not (.t 62)⟩])
  (.cond (.t 63)
   (.seq (.ops [⟨some 4, none, .mv (.c (.int .i64 1))⟩])
   (.ret))
   (.skip)))
  (.seq (.ops [⟨some 4, none, .mv (.c (.int .i64 0))⟩])
  (.ret))))))))⟩
theorem ok139 : FnOK Try.prog 139 v139 := ⟨⟨Try.f139, _, Try.func139, rfl, by kernel_rfl, rfl, by decide, by kernel_rfl, by kernel_rfl⟩⟩

/-- spec.l4Named -/
def l140_0 : VC :=
  .seq (.seq (.ops [⟨some 40, none, .mv (.t 9)⟩,
    ⟨some 41, none, .bin .lss (.t 40) (.c (.int .i64 4))⟩])
  (.cond (.t 41)
   (.skip)
   (.exit 2)))
  (.seq (.block 3 (.seq (.ops [⟨some 44, none, .mv (.t 0)⟩,
     ⟨some 45, none, .nilck (.t 44)⟩,
     ⟨some 46, none, .faddr 0 (.t 45)⟩,
     ⟨some 47, none, .load false 1 (.t 46)⟩,
     ⟨some 48, none, .mv (.t 8)⟩,
     ⟨some 49, none, .iaddr 3 (.t 47) (.t 48)⟩,
     ⟨some 50, none, .faddr 2 (.t 49)⟩,
     ⟨some 51, none, .load false 1 (.t 50)⟩,
     ⟨some 52, none, .mv (.t 9)⟩,
     ⟨some 53, none, .iaddr 1 (.t 51) (.t 52)⟩,
     ⟨some 54, none, .load false 1 (.t 53)⟩,
     ⟨some 55, none, .mv (.t 2)⟩,
     ⟨some 56, none, .bin .eql (.t 54) (.t 55)⟩])
   (.cond (.t 56)
    (.ops [⟨some 57, none, .mv (.t 7)⟩,
      ⟨some 58, none, .bin .add (.t 57) (.c (.int .i64 1))⟩,
      ⟨some 7, none, .mv (.t 58)⟩])
    (.skip))))
  (.ops [⟨some 42, none, .mv (.t 9)⟩,
    ⟨some 43, none, .bin .add (.t 42) (.c (.int .i64 1))⟩,
    ⟨some 9, none, .mv (.t 43)⟩]))
def l140_1 : VC :=
  .seq (.seq (.ops [⟨some 10, none, .mv (.t 8)⟩,
    ⟨some 11, none, .mv (.t 0)⟩,
    ⟨some 12, none, .nilck (.t 11)⟩,
    ⟨some 13, none, .faddr 0 (.t 12)⟩,
    ⟨some 14, none, .load false 1 (.t 13)⟩,
    ⟨some 15, none, .len (.t 14)⟩,
    ⟨some 16, none, .bin .lss (.t 10) (.t 15)⟩])
  (.cond (.t 16)
   (.skip)
   (.exit 0)))
  (.seq (.block 1 (.seq (.seq (.ops [⟨some 19, none, .mv (.t 0)⟩,
     ⟨some 20, none, .nilck (.t 19)⟩,
     ⟨some 21, none, .faddr 0 (.t 20)⟩,
     ⟨some 22, none, .load false 1 (.t 21)⟩,
     ⟨some 23, none, .mv (.t 8)⟩,
     ⟨some 24, none, .iaddr 3 (.t 22) (.t 23)⟩,
     ⟨some 25, none, .faddr 0 (.t 24)⟩,
     ⟨some 26, none, .load false 1 (.t 25)⟩,
     ⟨some 27, none, .bin .eql (.t 26) (.c (.int .i64 0))⟩,
     ⟨some 28, none, .mv (.t 27)⟩,
     ⟨some 29, some (28, false), .mv (.t 0)⟩,
     ⟨some 30, some (28, false), .nilck (.t 29)⟩,
     ⟨some 31, some (28, false), .faddr 0 (.t 30)⟩,
     ⟨some 32, some (28, false), .load false 1 (.t 31)⟩,
     ⟨some 33, some (28, false), .mv (.t 8)⟩,
     ⟨some 34, some (28, false), .iaddr 3 (.t 32) (.t 33)⟩,
     ⟨some 35, some (28, false), .faddr 1 (.t 34)⟩,
     ⟨some 36, some (28, false), .load false 1 (.t 35)⟩,
     ⟨some 37, some (28, false), .mv (.t 1)⟩,
     ⟨some 38, some (28, false), .beq true (.t 36) (.t 37)⟩,
     ⟨some 39, none, .pick (.t 28) (.c (.bool true)) (.t 38)⟩])
   (.cond (.t 39)
    (.exit 1)
    (.skip)))
   (.seq (.ops [⟨some 9, none, .mv (.c (.int .i64 0))⟩])
   (.block 2 (.loop [0, 1, 2, 7, 8, 9] [0, 1, 2, 6, 7, 8] l140_0)))))
  (.ops [⟨some 17, none, .mv (.t 8)⟩,
    ⟨some 18, none, .bin .add (.t 17) (.c (.int .i64 1))⟩,
    ⟨some 8, none, .mv (.t 18)⟩]))
def v140 : VF := ⟨3, 60, [.t 6], true,
  .seq (.ops [⟨some 6, none, .mv (.c (.int .i64 0))⟩])
  (.seq (.ops [⟨some 7, none, .mv (.c (.int .i64 0))⟩])
  (.seq (.seq (.ops [⟨some 8, none, .mv (.c (.int .i64 0))⟩])
  (.block 0 (.loop [0, 1, 2, 7, 8] [6, 7] l140_1)))
  (.seq (.ops [⟨some 59, none, .mv (.t 7)⟩,
    ⟨some 6, none, .mv (.t 59)⟩])
  (.ret))))⟩
theorem ok140 : FnOK Try.prog 140 v140 := ⟨⟨Try.f140, _, Try.func140, rfl, by kernel_rfl, rfl, by decide, by kernel_rfl, by kernel_rfl⟩⟩

/-- impl.isEmpty$1 -/
def v142 : VF := ⟨1, 5, [.t 2], true,
  .seq (.ops [⟨some 2, none, .mv (.c (.bool false))⟩])
  (.seq (.ops [⟨some 3, none, .mv (.t 0)⟩,
    ⟨some 4, none, .bin .neq (.t 3) (.c (.int .i64 (-1)))⟩,
    ⟨some 2, none, .mv (.t 4)⟩])
  (.ret))⟩
theorem ok142 : FnOK Try.prog 142 v142 := ⟨⟨Try.f142, _, Try.func142, rfl, by kernel_rfl, rfl, by decide, by kernel_rfl, by kernel_rfl⟩⟩

/-- slices.IndexFunc[[]int64,int64] -/
def l143_0 : VC :=
  .seq (.ops [⟨some 9, none, .bin .lss (.t 8) (.t 7)⟩])
  (.seq (.cond (.t 9)
   (.skip)
   (.exit 0))
  (.seq (.block 1 (.seq (.ops [⟨some 10, none, .mv (.t 8)⟩,
     ⟨some 5, none, .mv (.t 10)⟩])
   (.seq (.ops [⟨some 11, none, .mv (.t 1)⟩,
     ⟨some 12, none, .mv (.t 0)⟩,
     ⟨some 13, none, .mv (.t 5)⟩,
     ⟨some 14, none, .iaddr 1 (.t 12) (.t 13)⟩,
     ⟨some 15, none, .load false 1 (.t 14)⟩,
     ⟨some 16, none, .callv (.t 11) [.t 15]⟩])
   (.cond (.t 16)
    (.seq (.ops [⟨some 17, none, .mv (.t 5)⟩,
      ⟨some 4, none, .mv (.t 17)⟩])
    (.ret))
    (.skip)))))
  (.ops [⟨some 18, none, .bin .add (.t 8) (.c (.int .i64 1))⟩,
    ⟨some 8, none, .mv (.t 18)⟩])))
def v143 : VF := ⟨2, 19, [.t 4], true,
  .seq (.ops [⟨some 4, none, .mv (.c (.int .i64 0))⟩])
  (.seq (.seq (.ops [⟨some 6, none, .mv (.t 0)⟩,
    ⟨some 7, none, .len (.t 6)⟩,
    ⟨some 8, none, .mv (.c (.int .i64 0))⟩])
  (.block 0 (.loop [0, 1, 7, 8] [4] l143_0)))
  (.seq (.ops [⟨some 4, none, .mv (.c (.int .i64 (-1)))⟩])
  (.ret)))⟩
theorem ok143 : FnOK Try.prog 143 v143 := ⟨⟨Try.f143, _, Try.func143, rfl, by kernel_rfl, rfl, by decide, by kernel_rfl, by kernel_rfl⟩⟩

/-- spec.l4Root -/
def v145 : VF := ⟨2, 37, [.t 4], true,
  .seq (.ops [⟨some 4, none, .mv (.c (.bool false))⟩])
  (.seq (.seq (.ops [⟨some 5, none, .mv (.t 1)⟩,
    ⟨some 6, none, .bin .eql (.t 5) (.c (.int .i64 (-1)))⟩])
  (.cond (.t 6)
   (.seq (.ops [⟨some 4, none, .mv (.c (.bool true))⟩])
   (.ret))
   (.skip)))
  (.seq (.ops [⟨some 7, none, .mv (.t 1)⟩,
    ⟨some 8, none, .mv (.t 0)⟩,
    ⟨some 9, none, .nilck (.t 8)⟩,
    ⟨some 10, none, .faddr 0 (.t 9)⟩,
    ⟨some 11, none, .load false 1 (.t 10)⟩,
    ⟨some 12, none, .len (.t 11)⟩,
    ⟨some 13, none, .bin .sub (.t 12) (.c (.int .i64 1))⟩,
    ⟨some 14, none, .call 75 [.t 7, .c (.int .i64 0), .t 13]⟩,
    ⟨some 15, none, .mv (.t 14)⟩,
    ⟨some 16, some (15, true), .mv (.t 0)⟩,
    ⟨some 17, some (15, true), .nilck (.t 16)⟩,
    ⟨some 18, some (15, true), .faddr 0 (.t 17)⟩,
    ⟨some 19, some (15, true), .load false 1 (.t 18)⟩,
    ⟨some 20, some (15, true), .mv (.t 1)⟩,
    ⟨some 21, some (15, true), .iaddr 3 (.t 19) (.t 20)⟩,
    ⟨some 22, some (15, true), .faddr 0 (.t 21)⟩,
    ⟨some 23, some (15, true), .load false 1 (.t 22)⟩,
    ⟨some 24, some (15, true), .bin .gtr (.t 23) (.c (.int .i64 0))⟩,
    ⟨some 25, none, .pick (.t 15) (.t 24) (.c (.bool false))⟩,
    ⟨some 26, none, .mv (.t 25)⟩,
    ⟨some 27, some (26, true), .mv (.t 0)⟩,
    ⟨some 28, some (26, true), .nilck (.t 27)⟩,
    ⟨some 29, some (26, true), .faddr 0 (.t 28)⟩,
    ⟨some 30, some (26, true), .load false 1 (.t 29)⟩,
    ⟨some 31, some (26, true), .mv (.t 1)⟩,
    ⟨some 32, some (26, true), .iaddr 3 (.t 30) (.t 31)⟩,
    ⟨some 33, some (26, true), .faddr 1 (.t 32)⟩,
    ⟨some 34, some (26, true), .load false 1 (.t 33)⟩,
    ⟨some 35, some (26, true), .not (.t 34)⟩,
    ⟨some 36, none, .pick (.t 26) (.t 35) (.c (.bool false))⟩,
    ⟨some 4, none, .mv (.t 36)⟩])
  (.ret)))⟩
theorem ok145 : FnOK Try.prog 145 v145 := ⟨⟨Try.f145, _, Try.func145, rfl, by kernel_rfl, rfl, by decide, by kernel_rfl, by kernel_rfl⟩⟩

/-- spec.l4Place -/
def v146 : VF := ⟨1, 5, [.t 2], true,
  .seq (.ops [⟨some 2, none, .mv (.c (.bool false))⟩])
  (.seq (.ops [⟨some 3, none, .mv (.t 0)⟩,
    ⟨some 4, none, .call 75 [.t 3, .c (.int .i64 0), .c (.int .i64 15)]⟩,
    ⟨some 2, none, .mv (.t 4)⟩])
  (.ret))⟩
theorem ok146 : FnOK Try.prog 146 v146 := ⟨⟨Try.f146, _, Try.func146, rfl, by kernel_rfl, rfl, by decide, by kernel_rfl, by kernel_rfl⟩⟩

/-- spec.l4Leaf -/
def v147 : VF := ⟨3, 21, [.t 6], true,
  .seq (.ops [⟨some 6, none, .mv (.c (.int .i64 0))⟩])
  (.seq (.seq (.ops [⟨some 7, none, .mv (.t 1)⟩,
    ⟨some 8, none, .bin .lss (.t 7) (.c (.int .i64 0))⟩])
  (.cond (.t 8)
   (.seq (.ops [⟨some 6, none, .mv (.c (.int .i64 (-1)))⟩])
   (.ret))
   (.skip)))
  (.seq (.ops [⟨some 9, none, .mv (.t 0)⟩,
    ⟨some 10, none, .nilck (.t 9)⟩,
    ⟨some 11, none, .faddr 0 (.t 10)⟩,
    ⟨some 12, none, .load false 1 (.t 11)⟩,
    ⟨some 13, none, .mv (.t 1)⟩,
    ⟨some 14, none, .iaddr 3 (.t 12) (.t 13)⟩,
    ⟨some 15, none, .faddr 2 (.t 14)⟩,
    ⟨some 16, none, .load false 1 (.t 15)⟩,
    ⟨some 17, none, .mv (.t 2)⟩,
    ⟨some 18, none, .bin .quo (.t 17) (.c (.int .i64 4))⟩,
    ⟨some 19, none, .iaddr 1 (.t 16) (.t 18)⟩,
    ⟨some 20, none, .load false 1 (.t 19)⟩,
    ⟨some 6, none, .mv (.t 20)⟩])
  (.ret)))⟩
theorem ok147 : FnOK Try.prog 147 v147 := ⟨⟨Try.f147, _, Try.func147, rfl, by kernel_rfl, rfl, by decide, by kernel_rfl, by kernel_rfl⟩⟩

/-- impl.isRoot -/
def v148 : VF := ⟨2, 33, [.t 4], true,
  .seq (.ops [⟨some 2, none, .box (.t 0)⟩,
    ⟨some 4, none, .mv (.c (.bool false))⟩])
  (.seq (.ops [⟨some 5, none, .mv (.t 1)⟩,
    ⟨some 6, none, .bin .eql (.t 5) (.c (.int .i64 (-1)))⟩,
    ⟨some 7, none, .mv (.t 6)⟩,
    ⟨some 8, some (7, false), .mv (.t 1)⟩,
    ⟨some 9, some (7, false), .faddr 0 (.t 2)⟩,
    ⟨some 10, some (7, false), .load false 1 (.t 9)⟩,
    ⟨some 11, some (7, false), .len (.t 10)⟩,
    ⟨some 12, some (7, false), .bin .sub (.t 11) (.c (.int .i64 1))⟩,
    ⟨some 13, some (7, false), .call 77 [.t 8, .c (.int .i64 0), .t 12]⟩,
    ⟨some 14, some (7, false), .mv (.t 13)⟩,
    ⟨some 15, some (14, true), .faddr 0 (.t 2)⟩,
    ⟨some 16, some (14, true), .load false 1 (.t 15)⟩,
    ⟨some 17, some (14, true), .mv (.t 1)⟩,
    ⟨some 18, some (14, true), .iaddr 3 (.t 16) (.t 17)⟩,
    ⟨some 19, some (14, true), .faddr 1 (.t 18)⟩,
    ⟨some 20, some (14, true), .load false 1 (.t 19)⟩,
    ⟨some 21, some (14, true), .not (.t 20)⟩,
    ⟨some 22, some (7, false), .pick (.t 14) (.t 21) (.c (.bool false))⟩,
    ⟨some 23, some (7, false), .mv (.t 22)⟩,
    ⟨some 24, some (23, true), .faddr 0 (.t 2)⟩,
    ⟨some 25, some (23, true), .load false 1 (.t 24)⟩,
    ⟨some 26, some (23, true), .mv (.t 1)⟩,
    ⟨some 27, some (23, true), .iaddr 3 (.t 25) (.t 26)⟩,
    ⟨some 28, some (23, true), .faddr 0 (.t 27)⟩,
    ⟨some 29, some (23, true), .load false 1 (.t 28)⟩,
    ⟨some 30, some (23, true), .bin .gtr (.t 29) (.c (.int .i64 0))⟩,
    ⟨some 31, some (7, false), .pick (.t 23) (.t 30) (.c (.bool false))⟩,
    ⟨some 32, none, .pick (.t 7) (.c (.bool true)) (.t 31)⟩,
    ⟨some 4, none, .mv (.t 32)⟩])
  (.ret))⟩
theorem ok148 : FnOK Try.prog 148 v148 := ⟨⟨Try.f148, _, Try.func148, rfl, by kernel_rfl, rfl, by decide, by kernel_rfl, by kernel_rfl⟩⟩

/-- impl.Forest).kid -/
def v149 : VF := ⟨3, 20, [.t 6], true,
  .seq (.ops [⟨some 6, none, .mv (.c (.int .i64 0))⟩])
  (.seq (.seq (.ops [⟨some 7, none, .mv (.t 1)⟩,
    ⟨some 8, none, .bin .eql (.t 7) (.c (.int .i64 (-1)))⟩])
  (.cond (.t 8)
   (.seq (.ops [⟨some 6, none, .mv (.c (.int .i64 (-1)))⟩])
   (.ret))
   (.skip)))
  (.seq (.ops [⟨some 9, none, .mv (.t 0)⟩,
    ⟨some 10, none, .nilck (.t 9)⟩,
    ⟨some 11, none, .faddr 0 (.t 10)⟩,
    ⟨some 12, none, .load false 1 (.t 11)⟩,
    ⟨some 13, none, .mv (.t 1)⟩,
    ⟨some 14, none, .iaddr 3 (.t 12) (.t 13)⟩,
    ⟨some 15, none, .faddr 2 (.t 14)⟩,
    ⟨some 16, none, .load false 1 (.t 15)⟩,
    ⟨some 17, none, .mv (.t 2)⟩,
    ⟨some 18, none, .iaddr 1 (.t 16) (.t 17)⟩,
    ⟨some 19, none, .load false 1 (.t 18)⟩,
    ⟨some 6, none, .mv (.t 19)⟩])
  (.ret)))⟩
theorem ok149 : FnOK Try.prog 149 v149 := ⟨⟨Try.f149, _, Try.func149, rfl, by kernel_rfl, rfl, by decide, by kernel_rfl, by kernel_rfl⟩⟩

/-- slices.Clone[[]int64,int64] -/
def v150 : VF := ⟨1, 8, [.t 2], true,
  .seq (.ops [⟨some 2, none, .mv (.c (.slice none 0 0))⟩])
  (.seq (.seq (.ops [⟨some 3, none, .mv (.t 0)⟩,
    ⟨some 4, none, .snil false (.t 3)⟩])
  (.cond (.t 4)
   (.seq (.ops [⟨some 2, none, .mv (.c (.slice none 0 0))⟩])
   (.ret))
   (.skip)))
  (.seq (.ops [⟨some 5, none, .bslice 1 [] 0 []⟩,
    ⟨some 6, none, .mv (.t 0)⟩,
    ⟨some 7, none, .append 1 8 (.t 5) (.t 6)⟩,
    ⟨some 2, none, .mv (.t 7)⟩])
  (.ret)))⟩
theorem ok150 : FnOK Try.prog 150 v150 := ⟨⟨Try.f150, _, Try.func150, rfl, by kernel_rfl, rfl, by decide, by kernel_rfl, by kernel_rfl⟩⟩

/-- spec.l4SetLeaf -/
def v151 : VF := ⟨4, 98, [.t 8, .t 9], false,
  .seq (.ops [⟨some 8, none, .mv (.c (.int .i64 0))⟩,
    ⟨some 9, none, .mv (.c (.int .i64 0))⟩])
  (.seq (.ops [⟨some 15, none, .mv (.t 0)⟩,
    ⟨some 16, none, .mv (.t 1)⟩,
    ⟨some 17, none, .mv (.t 2)⟩,
    ⟨some 18, none, .call 147 [.t 15, .t 16, .t 17]⟩,
    ⟨some 10, none, .mv (.t 18)⟩])
  (.seq (.ops [⟨some 19, none, .bslice 1 [] 0 []⟩,
    ⟨some 11, none, .mv (.t 19)⟩])
  (.seq (.seq (.ops [⟨some 20, none, .mv (.t 10)⟩,
    ⟨some 21, none, .bin .geq (.t 20) (.c (.int .i64 0))⟩])
  (.cond (.t 21)
   (.ops [⟨some 22, none, .mv (.t 0)⟩,
     ⟨some 23, none, .nilck (.t 22)⟩,
     ⟨some 24, none, .faddr 0 (.t 23)⟩,
     ⟨some 25, none, .load false 1 (.t 24)⟩,
     ⟨some 26, none, .mv (.t 10)⟩,
     ⟨some 27, none, .iaddr 3 (.t 25) (.t 26)⟩,
     ⟨some 28, none, .faddr 2 (.t 27)⟩,
     ⟨some 29, none, .load false 1 (.t 28)⟩,
     ⟨some 11, none, .mv (.t 29)⟩])
   (.skip)))
  (.seq (.ops [⟨some 30, none, .mv (.t 11)⟩,
    ⟨some 31, none, .mv (.t 2)⟩,
    ⟨some 32, none, .bin .rem (.t 31) (.c (.int .i64 4))⟩,
    ⟨some 33, none, .mv (.t 3)⟩,
    ⟨some 34, none, .call 160 [.t 30, .t 32, .t 33]⟩,
    ⟨some 12, none, .mv (.t 34)⟩])
  (.seq (.seq (.ops [⟨some 35, none, .mv (.t 12)⟩,
    ⟨some 36, none, .call 161 [.t 35]⟩])
  (.cond (.t 36)
   (.seq (.ops [⟨some 8, none, .mv (.c (.int .i64 (-1)))⟩,
     ⟨some 9, none, .mv (.c (.int .i64 0))⟩])
   (.ret))
   (.skip)))
  (.seq (.seq (.ops [⟨some 37, none, .mv (.t 10)⟩,
    ⟨some 38, none, .bin .geq (.t 37) (.c (.int .i64 0))⟩,
    ⟨some 39, none, .mv (.t 38)⟩,
    ⟨some 40, some (39, true), .mv (.t 0)⟩,
    ⟨some 41, some (39, true), .nilck (.t 40)⟩,
    ⟨some 42, some (39, true), .faddr 0 (.t 41)⟩,
    ⟨some 43, some (39, true), .load false 1 (.t 42)⟩,
    ⟨some 44, some (39, true), .mv (.t 10)⟩,
    ⟨some 45, some (39, true), .iaddr 3 (.t 43) (.t 44)⟩,
    ⟨some 46, some (39, true), .faddr 0 (.t 45)⟩,
    ⟨some 47, some (39, true), .load false 1 (.t 46)⟩,
    ⟨some 48, some (39, true), .bin .eql (.t 47) (.c (.int .i64 1))⟩,
    ⟨some 49, none, .pick (.t 39) (.t 48) (.c (.bool false))⟩,
    ⟨some 50, none, .mv (.t 49)⟩,
    ⟨some 51, some (50, true), .mv (.t 0)⟩,
    ⟨some 52, some (50, true), .nilck (.t 51)⟩,
    ⟨some 53, some (50, true), .faddr 0 (.t 52)⟩,
    ⟨some 54, some (50, true), .load false 1 (.t 53)⟩,
    ⟨some 55, some (50, true), .mv (.t 1)⟩,
    ⟨some 56, some (50, true), .iaddr 3 (.t 54) (.t 55)⟩,
    ⟨some 57, some (50, true), .faddr 0 (.t 56)⟩,
    ⟨some 58, some (50, true), .load false 1 (.t 57)⟩,
    ⟨some 59, some (50, true), .bin .eql (.t 58) (.c (.int .i64 1))⟩,
    ⟨some 60, none, .pick (.t 50) (.t 59) (.c (.bool false))⟩])
  (.cond (.t 60)
   (.seq (.seq (.ops [⟨some 61, none, .mv (.t 11)⟩,
     ⟨some 62, none, .mv (.t 2)⟩,
     ⟨some 63, none, .bin .rem (.t 62) (.c (.int .i64 4))⟩,
     ⟨some 64, none, .iaddr 1 (.t 61) (.t 63)⟩,
     ⟨some 65, none, .load false 1 (.t 64)⟩,
     ⟨some 13, none, .mv (.t 65)⟩])
   (.seq (.ops [⟨some 66, none, .mv (.t 13)⟩,
     ⟨some 67, none, .bin .geq (.t 66) (.c (.int .i64 0))⟩])
   (.cond (.t 67)
    (.ops [⟨some 68, none, .mv (.t 0)⟩,
      ⟨some 69, none, .nilck (.t 68)⟩,
      ⟨some 70, none, .faddr 1 (.t 69)⟩,
      ⟨some 71, none, .load false 1 (.t 70)⟩,
      ⟨some 72, none, .mv (.t 13)⟩,
      ⟨some 73, none, .call 86 [.t 71, .t 72]⟩])
    (.skip))))
   (.seq (.ops [⟨some 74, none, .mv (.t 0)⟩,
     ⟨some 75, none, .nilck (.t 74)⟩,
     ⟨some 76, none, .faddr 0 (.t 75)⟩,
     ⟨some 77, none, .load false 1 (.t 76)⟩,
     ⟨some 78, none, .mv (.t 10)⟩,
     ⟨some 79, none, .mv (.t 12)⟩,
     ⟨some 80, none, .iaddr 3 (.t 77) (.t 78)⟩,
     ⟨some 81, none, .faddr 2 (.t 80)⟩,
     ⟨none, none, .store 1 (.t 81) (.t 79)⟩])
   (.seq (.ops [⟨some 82, none, .mv (.t 10)⟩,
     ⟨some 8, none, .mv (.t 82)⟩,
     ⟨some 9, none, .mv (.c (.int .i64 0))⟩])
   (.ret))))
   (.skip)))
  (.seq (.ops [⟨some 83, none, .mv (.t 0)⟩,
    ⟨some 84, none, .mv (.t 12)⟩,
    ⟨some 85, none, .build [.int .i64 0, .bool false, .slice none 0 0] [(0, 1, .c (.int .i64 1)), (1, 1, .c (.bool true)), (2, 1, .t 84)]⟩,
    ⟨some 86, none, .call 162 [.t 83, .t 85]⟩,
    ⟨some 14, none, .mv (.t 86)⟩])
  (.seq (.seq (.ops [⟨some 87, none, .mv (.t 14)⟩,
    ⟨some 88, none, .bin .lss (.t 87) (.c (.int .i64 0))⟩,
    ⟨some 89, none, .mv (.t 88)⟩,
    ⟨some 90, some (89, false), .mv (.t 0)⟩,
    ⟨some 91, some (89, false), .mv (.t 12)⟩,
    ⟨some 92, some (89, false), .mv (.t 2)⟩,
    ⟨some 93, some (89, false), .bin .rem (.t 92) (.c (.int .i64 4))⟩,
    ⟨some 94, some (89, false), .call 163 [.t 90, .c (.bool true), .t 91, .t 93]⟩,
    ⟨some 95, some (89, false), .not (.t 94)⟩,
    ⟨some 96, none, .pick (.t 89) (.c (.bool true)) (.t 95)⟩])
  (.cond (.t 96)
   (.seq (.ops [⟨some 8, none, .mv (.c (.int .i64 (-1)))⟩,
     ⟨some 9, none, .mv (.c (.int .i64 2))⟩])
   (.ret))
   (.skip)))
  (.seq (.ops [⟨some 97, none, .mv (.t 14)⟩,
    ⟨some 8, none, .mv (.t 97)⟩,
    ⟨some 9, none, .mv (.c (.int .i64 0))⟩])
  (.ret))))))))))⟩
theorem ok151 : FnOK Try.prog 151 v151 := ⟨⟨Try.f151, _, Try.func151, rfl, by kernel_rfl, rfl, by decide, by kernel_rfl, by kernel_rfl⟩⟩
def env1 : Env := [(88, v88), (89, v89), (90, v90), (91, v91), (92, v92), (93, v93), (94, v94), (95, v95), (96, v96), (97, v97), (98, v98), (104, v104), (106, v106), (107, v107), (108, v108), (109, v109), (110, v110), (112, v112), (113, v113), (114, v114), (115, v115), (116, v116), (117, v117), (118, v118), (123, v123), (124, v124), (125, v125), (126, v126), (127, v127), (128, v128), (129, v129), (130, v130), (131, v131), (132, v132), (133, v133), (139, v139), (140, v140), (142, v142), (143, v143), (145, v145), (146, v146), (147, v147), (148, v148), (149, v149), (150, v150), (151, v151)]
theorem envOK1 : EnvOK Try.prog env1 := .cons ok88 (.cons ok89 (.cons ok90 (.cons ok91 (.cons ok92 (.cons ok93 (.cons ok94 (.cons ok95 (.cons ok96 (.cons ok97 (.cons ok98 (.cons ok104 (.cons ok106 (.cons ok107 (.cons ok108 (.cons ok109 (.cons ok110 (.cons ok112 (.cons ok113 (.cons ok114 (.cons ok115 (.cons ok116 (.cons ok117 (.cons ok118 (.cons ok123 (.cons ok124 (.cons ok125 (.cons ok126 (.cons ok127 (.cons ok128 (.cons ok129 (.cons ok130 (.cons ok131 (.cons ok132 (.cons ok133 (.cons ok139 (.cons ok140 (.cons ok142 (.cons ok143 (.cons ok145 (.cons ok146 (.cons ok147 (.cons ok148 (.cons ok149 (.cons ok150 (.cons ok151 (.nil))))))))))))))))))))))))))))))))))))))))))))))
end Go.Proofs.Ytmcljallamhccaa.V
