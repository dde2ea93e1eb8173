/- The machine's code of the program's functions; each is the program's own, by the kernel. Laid by a program (wip/v/vmgen.py). -/
import Derived.Test.YtflddpkmajoeaaaVMS
import Derived.Test.YtflddpkmajoeaaaProg
namespace Go.Proofs.Ytflddpkmajoeaaa.V
open Go
set_option maxRecDepth 100000
/-- impl.isKid -/
def v126 : VF := ⟨3, 51, [.t 6], true,
  .seq (.ops [⟨some 3, none, .box (.t 0)⟩,
    ⟨some 4, none, .box (.t 1)⟩,
    ⟨some 6, none, .mv (.c (.bool false))⟩])
  (.seq (.block 0 (.seq (.ops [⟨some 8, none, .mv (.t 2)⟩,
     ⟨some 9, none, .bin .eql (.t 8) (.c (.int .i64 (-1)))⟩,
     ⟨some 7, none, .mv (.t 9)⟩])
   (.cond (.t 7)
    (.seq (.ops [⟨some 6, none, .mv (.c (.bool true))⟩])
    (.ret))
    (.seq (.ops [⟨some 11, none, .faddr 1 (.t 4)⟩,
      ⟨some 12, none, .load false 1 (.t 11)⟩,
      ⟨some 10, none, .mv (.t 12)⟩])
    (.cond (.t 10)
     (.seq (.ops [⟨some 13, none, .mv (.t 2)⟩,
       ⟨some 14, none, .faddr 1 (.t 3)⟩,
       ⟨some 15, none, .load false 1 (.t 14)⟩,
       ⟨some 16, none, .len (.t 15)⟩,
       ⟨some 17, none, .bin .sub (.t 16) (.c (.int .i64 1))⟩,
       ⟨some 18, none, .call 55 [.t 13, .c (.int .i64 0), .t 17]⟩,
       ⟨some 19, none, .mv (.t 18)⟩,
       ⟨some 20, some (19, true), .faddr 1 (.t 3)⟩,
       ⟨some 21, some (19, true), .load false 1 (.t 20)⟩,
       ⟨some 22, some (19, true), .mv (.t 2)⟩,
       ⟨some 23, some (19, true), .iaddr 2 (.t 21) (.t 22)⟩,
       ⟨some 24, some (19, true), .faddr 0 (.t 23)⟩,
       ⟨some 25, some (19, true), .load false 1 (.t 24)⟩,
       ⟨some 26, some (19, true), .bin .gtr (.t 25) (.c (.int .i64 0))⟩,
       ⟨some 27, none, .pick (.t 19) (.t 26) (.c (.bool false))⟩,
       ⟨some 6, none, .mv (.t 27)⟩])
     (.ret))
     (.skip))))))
  (.seq (.ops [⟨some 28, none, .mv (.t 2)⟩,
    ⟨some 29, none, .faddr 0 (.t 3)⟩,
    ⟨some 30, none, .load false 1 (.t 29)⟩,
    ⟨some 31, none, .len (.t 30)⟩,
    ⟨some 32, none, .bin .sub (.t 31) (.c (.int .i64 1))⟩,
    ⟨some 33, none, .call 55 [.t 28, .c (.int .i64 0), .t 32]⟩,
    ⟨some 34, none, .mv (.t 33)⟩,
    ⟨some 35, some (34, true), .faddr 0 (.t 3)⟩,
    ⟨some 36, some (34, true), .load false 1 (.t 35)⟩,
    ⟨some 37, some (34, true), .mv (.t 2)⟩,
    ⟨some 38, some (34, true), .iaddr 3 (.t 36) (.t 37)⟩,
    ⟨some 39, some (34, true), .faddr 1 (.t 38)⟩,
    ⟨some 40, some (34, true), .load false 1 (.t 39)⟩,
    ⟨some 41, none, .pick (.t 34) (.t 40) (.c (.bool false))⟩,
    ⟨some 42, none, .mv (.t 41)⟩,
    ⟨some 43, some (42, true), .faddr 0 (.t 3)⟩,
    ⟨some 44, some (42, true), .load false 1 (.t 43)⟩,
    ⟨some 45, some (42, true), .mv (.t 2)⟩,
    ⟨some 46, some (42, true), .iaddr 3 (.t 44) (.t 45)⟩,
    ⟨some 47, some (42, true), .faddr 0 (.t 46)⟩,
    ⟨some 48, some (42, true), .load false 1 (.t 47)⟩,
    ⟨some 49, some (42, true), .bin .gtr (.t 48) (.c (.int .i64 0))⟩,
    ⟨some 50, none, .pick (.t 42) (.t 49) (.c (.bool false))⟩,
    ⟨some 6, none, .mv (.t 50)⟩])
  (.ret)))⟩
theorem ok126 : FnOK Try.prog 126 v126 := ⟨⟨Try.f126, _, Try.func126, rfl, by kernel_rfl, rfl, by decide, by kernel_rfl, by kernel_rfl⟩⟩

/-- impl.Forest).walk -/
def l127_0 : VC :=
  .seq (.ops [⟨some 10, none, .bin .lss (.t 9) (.c (.int .i64 16))⟩])
  (.seq (.cond (.t 10)
   (.skip)
   (.exit 0))
  (.seq (.block 1 (.seq (.ops [⟨some 11, none, .mv (.t 9)⟩,
     ⟨some 6, none, .mv (.t 11)⟩])
   (.seq (.ops [⟨some 12, none, .mv (.t 0)⟩,
     ⟨some 13, none, .mv (.t 1)⟩,
     ⟨some 14, none, .mv (.t 6)⟩,
     ⟨some 15, none, .call 158 [.t 12, .t 13, .t 14]⟩,
     ⟨some 7, none, .mv (.t 15)⟩])
   (.seq (.ops [⟨some 16, none, .mv (.t 7)⟩,
     ⟨some 17, none, .bin .neq (.t 16) (.c (.int .i64 (-1)))⟩])
   (.cond (.t 17)
    (.ops [⟨some 18, none, .mv (.t 5)⟩,
      ⟨some 19, none, .mv (.t 6)⟩,
      ⟨some 20, none, .mv (.t 0)⟩,
      ⟨some 21, none, .nilck (.t 20)⟩,
      ⟨some 22, none, .faddr 1 (.t 21)⟩,
      ⟨some 23, none, .load false 1 (.t 22)⟩,
      ⟨some 24, none, .mv (.t 7)⟩,
      ⟨some 25, none, .iaddr 2 (.t 23) (.t 24)⟩,
      ⟨some 26, none, .faddr 1 (.t 25)⟩,
      ⟨some 27, none, .load false 1 (.t 26)⟩,
      ⟨some 28, none, .bslice 1 [.int .i64 0, .int .i64 0] 2 [(0, 1, .t 19), (1, 1, .t 27)]⟩,
      ⟨some 29, none, .append 1 8 (.t 18) (.t 28)⟩,
      ⟨some 5, none, .mv (.t 29)⟩])
    (.skip))))))
  (.ops [⟨some 30, none, .bin .add (.t 9) (.c (.int .i64 1))⟩,
    ⟨some 9, none, .mv (.t 30)⟩])))
def v127 : VF := ⟨2, 32, [.t 4], true,
  .seq (.ops [⟨some 4, none, .mv (.c (.slice none 0 0))⟩])
  (.seq (.ops [⟨some 8, none, .bslice 1 [] 0 []⟩,
    ⟨some 5, none, .mv (.t 8)⟩])
  (.seq (.seq (.ops [⟨some 9, none, .mv (.c (.int .i64 0))⟩])
  (.block 0 (.loop [0, 1, 5, 9] [4, 5] l127_0)))
  (.seq (.ops [⟨some 31, none, .mv (.t 5)⟩,
    ⟨some 4, none, .mv (.t 31)⟩])
  (.ret))))⟩
theorem ok127 : FnOK Try.prog 127 v127 := ⟨⟨Try.f127, _, Try.func127, rfl, by kernel_rfl, rfl, by decide, by kernel_rfl, by kernel_rfl⟩⟩

/-- impl.Vol] -/
def l128_0 : VC :=
  .seq (.ops [⟨some 9, none, .bin .lss (.t 8) (.t 7)⟩])
  (.seq (.cond (.t 9)
   (.skip)
   (.exit 0))
  (.seq (.block 1 (.seq (.ops [⟨some 10, none, .mv (.t 8)⟩,
     ⟨some 5, none, .mv (.t 10)⟩])
   (.seq (.ops [⟨some 11, none, .mv (.t 1)⟩,
     ⟨some 12, none, .mv (.t 0)⟩,
     ⟨some 13, none, .mv (.t 5)⟩,
     ⟨some 14, none, .iaddr 3 (.t 12) (.t 13)⟩,
     ⟨some 15, none, .load true 3 (.t 14)⟩,
     ⟨some 16, none, .callv (.t 11) [.t 15]⟩])
   (.cond (.t 16)
    (.seq (.ops [⟨some 17, none, .mv (.t 5)⟩,
      ⟨some 4, none, .mv (.t 17)⟩])
    (.ret))
    (.skip)))))
  (.ops [⟨some 18, none, .bin .add (.t 8) (.c (.int .i64 1))⟩,
    ⟨some 8, none, .mv (.t 18)⟩])))
def v128 : VF := ⟨2, 19, [.t 4], true,
  .seq (.ops [⟨some 4, none, .mv (.c (.int .i64 0))⟩])
  (.seq (.seq (.ops [⟨some 6, none, .mv (.t 0)⟩,
    ⟨some 7, none, .len (.t 6)⟩,
    ⟨some 8, none, .mv (.c (.int .i64 0))⟩])
  (.block 0 (.loop [0, 1, 7, 8] [4] l128_0)))
  (.seq (.ops [⟨some 4, none, .mv (.c (.int .i64 (-1)))⟩])
  (.ret)))⟩
theorem ok128 : FnOK Try.prog 128 v128 := ⟨⟨Try.f128, _, Try.func128, rfl, by kernel_rfl, rfl, by decide, by kernel_rfl, by kernel_rfl⟩⟩

/-- impl.volAt$1 -/
def v129 : VF := ⟨2, 8, [.t 3], true,
  .seq (.ops [⟨some 2, none, .box (.t 0)⟩,
    ⟨some 3, none, .mv (.c (.bool false))⟩])
  (.seq (.ops [⟨some 4, none, .faddr 0 (.t 2)⟩,
    ⟨some 5, none, .load false 1 (.t 4)⟩,
    ⟨some 6, none, .load false 1 (.t 1)⟩,
    ⟨some 7, none, .bin .eql (.t 5) (.t 6)⟩,
    ⟨some 3, none, .mv (.t 7)⟩])
  (.ret))⟩
theorem ok129 : FnOK Try.prog 129 v129 := ⟨⟨Try.f129, _, Try.func129, rfl, by kernel_rfl, rfl, by decide, by kernel_rfl, by kernel_rfl⟩⟩

/-- spec.l4Walk -/
def l130_0 : VC :=
  .seq (.seq (.ops [⟨some 9, none, .mv (.t 6)⟩,
    ⟨some 10, none, .bin .lss (.t 9) (.c (.int .i64 16))⟩])
  (.cond (.t 10)
   (.skip)
   (.exit 0)))
  (.seq (.block 1 (.seq (.ops [⟨some 13, none, .mv (.t 0)⟩,
     ⟨some 14, none, .mv (.t 1)⟩,
     ⟨some 15, none, .mv (.t 6)⟩,
     ⟨some 16, none, .call 159 [.t 13, .t 14, .t 15]⟩,
     ⟨some 7, none, .mv (.t 16)⟩])
   (.seq (.ops [⟨some 17, none, .mv (.t 7)⟩,
     ⟨some 18, none, .bin .geq (.t 17) (.c (.int .i64 0))⟩])
   (.cond (.t 18)
    (.ops [⟨some 19, none, .mv (.t 5)⟩,
      ⟨some 20, none, .mv (.t 6)⟩,
      ⟨some 21, none, .mv (.t 0)⟩,
      ⟨some 22, none, .nilck (.t 21)⟩,
      ⟨some 23, none, .faddr 1 (.t 22)⟩,
      ⟨some 24, none, .load false 1 (.t 23)⟩,
      ⟨some 25, none, .mv (.t 7)⟩,
      ⟨some 26, none, .iaddr 2 (.t 24) (.t 25)⟩,
      ⟨some 27, none, .faddr 1 (.t 26)⟩,
      ⟨some 28, none, .load false 1 (.t 27)⟩,
      ⟨some 29, none, .bslice 1 [.int .i64 0, .int .i64 0] 2 [(0, 1, .t 20), (1, 1, .t 28)]⟩,
      ⟨some 30, none, .append 1 8 (.t 19) (.t 29)⟩,
      ⟨some 5, none, .mv (.t 30)⟩])
    (.skip)))))
  (.ops [⟨some 11, none, .mv (.t 6)⟩,
    ⟨some 12, none, .bin .add (.t 11) (.c (.int .i64 1))⟩,
    ⟨some 6, none, .mv (.t 12)⟩]))
def v130 : VF := ⟨2, 32, [.t 4], true,
  .seq (.ops [⟨some 4, none, .mv (.c (.slice none 0 0))⟩])
  (.seq (.ops [⟨some 8, none, .bslice 1 [] 0 []⟩,
    ⟨some 5, none, .mv (.t 8)⟩])
  (.seq (.seq (.ops [⟨some 6, none, .mv (.c (.int .i64 0))⟩])
  (.block 0 (.loop [0, 1, 5, 6] [4, 5] l130_0)))
  (.seq (.ops [⟨some 31, none, .mv (.t 5)⟩,
    ⟨some 4, none, .mv (.t 31)⟩])
  (.ret))))⟩
theorem ok130 : FnOK Try.prog 130 v130 := ⟨⟨Try.f130, _, Try.func130, rfl, by kernel_rfl, rfl, by decide, by kernel_rfl, by kernel_rfl⟩⟩

/-- spec.l3Count -/
def l131_0 : VC :=
  .seq (.seq (.ops [⟨some 5, none, .mv (.t 4)⟩,
    ⟨some 6, none, .mv (.t 0)⟩,
    ⟨some 7, none, .len (.t 6)⟩,
    ⟨some 8, none, .bin .lss (.t 5) (.t 7)⟩])
  (.cond (.t 8)
   (.skip)
   (.exit 0)))
  (.seq (.block 1 (.seq (.ops [⟨some 11, none, .mv (.t 0)⟩,
     ⟨some 12, none, .mv (.t 4)⟩,
     ⟨some 13, none, .iaddr 2 (.t 11) (.t 12)⟩,
     ⟨some 14, none, .faddr 0 (.t 13)⟩,
     ⟨some 15, none, .load false 1 (.t 14)⟩,
     ⟨some 16, none, .bin .eql (.t 15) (.c (.int .i64 0))⟩])
   (.cond (.t 16)
    (.ops [⟨some 17, none, .mv (.t 3)⟩,
      ⟨some 18, none, .bin .add (.t 17) (.c (.int .i64 1))⟩,
      ⟨some 3, none, .mv (.t 18)⟩])
    (.skip))))
  (.ops [⟨some 9, none, .mv (.t 4)⟩,
    ⟨some 10, none, .bin .add (.t 9) (.c (.int .i64 1))⟩,
    ⟨some 4, none, .mv (.t 10)⟩]))
def v131 : VF := ⟨1, 20, [.t 2], true,
  .seq (.ops [⟨some 2, none, .mv (.c (.int .i64 0))⟩])
  (.seq (.ops [⟨some 3, none, .mv (.c (.int .i64 0))⟩])
  (.seq (.seq (.ops [⟨some 4, none, .mv (.c (.int .i64 0))⟩])
  (.block 0 (.loop [0, 3, 4] [2, 3] l131_0)))
  (.seq (.ops [⟨some 19, none, .mv (.t 3)⟩,
    ⟨some 2, none, .mv (.t 19)⟩])
  (.ret))))⟩
theorem ok131 : FnOK Try.prog 131 v131 := ⟨⟨Try.f131, _, Try.func131, rfl, by kernel_rfl, rfl, by decide, by kernel_rfl, by kernel_rfl⟩⟩

/-- laws.markNodeS -/
def l132_0 : VC :=
  .seq (.seq (.ops [⟨some 6, none, .mv (.t 5)⟩,
    ⟨some 7, none, .mv (.t 0)⟩,
    ⟨some 8, none, .len (.t 7)⟩,
    ⟨some 9, none, .bin .lss (.t 6) (.t 8)⟩])
  (.cond (.t 9)
   (.skip)
   (.exit 0)))
  (.seq (.block 1 (.seq (.ops [⟨some 12, none, .mv (.t 0)⟩,
     ⟨some 13, none, .mv (.t 5)⟩,
     ⟨some 14, none, .mv (.t 1)⟩,
     ⟨some 15, none, .iaddr 3 (.t 12) (.t 13)⟩,
     ⟨some 16, none, .faddr 0 (.t 15)⟩,
     ⟨none, none, .store 1 (.t 16) (.t 14)⟩])
   (.seq (.ops [⟨some 17, none, .mv (.t 1)⟩,
     ⟨some 18, none, .bin .add (.t 17) (.c (.int .i64 1))⟩,
     ⟨some 1, none, .mv (.t 18)⟩])
   (.seq (.ops [⟨some 19, none, .mv (.t 0)⟩,
     ⟨some 20, none, .mv (.t 5)⟩,
     ⟨some 21, none, .mv (.t 1)⟩,
     ⟨some 22, none, .bin .rem (.t 21) (.c (.int .i64 3))⟩,
     ⟨some 23, none, .bin .eql (.t 22) (.c (.int .i64 0))⟩,
     ⟨some 24, none, .iaddr 3 (.t 19) (.t 20)⟩,
     ⟨some 25, none, .faddr 1 (.t 24)⟩,
     ⟨none, none, .store 1 (.t 25) (.t 23)⟩])
   (.seq (.ops [⟨some 26, none, .mv (.t 1)⟩,
     ⟨some 27, none, .bin .add (.t 26) (.c (.int .i64 1))⟩,
     ⟨some 1, none, .mv (.t 27)⟩])
   (.ops [⟨some 28, none, .mv (.t 0)⟩,
     ⟨some 29, none, .mv (.t 5)⟩,
     ⟨some 30, none, .iaddr 3 (.t 28) (.t 29)⟩,
     ⟨some 31, none, .faddr 2 (.t 30)⟩,
     ⟨some 32, none, .load false 1 (.t 31)⟩,
     ⟨some 33, none, .mv (.t 1)⟩,
     ⟨some 34, none, .call 18 [.t 32, .t 33]⟩,
     ⟨some 1, none, .mv (.t 34)⟩]))))))
  (.ops [⟨some 10, none, .mv (.t 5)⟩,
    ⟨some 11, none, .bin .add (.t 10) (.c (.int .i64 1))⟩,
    ⟨some 5, none, .mv (.t 11)⟩]))
def v132 : VF := ⟨2, 36, [.t 4], false,
  .seq (.ops [⟨some 4, none, .mv (.c (.int .i64 0))⟩])
  (.seq (.seq (.ops [⟨some 5, none, .mv (.c (.int .i64 0))⟩])
  (.block 0 (.loop [0, 1, 5] [1, 4] l132_0)))
  (.seq (.ops [⟨some 35, none, .mv (.t 1)⟩,
    ⟨some 4, none, .mv (.t 35)⟩])
  (.ret)))⟩
theorem ok132 : FnOK Try.prog 132 v132 := ⟨⟨Try.f132, _, Try.func132, rfl, by kernel_rfl, rfl, by decide, by kernel_rfl, by kernel_rfl⟩⟩

/-- laws.markBlockS -/
def l133_0 : VC :=
  .seq (.seq (.ops [⟨some 6, none, .mv (.t 5)⟩,
    ⟨some 7, none, .mv (.t 0)⟩,
    ⟨some 8, none, .len (.t 7)⟩,
    ⟨some 9, none, .bin .lss (.t 6) (.t 8)⟩])
  (.cond (.t 9)
   (.skip)
   (.exit 0)))
  (.seq (.block 1 (.seq (.ops [⟨some 12, none, .mv (.t 0)⟩,
     ⟨some 13, none, .mv (.t 5)⟩,
     ⟨some 14, none, .mv (.t 1)⟩,
     ⟨some 15, none, .iaddr 2 (.t 12) (.t 13)⟩,
     ⟨some 16, none, .faddr 0 (.t 15)⟩,
     ⟨none, none, .store 1 (.t 16) (.t 14)⟩])
   (.seq (.ops [⟨some 17, none, .mv (.t 1)⟩,
     ⟨some 18, none, .bin .add (.t 17) (.c (.int .i64 1))⟩,
     ⟨some 1, none, .mv (.t 18)⟩])
   (.seq (.ops [⟨some 19, none, .mv (.t 0)⟩,
     ⟨some 20, none, .mv (.t 5)⟩,
     ⟨some 21, none, .mv (.t 1)⟩,
     ⟨some 22, none, .iaddr 2 (.t 19) (.t 20)⟩,
     ⟨some 23, none, .faddr 1 (.t 22)⟩,
     ⟨none, none, .store 1 (.t 23) (.t 21)⟩])
   (.ops [⟨some 24, none, .mv (.t 1)⟩,
     ⟨some 25, none, .bin .add (.t 24) (.c (.int .i64 1))⟩,
     ⟨some 1, none, .mv (.t 25)⟩])))))
  (.ops [⟨some 10, none, .mv (.t 5)⟩,
    ⟨some 11, none, .bin .add (.t 10) (.c (.int .i64 1))⟩,
    ⟨some 5, none, .mv (.t 11)⟩]))
def v133 : VF := ⟨2, 27, [.t 4], false,
  .seq (.ops [⟨some 4, none, .mv (.c (.int .i64 0))⟩])
  (.seq (.seq (.ops [⟨some 5, none, .mv (.c (.int .i64 0))⟩])
  (.block 0 (.loop [0, 1, 5] [1, 4] l133_0)))
  (.seq (.ops [⟨some 26, none, .mv (.t 1)⟩,
    ⟨some 4, none, .mv (.t 26)⟩])
  (.ret)))⟩
theorem ok133 : FnOK Try.prog 133 v133 := ⟨⟨Try.f133, _, Try.func133, rfl, by kernel_rfl, rfl, by decide, by kernel_rfl, by kernel_rfl⟩⟩

/-- laws.markCellS -/
def l134_0 : VC :=
  .seq (.seq (.ops [⟨some 6, none, .mv (.t 5)⟩,
    ⟨some 7, none, .mv (.t 0)⟩,
    ⟨some 8, none, .len (.t 7)⟩,
    ⟨some 9, none, .bin .lss (.t 6) (.t 8)⟩])
  (.cond (.t 9)
   (.skip)
   (.exit 0)))
  (.seq (.block 1 (.seq (.ops [⟨some 12, none, .mv (.t 0)⟩,
     ⟨some 13, none, .mv (.t 5)⟩,
     ⟨some 14, none, .mv (.t 1)⟩,
     ⟨some 15, none, .iaddr 3 (.t 12) (.t 13)⟩,
     ⟨some 16, none, .faddr 0 (.t 15)⟩,
     ⟨none, none, .store 1 (.t 16) (.t 14)⟩])
   (.seq (.ops [⟨some 17, none, .mv (.t 1)⟩,
     ⟨some 18, none, .bin .add (.t 17) (.c (.int .i64 1))⟩,
     ⟨some 1, none, .mv (.t 18)⟩])
   (.seq (.ops [⟨some 19, none, .mv (.t 0)⟩,
     ⟨some 20, none, .mv (.t 5)⟩,
     ⟨some 21, none, .mv (.t 1)⟩,
     ⟨some 22, none, .iaddr 3 (.t 19) (.t 20)⟩,
     ⟨some 23, none, .faddr 1 (.t 22)⟩,
     ⟨none, none, .store 1 (.t 23) (.t 21)⟩])
   (.seq (.ops [⟨some 24, none, .mv (.t 1)⟩,
     ⟨some 25, none, .bin .add (.t 24) (.c (.int .i64 1))⟩,
     ⟨some 1, none, .mv (.t 25)⟩])
   (.seq (.ops [⟨some 26, none, .mv (.t 0)⟩,
     ⟨some 27, none, .mv (.t 5)⟩,
     ⟨some 28, none, .mv (.t 1)⟩,
     ⟨some 29, none, .iaddr 3 (.t 26) (.t 27)⟩,
     ⟨some 30, none, .faddr 2 (.t 29)⟩,
     ⟨none, none, .store 1 (.t 30) (.t 28)⟩])
   (.ops [⟨some 31, none, .mv (.t 1)⟩,
     ⟨some 32, none, .bin .add (.t 31) (.c (.int .i64 1))⟩,
     ⟨some 1, none, .mv (.t 32)⟩])))))))
  (.ops [⟨some 10, none, .mv (.t 5)⟩,
    ⟨some 11, none, .bin .add (.t 10) (.c (.int .i64 1))⟩,
    ⟨some 5, none, .mv (.t 11)⟩]))
def v134 : VF := ⟨2, 34, [.t 4], false,
  .seq (.ops [⟨some 4, none, .mv (.c (.int .i64 0))⟩])
  (.seq (.seq (.ops [⟨some 5, none, .mv (.c (.int .i64 0))⟩])
  (.block 0 (.loop [0, 1, 5] [1, 4] l134_0)))
  (.seq (.ops [⟨some 33, none, .mv (.t 1)⟩,
    ⟨some 4, none, .mv (.t 33)⟩])
  (.ret)))⟩
theorem ok134 : FnOK Try.prog 134 v134 := ⟨⟨Try.f134, _, Try.func134, rfl, by kernel_rfl, rfl, by decide, by kernel_rfl, by kernel_rfl⟩⟩

/-- laws.heldVolS -/
def l135_0 : VC :=
  .seq (.seq (.ops [⟨some 6, none, .mv (.t 5)⟩,
    ⟨some 7, none, .mv (.t 0)⟩,
    ⟨some 8, none, .len (.t 7)⟩,
    ⟨some 9, none, .bin .lss (.t 6) (.t 8)⟩])
  (.cond (.t 9)
   (.skip)
   (.exit 0)))
  (.seq (.block 1 (.seq (.seq (.ops [⟨some 12, none, .mv (.t 0)⟩,
     ⟨some 13, none, .mv (.t 5)⟩,
     ⟨some 14, none, .iaddr 3 (.t 12) (.t 13)⟩,
     ⟨some 15, none, .faddr 0 (.t 14)⟩,
     ⟨some 16, none, .load false 1 (.t 15)⟩,
     ⟨some 17, none, .mv (.t 1)⟩,
     ⟨some 18, none, .bin .neq (.t 16) (.t 17)⟩])
   (.cond (.t 18)
    (.seq (.ops [⟨some 4, none, .mv (.c (.int .i64 (-1)))⟩])
    (.ret))
    (.skip)))
   (.seq (.ops [⟨some 19, none, .mv (.t 1)⟩,
     ⟨some 20, none, .bin .add (.t 19) (.c (.int .i64 1))⟩,
     ⟨some 1, none, .mv (.t 20)⟩])
   (.seq (.seq (.ops [⟨some 21, none, .mv (.t 0)⟩,
     ⟨some 22, none, .mv (.t 5)⟩,
     ⟨some 23, none, .iaddr 3 (.t 21) (.t 22)⟩,
     ⟨some 24, none, .faddr 1 (.t 23)⟩,
     ⟨some 25, none, .load false 1 (.t 24)⟩,
     ⟨some 26, none, .mv (.t 1)⟩,
     ⟨some 27, none, .bin .neq (.t 25) (.t 26)⟩])
   (.cond (.t 27)
    (.seq (.ops [⟨some 4, none, .mv (.c (.int .i64 (-1)))⟩])
    (.ret))
    (.skip)))
   (.seq (.ops [⟨some 28, none, .mv (.t 1)⟩,
     ⟨some 29, none, .bin .add (.t 28) (.c (.int .i64 1))⟩,
     ⟨some 1, none, .mv (.t 29)⟩])
   (.seq (.seq (.ops [⟨some 30, none, .mv (.t 0)⟩,
     ⟨some 31, none, .mv (.t 5)⟩,
     ⟨some 32, none, .iaddr 3 (.t 30) (.t 31)⟩,
     ⟨some 33, none, .faddr 2 (.t 32)⟩,
     ⟨some 34, none, .load false 1 (.t 33)⟩,
     ⟨some 35, none, .mv (.t 1)⟩,
     ⟨some 36, none, .bin .neq (.t 34) (.t 35)⟩])
   (.cond (.t 36)
    (.seq (.ops [⟨some 4, none, .mv (.c (.int .i64 (-1)))⟩])
    (.ret))
    (.skip)))
   (.ops [⟨some 37, none, .mv (.t 1)⟩,
     ⟨some 38, none, .bin .add (.t 37) (.c (.int .i64 1))⟩,
     ⟨some 1, none, .mv (.t 38)⟩])))))))
  (.ops [⟨some 10, none, .mv (.t 5)⟩,
    ⟨some 11, none, .bin .add (.t 10) (.c (.int .i64 1))⟩,
    ⟨some 5, none, .mv (.t 11)⟩]))
def v135 : VF := ⟨2, 40, [.t 4], true,
  .seq (.ops [⟨some 4, none, .mv (.c (.int .i64 0))⟩])
  (.seq (.seq (.ops [⟨some 5, none, .mv (.c (.int .i64 0))⟩])
  (.block 0 (.loop [0, 1, 5] [1, 4] l135_0)))
  (.seq (.ops [⟨some 39, none, .mv (.t 1)⟩,
    ⟨some 4, none, .mv (.t 39)⟩])
  (.ret)))⟩
theorem ok135 : FnOK Try.prog 135 v135 := ⟨⟨Try.f135, _, Try.func135, rfl, by kernel_rfl, rfl, by decide, by kernel_rfl, by kernel_rfl⟩⟩

/-- laws.heldCellS -/
def l136_0 : VC :=
  .seq (.seq (.ops [⟨some 6, none, .mv (.t 5)⟩,
    ⟨some 7, none, .mv (.t 0)⟩,
    ⟨some 8, none, .len (.t 7)⟩,
    ⟨some 9, none, .bin .lss (.t 6) (.t 8)⟩])
  (.cond (.t 9)
   (.skip)
   (.exit 0)))
  (.seq (.block 1 (.seq (.seq (.ops [⟨some 12, none, .mv (.t 0)⟩,
     ⟨some 13, none, .mv (.t 5)⟩,
     ⟨some 14, none, .iaddr 3 (.t 12) (.t 13)⟩,
     ⟨some 15, none, .faddr 0 (.t 14)⟩,
     ⟨some 16, none, .load false 1 (.t 15)⟩,
     ⟨some 17, none, .mv (.t 1)⟩,
     ⟨some 18, none, .bin .neq (.t 16) (.t 17)⟩])
   (.cond (.t 18)
    (.seq (.ops [⟨some 4, none, .mv (.c (.int .i64 (-1)))⟩])
    (.ret))
    (.skip)))
   (.seq (.ops [⟨some 19, none, .mv (.t 1)⟩,
     ⟨some 20, none, .bin .add (.t 19) (.c (.int .i64 1))⟩,
     ⟨some 1, none, .mv (.t 20)⟩])
   (.seq (.seq (.ops [⟨some 21, none, .mv (.t 0)⟩,
     ⟨some 22, none, .mv (.t 5)⟩,
     ⟨some 23, none, .iaddr 3 (.t 21) (.t 22)⟩,
     ⟨some 24, none, .faddr 1 (.t 23)⟩,
     ⟨some 25, none, .load false 1 (.t 24)⟩,
     ⟨some 26, none, .mv (.t 1)⟩,
     ⟨some 27, none, .bin .neq (.t 25) (.t 26)⟩])
   (.cond (.t 27)
    (.seq (.ops [⟨some 4, none, .mv (.c (.int .i64 (-1)))⟩])
    (.ret))
    (.skip)))
   (.seq (.ops [⟨some 28, none, .mv (.t 1)⟩,
     ⟨some 29, none, .bin .add (.t 28) (.c (.int .i64 1))⟩,
     ⟨some 1, none, .mv (.t 29)⟩])
   (.seq (.seq (.ops [⟨some 30, none, .mv (.t 0)⟩,
     ⟨some 31, none, .mv (.t 5)⟩,
     ⟨some 32, none, .iaddr 3 (.t 30) (.t 31)⟩,
     ⟨some 33, none, .faddr 2 (.t 32)⟩,
     ⟨some 34, none, .load false 1 (.t 33)⟩,
     ⟨some 35, none, .mv (.t 1)⟩,
     ⟨some 36, none, .bin .neq (.t 34) (.t 35)⟩])
   (.cond (.t 36)
    (.seq (.ops [⟨some 4, none, .mv (.c (.int .i64 (-1)))⟩])
    (.ret))
    (.skip)))
   (.ops [⟨some 37, none, .mv (.t 1)⟩,
     ⟨some 38, none, .bin .add (.t 37) (.c (.int .i64 1))⟩,
     ⟨some 1, none, .mv (.t 38)⟩])))))))
  (.ops [⟨some 10, none, .mv (.t 5)⟩,
    ⟨some 11, none, .bin .add (.t 10) (.c (.int .i64 1))⟩,
    ⟨some 5, none, .mv (.t 11)⟩]))
def v136 : VF := ⟨2, 40, [.t 4], true,
  .seq (.ops [⟨some 4, none, .mv (.c (.int .i64 0))⟩])
  (.seq (.seq (.ops [⟨some 5, none, .mv (.c (.int .i64 0))⟩])
  (.block 0 (.loop [0, 1, 5] [1, 4] l136_0)))
  (.seq (.ops [⟨some 39, none, .mv (.t 1)⟩,
    ⟨some 4, none, .mv (.t 39)⟩])
  (.ret)))⟩
theorem ok136 : FnOK Try.prog 136 v136 := ⟨⟨Try.f136, _, Try.func136, rfl, by kernel_rfl, rfl, by decide, by kernel_rfl, by kernel_rfl⟩⟩

/-- spec.l6Cells -/
def l137_0 : VC :=
  .seq (.seq (.ops [⟨some 5, none, .mv (.t 3)⟩,
    ⟨some 6, none, .mv (.t 0)⟩,
    ⟨some 7, none, .nilck (.t 6)⟩,
    ⟨some 8, none, .faddr 2 (.t 7)⟩,
    ⟨some 9, none, .load false 1 (.t 8)⟩,
    ⟨some 10, none, .len (.t 9)⟩,
    ⟨some 11, none, .bin .lss (.t 5) (.t 10)⟩])
  (.cond (.t 11)
   (.skip)
   (.exit 0)))
  (.seq (.block 1 (.seq (.ops [⟨some 14, none, .mv (.t 0)⟩,
     ⟨some 15, none, .nilck (.t 14)⟩,
     ⟨some 16, none, .faddr 2 (.t 15)⟩,
     ⟨some 17, none, .load false 1 (.t 16)⟩,
     ⟨some 18, none, .mv (.t 3)⟩,
     ⟨some 19, none, .iaddr 3 (.t 17) (.t 18)⟩,
     ⟨some 20, none, .load true 3 (.t 19)⟩,
     ⟨some 4, none, .new [.int .i64 0, .int .i64 0, .int .i64 0]⟩,
     ⟨none, none, .store 3 (.t 4) (.t 20)⟩])
   (.seq (.seq (.ops [⟨some 21, none, .faddr 1 (.t 4)⟩,
     ⟨some 22, none, .load false 1 (.t 21)⟩,
     ⟨some 23, none, .call 102 [.t 22]⟩,
     ⟨some 24, none, .not (.t 23)⟩,
     ⟨some 25, none, .mv (.t 24)⟩,
     ⟨some 26, some (25, false), .faddr 2 (.t 4)⟩,
     ⟨some 27, some (25, false), .load false 1 (.t 26)⟩,
     ⟨some 28, some (25, false), .call 103 [.t 27]⟩,
     ⟨some 29, some (25, false), .not (.t 28)⟩,
     ⟨some 30, none, .pick (.t 25) (.c (.bool true)) (.t 29)⟩])
   (.cond (.t 30)
    (.seq (.ops [⟨some 2, none, .mv (.c (.int .i64 3))⟩])
    (.ret))
    (.skip)))
   (.seq (.seq (.ops [⟨some 31, none, .mv (.t 0)⟩,
     ⟨some 32, none, .faddr 0 (.t 4)⟩,
     ⟨some 33, none, .load false 1 (.t 32)⟩,
     ⟨some 34, none, .call 160 [.t 31, .t 33]⟩,
     ⟨some 35, none, .bin .lss (.t 34) (.c (.int .i64 0))⟩])
   (.cond (.t 35)
    (.seq (.ops [⟨some 2, none, .mv (.c (.int .i64 4))⟩])
    (.ret))
    (.skip)))
   (.seq (.draw [⟨some 36, none, .mv (.t 3)⟩,
     ⟨some 37, none, .bin .gtr (.t 36) (.c (.int .i64 0))⟩,
     ⟨some 38, none, .mv (.t 37)⟩,
     ⟨some 39, some (38, true), .mv (.t 0)⟩,
     ⟨some 40, some (38, true), .nilck (.t 39)⟩,
     ⟨some 41, some (38, true), .faddr 2 (.t 40)⟩,
     ⟨some 42, some (38, true), .load false 1 (.t 41)⟩,
     ⟨some 43, some (38, true), .mv (.t 3)⟩,
     ⟨some 44, some (38, true), .bin .sub (.t 43) (.c (.int .i64 1))⟩,
     ⟨some 45, some (38, true), .iaddr 3 (.t 42) (.t 44)⟩,
     ⟨some 46, some (38, true), .load true 3 (.t 45)⟩,
     ⟨some 47, some (38, true), .load true 3 (.t 4)⟩] [⟨some 48, some (38, true), .call 161 [.t 46, .t 47]⟩,
     ⟨some 49, some (38, true), .not (.t 48)⟩,
     ⟨some 50, none, .pick (.t 38) (.t 49) (.c (.bool false))⟩])
   (.cond (.t 50)
    (.seq (.ops [⟨some 2, none, .mv (.c (.int .i64 1))⟩])
    (.ret))
    (.skip)))))))
  (.ops [⟨some 12, none, .mv (.t 3)⟩,
    ⟨some 13, none, .bin .add (.t 12) (.c (.int .i64 1))⟩,
    ⟨some 3, none, .mv (.t 13)⟩]))
def v137 : VF := ⟨1, 51, [.t 2], true,
  .seq (.ops [⟨some 2, none, .mv (.c (.int .i64 0))⟩])
  (.seq (.seq (.ops [⟨some 3, none, .mv (.c (.int .i64 0))⟩])
  (.block 0 (.loop [0, 3] [2] l137_0)))
  (.seq (.ops [⟨some 2, none, .mv (.c (.int .i64 0))⟩])
  (.ret)))⟩
theorem ok137 : FnOK Try.prog 137 v137 := ⟨⟨Try.f137, _, Try.func137, rfl, by kernel_rfl, rfl, by decide, by kernel_rfl, by kernel_rfl⟩⟩

/-- spec.l6Count -/
def l138_0 : VC :=
  .seq (.seq (.ops [⟨some 7, none, .mv (.t 6)⟩,
    ⟨some 8, none, .mv (.t 0)⟩,
    ⟨some 9, none, .nilck (.t 8)⟩,
    ⟨some 10, none, .faddr 2 (.t 9)⟩,
    ⟨some 11, none, .load false 1 (.t 10)⟩,
    ⟨some 12, none, .len (.t 11)⟩,
    ⟨some 13, none, .bin .lss (.t 7) (.t 12)⟩])
  (.cond (.t 13)
   (.skip)
   (.exit 0)))
  (.seq (.block 1 (.seq (.ops [⟨some 16, none, .mv (.t 0)⟩,
     ⟨some 17, none, .nilck (.t 16)⟩,
     ⟨some 18, none, .faddr 2 (.t 17)⟩,
     ⟨some 19, none, .load false 1 (.t 18)⟩,
     ⟨some 20, none, .mv (.t 6)⟩,
     ⟨some 21, none, .iaddr 3 (.t 19) (.t 20)⟩,
     ⟨some 22, none, .faddr 0 (.t 21)⟩,
     ⟨some 23, none, .load false 1 (.t 22)⟩,
     ⟨some 24, none, .mv (.t 1)⟩,
     ⟨some 25, none, .bin .eql (.t 23) (.t 24)⟩])
   (.cond (.t 25)
    (.ops [⟨some 26, none, .mv (.t 5)⟩,
      ⟨some 27, none, .bin .add (.t 26) (.c (.int .i64 1))⟩,
      ⟨some 5, none, .mv (.t 27)⟩])
    (.skip))))
  (.ops [⟨some 14, none, .mv (.t 6)⟩,
    ⟨some 15, none, .bin .add (.t 14) (.c (.int .i64 1))⟩,
    ⟨some 6, none, .mv (.t 15)⟩]))
def v138 : VF := ⟨2, 29, [.t 4], true,
  .seq (.ops [⟨some 4, none, .mv (.c (.int .i64 0))⟩])
  (.seq (.ops [⟨some 5, none, .mv (.c (.int .i64 0))⟩])
  (.seq (.seq (.ops [⟨some 6, none, .mv (.c (.int .i64 0))⟩])
  (.block 0 (.loop [0, 1, 5, 6] [4, 5] l138_0)))
  (.seq (.ops [⟨some 28, none, .mv (.t 5)⟩,
    ⟨some 4, none, .mv (.t 28)⟩])
  (.ret))))⟩
theorem ok138 : FnOK Try.prog 138 v138 := ⟨⟨Try.f138, _, Try.func138, rfl, by kernel_rfl, rfl, by decide, by kernel_rfl, by kernel_rfl⟩⟩

/-- cmp.Or[int] -/
def l139_0 : VC :=
  .seq (.ops [⟨some 9, none, .bin .lss (.t 8) (.t 7)⟩])
  (.seq (.cond (.t 9)
   (.skip)
   (.exit 0))
  (.seq (.block 1 (.seq (.ops [⟨some 10, none, .iaddr 1 (.t 6) (.t 8)⟩,
     ⟨some 11, none, .load false 1 (.t 10)⟩,
     ⟨some 5, none, .mv (.t 11)⟩])
   (.seq (.ops [⟨some 12, none, .mv (.t 5)⟩,
     ⟨some 13, none, .mv (.t 3)⟩,
     ⟨some 14, none, .bin .neq (.t 12) (.t 13)⟩])
   (.cond (.t 14)
    (.seq (.ops [⟨some 15, none, .mv (.t 5)⟩,
      ⟨some 2, none, .mv (.t 15)⟩])
    (.ret))
    (.skip)))))
  (.ops [⟨some 16, none, .bin .add (.t 8) (.c (.int .i64 1))⟩,
    ⟨some 8, none, .mv (.t 16)⟩])))
def v139 : VF := ⟨1, 18, [.t 2], true,
  .seq (.ops [⟨some 2, none, .mv (.c (.int .i64 0))⟩])
  (.seq (.ops [⟨some 3, none, .mv (.c (.int .i64 0))⟩])
  (.seq (.seq (.ops [⟨some 6, none, .mv (.t 0)⟩,
    ⟨some 7, none, .len (.t 6)⟩,
    ⟨some 8, none, .mv (.c (.int .i64 0))⟩])
  (.block 0 (.loop [3, 6, 7, 8] [2, 3] l139_0)))
  (.seq (.ops [⟨some 17, none, .mv (.t 3)⟩,
    ⟨some 2, none, .mv (.t 17)⟩])
  (.ret))))⟩
theorem ok139 : FnOK Try.prog 139 v139 := ⟨⟨Try.f139, _, Try.func139, rfl, by kernel_rfl, rfl, by decide, by kernel_rfl, by kernel_rfl⟩⟩

/-- cmp.Compare[int64] -/
def v140 : VF := ⟨2, 20, [.t 4], true,
  .seq (.ops [⟨some 4, none, .mv (.c (.int .i64 0))⟩])
  (.seq (.ops [⟨some 7, none, .mv (.t 0)⟩,
    ⟨some 8, none, .call 162 [.t 7]⟩,
    ⟨some 5, none, .mv (.t 8)⟩])
  (.seq (.ops [⟨some 9, none, .mv (.t 1)⟩,
    ⟨some 10, none, .call 162 [.t 9]⟩,
    ⟨some 6, none, .mv (.t 10)⟩])
  (.seq (.seq (.ops [⟨some 11, none, .mv (.t 5)⟩])
  (.cond (.t 11)
   (.seq (.seq (.ops [⟨some 12, none, .mv (.t 6)⟩])
   (.cond (.t 12)
    (.seq (.ops [⟨some 4, none, .mv (.c (.int .i64 0))⟩])
    (.ret))
    (.skip)))
   (.seq (.ops [⟨some 4, none, .mv (.c (.int .i64 (-1)))⟩])
   (.ret)))
   (.skip)))
  (.seq (.seq (.ops [⟨some 13, none, .mv (.t 6)⟩])
  (.cond (.t 13)
   (.seq (.ops [⟨some 4, none, .mv (.c (.int .i64 1))⟩])
   (.ret))
   (.skip)))
  (.seq (.seq (.ops [⟨some 14, none, .mv (.t 0)⟩,
    ⟨some 15, none, .mv (.t 1)⟩,
    ⟨some 16, none, .bin .lss (.t 14) (.t 15)⟩])
  (.cond (.t 16)
   (.seq (.ops [⟨some 4, none, .mv (.c (.int .i64 (-1)))⟩])
   (.ret))
   (.skip)))
  (.seq (.seq (.ops [⟨some 17, none, .mv (.t 0)⟩,
    ⟨some 18, none, .mv (.t 1)⟩,
    ⟨some 19, none, .bin .gtr (.t 17) (.t 18)⟩])
  (.cond (.t 19)
   (.seq (.ops [⟨some 4, none, .mv (.c (.int .i64 1))⟩])
   (.ret))
   (.skip)))
  (.seq (.ops [⟨some 4, none, .mv (.c (.int .i64 0))⟩])
  (.ret))))))))⟩
theorem ok140 : FnOK Try.prog 140 v140 := ⟨⟨Try.f140, _, Try.func140, rfl, by kernel_rfl, rfl, by decide, by kernel_rfl, by kernel_rfl⟩⟩

/-- impl.Cell] -/
def l141_0 : VC :=
  .seq (.seq (.ops [⟨some 16, none, .mv (.t 6)⟩,
    ⟨some 17, none, .mv (.t 0)⟩,
    ⟨some 18, none, .len (.t 17)⟩,
    ⟨some 19, none, .bin .lss (.t 16) (.t 18)⟩])
  (.cond (.t 19)
   (.skip)
   (.exit 0)))
  (.seq (.block 1 (.seq (.ops [⟨some 22, none, .mv (.t 0)⟩,
     ⟨some 23, none, .mv (.t 6)⟩,
     ⟨some 24, none, .iaddr 3 (.t 22) (.t 23)⟩,
     ⟨some 25, none, .load true 3 (.t 24)⟩,
     ⟨some 7, none, .new [.int .i64 0, .int .i64 0, .int .i64 0]⟩,
     ⟨none, none, .store 3 (.t 7) (.t 25)⟩])
   (.seq (.ops [⟨some 26, none, .mv (.t 1)⟩,
     ⟨some 27, none, .load true 3 (.t 7)⟩,
     ⟨some 28, none, .callv (.t 26) [.t 27]⟩,
     ⟨some 29, none, .not (.t 28)⟩])
   (.cond (.t 29)
    (.seq (.ops [⟨some 30, none, .mv (.t 0)⟩,
      ⟨some 31, none, .mv (.t 5)⟩,
      ⟨some 32, none, .load true 3 (.t 7)⟩,
      ⟨some 33, none, .iaddr 3 (.t 30) (.t 31)⟩,
      ⟨none, none, .store 3 (.t 33) (.t 32)⟩])
    (.ops [⟨some 34, none, .mv (.t 5)⟩,
      ⟨some 35, none, .bin .add (.t 34) (.c (.int .i64 1))⟩,
      ⟨some 5, none, .mv (.t 35)⟩]))
    (.skip)))))
  (.ops [⟨some 20, none, .mv (.t 6)⟩,
    ⟨some 21, none, .bin .add (.t 20) (.c (.int .i64 1))⟩,
    ⟨some 6, none, .mv (.t 21)⟩]))
def v141 : VF := ⟨2, 42, [.t 4], false,
  .seq (.ops [⟨some 4, none, .mv (.c (.slice none 0 0))⟩])
  (.seq (.ops [⟨some 8, none, .mv (.t 0)⟩,
    ⟨some 9, none, .mv (.t 1)⟩,
    ⟨some 10, none, .call 163 [.t 8, .t 9]⟩,
    ⟨some 5, none, .mv (.t 10)⟩])
  (.seq (.seq (.ops [⟨some 11, none, .mv (.t 5)⟩,
    ⟨some 12, none, .bin .eql (.t 11) (.c (.int .i64 (-1)))⟩])
  (.cond (.t 12)
   (.seq (.ops [⟨some 13, none, .mv (.t 0)⟩,
     ⟨some 4, none, .mv (.t 13)⟩])
   (.ret))
   (.skip)))
  (.seq (.seq (.ops [⟨some 14, none, .mv (.t 5)⟩,
    ⟨some 15, none, .bin .add (.t 14) (.c (.int .i64 1))⟩,
    ⟨some 6, none, .mv (.t 15)⟩])
  (.block 0 (.loop [0, 1, 5, 6] [0, 4, 5] l141_0)))
  (.seq (.ops [⟨some 36, none, .mv (.t 0)⟩,
    ⟨some 37, none, .mv (.t 5)⟩,
    ⟨some 38, none, .slice 3 (.t 36) (some (.t 37)) none none⟩,
    ⟨none, none, .clear 3 [.int .i64 0, .int .i64 0, .int .i64 0] (.t 38)⟩])
  (.seq (.ops [⟨some 39, none, .mv (.t 0)⟩,
    ⟨some 40, none, .mv (.t 5)⟩,
    ⟨some 41, none, .slice 3 (.t 39) none (some (.t 40)) none⟩,
    ⟨some 4, none, .mv (.t 41)⟩])
  (.ret))))))⟩
theorem ok141 : FnOK Try.prog 141 v141 := ⟨⟨Try.f141, _, Try.func141, rfl, by kernel_rfl, rfl, by decide, by kernel_rfl, by kernel_rfl⟩⟩

/-- impl.Cell] -/
def v142 : VF := ⟨1, 8, [.t 2], true,
  .seq (.ops [⟨some 2, none, .mv (.c (.slice none 0 0))⟩])
  (.seq (.seq (.ops [⟨some 3, none, .mv (.t 0)⟩,
    ⟨some 4, none, .snil false (.t 3)⟩])
  (.cond (.t 4)
   (.seq (.ops [⟨some 2, none, .mv (.c (.slice none 0 0))⟩])
   (.ret))
   (.skip)))
  (.seq (.ops [⟨some 5, none, .bslice 3 [] 0 []⟩,
    ⟨some 6, none, .mv (.t 0)⟩,
    ⟨some 7, none, .append 3 24 (.t 5) (.t 6)⟩,
    ⟨some 2, none, .mv (.t 7)⟩])
  (.ret)))⟩
theorem ok142 : FnOK Try.prog 142 v142 := ⟨⟨Try.f142, _, Try.func142, rfl, by kernel_rfl, rfl, by decide, by kernel_rfl, by kernel_rfl⟩⟩

/-- impl.cellsOf$1 -/
def v143 : VF := ⟨2, 8, [.t 3], true,
  .seq (.ops [⟨some 2, none, .box (.t 0)⟩,
    ⟨some 3, none, .mv (.c (.bool false))⟩])
  (.seq (.ops [⟨some 4, none, .faddr 0 (.t 2)⟩,
    ⟨some 5, none, .load false 1 (.t 4)⟩,
    ⟨some 6, none, .load false 1 (.t 1)⟩,
    ⟨some 7, none, .bin .neq (.t 5) (.t 6)⟩,
    ⟨some 3, none, .mv (.t 7)⟩])
  (.ret))⟩
theorem ok143 : FnOK Try.prog 143 v143 := ⟨⟨Try.f143, _, Try.func143, rfl, by kernel_rfl, rfl, by decide, by kernel_rfl, by kernel_rfl⟩⟩

/-- impl.Cell] -/
def l144_0 : VC :=
  .seq (.seq (.ops [⟨some 15, none, .mv (.t 9)⟩,
    ⟨some 16, none, .mv (.t 10)⟩,
    ⟨some 17, none, .bin .lss (.t 15) (.t 16)⟩])
  (.cond (.t 17)
   (.skip)
   (.exit 0)))
  (.block 1 (.seq (.ops [⟨some 18, none, .mv (.t 9)⟩,
     ⟨some 19, none, .mv (.t 10)⟩,
     ⟨some 20, none, .bin .add (.t 18) (.t 19)⟩,
     ⟨some 21, none, .conv .u64 (.t 20)⟩,
     ⟨some 22, none, .bin .shr (.t 21) (.c (.int .u64 1))⟩,
     ⟨some 23, none, .conv .i64 (.t 22)⟩,
     ⟨some 11, none, .mv (.t 23)⟩])
   (.seq (.draw [⟨some 24, none, .mv (.t 2)⟩,
     ⟨some 25, none, .mv (.t 0)⟩,
     ⟨some 26, none, .mv (.t 11)⟩,
     ⟨some 27, none, .iaddr 3 (.t 25) (.t 26)⟩,
     ⟨some 28, none, .load true 3 (.t 27)⟩,
     ⟨some 29, none, .load true 3 (.t 4)⟩] [⟨some 30, none, .callv (.t 24) [.t 28, .t 29]⟩,
     ⟨some 31, none, .bin .lss (.t 30) (.c (.int .i64 0))⟩])
   (.cond (.t 31)
    (.ops [⟨some 32, none, .mv (.t 11)⟩,
      ⟨some 33, none, .bin .add (.t 32) (.c (.int .i64 1))⟩,
      ⟨some 9, none, .mv (.t 33)⟩])
    (.ops [⟨some 34, none, .mv (.t 11)⟩,
      ⟨some 10, none, .mv (.t 34)⟩])))))
def v144 : VF := ⟨3, 49, [.t 6, .t 7], true,
  .seq (.ops [⟨some 4, none, .box (.t 1)⟩,
    ⟨some 6, none, .mv (.c (.int .i64 0))⟩,
    ⟨some 7, none, .mv (.c (.bool false))⟩])
  (.seq (.ops [⟨some 12, none, .mv (.t 0)⟩,
    ⟨some 13, none, .len (.t 12)⟩,
    ⟨some 8, none, .mv (.t 13)⟩])
  (.seq (.ops [⟨some 14, none, .mv (.t 8)⟩,
    ⟨some 9, none, .mv (.c (.int .i64 0))⟩,
    ⟨some 10, none, .mv (.t 14)⟩])
  (.seq (.block 0 (.loop [0, 2, 4, 8, 9, 10] [0, 2, 4, 6, 7, 8, 9] l144_0))
  (.seq (.draw [⟨some 35, none, .mv (.t 9)⟩,
    ⟨some 36, none, .mv (.t 9)⟩,
    ⟨some 37, none, .mv (.t 8)⟩,
    ⟨some 38, none, .bin .lss (.t 36) (.t 37)⟩,
    ⟨some 39, none, .mv (.t 38)⟩,
    ⟨some 40, some (39, true), .mv (.t 2)⟩,
    ⟨some 41, some (39, true), .mv (.t 0)⟩,
    ⟨some 42, some (39, true), .mv (.t 9)⟩,
    ⟨some 43, some (39, true), .iaddr 3 (.t 41) (.t 42)⟩,
    ⟨some 44, some (39, true), .load true 3 (.t 43)⟩,
    ⟨some 45, some (39, true), .load true 3 (.t 4)⟩,
    ⟨some 46, some (39, true), .callv (.t 40) [.t 44, .t 45]⟩,
    ⟨some 47, some (39, true), .bin .eql (.t 46) (.c (.int .i64 0))⟩,
    ⟨some 48, none, .pick (.t 39) (.t 47) (.c (.bool false))⟩,
    ⟨some 6, none, .mv (.t 35)⟩] [⟨some 7, none, .mv (.t 48)⟩])
  (.ret)))))⟩
theorem ok144 : FnOK Try.prog 144 v144 := ⟨⟨Try.f144, _, Try.func144, rfl, by kernel_rfl, rfl, by decide, by kernel_rfl, by kernel_rfl⟩⟩

/-- laws.szNode -/
def v148 : VF := ⟨2, 12, [.t 4], true,
  .seq (.ops [⟨some 2, none, .box (.t 0)⟩,
    ⟨some 4, none, .mv (.c (.int .i64 0))⟩])
  (.seq (.ops [⟨some 5, none, .faddr 2 (.t 2)⟩,
    ⟨some 6, none, .load false 1 (.t 5)⟩,
    ⟨some 7, none, .mv (.t 1)⟩,
    ⟨some 8, none, .call 60 [.t 6, .t 7]⟩,
    ⟨some 1, none, .mv (.t 8)⟩])
  (.seq (.seq (.ops [⟨some 9, none, .mv (.t 1)⟩,
    ⟨some 10, none, .bin .lss (.t 9) (.c (.int .i64 0))⟩])
  (.cond (.t 10)
   (.seq (.ops [⟨some 4, none, .mv (.c (.int .i64 (-1)))⟩])
   (.ret))
   (.skip)))
  (.seq (.ops [⟨some 11, none, .mv (.t 1)⟩,
    ⟨some 4, none, .mv (.t 11)⟩])
  (.ret))))⟩
theorem ok148 : FnOK Try.prog 148 v148 := ⟨⟨Try.f148, _, Try.func148, rfl, by kernel_rfl, rfl, by decide, by kernel_rfl, by kernel_rfl⟩⟩

/-- laws.toNode -/
def v149 : VF := ⟨1, 15, [.cell 2 true 3], true,
  .seq (.ops [⟨some 1, none, .box (.t 0)⟩,
    ⟨some 2, none, .new [.int .i64 0, .bool false, .slice none 0 0]⟩])
  (.seq (.ops [⟨some 3, none, .new [.int .i64 0, .bool false, .slice none 0 0]⟩])
  (.seq (.ops [⟨some 4, none, .faddr 0 (.t 1)⟩,
    ⟨some 5, none, .load false 1 (.t 4)⟩,
    ⟨some 6, none, .faddr 0 (.t 3)⟩,
    ⟨none, none, .store 1 (.t 6) (.t 5)⟩])
  (.seq (.ops [⟨some 7, none, .faddr 1 (.t 1)⟩,
    ⟨some 8, none, .load false 1 (.t 7)⟩,
    ⟨some 9, none, .faddr 1 (.t 3)⟩,
    ⟨none, none, .store 1 (.t 9) (.t 8)⟩])
  (.seq (.ops [⟨some 10, none, .faddr 2 (.t 1)⟩,
    ⟨some 11, none, .load false 1 (.t 10)⟩,
    ⟨some 12, none, .call 14 [.t 11]⟩,
    ⟨some 13, none, .faddr 2 (.t 3)⟩,
    ⟨none, none, .store 1 (.t 13) (.t 12)⟩])
  (.seq (.ops [⟨some 14, none, .load true 3 (.t 3)⟩,
    ⟨none, none, .store 3 (.t 2) (.t 14)⟩])
  (.ret))))))⟩
theorem ok149 : FnOK Try.prog 149 v149 := ⟨⟨Try.f149, _, Try.func149, rfl, by kernel_rfl, rfl, by decide, by kernel_rfl, by kernel_rfl⟩⟩

/-- laws.toBlock -/
def v150 : VF := ⟨1, 11, [.cell 2 true 2], true,
  .seq (.ops [⟨some 1, none, .box (.t 0)⟩,
    ⟨some 2, none, .new [.int .i64 0, .int .i64 0]⟩])
  (.seq (.ops [⟨some 3, none, .new [.int .i64 0, .int .i64 0]⟩])
  (.seq (.ops [⟨some 4, none, .faddr 0 (.t 1)⟩,
    ⟨some 5, none, .load false 1 (.t 4)⟩,
    ⟨some 6, none, .faddr 0 (.t 3)⟩,
    ⟨none, none, .store 1 (.t 6) (.t 5)⟩])
  (.seq (.ops [⟨some 7, none, .faddr 1 (.t 1)⟩,
    ⟨some 8, none, .load false 1 (.t 7)⟩,
    ⟨some 9, none, .faddr 1 (.t 3)⟩,
    ⟨none, none, .store 1 (.t 9) (.t 8)⟩])
  (.seq (.ops [⟨some 10, none, .load true 2 (.t 3)⟩,
    ⟨none, none, .store 2 (.t 2) (.t 10)⟩])
  (.ret)))))⟩
theorem ok150 : FnOK Try.prog 150 v150 := ⟨⟨Try.f150, _, Try.func150, rfl, by kernel_rfl, rfl, by decide, by kernel_rfl, by kernel_rfl⟩⟩

/-- laws.eqNode -/
def v151 : VF := ⟨2, 21, [.t 4], true,
  .seq (.ops [⟨some 2, none, .box (.t 0)⟩,
    ⟨some 3, none, .box (.t 1)⟩,
    ⟨some 4, none, .mv (.c (.bool false))⟩])
  (.seq (.seq (.ops [⟨some 5, none, .faddr 0 (.t 2)⟩,
    ⟨some 6, none, .load false 1 (.t 5)⟩,
    ⟨some 7, none, .faddr 0 (.t 3)⟩,
    ⟨some 8, none, .load false 1 (.t 7)⟩,
    ⟨some 9, none, .bin .neq (.t 6) (.t 8)⟩])
  (.cond (.t 9)
   (.seq (.ops [⟨some 4, none, .mv (.c (.bool false))⟩])
   (.ret))
   (.skip)))
  (.seq (.seq (.ops [⟨some 10, none, .faddr 1 (.t 2)⟩,
    ⟨some 11, none, .load false 1 (.t 10)⟩,
    ⟨some 12, none, .faddr 1 (.t 3)⟩,
    ⟨some 13, none, .load false 1 (.t 12)⟩,
    ⟨some 14, none, .beq true (.t 11) (.t 13)⟩])
  (.cond (.t 14)
   (.seq (.ops [⟨some 4, none, .mv (.c (.bool false))⟩])
   (.ret))
   (.skip)))
  (.seq (.seq (.ops [⟨some 15, none, .faddr 2 (.t 2)⟩,
    ⟨some 16, none, .load false 1 (.t 15)⟩,
    ⟨some 17, none, .faddr 2 (.t 3)⟩,
    ⟨some 18, none, .load false 1 (.t 17)⟩,
    ⟨some 19, none, .call 17 [.t 16, .t 18]⟩,
    ⟨some 20, none, .not (.t 19)⟩])
  (.cond (.t 20)
   (.seq (.ops [⟨some 4, none, .mv (.c (.bool false))⟩])
   (.ret))
   (.skip)))
  (.seq (.ops [⟨some 4, none, .mv (.c (.bool true))⟩])
  (.ret)))))⟩
theorem ok151 : FnOK Try.prog 151 v151 := ⟨⟨Try.f151, _, Try.func151, rfl, by kernel_rfl, rfl, by decide, by kernel_rfl, by kernel_rfl⟩⟩

/-- laws.eqBlock -/
def v152 : VF := ⟨2, 15, [.t 4], true,
  .seq (.ops [⟨some 2, none, .box (.t 0)⟩,
    ⟨some 3, none, .box (.t 1)⟩,
    ⟨some 4, none, .mv (.c (.bool false))⟩])
  (.seq (.seq (.ops [⟨some 5, none, .faddr 0 (.t 2)⟩,
    ⟨some 6, none, .load false 1 (.t 5)⟩,
    ⟨some 7, none, .faddr 0 (.t 3)⟩,
    ⟨some 8, none, .load false 1 (.t 7)⟩,
    ⟨some 9, none, .bin .neq (.t 6) (.t 8)⟩])
  (.cond (.t 9)
   (.seq (.ops [⟨some 4, none, .mv (.c (.bool false))⟩])
   (.ret))
   (.skip)))
  (.seq (.seq (.ops [⟨some 10, none, .faddr 1 (.t 2)⟩,
    ⟨some 11, none, .load false 1 (.t 10)⟩,
    ⟨some 12, none, .faddr 1 (.t 3)⟩,
    ⟨some 13, none, .load false 1 (.t 12)⟩,
    ⟨some 14, none, .bin .neq (.t 11) (.t 13)⟩])
  (.cond (.t 14)
   (.seq (.ops [⟨some 4, none, .mv (.c (.bool false))⟩])
   (.ret))
   (.skip)))
  (.seq (.ops [⟨some 4, none, .mv (.c (.bool true))⟩])
  (.ret))))⟩
theorem ok152 : FnOK Try.prog 152 v152 := ⟨⟨Try.f152, _, Try.func152, rfl, by kernel_rfl, rfl, by decide, by kernel_rfl, by kernel_rfl⟩⟩

/-- spec.BlocksFault -/
def l153_0 : VC :=
  .seq (.seq (.ops [⟨some 7, none, .mv (.t 3)⟩,
    ⟨some 8, none, .mv (.t 0)⟩,
    ⟨some 9, none, .len (.t 8)⟩,
    ⟨some 10, none, .bin .lss (.t 7) (.t 9)⟩])
  (.cond (.t 10)
   (.skip)
   (.exit 0)))
  (.seq (.block 1 (.seq (.seq (.ops [⟨some 13, none, .mv (.t 0)⟩,
     ⟨some 14, none, .mv (.t 3)⟩,
     ⟨some 15, none, .iaddr 2 (.t 13) (.t 14)⟩,
     ⟨some 16, none, .faddr 0 (.t 15)⟩,
     ⟨some 17, none, .load false 1 (.t 16)⟩,
     ⟨some 18, none, .call 53 [.t 17, .c (.int .i64 0), .c (.int .i64 200)]⟩,
     ⟨some 19, none, .not (.t 18)⟩,
     ⟨some 20, none, .mv (.t 19)⟩,
     ⟨some 21, some (20, false), .mv (.t 0)⟩,
     ⟨some 22, some (20, false), .mv (.t 3)⟩,
     ⟨some 23, some (20, false), .iaddr 2 (.t 21) (.t 22)⟩,
     ⟨some 24, some (20, false), .faddr 1 (.t 23)⟩,
     ⟨some 25, some (20, false), .load false 1 (.t 24)⟩,
     ⟨some 26, some (20, false), .call 103 [.t 25]⟩,
     ⟨some 27, some (20, false), .not (.t 26)⟩,
     ⟨some 28, none, .pick (.t 20) (.c (.bool true)) (.t 27)⟩])
   (.cond (.t 28)
    (.seq (.ops [⟨some 2, none, .mv (.c (.int .i64 3))⟩])
    (.ret))
    (.skip)))
   (.seq (.ops [⟨some 29, none, .mv (.t 0)⟩,
     ⟨some 30, none, .mv (.t 3)⟩,
     ⟨some 31, none, .iaddr 2 (.t 29) (.t 30)⟩,
     ⟨some 32, none, .faddr 0 (.t 31)⟩,
     ⟨some 33, none, .load false 1 (.t 32)⟩,
     ⟨some 34, none, .bin .eql (.t 33) (.c (.int .i64 0))⟩,
     ⟨some 35, none, .mv (.t 34)⟩,
     ⟨some 36, some (35, true), .mv (.t 0)⟩,
     ⟨some 37, some (35, true), .mv (.t 3)⟩,
     ⟨some 38, some (35, true), .iaddr 2 (.t 36) (.t 37)⟩,
     ⟨some 39, some (35, true), .faddr 1 (.t 38)⟩,
     ⟨some 40, some (35, true), .load false 1 (.t 39)⟩,
     ⟨some 41, some (35, true), .bin .neq (.t 40) (.c (.int .i64 0))⟩,
     ⟨some 42, none, .pick (.t 35) (.t 41) (.c (.bool false))⟩])
   (.cond (.t 42)
    (.seq (.ops [⟨some 2, none, .mv (.c (.int .i64 1))⟩])
    (.ret))
    (.skip)))))
  (.ops [⟨some 11, none, .mv (.t 3)⟩,
    ⟨some 12, none, .bin .add (.t 11) (.c (.int .i64 1))⟩,
    ⟨some 3, none, .mv (.t 12)⟩]))
def v153 : VF := ⟨1, 43, [.t 2], true,
  .seq (.ops [⟨some 2, none, .mv (.c (.int .i64 0))⟩])
  (.seq (.seq (.ops [⟨some 4, none, .mv (.t 0)⟩,
    ⟨some 5, none, .len (.t 4)⟩,
    ⟨some 6, none, .bin .gtr (.t 5) (.c (.int .i64 24))⟩])
  (.cond (.t 6)
   (.seq (.ops [⟨some 2, none, .mv (.c (.int .i64 2))⟩])
   (.ret))
   (.skip)))
  (.seq (.seq (.ops [⟨some 3, none, .mv (.c (.int .i64 0))⟩])
  (.block 0 (.loop [0, 3] [2] l153_0)))
  (.seq (.ops [⟨some 2, none, .mv (.c (.int .i64 0))⟩])
  (.ret))))⟩
theorem ok153 : FnOK Try.prog 153 v153 := ⟨⟨Try.f153, _, Try.func153, rfl, by kernel_rfl, rfl, by decide, by kernel_rfl, by kernel_rfl⟩⟩

/-- spec.l4Node -/
def l154_0 : VC :=
  .seq (.seq (.ops [⟨some 36, none, .mv (.t 6)⟩,
    ⟨some 37, none, .bin .lss (.t 36) (.c (.int .i64 4))⟩])
  (.cond (.t 37)
   (.skip)
   (.exit 0)))
  (.seq (.block 1 (.seq (.seq (.ops [⟨some 40, none, .mv (.t 0)⟩,
     ⟨some 41, none, .mv (.t 1)⟩,
     ⟨some 42, none, .mv (.t 1)⟩,
     ⟨some 43, none, .nilck (.t 42)⟩,
     ⟨some 44, none, .faddr 2 (.t 43)⟩,
     ⟨some 45, none, .load false 1 (.t 44)⟩,
     ⟨some 46, none, .mv (.t 6)⟩,
     ⟨some 47, none, .iaddr 1 (.t 45) (.t 46)⟩,
     ⟨some 48, none, .load false 1 (.t 47)⟩,
     ⟨some 49, none, .call 164 [.t 40, .t 41, .t 48]⟩,
     ⟨some 50, none, .not (.t 49)⟩])
   (.cond (.t 50)
    (.seq (.ops [⟨some 4, none, .mv (.c (.int .i64 1))⟩])
    (.ret))
    (.skip)))
   (.ops [⟨some 51, none, .mv (.t 5)⟩,
     ⟨some 52, none, .mv (.t 51)⟩,
     ⟨some 53, some (52, false), .mv (.t 1)⟩,
     ⟨some 54, some (52, false), .nilck (.t 53)⟩,
     ⟨some 55, some (52, false), .faddr 2 (.t 54)⟩,
     ⟨some 56, some (52, false), .load false 1 (.t 55)⟩,
     ⟨some 57, some (52, false), .mv (.t 6)⟩,
     ⟨some 58, some (52, false), .iaddr 1 (.t 56) (.t 57)⟩,
     ⟨some 59, some (52, false), .load false 1 (.t 58)⟩,
     ⟨some 60, some (52, false), .bin .geq (.t 59) (.c (.int .i64 0))⟩,
     ⟨some 61, none, .pick (.t 52) (.c (.bool true)) (.t 60)⟩,
     ⟨some 5, none, .mv (.t 61)⟩])))
  (.ops [⟨some 38, none, .mv (.t 6)⟩,
    ⟨some 39, none, .bin .add (.t 38) (.c (.int .i64 1))⟩,
    ⟨some 6, none, .mv (.t 39)⟩]))
def v154 : VF := ⟨2, 64, [.t 4], true,
  .seq (.ops [⟨some 4, none, .mv (.c (.int .i64 0))⟩])
  (.seq (.seq (.ops [⟨some 7, none, .mv (.t 1)⟩,
    ⟨some 8, none, .nilck (.t 7)⟩,
    ⟨some 9, none, .faddr 0 (.t 8)⟩,
    ⟨some 10, none, .load false 1 (.t 9)⟩,
    ⟨some 11, none, .call 53 [.t 10, .c (.int .i64 0), .c (.int .i64 200)]⟩,
    ⟨some 12, none, .not (.t 11)⟩])
  (.cond (.t 12)
   (.seq (.ops [⟨some 4, none, .mv (.c (.int .i64 3))⟩])
   (.ret))
   (.skip)))
  (.seq (.seq (.ops [⟨some 13, none, .mv (.t 1)⟩,
    ⟨some 14, none, .nilck (.t 13)⟩,
    ⟨some 15, none, .faddr 0 (.t 14)⟩,
    ⟨some 16, none, .load false 1 (.t 15)⟩,
    ⟨some 17, none, .bin .eql (.t 16) (.c (.int .i64 0))⟩])
  (.cond (.t 17)
   (.seq (.seq (.ops [⟨some 18, none, .mv (.t 1)⟩,
     ⟨some 19, none, .nilck (.t 18)⟩,
     ⟨some 20, none, .faddr 1 (.t 19)⟩,
     ⟨some 21, none, .load false 1 (.t 20)⟩,
     ⟨some 22, none, .mv (.t 21)⟩,
     ⟨some 23, some (22, false), .mv (.t 1)⟩,
     ⟨some 24, some (22, false), .nilck (.t 23)⟩,
     ⟨some 25, some (22, false), .faddr 2 (.t 24)⟩,
     ⟨some 26, some (22, false), .load false 1 (.t 25)⟩,
     ⟨some 27, some (22, false), .len (.t 26)⟩,
     ⟨some 28, some (22, false), .bin .gtr (.t 27) (.c (.int .i64 0))⟩,
     ⟨some 29, none, .pick (.t 22) (.c (.bool true)) (.t 28)⟩])
   (.cond (.t 29)
    (.seq (.ops [⟨some 4, none, .mv (.c (.int .i64 1))⟩])
    (.ret))
    (.skip)))
   (.seq (.ops [⟨some 4, none, .mv (.c (.int .i64 0))⟩])
   (.ret)))
   (.skip)))
  (.seq (.seq (.ops [⟨some 30, none, .mv (.t 1)⟩,
    ⟨some 31, none, .nilck (.t 30)⟩,
    ⟨some 32, none, .faddr 2 (.t 31)⟩,
    ⟨some 33, none, .load false 1 (.t 32)⟩,
    ⟨some 34, none, .len (.t 33)⟩,
    ⟨some 35, none, .bin .neq (.t 34) (.c (.int .i64 4))⟩])
  (.cond (.t 35)
   (.seq (.ops [⟨some 4, none, .mv (.c (.int .i64 1))⟩])
   (.ret))
   (.skip)))
  (.seq (.ops [⟨some 5, none, .mv (.c (.bool false))⟩])
  (.seq (.seq (.ops [⟨some 6, none, .mv (.c (.int .i64 0))⟩])
  (.block 0 (.loop [0, 1, 5, 6] [4, 5] l154_0)))
  (.seq (.seq (.ops [⟨some 62, none, .mv (.t 5)⟩,
    ⟨some 63, none, .not (.t 62)⟩])
  (.cond (.t 63)
   (.seq (.ops [⟨some 4, none, .mv (.c (.int .i64 1))⟩])
   (.ret))
   (.skip)))
  (.seq (.ops [⟨some 4, none, .mv (.c (.int .i64 0))⟩])
  (.ret))))))))⟩
theorem ok154 : FnOK Try.prog 154 v154 := ⟨⟨Try.f154, _, Try.func154, rfl, by kernel_rfl, rfl, by decide, by kernel_rfl, by kernel_rfl⟩⟩

/-- spec.l4Named -/
def l155_0 : VC :=
  .seq (.seq (.ops [⟨some 40, none, .mv (.t 9)⟩,
    ⟨some 41, none, .bin .lss (.t 40) (.c (.int .i64 4))⟩])
  (.cond (.t 41)
   (.skip)
   (.exit 2)))
  (.seq (.block 3 (.seq (.ops [⟨some 44, none, .mv (.t 0)⟩,
     ⟨some 45, none, .nilck (.t 44)⟩,
     ⟨some 46, none, .faddr 0 (.t 45)⟩,
     ⟨some 47, none, .load false 1 (.t 46)⟩,
     ⟨some 48, none, .mv (.t 8)⟩,
     ⟨some 49, none, .iaddr 3 (.t 47) (.t 48)⟩,
     ⟨some 50, none, .faddr 2 (.t 49)⟩,
     ⟨some 51, none, .load false 1 (.t 50)⟩,
     ⟨some 52, none, .mv (.t 9)⟩,
     ⟨some 53, none, .iaddr 1 (.t 51) (.t 52)⟩,
     ⟨some 54, none, .load false 1 (.t 53)⟩,
     ⟨some 55, none, .mv (.t 2)⟩,
     ⟨some 56, none, .bin .eql (.t 54) (.t 55)⟩])
   (.cond (.t 56)
    (.ops [⟨some 57, none, .mv (.t 7)⟩,
      ⟨some 58, none, .bin .add (.t 57) (.c (.int .i64 1))⟩,
      ⟨some 7, none, .mv (.t 58)⟩])
    (.skip))))
  (.ops [⟨some 42, none, .mv (.t 9)⟩,
    ⟨some 43, none, .bin .add (.t 42) (.c (.int .i64 1))⟩,
    ⟨some 9, none, .mv (.t 43)⟩]))
def l155_1 : VC :=
  .seq (.seq (.ops [⟨some 10, none, .mv (.t 8)⟩,
    ⟨some 11, none, .mv (.t 0)⟩,
    ⟨some 12, none, .nilck (.t 11)⟩,
    ⟨some 13, none, .faddr 0 (.t 12)⟩,
    ⟨some 14, none, .load false 1 (.t 13)⟩,
    ⟨some 15, none, .len (.t 14)⟩,
    ⟨some 16, none, .bin .lss (.t 10) (.t 15)⟩])
  (.cond (.t 16)
   (.skip)
   (.exit 0)))
  (.seq (.block 1 (.seq (.seq (.ops [⟨some 19, none, .mv (.t 0)⟩,
     ⟨some 20, none, .nilck (.t 19)⟩,
     ⟨some 21, none, .faddr 0 (.t 20)⟩,
     ⟨some 22, none, .load false 1 (.t 21)⟩,
     ⟨some 23, none, .mv (.t 8)⟩,
     ⟨some 24, none, .iaddr 3 (.t 22) (.t 23)⟩,
     ⟨some 25, none, .faddr 0 (.t 24)⟩,
     ⟨some 26, none, .load false 1 (.t 25)⟩,
     ⟨some 27, none, .bin .eql (.t 26) (.c (.int .i64 0))⟩,
     ⟨some 28, none, .mv (.t 27)⟩,
     ⟨some 29, some (28, false), .mv (.t 0)⟩,
     ⟨some 30, some (28, false), .nilck (.t 29)⟩,
     ⟨some 31, some (28, false), .faddr 0 (.t 30)⟩,
     ⟨some 32, some (28, false), .load false 1 (.t 31)⟩,
     ⟨some 33, some (28, false), .mv (.t 8)⟩,
     ⟨some 34, some (28, false), .iaddr 3 (.t 32) (.t 33)⟩,
     ⟨some 35, some (28, false), .faddr 1 (.t 34)⟩,
     ⟨some 36, some (28, false), .load false 1 (.t 35)⟩,
     ⟨some 37, some (28, false), .mv (.t 1)⟩,
     ⟨some 38, some (28, false), .beq true (.t 36) (.t 37)⟩,
     ⟨some 39, none, .pick (.t 28) (.c (.bool true)) (.t 38)⟩])
   (.cond (.t 39)
    (.exit 1)
    (.skip)))
   (.seq (.ops [⟨some 9, none, .mv (.c (.int .i64 0))⟩])
   (.block 2 (.loop [0, 1, 2, 7, 8, 9] [0, 1, 2, 6, 7, 8] l155_0)))))
  (.ops [⟨some 17, none, .mv (.t 8)⟩,
    ⟨some 18, none, .bin .add (.t 17) (.c (.int .i64 1))⟩,
    ⟨some 8, none, .mv (.t 18)⟩]))
def v155 : VF := ⟨3, 60, [.t 6], true,
  .seq (.ops [⟨some 6, none, .mv (.c (.int .i64 0))⟩])
  (.seq (.ops [⟨some 7, none, .mv (.c (.int .i64 0))⟩])
  (.seq (.seq (.ops [⟨some 8, none, .mv (.c (.int .i64 0))⟩])
  (.block 0 (.loop [0, 1, 2, 7, 8] [6, 7] l155_1)))
  (.seq (.ops [⟨some 59, none, .mv (.t 7)⟩,
    ⟨some 6, none, .mv (.t 59)⟩])
  (.ret))))⟩
theorem ok155 : FnOK Try.prog 155 v155 := ⟨⟨Try.f155, _, Try.func155, rfl, by kernel_rfl, rfl, by decide, by kernel_rfl, by kernel_rfl⟩⟩

/-- impl.isEmpty$1 -/
def v156 : VF := ⟨1, 5, [.t 2], true,
  .seq (.ops [⟨some 2, none, .mv (.c (.bool false))⟩])
  (.seq (.ops [⟨some 3, none, .mv (.t 0)⟩,
    ⟨some 4, none, .bin .neq (.t 3) (.c (.int .i64 (-1)))⟩,
    ⟨some 2, none, .mv (.t 4)⟩])
  (.ret))⟩
theorem ok156 : FnOK Try.prog 156 v156 := ⟨⟨Try.f156, _, Try.func156, rfl, by kernel_rfl, rfl, by decide, by kernel_rfl, by kernel_rfl⟩⟩

/-- slices.IndexFunc[[]int64,int64] -/
def l157_0 : VC :=
  .seq (.ops [⟨some 9, none, .bin .lss (.t 8) (.t 7)⟩])
  (.seq (.cond (.t 9)
   (.skip)
   (.exit 0))
  (.seq (.block 1 (.seq (.ops [⟨some 10, none, .mv (.t 8)⟩,
     ⟨some 5, none, .mv (.t 10)⟩])
   (.seq (.ops [⟨some 11, none, .mv (.t 1)⟩,
     ⟨some 12, none, .mv (.t 0)⟩,
     ⟨some 13, none, .mv (.t 5)⟩,
     ⟨some 14, none, .iaddr 1 (.t 12) (.t 13)⟩,
     ⟨some 15, none, .load false 1 (.t 14)⟩,
     ⟨some 16, none, .callv (.t 11) [.t 15]⟩])
   (.cond (.t 16)
    (.seq (.ops [⟨some 17, none, .mv (.t 5)⟩,
      ⟨some 4, none, .mv (.t 17)⟩])
    (.ret))
    (.skip)))))
  (.ops [⟨some 18, none, .bin .add (.t 8) (.c (.int .i64 1))⟩,
    ⟨some 8, none, .mv (.t 18)⟩])))
def v157 : VF := ⟨2, 19, [.t 4], true,
  .seq (.ops [⟨some 4, none, .mv (.c (.int .i64 0))⟩])
  (.seq (.seq (.ops [⟨some 6, none, .mv (.t 0)⟩,
    ⟨some 7, none, .len (.t 6)⟩,
    ⟨some 8, none, .mv (.c (.int .i64 0))⟩])
  (.block 0 (.loop [0, 1, 7, 8] [4] l157_0)))
  (.seq (.ops [⟨some 4, none, .mv (.c (.int .i64 (-1)))⟩])
  (.ret)))⟩
theorem ok157 : FnOK Try.prog 157 v157 := ⟨⟨Try.f157, _, Try.func157, rfl, by kernel_rfl, rfl, by decide, by kernel_rfl, by kernel_rfl⟩⟩

/-- impl.Forest).block -/
def v158 : VF := ⟨3, 16, [.t 6], true,
  .seq (.ops [⟨some 6, none, .mv (.c (.int .i64 0))⟩])
  (.seq (.ops [⟨some 7, none, .mv (.t 0)⟩,
    ⟨some 8, none, .mv (.t 0)⟩,
    ⟨some 9, none, .mv (.t 1)⟩,
    ⟨some 10, none, .mv (.t 2)⟩,
    ⟨some 11, none, .bin .quo (.t 10) (.c (.int .i64 4))⟩,
    ⟨some 12, none, .call 165 [.t 8, .t 9, .t 11]⟩,
    ⟨some 13, none, .mv (.t 2)⟩,
    ⟨some 14, none, .bin .rem (.t 13) (.c (.int .i64 4))⟩,
    ⟨some 15, none, .call 165 [.t 7, .t 12, .t 14]⟩,
    ⟨some 6, none, .mv (.t 15)⟩])
  (.ret))⟩
theorem ok158 : FnOK Try.prog 158 v158 := ⟨⟨Try.f158, _, Try.func158, rfl, by kernel_rfl, rfl, by decide, by kernel_rfl, by kernel_rfl⟩⟩

/-- spec.l4Block -/
def v159 : VF := ⟨3, 26, [.t 6], true,
  .seq (.ops [⟨some 6, none, .mv (.c (.int .i64 0))⟩])
  (.seq (.ops [⟨some 8, none, .mv (.t 0)⟩,
    ⟨some 9, none, .mv (.t 1)⟩,
    ⟨some 10, none, .mv (.t 2)⟩,
    ⟨some 11, none, .call 166 [.t 8, .t 9, .t 10]⟩,
    ⟨some 7, none, .mv (.t 11)⟩])
  (.seq (.seq (.ops [⟨some 12, none, .mv (.t 7)⟩,
    ⟨some 13, none, .bin .lss (.t 12) (.c (.int .i64 0))⟩])
  (.cond (.t 13)
   (.seq (.ops [⟨some 6, none, .mv (.c (.int .i64 (-1)))⟩])
   (.ret))
   (.skip)))
  (.seq (.ops [⟨some 14, none, .mv (.t 0)⟩,
    ⟨some 15, none, .nilck (.t 14)⟩,
    ⟨some 16, none, .faddr 0 (.t 15)⟩,
    ⟨some 17, none, .load false 1 (.t 16)⟩,
    ⟨some 18, none, .mv (.t 7)⟩,
    ⟨some 19, none, .iaddr 3 (.t 17) (.t 18)⟩,
    ⟨some 20, none, .faddr 2 (.t 19)⟩,
    ⟨some 21, none, .load false 1 (.t 20)⟩,
    ⟨some 22, none, .mv (.t 2)⟩,
    ⟨some 23, none, .bin .rem (.t 22) (.c (.int .i64 4))⟩,
    ⟨some 24, none, .iaddr 1 (.t 21) (.t 23)⟩,
    ⟨some 25, none, .load false 1 (.t 24)⟩,
    ⟨some 6, none, .mv (.t 25)⟩])
  (.ret))))⟩
theorem ok159 : FnOK Try.prog 159 v159 := ⟨⟨Try.f159, _, Try.func159, rfl, by kernel_rfl, rfl, by decide, by kernel_rfl, by kernel_rfl⟩⟩

/-- spec.l6Vol -/
def l160_0 : VC :=
  .seq (.seq (.ops [⟨some 6, none, .mv (.t 5)⟩,
    ⟨some 7, none, .mv (.t 0)⟩,
    ⟨some 8, none, .nilck (.t 7)⟩,
    ⟨some 9, none, .faddr 1 (.t 8)⟩,
    ⟨some 10, none, .load false 1 (.t 9)⟩,
    ⟨some 11, none, .len (.t 10)⟩,
    ⟨some 12, none, .bin .lss (.t 6) (.t 11)⟩])
  (.cond (.t 12)
   (.skip)
   (.exit 0)))
  (.seq (.block 1 (.seq (.ops [⟨some 15, none, .mv (.t 0)⟩,
     ⟨some 16, none, .nilck (.t 15)⟩,
     ⟨some 17, none, .faddr 1 (.t 16)⟩,
     ⟨some 18, none, .load false 1 (.t 17)⟩,
     ⟨some 19, none, .mv (.t 5)⟩,
     ⟨some 20, none, .iaddr 3 (.t 18) (.t 19)⟩,
     ⟨some 21, none, .faddr 0 (.t 20)⟩,
     ⟨some 22, none, .load false 1 (.t 21)⟩,
     ⟨some 23, none, .mv (.t 1)⟩,
     ⟨some 24, none, .bin .eql (.t 22) (.t 23)⟩])
   (.cond (.t 24)
    (.seq (.ops [⟨some 25, none, .mv (.t 5)⟩,
      ⟨some 4, none, .mv (.t 25)⟩])
    (.ret))
    (.skip))))
  (.ops [⟨some 13, none, .mv (.t 5)⟩,
    ⟨some 14, none, .bin .add (.t 13) (.c (.int .i64 1))⟩,
    ⟨some 5, none, .mv (.t 14)⟩]))
def v160 : VF := ⟨2, 26, [.t 4], true,
  .seq (.ops [⟨some 4, none, .mv (.c (.int .i64 0))⟩])
  (.seq (.seq (.ops [⟨some 5, none, .mv (.c (.int .i64 0))⟩])
  (.block 0 (.loop [0, 1, 5] [4] l160_0)))
  (.seq (.ops [⟨some 4, none, .mv (.c (.int .i64 (-1)))⟩])
  (.ret)))⟩
theorem ok160 : FnOK Try.prog 160 v160 := ⟨⟨Try.f160, _, Try.func160, rfl, by kernel_rfl, rfl, by decide, by kernel_rfl, by kernel_rfl⟩⟩

/-- spec.l6Ahead -/
def v161 : VF := ⟨2, 20, [.t 4], true,
  .seq (.ops [⟨some 2, none, .box (.t 0)⟩,
    ⟨some 3, none, .box (.t 1)⟩,
    ⟨some 4, none, .mv (.c (.bool false))⟩])
  (.seq (.seq (.ops [⟨some 5, none, .faddr 0 (.t 2)⟩,
    ⟨some 6, none, .load false 1 (.t 5)⟩,
    ⟨some 7, none, .faddr 0 (.t 3)⟩,
    ⟨some 8, none, .load false 1 (.t 7)⟩,
    ⟨some 9, none, .bin .neq (.t 6) (.t 8)⟩])
  (.cond (.t 9)
   (.seq (.ops [⟨some 10, none, .faddr 0 (.t 2)⟩,
     ⟨some 11, none, .load false 1 (.t 10)⟩,
     ⟨some 12, none, .faddr 0 (.t 3)⟩,
     ⟨some 13, none, .load false 1 (.t 12)⟩,
     ⟨some 14, none, .bin .lss (.t 11) (.t 13)⟩,
     ⟨some 4, none, .mv (.t 14)⟩])
   (.ret))
   (.skip)))
  (.seq (.ops [⟨some 15, none, .faddr 1 (.t 2)⟩,
    ⟨some 16, none, .load false 1 (.t 15)⟩,
    ⟨some 17, none, .faddr 1 (.t 3)⟩,
    ⟨some 18, none, .load false 1 (.t 17)⟩,
    ⟨some 19, none, .bin .lss (.t 16) (.t 18)⟩,
    ⟨some 4, none, .mv (.t 19)⟩])
  (.ret)))⟩
theorem ok161 : FnOK Try.prog 161 v161 := ⟨⟨Try.f161, _, Try.func161, rfl, by kernel_rfl, rfl, by decide, by kernel_rfl, by kernel_rfl⟩⟩

/-- cmp.isNaN[int64] -/
def v162 : VF := ⟨1, 6, [.t 2], true,
  .seq (.ops [⟨some 2, none, .mv (.c (.bool false))⟩])
  (.seq (.ops [⟨some 3, none, .mv (.t 0)⟩,
    ⟨some 4, none, .mv (.t 0)⟩,
    ⟨some 5, none, .bin .neq (.t 3) (.t 4)⟩,
    ⟨some 2, none, .mv (.t 5)⟩])
  (.ret))⟩
theorem ok162 : FnOK Try.prog 162 v162 := ⟨⟨Try.f162, _, Try.func162, rfl, by kernel_rfl, rfl, by decide, by kernel_rfl, by kernel_rfl⟩⟩

/-- impl.Cell] -/
def l163_0 : VC :=
  .seq (.ops [⟨some 9, none, .bin .lss (.t 8) (.t 7)⟩])
  (.seq (.cond (.t 9)
   (.skip)
   (.exit 0))
  (.seq (.block 1 (.seq (.ops [⟨some 10, none, .mv (.t 8)⟩,
     ⟨some 5, none, .mv (.t 10)⟩])
   (.seq (.ops [⟨some 11, none, .mv (.t 1)⟩,
     ⟨some 12, none, .mv (.t 0)⟩,
     ⟨some 13, none, .mv (.t 5)⟩,
     ⟨some 14, none, .iaddr 3 (.t 12) (.t 13)⟩,
     ⟨some 15, none, .load true 3 (.t 14)⟩,
     ⟨some 16, none, .callv (.t 11) [.t 15]⟩])
   (.cond (.t 16)
    (.seq (.ops [⟨some 17, none, .mv (.t 5)⟩,
      ⟨some 4, none, .mv (.t 17)⟩])
    (.ret))
    (.skip)))))
  (.ops [⟨some 18, none, .bin .add (.t 8) (.c (.int .i64 1))⟩,
    ⟨some 8, none, .mv (.t 18)⟩])))
def v163 : VF := ⟨2, 19, [.t 4], true,
  .seq (.ops [⟨some 4, none, .mv (.c (.int .i64 0))⟩])
  (.seq (.seq (.ops [⟨some 6, none, .mv (.t 0)⟩,
    ⟨some 7, none, .len (.t 6)⟩,
    ⟨some 8, none, .mv (.c (.int .i64 0))⟩])
  (.block 0 (.loop [0, 1, 7, 8] [4] l163_0)))
  (.seq (.ops [⟨some 4, none, .mv (.c (.int .i64 (-1)))⟩])
  (.ret)))⟩
theorem ok163 : FnOK Try.prog 163 v163 := ⟨⟨Try.f163, _, Try.func163, rfl, by kernel_rfl, rfl, by decide, by kernel_rfl, by kernel_rfl⟩⟩

/-- spec.l4Kid -/
def v164 : VF := ⟨3, 61, [.t 6], true,
  .seq (.ops [⟨some 6, none, .mv (.c (.bool false))⟩])
  (.seq (.seq (.ops [⟨some 7, none, .mv (.t 2)⟩,
    ⟨some 8, none, .bin .eql (.t 7) (.c (.int .i64 (-1)))⟩])
  (.cond (.t 8)
   (.seq (.ops [⟨some 6, none, .mv (.c (.bool true))⟩])
   (.ret))
   (.skip)))
  (.seq (.seq (.ops [⟨some 9, none, .mv (.t 1)⟩,
    ⟨some 10, none, .nilck (.t 9)⟩,
    ⟨some 11, none, .faddr 1 (.t 10)⟩,
    ⟨some 12, none, .load false 1 (.t 11)⟩])
  (.cond (.t 12)
   (.seq (.ops [⟨some 13, none, .mv (.t 2)⟩,
     ⟨some 14, none, .mv (.t 0)⟩,
     ⟨some 15, none, .nilck (.t 14)⟩,
     ⟨some 16, none, .faddr 1 (.t 15)⟩,
     ⟨some 17, none, .load false 1 (.t 16)⟩,
     ⟨some 18, none, .len (.t 17)⟩,
     ⟨some 19, none, .bin .sub (.t 18) (.c (.int .i64 1))⟩,
     ⟨some 20, none, .call 53 [.t 13, .c (.int .i64 0), .t 19]⟩,
     ⟨some 21, none, .mv (.t 20)⟩,
     ⟨some 22, some (21, true), .mv (.t 0)⟩,
     ⟨some 23, some (21, true), .nilck (.t 22)⟩,
     ⟨some 24, some (21, true), .faddr 1 (.t 23)⟩,
     ⟨some 25, some (21, true), .load false 1 (.t 24)⟩,
     ⟨some 26, some (21, true), .mv (.t 2)⟩,
     ⟨some 27, some (21, true), .iaddr 2 (.t 25) (.t 26)⟩,
     ⟨some 28, some (21, true), .faddr 0 (.t 27)⟩,
     ⟨some 29, some (21, true), .load false 1 (.t 28)⟩,
     ⟨some 30, some (21, true), .bin .gtr (.t 29) (.c (.int .i64 0))⟩,
     ⟨some 31, none, .pick (.t 21) (.t 30) (.c (.bool false))⟩,
     ⟨some 6, none, .mv (.t 31)⟩])
   (.ret))
   (.skip)))
  (.seq (.ops [⟨some 32, none, .mv (.t 2)⟩,
    ⟨some 33, none, .mv (.t 0)⟩,
    ⟨some 34, none, .nilck (.t 33)⟩,
    ⟨some 35, none, .faddr 0 (.t 34)⟩,
    ⟨some 36, none, .load false 1 (.t 35)⟩,
    ⟨some 37, none, .len (.t 36)⟩,
    ⟨some 38, none, .bin .sub (.t 37) (.c (.int .i64 1))⟩,
    ⟨some 39, none, .call 53 [.t 32, .c (.int .i64 0), .t 38]⟩,
    ⟨some 40, none, .mv (.t 39)⟩,
    ⟨some 41, some (40, true), .mv (.t 0)⟩,
    ⟨some 42, some (40, true), .nilck (.t 41)⟩,
    ⟨some 43, some (40, true), .faddr 0 (.t 42)⟩,
    ⟨some 44, some (40, true), .load false 1 (.t 43)⟩,
    ⟨some 45, some (40, true), .mv (.t 2)⟩,
    ⟨some 46, some (40, true), .iaddr 3 (.t 44) (.t 45)⟩,
    ⟨some 47, some (40, true), .faddr 0 (.t 46)⟩,
    ⟨some 48, some (40, true), .load false 1 (.t 47)⟩,
    ⟨some 49, some (40, true), .bin .gtr (.t 48) (.c (.int .i64 0))⟩,
    ⟨some 50, none, .pick (.t 40) (.t 49) (.c (.bool false))⟩,
    ⟨some 51, none, .mv (.t 50)⟩,
    ⟨some 52, some (51, true), .mv (.t 0)⟩,
    ⟨some 53, some (51, true), .nilck (.t 52)⟩,
    ⟨some 54, some (51, true), .faddr 0 (.t 53)⟩,
    ⟨some 55, some (51, true), .load false 1 (.t 54)⟩,
    ⟨some 56, some (51, true), .mv (.t 2)⟩,
    ⟨some 57, some (51, true), .iaddr 3 (.t 55) (.t 56)⟩,
    ⟨some 58, some (51, true), .faddr 1 (.t 57)⟩,
    ⟨some 59, some (51, true), .load false 1 (.t 58)⟩,
    ⟨some 60, none, .pick (.t 51) (.t 59) (.c (.bool false))⟩,
    ⟨some 6, none, .mv (.t 60)⟩])
  (.ret))))⟩
theorem ok164 : FnOK Try.prog 164 v164 := ⟨⟨Try.f164, _, Try.func164, rfl, by kernel_rfl, rfl, by decide, by kernel_rfl, by kernel_rfl⟩⟩

/-- impl.Forest).kid -/
def v165 : VF := ⟨3, 20, [.t 6], true,
  .seq (.ops [⟨some 6, none, .mv (.c (.int .i64 0))⟩])
  (.seq (.seq (.ops [⟨some 7, none, .mv (.t 1)⟩,
    ⟨some 8, none, .bin .eql (.t 7) (.c (.int .i64 (-1)))⟩])
  (.cond (.t 8)
   (.seq (.ops [⟨some 6, none, .mv (.c (.int .i64 (-1)))⟩])
   (.ret))
   (.skip)))
  (.seq (.ops [⟨some 9, none, .mv (.t 0)⟩,
    ⟨some 10, none, .nilck (.t 9)⟩,
    ⟨some 11, none, .faddr 0 (.t 10)⟩,
    ⟨some 12, none, .load false 1 (.t 11)⟩,
    ⟨some 13, none, .mv (.t 1)⟩,
    ⟨some 14, none, .iaddr 3 (.t 12) (.t 13)⟩,
    ⟨some 15, none, .faddr 2 (.t 14)⟩,
    ⟨some 16, none, .load false 1 (.t 15)⟩,
    ⟨some 17, none, .mv (.t 2)⟩,
    ⟨some 18, none, .iaddr 1 (.t 16) (.t 17)⟩,
    ⟨some 19, none, .load false 1 (.t 18)⟩,
    ⟨some 6, none, .mv (.t 19)⟩])
  (.ret)))⟩
theorem ok165 : FnOK Try.prog 165 v165 := ⟨⟨Try.f165, _, Try.func165, rfl, by kernel_rfl, rfl, by decide, by kernel_rfl, by kernel_rfl⟩⟩

/-- spec.l4Leaf -/
def v166 : VF := ⟨3, 21, [.t 6], true,
  .seq (.ops [⟨some 6, none, .mv (.c (.int .i64 0))⟩])
  (.seq (.seq (.ops [⟨some 7, none, .mv (.t 1)⟩,
    ⟨some 8, none, .bin .lss (.t 7) (.c (.int .i64 0))⟩])
  (.cond (.t 8)
   (.seq (.ops [⟨some 6, none, .mv (.c (.int .i64 (-1)))⟩])
   (.ret))
   (.skip)))
  (.seq (.ops [⟨some 9, none, .mv (.t 0)⟩,
    ⟨some 10, none, .nilck (.t 9)⟩,
    ⟨some 11, none, .faddr 0 (.t 10)⟩,
    ⟨some 12, none, .load false 1 (.t 11)⟩,
    ⟨some 13, none, .mv (.t 1)⟩,
    ⟨some 14, none, .iaddr 3 (.t 12) (.t 13)⟩,
    ⟨some 15, none, .faddr 2 (.t 14)⟩,
    ⟨some 16, none, .load false 1 (.t 15)⟩,
    ⟨some 17, none, .mv (.t 2)⟩,
    ⟨some 18, none, .bin .quo (.t 17) (.c (.int .i64 4))⟩,
    ⟨some 19, none, .iaddr 1 (.t 16) (.t 18)⟩,
    ⟨some 20, none, .load false 1 (.t 19)⟩,
    ⟨some 6, none, .mv (.t 20)⟩])
  (.ret)))⟩
theorem ok166 : FnOK Try.prog 166 v166 := ⟨⟨Try.f166, _, Try.func166, rfl, by kernel_rfl, rfl, by decide, by kernel_rfl, by kernel_rfl⟩⟩
def env2 : Env := [(126, v126), (127, v127), (128, v128), (129, v129), (130, v130), (131, v131), (132, v132), (133, v133), (134, v134), (135, v135), (136, v136), (137, v137), (138, v138), (139, v139), (140, v140), (141, v141), (142, v142), (143, v143), (144, v144), (148, v148), (149, v149), (150, v150), (151, v151), (152, v152), (153, v153), (154, v154), (155, v155), (156, v156), (157, v157), (158, v158), (159, v159), (160, v160), (161, v161), (162, v162), (163, v163), (164, v164), (165, v165), (166, v166)]
theorem envOK2 : EnvOK Try.prog env2 := .cons ok126 (.cons ok127 (.cons ok128 (.cons ok129 (.cons ok130 (.cons ok131 (.cons ok132 (.cons ok133 (.cons ok134 (.cons ok135 (.cons ok136 (.cons ok137 (.cons ok138 (.cons ok139 (.cons ok140 (.cons ok141 (.cons ok142 (.cons ok143 (.cons ok144 (.cons ok148 (.cons ok149 (.cons ok150 (.cons ok151 (.cons ok152 (.cons ok153 (.cons ok154 (.cons ok155 (.cons ok156 (.cons ok157 (.cons ok158 (.cons ok159 (.cons ok160 (.cons ok161 (.cons ok162 (.cons ok163 (.cons ok164 (.cons ok165 (.cons ok166 (.nil))))))))))))))))))))))))))))))))))))))
end Go.Proofs.Ytflddpkmajoeaaa.V
