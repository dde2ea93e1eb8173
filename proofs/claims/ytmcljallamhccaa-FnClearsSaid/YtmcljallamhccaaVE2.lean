/- The machine's code of the program's functions; each is the program's own, by the kernel. Laid by a program (wip/v/vmgen.py). -/
import Derived.Test.YtmcljallamhccaaVMS
import Derived.Test.YtmcljallamhccaaProg
namespace Go.Proofs.Ytmcljallamhccaa.V
open Go
set_option maxRecDepth 100000
/-- spec.l4SetRoot -/
def v152 : VF := ⟨4, 94, [.t 8, .t 9], false,
  .seq (.ops [⟨some 8, none, .mv (.c (.int .i64 0))⟩,
    ⟨some 9, none, .mv (.c (.int .i64 0))⟩])
  (.seq (.ops [⟨some 14, none, .bslice 1 [] 0 []⟩,
    ⟨some 10, none, .mv (.t 14)⟩])
  (.seq (.seq (.ops [⟨some 15, none, .mv (.t 1)⟩,
    ⟨some 16, none, .bin .geq (.t 15) (.c (.int .i64 0))⟩])
  (.cond (.t 16)
   (.ops [⟨some 17, none, .mv (.t 0)⟩,
     ⟨some 18, none, .nilck (.t 17)⟩,
     ⟨some 19, none, .faddr 0 (.t 18)⟩,
     ⟨some 20, none, .load false 1 (.t 19)⟩,
     ⟨some 21, none, .mv (.t 1)⟩,
     ⟨some 22, none, .iaddr 3 (.t 20) (.t 21)⟩,
     ⟨some 23, none, .faddr 2 (.t 22)⟩,
     ⟨some 24, none, .load false 1 (.t 23)⟩,
     ⟨some 10, none, .mv (.t 24)⟩])
   (.skip)))
  (.seq (.ops [⟨some 25, none, .mv (.t 10)⟩,
    ⟨some 26, none, .mv (.t 2)⟩,
    ⟨some 27, none, .bin .quo (.t 26) (.c (.int .i64 4))⟩,
    ⟨some 28, none, .mv (.t 3)⟩,
    ⟨some 29, none, .call 160 [.t 25, .t 27, .t 28]⟩,
    ⟨some 11, none, .mv (.t 29)⟩])
  (.seq (.seq (.ops [⟨some 30, none, .mv (.t 11)⟩,
    ⟨some 31, none, .call 161 [.t 30]⟩])
  (.cond (.t 31)
   (.seq (.seq (.ops [⟨some 32, none, .mv (.t 1)⟩,
     ⟨some 33, none, .bin .geq (.t 32) (.c (.int .i64 0))⟩])
   (.cond (.t 33)
    (.ops [⟨some 34, none, .mv (.t 0)⟩,
      ⟨some 35, none, .mv (.t 1)⟩,
      ⟨some 36, none, .call 126 [.t 34, .t 35]⟩])
    (.skip)))
   (.seq (.ops [⟨some 8, none, .mv (.c (.int .i64 (-1)))⟩,
     ⟨some 9, none, .mv (.c (.int .i64 0))⟩])
   (.ret)))
   (.skip)))
  (.seq (.seq (.ops [⟨some 37, none, .mv (.t 1)⟩,
    ⟨some 38, none, .bin .geq (.t 37) (.c (.int .i64 0))⟩,
    ⟨some 39, none, .mv (.t 38)⟩,
    ⟨some 40, some (39, true), .mv (.t 0)⟩,
    ⟨some 41, some (39, true), .nilck (.t 40)⟩,
    ⟨some 42, some (39, true), .faddr 0 (.t 41)⟩,
    ⟨some 43, some (39, true), .load false 1 (.t 42)⟩,
    ⟨some 44, some (39, true), .mv (.t 1)⟩,
    ⟨some 45, some (39, true), .iaddr 3 (.t 43) (.t 44)⟩,
    ⟨some 46, some (39, true), .faddr 0 (.t 45)⟩,
    ⟨some 47, some (39, true), .load false 1 (.t 46)⟩,
    ⟨some 48, some (39, true), .bin .eql (.t 47) (.c (.int .i64 1))⟩,
    ⟨some 49, none, .pick (.t 39) (.t 48) (.c (.bool false))⟩])
  (.cond (.t 49)
   (.seq (.ops [⟨some 50, none, .mv (.t 10)⟩,
     ⟨some 51, none, .mv (.t 2)⟩,
     ⟨some 52, none, .bin .quo (.t 51) (.c (.int .i64 4))⟩,
     ⟨some 53, none, .iaddr 1 (.t 50) (.t 52)⟩,
     ⟨some 54, none, .load false 1 (.t 53)⟩,
     ⟨some 12, none, .mv (.t 54)⟩])
   (.seq (.ops [⟨some 55, none, .mv (.t 0)⟩,
     ⟨some 56, none, .nilck (.t 55)⟩,
     ⟨some 57, none, .faddr 0 (.t 56)⟩,
     ⟨some 58, none, .load false 1 (.t 57)⟩,
     ⟨some 59, none, .mv (.t 1)⟩,
     ⟨some 60, none, .mv (.t 11)⟩,
     ⟨some 61, none, .iaddr 3 (.t 58) (.t 59)⟩,
     ⟨some 62, none, .faddr 2 (.t 61)⟩,
     ⟨none, none, .store 1 (.t 62) (.t 60)⟩])
   (.seq (.seq (.ops [⟨some 63, none, .mv (.t 12)⟩,
     ⟨some 64, none, .bin .geq (.t 63) (.c (.int .i64 0))⟩,
     ⟨some 65, none, .mv (.t 64)⟩,
     ⟨some 66, some (65, true), .mv (.t 12)⟩,
     ⟨some 67, some (65, true), .mv (.t 3)⟩,
     ⟨some 68, some (65, true), .bin .neq (.t 66) (.t 67)⟩,
     ⟨some 69, none, .pick (.t 65) (.t 68) (.c (.bool false))⟩])
   (.cond (.t 69)
    (.ops [⟨some 70, none, .mv (.t 0)⟩,
      ⟨some 71, none, .mv (.t 12)⟩,
      ⟨some 72, none, .call 126 [.t 70, .t 71]⟩])
    (.skip)))
   (.seq (.ops [⟨some 73, none, .mv (.t 1)⟩,
     ⟨some 8, none, .mv (.t 73)⟩,
     ⟨some 9, none, .mv (.c (.int .i64 0))⟩])
   (.ret)))))
   (.skip)))
  (.seq (.ops [⟨some 74, none, .mv (.t 0)⟩,
    ⟨some 75, none, .mv (.t 11)⟩,
    ⟨some 76, none, .build [.int .i64 0, .bool false, .slice none 0 0] [(0, 1, .c (.int .i64 1)), (2, 1, .t 75)]⟩,
    ⟨some 77, none, .call 162 [.t 74, .t 76]⟩,
    ⟨some 13, none, .mv (.t 77)⟩])
  (.seq (.seq (.ops [⟨some 78, none, .mv (.t 13)⟩,
    ⟨some 79, none, .bin .lss (.t 78) (.c (.int .i64 0))⟩,
    ⟨some 80, none, .mv (.t 79)⟩,
    ⟨some 81, some (80, false), .mv (.t 0)⟩,
    ⟨some 82, some (80, false), .mv (.t 11)⟩,
    ⟨some 83, some (80, false), .mv (.t 2)⟩,
    ⟨some 84, some (80, false), .bin .quo (.t 83) (.c (.int .i64 4))⟩,
    ⟨some 85, some (80, false), .call 163 [.t 81, .c (.bool false), .t 82, .t 84]⟩,
    ⟨some 86, some (80, false), .not (.t 85)⟩,
    ⟨some 87, none, .pick (.t 80) (.c (.bool true)) (.t 86)⟩])
  (.cond (.t 87)
   (.seq (.ops [⟨some 8, none, .mv (.c (.int .i64 (-1)))⟩,
     ⟨some 9, none, .mv (.c (.int .i64 2))⟩])
   (.ret))
   (.skip)))
  (.seq (.seq (.ops [⟨some 88, none, .mv (.t 1)⟩,
    ⟨some 89, none, .bin .geq (.t 88) (.c (.int .i64 0))⟩])
  (.cond (.t 89)
   (.ops [⟨some 90, none, .mv (.t 0)⟩,
     ⟨some 91, none, .mv (.t 1)⟩,
     ⟨some 92, none, .call 126 [.t 90, .t 91]⟩])
   (.skip)))
  (.seq (.ops [⟨some 93, none, .mv (.t 13)⟩,
    ⟨some 8, none, .mv (.t 93)⟩,
    ⟨some 9, none, .mv (.c (.int .i64 0))⟩])
  (.ret))))))))))⟩
theorem ok152 : FnOK Try.prog 152 v152 := ⟨⟨Try.f152, _, Try.func152, rfl, by kernel_rfl, rfl, by decide, by kernel_rfl, by kernel_rfl⟩⟩

/-- impl.Forest).kidsWith -/
def v153 : VF := ⟨4, 28, [.t 8], true,
  .seq (.ops [⟨some 8, none, .mv (.c (.slice none 0 0))⟩])
  (.seq (.ops [⟨some 10, none, .bslice 1 [.int .i64 0, .int .i64 0, .int .i64 0, .int .i64 0] 4 [(0, 1, .c (.int .i64 (-1))), (1, 1, .c (.int .i64 (-1))), (2, 1, .c (.int .i64 (-1))), (3, 1, .c (.int .i64 (-1)))]⟩,
    ⟨some 9, none, .mv (.t 10)⟩])
  (.seq (.seq (.ops [⟨some 11, none, .mv (.t 1)⟩,
    ⟨some 12, none, .bin .neq (.t 11) (.c (.int .i64 (-1)))⟩])
  (.cond (.t 12)
   (.ops [⟨some 13, none, .mv (.t 9)⟩,
     ⟨some 14, none, .mv (.t 0)⟩,
     ⟨some 15, none, .nilck (.t 14)⟩,
     ⟨some 16, none, .faddr 0 (.t 15)⟩,
     ⟨some 17, none, .load false 1 (.t 16)⟩,
     ⟨some 18, none, .mv (.t 1)⟩,
     ⟨some 19, none, .iaddr 3 (.t 17) (.t 18)⟩,
     ⟨some 20, none, .faddr 2 (.t 19)⟩,
     ⟨some 21, none, .load false 1 (.t 20)⟩,
     ⟨some 22, none, .copy 1 (.t 13) (.t 21)⟩])
   (.skip)))
  (.seq (.ops [⟨some 23, none, .mv (.t 9)⟩,
    ⟨some 24, none, .mv (.t 2)⟩,
    ⟨some 25, none, .mv (.t 3)⟩,
    ⟨some 26, none, .iaddr 1 (.t 23) (.t 24)⟩,
    ⟨none, none, .store 1 (.t 26) (.t 25)⟩])
  (.seq (.ops [⟨some 27, none, .mv (.t 9)⟩,
    ⟨some 8, none, .mv (.t 27)⟩])
  (.ret)))))⟩
theorem ok153 : FnOK Try.prog 153 v153 := ⟨⟨Try.f153, _, Try.func153, rfl, by kernel_rfl, rfl, by decide, by kernel_rfl, by kernel_rfl⟩⟩

/-- impl.Forest).fresh -/
def l154_0 : VC :=
  .seq (.ops [⟨some 54, none, .bin .lss (.t 53) (.t 52)⟩])
  (.seq (.cond (.t 54)
   (.skip)
   (.exit 0))
  (.seq (.block 1 (.seq (.ops [⟨some 55, none, .mv (.t 53)⟩,
     ⟨some 56, none, .iaddr 1 (.t 51) (.t 53)⟩,
     ⟨some 57, none, .load false 1 (.t 56)⟩,
     ⟨some 11, none, .mv (.t 55)⟩,
     ⟨some 12, none, .mv (.t 57)⟩])
   (.seq (.ops [⟨some 13, none, .mv (.c (.int .i64 0))⟩])
   (.seq (.block 2 (.seq (.ops [⟨some 62, none, .mv (.t 12)⟩,
      ⟨some 63, none, .bin .eql (.t 62) (.c (.int .i64 (-1)))⟩,
      ⟨some 64, none, .mv (.t 63)⟩,
      ⟨some 65, some (64, false), .mv (.t 11)⟩,
      ⟨some 66, some (64, false), .mv (.t 3)⟩,
      ⟨some 67, some (64, false), .bin .eql (.t 65) (.t 66)⟩,
      ⟨some 68, none, .pick (.t 64) (.c (.bool true)) (.t 67)⟩,
      ⟨some 61, none, .mv (.t 68)⟩])
    (.cond (.t 61)
     (.skip)
     (.seq (.ops [⟨some 70, none, .mv (.t 1)⟩,
       ⟨some 69, none, .mv (.t 70)⟩])
     (.cond (.t 69)
      (.ops [⟨some 71, none, .mv (.t 0)⟩,
        ⟨some 72, none, .nilck (.t 71)⟩,
        ⟨some 73, none, .faddr 1 (.t 72)⟩,
        ⟨some 74, none, .load false 1 (.t 73)⟩,
        ⟨some 75, none, .mv (.t 12)⟩,
        ⟨some 76, none, .call 85 [.t 74, .t 75]⟩,
        ⟨some 13, none, .mv (.t 76)⟩])
      (.ops [⟨some 58, none, .mv (.t 0)⟩,
        ⟨some 59, none, .mv (.t 12)⟩,
        ⟨some 60, none, .call 125 [.t 58, .t 59]⟩,
        ⟨some 13, none, .mv (.t 60)⟩]))))))
   (.seq (.ops [⟨some 77, none, .mv (.t 13)⟩,
     ⟨some 78, none, .bin .neq (.t 77) (.c (.int .i64 0))⟩])
   (.cond (.t 78)
    (.seq (.ops [⟨some 79, none, .mv (.t 13)⟩,
      ⟨some 8, none, .mv (.c (.int .i64 0))⟩,
      ⟨some 9, none, .mv (.t 79)⟩])
    (.ret))
    (.skip)))))))
  (.ops [⟨some 80, none, .bin .add (.t 53) (.c (.int .i64 1))⟩,
    ⟨some 53, none, .mv (.t 80)⟩])))
def v154 : VF := ⟨4, 82, [.t 8, .t 9], false,
  .seq (.ops [⟨some 8, none, .mv (.c (.int .i64 0))⟩,
    ⟨some 9, none, .mv (.c (.int .i64 0))⟩])
  (.seq (.ops [⟨some 14, none, .mv (.t 0)⟩,
    ⟨some 15, none, .nilck (.t 14)⟩,
    ⟨some 16, none, .faddr 0 (.t 15)⟩,
    ⟨some 17, none, .load false 1 (.t 16)⟩,
    ⟨some 18, none, .call 164 [.t 17, .c (.func (.func 165) #[] #[])]⟩,
    ⟨some 10, none, .mv (.t 18)⟩])
  (.seq (.seq (.ops [⟨some 19, none, .mv (.t 10)⟩,
    ⟨some 20, none, .bin .lss (.t 19) (.c (.int .i64 0))⟩])
  (.cond (.t 20)
   (.seq (.seq (.ops [⟨some 21, none, .mv (.t 0)⟩,
     ⟨some 22, none, .nilck (.t 21)⟩,
     ⟨some 23, none, .faddr 0 (.t 22)⟩,
     ⟨some 24, none, .load false 1 (.t 23)⟩,
     ⟨some 25, none, .len (.t 24)⟩,
     ⟨some 26, none, .bin .eql (.t 25) (.c (.int .i64 60))⟩])
   (.cond (.t 26)
    (.seq (.ops [⟨some 8, none, .mv (.c (.int .i64 0))⟩,
      ⟨some 9, none, .mv (.c (.int .i64 2))⟩])
    (.ret))
    (.skip)))
   (.seq (.ops [⟨some 27, none, .mv (.t 0)⟩,
     ⟨some 28, none, .nilck (.t 27)⟩,
     ⟨some 29, none, .faddr 0 (.t 28)⟩,
     ⟨some 30, none, .load false 1 (.t 29)⟩,
     ⟨some 31, none, .len (.t 30)⟩,
     ⟨some 10, none, .mv (.t 31)⟩])
   (.ops [⟨some 32, none, .mv (.t 0)⟩,
     ⟨some 33, none, .mv (.t 0)⟩,
     ⟨some 34, none, .nilck (.t 33)⟩,
     ⟨some 35, none, .faddr 0 (.t 34)⟩,
     ⟨some 36, none, .load false 1 (.t 35)⟩,
     ⟨some 37, none, .build [.int .i64 0, .bool false, .slice none 0 0] []⟩,
     ⟨some 38, none, .bslice 3 [.int .i64 0, .bool false, .slice none 0 0] 1 [(0, 3, .t 37)]⟩,
     ⟨some 39, none, .append 3 40 (.t 36) (.t 38)⟩,
     ⟨some 40, none, .nilck (.t 32)⟩,
     ⟨some 41, none, .faddr 0 (.t 40)⟩,
     ⟨none, none, .store 1 (.t 41) (.t 39)⟩])))
   (.skip)))
  (.seq (.ops [⟨some 42, none, .mv (.t 0)⟩,
    ⟨some 43, none, .nilck (.t 42)⟩,
    ⟨some 44, none, .faddr 0 (.t 43)⟩,
    ⟨some 45, none, .load false 1 (.t 44)⟩,
    ⟨some 46, none, .mv (.t 10)⟩,
    ⟨some 47, none, .mv (.t 1)⟩,
    ⟨some 48, none, .mv (.t 2)⟩,
    ⟨some 49, none, .build [.int .i64 0, .bool false, .slice none 0 0] [(0, 1, .c (.int .i64 1)), (1, 1, .t 47), (2, 1, .t 48)]⟩,
    ⟨some 50, none, .iaddr 3 (.t 45) (.t 46)⟩,
    ⟨none, none, .store 3 (.t 50) (.t 49)⟩])
  (.seq (.seq (.ops [⟨some 51, none, .mv (.t 2)⟩,
    ⟨some 52, none, .len (.t 51)⟩,
    ⟨some 53, none, .mv (.c (.int .i64 0))⟩])
  (.block 0 (.loop [0, 1, 3, 10, 51, 52, 53] [8, 9, 10] l154_0)))
  (.seq (.ops [⟨some 81, none, .mv (.t 10)⟩,
    ⟨some 8, none, .mv (.t 81)⟩,
    ⟨some 9, none, .mv (.c (.int .i64 0))⟩])
  (.ret))))))⟩
theorem ok154 : FnOK Try.prog 154 v154 := ⟨⟨Try.f154, _, Try.func154, rfl, by kernel_rfl, rfl, by decide, by kernel_rfl, by kernel_rfl⟩⟩

/-- spec.l4Draw -/
def v155 : VF := ⟨1, 70, [.cell 2 true 2, .t 3], false,
  .seq (.ops [⟨some 2, none, .new [.slice none 0 0, .slice none 0 0]⟩,
    ⟨some 3, none, .mv (.c (.int .i64 0))⟩])
  (.seq (.ops [⟨some 8, none, .mv (.t 0)⟩,
    ⟨some 9, none, .call 166 [.t 8]⟩,
    ⟨some 7, none, .mv (.t 9)⟩,
    ⟨some 10, none, .ext 0 (.t 7)⟩,
    ⟨some 11, none, .ext 1 (.t 7)⟩,
    ⟨some 4, none, .new [.slice none 0 0, .slice none 0 0]⟩,
    ⟨none, none, .store 2 (.t 4) (.t 10)⟩,
    ⟨some 5, none, .mv (.t 11)⟩])
  (.seq (.ops [⟨some 12, none, .mv (.t 5)⟩,
    ⟨some 13, none, .mv (.t 0)⟩,
    ⟨some 14, none, .mv (.t 5)⟩,
    ⟨some 15, none, .len (.t 14)⟩,
    ⟨some 16, none, .call 96 [.t 13, .t 15]⟩,
    ⟨some 17, none, .iaddr 1 (.t 12) (.t 16)⟩,
    ⟨some 18, none, .load false 1 (.t 17)⟩,
    ⟨some 6, none, .mv (.t 18)⟩])
  (.seq (.seq (.ops [⟨some 19, none, .mv (.t 0)⟩,
    ⟨some 20, none, .call 96 [.t 19, .c (.int .i64 20)]⟩])
  (.block 0 (.seq (.ops [⟨some 22, none, .bin .eql (.t 20) (.c (.int .i64 0))⟩,
     ⟨some 21, none, .mv (.t 22)⟩])
   (.cond (.t 21)
    (.ops [⟨some 23, none, .mv (.t 0)⟩,
      ⟨some 24, none, .call 94 [.t 23]⟩,
      ⟨some 25, none, .faddr 1 (.t 4)⟩,
      ⟨none, none, .store 1 (.t 25) (.t 24)⟩])
    (.seq (.ops [⟨some 27, none, .bin .eql (.t 20) (.c (.int .i64 1))⟩,
      ⟨some 26, none, .mv (.t 27)⟩])
    (.cond (.t 26)
     (.seq (.ops [⟨some 28, none, .faddr 0 (.t 4)⟩,
       ⟨some 29, none, .load false 1 (.t 28)⟩,
       ⟨some 30, none, .len (.t 29)⟩,
       ⟨some 31, none, .bin .gtr (.t 30) (.c (.int .i64 0))⟩])
     (.cond (.t 31)
      (.drawD [0] [⟨some 32, none, .faddr 0 (.t 4)⟩,
        ⟨some 33, none, .load false 1 (.t 32)⟩,
        ⟨some 34, none, .mv (.t 0)⟩,
        ⟨some 35, none, .bslice 1 [.int .i64 0, .int .i64 0, .int .i64 0, .int .i64 0] 4 [(0, 1, .c (.int .i64 0)), (1, 1, .c (.int .i64 1)), (2, 1, .c (.int .i64 2)), (3, 1, .c (.int .i64 201))]⟩,
        ⟨some 36, none, .call 95 [.t 34, .t 35]⟩] [⟨some 37, none, .iaddr 3 (.t 33) (.c (.int .i64 0))⟩,
        ⟨some 38, none, .faddr 0 (.t 37)⟩,
        ⟨none, none, .store 1 (.t 38) (.t 36)⟩])
      (.skip)))
     (.seq (.ops [⟨some 40, none, .bin .eql (.t 20) (.c (.int .i64 2))⟩,
       ⟨some 39, none, .mv (.t 40)⟩])
     (.cond (.t 39)
      (.seq (.ops [⟨some 41, none, .faddr 0 (.t 4)⟩,
        ⟨some 42, none, .load false 1 (.t 41)⟩,
        ⟨some 43, none, .len (.t 42)⟩,
        ⟨some 44, none, .bin .gtr (.t 43) (.c (.int .i64 0))⟩,
        ⟨some 45, none, .mv (.t 44)⟩,
        ⟨some 46, some (45, true), .faddr 0 (.t 4)⟩,
        ⟨some 47, some (45, true), .load false 1 (.t 46)⟩,
        ⟨some 48, some (45, true), .iaddr 3 (.t 47) (.c (.int .i64 0))⟩,
        ⟨some 49, some (45, true), .faddr 2 (.t 48)⟩,
        ⟨some 50, some (45, true), .load false 1 (.t 49)⟩,
        ⟨some 51, some (45, true), .len (.t 50)⟩,
        ⟨some 52, some (45, true), .bin .gtr (.t 51) (.c (.int .i64 0))⟩,
        ⟨some 53, none, .pick (.t 45) (.t 52) (.c (.bool false))⟩])
      (.cond (.t 53)
       (.drawD [0] [⟨some 54, none, .faddr 0 (.t 4)⟩,
         ⟨some 55, none, .load false 1 (.t 54)⟩,
         ⟨some 56, none, .iaddr 3 (.t 55) (.c (.int .i64 0))⟩,
         ⟨some 57, none, .faddr 2 (.t 56)⟩,
         ⟨some 58, none, .load false 1 (.t 57)⟩,
         ⟨some 59, none, .mv (.t 0)⟩,
         ⟨some 60, none, .bslice 1 [.int .i64 0, .int .i64 0, .int .i64 0, .int .i64 0] 4 [(0, 1, .c (.int .i64 (-1))), (1, 1, .c (.int .i64 0)), (2, 1, .c (.int .i64 3)), (3, 1, .c (.int .i64 30))]⟩,
         ⟨some 61, none, .call 95 [.t 59, .t 60]⟩] [⟨some 62, none, .iaddr 1 (.t 58) (.c (.int .i64 1))⟩,
         ⟨none, none, .store 1 (.t 62) (.t 61)⟩])
       (.skip)))
      (.seq (.ops [⟨some 64, none, .bin .eql (.t 20) (.c (.int .i64 3))⟩,
        ⟨some 63, none, .mv (.t 64)⟩])
      (.cond (.t 63)
       (.ops [⟨some 65, none, .mv (.t 0)⟩,
         ⟨some 66, none, .bslice 1 [.int .i64 0, .int .i64 0, .int .i64 0, .int .i64 0] 4 [(0, 1, .c (.int .i64 (-2))), (1, 1, .c (.int .i64 0)), (2, 1, .c (.int .i64 1)), (3, 1, .c (.int .i64 60))]⟩,
         ⟨some 67, none, .call 95 [.t 65, .t 66]⟩,
         ⟨some 6, none, .mv (.t 67)⟩])
       (.skip)))))))))))
  (.seq (.ops [⟨some 68, none, .load true 2 (.t 4)⟩,
    ⟨some 69, none, .mv (.t 6)⟩,
    ⟨none, none, .store 2 (.t 2) (.t 68)⟩,
    ⟨some 3, none, .mv (.t 69)⟩])
  (.ret)))))⟩
theorem ok155 : FnOK Try.prog 155 v155 := ⟨⟨Try.f155, _, Try.func155, rfl, by kernel_rfl, rfl, by decide, by kernel_rfl, by kernel_rfl⟩⟩

/-- spec.l4Kid -/
def v158 : VF := ⟨3, 61, [.t 6], true,
  .seq (.ops [⟨some 6, none, .mv (.c (.bool false))⟩])
  (.seq (.seq (.ops [⟨some 7, none, .mv (.t 2)⟩,
    ⟨some 8, none, .bin .eql (.t 7) (.c (.int .i64 (-1)))⟩])
  (.cond (.t 8)
   (.seq (.ops [⟨some 6, none, .mv (.c (.bool true))⟩])
   (.ret))
   (.skip)))
  (.seq (.seq (.ops [⟨some 9, none, .mv (.t 1)⟩,
    ⟨some 10, none, .nilck (.t 9)⟩,
    ⟨some 11, none, .faddr 1 (.t 10)⟩,
    ⟨some 12, none, .load false 1 (.t 11)⟩])
  (.cond (.t 12)
   (.seq (.ops [⟨some 13, none, .mv (.t 2)⟩,
     ⟨some 14, none, .mv (.t 0)⟩,
     ⟨some 15, none, .nilck (.t 14)⟩,
     ⟨some 16, none, .faddr 1 (.t 15)⟩,
     ⟨some 17, none, .load false 1 (.t 16)⟩,
     ⟨some 18, none, .len (.t 17)⟩,
     ⟨some 19, none, .bin .sub (.t 18) (.c (.int .i64 1))⟩,
     ⟨some 20, none, .call 75 [.t 13, .c (.int .i64 0), .t 19]⟩,
     ⟨some 21, none, .mv (.t 20)⟩,
     ⟨some 22, some (21, true), .mv (.t 0)⟩,
     ⟨some 23, some (21, true), .nilck (.t 22)⟩,
     ⟨some 24, some (21, true), .faddr 1 (.t 23)⟩,
     ⟨some 25, some (21, true), .load false 1 (.t 24)⟩,
     ⟨some 26, some (21, true), .mv (.t 2)⟩,
     ⟨some 27, some (21, true), .iaddr 2 (.t 25) (.t 26)⟩,
     ⟨some 28, some (21, true), .faddr 0 (.t 27)⟩,
     ⟨some 29, some (21, true), .load false 1 (.t 28)⟩,
     ⟨some 30, some (21, true), .bin .gtr (.t 29) (.c (.int .i64 0))⟩,
     ⟨some 31, none, .pick (.t 21) (.t 30) (.c (.bool false))⟩,
     ⟨some 6, none, .mv (.t 31)⟩])
   (.ret))
   (.skip)))
  (.seq (.ops [⟨some 32, none, .mv (.t 2)⟩,
    ⟨some 33, none, .mv (.t 0)⟩,
    ⟨some 34, none, .nilck (.t 33)⟩,
    ⟨some 35, none, .faddr 0 (.t 34)⟩,
    ⟨some 36, none, .load false 1 (.t 35)⟩,
    ⟨some 37, none, .len (.t 36)⟩,
    ⟨some 38, none, .bin .sub (.t 37) (.c (.int .i64 1))⟩,
    ⟨some 39, none, .call 75 [.t 32, .c (.int .i64 0), .t 38]⟩,
    ⟨some 40, none, .mv (.t 39)⟩,
    ⟨some 41, some (40, true), .mv (.t 0)⟩,
    ⟨some 42, some (40, true), .nilck (.t 41)⟩,
    ⟨some 43, some (40, true), .faddr 0 (.t 42)⟩,
    ⟨some 44, some (40, true), .load false 1 (.t 43)⟩,
    ⟨some 45, some (40, true), .mv (.t 2)⟩,
    ⟨some 46, some (40, true), .iaddr 3 (.t 44) (.t 45)⟩,
    ⟨some 47, some (40, true), .faddr 0 (.t 46)⟩,
    ⟨some 48, some (40, true), .load false 1 (.t 47)⟩,
    ⟨some 49, some (40, true), .bin .gtr (.t 48) (.c (.int .i64 0))⟩,
    ⟨some 50, none, .pick (.t 40) (.t 49) (.c (.bool false))⟩,
    ⟨some 51, none, .mv (.t 50)⟩,
    ⟨some 52, some (51, true), .mv (.t 0)⟩,
    ⟨some 53, some (51, true), .nilck (.t 52)⟩,
    ⟨some 54, some (51, true), .faddr 0 (.t 53)⟩,
    ⟨some 55, some (51, true), .load false 1 (.t 54)⟩,
    ⟨some 56, some (51, true), .mv (.t 2)⟩,
    ⟨some 57, some (51, true), .iaddr 3 (.t 55) (.t 56)⟩,
    ⟨some 58, some (51, true), .faddr 1 (.t 57)⟩,
    ⟨some 59, some (51, true), .load false 1 (.t 58)⟩,
    ⟨some 60, none, .pick (.t 51) (.t 59) (.c (.bool false))⟩,
    ⟨some 6, none, .mv (.t 60)⟩])
  (.ret))))⟩
theorem ok158 : FnOK Try.prog 158 v158 := ⟨⟨Try.f158, _, Try.func158, rfl, by kernel_rfl, rfl, by decide, by kernel_rfl, by kernel_rfl⟩⟩

/-- spec.l4With -/
def l160_0 : VC :=
  .seq (.seq (.ops [⟨some 10, none, .mv (.t 8)⟩,
    ⟨some 11, none, .mv (.t 0)⟩,
    ⟨some 12, none, .len (.t 11)⟩,
    ⟨some 13, none, .bin .lss (.t 10) (.t 12)⟩])
  (.cond (.t 13)
   (.skip)
   (.exit 0)))
  (.seq (.block 1 (.ops [⟨some 16, none, .mv (.t 7)⟩,
     ⟨some 17, none, .mv (.t 8)⟩,
     ⟨some 18, none, .mv (.t 0)⟩,
     ⟨some 19, none, .mv (.t 8)⟩,
     ⟨some 20, none, .iaddr 1 (.t 18) (.t 19)⟩,
     ⟨some 21, none, .load false 1 (.t 20)⟩,
     ⟨some 22, none, .iaddr 1 (.t 16) (.t 17)⟩,
     ⟨none, none, .store 1 (.t 22) (.t 21)⟩]))
  (.ops [⟨some 14, none, .mv (.t 8)⟩,
    ⟨some 15, none, .bin .add (.t 14) (.c (.int .i64 1))⟩,
    ⟨some 8, none, .mv (.t 15)⟩]))
def v160 : VF := ⟨3, 28, [.t 6], true,
  .seq (.ops [⟨some 6, none, .mv (.c (.slice none 0 0))⟩])
  (.seq (.ops [⟨some 9, none, .bslice 1 [.int .i64 0, .int .i64 0, .int .i64 0, .int .i64 0] 4 [(0, 1, .c (.int .i64 (-1))), (1, 1, .c (.int .i64 (-1))), (2, 1, .c (.int .i64 (-1))), (3, 1, .c (.int .i64 (-1)))]⟩,
    ⟨some 7, none, .mv (.t 9)⟩])
  (.seq (.seq (.ops [⟨some 8, none, .mv (.c (.int .i64 0))⟩])
  (.block 0 (.loop [0, 1, 2, 7, 8] [1, 2, 6, 7] l160_0)))
  (.seq (.ops [⟨some 23, none, .mv (.t 7)⟩,
    ⟨some 24, none, .mv (.t 1)⟩,
    ⟨some 25, none, .mv (.t 2)⟩,
    ⟨some 26, none, .iaddr 1 (.t 23) (.t 24)⟩,
    ⟨none, none, .store 1 (.t 26) (.t 25)⟩])
  (.seq (.ops [⟨some 27, none, .mv (.t 7)⟩,
    ⟨some 6, none, .mv (.t 27)⟩])
  (.ret)))))⟩
theorem ok160 : FnOK Try.prog 160 v160 := ⟨⟨Try.f160, _, Try.func160, rfl, by kernel_rfl, rfl, by decide, by kernel_rfl, by kernel_rfl⟩⟩

/-- spec.l4None -/
def l161_0 : VC :=
  .seq (.seq (.ops [⟨some 4, none, .mv (.t 3)⟩,
    ⟨some 5, none, .mv (.t 0)⟩,
    ⟨some 6, none, .len (.t 5)⟩,
    ⟨some 7, none, .bin .lss (.t 4) (.t 6)⟩])
  (.cond (.t 7)
   (.skip)
   (.exit 0)))
  (.seq (.block 1 (.seq (.ops [⟨some 10, none, .mv (.t 0)⟩,
     ⟨some 11, none, .mv (.t 3)⟩,
     ⟨some 12, none, .iaddr 1 (.t 10) (.t 11)⟩,
     ⟨some 13, none, .load false 1 (.t 12)⟩,
     ⟨some 14, none, .bin .geq (.t 13) (.c (.int .i64 0))⟩])
   (.cond (.t 14)
    (.seq (.ops [⟨some 2, none, .mv (.c (.bool false))⟩])
    (.ret))
    (.skip))))
  (.ops [⟨some 8, none, .mv (.t 3)⟩,
    ⟨some 9, none, .bin .add (.t 8) (.c (.int .i64 1))⟩,
    ⟨some 3, none, .mv (.t 9)⟩]))
def v161 : VF := ⟨1, 15, [.t 2], true,
  .seq (.ops [⟨some 2, none, .mv (.c (.bool false))⟩])
  (.seq (.seq (.ops [⟨some 3, none, .mv (.c (.int .i64 0))⟩])
  (.block 0 (.loop [0, 3] [2] l161_0)))
  (.seq (.ops [⟨some 2, none, .mv (.c (.bool true))⟩])
  (.ret)))⟩
theorem ok161 : FnOK Try.prog 161 v161 := ⟨⟨Try.f161, _, Try.func161, rfl, by kernel_rfl, rfl, by decide, by kernel_rfl, by kernel_rfl⟩⟩

/-- spec.l4New -/
def l162_0 : VC :=
  .seq (.seq (.ops [⟨some 6, none, .mv (.t 5)⟩,
    ⟨some 7, none, .mv (.t 0)⟩,
    ⟨some 8, none, .nilck (.t 7)⟩,
    ⟨some 9, none, .faddr 0 (.t 8)⟩,
    ⟨some 10, none, .load false 1 (.t 9)⟩,
    ⟨some 11, none, .len (.t 10)⟩,
    ⟨some 12, none, .bin .lss (.t 6) (.t 11)⟩])
  (.cond (.t 12)
   (.skip)
   (.exit 0)))
  (.seq (.block 1 (.seq (.ops [⟨some 15, none, .mv (.t 0)⟩,
     ⟨some 16, none, .nilck (.t 15)⟩,
     ⟨some 17, none, .faddr 0 (.t 16)⟩,
     ⟨some 18, none, .load false 1 (.t 17)⟩,
     ⟨some 19, none, .mv (.t 5)⟩,
     ⟨some 20, none, .iaddr 3 (.t 18) (.t 19)⟩,
     ⟨some 21, none, .faddr 0 (.t 20)⟩,
     ⟨some 22, none, .load false 1 (.t 21)⟩,
     ⟨some 23, none, .bin .eql (.t 22) (.c (.int .i64 0))⟩])
   (.cond (.t 23)
    (.seq (.draw [⟨some 24, none, .mv (.t 0)⟩,
      ⟨some 25, none, .nilck (.t 24)⟩,
      ⟨some 26, none, .faddr 0 (.t 25)⟩,
      ⟨some 27, none, .load false 1 (.t 26)⟩,
      ⟨some 28, none, .mv (.t 5)⟩,
      ⟨some 29, none, .load true 3 (.t 3)⟩] [⟨some 30, none, .iaddr 3 (.t 27) (.t 28)⟩,
      ⟨none, none, .store 3 (.t 30) (.t 29)⟩])
    (.seq (.ops [⟨some 31, none, .mv (.t 5)⟩,
      ⟨some 4, none, .mv (.t 31)⟩])
    (.ret)))
    (.skip))))
  (.ops [⟨some 13, none, .mv (.t 5)⟩,
    ⟨some 14, none, .bin .add (.t 13) (.c (.int .i64 1))⟩,
    ⟨some 5, none, .mv (.t 14)⟩]))
def v162 : VF := ⟨2, 54, [.t 4], false,
  .seq (.ops [⟨some 3, none, .box (.t 1)⟩,
    ⟨some 4, none, .mv (.c (.int .i64 0))⟩])
  (.seq (.seq (.ops [⟨some 5, none, .mv (.c (.int .i64 0))⟩])
  (.block 0 (.loop [0, 3, 5] [0, 3, 4] l162_0)))
  (.seq (.seq (.ops [⟨some 32, none, .mv (.t 0)⟩,
    ⟨some 33, none, .nilck (.t 32)⟩,
    ⟨some 34, none, .faddr 0 (.t 33)⟩,
    ⟨some 35, none, .load false 1 (.t 34)⟩,
    ⟨some 36, none, .len (.t 35)⟩,
    ⟨some 37, none, .bin .geq (.t 36) (.c (.int .i64 60))⟩])
  (.cond (.t 37)
   (.seq (.ops [⟨some 4, none, .mv (.c (.int .i64 (-1)))⟩])
   (.ret))
   (.skip)))
  (.seq (.draw [⟨some 38, none, .mv (.t 0)⟩,
    ⟨some 39, none, .mv (.t 0)⟩,
    ⟨some 40, none, .nilck (.t 39)⟩,
    ⟨some 41, none, .faddr 0 (.t 40)⟩,
    ⟨some 42, none, .load false 1 (.t 41)⟩,
    ⟨some 43, none, .load true 3 (.t 3)⟩,
    ⟨some 44, none, .bslice 3 [.int .i64 0, .bool false, .slice none 0 0] 1 [(0, 3, .t 43)]⟩,
    ⟨some 45, none, .append 3 40 (.t 42) (.t 44)⟩] [⟨some 46, none, .nilck (.t 38)⟩,
    ⟨some 47, none, .faddr 0 (.t 46)⟩,
    ⟨none, none, .store 1 (.t 47) (.t 45)⟩])
  (.seq (.ops [⟨some 48, none, .mv (.t 0)⟩,
    ⟨some 49, none, .nilck (.t 48)⟩,
    ⟨some 50, none, .faddr 0 (.t 49)⟩,
    ⟨some 51, none, .load false 1 (.t 50)⟩,
    ⟨some 52, none, .len (.t 51)⟩,
    ⟨some 53, none, .bin .sub (.t 52) (.c (.int .i64 1))⟩,
    ⟨some 4, none, .mv (.t 53)⟩])
  (.ret)))))⟩
theorem ok162 : FnOK Try.prog 162 v162 := ⟨⟨Try.f162, _, Try.func162, rfl, by kernel_rfl, rfl, by decide, by kernel_rfl, by kernel_rfl⟩⟩

/-- spec.l4More -/
def l163_0 : VC :=
  .seq (.seq (.ops [⟨some 10, none, .mv (.t 9)⟩,
    ⟨some 11, none, .bin .lss (.t 10) (.c (.int .i64 4))⟩])
  (.cond (.t 11)
   (.skip)
   (.exit 0)))
  (.seq (.block 1 (.seq (.seq (.ops [⟨some 14, none, .mv (.t 9)⟩,
     ⟨some 15, none, .mv (.t 3)⟩,
     ⟨some 16, none, .bin .eql (.t 14) (.t 15)⟩,
     ⟨some 17, none, .mv (.t 16)⟩,
     ⟨some 18, some (17, false), .mv (.t 2)⟩,
     ⟨some 19, some (17, false), .mv (.t 9)⟩,
     ⟨some 20, some (17, false), .iaddr 1 (.t 18) (.t 19)⟩,
     ⟨some 21, some (17, false), .load false 1 (.t 20)⟩,
     ⟨some 22, some (17, false), .bin .lss (.t 21) (.c (.int .i64 0))⟩,
     ⟨some 23, none, .pick (.t 17) (.c (.bool true)) (.t 22)⟩])
   (.cond (.t 23)
    (.exit 1)
    (.skip)))
   (.seq (.ops [⟨some 24, none, .mv (.t 1)⟩])
   (.cond (.t 24)
    (.seq (.seq (.draw [⟨some 25, none, .mv (.t 0)⟩,
      ⟨some 26, none, .nilck (.t 25)⟩,
      ⟨some 27, none, .faddr 1 (.t 26)⟩,
      ⟨some 28, none, .load false 1 (.t 27)⟩,
      ⟨some 29, none, .mv (.t 2)⟩,
      ⟨some 30, none, .mv (.t 9)⟩,
      ⟨some 31, none, .iaddr 1 (.t 29) (.t 30)⟩,
      ⟨some 32, none, .load false 1 (.t 31)⟩] [⟨some 33, none, .iaddr 2 (.t 28) (.t 32)⟩,
      ⟨some 34, none, .faddr 0 (.t 33)⟩,
      ⟨some 35, none, .load false 1 (.t 34)⟩,
      ⟨some 36, none, .bin .geq (.t 35) (.c (.int .i64 200))⟩])
    (.cond (.t 36)
     (.seq (.ops [⟨some 8, none, .mv (.c (.bool false))⟩])
     (.ret))
     (.skip)))
    (.draw [⟨some 37, none, .mv (.t 0)⟩,
      ⟨some 38, none, .nilck (.t 37)⟩,
      ⟨some 39, none, .faddr 1 (.t 38)⟩,
      ⟨some 40, none, .load false 1 (.t 39)⟩,
      ⟨some 41, none, .mv (.t 2)⟩,
      ⟨some 42, none, .mv (.t 9)⟩,
      ⟨some 43, none, .iaddr 1 (.t 41) (.t 42)⟩,
      ⟨some 44, none, .load false 1 (.t 43)⟩] [⟨some 45, none, .iaddr 2 (.t 40) (.t 44)⟩,
      ⟨some 46, none, .faddr 0 (.t 45)⟩,
      ⟨some 47, none, .load false 1 (.t 46)⟩,
      ⟨some 48, none, .bin .add (.t 47) (.c (.int .i64 1))⟩,
      ⟨some 49, none, .iaddr 2 (.t 40) (.t 44)⟩,
      ⟨some 50, none, .faddr 0 (.t 49)⟩,
      ⟨none, none, .store 1 (.t 50) (.t 48)⟩]))
    (.seq (.seq (.draw [⟨some 51, none, .mv (.t 0)⟩,
      ⟨some 52, none, .nilck (.t 51)⟩,
      ⟨some 53, none, .faddr 0 (.t 52)⟩,
      ⟨some 54, none, .load false 1 (.t 53)⟩,
      ⟨some 55, none, .mv (.t 2)⟩,
      ⟨some 56, none, .mv (.t 9)⟩,
      ⟨some 57, none, .iaddr 1 (.t 55) (.t 56)⟩,
      ⟨some 58, none, .load false 1 (.t 57)⟩] [⟨some 59, none, .iaddr 3 (.t 54) (.t 58)⟩,
      ⟨some 60, none, .faddr 0 (.t 59)⟩,
      ⟨some 61, none, .load false 1 (.t 60)⟩,
      ⟨some 62, none, .bin .geq (.t 61) (.c (.int .i64 200))⟩])
    (.cond (.t 62)
     (.seq (.ops [⟨some 8, none, .mv (.c (.bool false))⟩])
     (.ret))
     (.skip)))
    (.draw [⟨some 63, none, .mv (.t 0)⟩,
      ⟨some 64, none, .nilck (.t 63)⟩,
      ⟨some 65, none, .faddr 0 (.t 64)⟩,
      ⟨some 66, none, .load false 1 (.t 65)⟩,
      ⟨some 67, none, .mv (.t 2)⟩,
      ⟨some 68, none, .mv (.t 9)⟩,
      ⟨some 69, none, .iaddr 1 (.t 67) (.t 68)⟩,
      ⟨some 70, none, .load false 1 (.t 69)⟩] [⟨some 71, none, .iaddr 3 (.t 66) (.t 70)⟩,
      ⟨some 72, none, .faddr 0 (.t 71)⟩,
      ⟨some 73, none, .load false 1 (.t 72)⟩,
      ⟨some 74, none, .bin .add (.t 73) (.c (.int .i64 1))⟩,
      ⟨some 75, none, .iaddr 3 (.t 66) (.t 70)⟩,
      ⟨some 76, none, .faddr 0 (.t 75)⟩,
      ⟨none, none, .store 1 (.t 76) (.t 74)⟩]))))))
  (.ops [⟨some 12, none, .mv (.t 9)⟩,
    ⟨some 13, none, .bin .add (.t 12) (.c (.int .i64 1))⟩,
    ⟨some 9, none, .mv (.t 13)⟩]))
def v163 : VF := ⟨4, 77, [.t 8], false,
  .seq (.ops [⟨some 8, none, .mv (.c (.bool false))⟩])
  (.seq (.seq (.ops [⟨some 9, none, .mv (.c (.int .i64 0))⟩])
  (.block 0 (.loop [0, 1, 2, 3, 9] [8] l163_0)))
  (.seq (.ops [⟨some 8, none, .mv (.c (.bool true))⟩])
  (.ret)))⟩
theorem ok163 : FnOK Try.prog 163 v163 := ⟨⟨Try.f163, _, Try.func163, rfl, by kernel_rfl, rfl, by decide, by kernel_rfl, by kernel_rfl⟩⟩

/-- impl.Node] -/
def l164_0 : VC :=
  .seq (.ops [⟨some 9, none, .bin .lss (.t 8) (.t 7)⟩])
  (.seq (.cond (.t 9)
   (.skip)
   (.exit 0))
  (.seq (.block 1 (.seq (.ops [⟨some 10, none, .mv (.t 8)⟩,
     ⟨some 5, none, .mv (.t 10)⟩])
   (.seq (.ops [⟨some 11, none, .mv (.t 1)⟩,
     ⟨some 12, none, .mv (.t 0)⟩,
     ⟨some 13, none, .mv (.t 5)⟩,
     ⟨some 14, none, .iaddr 3 (.t 12) (.t 13)⟩,
     ⟨some 15, none, .load true 3 (.t 14)⟩,
     ⟨some 16, none, .callv (.t 11) [.t 15]⟩])
   (.cond (.t 16)
    (.seq (.ops [⟨some 17, none, .mv (.t 5)⟩,
      ⟨some 4, none, .mv (.t 17)⟩])
    (.ret))
    (.skip)))))
  (.ops [⟨some 18, none, .bin .add (.t 8) (.c (.int .i64 1))⟩,
    ⟨some 8, none, .mv (.t 18)⟩])))
def v164 : VF := ⟨2, 19, [.t 4], true,
  .seq (.ops [⟨some 4, none, .mv (.c (.int .i64 0))⟩])
  (.seq (.seq (.ops [⟨some 6, none, .mv (.t 0)⟩,
    ⟨some 7, none, .len (.t 6)⟩,
    ⟨some 8, none, .mv (.c (.int .i64 0))⟩])
  (.block 0 (.loop [0, 1, 7, 8] [4] l164_0)))
  (.seq (.ops [⟨some 4, none, .mv (.c (.int .i64 (-1)))⟩])
  (.ret)))⟩
theorem ok164 : FnOK Try.prog 164 v164 := ⟨⟨Try.f164, _, Try.func164, rfl, by kernel_rfl, rfl, by decide, by kernel_rfl, by kernel_rfl⟩⟩

/-- impl.Forest).fresh$1 -/
def v165 : VF := ⟨1, 6, [.t 2], true,
  .seq (.ops [⟨some 1, none, .box (.t 0)⟩,
    ⟨some 2, none, .mv (.c (.bool false))⟩])
  (.seq (.ops [⟨some 3, none, .faddr 0 (.t 1)⟩,
    ⟨some 4, none, .load false 1 (.t 3)⟩,
    ⟨some 5, none, .bin .eql (.t 4) (.c (.int .i64 0))⟩,
    ⟨some 2, none, .mv (.t 5)⟩])
  (.ret))⟩
theorem ok165 : FnOK Try.prog 165 v165 := ⟨⟨Try.f165, _, Try.func165, rfl, by kernel_rfl, rfl, by decide, by kernel_rfl, by kernel_rfl⟩⟩

/-- spec.l4Right -/
def l166_0 : VC :=
  .seq (.seq (.ops [⟨some 17, none, .mv (.t 6)⟩,
    ⟨some 18, none, .bin .gtr (.t 17) (.c (.int .i64 0))⟩])
  (.cond (.t 18)
   (.skip)
   (.exit 0)))
  (.seq (.block 1 (.seq (.ops [⟨some 21, none, .mv (.t 0)⟩,
     ⟨some 22, none, .mv (.t 5)⟩,
     ⟨some 23, none, .len (.t 22)⟩,
     ⟨some 24, none, .call 96 [.t 21, .t 23]⟩,
     ⟨some 7, none, .mv (.t 24)⟩])
   (.seq (.ops [⟨some 25, none, .build [.int .i64 0, .int .i64 0, .slice none 0 0, .slice none 0 0] []⟩,
     ⟨some 8, none, .new [.int .i64 0, .int .i64 0, .slice none 0 0, .slice none 0 0]⟩,
     ⟨none, none, .store 4 (.t 8) (.t 25)⟩])
   (.seq (.seq (.ops [⟨some 26, none, .mv (.t 0)⟩,
     ⟨some 27, none, .call 96 [.t 26, .c (.int .i64 7)]⟩])
   (.block 2 (.seq (.ops [⟨some 39, none, .bin .eql (.t 27) (.c (.int .i64 0))⟩,
      ⟨some 38, none, .mv (.t 39)⟩])
    (.cond (.t 38)
     (.seq (.seq (.ops [⟨some 40, none, .mv (.t 5)⟩,
       ⟨some 41, none, .len (.t 40)⟩,
       ⟨some 42, none, .bin .lss (.t 41) (.c (.int .i64 4))⟩])
     (.cond (.t 42)
      (.seq (.draw [⟨some 43, none, .load true 2 (.t 4)⟩,
        ⟨some 44, none, .mv (.t 5)⟩,
        ⟨some 45, none, .mv (.t 7)⟩,
        ⟨some 46, none, .iaddr 1 (.t 44) (.t 45)⟩,
        ⟨some 47, none, .load false 1 (.t 46)⟩] [⟨some 48, none, .call 64 [.t 43, .t 47]⟩,
        ⟨none, none, .store 4 (.t 8) (.t 48)⟩])
      (.seq (.ops [⟨some 49, none, .faddr 0 (.t 8)⟩,
        ⟨some 50, none, .load false 1 (.t 49)⟩,
        ⟨some 51, none, .bin .eql (.t 50) (.c (.int .i64 0))⟩])
      (.cond (.t 51)
       (.seq (.ops [⟨some 52, none, .faddr 2 (.t 8)⟩,
         ⟨some 53, none, .load true 2 (.t 52)⟩,
         ⟨none, none, .store 2 (.t 4) (.t 53)⟩])
       (.ops [⟨some 54, none, .mv (.t 5)⟩,
         ⟨some 55, none, .faddr 1 (.t 8)⟩,
         ⟨some 56, none, .load false 1 (.t 55)⟩,
         ⟨some 57, none, .bslice 1 [.int .i64 0] 1 [(0, 1, .t 56)]⟩,
         ⟨some 58, none, .append 1 8 (.t 54) (.t 57)⟩,
         ⟨some 5, none, .mv (.t 58)⟩]))
       (.skip))))
      (.skip)))
     (.exit 1))
     (.seq (.ops [⟨some 60, none, .bin .eql (.t 27) (.c (.int .i64 1))⟩,
       ⟨some 59, none, .mv (.t 60)⟩])
     (.cond (.t 59)
      (.drawD [0] [⟨some 61, none, .load true 2 (.t 4)⟩,
        ⟨some 62, none, .mv (.t 5)⟩,
        ⟨some 63, none, .mv (.t 7)⟩,
        ⟨some 64, none, .iaddr 1 (.t 62) (.t 63)⟩,
        ⟨some 65, none, .load false 1 (.t 64)⟩,
        ⟨some 66, none, .mv (.t 0)⟩,
        ⟨some 67, none, .call 96 [.t 66, .c (.int .i64 16)]⟩] [⟨some 68, none, .call 68 [.t 61, .t 65, .t 67]⟩,
        ⟨none, none, .store 4 (.t 8) (.t 68)⟩])
      (.seq (.ops [⟨some 70, none, .bin .eql (.t 27) (.c (.int .i64 2))⟩,
        ⟨some 69, none, .mv (.t 70)⟩])
      (.cond (.t 69)
       (.seq (.seq (.ops [⟨some 71, none, .mv (.t 0)⟩,
         ⟨some 72, none, .call 133 [.t 71, .c (.int .i64 3)]⟩,
         ⟨some 73, none, .not (.t 72)⟩])
       (.cond (.t 73)
        (.exit 1)
        (.skip)))
       (.draw [⟨some 74, none, .load true 2 (.t 4)⟩,
         ⟨some 75, none, .mv (.t 5)⟩,
         ⟨some 76, none, .mv (.t 7)⟩,
         ⟨some 77, none, .iaddr 1 (.t 75) (.t 76)⟩,
         ⟨some 78, none, .load false 1 (.t 77)⟩] [⟨some 79, none, .call 66 [.t 74, .t 78]⟩,
         ⟨none, none, .store 4 (.t 8) (.t 79)⟩]))
       (.drawD [0] [⟨some 28, none, .load true 2 (.t 4)⟩,
         ⟨some 29, none, .mv (.t 5)⟩,
         ⟨some 30, none, .mv (.t 7)⟩,
         ⟨some 31, none, .iaddr 1 (.t 29) (.t 30)⟩,
         ⟨some 32, none, .load false 1 (.t 31)⟩,
         ⟨some 33, none, .mv (.t 0)⟩,
         ⟨some 34, none, .call 96 [.t 33, .c (.int .i64 16)]⟩,
         ⟨some 35, none, .mv (.t 0)⟩,
         ⟨some 36, none, .call 96 [.t 35, .c (.int .i64 256)]⟩] [⟨some 37, none, .call 70 [.t 28, .t 32, .t 34, .t 36]⟩,
         ⟨none, none, .store 4 (.t 8) (.t 37)⟩])))))))))
   (.seq (.ops [⟨some 80, none, .faddr 0 (.t 8)⟩,
     ⟨some 81, none, .load false 1 (.t 80)⟩,
     ⟨some 82, none, .bin .eql (.t 81) (.c (.int .i64 0))⟩])
   (.cond (.t 82)
    (.seq (.ops [⟨some 83, none, .faddr 2 (.t 8)⟩,
      ⟨some 84, none, .load true 2 (.t 83)⟩,
      ⟨none, none, .store 2 (.t 4) (.t 84)⟩])
    (.ops [⟨some 85, none, .mv (.t 5)⟩,
      ⟨some 86, none, .mv (.t 7)⟩,
      ⟨some 87, none, .faddr 1 (.t 8)⟩,
      ⟨some 88, none, .load false 1 (.t 87)⟩,
      ⟨some 89, none, .iaddr 1 (.t 85) (.t 86)⟩,
      ⟨none, none, .store 1 (.t 89) (.t 88)⟩]))
    (.skip)))))))
  (.ops [⟨some 19, none, .mv (.t 6)⟩,
    ⟨some 20, none, .bin .sub (.t 19) (.c (.int .i64 1))⟩,
    ⟨some 6, none, .mv (.t 20)⟩]))
def v166 : VF := ⟨1, 92, [.cell 2 true 2, .t 3], false,
  .seq (.ops [⟨some 2, none, .new [.slice none 0 0, .slice none 0 0]⟩,
    ⟨some 3, none, .mv (.c (.slice none 0 0))⟩])
  (.seq (.ops [⟨some 9, none, .mv (.t 0)⟩,
    ⟨some 10, none, .call 96 [.t 9, .c (.int .i64 17)]⟩,
    ⟨some 11, none, .bin .add (.c (.int .i64 8)) (.t 10)⟩,
    ⟨some 12, none, .call 41 [.t 11]⟩,
    ⟨some 13, none, .field true 2 2 (.t 12)⟩,
    ⟨some 4, none, .new [.slice none 0 0, .slice none 0 0]⟩,
    ⟨none, none, .store 2 (.t 4) (.t 13)⟩])
  (.seq (.ops [⟨some 14, none, .bslice 1 [.int .i64 0] 1 [(0, 1, .c (.int .i64 (-1)))]⟩,
    ⟨some 5, none, .mv (.t 14)⟩])
  (.seq (.seq (.ops [⟨some 15, none, .mv (.t 0)⟩,
    ⟨some 16, none, .call 96 [.t 15, .c (.int .i64 24)]⟩,
    ⟨some 6, none, .mv (.t 16)⟩])
  (.block 0 (.loop [0, 2, 4, 5, 6] [2, 3, 4, 5] l166_0)))
  (.seq (.ops [⟨some 90, none, .load true 2 (.t 4)⟩,
    ⟨some 91, none, .mv (.t 5)⟩,
    ⟨none, none, .store 2 (.t 2) (.t 90)⟩,
    ⟨some 3, none, .mv (.t 91)⟩])
  (.ret)))))⟩
theorem ok166 : FnOK Try.prog 166 v166 := ⟨⟨Try.f166, _, Try.func166, rfl, by kernel_rfl, rfl, by decide, by kernel_rfl, by kernel_rfl⟩⟩
def env2 : Env := [(152, v152), (153, v153), (154, v154), (155, v155), (158, v158), (160, v160), (161, v161), (162, v162), (163, v163), (164, v164), (165, v165), (166, v166)]
theorem envOK2 : EnvOK Try.prog env2 := .cons ok152 (.cons ok153 (.cons ok154 (.cons ok155 (.cons ok158 (.cons ok160 (.cons ok161 (.cons ok162 (.cons ok163 (.cons ok164 (.cons ok165 (.cons ok166 (.nil))))))))))))
end Go.Proofs.Ytmcljallamhccaa.V
