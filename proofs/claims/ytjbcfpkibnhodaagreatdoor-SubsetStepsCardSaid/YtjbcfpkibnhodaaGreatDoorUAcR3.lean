/-
  The functions' abstract code, by program (acgen.py), and that the model's code is it, reckoned by the kernel. No claim is proved here.
-/
import Derived.Test.YtjbcfpkibnhodaaGreatDoorUAcR0
namespace Go.Proofs.YtjbcfpkibnhodaaGreatDoor.Ab
open Go
def c_proctorref07_Name : AFun := ⟨24, 1, [.t 2],
  (.seq (.reg [⟨some 2, .mov (.k (.bool false)), none⟩]
[0])
(.seq (.reg [⟨some 5, .call n_proctorref07_Words [], none⟩,
⟨some 3, .mov (.t 5), none⟩]
[0, 3])
(.seq (.seq (.reg [⟨some 4, .mov (.k (.int .i64 0)), none⟩]
[0, 3, 4])
(.block 0
(.loop [0, 3, 4] [5]
  (.seq (.seq (.reg [⟨some 6, .mov (.t 4), none⟩,
⟨some 7, .mov (.t 3), none⟩,
⟨some 8, .len false (.t 7), none⟩,
⟨some 9, .bin .lss (.t 6) (.t 8), none⟩]
[0, 3, 4, 9])
(.cond (.t 9)
.skip
(.exit 0)))
(.seq (.block 1
(.seq (.reg [⟨some 12, .mov (.t 3), none⟩,
⟨some 13, .mov (.t 4), none⟩,
⟨some 14, .iaddr 1 (.t 12) (.t 13), none⟩,
⟨some 15, .load (.t 14), none⟩,
⟨some 16, .mov (.t 0), none⟩,
⟨some 17, .bin .eql (.t 15) (.t 16), none⟩]
[0, 3, 4, 17])
(.cond (.t 17)
(.seq (.reg [⟨some 2, .mov (.k (.bool false)), none⟩]
[2])
.ret)
.skip)))
(.reg [⟨some 10, .mov (.t 4), none⟩,
⟨some 11, .bin .add (.t 10) (.k (.int .i64 1)), none⟩,
⟨some 4, .mov (.t 11), none⟩]
[0, 3, 4]))))))
(.seq (.reg [⟨some 18, .mov (.t 0), none⟩,
⟨some 19, .call n_proctorref07_Spelt [.t 18], none⟩,
⟨some 20, .mov (.t 19), none⟩,
⟨some 21, .mov (.t 0), (some (20, true))⟩,
⟨some 22, .bin .neq (.t 21) (.k (.str [95])), (some (20, true))⟩,
⟨some 23, .pick (.t 20) (.t 22) (.k (.bool false)), none⟩,
⟨some 2, .mov (.t 23), none⟩]
[2])
.ret))))⟩
theorem k_proctorref07_Name : chkF Tryz.prog Tryz.f134 c_proctorref07_Name = true := by kernel_rfl
theorem pc_proctorref07_Name {G : Nat → Option AV} {args : List AV} {r : AV} (h : Runs Tryz.prog G c_proctorref07_Name args r) (hk : args.length = c_proctorref07_Name.k := by rfl) : PureC Tryz.prog G n_proctorref07_Name args r := PureC.of_runs (fn := Tryz.f134) (A := c_proctorref07_Name) Tryz.func134 k_proctorref07_Name hk h
def c_proctorref07_Spelt : AFun := ⟨55, 1, [.t 2],
  (.seq (.reg [⟨some 2, .mov (.k (.bool false)), none⟩]
[0])
(.seq (.seq (.reg [⟨some 6, .mov (.t 0), none⟩,
⟨some 7, .len true (.t 6), none⟩,
⟨some 8, .bin .lss (.t 7) (.k (.int .i64 1)), none⟩,
⟨some 9, .mov (.t 8), none⟩,
⟨some 10, .mov (.t 0), (some (9, false))⟩,
⟨some 11, .len true (.t 10), (some (9, false))⟩,
⟨some 12, .bin .gtr (.t 11) (.k (.int .i64 32)), (some (9, false))⟩,
⟨some 13, .pick (.t 9) (.k (.bool true)) (.t 12), none⟩]
[0, 13])
(.cond (.t 13)
(.seq (.reg [⟨some 2, .mov (.k (.bool false)), none⟩]
[2])
.ret)
.skip))
(.seq (.seq (.reg [⟨some 3, .mov (.k (.int .i64 0)), none⟩]
[0, 3])
(.block 0
(.loop [0, 3] [7, 11]
  (.seq (.seq (.reg [⟨some 14, .mov (.t 3), none⟩,
⟨some 15, .mov (.t 0), none⟩,
⟨some 16, .len true (.t 15), none⟩,
⟨some 17, .bin .lss (.t 14) (.t 16), none⟩]
[0, 3, 17])
(.cond (.t 17)
.skip
(.exit 0)))
(.seq (.block 1
(.seq (.reg [⟨some 20, .mov (.t 0), none⟩,
⟨some 21, .mov (.t 3), none⟩,
⟨some 22, .idx (.t 20) (.t 21), none⟩,
⟨some 4, .mov (.t 22), none⟩]
[0, 3, 4])
(.seq (.reg [⟨some 23, .mov (.t 4), none⟩,
⟨some 24, .bin .geq (.t 23) (.k (.int .u8 65)), none⟩,
⟨some 25, .mov (.t 24), none⟩,
⟨some 26, .mov (.t 4), (some (25, true))⟩,
⟨some 27, .bin .leq (.t 26) (.k (.int .u8 90)), (some (25, true))⟩,
⟨some 28, .pick (.t 25) (.t 27) (.k (.bool false)), none⟩,
⟨some 29, .mov (.t 28), none⟩,
⟨some 30, .mov (.t 4), (some (29, false))⟩,
⟨some 31, .bin .geq (.t 30) (.k (.int .u8 97)), (some (29, false))⟩,
⟨some 32, .mov (.t 31), (some (29, false))⟩,
⟨some 33, .mov (.t 4), (some (32, true))⟩,
⟨some 34, .bin .leq (.t 33) (.k (.int .u8 122)), (some (32, true))⟩,
⟨some 35, .pick (.t 32) (.t 34) (.k (.bool false)), (some (29, false))⟩,
⟨some 36, .pick (.t 29) (.k (.bool true)) (.t 35), none⟩,
⟨some 37, .mov (.t 36), none⟩,
⟨some 38, .mov (.t 4), (some (37, false))⟩,
⟨some 39, .bin .eql (.t 38) (.k (.int .u8 95)), (some (37, false))⟩,
⟨some 40, .pick (.t 37) (.k (.bool true)) (.t 39), none⟩,
⟨some 5, .mov (.t 40), none⟩]
[0, 3, 4, 5])
(.seq (.reg [⟨some 41, .mov (.t 5), none⟩,
⟨some 42, .un .not (.t 41), none⟩,
⟨some 43, .mov (.t 42), none⟩,
⟨some 44, .mov (.t 3), (some (43, true))⟩,
⟨some 45, .bin .eql (.t 44) (.k (.int .i64 0)), (some (43, true))⟩,
⟨some 46, .mov (.t 45), (some (43, true))⟩,
⟨some 47, .mov (.t 4), (some (46, false))⟩,
⟨some 48, .bin .lss (.t 47) (.k (.int .u8 48)), (some (46, false))⟩,
⟨some 49, .pick (.t 46) (.k (.bool true)) (.t 48), (some (43, true))⟩,
⟨some 50, .mov (.t 49), (some (43, true))⟩,
⟨some 51, .mov (.t 4), (some (50, false))⟩,
⟨some 52, .bin .gtr (.t 51) (.k (.int .u8 57)), (some (50, false))⟩,
⟨some 53, .pick (.t 50) (.k (.bool true)) (.t 52), (some (43, true))⟩,
⟨some 54, .pick (.t 43) (.t 53) (.k (.bool false)), none⟩]
[0, 3, 54])
(.cond (.t 54)
(.seq (.reg [⟨some 2, .mov (.k (.bool false)), none⟩]
[2])
.ret)
.skip)))))
(.reg [⟨some 18, .mov (.t 3), none⟩,
⟨some 19, .bin .add (.t 18) (.k (.int .i64 1)), none⟩,
⟨some 3, .mov (.t 19), none⟩]
[0, 3]))))))
(.seq (.reg [⟨some 2, .mov (.k (.bool true)), none⟩]
[2])
.ret))))⟩
theorem k_proctorref07_Spelt : chkF Tryz.prog Tryz.f217 c_proctorref07_Spelt = true := by kernel_rfl
theorem pc_proctorref07_Spelt {G : Nat → Option AV} {args : List AV} {r : AV} (h : Runs Tryz.prog G c_proctorref07_Spelt args r) (hk : args.length = c_proctorref07_Spelt.k := by rfl) : PureC Tryz.prog G n_proctorref07_Spelt args r := PureC.of_runs (fn := Tryz.f217) (A := c_proctorref07_Spelt) Tryz.func217 k_proctorref07_Spelt hk h
def c_proctorref07_Words : AFun := ⟨2, 0, [.t 0],
  (.seq (.reg [⟨some 0, .nilrow t_string 1, none⟩]
[])
(.seq (.reg [⟨some 1, .mkrow t_string 1 22 (.str []) [(0, .k (.str [97, 99, 99, 101, 112, 116])), (1, .k (.str [97, 108, 115, 111])), (2, .k (.str [97, 110, 100])), (3, .k (.str [98, 111, 111, 108])), (4, .k (.str [100, 111])), (5, .k (.str [101, 118, 101, 110, 116])), (6, .k (.str [101, 120, 105, 115, 116, 115])), (7, .k (.str [102, 97, 108, 115, 101])), (8, .k (.str [102, 111, 114, 97, 108, 108])), (9, .k (.str [102, 114, 101, 101])), (10, .k (.str [105, 102])), (11, .k (.str [105, 110, 116])), (12, .k (.str [110, 101, 120, 116])), (13, .k (.str [110, 111, 116])), (14, .k (.str [111, 110])), (15, .k (.str [111, 114])), (16, .k (.str [113, 101, 97])), (17, .k (.str [115, 107, 105, 112])), (18, .k (.str [115, 116, 97, 114, 116])), (19, .k (.str [115, 116, 114, 105, 110, 103])), (20, .k (.str [116, 111])), (21, .k (.str [116, 114, 117, 101]))], none⟩,
⟨some 0, .mov (.t 1), none⟩]
[0])
.ret))⟩
theorem k_proctorref07_Words : chkF Tryz.prog Tryz.f216 c_proctorref07_Words = true := by kernel_rfl
theorem pc_proctorref07_Words {G : Nat → Option AV} {args : List AV} {r : AV} (h : Runs Tryz.prog G c_proctorref07_Words args r) (hk : args.length = c_proctorref07_Words.k := by rfl) : PureC Tryz.prog G n_proctorref07_Words args r := PureC.of_runs (fn := Tryz.f216) (A := c_proctorref07_Words) Tryz.func216 k_proctorref07_Words hk h
def c_proctorref13_Few : AFun := ⟨166, 1, [.t 2],
  (.seq (.reg [⟨some 1, .box t_api_Qea 9 (.t 0), none⟩,
⟨some 2, .mov (.k (.int .i64 0)), none⟩]
[1])
(.seq (.seq (.reg [⟨some 9, .faddr (.t 1) 1, none⟩,
⟨some 10, .load (.t 9), none⟩,
⟨some 11, .len false (.t 10), none⟩,
⟨some 12, .bin .gtr (.t 11) (.k (.int .i64 12)), none⟩,
⟨some 13, .mov (.t 12), none⟩,
⟨some 14, .faddr (.t 1) 2, (some (13, false))⟩,
⟨some 15, .load (.t 14), (some (13, false))⟩,
⟨some 16, .len false (.t 15), (some (13, false))⟩,
⟨some 17, .bin .gtr (.t 16) (.k (.int .i64 9)), (some (13, false))⟩,
⟨some 18, .pick (.t 13) (.k (.bool true)) (.t 17), none⟩,
⟨some 19, .mov (.t 18), none⟩,
⟨some 20, .faddr (.t 1) 3, (some (19, false))⟩,
⟨some 21, .load (.t 20), (some (19, false))⟩,
⟨some 22, .len false (.t 21), (some (19, false))⟩,
⟨some 23, .bin .gtr (.t 22) (.k (.int .i64 12)), (some (19, false))⟩,
⟨some 24, .pick (.t 19) (.k (.bool true)) (.t 23), none⟩,
⟨some 25, .mov (.t 24), none⟩,
⟨some 26, .faddr (.t 1) 4, (some (25, false))⟩,
⟨some 27, .load (.t 26), (some (25, false))⟩,
⟨some 28, .len false (.t 27), (some (25, false))⟩,
⟨some 29, .bin .gtr (.t 28) (.k (.int .i64 12)), (some (25, false))⟩,
⟨some 30, .pick (.t 25) (.k (.bool true)) (.t 29), none⟩,
⟨some 31, .mov (.t 30), none⟩,
⟨some 32, .faddr (.t 1) 6, (some (31, false))⟩,
⟨some 33, .load (.t 32), (some (31, false))⟩,
⟨some 34, .len false (.t 33), (some (31, false))⟩,
⟨some 35, .bin .gtr (.t 34) (.k (.int .i64 12)), (some (31, false))⟩,
⟨some 36, .pick (.t 31) (.k (.bool true)) (.t 35), none⟩,
⟨some 37, .mov (.t 36), none⟩,
⟨some 38, .faddr (.t 1) 8, (some (37, false))⟩,
⟨some 39, .load (.t 38), (some (37, false))⟩,
⟨some 40, .len false (.t 39), (some (37, false))⟩,
⟨some 41, .bin .gtr (.t 40) (.k (.int .i64 12)), (some (37, false))⟩,
⟨some 42, .pick (.t 37) (.k (.bool true)) (.t 41), none⟩,
⟨some 43, .mov (.t 42), none⟩,
⟨some 44, .faddr (.t 1) 7, (some (43, false))⟩,
⟨some 45, .load (.t 44), (some (43, false))⟩,
⟨some 46, .len false (.t 45), (some (43, false))⟩,
⟨some 47, .bin .gtr (.t 46) (.k (.int .i64 40)), (some (43, false))⟩,
⟨some 48, .pick (.t 43) (.k (.bool true)) (.t 47), none⟩,
⟨some 49, .mov (.t 48), none⟩,
⟨some 50, .faddr (.t 1) 0, (some (49, false))⟩,
⟨some 51, .load (.t 50), (some (49, false))⟩,
⟨some 52, .len true (.t 51), (some (49, false))⟩,
⟨some 53, .bin .gtr (.t 52) (.k (.int .i64 100)), (some (49, false))⟩,
⟨some 54, .pick (.t 49) (.k (.bool true)) (.t 53), none⟩]
[1, 54])
(.cond (.t 54)
(.seq (.reg [⟨some 2, .mov (.k (.int .i64 0)), none⟩]
[2])
.ret)
.skip))
(.seq (.seq (.reg [⟨some 3, .mov (.k (.int .i64 0)), none⟩]
[1, 3])
(.block 0
(.loop [1, 3] [1, 11, 16, 22, 28, 34, 40, 46, 52]
  (.seq (.seq (.reg [⟨some 55, .mov (.t 3), none⟩,
⟨some 56, .faddr (.t 1) 1, none⟩,
⟨some 57, .load (.t 56), none⟩,
⟨some 58, .len false (.t 57), none⟩,
⟨some 59, .bin .lss (.t 55) (.t 58), none⟩]
[1, 3, 59])
(.cond (.t 59)
.skip
(.exit 0)))
(.seq (.block 1
(.seq (.reg [⟨some 62, .faddr (.t 1) 1, none⟩,
⟨some 63, .load (.t 62), none⟩,
⟨some 64, .mov (.t 3), none⟩,
⟨some 65, .iaddr 2 (.t 63) (.t 64), none⟩,
⟨some 66, .faddr (.t 65) 1, none⟩,
⟨some 67, .load (.t 66), none⟩,
⟨some 68, .len false (.t 67), none⟩,
⟨some 69, .bin .gtr (.t 68) (.k (.int .i64 12)), none⟩,
⟨some 70, .mov (.t 69), none⟩,
⟨some 71, .faddr (.t 1) 1, (some (70, false))⟩,
⟨some 72, .load (.t 71), (some (70, false))⟩,
⟨some 73, .mov (.t 3), (some (70, false))⟩,
⟨some 74, .iaddr 2 (.t 72) (.t 73), (some (70, false))⟩,
⟨some 75, .faddr (.t 74) 0, (some (70, false))⟩,
⟨some 76, .load (.t 75), (some (70, false))⟩,
⟨some 77, .len true (.t 76), (some (70, false))⟩,
⟨some 78, .bin .gtr (.t 77) (.k (.int .i64 100)), (some (70, false))⟩,
⟨some 79, .pick (.t 70) (.k (.bool true)) (.t 78), none⟩]
[1, 3, 79])
(.cond (.t 79)
(.seq (.reg [⟨some 2, .mov (.k (.int .i64 0)), none⟩]
[2])
.ret)
.skip)))
(.reg [⟨some 60, .mov (.t 3), none⟩,
⟨some 61, .bin .add (.t 60) (.k (.int .i64 1)), none⟩,
⟨some 3, .mov (.t 61), none⟩]
[1, 3]))))))
(.seq (.seq (.reg [⟨some 4, .mov (.k (.int .i64 0)), none⟩]
[1, 4])
(.block 2
(.loop [1, 4] [1, 11, 16, 22, 28, 34, 40, 46, 52, 58, 68, 77]
  (.seq (.seq (.reg [⟨some 80, .mov (.t 4), none⟩,
⟨some 81, .faddr (.t 1) 6, none⟩,
⟨some 82, .load (.t 81), none⟩,
⟨some 83, .len false (.t 82), none⟩,
⟨some 84, .bin .lss (.t 80) (.t 83), none⟩]
[1, 4, 84])
(.cond (.t 84)
.skip
(.exit 2)))
(.seq (.block 3
(.seq (.seq (.reg [⟨some 87, .faddr (.t 1) 6, none⟩,
⟨some 88, .load (.t 87), none⟩,
⟨some 89, .mov (.t 4), none⟩,
⟨some 90, .iaddr 2 (.t 88) (.t 89), none⟩,
⟨some 91, .faddr (.t 90) 1, none⟩,
⟨some 92, .load (.t 91), none⟩,
⟨some 93, .len false (.t 92), none⟩,
⟨some 94, .bin .gtr (.t 93) (.k (.int .i64 12)), none⟩]
[1, 4, 94])
(.cond (.t 94)
(.seq (.reg [⟨some 2, .mov (.k (.int .i64 0)), none⟩]
[2])
.ret)
.skip))
(.seq (.reg [⟨some 5, .mov (.k (.int .i64 0)), none⟩]
[1, 4, 5])
(.block 4
(.loop [1, 4, 5] [1, 11, 16, 22, 28, 34, 40, 46, 52, 58, 68, 77, 83, 93]
  (.seq (.seq (.reg [⟨some 95, .mov (.t 5), none⟩,
⟨some 96, .faddr (.t 1) 6, none⟩,
⟨some 97, .load (.t 96), none⟩,
⟨some 98, .mov (.t 4), none⟩,
⟨some 99, .iaddr 2 (.t 97) (.t 98), none⟩,
⟨some 100, .faddr (.t 99) 1, none⟩,
⟨some 101, .load (.t 100), none⟩,
⟨some 102, .len false (.t 101), none⟩,
⟨some 103, .bin .lss (.t 95) (.t 102), none⟩]
[1, 4, 5, 103])
(.cond (.t 103)
.skip
(.exit 4)))
(.seq (.block 5
(.seq (.reg [⟨some 106, .faddr (.t 1) 6, none⟩,
⟨some 107, .load (.t 106), none⟩,
⟨some 108, .mov (.t 4), none⟩,
⟨some 109, .iaddr 2 (.t 107) (.t 108), none⟩,
⟨some 110, .faddr (.t 109) 1, none⟩,
⟨some 111, .load (.t 110), none⟩,
⟨some 112, .mov (.t 5), none⟩,
⟨some 113, .iaddr 6 (.t 111) (.t 112), none⟩,
⟨some 114, .faddr (.t 113) 2, none⟩,
⟨some 115, .faddr (.t 114) 2, none⟩,
⟨some 116, .load (.t 115), none⟩,
⟨some 117, .len true (.t 116), none⟩,
⟨some 118, .bin .gtr (.t 117) (.k (.int .i64 100)), none⟩]
[1, 4, 5, 118])
(.cond (.t 118)
(.seq (.reg [⟨some 2, .mov (.k (.int .i64 0)), none⟩]
[2])
.ret)
.skip)))
(.reg [⟨some 104, .mov (.t 5), none⟩,
⟨some 105, .bin .add (.t 104) (.k (.int .i64 1)), none⟩,
⟨some 5, .mov (.t 105), none⟩]
[1, 4, 5]))))))))
(.reg [⟨some 85, .mov (.t 4), none⟩,
⟨some 86, .bin .add (.t 85) (.k (.int .i64 1)), none⟩,
⟨some 4, .mov (.t 86), none⟩]
[1, 4]))))))
(.seq (.seq (.reg [⟨some 6, .mov (.k (.int .i64 0)), none⟩]
[1, 6])
(.block 6
(.loop [1, 6] [1, 11, 16, 22, 28, 34, 40, 46, 52, 58, 68, 77, 83, 93, 102, 117]
  (.seq (.seq (.reg [⟨some 119, .mov (.t 6), none⟩,
⟨some 120, .faddr (.t 1) 3, none⟩,
⟨some 121, .load (.t 120), none⟩,
⟨some 122, .len false (.t 121), none⟩,
⟨some 123, .bin .lss (.t 119) (.t 122), none⟩]
[1, 6, 123])
(.cond (.t 123)
.skip
(.exit 6)))
(.seq (.block 7
(.seq (.reg [⟨some 126, .faddr (.t 1) 3, none⟩,
⟨some 127, .load (.t 126), none⟩,
⟨some 128, .mov (.t 6), none⟩,
⟨some 129, .iaddr 5 (.t 127) (.t 128), none⟩,
⟨some 130, .faddr (.t 129) 1, none⟩,
⟨some 131, .faddr (.t 130) 2, none⟩,
⟨some 132, .load (.t 131), none⟩,
⟨some 133, .len true (.t 132), none⟩,
⟨some 134, .bin .gtr (.t 133) (.k (.int .i64 100)), none⟩]
[1, 6, 134])
(.cond (.t 134)
(.seq (.reg [⟨some 2, .mov (.k (.int .i64 0)), none⟩]
[2])
.ret)
.skip)))
(.reg [⟨some 124, .mov (.t 6), none⟩,
⟨some 125, .bin .add (.t 124) (.k (.int .i64 1)), none⟩,
⟨some 6, .mov (.t 125), none⟩]
[1, 6]))))))
(.seq (.seq (.reg [⟨some 7, .mov (.k (.int .i64 0)), none⟩]
[1, 7])
(.block 8
(.loop [1, 7] [1, 11, 16, 22, 28, 34, 40, 46, 52, 58, 68, 77, 83, 93, 102, 117, 122, 133]
  (.seq (.seq (.reg [⟨some 135, .mov (.t 7), none⟩,
⟨some 136, .faddr (.t 1) 7, none⟩,
⟨some 137, .load (.t 136), none⟩,
⟨some 138, .len false (.t 137), none⟩,
⟨some 139, .bin .lss (.t 135) (.t 138), none⟩]
[1, 7, 139])
(.cond (.t 139)
.skip
(.exit 8)))
(.seq (.block 9
(.seq (.reg [⟨some 142, .faddr (.t 1) 7, none⟩,
⟨some 143, .load (.t 142), none⟩,
⟨some 144, .mov (.t 7), none⟩,
⟨some 145, .iaddr 7 (.t 143) (.t 144), none⟩,
⟨some 146, .faddr (.t 145) 3, none⟩,
⟨some 147, .faddr (.t 146) 2, none⟩,
⟨some 148, .load (.t 147), none⟩,
⟨some 149, .len true (.t 148), none⟩,
⟨some 150, .bin .gtr (.t 149) (.k (.int .i64 100)), none⟩]
[1, 7, 150])
(.cond (.t 150)
(.seq (.reg [⟨some 2, .mov (.k (.int .i64 0)), none⟩]
[2])
.ret)
.skip)))
(.reg [⟨some 140, .mov (.t 7), none⟩,
⟨some 141, .bin .add (.t 140) (.k (.int .i64 1)), none⟩,
⟨some 7, .mov (.t 141), none⟩]
[1, 7]))))))
(.seq (.seq (.reg [⟨some 8, .mov (.k (.int .i64 0)), none⟩]
[1, 8])
(.block 10
(.loop [1, 8] [1, 11, 16, 22, 28, 34, 40, 46, 52, 58, 68, 77, 83, 93, 102, 117, 122, 133, 138, 149]
  (.seq (.seq (.reg [⟨some 151, .mov (.t 8), none⟩,
⟨some 152, .faddr (.t 1) 8, none⟩,
⟨some 153, .load (.t 152), none⟩,
⟨some 154, .len false (.t 153), none⟩,
⟨some 155, .bin .lss (.t 151) (.t 154), none⟩]
[1, 8, 155])
(.cond (.t 155)
.skip
(.exit 10)))
(.seq (.block 11
(.seq (.reg [⟨some 158, .faddr (.t 1) 8, none⟩,
⟨some 159, .load (.t 158), none⟩,
⟨some 160, .mov (.t 8), none⟩,
⟨some 161, .iaddr 5 (.t 159) (.t 160), none⟩,
⟨some 162, .faddr (.t 161) 4, none⟩,
⟨some 163, .load (.t 162), none⟩,
⟨some 164, .len false (.t 163), none⟩,
⟨some 165, .bin .gtr (.t 164) (.k (.int .i64 12)), none⟩]
[1, 8, 165])
(.cond (.t 165)
(.seq (.reg [⟨some 2, .mov (.k (.int .i64 0)), none⟩]
[2])
.ret)
.skip)))
(.reg [⟨some 156, .mov (.t 8), none⟩,
⟨some 157, .bin .add (.t 156) (.k (.int .i64 1)), none⟩,
⟨some 8, .mov (.t 157), none⟩]
[1, 8]))))))
(.seq (.reg [⟨some 2, .mov (.k (.int .i64 1)), none⟩]
[2])
.ret))))))))⟩
theorem k_proctorref13_Few : chkF Tryz.prog Tryz.f25 c_proctorref13_Few = true := by kernel_rfl
theorem pc_proctorref13_Few {G : Nat → Option AV} {args : List AV} {r : AV} (h : Runs Tryz.prog G c_proctorref13_Few args r) (hk : args.length = c_proctorref13_Few.k := by rfl) : PureC Tryz.prog G n_proctorref13_Few args r := PureC.of_runs (fn := Tryz.f25) (A := c_proctorref13_Few) Tryz.func25 k_proctorref13_Few hk h
def c_proctorref13_Kind : AFun := ⟨27, 3, [.t 6, .t 7],
  (.seq (.reg [⟨some 3, .box t_api_Qea 9 (.t 0), none⟩,
⟨some 6, .mov (.k (.int .i64 0)), none⟩,
⟨some 7, .mov (.k (.int .i64 0)), none⟩]
[1, 2, 3])
(.seq (.reg [⟨some 12, .loadN (.t 3) 9, none⟩,
⟨some 13, .mov (.t 2), none⟩,
⟨some 14, .call n_proctorref13_below [.t 12, .t 13], none⟩,
⟨some 11, .mov (.t 14), none⟩,
⟨some 15, .ext (.t 11) 0, none⟩,
⟨some 16, .ext (.t 11) 1, none⟩,
⟨some 17, .ext (.t 11) 2, none⟩,
⟨some 8, .mov (.t 15), none⟩,
⟨some 9, .mov (.t 16), none⟩,
⟨some 10, .mov (.t 17), none⟩]
[1, 8, 9, 10])
(.seq (.seq (.reg [⟨some 18, .mov (.t 8), none⟩,
⟨some 19, .bin .eql (.t 18) (.k (.int .i64 0)), none⟩,
⟨some 20, .mov (.t 19), none⟩,
⟨some 21, .mov (.t 10), (some (20, false))⟩,
⟨some 22, .mov (.t 1), (some (20, false))⟩,
⟨some 23, .bin .neq (.t 21) (.t 22), (some (20, false))⟩,
⟨some 24, .pick (.t 20) (.k (.bool true)) (.t 23), none⟩]
[8, 9, 24])
(.cond (.t 24)
(.seq (.reg [⟨some 6, .mov (.k (.int .i64 0)), none⟩,
⟨some 7, .mov (.k (.int .i64 0)), none⟩]
[6, 7])
.ret)
.skip))
(.seq (.reg [⟨some 25, .mov (.t 8), none⟩,
⟨some 26, .mov (.t 9), none⟩,
⟨some 6, .mov (.t 25), none⟩,
⟨some 7, .mov (.t 26), none⟩]
[6, 7])
.ret))))⟩
theorem k_proctorref13_Kind : chkF Tryz.prog Tryz.f136 c_proctorref13_Kind = true := by kernel_rfl
theorem pc_proctorref13_Kind {G : Nat → Option AV} {args : List AV} {r : AV} (h : Runs Tryz.prog G c_proctorref13_Kind args r) (hk : args.length = c_proctorref13_Kind.k := by rfl) : PureC Tryz.prog G n_proctorref13_Kind args r := PureC.of_runs (fn := Tryz.f136) (A := c_proctorref13_Kind) Tryz.func136 k_proctorref13_Kind hk h
def c_proctorref13_Names : AFun := ⟨30, 2, [.t 4],
  (.seq (.reg [⟨some 2, .box t_api_Symbol 2 (.t 0), none⟩,
⟨some 4, .mov (.k (.bool false)), none⟩]
[1, 2])
(.seq (.seq (.reg [⟨some 5, .mov (.k (.int .i64 0)), none⟩]
[1, 2, 5])
(.block 0
(.loop [1, 2, 5] [2]
  (.seq (.seq (.reg [⟨some 6, .mov (.t 5), none⟩,
⟨some 7, .faddr (.t 2) 1, none⟩,
⟨some 8, .load (.t 7), none⟩,
⟨some 9, .len false (.t 8), none⟩,
⟨some 10, .bin .lss (.t 6) (.t 9), none⟩]
[1, 2, 5, 10])
(.cond (.t 10)
.skip
(.exit 0)))
(.seq (.block 1
(.seq (.reg [⟨some 13, .faddr (.t 2) 1, none⟩,
⟨some 14, .load (.t 13), none⟩,
⟨some 15, .mov (.t 5), none⟩,
⟨some 16, .iaddr 6 (.t 14) (.t 15), none⟩,
⟨some 17, .faddr (.t 16) 0, none⟩,
⟨some 18, .load (.t 17), none⟩,
⟨some 19, .bin .eql (.t 18) (.k (.int .i64 2)), none⟩,
⟨some 20, .mov (.t 19), none⟩,
⟨some 21, .faddr (.t 2) 1, (some (20, true))⟩,
⟨some 22, .load (.t 21), (some (20, true))⟩,
⟨some 23, .mov (.t 5), (some (20, true))⟩,
⟨some 24, .iaddr 6 (.t 22) (.t 23), (some (20, true))⟩,
⟨some 25, .faddr (.t 24) 1, (some (20, true))⟩,
⟨some 26, .load (.t 25), (some (20, true))⟩,
⟨some 27, .mov (.t 1), (some (20, true))⟩,
⟨some 28, .bin .eql (.t 26) (.t 27), (some (20, true))⟩,
⟨some 29, .pick (.t 20) (.t 28) (.k (.bool false)), none⟩]
[1, 2, 5, 29])
(.cond (.t 29)
(.seq (.reg [⟨some 4, .mov (.k (.bool true)), none⟩]
[4])
.ret)
.skip)))
(.reg [⟨some 11, .mov (.t 5), none⟩,
⟨some 12, .bin .add (.t 11) (.k (.int .i64 1)), none⟩,
⟨some 5, .mov (.t 12), none⟩]
[1, 2, 5]))))))
(.seq (.reg [⟨some 4, .mov (.k (.bool false)), none⟩]
[4])
.ret)))⟩
theorem k_proctorref13_Names : chkF Tryz.prog Tryz.f140 c_proctorref13_Names = true := by kernel_rfl
theorem pc_proctorref13_Names {G : Nat → Option AV} {args : List AV} {r : AV} (h : Runs Tryz.prog G c_proctorref13_Names args r) (hk : args.length = c_proctorref13_Names.k := by rfl) : PureC Tryz.prog G n_proctorref13_Names args r := PureC.of_runs (fn := Tryz.f140) (A := c_proctorref13_Names) Tryz.func140 k_proctorref13_Names hk h
def c_proctorref13_Right : AFun := ⟨101, 1, [.t 2],
  (.seq (.reg [⟨some 1, .box t_api_Qea 9 (.t 0), none⟩,
⟨some 2, .mov (.k (.bool false)), none⟩]
[1])
(.seq (.reg [⟨some 10, .faddr (.t 1) 1, none⟩,
⟨some 11, .load (.t 10), none⟩,
⟨some 12, .call n_proctorref07_Check [.t 11], none⟩,
⟨some 9, .mov (.t 12), none⟩,
⟨some 13, .ext (.t 9) 0, none⟩,
⟨some 14, .ext (.t 9) 1, none⟩,
⟨some 3, .mov (.t 13), none⟩,
⟨some 4, .mov (.t 14), none⟩]
[1, 3])
(.seq (.seq (.reg [⟨some 15, .mov (.t 3), none⟩,
⟨some 16, .bin .neq (.t 15) (.k (.int .i64 0)), none⟩,
⟨some 17, .mov (.t 16), none⟩,
⟨some 18, .faddr (.t 1) 2, (some (17, false))⟩,
⟨some 19, .load (.t 18), (some (17, false))⟩,
⟨some 20, .len false (.t 19), (some (17, false))⟩,
⟨some 21, .bin .gtr (.t 20) (.k (.int .i64 8)), (some (17, false))⟩,
⟨some 22, .pick (.t 17) (.k (.bool true)) (.t 21), none⟩,
⟨some 23, .mov (.t 22), none⟩,
⟨some 24, .faddr (.t 1) 3, (some (23, false))⟩,
⟨some 25, .load (.t 24), (some (23, false))⟩,
⟨some 26, .len false (.t 25), (some (23, false))⟩,
⟨some 27, .bin .gtr (.t 26) (.k (.int .i64 16)), (some (23, false))⟩,
⟨some 28, .pick (.t 23) (.k (.bool true)) (.t 27), none⟩,
⟨some 29, .mov (.t 28), none⟩,
⟨some 30, .faddr (.t 1) 4, (some (29, false))⟩,
⟨some 31, .load (.t 30), (some (29, false))⟩,
⟨some 32, .len false (.t 31), (some (29, false))⟩,
⟨some 33, .bin .gtr (.t 32) (.k (.int .i64 32)), (some (29, false))⟩,
⟨some 34, .pick (.t 29) (.k (.bool true)) (.t 33), none⟩,
⟨some 35, .mov (.t 34), none⟩,
⟨some 36, .faddr (.t 1) 6, (some (35, false))⟩,
⟨some 37, .load (.t 36), (some (35, false))⟩,
⟨some 38, .len false (.t 37), (some (35, false))⟩,
⟨some 39, .bin .gtr (.t 38) (.k (.int .i64 64)), (some (35, false))⟩,
⟨some 40, .pick (.t 35) (.k (.bool true)) (.t 39), none⟩,
⟨some 41, .mov (.t 40), none⟩,
⟨some 42, .faddr (.t 1) 7, (some (41, false))⟩,
⟨some 43, .load (.t 42), (some (41, false))⟩,
⟨some 44, .len false (.t 43), (some (41, false))⟩,
⟨some 45, .bin .gtr (.t 44) (.k (.int .i64 2048)), (some (41, false))⟩,
⟨some 46, .pick (.t 41) (.k (.bool true)) (.t 45), none⟩,
⟨some 47, .mov (.t 46), none⟩,
⟨some 48, .faddr (.t 1) 8, (some (47, false))⟩,
⟨some 49, .load (.t 48), (some (47, false))⟩,
⟨some 50, .len false (.t 49), (some (47, false))⟩,
⟨some 51, .bin .gtr (.t 50) (.k (.int .i64 256)), (some (47, false))⟩,
⟨some 52, .pick (.t 47) (.k (.bool true)) (.t 51), none⟩,
⟨some 53, .mov (.t 52), none⟩,
⟨some 54, .faddr (.t 1) 5, (some (53, false))⟩,
⟨some 55, .load (.t 54), (some (53, false))⟩,
⟨some 56, .bin .lss (.t 55) (.k (.int .i64 0)), (some (53, false))⟩,
⟨some 57, .pick (.t 53) (.k (.bool true)) (.t 56), none⟩,
⟨some 58, .mov (.t 57), none⟩,
⟨some 59, .faddr (.t 1) 5, (some (58, false))⟩,
⟨some 60, .load (.t 59), (some (58, false))⟩,
⟨some 61, .faddr (.t 1) 4, (some (58, false))⟩,
⟨some 62, .load (.t 61), (some (58, false))⟩,
⟨some 63, .len false (.t 62), (some (58, false))⟩,
⟨some 64, .bin .geq (.t 60) (.t 63), (some (58, false))⟩,
⟨some 65, .pick (.t 58) (.k (.bool true)) (.t 64), none⟩,
⟨some 66, .mov (.t 65), none⟩,
⟨some 67, .loadN (.t 1) 9, (some (66, false))⟩,
⟨some 68, .call n_proctorref13_names [.t 67], (some (66, false))⟩,
⟨some 69, .un .not (.t 68), (some (66, false))⟩,
⟨some 70, .pick (.t 66) (.k (.bool true)) (.t 69), none⟩]
[1, 70])
(.cond (.t 70)
(.seq (.reg [⟨some 2, .mov (.k (.bool false)), none⟩]
[2])
.ret)
.skip))
(.seq (.reg [⟨some 5, .mov (.k (.int .i64 0)), none⟩]
[1, 5])
(.seq (.seq (.reg [⟨some 6, .mov (.k (.int .i64 0)), none⟩]
[1, 5, 6])
(.block 0
(.loop [1, 5, 6] [1, 12, 20, 26, 32, 38, 44, 50, 63, 68]
  (.seq (.seq (.reg [⟨some 71, .mov (.t 6), none⟩,
⟨some 72, .faddr (.t 1) 8, none⟩,
⟨some 73, .load (.t 72), none⟩,
⟨some 74, .len false (.t 73), none⟩,
⟨some 75, .bin .lss (.t 71) (.t 74), none⟩]
[1, 5, 6, 75])
(.cond (.t 75)
.skip
(.exit 0)))
(.seq (.block 1
(.seq (.dreg [⟨some 79, .loadN (.t 1) 9, none⟩,
⟨some 80, .faddr (.t 1) 8, none⟩,
⟨some 81, .load (.t 80), none⟩,
⟨some 82, .mov (.t 6), none⟩,
⟨some 83, .iaddr 5 (.t 81) (.t 82), none⟩,
⟨some 84, .loadN (.t 83) 5, none⟩,
⟨some 85, .mov (.t 5), none⟩,
⟨some 86, .call n_proctorref13_trans [.t 79, .t 84, .t 85], none⟩,
⟨some 78, .mov (.t 86), none⟩,
⟨some 87, .ext (.t 78) 0, none⟩,
⟨some 88, .ext (.t 78) 1, none⟩,
⟨some 7, .mov (.t 87), none⟩,
⟨some 8, .mov (.t 88), none⟩]
[1, 6, 7, 8])
(.seq (.seq (.reg [⟨some 89, .mov (.t 8), none⟩,
⟨some 90, .un .not (.t 89), none⟩]
[1, 6, 7, 90])
(.cond (.t 90)
(.seq (.reg [⟨some 2, .mov (.k (.bool false)), none⟩]
[2])
.ret)
.skip))
(.reg [⟨some 91, .mov (.t 7), none⟩,
⟨some 5, .mov (.t 91), none⟩]
[1, 5, 6]))))
(.reg [⟨some 76, .mov (.t 6), none⟩,
⟨some 77, .bin .add (.t 76) (.k (.int .i64 1)), none⟩,
⟨some 6, .mov (.t 77), none⟩]
[1, 5, 6]))))))
(.seq (.reg [⟨some 92, .mov (.t 5), none⟩,
⟨some 93, .faddr (.t 1) 7, none⟩,
⟨some 94, .load (.t 93), none⟩,
⟨some 95, .len false (.t 94), none⟩,
⟨some 96, .bin .eql (.t 92) (.t 95), none⟩,
⟨some 97, .mov (.t 96), none⟩,
⟨some 98, .loadN (.t 1) 9, (some (97, true))⟩,
⟨some 99, .call n_proctorref13_symbols [.t 98], (some (97, true))⟩,
⟨some 100, .pick (.t 97) (.t 99) (.k (.bool false)), none⟩,
⟨some 2, .mov (.t 100), none⟩]
[2])
.ret))))))⟩
theorem k_proctorref13_Right : chkF Tryz.prog Tryz.f28 c_proctorref13_Right = true := by kernel_rfl
theorem pc_proctorref13_Right {G : Nat → Option AV} {args : List AV} {r : AV} (h : Runs Tryz.prog G c_proctorref13_Right args r) (hk : args.length = c_proctorref13_Right.k := by rfl) : PureC Tryz.prog G n_proctorref13_Right args r := PureC.of_runs (fn := Tryz.f28) (A := c_proctorref13_Right) Tryz.func28 k_proctorref13_Right hk h
def c_proctorref13_SameSymbol : AFun := ⟨38, 2, [.t 4],
  (.seq (.reg [⟨some 2, .box t_api_Symbol 2 (.t 0), none⟩,
⟨some 3, .box t_api_Symbol 2 (.t 1), none⟩,
⟨some 4, .mov (.k (.bool false)), none⟩]
[2, 3])
(.seq (.seq (.reg [⟨some 6, .faddr (.t 2) 0, none⟩,
⟨some 7, .load (.t 6), none⟩,
⟨some 8, .faddr (.t 3) 0, none⟩,
⟨some 9, .load (.t 8), none⟩,
⟨some 10, .bin .neq (.t 7) (.t 9), none⟩,
⟨some 11, .mov (.t 10), none⟩,
⟨some 12, .faddr (.t 2) 1, (some (11, false))⟩,
⟨some 13, .load (.t 12), (some (11, false))⟩,
⟨some 14, .len false (.t 13), (some (11, false))⟩,
⟨some 15, .faddr (.t 3) 1, (some (11, false))⟩,
⟨some 16, .load (.t 15), (some (11, false))⟩,
⟨some 17, .len false (.t 16), (some (11, false))⟩,
⟨some 18, .bin .neq (.t 14) (.t 17), (some (11, false))⟩,
⟨some 19, .pick (.t 11) (.k (.bool true)) (.t 18), none⟩]
[2, 3, 19])
(.cond (.t 19)
(.seq (.reg [⟨some 4, .mov (.k (.bool false)), none⟩]
[4])
.ret)
.skip))
(.seq (.seq (.reg [⟨some 5, .mov (.k (.int .i64 0)), none⟩]
[2, 3, 5])
(.block 0
(.loop [2, 3, 5] [2, 3, 14, 17]
  (.seq (.seq (.reg [⟨some 20, .mov (.t 5), none⟩,
⟨some 21, .faddr (.t 2) 1, none⟩,
⟨some 22, .load (.t 21), none⟩,
⟨some 23, .len false (.t 22), none⟩,
⟨some 24, .bin .lss (.t 20) (.t 23), none⟩]
[2, 3, 5, 24])
(.cond (.t 24)
.skip
(.exit 0)))
(.seq (.block 1
(.seq (.dreg [⟨some 27, .faddr (.t 2) 1, none⟩,
⟨some 28, .load (.t 27), none⟩,
⟨some 29, .mov (.t 5), none⟩,
⟨some 30, .iaddr 6 (.t 28) (.t 29), none⟩,
⟨some 31, .loadN (.t 30) 6, none⟩,
⟨some 32, .faddr (.t 3) 1, none⟩,
⟨some 33, .load (.t 32), none⟩,
⟨some 34, .mov (.t 5), none⟩,
⟨some 35, .iaddr 6 (.t 33) (.t 34), none⟩,
⟨some 36, .loadN (.t 35) 6, none⟩,
⟨some 37, .eqA true [0, 0, 0, 0, 1, 2] (.t 31) (.t 36), none⟩]
[2, 3, 5, 37])
(.cond (.t 37)
(.seq (.reg [⟨some 4, .mov (.k (.bool false)), none⟩]
[4])
.ret)
.skip)))
(.reg [⟨some 25, .mov (.t 5), none⟩,
⟨some 26, .bin .add (.t 25) (.k (.int .i64 1)), none⟩,
⟨some 5, .mov (.t 26), none⟩]
[2, 3, 5]))))))
(.seq (.reg [⟨some 4, .mov (.k (.bool true)), none⟩]
[4])
.ret))))⟩
theorem k_proctorref13_SameSymbol : chkF Tryz.prog Tryz.f139 c_proctorref13_SameSymbol = true := by kernel_rfl
theorem pc_proctorref13_SameSymbol {G : Nat → Option AV} {args : List AV} {r : AV} (h : Runs Tryz.prog G c_proctorref13_SameSymbol args r) (hk : args.length = c_proctorref13_SameSymbol.k := by rfl) : PureC Tryz.prog G n_proctorref13_SameSymbol args r := PureC.of_runs (fn := Tryz.f139) (A := c_proctorref13_SameSymbol) Tryz.func139 k_proctorref13_SameSymbol hk h
def c_proctorref13_Type : AFun := ⟨31, 3, [.t 6],
  (.seq (.reg [⟨some 6, .mov (.k (.int .i64 0)), none⟩]
[0, 1, 2])
(.seq (.seq (.reg [⟨some 9, .mov (.t 1), none⟩,
⟨some 10, .bin .lss (.t 9) (.k (.int .i64 1)), none⟩,
⟨some 11, .mov (.t 10), none⟩,
⟨some 12, .mov (.t 1), (some (11, false))⟩,
⟨some 13, .mov (.t 2), (some (11, false))⟩,
⟨some 14, .bin .neq (.t 12) (.t 13), (some (11, false))⟩,
⟨some 15, .pick (.t 11) (.k (.bool true)) (.t 14), none⟩]
[0, 1, 2, 15])
(.cond (.t 15)
(.seq (.reg [⟨some 6, .mov (.k (.int .i64 0)), none⟩]
[6])
.ret)
.skip))
(.seq (.reg [⟨some 17, .mov (.t 0), none⟩,
⟨some 18, .mov (.t 1), none⟩,
⟨some 19, .build [.int .i64 0, .int .i64 0, .str [], .bool false] [(0, 1, .t 18)], none⟩,
⟨some 20, .mov (.t 2), none⟩,
⟨some 21, .build [.int .i64 0, .int .i64 0, .str [], .bool false] [(0, 1, .t 20)], none⟩,
⟨some 22, .call n_proctorref03_Op [.t 17, .t 19, .t 21], none⟩,
⟨some 16, .mov (.t 22), none⟩,
⟨some 23, .ext (.t 16) 0, none⟩,
⟨some 24, .ext (.t 16) 1, none⟩,
⟨some 7, .alloc t_api_Value 4 (.agg [.int .i64 0, .int .i64 0, .str [], .bool false]), none⟩,
⟨none, .store (.t 7) (.t 23) 4, none⟩,
⟨some 8, .mov (.t 24), none⟩]
[7, 8])
(.seq (.seq (.reg [⟨some 25, .mov (.t 8), none⟩,
⟨some 26, .bin .eql (.t 25) (.k (.int .i64 7)), none⟩]
[7, 8, 26])
(.cond (.t 26)
(.seq (.reg [⟨some 6, .mov (.k (.int .i64 1)), none⟩]
[6])
.ret)
.skip))
(.seq (.seq (.reg [⟨some 27, .mov (.t 8), none⟩,
⟨some 28, .bin .neq (.t 27) (.k (.int .i64 0)), none⟩]
[7, 28])
(.cond (.t 28)
(.seq (.reg [⟨some 6, .mov (.k (.int .i64 0)), none⟩]
[6])
.ret)
.skip))
(.seq (.reg [⟨some 29, .faddr (.t 7) 0, none⟩,
⟨some 30, .load (.t 29), none⟩,
⟨some 6, .mov (.t 30), none⟩]
[6])
.ret))))))⟩
theorem k_proctorref13_Type : chkF Tryz.prog Tryz.f256 c_proctorref13_Type = true := by kernel_rfl
theorem pc_proctorref13_Type {G : Nat → Option AV} {args : List AV} {r : AV} (h : Runs Tryz.prog G c_proctorref13_Type args r) (hk : args.length = c_proctorref13_Type.k := by rfl) : PureC Tryz.prog G n_proctorref13_Type args r := PureC.of_runs (fn := Tryz.f256) (A := c_proctorref13_Type) Tryz.func256 k_proctorref13_Type hk h
def c_proctorref13_arg : AFun := ⟨90, 3, [.t 6],
  (.seq (.reg [⟨some 3, .box t_api_Qea 9 (.t 0), none⟩,
⟨some 4, .box t_api_Arg 6 (.t 1), none⟩,
⟨some 6, .mov (.k (.bool false)), none⟩]
[2, 3, 4])
(.seq (.reg [⟨some 8, .build [.int .i64 0, .int .i64 0, .str [], .bool false] [], none⟩,
⟨some 7, .alloc t_api_Value 4 (.agg [.int .i64 0, .int .i64 0, .str [], .bool false]), none⟩,
⟨none, .store (.t 7) (.t 8) 4, none⟩]
[2, 3, 4, 7])
(.seq (.seq (.reg [⟨some 9, .faddr (.t 4) 0, none⟩,
⟨some 10, .load (.t 9), none⟩,
⟨some 11, .bin .eql (.t 10) (.k (.int .i64 1)), none⟩]
[2, 3, 4, 7, 11])
(.cond (.t 11)
(.seq (.reg [⟨some 12, .faddr (.t 4) 1, none⟩,
⟨some 13, .load (.t 12), none⟩,
⟨some 14, .bin .eql (.t 13) (.k (.int .i64 0)), none⟩,
⟨some 15, .mov (.t 14), none⟩,
⟨some 16, .faddr (.t 4) 2, (some (15, true))⟩,
⟨some 17, .loadN (.t 16) 4, (some (15, true))⟩,
⟨some 18, .call n_proctorref03_Right [.t 17], (some (15, true))⟩,
⟨some 19, .pick (.t 15) (.t 18) (.k (.bool false)), none⟩,
⟨some 20, .mov (.t 19), none⟩,
⟨some 21, .faddr (.t 4) 2, (some (20, true))⟩,
⟨some 22, .faddr (.t 21) 0, (some (20, true))⟩,
⟨some 23, .load (.t 22), (some (20, true))⟩,
⟨some 24, .mov (.t 2), (some (20, true))⟩,
⟨some 25, .bin .eql (.t 23) (.t 24), (some (20, true))⟩,
⟨some 26, .pick (.t 20) (.t 25) (.k (.bool false)), none⟩,
⟨some 6, .mov (.t 26), none⟩]
[6])
.ret)
.skip))
(.seq (.seq (.reg [⟨some 27, .faddr (.t 4) 2, none⟩,
⟨some 28, .loadN (.t 27) 4, none⟩,
⟨some 29, .loadN (.t 7) 4, none⟩,
⟨some 30, .eqA true [0, 0, 1, 2] (.t 28) (.t 29), none⟩]
[2, 3, 4, 30])
(.cond (.t 30)
(.seq (.reg [⟨some 6, .mov (.k (.bool false)), none⟩]
[6])
.ret)
.skip))
(.seq (.seq (.reg [⟨some 31, .faddr (.t 4) 0, none⟩,
⟨some 32, .load (.t 31), none⟩,
⟨some 33, .bin .eql (.t 32) (.k (.int .i64 2)), none⟩]
[2, 3, 4, 33])
(.cond (.t 33)
(.seq (.reg [⟨some 34, .faddr (.t 4) 1, none⟩,
⟨some 35, .load (.t 34), none⟩,
⟨some 36, .bin .geq (.t 35) (.k (.int .i64 0)), none⟩,
⟨some 37, .mov (.t 36), none⟩,
⟨some 38, .faddr (.t 4) 1, (some (37, true))⟩,
⟨some 39, .load (.t 38), (some (37, true))⟩,
⟨some 40, .faddr (.t 3) 2, (some (37, true))⟩,
⟨some 41, .load (.t 40), (some (37, true))⟩,
⟨some 42, .len false (.t 41), (some (37, true))⟩,
⟨some 43, .bin .lss (.t 39) (.t 42), (some (37, true))⟩,
⟨some 44, .pick (.t 37) (.t 43) (.k (.bool false)), none⟩,
⟨some 45, .mov (.t 44), none⟩,
⟨some 46, .faddr (.t 3) 2, (some (45, true))⟩,
⟨some 47, .load (.t 46), (some (45, true))⟩,
⟨some 48, .faddr (.t 4) 1, (some (45, true))⟩,
⟨some 49, .load (.t 48), (some (45, true))⟩,
⟨some 50, .iaddr 3 (.t 47) (.t 49), (some (45, true))⟩,
⟨some 51, .faddr (.t 50) 2, (some (45, true))⟩,
⟨some 52, .load (.t 51), (some (45, true))⟩,
⟨some 53, .mov (.t 2), (some (45, true))⟩,
⟨some 54, .bin .eql (.t 52) (.t 53), (some (45, true))⟩,
⟨some 55, .pick (.t 45) (.t 54) (.k (.bool false)), none⟩,
⟨some 6, .mov (.t 55), none⟩]
[6])
.ret)
.skip))
(.seq (.seq (.reg [⟨some 56, .faddr (.t 4) 0, none⟩,
⟨some 57, .load (.t 56), none⟩,
⟨some 58, .bin .eql (.t 57) (.k (.int .i64 3)), none⟩]
[2, 3, 4, 58])
(.cond (.t 58)
(.seq (.reg [⟨some 59, .faddr (.t 4) 1, none⟩,
⟨some 60, .load (.t 59), none⟩,
⟨some 61, .bin .geq (.t 60) (.k (.int .i64 0)), none⟩,
⟨some 62, .mov (.t 61), none⟩,
⟨some 63, .faddr (.t 4) 1, (some (62, true))⟩,
⟨some 64, .load (.t 63), (some (62, true))⟩,
⟨some 65, .faddr (.t 3) 3, (some (62, true))⟩,
⟨some 66, .load (.t 65), (some (62, true))⟩,
⟨some 67, .len false (.t 66), (some (62, true))⟩,
⟨some 68, .bin .lss (.t 64) (.t 67), (some (62, true))⟩,
⟨some 69, .pick (.t 62) (.t 68) (.k (.bool false)), none⟩,
⟨some 70, .mov (.t 69), none⟩,
⟨some 71, .faddr (.t 3) 3, (some (70, true))⟩,
⟨some 72, .load (.t 71), (some (70, true))⟩,
⟨some 73, .faddr (.t 4) 1, (some (70, true))⟩,
⟨some 74, .load (.t 73), (some (70, true))⟩,
⟨some 75, .iaddr 5 (.t 72) (.t 74), (some (70, true))⟩,
⟨some 76, .faddr (.t 75) 1, (some (70, true))⟩,
⟨some 77, .faddr (.t 76) 0, (some (70, true))⟩,
⟨some 78, .load (.t 77), (some (70, true))⟩,
⟨some 79, .mov (.t 2), (some (70, true))⟩,
⟨some 80, .bin .eql (.t 78) (.t 79), (some (70, true))⟩,
⟨some 81, .pick (.t 70) (.t 80) (.k (.bool false)), none⟩,
⟨some 6, .mov (.t 81), none⟩]
[6])
.ret)
.skip))
(.seq (.reg [⟨some 82, .faddr (.t 4) 0, none⟩,
⟨some 83, .load (.t 82), none⟩,
⟨some 84, .bin .eql (.t 83) (.k (.int .i64 4)), none⟩,
⟨some 85, .mov (.t 84), none⟩,
⟨some 86, .faddr (.t 4) 1, (some (85, true))⟩,
⟨some 87, .load (.t 86), (some (85, true))⟩,
⟨some 88, .bin .eql (.t 87) (.k (.int .i64 0)), (some (85, true))⟩,
⟨some 89, .pick (.t 85) (.t 88) (.k (.bool false)), none⟩,
⟨some 6, .mov (.t 89), none⟩]
[6])
.ret)))))))⟩
theorem k_proctorref13_arg : chkF Tryz.prog Tryz.f219 c_proctorref13_arg = true := by kernel_rfl
theorem pc_proctorref13_arg {G : Nat → Option AV} {args : List AV} {r : AV} (h : Runs Tryz.prog G c_proctorref13_arg args r) (hk : args.length = c_proctorref13_arg.k := by rfl) : PureC Tryz.prog G n_proctorref13_arg args r := PureC.of_runs (fn := Tryz.f219) (A := c_proctorref13_arg) Tryz.func219 k_proctorref13_arg hk h
def c_proctorref13_below : AFun := ⟨185, 2, [.t 4, .t 5, .t 6],
  (.seq (.reg [⟨some 2, .box t_api_Qea 9 (.t 0), none⟩,
⟨some 4, .mov (.k (.int .i64 0)), none⟩,
⟨some 5, .mov (.k (.int .i64 0)), none⟩,
⟨some 6, .mov (.k (.int .i64 0)), none⟩]
[1, 2])
(.seq (.seq (.reg [⟨some 15, .mov (.t 1), none⟩,
⟨some 16, .bin .lss (.t 15) (.k (.int .i64 0)), none⟩,
⟨some 17, .mov (.t 16), none⟩,
⟨some 18, .mov (.t 1), (some (17, false))⟩,
⟨some 19, .faddr (.t 2) 7, (some (17, false))⟩,
⟨some 20, .load (.t 19), (some (17, false))⟩,
⟨some 21, .len false (.t 20), (some (17, false))⟩,
⟨some 22, .bin .geq (.t 18) (.t 21), (some (17, false))⟩,
⟨some 23, .pick (.t 17) (.k (.bool true)) (.t 22), none⟩]
[1, 2, 23])
(.cond (.t 23)
(.seq (.reg [⟨some 4, .mov (.k (.int .i64 0)), none⟩,
⟨some 5, .mov (.k (.int .i64 0)), none⟩,
⟨some 6, .mov (.k (.int .i64 0)), none⟩]
[4, 5, 6])
.ret)
.skip))
(.seq (.reg [⟨some 24, .faddr (.t 2) 7, none⟩,
⟨some 25, .load (.t 24), none⟩,
⟨some 26, .mov (.t 1), none⟩,
⟨some 27, .iaddr 7 (.t 25) (.t 26), none⟩,
⟨some 28, .loadN (.t 27) 7, none⟩,
⟨some 7, .alloc t_api_Node 7 (.agg [.int .i64 0, .int .i64 0, .int .i64 0, .int .i64 0, .int .i64 0, .str [], .bool false]), none⟩,
⟨none, .store (.t 7) (.t 28) 7, none⟩]
[1, 2, 7])
(.seq (.reg [⟨some 29, .build [.int .i64 0, .int .i64 0, .str [], .bool false] [], none⟩,
⟨some 8, .alloc t_api_Value 4 (.agg [.int .i64 0, .int .i64 0, .str [], .bool false]), none⟩,
⟨none, .store (.t 8) (.t 29) 4, none⟩]
[1, 2, 7, 8])
(.seq (.seq (.reg [⟨some 30, .faddr (.t 7) 0, none⟩,
⟨some 31, .load (.t 30), none⟩,
⟨some 32, .bin .eql (.t 31) (.k (.int .i64 1)), none⟩]
[1, 2, 7, 8, 32])
(.cond (.t 32)
(.seq (.seq (.reg [⟨some 33, .faddr (.t 7) 1, none⟩,
⟨some 34, .load (.t 33), none⟩,
⟨some 35, .bin .neq (.t 34) (.k (.int .i64 0)), none⟩,
⟨some 36, .mov (.t 35), none⟩,
⟨some 37, .faddr (.t 7) 2, (some (36, false))⟩,
⟨some 38, .load (.t 37), (some (36, false))⟩,
⟨some 39, .bin .neq (.t 38) (.k (.int .i64 0)), (some (36, false))⟩,
⟨some 40, .pick (.t 36) (.k (.bool true)) (.t 39), none⟩,
⟨some 41, .mov (.t 40), none⟩,
⟨some 42, .faddr (.t 7) 3, (some (41, false))⟩,
⟨some 43, .loadN (.t 42) 4, (some (41, false))⟩,
⟨some 44, .call n_proctorref03_Right [.t 43], (some (41, false))⟩,
⟨some 45, .un .not (.t 44), (some (41, false))⟩,
⟨some 46, .pick (.t 41) (.k (.bool true)) (.t 45), none⟩]
[1, 7, 46])
(.cond (.t 46)
(.seq (.reg [⟨some 4, .mov (.k (.int .i64 0)), none⟩,
⟨some 5, .mov (.k (.int .i64 0)), none⟩,
⟨some 6, .mov (.k (.int .i64 0)), none⟩]
[4, 5, 6])
.ret)
.skip))
(.seq (.reg [⟨some 47, .faddr (.t 7) 3, none⟩,
⟨some 48, .faddr (.t 47) 0, none⟩,
⟨some 49, .load (.t 48), none⟩,
⟨some 50, .mov (.t 1), none⟩,
⟨some 4, .mov (.t 49), none⟩,
⟨some 5, .mov (.k (.int .i64 1)), none⟩,
⟨some 6, .mov (.t 50), none⟩]
[4, 5, 6])
.ret))
.skip))
(.seq (.seq (.reg [⟨some 51, .faddr (.t 7) 3, none⟩,
⟨some 52, .loadN (.t 51) 4, none⟩,
⟨some 53, .loadN (.t 8) 4, none⟩,
⟨some 54, .eqA true [0, 0, 1, 2] (.t 52) (.t 53), none⟩]
[1, 2, 7, 54])
(.cond (.t 54)
(.seq (.reg [⟨some 4, .mov (.k (.int .i64 0)), none⟩,
⟨some 5, .mov (.k (.int .i64 0)), none⟩,
⟨some 6, .mov (.k (.int .i64 0)), none⟩]
[4, 5, 6])
.ret)
.skip))
(.seq (.seq (.reg [⟨some 55, .faddr (.t 7) 0, none⟩,
⟨some 56, .load (.t 55), none⟩,
⟨some 57, .bin .eql (.t 56) (.k (.int .i64 2)), none⟩]
[1, 2, 7, 57])
(.cond (.t 57)
(.seq (.seq (.reg [⟨some 58, .faddr (.t 7) 1, none⟩,
⟨some 59, .load (.t 58), none⟩,
⟨some 60, .bin .lss (.t 59) (.k (.int .i64 0)), none⟩,
⟨some 61, .mov (.t 60), none⟩,
⟨some 62, .faddr (.t 7) 1, (some (61, false))⟩,
⟨some 63, .load (.t 62), (some (61, false))⟩,
⟨some 64, .faddr (.t 2) 2, (some (61, false))⟩,
⟨some 65, .load (.t 64), (some (61, false))⟩,
⟨some 66, .len false (.t 65), (some (61, false))⟩,
⟨some 67, .bin .geq (.t 63) (.t 66), (some (61, false))⟩,
⟨some 68, .pick (.t 61) (.k (.bool true)) (.t 67), none⟩,
⟨some 69, .mov (.t 68), none⟩,
⟨some 70, .faddr (.t 7) 2, (some (69, false))⟩,
⟨some 71, .load (.t 70), (some (69, false))⟩,
⟨some 72, .bin .neq (.t 71) (.k (.int .i64 0)), (some (69, false))⟩,
⟨some 73, .pick (.t 69) (.k (.bool true)) (.t 72), none⟩]
[1, 2, 7, 73])
(.cond (.t 73)
(.seq (.reg [⟨some 4, .mov (.k (.int .i64 0)), none⟩,
⟨some 5, .mov (.k (.int .i64 0)), none⟩,
⟨some 6, .mov (.k (.int .i64 0)), none⟩]
[4, 5, 6])
.ret)
.skip))
(.seq (.reg [⟨some 74, .faddr (.t 2) 2, none⟩,
⟨some 75, .load (.t 74), none⟩,
⟨some 76, .faddr (.t 7) 1, none⟩,
⟨some 77, .load (.t 76), none⟩,
⟨some 78, .iaddr 3 (.t 75) (.t 77), none⟩,
⟨some 79, .faddr (.t 78) 2, none⟩,
⟨some 80, .load (.t 79), none⟩,
⟨some 81, .mov (.t 1), none⟩,
⟨some 4, .mov (.t 80), none⟩,
⟨some 5, .mov (.k (.int .i64 1)), none⟩,
⟨some 6, .mov (.t 81), none⟩]
[4, 5, 6])
.ret))
.skip))
(.seq (.seq (.reg [⟨some 82, .faddr (.t 7) 0, none⟩,
⟨some 83, .load (.t 82), none⟩,
⟨some 84, .bin .eql (.t 83) (.k (.int .i64 3)), none⟩]
[1, 2, 7, 84])
(.cond (.t 84)
(.seq (.seq (.reg [⟨some 85, .faddr (.t 7) 1, none⟩,
⟨some 86, .load (.t 85), none⟩,
⟨some 87, .bin .lss (.t 86) (.k (.int .i64 0)), none⟩,
⟨some 88, .mov (.t 87), none⟩,
⟨some 89, .faddr (.t 7) 1, (some (88, false))⟩,
⟨some 90, .load (.t 89), (some (88, false))⟩,
⟨some 91, .faddr (.t 2) 3, (some (88, false))⟩,
⟨some 92, .load (.t 91), (some (88, false))⟩,
⟨some 93, .len false (.t 92), (some (88, false))⟩,
⟨some 94, .bin .geq (.t 90) (.t 93), (some (88, false))⟩,
⟨some 95, .pick (.t 88) (.k (.bool true)) (.t 94), none⟩,
⟨some 96, .mov (.t 95), none⟩,
⟨some 97, .faddr (.t 7) 2, (some (96, false))⟩,
⟨some 98, .load (.t 97), (some (96, false))⟩,
⟨some 99, .bin .neq (.t 98) (.k (.int .i64 0)), (some (96, false))⟩,
⟨some 100, .pick (.t 96) (.k (.bool true)) (.t 99), none⟩]
[1, 2, 7, 100])
(.cond (.t 100)
(.seq (.reg [⟨some 4, .mov (.k (.int .i64 0)), none⟩,
⟨some 5, .mov (.k (.int .i64 0)), none⟩,
⟨some 6, .mov (.k (.int .i64 0)), none⟩]
[4, 5, 6])
.ret)
.skip))
(.seq (.reg [⟨some 101, .faddr (.t 2) 3, none⟩,
⟨some 102, .load (.t 101), none⟩,
⟨some 103, .faddr (.t 7) 1, none⟩,
⟨some 104, .load (.t 103), none⟩,
⟨some 105, .iaddr 5 (.t 102) (.t 104), none⟩,
⟨some 106, .faddr (.t 105) 1, none⟩,
⟨some 107, .faddr (.t 106) 0, none⟩,
⟨some 108, .load (.t 107), none⟩,
⟨some 109, .mov (.t 1), none⟩,
⟨some 4, .mov (.t 108), none⟩,
⟨some 5, .mov (.k (.int .i64 1)), none⟩,
⟨some 6, .mov (.t 109), none⟩]
[4, 5, 6])
.ret))
.skip))
(.seq (.seq (.reg [⟨some 110, .faddr (.t 7) 0, none⟩,
⟨some 111, .load (.t 110), none⟩,
⟨some 112, .bin .lss (.t 111) (.k (.int .i64 4)), none⟩,
⟨some 113, .mov (.t 112), none⟩,
⟨some 114, .faddr (.t 7) 0, (some (113, false))⟩,
⟨some 115, .load (.t 114), (some (113, false))⟩,
⟨some 116, .bin .gtr (.t 115) (.k (.int .i64 16)), (some (113, false))⟩,
⟨some 117, .pick (.t 113) (.k (.bool true)) (.t 116), none⟩]
[1, 2, 7, 117])
(.cond (.t 117)
(.seq (.reg [⟨some 4, .mov (.k (.int .i64 0)), none⟩,
⟨some 5, .mov (.k (.int .i64 0)), none⟩,
⟨some 6, .mov (.k (.int .i64 0)), none⟩]
[4, 5, 6])
.ret)
.skip))
(.seq (.reg [⟨some 119, .loadN (.t 2) 9, none⟩,
⟨some 120, .mov (.t 1), none⟩,
⟨some 121, .bin .sub (.t 120) (.k (.int .i64 1)), none⟩,
⟨some 122, .call n_proctorref13_below [.t 119, .t 121], none⟩,
⟨some 118, .mov (.t 122), none⟩,
⟨some 123, .ext (.t 118) 0, none⟩,
⟨some 124, .ext (.t 118) 1, none⟩,
⟨some 125, .ext (.t 118) 2, none⟩,
⟨some 9, .mov (.t 123), none⟩,
⟨some 10, .mov (.t 124), none⟩,
⟨some 11, .mov (.t 125), none⟩]
[1, 2, 7, 9, 10, 11])
(.seq (.seq (.reg [⟨some 126, .faddr (.t 7) 0, none⟩,
⟨some 127, .load (.t 126), none⟩,
⟨some 128, .bin .leq (.t 127) (.k (.int .i64 5)), none⟩]
[1, 2, 7, 9, 10, 11, 128])
(.cond (.t 128)
(.seq (.seq (.reg [⟨some 129, .mov (.t 9), none⟩,
⟨some 130, .bin .eql (.t 129) (.k (.int .i64 0)), none⟩,
⟨some 131, .mov (.t 130), none⟩,
⟨some 132, .faddr (.t 7) 1, (some (131, false))⟩,
⟨some 133, .load (.t 132), (some (131, false))⟩,
⟨some 134, .mov (.t 1), (some (131, false))⟩,
⟨some 135, .bin .sub (.t 134) (.k (.int .i64 1)), (some (131, false))⟩,
⟨some 136, .bin .neq (.t 133) (.t 135), (some (131, false))⟩,
⟨some 137, .pick (.t 131) (.k (.bool true)) (.t 136), none⟩,
⟨some 138, .mov (.t 137), none⟩,
⟨some 139, .faddr (.t 7) 2, (some (138, false))⟩,
⟨some 140, .load (.t 139), (some (138, false))⟩,
⟨some 141, .bin .neq (.t 140) (.k (.int .i64 0)), (some (138, false))⟩,
⟨some 142, .pick (.t 138) (.k (.bool true)) (.t 141), none⟩]
[7, 9, 10, 11, 142])
(.cond (.t 142)
(.seq (.reg [⟨some 4, .mov (.k (.int .i64 0)), none⟩,
⟨some 5, .mov (.k (.int .i64 0)), none⟩,
⟨some 6, .mov (.k (.int .i64 0)), none⟩]
[4, 5, 6])
.ret)
.skip))
(.seq (.reg [⟨some 143, .faddr (.t 7) 0, none⟩,
⟨some 144, .load (.t 143), none⟩,
⟨some 145, .mov (.t 9), none⟩,
⟨some 146, .mov (.t 9), none⟩,
⟨some 147, .call n_proctorref13_Type [.t 144, .t 145, .t 146], none⟩,
⟨some 148, .mov (.t 10), none⟩,
⟨some 149, .bin .add (.t 148) (.k (.int .i64 1)), none⟩,
⟨some 150, .mov (.t 11), none⟩,
⟨some 4, .mov (.t 147), none⟩,
⟨some 5, .mov (.t 149), none⟩,
⟨some 6, .mov (.t 150), none⟩]
[4, 5, 6])
.ret))
.skip))
(.seq (.seq (.reg [⟨some 151, .mov (.t 9), none⟩,
⟨some 152, .bin .eql (.t 151) (.k (.int .i64 0)), none⟩,
⟨some 153, .mov (.t 152), none⟩,
⟨some 154, .faddr (.t 7) 2, (some (153, false))⟩,
⟨some 155, .load (.t 154), (some (153, false))⟩,
⟨some 156, .mov (.t 1), (some (153, false))⟩,
⟨some 157, .bin .sub (.t 156) (.k (.int .i64 1)), (some (153, false))⟩,
⟨some 158, .bin .neq (.t 155) (.t 157), (some (153, false))⟩,
⟨some 159, .pick (.t 153) (.k (.bool true)) (.t 158), none⟩,
⟨some 160, .mov (.t 159), none⟩,
⟨some 161, .faddr (.t 7) 1, (some (160, false))⟩,
⟨some 162, .load (.t 161), (some (160, false))⟩,
⟨some 163, .mov (.t 11), (some (160, false))⟩,
⟨some 164, .bin .sub (.t 163) (.k (.int .i64 1)), (some (160, false))⟩,
⟨some 165, .bin .neq (.t 162) (.t 164), (some (160, false))⟩,
⟨some 166, .pick (.t 160) (.k (.bool true)) (.t 165), none⟩]
[2, 7, 9, 10, 11, 166])
(.cond (.t 166)
(.seq (.reg [⟨some 4, .mov (.k (.int .i64 0)), none⟩,
⟨some 5, .mov (.k (.int .i64 0)), none⟩,
⟨some 6, .mov (.k (.int .i64 0)), none⟩]
[4, 5, 6])
.ret)
.skip))
(.seq (.reg [⟨some 168, .loadN (.t 2) 9, none⟩,
⟨some 169, .mov (.t 11), none⟩,
⟨some 170, .bin .sub (.t 169) (.k (.int .i64 1)), none⟩,
⟨some 171, .call n_proctorref13_below [.t 168, .t 170], none⟩,
⟨some 167, .mov (.t 171), none⟩,
⟨some 172, .ext (.t 167) 0, none⟩,
⟨some 173, .ext (.t 167) 1, none⟩,
⟨some 174, .ext (.t 167) 2, none⟩,
⟨some 12, .mov (.t 172), none⟩,
⟨some 13, .mov (.t 173), none⟩,
⟨some 14, .mov (.t 174), none⟩]
[7, 9, 10, 12, 13, 14])
(.seq (.reg [⟨some 175, .faddr (.t 7) 0, none⟩,
⟨some 176, .load (.t 175), none⟩,
⟨some 177, .mov (.t 12), none⟩,
⟨some 178, .mov (.t 9), none⟩,
⟨some 179, .call n_proctorref13_Type [.t 176, .t 177, .t 178], none⟩,
⟨some 180, .mov (.t 10), none⟩,
⟨some 181, .mov (.t 13), none⟩,
⟨some 182, .mx false (.t 180) (.t 181), none⟩,
⟨some 183, .bin .add (.t 182) (.k (.int .i64 1)), none⟩,
⟨some 184, .mov (.t 14), none⟩,
⟨some 4, .mov (.t 179), none⟩,
⟨some 5, .mov (.t 183), none⟩,
⟨some 6, .mov (.t 184), none⟩]
[4, 5, 6])
.ret))))))))))))))⟩
theorem k_proctorref13_below : chkF Tryz.prog Tryz.f218 c_proctorref13_below = true := by kernel_rfl
theorem pc_proctorref13_below {G : Nat → Option AV} {args : List AV} {r : AV} (h : Runs Tryz.prog G c_proctorref13_below args r) (hk : args.length = c_proctorref13_below.k := by rfl) : PureC Tryz.prog G n_proctorref13_below args r := PureC.of_runs (fn := Tryz.f218) (A := c_proctorref13_below) Tryz.func218 k_proctorref13_below hk h
def c_proctorref13_bound : AFun := ⟨34, 4, [.t 8],
  (.seq (.reg [⟨some 4, .box t_api_Qea 9 (.t 0), none⟩,
⟨some 5, .box t_api_Symbol 2 (.t 1), none⟩,
⟨some 8, .mov (.k (.bool false)), none⟩]
[2, 3, 4, 5])
(.seq (.seq (.reg [⟨some 10, .mov (.t 2), none⟩,
⟨some 9, .mov (.t 10), none⟩]
[3, 4, 5, 9])
(.block 0
(.loop [3, 4, 5, 9] [4, 5]
  (.seq (.seq (.reg [⟨some 11, .mov (.t 9), none⟩,
⟨some 12, .mov (.t 3), none⟩,
⟨some 13, .bin .lss (.t 11) (.t 12), none⟩]
[3, 4, 5, 9, 13])
(.cond (.t 13)
.skip
(.exit 0)))
(.seq (.block 1
(.seq (.dreg [⟨some 16, .faddr (.t 4) 7, none⟩,
⟨some 17, .load (.t 16), none⟩,
⟨some 18, .mov (.t 9), none⟩,
⟨some 19, .iaddr 7 (.t 17) (.t 18), none⟩,
⟨some 20, .faddr (.t 19) 0, none⟩,
⟨some 21, .load (.t 20), none⟩,
⟨some 22, .bin .eql (.t 21) (.k (.int .i64 2)), none⟩,
⟨some 23, .mov (.t 22), none⟩,
⟨some 24, .loadN (.t 5) 2, (some (23, true))⟩,
⟨some 25, .faddr (.t 4) 7, (some (23, true))⟩,
⟨some 26, .load (.t 25), (some (23, true))⟩,
⟨some 27, .mov (.t 9), (some (23, true))⟩,
⟨some 28, .iaddr 7 (.t 26) (.t 27), (some (23, true))⟩,
⟨some 29, .faddr (.t 28) 1, (some (23, true))⟩,
⟨some 30, .load (.t 29), (some (23, true))⟩,
⟨some 31, .call n_proctorref13_Names [.t 24, .t 30], (some (23, true))⟩,
⟨some 32, .un .not (.t 31), (some (23, true))⟩,
⟨some 33, .pick (.t 23) (.t 32) (.k (.bool false)), none⟩]
[3, 4, 5, 9, 33])
(.cond (.t 33)
(.seq (.reg [⟨some 8, .mov (.k (.bool false)), none⟩]
[8])
.ret)
.skip)))
(.reg [⟨some 14, .mov (.t 9), none⟩,
⟨some 15, .bin .add (.t 14) (.k (.int .i64 1)), none⟩,
⟨some 9, .mov (.t 15), none⟩]
[3, 4, 5, 9]))))))
(.seq (.reg [⟨some 8, .mov (.k (.bool true)), none⟩]
[8])
.ret)))⟩
theorem k_proctorref13_bound : chkF Tryz.prog Tryz.f137 c_proctorref13_bound = true := by kernel_rfl
theorem pc_proctorref13_bound {G : Nat → Option AV} {args : List AV} {r : AV} (h : Runs Tryz.prog G c_proctorref13_bound args r) (hk : args.length = c_proctorref13_bound.k := by rfl) : PureC Tryz.prog G n_proctorref13_bound args r := PureC.of_runs (fn := Tryz.f137) (A := c_proctorref13_bound) Tryz.func137 k_proctorref13_bound hk h
def c_proctorref13_names : AFun := ⟨112, 1, [.t 2],
  (.seq (.reg [⟨some 1, .box t_api_Qea 9 (.t 0), none⟩,
⟨some 2, .mov (.k (.bool false)), none⟩]
[1])
(.seq (.reg [⟨some 3, .nilrow t_string 1, none⟩]
[1, 3])
(.seq (.seq (.reg [⟨some 4, .mov (.k (.int .i64 0)), none⟩]
[1, 3, 4])
(.block 0
(.loop [1, 3, 4] [1, 3, 24]
  (.seq (.seq (.reg [⟨some 9, .mov (.t 4), none⟩,
⟨some 10, .faddr (.t 1) 2, none⟩,
⟨some 11, .load (.t 10), none⟩,
⟨some 12, .len false (.t 11), none⟩,
⟨some 13, .bin .lss (.t 9) (.t 12), none⟩]
[1, 3, 4, 13])
(.cond (.t 13)
.skip
(.exit 0)))
(.seq (.block 1
(.seq (.reg [⟨some 16, .mov (.t 3), none⟩,
⟨some 17, .faddr (.t 1) 2, none⟩,
⟨some 18, .load (.t 17), none⟩,
⟨some 19, .mov (.t 4), none⟩,
⟨some 20, .iaddr 3 (.t 18) (.t 19), none⟩,
⟨some 21, .faddr (.t 20) 1, none⟩,
⟨some 22, .load (.t 21), none⟩,
⟨some 23, .mkrow t_string 1 1 (.str []) [(0, .t 22)], none⟩,
⟨some 24, .app t_string 1 16 (.t 16) (.t 23), none⟩,
⟨some 3, .mov (.t 24), none⟩]
[1, 3, 4])
(.seq (.reg [⟨some 25, .faddr (.t 1) 2, none⟩,
⟨some 26, .load (.t 25), none⟩,
⟨some 27, .mov (.t 4), none⟩,
⟨some 28, .iaddr 3 (.t 26) (.t 27), none⟩,
⟨some 29, .faddr (.t 28) 2, none⟩,
⟨some 30, .load (.t 29), none⟩,
⟨some 31, .bin .lss (.t 30) (.k (.int .i64 1)), none⟩,
⟨some 32, .mov (.t 31), none⟩,
⟨some 33, .faddr (.t 1) 2, (some (32, false))⟩,
⟨some 34, .load (.t 33), (some (32, false))⟩,
⟨some 35, .mov (.t 4), (some (32, false))⟩,
⟨some 36, .iaddr 3 (.t 34) (.t 35), (some (32, false))⟩,
⟨some 37, .faddr (.t 36) 2, (some (32, false))⟩,
⟨some 38, .load (.t 37), (some (32, false))⟩,
⟨some 39, .bin .gtr (.t 38) (.k (.int .i64 3)), (some (32, false))⟩,
⟨some 40, .pick (.t 32) (.k (.bool true)) (.t 39), none⟩]
[1, 3, 4, 40])
(.cond (.t 40)
(.seq (.reg [⟨some 2, .mov (.k (.bool false)), none⟩]
[2])
.ret)
.skip))))
(.reg [⟨some 14, .mov (.t 4), none⟩,
⟨some 15, .bin .add (.t 14) (.k (.int .i64 1)), none⟩,
⟨some 4, .mov (.t 15), none⟩]
[1, 3, 4]))))))
(.seq (.seq (.reg [⟨some 5, .mov (.k (.int .i64 0)), none⟩]
[1, 3, 5])
(.block 2
(.loop [1, 3, 5] [1, 3, 12, 23, 24, 56]
  (.seq (.seq (.reg [⟨some 41, .mov (.t 5), none⟩,
⟨some 42, .faddr (.t 1) 3, none⟩,
⟨some 43, .load (.t 42), none⟩,
⟨some 44, .len false (.t 43), none⟩,
⟨some 45, .bin .lss (.t 41) (.t 44), none⟩]
[1, 3, 5, 45])
(.cond (.t 45)
.skip
(.exit 2)))
(.seq (.block 3
(.seq (.reg [⟨some 48, .mov (.t 3), none⟩,
⟨some 49, .faddr (.t 1) 3, none⟩,
⟨some 50, .load (.t 49), none⟩,
⟨some 51, .mov (.t 5), none⟩,
⟨some 52, .iaddr 5 (.t 50) (.t 51), none⟩,
⟨some 53, .faddr (.t 52) 0, none⟩,
⟨some 54, .load (.t 53), none⟩,
⟨some 55, .mkrow t_string 1 1 (.str []) [(0, .t 54)], none⟩,
⟨some 56, .app t_string 1 16 (.t 48) (.t 55), none⟩,
⟨some 3, .mov (.t 56), none⟩]
[1, 3, 5])
(.seq (.reg [⟨some 57, .faddr (.t 1) 3, none⟩,
⟨some 58, .load (.t 57), none⟩,
⟨some 59, .mov (.t 5), none⟩,
⟨some 60, .iaddr 5 (.t 58) (.t 59), none⟩,
⟨some 61, .faddr (.t 60) 1, none⟩,
⟨some 62, .loadN (.t 61) 4, none⟩,
⟨some 63, .call n_proctorref03_Right [.t 62], none⟩,
⟨some 64, .un .not (.t 63), none⟩]
[1, 3, 5, 64])
(.cond (.t 64)
(.seq (.reg [⟨some 2, .mov (.k (.bool false)), none⟩]
[2])
.ret)
.skip))))
(.reg [⟨some 46, .mov (.t 5), none⟩,
⟨some 47, .bin .add (.t 46) (.k (.int .i64 1)), none⟩,
⟨some 5, .mov (.t 47), none⟩]
[1, 3, 5]))))))
(.seq (.seq (.reg [⟨some 6, .mov (.k (.int .i64 0)), none⟩]
[1, 3, 6])
(.block 4
(.loop [1, 3, 6] [1, 3, 12, 23, 24, 44, 55, 56, 63]
  (.seq (.seq (.reg [⟨some 65, .mov (.t 6), none⟩,
⟨some 66, .mov (.t 3), none⟩,
⟨some 67, .len false (.t 66), none⟩,
⟨some 68, .bin .lss (.t 65) (.t 67), none⟩]
[1, 3, 6, 68])
(.cond (.t 68)
.skip
(.exit 4)))
(.seq (.block 5
(.seq (.reg [⟨some 71, .mov (.t 3), none⟩,
⟨some 72, .mov (.t 6), none⟩,
⟨some 73, .iaddr 1 (.t 71) (.t 72), none⟩,
⟨some 74, .load (.t 73), none⟩,
⟨some 75, .call n_proctorref07_Name [.t 74], none⟩,
⟨some 76, .un .not (.t 75), none⟩,
⟨some 77, .mov (.t 76), none⟩,
⟨some 78, .mov (.t 3), (some (77, false))⟩,
⟨some 79, .mov (.t 6), (some (77, false))⟩,
⟨some 80, .call n_proctorref13_twice [.t 78, .t 79], (some (77, false))⟩,
⟨some 81, .pick (.t 77) (.k (.bool true)) (.t 80), none⟩]
[1, 3, 6, 81])
(.cond (.t 81)
(.seq (.reg [⟨some 2, .mov (.k (.bool false)), none⟩]
[2])
.ret)
.skip)))
(.reg [⟨some 69, .mov (.t 6), none⟩,
⟨some 70, .bin .add (.t 69) (.k (.int .i64 1)), none⟩,
⟨some 6, .mov (.t 70), none⟩]
[1, 3, 6]))))))
(.seq (.reg [⟨some 7, .nilrow t_string 1, none⟩]
[1, 7])
(.seq (.seq (.reg [⟨some 8, .mov (.k (.int .i64 0)), none⟩]
[1, 7, 8])
(.block 6
(.loop [1, 7, 8] [1, 3, 12, 23, 24, 44, 55, 56, 63, 67, 75, 80, 7, 97]
  (.seq (.seq (.reg [⟨some 82, .mov (.t 8), none⟩,
⟨some 83, .faddr (.t 1) 4, none⟩,
⟨some 84, .load (.t 83), none⟩,
⟨some 85, .len false (.t 84), none⟩,
⟨some 86, .bin .lss (.t 82) (.t 85), none⟩]
[1, 7, 8, 86])
(.cond (.t 86)
.skip
(.exit 6)))
(.seq (.block 7
(.seq (.reg [⟨some 89, .mov (.t 7), none⟩,
⟨some 90, .faddr (.t 1) 4, none⟩,
⟨some 91, .load (.t 90), none⟩,
⟨some 92, .mov (.t 8), none⟩,
⟨some 93, .iaddr 3 (.t 91) (.t 92), none⟩,
⟨some 94, .faddr (.t 93) 0, none⟩,
⟨some 95, .load (.t 94), none⟩,
⟨some 96, .mkrow t_string 1 1 (.str []) [(0, .t 95)], none⟩,
⟨some 97, .app t_string 1 16 (.t 89) (.t 96), none⟩,
⟨some 7, .mov (.t 97), none⟩]
[1, 7, 8])
(.seq (.reg [⟨some 98, .mov (.t 7), none⟩,
⟨some 99, .mov (.t 8), none⟩,
⟨some 100, .iaddr 1 (.t 98) (.t 99), none⟩,
⟨some 101, .load (.t 100), none⟩,
⟨some 102, .call n_proctorref07_Name [.t 101], none⟩,
⟨some 103, .un .not (.t 102), none⟩,
⟨some 104, .mov (.t 103), none⟩,
⟨some 105, .mov (.t 7), (some (104, false))⟩,
⟨some 106, .mov (.t 8), (some (104, false))⟩,
⟨some 107, .call n_proctorref13_twice [.t 105, .t 106], (some (104, false))⟩,
⟨some 108, .pick (.t 104) (.k (.bool true)) (.t 107), none⟩]
[1, 7, 8, 108])
(.cond (.t 108)
(.seq (.reg [⟨some 2, .mov (.k (.bool false)), none⟩]
[2])
.ret)
.skip))))
(.reg [⟨some 87, .mov (.t 8), none⟩,
⟨some 88, .bin .add (.t 87) (.k (.int .i64 1)), none⟩,
⟨some 8, .mov (.t 88), none⟩]
[1, 7, 8]))))))
(.seq (.reg [⟨some 109, .faddr (.t 1) 0, none⟩,
⟨some 110, .load (.t 109), none⟩,
⟨some 111, .call n_proctorref07_Name [.t 110], none⟩,
⟨some 2, .mov (.t 111), none⟩]
[2])
.ret))))))))⟩
theorem k_proctorref13_names : chkF Tryz.prog Tryz.f72 c_proctorref13_names = true := by kernel_rfl
theorem pc_proctorref13_names {G : Nat → Option AV} {args : List AV} {r : AV} (h : Runs Tryz.prog G c_proctorref13_names args r) (hk : args.length = c_proctorref13_names.k := by rfl) : PureC Tryz.prog G n_proctorref13_names args r := PureC.of_runs (fn := Tryz.f72) (A := c_proctorref13_names) Tryz.func72 k_proctorref13_names hk h
def c_proctorref13_symbol : AFun := ⟨56, 2, [.t 4],
  (.seq (.reg [⟨some 2, .box t_api_Qea 9 (.t 0), none⟩,
⟨some 3, .box t_api_Symbol 2 (.t 1), none⟩,
⟨some 4, .mov (.k (.bool false)), none⟩]
[2, 3])
(.seq (.seq (.dreg [⟨some 6, .faddr (.t 3) 0, none⟩,
⟨some 7, .load (.t 6), none⟩,
⟨some 8, .bin .lss (.t 7) (.k (.int .i64 0)), none⟩,
⟨some 9, .mov (.t 8), none⟩,
⟨some 10, .faddr (.t 3) 0, (some (9, false))⟩,
⟨some 11, .load (.t 10), (some (9, false))⟩,
⟨some 12, .faddr (.t 2) 1, (some (9, false))⟩,
⟨some 13, .load (.t 12), (some (9, false))⟩,
⟨some 14, .len false (.t 13), (some (9, false))⟩,
⟨some 15, .bin .geq (.t 11) (.t 14), (some (9, false))⟩,
⟨some 16, .pick (.t 9) (.k (.bool true)) (.t 15), none⟩,
⟨some 17, .mov (.t 16), none⟩,
⟨some 18, .faddr (.t 3) 1, (some (17, false))⟩,
⟨some 19, .load (.t 18), (some (17, false))⟩,
⟨some 20, .len false (.t 19), (some (17, false))⟩,
⟨some 21, .faddr (.t 2) 1, (some (17, false))⟩,
⟨some 22, .load (.t 21), (some (17, false))⟩,
⟨some 23, .faddr (.t 3) 0, (some (17, false))⟩,
⟨some 24, .load (.t 23), (some (17, false))⟩,
⟨some 25, .iaddr 2 (.t 22) (.t 24), (some (17, false))⟩,
⟨some 26, .faddr (.t 25) 1, (some (17, false))⟩,
⟨some 27, .load (.t 26), (some (17, false))⟩,
⟨some 28, .len false (.t 27), (some (17, false))⟩,
⟨some 29, .bin .neq (.t 20) (.t 28), (some (17, false))⟩,
⟨some 30, .pick (.t 17) (.k (.bool true)) (.t 29), none⟩]
[2, 3, 30])
(.cond (.t 30)
(.seq (.reg [⟨some 4, .mov (.k (.bool false)), none⟩]
[4])
.ret)
.skip))
(.seq (.seq (.reg [⟨some 5, .mov (.k (.int .i64 0)), none⟩]
[2, 3, 5])
(.block 0
(.loop [2, 3, 5] [2, 3, 14, 20, 28]
  (.seq (.seq (.reg [⟨some 31, .mov (.t 5), none⟩,
⟨some 32, .faddr (.t 3) 1, none⟩,
⟨some 33, .load (.t 32), none⟩,
⟨some 34, .len false (.t 33), none⟩,
⟨some 35, .bin .lss (.t 31) (.t 34), none⟩]
[2, 3, 5, 35])
(.cond (.t 35)
.skip
(.exit 0)))
(.seq (.block 1
(.seq (.dreg [⟨some 38, .loadN (.t 2) 9, none⟩,
⟨some 39, .faddr (.t 3) 1, none⟩,
⟨some 40, .load (.t 39), none⟩,
⟨some 41, .mov (.t 5), none⟩,
⟨some 42, .iaddr 6 (.t 40) (.t 41), none⟩,
⟨some 43, .loadN (.t 42) 6, none⟩,
⟨some 44, .faddr (.t 2) 1, none⟩,
⟨some 45, .load (.t 44), none⟩,
⟨some 46, .faddr (.t 3) 0, none⟩,
⟨some 47, .load (.t 46), none⟩,
⟨some 48, .iaddr 2 (.t 45) (.t 47), none⟩,
⟨some 49, .faddr (.t 48) 1, none⟩,
⟨some 50, .load (.t 49), none⟩,
⟨some 51, .mov (.t 5), none⟩,
⟨some 52, .iaddr 1 (.t 50) (.t 51), none⟩,
⟨some 53, .load (.t 52), none⟩,
⟨some 54, .call n_proctorref13_arg [.t 38, .t 43, .t 53], none⟩,
⟨some 55, .un .not (.t 54), none⟩]
[2, 3, 5, 55])
(.cond (.t 55)
(.seq (.reg [⟨some 4, .mov (.k (.bool false)), none⟩]
[4])
.ret)
.skip)))
(.reg [⟨some 36, .mov (.t 5), none⟩,
⟨some 37, .bin .add (.t 36) (.k (.int .i64 1)), none⟩,
⟨some 5, .mov (.t 37), none⟩]
[2, 3, 5]))))))
(.seq (.reg [⟨some 4, .mov (.k (.bool true)), none⟩]
[4])
.ret))))⟩
theorem k_proctorref13_symbol : chkF Tryz.prog Tryz.f138 c_proctorref13_symbol = true := by kernel_rfl
theorem pc_proctorref13_symbol {G : Nat → Option AV} {args : List AV} {r : AV} (h : Runs Tryz.prog G c_proctorref13_symbol args r) (hk : args.length = c_proctorref13_symbol.k := by rfl) : PureC Tryz.prog G n_proctorref13_symbol args r := PureC.of_runs (fn := Tryz.f138) (A := c_proctorref13_symbol) Tryz.func138 k_proctorref13_symbol hk h
def c_proctorref13_symbols : AFun := ⟨118, 1, [.t 2],
  (.seq (.reg [⟨some 1, .box t_api_Qea 9 (.t 0), none⟩,
⟨some 2, .mov (.k (.bool false)), none⟩]
[1])
(.seq (.reg [⟨some 13, .faddr (.t 1) 6, none⟩,
⟨some 14, .load (.t 13), none⟩,
⟨some 15, .len false (.t 14), none⟩,
⟨some 16, .mks t_bool 1 1 (.bool false) (.t 15) (.t 15), none⟩,
⟨some 3, .mov (.t 16), none⟩]
[1, 3])
(.seq (.reg [⟨some 4, .nilrow t_int 1, none⟩]
[1, 3, 4])
(.seq (.seq (.reg [⟨some 5, .mov (.k (.int .i64 0)), none⟩]
[1, 3, 4, 5])
(.block 0
(.loop [1, 3, 4, 5] [1, 15, 16, 4, 38]
  (.seq (.seq (.reg [⟨some 17, .mov (.t 5), none⟩,
⟨some 18, .faddr (.t 1) 8, none⟩,
⟨some 19, .load (.t 18), none⟩,
⟨some 20, .len false (.t 19), none⟩,
⟨some 21, .bin .lss (.t 17) (.t 20), none⟩]
[1, 3, 4, 5, 21])
(.cond (.t 21)
.skip
(.exit 0)))
(.seq (.block 1
(.seq (.reg [⟨some 24, .faddr (.t 1) 8, none⟩,
⟨some 25, .load (.t 24), none⟩,
⟨some 26, .mov (.t 5), none⟩,
⟨some 27, .iaddr 5 (.t 25) (.t 26), none⟩,
⟨some 28, .faddr (.t 27) 1, none⟩,
⟨some 29, .load (.t 28), none⟩,
⟨some 6, .mov (.t 29), none⟩]
[1, 3, 4, 5, 6])
(.seq (.seq (.reg [⟨some 30, .mov (.t 3), none⟩,
⟨some 31, .mov (.t 6), none⟩,
⟨some 32, .iaddr 1 (.t 30) (.t 31), none⟩,
⟨some 33, .load (.t 32), none⟩,
⟨some 34, .un .not (.t 33), none⟩]
[1, 3, 4, 5, 6, 34])
(.cond (.t 34)
(.reg [⟨some 35, .mov (.t 4), none⟩,
⟨some 36, .mov (.t 6), none⟩,
⟨some 37, .mkrow t_int 1 1 (.int .i64 0) [(0, .t 36)], none⟩,
⟨some 38, .app t_int 1 8 (.t 35) (.t 37), none⟩,
⟨some 4, .mov (.t 38), none⟩]
[1, 3, 4, 5, 6])
.skip))
(.reg [⟨some 39, .mov (.t 3), none⟩,
⟨some 40, .mov (.t 6), none⟩,
⟨some 41, .iaddr 1 (.t 39) (.t 40), none⟩,
⟨none, .store (.t 41) (.k (.bool true)) 1, none⟩]
[1, 3, 4, 5]))))
(.reg [⟨some 22, .mov (.t 5), none⟩,
⟨some 23, .bin .add (.t 22) (.k (.int .i64 1)), none⟩,
⟨some 5, .mov (.t 23), none⟩]
[1, 3, 4, 5]))))))
(.seq (.seq (.reg [⟨some 7, .mov (.k (.int .i64 0)), none⟩]
[1, 4, 7])
(.block 2
(.loop [1, 4, 7] [1, 15, 16, 4, 20, 37, 38]
  (.seq (.seq (.reg [⟨some 42, .mov (.t 7), none⟩,
⟨some 43, .mov (.t 4), none⟩,
⟨some 44, .len false (.t 43), none⟩,
⟨some 45, .bin .lss (.t 42) (.t 44), none⟩]
[1, 4, 7, 45])
(.cond (.t 45)
.skip
(.exit 2)))
(.seq (.block 3
(.seq (.dreg [⟨some 48, .mov (.t 4), none⟩,
⟨some 49, .mov (.t 7), none⟩,
⟨some 50, .iaddr 1 (.t 48) (.t 49), none⟩,
⟨some 51, .load (.t 50), none⟩,
⟨some 52, .faddr (.t 1) 6, none⟩,
⟨some 53, .load (.t 52), none⟩,
⟨some 54, .len false (.t 53), none⟩,
⟨some 55, .mov (.t 4), none⟩,
⟨some 56, .len false (.t 55), none⟩,
⟨some 57, .bin .sub (.t 54) (.t 56), none⟩,
⟨some 58, .mov (.t 7), none⟩,
⟨some 59, .bin .add (.t 57) (.t 58), none⟩,
⟨some 60, .bin .neq (.t 51) (.t 59), none⟩]
[1, 4, 7, 60])
(.cond (.t 60)
(.seq (.reg [⟨some 2, .mov (.k (.bool false)), none⟩]
[2])
.ret)
.skip)))
(.reg [⟨some 46, .mov (.t 7), none⟩,
⟨some 47, .bin .add (.t 46) (.k (.int .i64 1)), none⟩,
⟨some 7, .mov (.t 47), none⟩]
[1, 4, 7]))))))
(.seq (.seq (.reg [⟨some 8, .mov (.k (.int .i64 0)), none⟩]
[1, 8])
(.block 4
(.loop [1, 8] [1, 15, 16, 4, 20, 37, 38, 44, 54, 56]
  (.seq (.seq (.reg [⟨some 61, .mov (.t 8), none⟩,
⟨some 62, .faddr (.t 1) 6, none⟩,
⟨some 63, .load (.t 62), none⟩,
⟨some 64, .len false (.t 63), none⟩,
⟨some 65, .bin .lss (.t 61) (.t 64), none⟩]
[1, 8, 65])
(.cond (.t 65)
.skip
(.exit 4)))
(.seq (.block 5
(.seq (.seq (.dreg [⟨some 68, .loadN (.t 1) 9, none⟩,
⟨some 69, .faddr (.t 1) 6, none⟩,
⟨some 70, .load (.t 69), none⟩,
⟨some 71, .mov (.t 8), none⟩,
⟨some 72, .iaddr 2 (.t 70) (.t 71), none⟩,
⟨some 73, .loadN (.t 72) 2, none⟩,
⟨some 74, .call n_proctorref13_symbol [.t 68, .t 73], none⟩,
⟨some 75, .un .not (.t 74), none⟩]
[1, 8, 75])
(.cond (.t 75)
(.seq (.reg [⟨some 2, .mov (.k (.bool false)), none⟩]
[2])
.ret)
.skip))
(.seq (.reg [⟨some 9, .mov (.k (.int .i64 0)), none⟩]
[1, 8, 9])
(.block 6
(.loop [1, 8, 9] [1, 15, 16, 4, 20, 37, 38, 44, 54, 56, 64, 74]
  (.seq (.seq (.reg [⟨some 76, .mov (.t 9), none⟩,
⟨some 77, .mov (.t 8), none⟩,
⟨some 78, .bin .lss (.t 76) (.t 77), none⟩]
[1, 8, 9, 78])
(.cond (.t 78)
.skip
(.exit 6)))
(.seq (.block 7
(.seq (.dreg [⟨some 81, .faddr (.t 1) 6, none⟩,
⟨some 82, .load (.t 81), none⟩,
⟨some 83, .mov (.t 8), none⟩,
⟨some 84, .iaddr 2 (.t 82) (.t 83), none⟩,
⟨some 85, .loadN (.t 84) 2, none⟩,
⟨some 86, .faddr (.t 1) 6, none⟩,
⟨some 87, .load (.t 86), none⟩,
⟨some 88, .mov (.t 9), none⟩,
⟨some 89, .iaddr 2 (.t 87) (.t 88), none⟩,
⟨some 90, .loadN (.t 89) 2, none⟩,
⟨some 91, .call n_proctorref13_SameSymbol [.t 85, .t 90], none⟩]
[1, 8, 9, 91])
(.cond (.t 91)
(.seq (.reg [⟨some 2, .mov (.k (.bool false)), none⟩]
[2])
.ret)
.skip)))
(.reg [⟨some 79, .mov (.t 9), none⟩,
⟨some 80, .bin .add (.t 79) (.k (.int .i64 1)), none⟩,
⟨some 9, .mov (.t 80), none⟩]
[1, 8, 9]))))))))
(.reg [⟨some 66, .mov (.t 8), none⟩,
⟨some 67, .bin .add (.t 66) (.k (.int .i64 1)), none⟩,
⟨some 8, .mov (.t 67), none⟩]
[1, 8]))))))
(.seq (.seq (.reg [⟨some 10, .mov (.k (.int .i64 0)), none⟩]
[1, 10])
(.block 8
(.loop [1, 10] [1, 15, 16, 4, 20, 37, 38, 44, 54, 56, 64, 74, 91]
  (.seq (.seq (.reg [⟨some 92, .mov (.t 10), none⟩,
⟨some 93, .faddr (.t 1) 2, none⟩,
⟨some 94, .load (.t 93), none⟩,
⟨some 95, .len false (.t 94), none⟩,
⟨some 96, .bin .lss (.t 92) (.t 95), none⟩]
[1, 10, 96])
(.cond (.t 96)
.skip
(.exit 8)))
(.seq (.block 9
(.seq (.reg [⟨some 11, .mov (.k (.bool false)), none⟩]
[1, 10, 11])
(.seq (.seq (.reg [⟨some 12, .mov (.k (.int .i64 0)), none⟩]
[1, 10, 11, 12])
(.block 10
(.loop [1, 10, 11, 12] [1, 15, 16, 4, 20, 37, 38, 44, 54, 56, 64, 74, 91, 95]
  (.seq (.seq (.reg [⟨some 99, .mov (.t 12), none⟩,
⟨some 100, .faddr (.t 1) 6, none⟩,
⟨some 101, .load (.t 100), none⟩,
⟨some 102, .len false (.t 101), none⟩,
⟨some 103, .bin .lss (.t 99) (.t 102), none⟩]
[1, 10, 11, 12, 103])
(.cond (.t 103)
.skip
(.exit 10)))
(.seq (.block 11
(.reg [⟨some 106, .mov (.t 11), none⟩,
⟨some 107, .mov (.t 106), none⟩,
⟨some 108, .faddr (.t 1) 6, (some (107, false))⟩,
⟨some 109, .load (.t 108), (some (107, false))⟩,
⟨some 110, .mov (.t 12), (some (107, false))⟩,
⟨some 111, .iaddr 2 (.t 109) (.t 110), (some (107, false))⟩,
⟨some 112, .loadN (.t 111) 2, (some (107, false))⟩,
⟨some 113, .mov (.t 10), (some (107, false))⟩,
⟨some 114, .call n_proctorref13_Names [.t 112, .t 113], (some (107, false))⟩,
⟨some 115, .pick (.t 107) (.k (.bool true)) (.t 114), none⟩,
⟨some 11, .mov (.t 115), none⟩]
[1, 10, 11, 12]))
(.reg [⟨some 104, .mov (.t 12), none⟩,
⟨some 105, .bin .add (.t 104) (.k (.int .i64 1)), none⟩,
⟨some 12, .mov (.t 105), none⟩]
[1, 10, 11, 12]))))))
(.seq (.reg [⟨some 116, .mov (.t 11), none⟩,
⟨some 117, .un .not (.t 116), none⟩]
[1, 10, 117])
(.cond (.t 117)
(.seq (.reg [⟨some 2, .mov (.k (.bool false)), none⟩]
[2])
.ret)
.skip)))))
(.reg [⟨some 97, .mov (.t 10), none⟩,
⟨some 98, .bin .add (.t 97) (.k (.int .i64 1)), none⟩,
⟨some 10, .mov (.t 98), none⟩]
[1, 10]))))))
(.seq (.reg [⟨some 2, .mov (.k (.bool true)), none⟩]
[2])
.ret))))))))⟩
theorem k_proctorref13_symbols : chkF Tryz.prog Tryz.f74 c_proctorref13_symbols = true := by kernel_rfl
theorem pc_proctorref13_symbols {G : Nat → Option AV} {args : List AV} {r : AV} (h : Runs Tryz.prog G c_proctorref13_symbols args r) (hk : args.length = c_proctorref13_symbols.k := by rfl) : PureC Tryz.prog G n_proctorref13_symbols args r := PureC.of_runs (fn := Tryz.f74) (A := c_proctorref13_symbols) Tryz.func74 k_proctorref13_symbols hk h
def c_proctorref13_trans : AFun := ⟨153, 3, [.t 6, .t 7],
  (.seq (.reg [⟨some 3, .box t_api_Qea 9 (.t 0), none⟩,
⟨some 4, .box t_api_Trans 5 (.t 1), none⟩,
⟨some 6, .mov (.k (.int .i64 0)), none⟩,
⟨some 7, .mov (.k (.bool false)), none⟩]
[2, 3, 4])
(.seq (.seq (.reg [⟨some 16, .faddr (.t 4) 0, none⟩,
⟨some 17, .load (.t 16), none⟩,
⟨some 18, .bin .lss (.t 17) (.k (.int .i64 0)), none⟩,
⟨some 19, .mov (.t 18), none⟩,
⟨some 20, .faddr (.t 4) 0, (some (19, false))⟩,
⟨some 21, .load (.t 20), (some (19, false))⟩,
⟨some 22, .faddr (.t 3) 4, (some (19, false))⟩,
⟨some 23, .load (.t 22), (some (19, false))⟩,
⟨some 24, .len false (.t 23), (some (19, false))⟩,
⟨some 25, .bin .geq (.t 21) (.t 24), (some (19, false))⟩,
⟨some 26, .pick (.t 19) (.k (.bool true)) (.t 25), none⟩,
⟨some 27, .mov (.t 26), none⟩,
⟨some 28, .faddr (.t 4) 2, (some (27, false))⟩,
⟨some 29, .load (.t 28), (some (27, false))⟩,
⟨some 30, .bin .lss (.t 29) (.k (.int .i64 0)), (some (27, false))⟩,
⟨some 31, .pick (.t 27) (.k (.bool true)) (.t 30), none⟩,
⟨some 32, .mov (.t 31), none⟩,
⟨some 33, .faddr (.t 4) 2, (some (32, false))⟩,
⟨some 34, .load (.t 33), (some (32, false))⟩,
⟨some 35, .faddr (.t 3) 4, (some (32, false))⟩,
⟨some 36, .load (.t 35), (some (32, false))⟩,
⟨some 37, .len false (.t 36), (some (32, false))⟩,
⟨some 38, .bin .geq (.t 34) (.t 37), (some (32, false))⟩,
⟨some 39, .pick (.t 32) (.k (.bool true)) (.t 38), none⟩,
⟨some 40, .mov (.t 39), none⟩,
⟨some 41, .faddr (.t 4) 1, (some (40, false))⟩,
⟨some 42, .load (.t 41), (some (40, false))⟩,
⟨some 43, .bin .lss (.t 42) (.k (.int .i64 0)), (some (40, false))⟩,
⟨some 44, .pick (.t 40) (.k (.bool true)) (.t 43), none⟩,
⟨some 45, .mov (.t 44), none⟩,
⟨some 46, .faddr (.t 4) 1, (some (45, false))⟩,
⟨some 47, .load (.t 46), (some (45, false))⟩,
⟨some 48, .faddr (.t 3) 6, (some (45, false))⟩,
⟨some 49, .load (.t 48), (some (45, false))⟩,
⟨some 50, .len false (.t 49), (some (45, false))⟩,
⟨some 51, .bin .geq (.t 47) (.t 50), (some (45, false))⟩,
⟨some 52, .pick (.t 45) (.k (.bool true)) (.t 51), none⟩]
[2, 3, 4, 52])
(.cond (.t 52)
(.seq (.reg [⟨some 6, .mov (.k (.int .i64 0)), none⟩,
⟨some 7, .mov (.k (.bool false)), none⟩]
[6, 7])
.ret)
.skip))
(.seq (.reg [⟨some 53, .mov (.t 2), none⟩,
⟨some 8, .mov (.t 53), none⟩]
[2, 3, 4, 8])
(.seq (.seq (.reg [⟨some 54, .faddr (.t 4) 3, none⟩,
⟨some 55, .load (.t 54), none⟩,
⟨some 56, .bin .neq (.t 55) (.k (.int .i64 (-1))), none⟩]
[2, 3, 4, 8, 56])
(.cond (.t 56)
(.seq (.reg [⟨some 58, .loadN (.t 3) 9, none⟩,
⟨some 59, .mov (.t 8), none⟩,
⟨some 60, .faddr (.t 4) 3, none⟩,
⟨some 61, .load (.t 60), none⟩,
⟨some 62, .call n_proctorref13_Kind [.t 58, .t 59, .t 61], none⟩,
⟨some 57, .mov (.t 62), none⟩,
⟨some 63, .ext (.t 57) 0, none⟩,
⟨some 64, .ext (.t 57) 1, none⟩,
⟨some 9, .mov (.t 63), none⟩,
⟨some 10, .mov (.t 64), none⟩]
[2, 3, 4, 9, 10])
(.seq (.seq (.reg [⟨some 65, .mov (.t 9), none⟩,
⟨some 66, .bin .neq (.t 65) (.k (.int .i64 3)), none⟩,
⟨some 67, .mov (.t 66), none⟩,
⟨some 68, .mov (.t 10), (some (67, false))⟩,
⟨some 69, .bin .gtr (.t 68) (.k (.int .i64 64)), (some (67, false))⟩,
⟨some 70, .pick (.t 67) (.k (.bool true)) (.t 69), none⟩]
[2, 3, 4, 70])
(.cond (.t 70)
(.seq (.reg [⟨some 6, .mov (.k (.int .i64 0)), none⟩,
⟨some 7, .mov (.k (.bool false)), none⟩]
[6, 7])
.ret)
.skip))
(.reg [⟨some 71, .faddr (.t 4) 3, none⟩,
⟨some 72, .load (.t 71), none⟩,
⟨some 73, .bin .add (.t 72) (.k (.int .i64 1)), none⟩,
⟨some 8, .mov (.t 73), none⟩]
[2, 3, 4, 8])))
.skip))
(.seq (.seq (.reg [⟨some 11, .mov (.k (.int .i64 0)), none⟩]
[2, 3, 4, 8, 11])
(.block 0
(.loop [2, 3, 4, 8, 11] [3, 4, 24, 37, 50, 62]
  (.seq (.seq (.reg [⟨some 74, .mov (.t 11), none⟩,
⟨some 75, .faddr (.t 4) 4, none⟩,
⟨some 76, .load (.t 75), none⟩,
⟨some 77, .len false (.t 76), none⟩,
⟨some 78, .bin .lss (.t 74) (.t 77), none⟩]
[2, 3, 4, 8, 11, 78])
(.cond (.t 78)
.skip
(.exit 0)))
(.seq (.block 1
(.seq (.reg [⟨some 81, .faddr (.t 4) 4, none⟩,
⟨some 82, .load (.t 81), none⟩,
⟨some 83, .mov (.t 11), none⟩,
⟨some 84, .iaddr 2 (.t 82) (.t 83), none⟩,
⟨some 85, .loadN (.t 84) 2, none⟩,
⟨some 12, .alloc t_api_Set 2 (.agg [.int .i64 0, .int .i64 0]), none⟩,
⟨none, .store (.t 12) (.t 85) 2, none⟩]
[2, 3, 4, 8, 11, 12])
(.seq (.reg [⟨some 87, .loadN (.t 3) 9, none⟩,
⟨some 88, .mov (.t 8), none⟩,
⟨some 89, .faddr (.t 12) 1, none⟩,
⟨some 90, .load (.t 89), none⟩,
⟨some 91, .call n_proctorref13_Kind [.t 87, .t 88, .t 90], none⟩,
⟨some 86, .mov (.t 91), none⟩,
⟨some 92, .ext (.t 86) 0, none⟩,
⟨some 93, .ext (.t 86) 1, none⟩,
⟨some 13, .mov (.t 92), none⟩,
⟨some 14, .mov (.t 93), none⟩]
[2, 3, 4, 11, 12, 13, 14])
(.seq (.seq (.reg [⟨some 94, .faddr (.t 12) 0, none⟩,
⟨some 95, .load (.t 94), none⟩,
⟨some 96, .bin .lss (.t 95) (.k (.int .i64 0)), none⟩,
⟨some 97, .mov (.t 96), none⟩,
⟨some 98, .faddr (.t 12) 0, (some (97, false))⟩,
⟨some 99, .load (.t 98), (some (97, false))⟩,
⟨some 100, .faddr (.t 3) 3, (some (97, false))⟩,
⟨some 101, .load (.t 100), (some (97, false))⟩,
⟨some 102, .len false (.t 101), (some (97, false))⟩,
⟨some 103, .bin .geq (.t 99) (.t 102), (some (97, false))⟩,
⟨some 104, .pick (.t 97) (.k (.bool true)) (.t 103), none⟩,
⟨some 105, .mov (.t 104), none⟩,
⟨some 106, .mov (.t 13), (some (105, false))⟩,
⟨some 107, .bin .eql (.t 106) (.k (.int .i64 0)), (some (105, false))⟩,
⟨some 108, .pick (.t 105) (.k (.bool true)) (.t 107), none⟩,
⟨some 109, .mov (.t 108), none⟩,
⟨some 110, .mov (.t 14), (some (109, false))⟩,
⟨some 111, .bin .gtr (.t 110) (.k (.int .i64 64)), (some (109, false))⟩,
⟨some 112, .pick (.t 109) (.k (.bool true)) (.t 111), none⟩,
⟨some 113, .mov (.t 112), none⟩,
⟨some 114, .mov (.t 13), (some (113, false))⟩,
⟨some 115, .faddr (.t 3) 3, (some (113, false))⟩,
⟨some 116, .load (.t 115), (some (113, false))⟩,
⟨some 117, .faddr (.t 12) 0, (some (113, false))⟩,
⟨some 118, .load (.t 117), (some (113, false))⟩,
⟨some 119, .iaddr 5 (.t 116) (.t 118), (some (113, false))⟩,
⟨some 120, .faddr (.t 119) 1, (some (113, false))⟩,
⟨some 121, .faddr (.t 120) 0, (some (113, false))⟩,
⟨some 122, .load (.t 121), (some (113, false))⟩,
⟨some 123, .bin .neq (.t 114) (.t 122), (some (113, false))⟩,
⟨some 124, .pick (.t 113) (.k (.bool true)) (.t 123), none⟩]
[2, 3, 4, 11, 12, 124])
(.cond (.t 124)
(.seq (.reg [⟨some 6, .mov (.k (.int .i64 0)), none⟩,
⟨some 7, .mov (.k (.bool false)), none⟩]
[6, 7])
.ret)
.skip))
(.seq (.seq (.reg [⟨some 15, .mov (.k (.int .i64 0)), none⟩]
[2, 3, 4, 11, 12, 15])
(.block 2
(.loop [2, 3, 4, 11, 12, 15] [3, 4, 24, 37, 50, 62, 77, 12, 91, 102]
  (.seq (.seq (.reg [⟨some 125, .mov (.t 15), none⟩,
⟨some 126, .mov (.t 11), none⟩,
⟨some 127, .bin .lss (.t 125) (.t 126), none⟩]
[2, 3, 4, 11, 12, 15, 127])
(.cond (.t 127)
.skip
(.exit 2)))
(.seq (.block 3
(.seq (.dreg [⟨some 130, .faddr (.t 4) 4, none⟩,
⟨some 131, .load (.t 130), none⟩,
⟨some 132, .mov (.t 15), none⟩,
⟨some 133, .iaddr 2 (.t 131) (.t 132), none⟩,
⟨some 134, .faddr (.t 133) 0, none⟩,
⟨some 135, .load (.t 134), none⟩,
⟨some 136, .faddr (.t 12) 0, none⟩,
⟨some 137, .load (.t 136), none⟩,
⟨some 138, .bin .eql (.t 135) (.t 137), none⟩]
[2, 3, 4, 11, 12, 15, 138])
(.cond (.t 138)
(.seq (.reg [⟨some 6, .mov (.k (.int .i64 0)), none⟩,
⟨some 7, .mov (.k (.bool false)), none⟩]
[6, 7])
.ret)
.skip)))
(.reg [⟨some 128, .mov (.t 15), none⟩,
⟨some 129, .bin .add (.t 128) (.k (.int .i64 1)), none⟩,
⟨some 15, .mov (.t 129), none⟩]
[2, 3, 4, 11, 12, 15]))))))
(.reg [⟨some 139, .faddr (.t 12) 1, none⟩,
⟨some 140, .load (.t 139), none⟩,
⟨some 141, .bin .add (.t 140) (.k (.int .i64 1)), none⟩,
⟨some 8, .mov (.t 141), none⟩]
[2, 3, 4, 8, 11]))))))
(.reg [⟨some 79, .mov (.t 11), none⟩,
⟨some 80, .bin .add (.t 79) (.k (.int .i64 1)), none⟩,
⟨some 11, .mov (.t 80), none⟩]
[2, 3, 4, 8, 11]))))))
(.seq (.dreg [⟨some 142, .mov (.t 8), none⟩,
⟨some 143, .loadN (.t 3) 9, none⟩,
⟨some 144, .faddr (.t 3) 6, none⟩,
⟨some 145, .load (.t 144), none⟩,
⟨some 146, .faddr (.t 4) 1, none⟩,
⟨some 147, .load (.t 146), none⟩,
⟨some 148, .iaddr 2 (.t 145) (.t 147), none⟩,
⟨some 149, .loadN (.t 148) 2, none⟩,
⟨some 150, .mov (.t 2), none⟩,
⟨some 151, .mov (.t 8), none⟩,
⟨some 152, .call n_proctorref13_bound [.t 143, .t 149, .t 150, .t 151], none⟩,
⟨some 6, .mov (.t 142), none⟩,
⟨some 7, .mov (.t 152), none⟩]
[6, 7])
.ret))))))⟩
theorem k_proctorref13_trans : chkF Tryz.prog Tryz.f73 c_proctorref13_trans = true := by kernel_rfl
theorem pc_proctorref13_trans {G : Nat → Option AV} {args : List AV} {r : AV} (h : Runs Tryz.prog G c_proctorref13_trans args r) (hk : args.length = c_proctorref13_trans.k := by rfl) : PureC Tryz.prog G n_proctorref13_trans args r := PureC.of_runs (fn := Tryz.f73) (A := c_proctorref13_trans) Tryz.func73 k_proctorref13_trans hk h
def c_proctorref13_twice : AFun := ⟨20, 2, [.t 4],
  (.seq (.reg [⟨some 4, .mov (.k (.bool false)), none⟩]
[0, 1])
(.seq (.seq (.reg [⟨some 5, .mov (.k (.int .i64 0)), none⟩]
[0, 1, 5])
(.block 0
(.loop [0, 1, 5] []
  (.seq (.seq (.reg [⟨some 6, .mov (.t 5), none⟩,
⟨some 7, .mov (.t 1), none⟩,
⟨some 8, .bin .lss (.t 6) (.t 7), none⟩]
[0, 1, 5, 8])
(.cond (.t 8)
.skip
(.exit 0)))
(.seq (.block 1
(.seq (.dreg [⟨some 11, .mov (.t 0), none⟩,
⟨some 12, .mov (.t 5), none⟩,
⟨some 13, .iaddr 1 (.t 11) (.t 12), none⟩,
⟨some 14, .load (.t 13), none⟩,
⟨some 15, .mov (.t 0), none⟩,
⟨some 16, .mov (.t 1), none⟩,
⟨some 17, .iaddr 1 (.t 15) (.t 16), none⟩,
⟨some 18, .load (.t 17), none⟩,
⟨some 19, .bin .eql (.t 14) (.t 18), none⟩]
[0, 1, 5, 19])
(.cond (.t 19)
(.seq (.reg [⟨some 4, .mov (.k (.bool true)), none⟩]
[4])
.ret)
.skip)))
(.reg [⟨some 9, .mov (.t 5), none⟩,
⟨some 10, .bin .add (.t 9) (.k (.int .i64 1)), none⟩,
⟨some 5, .mov (.t 10), none⟩]
[0, 1, 5]))))))
(.seq (.reg [⟨some 4, .mov (.k (.bool false)), none⟩]
[4])
.ret)))⟩
theorem k_proctorref13_twice : chkF Tryz.prog Tryz.f135 c_proctorref13_twice = true := by kernel_rfl
theorem pc_proctorref13_twice {G : Nat → Option AV} {args : List AV} {r : AV} (h : Runs Tryz.prog G c_proctorref13_twice args r) (hk : args.length = c_proctorref13_twice.k := by rfl) : PureC Tryz.prog G n_proctorref13_twice args r := PureC.of_runs (fn := Tryz.f135) (A := c_proctorref13_twice) Tryz.func135 k_proctorref13_twice hk h
def c_proctorref18_Less : AFun := ⟨59, 2, [.t 4],
  (.seq (.reg [⟨some 2, .box t_api_Config 2 (.t 0), none⟩,
⟨some 3, .box t_api_Config 2 (.t 1), none⟩,
⟨some 4, .mov (.k (.bool false)), none⟩]
[2, 3])
(.seq (.seq (.reg [⟨some 6, .faddr (.t 2) 0, none⟩,
⟨some 7, .load (.t 6), none⟩,
⟨some 8, .faddr (.t 3) 0, none⟩,
⟨some 9, .load (.t 8), none⟩,
⟨some 10, .bin .neq (.t 7) (.t 9), none⟩]
[2, 3, 10])
(.cond (.t 10)
(.seq (.reg [⟨some 11, .faddr (.t 2) 0, none⟩,
⟨some 12, .load (.t 11), none⟩,
⟨some 13, .faddr (.t 3) 0, none⟩,
⟨some 14, .load (.t 13), none⟩,
⟨some 15, .bin .lss (.t 12) (.t 14), none⟩,
⟨some 4, .mov (.t 15), none⟩]
[4])
.ret)
.skip))
(.seq (.seq (.reg [⟨some 5, .mov (.k (.int .i64 0)), none⟩]
[2, 3, 5])
(.block 0
(.loop [2, 3, 5] [2, 3]
  (.seq (.seq (.reg [⟨some 16, .mov (.t 5), none⟩,
⟨some 17, .faddr (.t 2) 1, none⟩,
⟨some 18, .load (.t 17), none⟩,
⟨some 19, .len false (.t 18), none⟩,
⟨some 20, .bin .lss (.t 16) (.t 19), none⟩,
⟨some 21, .mov (.t 20), none⟩,
⟨some 22, .mov (.t 5), (some (21, true))⟩,
⟨some 23, .faddr (.t 3) 1, (some (21, true))⟩,
⟨some 24, .load (.t 23), (some (21, true))⟩,
⟨some 25, .len false (.t 24), (some (21, true))⟩,
⟨some 26, .bin .lss (.t 22) (.t 25), (some (21, true))⟩,
⟨some 27, .pick (.t 21) (.t 26) (.k (.bool false)), none⟩]
[2, 3, 5, 27])
(.cond (.t 27)
.skip
(.exit 0)))
(.seq (.block 1
(.seq (.dreg [⟨some 30, .faddr (.t 2) 1, none⟩,
⟨some 31, .load (.t 30), none⟩,
⟨some 32, .mov (.t 5), none⟩,
⟨some 33, .iaddr 4 (.t 31) (.t 32), none⟩,
⟨some 34, .loadN (.t 33) 4, none⟩,
⟨some 35, .faddr (.t 3) 1, none⟩,
⟨some 36, .load (.t 35), none⟩,
⟨some 37, .mov (.t 5), none⟩,
⟨some 38, .iaddr 4 (.t 36) (.t 37), none⟩,
⟨some 39, .loadN (.t 38) 4, none⟩,
⟨some 40, .eqA true [0, 0, 1, 2] (.t 34) (.t 39), none⟩]
[2, 3, 5, 40])
(.cond (.t 40)
(.seq (.dreg [⟨some 41, .faddr (.t 2) 1, none⟩,
⟨some 42, .load (.t 41), none⟩,
⟨some 43, .mov (.t 5), none⟩,
⟨some 44, .iaddr 4 (.t 42) (.t 43), none⟩,
⟨some 45, .loadN (.t 44) 4, none⟩,
⟨some 46, .faddr (.t 3) 1, none⟩,
⟨some 47, .load (.t 46), none⟩,
⟨some 48, .mov (.t 5), none⟩,
⟨some 49, .iaddr 4 (.t 47) (.t 48), none⟩,
⟨some 50, .loadN (.t 49) 4, none⟩,
⟨some 51, .call n_proctorref03_Less [.t 45, .t 50], none⟩,
⟨some 4, .mov (.t 51), none⟩]
[4])
.ret)
.skip)))
(.reg [⟨some 28, .mov (.t 5), none⟩,
⟨some 29, .bin .add (.t 28) (.k (.int .i64 1)), none⟩,
⟨some 5, .mov (.t 29), none⟩]
[2, 3, 5]))))))
(.seq (.reg [⟨some 52, .faddr (.t 2) 1, none⟩,
⟨some 53, .load (.t 52), none⟩,
⟨some 54, .len false (.t 53), none⟩,
⟨some 55, .faddr (.t 3) 1, none⟩,
⟨some 56, .load (.t 55), none⟩,
⟨some 57, .len false (.t 56), none⟩,
⟨some 58, .bin .lss (.t 54) (.t 57), none⟩,
⟨some 4, .mov (.t 58), none⟩]
[4])
.ret))))⟩
theorem k_proctorref18_Less : chkF Tryz.prog Tryz.f112 c_proctorref18_Less = true := by kernel_rfl
theorem pc_proctorref18_Less {G : Nat → Option AV} {args : List AV} {r : AV} (h : Runs Tryz.prog G c_proctorref18_Less args r) (hk : args.length = c_proctorref18_Less.k := by rfl) : PureC Tryz.prog G n_proctorref18_Less args r := PureC.of_runs (fn := Tryz.f112) (A := c_proctorref18_Less) Tryz.func112 k_proctorref18_Less hk h
def c_proctorref18_One : AFun := ⟨15, 2, [.t 4],
  (.seq (.reg [⟨some 2, .box t_api_Config 2 (.t 0), none⟩,
⟨some 3, .box t_api_Config 2 (.t 1), none⟩,
⟨some 4, .mov (.k (.bool false)), none⟩]
[2, 3])
(.seq (.reg [⟨some 5, .loadN (.t 2) 2, none⟩,
⟨some 6, .loadN (.t 3) 2, none⟩,
⟨some 7, .call n_proctorref18_Less [.t 5, .t 6], none⟩,
⟨some 8, .un .not (.t 7), none⟩,
⟨some 9, .mov (.t 8), none⟩,
⟨some 10, .loadN (.t 3) 2, (some (9, true))⟩,
⟨some 11, .loadN (.t 2) 2, (some (9, true))⟩,
⟨some 12, .call n_proctorref18_Less [.t 10, .t 11], (some (9, true))⟩,
⟨some 13, .un .not (.t 12), (some (9, true))⟩,
⟨some 14, .pick (.t 9) (.t 13) (.k (.bool false)), none⟩,
⟨some 4, .mov (.t 14), none⟩]
[4])
.ret))⟩
theorem k_proctorref18_One : chkF Tryz.prog Tryz.f59 c_proctorref18_One = true := by kernel_rfl
theorem pc_proctorref18_One {G : Nat → Option AV} {args : List AV} {r : AV} (h : Runs Tryz.prog G c_proctorref18_One args r) (hk : args.length = c_proctorref18_One.k := by rfl) : PureC Tryz.prog G n_proctorref18_One args r := PureC.of_runs (fn := Tryz.f59) (A := c_proctorref18_One) Tryz.func59 k_proctorref18_One hk h
def c_proctorref18_Same : AFun := ⟨27, 2, [.t 4],
  (.seq (.reg [⟨some 4, .mov (.k (.bool false)), none⟩]
[0, 1])
(.seq (.seq (.reg [⟨some 6, .mov (.t 0), none⟩,
⟨some 7, .len false (.t 6), none⟩,
⟨some 8, .mov (.t 1), none⟩,
⟨some 9, .len false (.t 8), none⟩,
⟨some 10, .bin .neq (.t 7) (.t 9), none⟩]
[0, 1, 10])
(.cond (.t 10)
(.seq (.reg [⟨some 4, .mov (.k (.bool false)), none⟩]
[4])
.ret)
.skip))
(.seq (.seq (.reg [⟨some 5, .mov (.k (.int .i64 0)), none⟩]
[0, 1, 5])
(.block 0
(.loop [0, 1, 5] [7, 9]
  (.seq (.seq (.reg [⟨some 11, .mov (.t 5), none⟩,
⟨some 12, .mov (.t 0), none⟩,
⟨some 13, .len false (.t 12), none⟩,
⟨some 14, .bin .lss (.t 11) (.t 13), none⟩]
[0, 1, 5, 14])
(.cond (.t 14)
.skip
(.exit 0)))
(.seq (.block 1
(.seq (.dreg [⟨some 17, .mov (.t 0), none⟩,
⟨some 18, .mov (.t 5), none⟩,
⟨some 19, .iaddr 2 (.t 17) (.t 18), none⟩,
⟨some 20, .loadN (.t 19) 2, none⟩,
⟨some 21, .mov (.t 1), none⟩,
⟨some 22, .mov (.t 5), none⟩,
⟨some 23, .iaddr 2 (.t 21) (.t 22), none⟩,
⟨some 24, .loadN (.t 23) 2, none⟩,
⟨some 25, .call n_proctorref18_One [.t 20, .t 24], none⟩,
⟨some 26, .un .not (.t 25), none⟩]
[0, 1, 5, 26])
(.cond (.t 26)
(.seq (.reg [⟨some 4, .mov (.k (.bool false)), none⟩]
[4])
.ret)
.skip)))
(.reg [⟨some 15, .mov (.t 5), none⟩,
⟨some 16, .bin .add (.t 15) (.k (.int .i64 1)), none⟩,
⟨some 5, .mov (.t 16), none⟩]
[0, 1, 5]))))))
(.seq (.reg [⟨some 4, .mov (.k (.bool true)), none⟩]
[4])
.ret))))⟩
theorem k_proctorref18_Same : chkF Tryz.prog Tryz.f13 c_proctorref18_Same = true := by kernel_rfl
theorem pc_proctorref18_Same {G : Nat → Option AV} {args : List AV} {r : AV} (h : Runs Tryz.prog G c_proctorref18_Same args r) (hk : args.length = c_proctorref18_Same.k := by rfl) : PureC Tryz.prog G n_proctorref18_Same args r := PureC.of_runs (fn := Tryz.f13) (A := c_proctorref18_Same) Tryz.func13 k_proctorref18_Same hk h
def c_proctorref22_Next : AFun := ⟨74, 3, [.t 6],
  (.seq (.reg [⟨some 3, .box t_api_Qea 9 (.t 0), none⟩,
⟨some 6, .mov (.k (.int .u32 0)), none⟩]
[1, 2, 3])
(.seq (.reg [⟨some 7, .mov (.k (.int .u32 0)), none⟩]
[1, 2, 3, 7])
(.seq (.seq (.reg [⟨some 8, .mov (.k (.int .i64 0)), none⟩]
[1, 2, 3, 7, 8])
(.block 0
(.loop [1, 2, 3, 7, 8] [3]
  (.seq (.seq (.reg [⟨some 12, .mov (.t 8), none⟩,
⟨some 13, .faddr (.t 3) 4, none⟩,
⟨some 14, .load (.t 13), none⟩,
⟨some 15, .len false (.t 14), none⟩,
⟨some 16, .bin .lss (.t 12) (.t 15), none⟩]
[1, 2, 3, 7, 8, 16])
(.cond (.t 16)
.skip
(.exit 0)))
(.seq (.block 1
(.seq (.seq (.reg [⟨some 19, .mov (.t 1), none⟩,
⟨some 20, .mov (.t 8), none⟩,
⟨some 21, .conv .u64 (.t 20), none⟩,
⟨some 22, .bin .shr (.t 19) (.t 21), none⟩,
⟨some 23, .bin .rem (.t 22) (.k (.int .u32 2)), none⟩,
⟨some 24, .bin .eql (.t 23) (.k (.int .u32 0)), none⟩]
[1, 2, 3, 7, 8, 24])
(.cond (.t 24)
(.exit 1)
.skip))
(.seq (.reg [⟨some 9, .mov (.k (.int .u32 0)), none⟩]
[1, 2, 3, 7, 8, 9])
(.seq (.seq (.reg [⟨some 10, .mov (.k (.int .i64 0)), none⟩]
[1, 2, 3, 7, 8, 9, 10])
(.block 2
(.loop [1, 2, 3, 7, 8, 9, 10] [3, 15]
  (.seq (.seq (.reg [⟨some 25, .mov (.t 10), none⟩,
⟨some 26, .faddr (.t 3) 8, none⟩,
⟨some 27, .load (.t 26), none⟩,
⟨some 28, .len false (.t 27), none⟩,
⟨some 29, .bin .lss (.t 25) (.t 28), none⟩]
[1, 2, 3, 7, 8, 9, 10, 29])
(.cond (.t 29)
.skip
(.exit 2)))
(.seq (.block 3
(.seq (.reg [⟨some 32, .faddr (.t 3) 8, none⟩,
⟨some 33, .load (.t 32), none⟩,
⟨some 34, .mov (.t 10), none⟩,
⟨some 35, .iaddr 5 (.t 33) (.t 34), none⟩,
⟨some 36, .loadN (.t 35) 5, none⟩,
⟨some 11, .alloc t_api_Trans 5 (.agg [.int .i64 0, .int .i64 0, .int .i64 0, .int .i64 0, .nils]), none⟩,
⟨none, .store (.t 11) (.t 36) 5, none⟩]
[1, 2, 3, 7, 8, 9, 10, 11])
(.seq (.reg [⟨some 37, .faddr (.t 11) 0, none⟩,
⟨some 38, .load (.t 37), none⟩,
⟨some 39, .mov (.t 8), none⟩,
⟨some 40, .bin .eql (.t 38) (.t 39), none⟩,
⟨some 41, .mov (.t 40), none⟩,
⟨some 42, .mov (.t 2), (some (41, true))⟩,
⟨some 43, .faddr (.t 11) 1, (some (41, true))⟩,
⟨some 44, .load (.t 43), (some (41, true))⟩,
⟨some 45, .conv .u64 (.t 44), (some (41, true))⟩,
⟨some 46, .bin .shr (.t 42) (.t 45), (some (41, true))⟩,
⟨some 47, .bin .rem (.t 46) (.k (.int .u64 2)), (some (41, true))⟩,
⟨some 48, .bin .eql (.t 47) (.k (.int .u64 1)), (some (41, true))⟩,
⟨some 49, .pick (.t 41) (.t 48) (.k (.bool false)), none⟩]
[1, 2, 3, 7, 8, 9, 10, 11, 49])
(.cond (.t 49)
(.reg [⟨some 50, .mov (.t 9), none⟩,
⟨some 51, .faddr (.t 11) 2, none⟩,
⟨some 52, .load (.t 51), none⟩,
⟨some 53, .conv .u64 (.t 52), none⟩,
⟨some 54, .bin .shl (.k (.int .u32 1)) (.t 53), none⟩,
⟨some 55, .bin .or (.t 50) (.t 54), none⟩,
⟨some 9, .mov (.t 55), none⟩]
[1, 2, 3, 7, 8, 9, 10])
.skip))))
(.reg [⟨some 30, .mov (.t 10), none⟩,
⟨some 31, .bin .add (.t 30) (.k (.int .i64 1)), none⟩,
⟨some 10, .mov (.t 31), none⟩]
[1, 2, 3, 7, 8, 9, 10]))))))
(.seq (.seq (.reg [⟨some 56, .mov (.t 9), none⟩,
⟨some 57, .bin .eql (.t 56) (.k (.int .u32 0)), none⟩,
⟨some 58, .mov (.t 57), none⟩,
⟨some 59, .faddr (.t 3) 4, (some (58, true))⟩,
⟨some 60, .load (.t 59), (some (58, true))⟩,
⟨some 61, .mov (.t 8), (some (58, true))⟩,
⟨some 62, .iaddr 3 (.t 60) (.t 61), (some (58, true))⟩,
⟨some 63, .faddr (.t 62) 1, (some (58, true))⟩,
⟨some 64, .load (.t 63), (some (58, true))⟩,
⟨some 65, .un .not (.t 64), (some (58, true))⟩,
⟨some 66, .pick (.t 58) (.t 65) (.k (.bool false)), none⟩]
[1, 2, 3, 7, 8, 9, 66])
(.cond (.t 66)
(.reg [⟨some 67, .mov (.t 8), none⟩,
⟨some 68, .conv .u64 (.t 67), none⟩,
⟨some 69, .bin .shl (.k (.int .u32 1)) (.t 68), none⟩,
⟨some 9, .mov (.t 69), none⟩]
[1, 2, 3, 7, 8, 9])
.skip))
(.reg [⟨some 70, .mov (.t 7), none⟩,
⟨some 71, .mov (.t 9), none⟩,
⟨some 72, .bin .or (.t 70) (.t 71), none⟩,
⟨some 7, .mov (.t 72), none⟩]
[1, 2, 3, 7, 8]))))))
(.reg [⟨some 17, .mov (.t 8), none⟩,
⟨some 18, .bin .add (.t 17) (.k (.int .i64 1)), none⟩,
⟨some 8, .mov (.t 18), none⟩]
[1, 2, 3, 7, 8]))))))
(.seq (.reg [⟨some 73, .mov (.t 7), none⟩,
⟨some 6, .mov (.t 73), none⟩]
[6])
.ret))))⟩
theorem k_proctorref22_Next : chkF Tryz.prog Tryz.f36 c_proctorref22_Next = true := by kernel_rfl
theorem pc_proctorref22_Next {G : Nat → Option AV} {args : List AV} {r : AV} (h : Runs Tryz.prog G c_proctorref22_Next args r) (hk : args.length = c_proctorref22_Next.k := by rfl) : PureC Tryz.prog G n_proctorref22_Next args r := PureC.of_runs (fn := Tryz.f36) (A := c_proctorref22_Next) Tryz.func36 k_proctorref22_Next hk h
def c_proctorref23_Accepts : AFun := ⟨27, 2, [.t 4],
  (.seq (.reg [⟨some 2, .box t_api_Qea 9 (.t 0), none⟩,
⟨some 4, .mov (.k (.bool false)), none⟩]
[1, 2])
(.seq (.seq (.reg [⟨some 5, .mov (.k (.int .i64 0)), none⟩]
[1, 2, 5])
(.block 0
(.loop [1, 2, 5] [2]
  (.seq (.seq (.reg [⟨some 6, .mov (.t 5), none⟩,
⟨some 7, .faddr (.t 2) 4, none⟩,
⟨some 8, .load (.t 7), none⟩,
⟨some 9, .len false (.t 8), none⟩,
⟨some 10, .bin .lss (.t 6) (.t 9), none⟩]
[1, 2, 5, 10])
(.cond (.t 10)
.skip
(.exit 0)))
(.seq (.block 1
(.seq (.reg [⟨some 13, .mov (.t 1), none⟩,
⟨some 14, .mov (.t 5), none⟩,
⟨some 15, .conv .u64 (.t 14), none⟩,
⟨some 16, .bin .shr (.t 13) (.t 15), none⟩,
⟨some 17, .bin .rem (.t 16) (.k (.int .u32 2)), none⟩,
⟨some 18, .bin .eql (.t 17) (.k (.int .u32 1)), none⟩,
⟨some 19, .mov (.t 18), none⟩,
⟨some 20, .faddr (.t 2) 4, (some (19, true))⟩,
⟨some 21, .load (.t 20), (some (19, true))⟩,
⟨some 22, .mov (.t 5), (some (19, true))⟩,
⟨some 23, .iaddr 3 (.t 21) (.t 22), (some (19, true))⟩,
⟨some 24, .faddr (.t 23) 2, (some (19, true))⟩,
⟨some 25, .load (.t 24), (some (19, true))⟩,
⟨some 26, .pick (.t 19) (.t 25) (.k (.bool false)), none⟩]
[1, 2, 5, 26])
(.cond (.t 26)
(.seq (.reg [⟨some 4, .mov (.k (.bool true)), none⟩]
[4])
.ret)
.skip)))
(.reg [⟨some 11, .mov (.t 5), none⟩,
⟨some 12, .bin .add (.t 11) (.k (.int .i64 1)), none⟩,
⟨some 5, .mov (.t 12), none⟩]
[1, 2, 5]))))))
(.seq (.reg [⟨some 4, .mov (.k (.bool false)), none⟩]
[4])
.ret)))⟩
theorem k_proctorref23_Accepts : chkF Tryz.prog Tryz.f38 c_proctorref23_Accepts = true := by kernel_rfl
theorem pc_proctorref23_Accepts {G : Nat → Option AV} {args : List AV} {r : AV} (h : Runs Tryz.prog G c_proctorref23_Accepts args r) (hk : args.length = c_proctorref23_Accepts.k := by rfl) : PureC Tryz.prog G n_proctorref23_Accepts args r := PureC.of_runs (fn := Tryz.f38) (A := c_proctorref23_Accepts) Tryz.func38 k_proctorref23_Accepts hk h
def c_proctorref28_Has : AFun := ⟨18, 2, [.t 4],
  (.seq (.reg [⟨some 3, .box t_proctorref28_Pair 2 (.t 1), none⟩,
⟨some 4, .mov (.k (.bool false)), none⟩]
[0, 3])
(.seq (.seq (.reg [⟨some 5, .mov (.k (.int .i64 0)), none⟩]
[0, 3, 5])
(.block 0
(.loop [0, 3, 5] [3]
  (.seq (.seq (.reg [⟨some 6, .mov (.t 5), none⟩,
⟨some 7, .mov (.t 0), none⟩,
⟨some 8, .len false (.t 7), none⟩,
⟨some 9, .bin .lss (.t 6) (.t 8), none⟩]
[0, 3, 5, 9])
(.cond (.t 9)
.skip
(.exit 0)))
(.seq (.block 1
(.seq (.dreg [⟨some 12, .mov (.t 0), none⟩,
⟨some 13, .mov (.t 5), none⟩,
⟨some 14, .iaddr 2 (.t 12) (.t 13), none⟩,
⟨some 15, .loadN (.t 14) 2, none⟩,
⟨some 16, .loadN (.t 3) 2, none⟩,
⟨some 17, .eqA false [0, 0] (.t 15) (.t 16), none⟩]
[0, 3, 5, 17])
(.cond (.t 17)
(.seq (.reg [⟨some 4, .mov (.k (.bool true)), none⟩]
[4])
.ret)
.skip)))
(.reg [⟨some 10, .mov (.t 5), none⟩,
⟨some 11, .bin .add (.t 10) (.k (.int .i64 1)), none⟩,
⟨some 5, .mov (.t 11), none⟩]
[0, 3, 5]))))))
(.seq (.reg [⟨some 4, .mov (.k (.bool false)), none⟩]
[4])
.ret)))⟩
theorem k_proctorref28_Has : chkF Tryz.prog Tryz.f37 c_proctorref28_Has = true := by kernel_rfl
theorem pc_proctorref28_Has {G : Nat → Option AV} {args : List AV} {r : AV} (h : Runs Tryz.prog G c_proctorref28_Has args r) (hk : args.length = c_proctorref28_Has.k := by rfl) : PureC Tryz.prog G n_proctorref28_Has args r := PureC.of_runs (fn := Tryz.f37) (A := c_proctorref28_Has) Tryz.func37 k_proctorref28_Has hk h
def c_proctorref28_Own : AFun := ⟨42, 2, [.cells 4 2],
  (.seq (.reg [⟨some 2, .box t_api_Qea 9 (.t 0), none⟩,
⟨some 3, .box t_proctorref28_Pair 2 (.t 1), none⟩,
⟨some 4, .alloc t_proctorref28_Pair 2 (.agg [.int .u32 0, .int .u64 0]), none⟩]
[2, 3, 4])
(.seq (.reg [⟨some 5, .mov (.k (.int .u32 0)), none⟩]
[2, 3, 4, 5])
(.seq (.seq (.reg [⟨some 6, .mov (.k (.int .i64 0)), none⟩]
[2, 3, 4, 5, 6])
(.block 0
(.loop [2, 3, 4, 5, 6] [2, 3, 4]
  (.seq (.seq (.reg [⟨some 9, .mov (.t 6), none⟩,
⟨some 10, .faddr (.t 2) 4, none⟩,
⟨some 11, .load (.t 10), none⟩,
⟨some 12, .len false (.t 11), none⟩,
⟨some 13, .bin .lss (.t 9) (.t 12), none⟩]
[2, 3, 4, 5, 6, 13])
(.cond (.t 13)
.skip
(.exit 0)))
(.seq (.block 1
(.reg [⟨some 16, .mov (.t 5), none⟩,
⟨some 17, .faddr (.t 3) 0, none⟩,
⟨some 18, .load (.t 17), none⟩,
⟨some 19, .mov (.t 6), none⟩,
⟨some 20, .conv .u64 (.t 19), none⟩,
⟨some 21, .bin .shl (.k (.int .u32 1)) (.t 20), none⟩,
⟨some 22, .bin .and (.t 18) (.t 21), none⟩,
⟨some 23, .bin .or (.t 16) (.t 22), none⟩,
⟨some 5, .mov (.t 23), none⟩]
[2, 3, 4, 5, 6]))
(.reg [⟨some 14, .mov (.t 6), none⟩,
⟨some 15, .bin .add (.t 14) (.k (.int .i64 1)), none⟩,
⟨some 6, .mov (.t 15), none⟩]
[2, 3, 4, 5, 6]))))))
(.seq (.reg [⟨some 7, .mov (.k (.int .u64 0)), none⟩]
[2, 3, 4, 5, 7])
(.seq (.seq (.reg [⟨some 8, .mov (.k (.int .i64 0)), none⟩]
[2, 3, 4, 5, 7, 8])
(.block 2
(.loop [2, 3, 4, 5, 7, 8] [2, 3, 4, 12]
  (.seq (.seq (.reg [⟨some 24, .mov (.t 8), none⟩,
⟨some 25, .faddr (.t 2) 6, none⟩,
⟨some 26, .load (.t 25), none⟩,
⟨some 27, .len false (.t 26), none⟩,
⟨some 28, .bin .lss (.t 24) (.t 27), none⟩]
[2, 3, 4, 5, 7, 8, 28])
(.cond (.t 28)
.skip
(.exit 2)))
(.seq (.block 3
(.reg [⟨some 31, .mov (.t 7), none⟩,
⟨some 32, .faddr (.t 3) 1, none⟩,
⟨some 33, .load (.t 32), none⟩,
⟨some 34, .mov (.t 8), none⟩,
⟨some 35, .conv .u64 (.t 34), none⟩,
⟨some 36, .bin .shl (.k (.int .u64 1)) (.t 35), none⟩,
⟨some 37, .bin .and (.t 33) (.t 36), none⟩,
⟨some 38, .bin .or (.t 31) (.t 37), none⟩,
⟨some 7, .mov (.t 38), none⟩]
[2, 3, 4, 5, 7, 8]))
(.reg [⟨some 29, .mov (.t 8), none⟩,
⟨some 30, .bin .add (.t 29) (.k (.int .i64 1)), none⟩,
⟨some 8, .mov (.t 30), none⟩]
[2, 3, 4, 5, 7, 8]))))))
(.seq (.reg [⟨some 39, .mov (.t 5), none⟩,
⟨some 40, .mov (.t 7), none⟩,
⟨some 41, .build [.int .u32 0, .int .u64 0] [(0, 1, .t 39), (1, 1, .t 40)], none⟩,
⟨none, .store (.t 4) (.t 41) 2, none⟩]
[4])
.ret))))))⟩
theorem k_proctorref28_Own : chkF Tryz.prog Tryz.f35 c_proctorref28_Own = true := by kernel_rfl
theorem pc_proctorref28_Own {G : Nat → Option AV} {args : List AV} {r : AV} (h : Runs Tryz.prog G c_proctorref28_Own args r) (hk : args.length = c_proctorref28_Own.k := by rfl) : PureC Tryz.prog G n_proctorref28_Own args r := PureC.of_runs (fn := Tryz.f35) (A := c_proctorref28_Own) Tryz.func35 k_proctorref28_Own hk h
def c_proctorref28_Plain : AFun := ⟨22, 1, [.t 2],
  (.seq (.reg [⟨some 1, .box t_api_Qea 9 (.t 0), none⟩,
⟨some 2, .mov (.k (.bool false)), none⟩]
[1])
(.seq (.seq (.reg [⟨some 3, .mov (.k (.int .i64 0)), none⟩]
[1, 3])
(.block 0
(.loop [1, 3] [1]
  (.seq (.seq (.reg [⟨some 4, .mov (.t 3), none⟩,
⟨some 5, .faddr (.t 1) 8, none⟩,
⟨some 6, .load (.t 5), none⟩,
⟨some 7, .len false (.t 6), none⟩,
⟨some 8, .bin .lss (.t 4) (.t 7), none⟩]
[1, 3, 8])
(.cond (.t 8)
.skip
(.exit 0)))
(.seq (.block 1
(.seq (.reg [⟨some 11, .faddr (.t 1) 8, none⟩,
⟨some 12, .load (.t 11), none⟩,
⟨some 13, .mov (.t 3), none⟩,
⟨some 14, .iaddr 5 (.t 12) (.t 13), none⟩,
⟨some 15, .faddr (.t 14) 3, none⟩,
⟨some 16, .load (.t 15), none⟩,
⟨some 17, .bin .neq (.t 16) (.k (.int .i64 (-1))), none⟩]
[1, 3, 17])
(.cond (.t 17)
(.seq (.reg [⟨some 2, .mov (.k (.bool false)), none⟩]
[2])
.ret)
.skip)))
(.reg [⟨some 9, .mov (.t 3), none⟩,
⟨some 10, .bin .add (.t 9) (.k (.int .i64 1)), none⟩,
⟨some 3, .mov (.t 10), none⟩]
[1, 3]))))))
(.seq (.reg [⟨some 18, .faddr (.t 1) 3, none⟩,
⟨some 19, .load (.t 18), none⟩,
⟨some 20, .len false (.t 19), none⟩,
⟨some 21, .bin .eql (.t 20) (.k (.int .i64 0)), none⟩,
⟨some 2, .mov (.t 21), none⟩]
[2])
.ret)))⟩
theorem k_proctorref28_Plain : chkF Tryz.prog Tryz.f29 c_proctorref28_Plain = true := by kernel_rfl
theorem pc_proctorref28_Plain {G : Nat → Option AV} {args : List AV} {r : AV} (h : Runs Tryz.prog G c_proctorref28_Plain args r) (hk : args.length = c_proctorref28_Plain.k := by rfl) : PureC Tryz.prog G n_proctorref28_Plain args r := PureC.of_runs (fn := Tryz.f29) (A := c_proctorref28_Plain) Tryz.func29 k_proctorref28_Plain hk h
end Go.Proofs.YtjbcfpkibnhodaaGreatDoor.Ab
