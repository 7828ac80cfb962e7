/-
  The functions' abstract code, by program (acgen.py), and that the model's code is it, reckoned by the kernel. No claim is proved here.
-/
import Derived.Test.YtjbcfpkibnhodaaGreatDoorWAcR0
namespace Go.Proofs.YtjbcfpkibnhodaaGreatDoor.Ab
open Go
def c_proctorref07_Name : AFun := ⟨24, 1, [.t 2],
  (.seq (.reg [op 2 (.mov (.k (.bool false)))]
[0])
(.seq (.reg [op 5 (.call n_proctorref07_Words []),op 3 (.mov (.t 5))]
[0, 3])
(.seq (.seq (.reg [op 4 (.mov (.k (.int .i64 0)))]
[0, 3, 4])
(.block 0
(.loop [0, 3, 4] [5]
  (.seq (.seq (.reg [op 6 (.mov (.t 4)),op 7 (.mov (.t 3)),op 8 (.len false (.t 7)),op 9 (.bin .lss (.t 6) (.t 8))]
[0, 3, 4, 9])
(.cond (.t 9)
.skip
(.exit 0)))
(.seq (.block 1
(.seq (.reg [op 12 (.mov (.t 3)),op 13 (.mov (.t 4)),op 14 (.iaddr 1 (.t 12) (.t 13)),op 15 (.load (.t 14)),op 16 (.mov (.t 0)),op 17 (.bin .eql (.t 15) (.t 16))]
[0, 3, 4, 17])
(.cond (.t 17)
(.seq (.reg [op 2 (.mov (.k (.bool false)))]
[2])
.ret)
.skip)))
(.reg [op 10 (.mov (.t 4)),op 11 (.bin .add (.t 10) (.k (.int .i64 1))),op 4 (.mov (.t 11))]
[0, 3, 4]))))))
(.seq (.reg [op 18 (.mov (.t 0)),op 19 (.call n_proctorref07_Spelt [.t 18]),op 20 (.mov (.t 19)),
⟨some 21, .mov (.t 0), (some (20, true))⟩,
⟨some 22, .bin .neq (.t 21) (.k (.str [95])), (some (20, true))⟩,op 23 (.pick (.t 20) (.t 22) (.k (.bool false))),op 2 (.mov (.t 23))]
[2])
.ret))))⟩
theorem k_proctorref07_Name : chkF Tryz.prog Tryz.f134 c_proctorref07_Name = true := by kernel_rfl
abbrev pc_proctorref07_Name := @pcR npN_ _ _ Tryz.func134 k_proctorref07_Name
def c_proctorref07_Spelt : AFun := ⟨55, 1, [.t 2],
  (.seq (.reg [op 2 (.mov (.k (.bool false)))]
[0])
(.seq (.seq (.reg [op 6 (.mov (.t 0)),op 7 (.len true (.t 6)),op 8 (.bin .lss (.t 7) (.k (.int .i64 1))),op 9 (.mov (.t 8)),
⟨some 10, .mov (.t 0), (some (9, false))⟩,
⟨some 11, .len true (.t 10), (some (9, false))⟩,
⟨some 12, .bin .gtr (.t 11) (.k (.int .i64 32)), (some (9, false))⟩,op 13 (.pick (.t 9) (.k (.bool true)) (.t 12))]
[0, 13])
(.cond (.t 13)
(.seq (.reg [op 2 (.mov (.k (.bool false)))]
[2])
.ret)
.skip))
(.seq (.seq (.reg [op 3 (.mov (.k (.int .i64 0)))]
[0, 3])
(.block 0
(.loop [0, 3] [7, 11]
  (.seq (.seq (.reg [op 14 (.mov (.t 3)),op 15 (.mov (.t 0)),op 16 (.len true (.t 15)),op 17 (.bin .lss (.t 14) (.t 16))]
[0, 3, 17])
(.cond (.t 17)
.skip
(.exit 0)))
(.seq (.block 1
(.seq (.reg [op 20 (.mov (.t 0)),op 21 (.mov (.t 3)),op 22 (.idx (.t 20) (.t 21)),op 4 (.mov (.t 22))]
[0, 3, 4])
(.seq (.reg [op 23 (.mov (.t 4)),op 24 (.bin .geq (.t 23) (.k (.int .u8 65))),op 25 (.mov (.t 24)),
⟨some 26, .mov (.t 4), (some (25, true))⟩,
⟨some 27, .bin .leq (.t 26) (.k (.int .u8 90)), (some (25, true))⟩,op 28 (.pick (.t 25) (.t 27) (.k (.bool false))),op 29 (.mov (.t 28)),
⟨some 30, .mov (.t 4), (some (29, false))⟩,
⟨some 31, .bin .geq (.t 30) (.k (.int .u8 97)), (some (29, false))⟩,
⟨some 32, .mov (.t 31), (some (29, false))⟩,
⟨some 33, .mov (.t 4), (some (32, true))⟩,
⟨some 34, .bin .leq (.t 33) (.k (.int .u8 122)), (some (32, true))⟩,
⟨some 35, .pick (.t 32) (.t 34) (.k (.bool false)), (some (29, false))⟩,op 36 (.pick (.t 29) (.k (.bool true)) (.t 35)),op 37 (.mov (.t 36)),
⟨some 38, .mov (.t 4), (some (37, false))⟩,
⟨some 39, .bin .eql (.t 38) (.k (.int .u8 95)), (some (37, false))⟩,op 40 (.pick (.t 37) (.k (.bool true)) (.t 39)),op 5 (.mov (.t 40))]
[0, 3, 4, 5])
(.seq (.reg [op 41 (.mov (.t 5)),op 42 (.un .not (.t 41)),op 43 (.mov (.t 42)),
⟨some 44, .mov (.t 3), (some (43, true))⟩,
⟨some 45, .bin .eql (.t 44) (.k (.int .i64 0)), (some (43, true))⟩,
⟨some 46, .mov (.t 45), (some (43, true))⟩,
⟨some 47, .mov (.t 4), (some (46, false))⟩,
⟨some 48, .bin .lss (.t 47) (.k (.int .u8 48)), (some (46, false))⟩,
⟨some 49, .pick (.t 46) (.k (.bool true)) (.t 48), (some (43, true))⟩,
⟨some 50, .mov (.t 49), (some (43, true))⟩,
⟨some 51, .mov (.t 4), (some (50, false))⟩,
⟨some 52, .bin .gtr (.t 51) (.k (.int .u8 57)), (some (50, false))⟩,
⟨some 53, .pick (.t 50) (.k (.bool true)) (.t 52), (some (43, true))⟩,op 54 (.pick (.t 43) (.t 53) (.k (.bool false)))]
[0, 3, 54])
(.cond (.t 54)
(.seq (.reg [op 2 (.mov (.k (.bool false)))]
[2])
.ret)
.skip)))))
(.reg [op 18 (.mov (.t 3)),op 19 (.bin .add (.t 18) (.k (.int .i64 1))),op 3 (.mov (.t 19))]
[0, 3]))))))
(.seq (.reg [op 2 (.mov (.k (.bool true)))]
[2])
.ret))))⟩
theorem k_proctorref07_Spelt : chkF Tryz.prog Tryz.f217 c_proctorref07_Spelt = true := by kernel_rfl
abbrev pc_proctorref07_Spelt := @pcR n_proctorref07_Spelt _ _ Tryz.func217 k_proctorref07_Spelt
def c_proctorref07_Words : AFun := ⟨2, 0, [.t 0],
  (.seq (.reg [op 0 (.nilrow ts_ 1)]
[])
(.seq (.reg [op 1 (.mkrow ts_ 1 22 (.str []) [(0, .k (.str [97, 99, 99, 101, 112, 116])), (1, .k (.str [97, 108, 115, 111])), (2, .k (.str [97, 110, 100])), (3, .k (.str [98, 111, 111, 108])), (4, .k (.str [100, 111])), (5, .k (.str [101, 118, 101, 110, 116])), (6, .k (.str [101, 120, 105, 115, 116, 115])), (7, .k (.str [102, 97, 108, 115, 101])), (8, .k (.str [102, 111, 114, 97, 108, 108])), (9, .k (.str [102, 114, 101, 101])), (10, .k (.str [105, 102])), (11, .k (.str [105, 110, 116])), (12, .k (.str [110, 101, 120, 116])), (13, .k (.str [110, 111, 116])), (14, .k (.str [111, 110])), (15, .k (.str [111, 114])), (16, .k (.str [113, 101, 97])), (17, .k (.str [115, 107, 105, 112])), (18, .k (.str [115, 116, 97, 114, 116])), (19, .k (.str [115, 116, 114, 105, 110, 103])), (20, .k (.str [116, 111])), (21, .k (.str [116, 114, 117, 101]))]),op 0 (.mov (.t 1))]
[0])
.ret))⟩
theorem k_proctorref07_Words : chkF Tryz.prog Tryz.f216 c_proctorref07_Words = true := by kernel_rfl
abbrev pc_proctorref07_Words := @pcR n_proctorref07_Words _ _ Tryz.func216 k_proctorref07_Words
def c_proctorref08_Right : AFun := ⟨56, 2, [.t 4],
  (.seq (.reg [op 3 (.box t_api_Event 2 (.t 1)),op 4 (.mov (.k (.bool false)))]
[0, 3])
(.seq (.reg [op 7 (.mov (.t 0)),op 8 (.faddr (.t 3) 0),op 9 (.load (.t 8)),op 10 (.call n_proctorref07_Find [.t 7, .t 9]),op 5 (.mov (.t 10))]
[0, 3, 5])
(.seq (.seq (.dreg [op 11 (.mov (.t 5)),op 12 (.bin .lss (.t 11) (.k (.int .i64 0))),op 13 (.mov (.t 12)),
⟨some 14, .mov (.t 0), (some (13, false))⟩,
⟨some 15, .mov (.t 5), (some (13, false))⟩,
⟨some 16, .iaddr 2 (.t 14) (.t 15), (some (13, false))⟩,
⟨some 17, .faddr (.t 16) 1, (some (13, false))⟩,
⟨some 18, .load (.t 17), (some (13, false))⟩,
⟨some 19, .len false (.t 18), (some (13, false))⟩,
⟨some 20, .faddr (.t 3) 1, (some (13, false))⟩,
⟨some 21, .load (.t 20), (some (13, false))⟩,
⟨some 22, .len false (.t 21), (some (13, false))⟩,
⟨some 23, .bin .neq (.t 19) (.t 22), (some (13, false))⟩,op 24 (.pick (.t 13) (.k (.bool true)) (.t 23))]
[0, 3, 5, 24])
(.cond (.t 24)
(.seq (.reg [op 4 (.mov (.k (.bool false)))]
[4])
.ret)
.skip))
(.seq (.seq (.reg [op 6 (.mov (.k (.int .i64 0)))]
[0, 3, 5, 6])
(.block 0
(.loop [0, 3, 5, 6] [3, 10, 19, 22]
  (.seq (.seq (.reg [op 25 (.mov (.t 6)),op 26 (.faddr (.t 3) 1),op 27 (.load (.t 26)),op 28 (.len false (.t 27)),op 29 (.bin .lss (.t 25) (.t 28))]
[0, 3, 5, 6, 29])
(.cond (.t 29)
.skip
(.exit 0)))
(.seq (.block 1
(.seq (.dreg [op 32 (.faddr (.t 3) 1),op 33 (.load (.t 32)),op 34 (.mov (.t 6)),op 35 (.iaddr 4 (.t 33) (.t 34)),op 36 (.faddr (.t 35) 0),op 37 (.load (.t 36)),op 38 (.mov (.t 0)),op 39 (.mov (.t 5)),op 40 (.iaddr 2 (.t 38) (.t 39)),op 41 (.faddr (.t 40) 1),op 42 (.load (.t 41)),op 43 (.mov (.t 6)),op 44 (.iaddr 1 (.t 42) (.t 43)),op 45 (.load (.t 44)),op 46 (.bin .neq (.t 37) (.t 45)),op 47 (.mov (.t 46)),
⟨some 48, .faddr (.t 3) 1, (some (47, false))⟩,
⟨some 49, .load (.t 48), (some (47, false))⟩,
⟨some 50, .mov (.t 6), (some (47, false))⟩,
⟨some 51, .iaddr 4 (.t 49) (.t 50), (some (47, false))⟩,
⟨some 52, .loadN (.t 51) 4, (some (47, false))⟩,
⟨some 53, .call npR_ [.t 52], (some (47, false))⟩,
⟨some 54, .un .not (.t 53), (some (47, false))⟩,op 55 (.pick (.t 47) (.k (.bool true)) (.t 54))]
[0, 3, 5, 6, 55])
(.cond (.t 55)
(.seq (.reg [op 4 (.mov (.k (.bool false)))]
[4])
.ret)
.skip)))
(.reg [op 30 (.mov (.t 6)),op 31 (.bin .add (.t 30) (.k (.int .i64 1))),op 6 (.mov (.t 31))]
[0, 3, 5, 6]))))))
(.seq (.reg [op 4 (.mov (.k (.bool true)))]
[4])
.ret)))))⟩
theorem k_proctorref08_Right : chkF Tryz.prog Tryz.f41 c_proctorref08_Right = true := by kernel_rfl
abbrev pc_proctorref08_Right := @pcR n_proctorref08_Right _ _ Tryz.func41 k_proctorref08_Right
def c_proctorref13_Few : AFun := ⟨166, 1, [.t 2],
  (.seq (.reg [op 1 (.box taQ_ 9 (.t 0)),op 2 (.mov (.k (.int .i64 0)))]
[1])
(.seq (.seq (.reg [op 9 (.faddr (.t 1) 1),op 10 (.load (.t 9)),op 11 (.len false (.t 10)),op 12 (.bin .gtr (.t 11) (.k (.int .i64 12))),op 13 (.mov (.t 12)),
⟨some 14, .faddr (.t 1) 2, (some (13, false))⟩,
⟨some 15, .load (.t 14), (some (13, false))⟩,
⟨some 16, .len false (.t 15), (some (13, false))⟩,
⟨some 17, .bin .gtr (.t 16) (.k (.int .i64 9)), (some (13, false))⟩,op 18 (.pick (.t 13) (.k (.bool true)) (.t 17)),op 19 (.mov (.t 18)),
⟨some 20, .faddr (.t 1) 3, (some (19, false))⟩,
⟨some 21, .load (.t 20), (some (19, false))⟩,
⟨some 22, .len false (.t 21), (some (19, false))⟩,
⟨some 23, .bin .gtr (.t 22) (.k (.int .i64 12)), (some (19, false))⟩,op 24 (.pick (.t 19) (.k (.bool true)) (.t 23)),op 25 (.mov (.t 24)),
⟨some 26, .faddr (.t 1) 4, (some (25, false))⟩,
⟨some 27, .load (.t 26), (some (25, false))⟩,
⟨some 28, .len false (.t 27), (some (25, false))⟩,
⟨some 29, .bin .gtr (.t 28) (.k (.int .i64 12)), (some (25, false))⟩,op 30 (.pick (.t 25) (.k (.bool true)) (.t 29)),op 31 (.mov (.t 30)),
⟨some 32, .faddr (.t 1) 6, (some (31, false))⟩,
⟨some 33, .load (.t 32), (some (31, false))⟩,
⟨some 34, .len false (.t 33), (some (31, false))⟩,
⟨some 35, .bin .gtr (.t 34) (.k (.int .i64 12)), (some (31, false))⟩,op 36 (.pick (.t 31) (.k (.bool true)) (.t 35)),op 37 (.mov (.t 36)),
⟨some 38, .faddr (.t 1) 8, (some (37, false))⟩,
⟨some 39, .load (.t 38), (some (37, false))⟩,
⟨some 40, .len false (.t 39), (some (37, false))⟩,
⟨some 41, .bin .gtr (.t 40) (.k (.int .i64 12)), (some (37, false))⟩,op 42 (.pick (.t 37) (.k (.bool true)) (.t 41)),op 43 (.mov (.t 42)),
⟨some 44, .faddr (.t 1) 7, (some (43, false))⟩,
⟨some 45, .load (.t 44), (some (43, false))⟩,
⟨some 46, .len false (.t 45), (some (43, false))⟩,
⟨some 47, .bin .gtr (.t 46) (.k (.int .i64 40)), (some (43, false))⟩,op 48 (.pick (.t 43) (.k (.bool true)) (.t 47)),op 49 (.mov (.t 48)),
⟨some 50, .faddr (.t 1) 0, (some (49, false))⟩,
⟨some 51, .load (.t 50), (some (49, false))⟩,
⟨some 52, .len true (.t 51), (some (49, false))⟩,
⟨some 53, .bin .gtr (.t 52) (.k (.int .i64 100)), (some (49, false))⟩,op 54 (.pick (.t 49) (.k (.bool true)) (.t 53))]
[1, 54])
(.cond (.t 54)
(.seq (.reg [op 2 (.mov (.k (.int .i64 0)))]
[2])
.ret)
.skip))
(.seq (.seq (.reg [op 3 (.mov (.k (.int .i64 0)))]
[1, 3])
(.block 0
(.loop [1, 3] [1, 11, 16, 22, 28, 34, 40, 46, 52]
  (.seq (.seq (.reg [op 55 (.mov (.t 3)),op 56 (.faddr (.t 1) 1),op 57 (.load (.t 56)),op 58 (.len false (.t 57)),op 59 (.bin .lss (.t 55) (.t 58))]
[1, 3, 59])
(.cond (.t 59)
.skip
(.exit 0)))
(.seq (.block 1
(.seq (.reg [op 62 (.faddr (.t 1) 1),op 63 (.load (.t 62)),op 64 (.mov (.t 3)),op 65 (.iaddr 2 (.t 63) (.t 64)),op 66 (.faddr (.t 65) 1),op 67 (.load (.t 66)),op 68 (.len false (.t 67)),op 69 (.bin .gtr (.t 68) (.k (.int .i64 12))),op 70 (.mov (.t 69)),
⟨some 71, .faddr (.t 1) 1, (some (70, false))⟩,
⟨some 72, .load (.t 71), (some (70, false))⟩,
⟨some 73, .mov (.t 3), (some (70, false))⟩,
⟨some 74, .iaddr 2 (.t 72) (.t 73), (some (70, false))⟩,
⟨some 75, .faddr (.t 74) 0, (some (70, false))⟩,
⟨some 76, .load (.t 75), (some (70, false))⟩,
⟨some 77, .len true (.t 76), (some (70, false))⟩,
⟨some 78, .bin .gtr (.t 77) (.k (.int .i64 100)), (some (70, false))⟩,op 79 (.pick (.t 70) (.k (.bool true)) (.t 78))]
[1, 3, 79])
(.cond (.t 79)
(.seq (.reg [op 2 (.mov (.k (.int .i64 0)))]
[2])
.ret)
.skip)))
(.reg [op 60 (.mov (.t 3)),op 61 (.bin .add (.t 60) (.k (.int .i64 1))),op 3 (.mov (.t 61))]
[1, 3]))))))
(.seq (.seq (.reg [op 4 (.mov (.k (.int .i64 0)))]
[1, 4])
(.block 2
(.loop [1, 4] [1, 11, 16, 22, 28, 34, 40, 46, 52, 58, 68, 77]
  (.seq (.seq (.reg [op 80 (.mov (.t 4)),op 81 (.faddr (.t 1) 6),op 82 (.load (.t 81)),op 83 (.len false (.t 82)),op 84 (.bin .lss (.t 80) (.t 83))]
[1, 4, 84])
(.cond (.t 84)
.skip
(.exit 2)))
(.seq (.block 3
(.seq (.seq (.reg [op 87 (.faddr (.t 1) 6),op 88 (.load (.t 87)),op 89 (.mov (.t 4)),op 90 (.iaddr 2 (.t 88) (.t 89)),op 91 (.faddr (.t 90) 1),op 92 (.load (.t 91)),op 93 (.len false (.t 92)),op 94 (.bin .gtr (.t 93) (.k (.int .i64 12)))]
[1, 4, 94])
(.cond (.t 94)
(.seq (.reg [op 2 (.mov (.k (.int .i64 0)))]
[2])
.ret)
.skip))
(.seq (.reg [op 5 (.mov (.k (.int .i64 0)))]
[1, 4, 5])
(.block 4
(.loop [1, 4, 5] [1, 11, 16, 22, 28, 34, 40, 46, 52, 58, 68, 77, 83, 93]
  (.seq (.seq (.reg [op 95 (.mov (.t 5)),op 96 (.faddr (.t 1) 6),op 97 (.load (.t 96)),op 98 (.mov (.t 4)),op 99 (.iaddr 2 (.t 97) (.t 98)),op 100 (.faddr (.t 99) 1),op 101 (.load (.t 100)),op 102 (.len false (.t 101)),op 103 (.bin .lss (.t 95) (.t 102))]
[1, 4, 5, 103])
(.cond (.t 103)
.skip
(.exit 4)))
(.seq (.block 5
(.seq (.reg [op 106 (.faddr (.t 1) 6),op 107 (.load (.t 106)),op 108 (.mov (.t 4)),op 109 (.iaddr 2 (.t 107) (.t 108)),op 110 (.faddr (.t 109) 1),op 111 (.load (.t 110)),op 112 (.mov (.t 5)),op 113 (.iaddr 6 (.t 111) (.t 112)),op 114 (.faddr (.t 113) 2),op 115 (.faddr (.t 114) 2),op 116 (.load (.t 115)),op 117 (.len true (.t 116)),op 118 (.bin .gtr (.t 117) (.k (.int .i64 100)))]
[1, 4, 5, 118])
(.cond (.t 118)
(.seq (.reg [op 2 (.mov (.k (.int .i64 0)))]
[2])
.ret)
.skip)))
(.reg [op 104 (.mov (.t 5)),op 105 (.bin .add (.t 104) (.k (.int .i64 1))),op 5 (.mov (.t 105))]
[1, 4, 5]))))))))
(.reg [op 85 (.mov (.t 4)),op 86 (.bin .add (.t 85) (.k (.int .i64 1))),op 4 (.mov (.t 86))]
[1, 4]))))))
(.seq (.seq (.reg [op 6 (.mov (.k (.int .i64 0)))]
[1, 6])
(.block 6
(.loop [1, 6] [1, 11, 16, 22, 28, 34, 40, 46, 52, 58, 68, 77, 83, 93, 102, 117]
  (.seq (.seq (.reg [op 119 (.mov (.t 6)),op 120 (.faddr (.t 1) 3),op 121 (.load (.t 120)),op 122 (.len false (.t 121)),op 123 (.bin .lss (.t 119) (.t 122))]
[1, 6, 123])
(.cond (.t 123)
.skip
(.exit 6)))
(.seq (.block 7
(.seq (.reg [op 126 (.faddr (.t 1) 3),op 127 (.load (.t 126)),op 128 (.mov (.t 6)),op 129 (.iaddr 5 (.t 127) (.t 128)),op 130 (.faddr (.t 129) 1),op 131 (.faddr (.t 130) 2),op 132 (.load (.t 131)),op 133 (.len true (.t 132)),op 134 (.bin .gtr (.t 133) (.k (.int .i64 100)))]
[1, 6, 134])
(.cond (.t 134)
(.seq (.reg [op 2 (.mov (.k (.int .i64 0)))]
[2])
.ret)
.skip)))
(.reg [op 124 (.mov (.t 6)),op 125 (.bin .add (.t 124) (.k (.int .i64 1))),op 6 (.mov (.t 125))]
[1, 6]))))))
(.seq (.seq (.reg [op 7 (.mov (.k (.int .i64 0)))]
[1, 7])
(.block 8
(.loop [1, 7] [1, 11, 16, 22, 28, 34, 40, 46, 52, 58, 68, 77, 83, 93, 102, 117, 122, 133]
  (.seq (.seq (.reg [op 135 (.mov (.t 7)),op 136 (.faddr (.t 1) 7),op 137 (.load (.t 136)),op 138 (.len false (.t 137)),op 139 (.bin .lss (.t 135) (.t 138))]
[1, 7, 139])
(.cond (.t 139)
.skip
(.exit 8)))
(.seq (.block 9
(.seq (.reg [op 142 (.faddr (.t 1) 7),op 143 (.load (.t 142)),op 144 (.mov (.t 7)),op 145 (.iaddr 7 (.t 143) (.t 144)),op 146 (.faddr (.t 145) 3),op 147 (.faddr (.t 146) 2),op 148 (.load (.t 147)),op 149 (.len true (.t 148)),op 150 (.bin .gtr (.t 149) (.k (.int .i64 100)))]
[1, 7, 150])
(.cond (.t 150)
(.seq (.reg [op 2 (.mov (.k (.int .i64 0)))]
[2])
.ret)
.skip)))
(.reg [op 140 (.mov (.t 7)),op 141 (.bin .add (.t 140) (.k (.int .i64 1))),op 7 (.mov (.t 141))]
[1, 7]))))))
(.seq (.seq (.reg [op 8 (.mov (.k (.int .i64 0)))]
[1, 8])
(.block 10
(.loop [1, 8] [1, 11, 16, 22, 28, 34, 40, 46, 52, 58, 68, 77, 83, 93, 102, 117, 122, 133, 138, 149]
  (.seq (.seq (.reg [op 151 (.mov (.t 8)),op 152 (.faddr (.t 1) 8),op 153 (.load (.t 152)),op 154 (.len false (.t 153)),op 155 (.bin .lss (.t 151) (.t 154))]
[1, 8, 155])
(.cond (.t 155)
.skip
(.exit 10)))
(.seq (.block 11
(.seq (.reg [op 158 (.faddr (.t 1) 8),op 159 (.load (.t 158)),op 160 (.mov (.t 8)),op 161 (.iaddr 5 (.t 159) (.t 160)),op 162 (.faddr (.t 161) 4),op 163 (.load (.t 162)),op 164 (.len false (.t 163)),op 165 (.bin .gtr (.t 164) (.k (.int .i64 12)))]
[1, 8, 165])
(.cond (.t 165)
(.seq (.reg [op 2 (.mov (.k (.int .i64 0)))]
[2])
.ret)
.skip)))
(.reg [op 156 (.mov (.t 8)),op 157 (.bin .add (.t 156) (.k (.int .i64 1))),op 8 (.mov (.t 157))]
[1, 8]))))))
(.seq (.reg [op 2 (.mov (.k (.int .i64 1)))]
[2])
.ret))))))))⟩
theorem k_proctorref13_Few : chkF Tryz.prog Tryz.f25 c_proctorref13_Few = true := by kernel_rfl
abbrev pc_proctorref13_Few := @pcR n_proctorref13_Few _ _ Tryz.func25 k_proctorref13_Few
def c_proctorref13_Kind : AFun := ⟨27, 3, [.t 6, .t 7],
  (.seq (.reg [op 3 (.box taQ_ 9 (.t 0)),op 6 (.mov (.k (.int .i64 0))),op 7 (.mov (.k (.int .i64 0)))]
[1, 2, 3])
(.seq (.reg [op 12 (.loadN (.t 3) 9),op 13 (.mov (.t 2)),op 14 (.call npb_ [.t 12, .t 13]),op 11 (.mov (.t 14)),op 15 (.ext (.t 11) 0),op 16 (.ext (.t 11) 1),op 17 (.ext (.t 11) 2),op 8 (.mov (.t 15)),op 9 (.mov (.t 16)),op 10 (.mov (.t 17))]
[1, 8, 9, 10])
(.seq (.seq (.reg [op 18 (.mov (.t 8)),op 19 (.bin .eql (.t 18) (.k (.int .i64 0))),op 20 (.mov (.t 19)),
⟨some 21, .mov (.t 10), (some (20, false))⟩,
⟨some 22, .mov (.t 1), (some (20, false))⟩,
⟨some 23, .bin .neq (.t 21) (.t 22), (some (20, false))⟩,op 24 (.pick (.t 20) (.k (.bool true)) (.t 23))]
[8, 9, 24])
(.cond (.t 24)
(.seq (.reg [op 6 (.mov (.k (.int .i64 0))),op 7 (.mov (.k (.int .i64 0)))]
[6, 7])
.ret)
.skip))
(.seq (.reg [op 25 (.mov (.t 8)),op 26 (.mov (.t 9)),op 6 (.mov (.t 25)),op 7 (.mov (.t 26))]
[6, 7])
.ret))))⟩
theorem k_proctorref13_Kind : chkF Tryz.prog Tryz.f136 c_proctorref13_Kind = true := by kernel_rfl
abbrev pc_proctorref13_Kind := @pcR n_proctorref13_Kind _ _ Tryz.func136 k_proctorref13_Kind
def c_proctorref13_Names : AFun := ⟨30, 2, [.t 4],
  (.seq (.reg [op 2 (.box taS_ 2 (.t 0)),op 4 (.mov (.k (.bool false)))]
[1, 2])
(.seq (.seq (.reg [op 5 (.mov (.k (.int .i64 0)))]
[1, 2, 5])
(.block 0
(.loop [1, 2, 5] [2]
  (.seq (.seq (.reg [op 6 (.mov (.t 5)),op 7 (.faddr (.t 2) 1),op 8 (.load (.t 7)),op 9 (.len false (.t 8)),op 10 (.bin .lss (.t 6) (.t 9))]
[1, 2, 5, 10])
(.cond (.t 10)
.skip
(.exit 0)))
(.seq (.block 1
(.seq (.reg [op 13 (.faddr (.t 2) 1),op 14 (.load (.t 13)),op 15 (.mov (.t 5)),op 16 (.iaddr 6 (.t 14) (.t 15)),op 17 (.faddr (.t 16) 0),op 18 (.load (.t 17)),op 19 (.bin .eql (.t 18) (.k (.int .i64 2))),op 20 (.mov (.t 19)),
⟨some 21, .faddr (.t 2) 1, (some (20, true))⟩,
⟨some 22, .load (.t 21), (some (20, true))⟩,
⟨some 23, .mov (.t 5), (some (20, true))⟩,
⟨some 24, .iaddr 6 (.t 22) (.t 23), (some (20, true))⟩,
⟨some 25, .faddr (.t 24) 1, (some (20, true))⟩,
⟨some 26, .load (.t 25), (some (20, true))⟩,
⟨some 27, .mov (.t 1), (some (20, true))⟩,
⟨some 28, .bin .eql (.t 26) (.t 27), (some (20, true))⟩,op 29 (.pick (.t 20) (.t 28) (.k (.bool false)))]
[1, 2, 5, 29])
(.cond (.t 29)
(.seq (.reg [op 4 (.mov (.k (.bool true)))]
[4])
.ret)
.skip)))
(.reg [op 11 (.mov (.t 5)),op 12 (.bin .add (.t 11) (.k (.int .i64 1))),op 5 (.mov (.t 12))]
[1, 2, 5]))))))
(.seq (.reg [op 4 (.mov (.k (.bool false)))]
[4])
.ret)))⟩
theorem k_proctorref13_Names : chkF Tryz.prog Tryz.f140 c_proctorref13_Names = true := by kernel_rfl
abbrev pc_proctorref13_Names := @pcR n_proctorref13_Names _ _ Tryz.func140 k_proctorref13_Names
def c_proctorref13_Right : AFun := ⟨101, 1, [.t 2],
  (.seq (.reg [op 1 (.box taQ_ 9 (.t 0)),op 2 (.mov (.k (.bool false)))]
[1])
(.seq (.reg [op 10 (.faddr (.t 1) 1),op 11 (.load (.t 10)),op 12 (.call n_proctorref07_Check [.t 11]),op 9 (.mov (.t 12)),op 13 (.ext (.t 9) 0),op 14 (.ext (.t 9) 1),op 3 (.mov (.t 13)),op 4 (.mov (.t 14))]
[1, 3])
(.seq (.seq (.reg [op 15 (.mov (.t 3)),op 16 (.bin .neq (.t 15) (.k (.int .i64 0))),op 17 (.mov (.t 16)),
⟨some 18, .faddr (.t 1) 2, (some (17, false))⟩,
⟨some 19, .load (.t 18), (some (17, false))⟩,
⟨some 20, .len false (.t 19), (some (17, false))⟩,
⟨some 21, .bin .gtr (.t 20) (.k (.int .i64 8)), (some (17, false))⟩,op 22 (.pick (.t 17) (.k (.bool true)) (.t 21)),op 23 (.mov (.t 22)),
⟨some 24, .faddr (.t 1) 3, (some (23, false))⟩,
⟨some 25, .load (.t 24), (some (23, false))⟩,
⟨some 26, .len false (.t 25), (some (23, false))⟩,
⟨some 27, .bin .gtr (.t 26) (.k (.int .i64 16)), (some (23, false))⟩,op 28 (.pick (.t 23) (.k (.bool true)) (.t 27)),op 29 (.mov (.t 28)),
⟨some 30, .faddr (.t 1) 4, (some (29, false))⟩,
⟨some 31, .load (.t 30), (some (29, false))⟩,
⟨some 32, .len false (.t 31), (some (29, false))⟩,
⟨some 33, .bin .gtr (.t 32) (.k (.int .i64 32)), (some (29, false))⟩,op 34 (.pick (.t 29) (.k (.bool true)) (.t 33)),op 35 (.mov (.t 34)),
⟨some 36, .faddr (.t 1) 6, (some (35, false))⟩,
⟨some 37, .load (.t 36), (some (35, false))⟩,
⟨some 38, .len false (.t 37), (some (35, false))⟩,
⟨some 39, .bin .gtr (.t 38) (.k (.int .i64 64)), (some (35, false))⟩,op 40 (.pick (.t 35) (.k (.bool true)) (.t 39)),op 41 (.mov (.t 40)),
⟨some 42, .faddr (.t 1) 7, (some (41, false))⟩,
⟨some 43, .load (.t 42), (some (41, false))⟩,
⟨some 44, .len false (.t 43), (some (41, false))⟩,
⟨some 45, .bin .gtr (.t 44) (.k (.int .i64 2048)), (some (41, false))⟩,op 46 (.pick (.t 41) (.k (.bool true)) (.t 45)),op 47 (.mov (.t 46)),
⟨some 48, .faddr (.t 1) 8, (some (47, false))⟩,
⟨some 49, .load (.t 48), (some (47, false))⟩,
⟨some 50, .len false (.t 49), (some (47, false))⟩,
⟨some 51, .bin .gtr (.t 50) (.k (.int .i64 256)), (some (47, false))⟩,op 52 (.pick (.t 47) (.k (.bool true)) (.t 51)),op 53 (.mov (.t 52)),
⟨some 54, .faddr (.t 1) 5, (some (53, false))⟩,
⟨some 55, .load (.t 54), (some (53, false))⟩,
⟨some 56, .bin .lss (.t 55) (.k (.int .i64 0)), (some (53, false))⟩,op 57 (.pick (.t 53) (.k (.bool true)) (.t 56)),op 58 (.mov (.t 57)),
⟨some 59, .faddr (.t 1) 5, (some (58, false))⟩,
⟨some 60, .load (.t 59), (some (58, false))⟩,
⟨some 61, .faddr (.t 1) 4, (some (58, false))⟩,
⟨some 62, .load (.t 61), (some (58, false))⟩,
⟨some 63, .len false (.t 62), (some (58, false))⟩,
⟨some 64, .bin .geq (.t 60) (.t 63), (some (58, false))⟩,op 65 (.pick (.t 58) (.k (.bool true)) (.t 64)),op 66 (.mov (.t 65)),
⟨some 67, .loadN (.t 1) 9, (some (66, false))⟩,
⟨some 68, .call n_proctorref13_names [.t 67], (some (66, false))⟩,
⟨some 69, .un .not (.t 68), (some (66, false))⟩,op 70 (.pick (.t 66) (.k (.bool true)) (.t 69))]
[1, 70])
(.cond (.t 70)
(.seq (.reg [op 2 (.mov (.k (.bool false)))]
[2])
.ret)
.skip))
(.seq (.reg [op 5 (.mov (.k (.int .i64 0)))]
[1, 5])
(.seq (.seq (.reg [op 6 (.mov (.k (.int .i64 0)))]
[1, 5, 6])
(.block 0
(.loop [1, 5, 6] [1, 12, 20, 26, 32, 38, 44, 50, 63, 68]
  (.seq (.seq (.reg [op 71 (.mov (.t 6)),op 72 (.faddr (.t 1) 8),op 73 (.load (.t 72)),op 74 (.len false (.t 73)),op 75 (.bin .lss (.t 71) (.t 74))]
[1, 5, 6, 75])
(.cond (.t 75)
.skip
(.exit 0)))
(.seq (.block 1
(.seq (.dreg [op 79 (.loadN (.t 1) 9),op 80 (.faddr (.t 1) 8),op 81 (.load (.t 80)),op 82 (.mov (.t 6)),op 83 (.iaddr 5 (.t 81) (.t 82)),op 84 (.loadN (.t 83) 5),op 85 (.mov (.t 5)),op 86 (.call n_proctorref13_trans [.t 79, .t 84, .t 85]),op 78 (.mov (.t 86)),op 87 (.ext (.t 78) 0),op 88 (.ext (.t 78) 1),op 7 (.mov (.t 87)),op 8 (.mov (.t 88))]
[1, 6, 7, 8])
(.seq (.seq (.reg [op 89 (.mov (.t 8)),op 90 (.un .not (.t 89))]
[1, 6, 7, 90])
(.cond (.t 90)
(.seq (.reg [op 2 (.mov (.k (.bool false)))]
[2])
.ret)
.skip))
(.reg [op 91 (.mov (.t 7)),op 5 (.mov (.t 91))]
[1, 5, 6]))))
(.reg [op 76 (.mov (.t 6)),op 77 (.bin .add (.t 76) (.k (.int .i64 1))),op 6 (.mov (.t 77))]
[1, 5, 6]))))))
(.seq (.reg [op 92 (.mov (.t 5)),op 93 (.faddr (.t 1) 7),op 94 (.load (.t 93)),op 95 (.len false (.t 94)),op 96 (.bin .eql (.t 92) (.t 95)),op 97 (.mov (.t 96)),
⟨some 98, .loadN (.t 1) 9, (some (97, true))⟩,
⟨some 99, .call n_proctorref13_symbols [.t 98], (some (97, true))⟩,op 100 (.pick (.t 97) (.t 99) (.k (.bool false))),op 2 (.mov (.t 100))]
[2])
.ret))))))⟩
theorem k_proctorref13_Right : chkF Tryz.prog Tryz.f28 c_proctorref13_Right = true := by kernel_rfl
abbrev pc_proctorref13_Right := @pcR n_proctorref13_Right _ _ Tryz.func28 k_proctorref13_Right
def c_proctorref13_SameSymbol : AFun := ⟨38, 2, [.t 4],
  (.seq (.reg [op 2 (.box taS_ 2 (.t 0)),op 3 (.box taS_ 2 (.t 1)),op 4 (.mov (.k (.bool false)))]
[2, 3])
(.seq (.seq (.reg [op 6 (.faddr (.t 2) 0),op 7 (.load (.t 6)),op 8 (.faddr (.t 3) 0),op 9 (.load (.t 8)),op 10 (.bin .neq (.t 7) (.t 9)),op 11 (.mov (.t 10)),
⟨some 12, .faddr (.t 2) 1, (some (11, false))⟩,
⟨some 13, .load (.t 12), (some (11, false))⟩,
⟨some 14, .len false (.t 13), (some (11, false))⟩,
⟨some 15, .faddr (.t 3) 1, (some (11, false))⟩,
⟨some 16, .load (.t 15), (some (11, false))⟩,
⟨some 17, .len false (.t 16), (some (11, false))⟩,
⟨some 18, .bin .neq (.t 14) (.t 17), (some (11, false))⟩,op 19 (.pick (.t 11) (.k (.bool true)) (.t 18))]
[2, 3, 19])
(.cond (.t 19)
(.seq (.reg [op 4 (.mov (.k (.bool false)))]
[4])
.ret)
.skip))
(.seq (.seq (.reg [op 5 (.mov (.k (.int .i64 0)))]
[2, 3, 5])
(.block 0
(.loop [2, 3, 5] [2, 3, 14, 17]
  (.seq (.seq (.reg [op 20 (.mov (.t 5)),op 21 (.faddr (.t 2) 1),op 22 (.load (.t 21)),op 23 (.len false (.t 22)),op 24 (.bin .lss (.t 20) (.t 23))]
[2, 3, 5, 24])
(.cond (.t 24)
.skip
(.exit 0)))
(.seq (.block 1
(.seq (.dreg [op 27 (.faddr (.t 2) 1),op 28 (.load (.t 27)),op 29 (.mov (.t 5)),op 30 (.iaddr 6 (.t 28) (.t 29)),op 31 (.loadN (.t 30) 6),op 32 (.faddr (.t 3) 1),op 33 (.load (.t 32)),op 34 (.mov (.t 5)),op 35 (.iaddr 6 (.t 33) (.t 34)),op 36 (.loadN (.t 35) 6),op 37 (.eqA true [0, 0, 0, 0, 1, 2] (.t 31) (.t 36))]
[2, 3, 5, 37])
(.cond (.t 37)
(.seq (.reg [op 4 (.mov (.k (.bool false)))]
[4])
.ret)
.skip)))
(.reg [op 25 (.mov (.t 5)),op 26 (.bin .add (.t 25) (.k (.int .i64 1))),op 5 (.mov (.t 26))]
[2, 3, 5]))))))
(.seq (.reg [op 4 (.mov (.k (.bool true)))]
[4])
.ret))))⟩
theorem k_proctorref13_SameSymbol : chkF Tryz.prog Tryz.f139 c_proctorref13_SameSymbol = true := by kernel_rfl
abbrev pc_proctorref13_SameSymbol := @pcR n_proctorref13_SameSymbol _ _ Tryz.func139 k_proctorref13_SameSymbol
def c_proctorref13_Type : AFun := ⟨31, 3, [.t 6],
  (.seq (.reg [op 6 (.mov (.k (.int .i64 0)))]
[0, 1, 2])
(.seq (.seq (.reg [op 9 (.mov (.t 1)),op 10 (.bin .lss (.t 9) (.k (.int .i64 1))),op 11 (.mov (.t 10)),
⟨some 12, .mov (.t 1), (some (11, false))⟩,
⟨some 13, .mov (.t 2), (some (11, false))⟩,
⟨some 14, .bin .neq (.t 12) (.t 13), (some (11, false))⟩,op 15 (.pick (.t 11) (.k (.bool true)) (.t 14))]
[0, 1, 2, 15])
(.cond (.t 15)
(.seq (.reg [op 6 (.mov (.k (.int .i64 0)))]
[6])
.ret)
.skip))
(.seq (.reg [op 17 (.mov (.t 0)),op 18 (.mov (.t 1)),op 19 (.build [.int .i64 0, .int .i64 0, .str [], .bool false] [(0, 1, .t 18)]),op 20 (.mov (.t 2)),op 21 (.build [.int .i64 0, .int .i64 0, .str [], .bool false] [(0, 1, .t 20)]),op 22 (.call npO_ [.t 17, .t 19, .t 21]),op 16 (.mov (.t 22)),op 23 (.ext (.t 16) 0),op 24 (.ext (.t 16) 1),op 7 (.alloc taV_ 4 (.agg [.int .i64 0, .int .i64 0, .str [], .bool false])),
⟨none, .store (.t 7) (.t 23) 4, none⟩,op 8 (.mov (.t 24))]
[7, 8])
(.seq (.seq (.reg [op 25 (.mov (.t 8)),op 26 (.bin .eql (.t 25) (.k (.int .i64 7)))]
[7, 8, 26])
(.cond (.t 26)
(.seq (.reg [op 6 (.mov (.k (.int .i64 1)))]
[6])
.ret)
.skip))
(.seq (.seq (.reg [op 27 (.mov (.t 8)),op 28 (.bin .neq (.t 27) (.k (.int .i64 0)))]
[7, 28])
(.cond (.t 28)
(.seq (.reg [op 6 (.mov (.k (.int .i64 0)))]
[6])
.ret)
.skip))
(.seq (.reg [op 29 (.faddr (.t 7) 0),op 30 (.load (.t 29)),op 6 (.mov (.t 30))]
[6])
.ret))))))⟩
theorem k_proctorref13_Type : chkF Tryz.prog Tryz.f256 c_proctorref13_Type = true := by kernel_rfl
abbrev pc_proctorref13_Type := @pcR n_proctorref13_Type _ _ Tryz.func256 k_proctorref13_Type
def c_proctorref13_arg : AFun := ⟨90, 3, [.t 6],
  (.seq (.reg [op 3 (.box taQ_ 9 (.t 0)),op 4 (.box t_api_Arg 6 (.t 1)),op 6 (.mov (.k (.bool false)))]
[2, 3, 4])
(.seq (.reg [op 8 (.build [.int .i64 0, .int .i64 0, .str [], .bool false] []),op 7 (.alloc taV_ 4 (.agg [.int .i64 0, .int .i64 0, .str [], .bool false])),
⟨none, .store (.t 7) (.t 8) 4, none⟩]
[2, 3, 4, 7])
(.seq (.seq (.reg [op 9 (.faddr (.t 4) 0),op 10 (.load (.t 9)),op 11 (.bin .eql (.t 10) (.k (.int .i64 1)))]
[2, 3, 4, 7, 11])
(.cond (.t 11)
(.seq (.reg [op 12 (.faddr (.t 4) 1),op 13 (.load (.t 12)),op 14 (.bin .eql (.t 13) (.k (.int .i64 0))),op 15 (.mov (.t 14)),
⟨some 16, .faddr (.t 4) 2, (some (15, true))⟩,
⟨some 17, .loadN (.t 16) 4, (some (15, true))⟩,
⟨some 18, .call npR_ [.t 17], (some (15, true))⟩,op 19 (.pick (.t 15) (.t 18) (.k (.bool false))),op 20 (.mov (.t 19)),
⟨some 21, .faddr (.t 4) 2, (some (20, true))⟩,
⟨some 22, .faddr (.t 21) 0, (some (20, true))⟩,
⟨some 23, .load (.t 22), (some (20, true))⟩,
⟨some 24, .mov (.t 2), (some (20, true))⟩,
⟨some 25, .bin .eql (.t 23) (.t 24), (some (20, true))⟩,op 26 (.pick (.t 20) (.t 25) (.k (.bool false))),op 6 (.mov (.t 26))]
[6])
.ret)
.skip))
(.seq (.seq (.reg [op 27 (.faddr (.t 4) 2),op 28 (.loadN (.t 27) 4),op 29 (.loadN (.t 7) 4),op 30 (.eqA true [0, 0, 1, 2] (.t 28) (.t 29))]
[2, 3, 4, 30])
(.cond (.t 30)
(.seq (.reg [op 6 (.mov (.k (.bool false)))]
[6])
.ret)
.skip))
(.seq (.seq (.reg [op 31 (.faddr (.t 4) 0),op 32 (.load (.t 31)),op 33 (.bin .eql (.t 32) (.k (.int .i64 2)))]
[2, 3, 4, 33])
(.cond (.t 33)
(.seq (.reg [op 34 (.faddr (.t 4) 1),op 35 (.load (.t 34)),op 36 (.bin .geq (.t 35) (.k (.int .i64 0))),op 37 (.mov (.t 36)),
⟨some 38, .faddr (.t 4) 1, (some (37, true))⟩,
⟨some 39, .load (.t 38), (some (37, true))⟩,
⟨some 40, .faddr (.t 3) 2, (some (37, true))⟩,
⟨some 41, .load (.t 40), (some (37, true))⟩,
⟨some 42, .len false (.t 41), (some (37, true))⟩,
⟨some 43, .bin .lss (.t 39) (.t 42), (some (37, true))⟩,op 44 (.pick (.t 37) (.t 43) (.k (.bool false))),op 45 (.mov (.t 44)),
⟨some 46, .faddr (.t 3) 2, (some (45, true))⟩,
⟨some 47, .load (.t 46), (some (45, true))⟩,
⟨some 48, .faddr (.t 4) 1, (some (45, true))⟩,
⟨some 49, .load (.t 48), (some (45, true))⟩,
⟨some 50, .iaddr 3 (.t 47) (.t 49), (some (45, true))⟩,
⟨some 51, .faddr (.t 50) 2, (some (45, true))⟩,
⟨some 52, .load (.t 51), (some (45, true))⟩,
⟨some 53, .mov (.t 2), (some (45, true))⟩,
⟨some 54, .bin .eql (.t 52) (.t 53), (some (45, true))⟩,op 55 (.pick (.t 45) (.t 54) (.k (.bool false))),op 6 (.mov (.t 55))]
[6])
.ret)
.skip))
(.seq (.seq (.reg [op 56 (.faddr (.t 4) 0),op 57 (.load (.t 56)),op 58 (.bin .eql (.t 57) (.k (.int .i64 3)))]
[2, 3, 4, 58])
(.cond (.t 58)
(.seq (.reg [op 59 (.faddr (.t 4) 1),op 60 (.load (.t 59)),op 61 (.bin .geq (.t 60) (.k (.int .i64 0))),op 62 (.mov (.t 61)),
⟨some 63, .faddr (.t 4) 1, (some (62, true))⟩,
⟨some 64, .load (.t 63), (some (62, true))⟩,
⟨some 65, .faddr (.t 3) 3, (some (62, true))⟩,
⟨some 66, .load (.t 65), (some (62, true))⟩,
⟨some 67, .len false (.t 66), (some (62, true))⟩,
⟨some 68, .bin .lss (.t 64) (.t 67), (some (62, true))⟩,op 69 (.pick (.t 62) (.t 68) (.k (.bool false))),op 70 (.mov (.t 69)),
⟨some 71, .faddr (.t 3) 3, (some (70, true))⟩,
⟨some 72, .load (.t 71), (some (70, true))⟩,
⟨some 73, .faddr (.t 4) 1, (some (70, true))⟩,
⟨some 74, .load (.t 73), (some (70, true))⟩,
⟨some 75, .iaddr 5 (.t 72) (.t 74), (some (70, true))⟩,
⟨some 76, .faddr (.t 75) 1, (some (70, true))⟩,
⟨some 77, .faddr (.t 76) 0, (some (70, true))⟩,
⟨some 78, .load (.t 77), (some (70, true))⟩,
⟨some 79, .mov (.t 2), (some (70, true))⟩,
⟨some 80, .bin .eql (.t 78) (.t 79), (some (70, true))⟩,op 81 (.pick (.t 70) (.t 80) (.k (.bool false))),op 6 (.mov (.t 81))]
[6])
.ret)
.skip))
(.seq (.reg [op 82 (.faddr (.t 4) 0),op 83 (.load (.t 82)),op 84 (.bin .eql (.t 83) (.k (.int .i64 4))),op 85 (.mov (.t 84)),
⟨some 86, .faddr (.t 4) 1, (some (85, true))⟩,
⟨some 87, .load (.t 86), (some (85, true))⟩,
⟨some 88, .bin .eql (.t 87) (.k (.int .i64 0)), (some (85, true))⟩,op 89 (.pick (.t 85) (.t 88) (.k (.bool false))),op 6 (.mov (.t 89))]
[6])
.ret)))))))⟩
theorem k_proctorref13_arg : chkF Tryz.prog Tryz.f219 c_proctorref13_arg = true := by kernel_rfl
abbrev pc_proctorref13_arg := @pcR n_proctorref13_arg _ _ Tryz.func219 k_proctorref13_arg
def c_proctorref13_below : AFun := ⟨185, 2, [.t 4, .t 5, .t 6],
  (.seq (.reg [op 2 (.box taQ_ 9 (.t 0)),op 4 (.mov (.k (.int .i64 0))),op 5 (.mov (.k (.int .i64 0))),op 6 (.mov (.k (.int .i64 0)))]
[1, 2])
(.seq (.seq (.reg [op 15 (.mov (.t 1)),op 16 (.bin .lss (.t 15) (.k (.int .i64 0))),op 17 (.mov (.t 16)),
⟨some 18, .mov (.t 1), (some (17, false))⟩,
⟨some 19, .faddr (.t 2) 7, (some (17, false))⟩,
⟨some 20, .load (.t 19), (some (17, false))⟩,
⟨some 21, .len false (.t 20), (some (17, false))⟩,
⟨some 22, .bin .geq (.t 18) (.t 21), (some (17, false))⟩,op 23 (.pick (.t 17) (.k (.bool true)) (.t 22))]
[1, 2, 23])
(.cond (.t 23)
(.seq (.reg [op 4 (.mov (.k (.int .i64 0))),op 5 (.mov (.k (.int .i64 0))),op 6 (.mov (.k (.int .i64 0)))]
[4, 5, 6])
.ret)
.skip))
(.seq (.reg [op 24 (.faddr (.t 2) 7),op 25 (.load (.t 24)),op 26 (.mov (.t 1)),op 27 (.iaddr 7 (.t 25) (.t 26)),op 28 (.loadN (.t 27) 7),op 7 (.alloc t_api_Node 7 (.agg [.int .i64 0, .int .i64 0, .int .i64 0, .int .i64 0, .int .i64 0, .str [], .bool false])),
⟨none, .store (.t 7) (.t 28) 7, none⟩]
[1, 2, 7])
(.seq (.reg [op 29 (.build [.int .i64 0, .int .i64 0, .str [], .bool false] []),op 8 (.alloc taV_ 4 (.agg [.int .i64 0, .int .i64 0, .str [], .bool false])),
⟨none, .store (.t 8) (.t 29) 4, none⟩]
[1, 2, 7, 8])
(.seq (.seq (.reg [op 30 (.faddr (.t 7) 0),op 31 (.load (.t 30)),op 32 (.bin .eql (.t 31) (.k (.int .i64 1)))]
[1, 2, 7, 8, 32])
(.cond (.t 32)
(.seq (.seq (.reg [op 33 (.faddr (.t 7) 1),op 34 (.load (.t 33)),op 35 (.bin .neq (.t 34) (.k (.int .i64 0))),op 36 (.mov (.t 35)),
⟨some 37, .faddr (.t 7) 2, (some (36, false))⟩,
⟨some 38, .load (.t 37), (some (36, false))⟩,
⟨some 39, .bin .neq (.t 38) (.k (.int .i64 0)), (some (36, false))⟩,op 40 (.pick (.t 36) (.k (.bool true)) (.t 39)),op 41 (.mov (.t 40)),
⟨some 42, .faddr (.t 7) 3, (some (41, false))⟩,
⟨some 43, .loadN (.t 42) 4, (some (41, false))⟩,
⟨some 44, .call npR_ [.t 43], (some (41, false))⟩,
⟨some 45, .un .not (.t 44), (some (41, false))⟩,op 46 (.pick (.t 41) (.k (.bool true)) (.t 45))]
[1, 7, 46])
(.cond (.t 46)
(.seq (.reg [op 4 (.mov (.k (.int .i64 0))),op 5 (.mov (.k (.int .i64 0))),op 6 (.mov (.k (.int .i64 0)))]
[4, 5, 6])
.ret)
.skip))
(.seq (.reg [op 47 (.faddr (.t 7) 3),op 48 (.faddr (.t 47) 0),op 49 (.load (.t 48)),op 50 (.mov (.t 1)),op 4 (.mov (.t 49)),op 5 (.mov (.k (.int .i64 1))),op 6 (.mov (.t 50))]
[4, 5, 6])
.ret))
.skip))
(.seq (.seq (.reg [op 51 (.faddr (.t 7) 3),op 52 (.loadN (.t 51) 4),op 53 (.loadN (.t 8) 4),op 54 (.eqA true [0, 0, 1, 2] (.t 52) (.t 53))]
[1, 2, 7, 54])
(.cond (.t 54)
(.seq (.reg [op 4 (.mov (.k (.int .i64 0))),op 5 (.mov (.k (.int .i64 0))),op 6 (.mov (.k (.int .i64 0)))]
[4, 5, 6])
.ret)
.skip))
(.seq (.seq (.reg [op 55 (.faddr (.t 7) 0),op 56 (.load (.t 55)),op 57 (.bin .eql (.t 56) (.k (.int .i64 2)))]
[1, 2, 7, 57])
(.cond (.t 57)
(.seq (.seq (.reg [op 58 (.faddr (.t 7) 1),op 59 (.load (.t 58)),op 60 (.bin .lss (.t 59) (.k (.int .i64 0))),op 61 (.mov (.t 60)),
⟨some 62, .faddr (.t 7) 1, (some (61, false))⟩,
⟨some 63, .load (.t 62), (some (61, false))⟩,
⟨some 64, .faddr (.t 2) 2, (some (61, false))⟩,
⟨some 65, .load (.t 64), (some (61, false))⟩,
⟨some 66, .len false (.t 65), (some (61, false))⟩,
⟨some 67, .bin .geq (.t 63) (.t 66), (some (61, false))⟩,op 68 (.pick (.t 61) (.k (.bool true)) (.t 67)),op 69 (.mov (.t 68)),
⟨some 70, .faddr (.t 7) 2, (some (69, false))⟩,
⟨some 71, .load (.t 70), (some (69, false))⟩,
⟨some 72, .bin .neq (.t 71) (.k (.int .i64 0)), (some (69, false))⟩,op 73 (.pick (.t 69) (.k (.bool true)) (.t 72))]
[1, 2, 7, 73])
(.cond (.t 73)
(.seq (.reg [op 4 (.mov (.k (.int .i64 0))),op 5 (.mov (.k (.int .i64 0))),op 6 (.mov (.k (.int .i64 0)))]
[4, 5, 6])
.ret)
.skip))
(.seq (.reg [op 74 (.faddr (.t 2) 2),op 75 (.load (.t 74)),op 76 (.faddr (.t 7) 1),op 77 (.load (.t 76)),op 78 (.iaddr 3 (.t 75) (.t 77)),op 79 (.faddr (.t 78) 2),op 80 (.load (.t 79)),op 81 (.mov (.t 1)),op 4 (.mov (.t 80)),op 5 (.mov (.k (.int .i64 1))),op 6 (.mov (.t 81))]
[4, 5, 6])
.ret))
.skip))
(.seq (.seq (.reg [op 82 (.faddr (.t 7) 0),op 83 (.load (.t 82)),op 84 (.bin .eql (.t 83) (.k (.int .i64 3)))]
[1, 2, 7, 84])
(.cond (.t 84)
(.seq (.seq (.reg [op 85 (.faddr (.t 7) 1),op 86 (.load (.t 85)),op 87 (.bin .lss (.t 86) (.k (.int .i64 0))),op 88 (.mov (.t 87)),
⟨some 89, .faddr (.t 7) 1, (some (88, false))⟩,
⟨some 90, .load (.t 89), (some (88, false))⟩,
⟨some 91, .faddr (.t 2) 3, (some (88, false))⟩,
⟨some 92, .load (.t 91), (some (88, false))⟩,
⟨some 93, .len false (.t 92), (some (88, false))⟩,
⟨some 94, .bin .geq (.t 90) (.t 93), (some (88, false))⟩,op 95 (.pick (.t 88) (.k (.bool true)) (.t 94)),op 96 (.mov (.t 95)),
⟨some 97, .faddr (.t 7) 2, (some (96, false))⟩,
⟨some 98, .load (.t 97), (some (96, false))⟩,
⟨some 99, .bin .neq (.t 98) (.k (.int .i64 0)), (some (96, false))⟩,op 100 (.pick (.t 96) (.k (.bool true)) (.t 99))]
[1, 2, 7, 100])
(.cond (.t 100)
(.seq (.reg [op 4 (.mov (.k (.int .i64 0))),op 5 (.mov (.k (.int .i64 0))),op 6 (.mov (.k (.int .i64 0)))]
[4, 5, 6])
.ret)
.skip))
(.seq (.reg [op 101 (.faddr (.t 2) 3),op 102 (.load (.t 101)),op 103 (.faddr (.t 7) 1),op 104 (.load (.t 103)),op 105 (.iaddr 5 (.t 102) (.t 104)),op 106 (.faddr (.t 105) 1),op 107 (.faddr (.t 106) 0),op 108 (.load (.t 107)),op 109 (.mov (.t 1)),op 4 (.mov (.t 108)),op 5 (.mov (.k (.int .i64 1))),op 6 (.mov (.t 109))]
[4, 5, 6])
.ret))
.skip))
(.seq (.seq (.reg [op 110 (.faddr (.t 7) 0),op 111 (.load (.t 110)),op 112 (.bin .lss (.t 111) (.k (.int .i64 4))),op 113 (.mov (.t 112)),
⟨some 114, .faddr (.t 7) 0, (some (113, false))⟩,
⟨some 115, .load (.t 114), (some (113, false))⟩,
⟨some 116, .bin .gtr (.t 115) (.k (.int .i64 16)), (some (113, false))⟩,op 117 (.pick (.t 113) (.k (.bool true)) (.t 116))]
[1, 2, 7, 117])
(.cond (.t 117)
(.seq (.reg [op 4 (.mov (.k (.int .i64 0))),op 5 (.mov (.k (.int .i64 0))),op 6 (.mov (.k (.int .i64 0)))]
[4, 5, 6])
.ret)
.skip))
(.seq (.reg [op 119 (.loadN (.t 2) 9),op 120 (.mov (.t 1)),op 121 (.bin .sub (.t 120) (.k (.int .i64 1))),op 122 (.call npb_ [.t 119, .t 121]),op 118 (.mov (.t 122)),op 123 (.ext (.t 118) 0),op 124 (.ext (.t 118) 1),op 125 (.ext (.t 118) 2),op 9 (.mov (.t 123)),op 10 (.mov (.t 124)),op 11 (.mov (.t 125))]
[1, 2, 7, 9, 10, 11])
(.seq (.seq (.reg [op 126 (.faddr (.t 7) 0),op 127 (.load (.t 126)),op 128 (.bin .leq (.t 127) (.k (.int .i64 5)))]
[1, 2, 7, 9, 10, 11, 128])
(.cond (.t 128)
(.seq (.seq (.reg [op 129 (.mov (.t 9)),op 130 (.bin .eql (.t 129) (.k (.int .i64 0))),op 131 (.mov (.t 130)),
⟨some 132, .faddr (.t 7) 1, (some (131, false))⟩,
⟨some 133, .load (.t 132), (some (131, false))⟩,
⟨some 134, .mov (.t 1), (some (131, false))⟩,
⟨some 135, .bin .sub (.t 134) (.k (.int .i64 1)), (some (131, false))⟩,
⟨some 136, .bin .neq (.t 133) (.t 135), (some (131, false))⟩,op 137 (.pick (.t 131) (.k (.bool true)) (.t 136)),op 138 (.mov (.t 137)),
⟨some 139, .faddr (.t 7) 2, (some (138, false))⟩,
⟨some 140, .load (.t 139), (some (138, false))⟩,
⟨some 141, .bin .neq (.t 140) (.k (.int .i64 0)), (some (138, false))⟩,op 142 (.pick (.t 138) (.k (.bool true)) (.t 141))]
[7, 9, 10, 11, 142])
(.cond (.t 142)
(.seq (.reg [op 4 (.mov (.k (.int .i64 0))),op 5 (.mov (.k (.int .i64 0))),op 6 (.mov (.k (.int .i64 0)))]
[4, 5, 6])
.ret)
.skip))
(.seq (.reg [op 143 (.faddr (.t 7) 0),op 144 (.load (.t 143)),op 145 (.mov (.t 9)),op 146 (.mov (.t 9)),op 147 (.call n_proctorref13_Type [.t 144, .t 145, .t 146]),op 148 (.mov (.t 10)),op 149 (.bin .add (.t 148) (.k (.int .i64 1))),op 150 (.mov (.t 11)),op 4 (.mov (.t 147)),op 5 (.mov (.t 149)),op 6 (.mov (.t 150))]
[4, 5, 6])
.ret))
.skip))
(.seq (.seq (.reg [op 151 (.mov (.t 9)),op 152 (.bin .eql (.t 151) (.k (.int .i64 0))),op 153 (.mov (.t 152)),
⟨some 154, .faddr (.t 7) 2, (some (153, false))⟩,
⟨some 155, .load (.t 154), (some (153, false))⟩,
⟨some 156, .mov (.t 1), (some (153, false))⟩,
⟨some 157, .bin .sub (.t 156) (.k (.int .i64 1)), (some (153, false))⟩,
⟨some 158, .bin .neq (.t 155) (.t 157), (some (153, false))⟩,op 159 (.pick (.t 153) (.k (.bool true)) (.t 158)),op 160 (.mov (.t 159)),
⟨some 161, .faddr (.t 7) 1, (some (160, false))⟩,
⟨some 162, .load (.t 161), (some (160, false))⟩,
⟨some 163, .mov (.t 11), (some (160, false))⟩,
⟨some 164, .bin .sub (.t 163) (.k (.int .i64 1)), (some (160, false))⟩,
⟨some 165, .bin .neq (.t 162) (.t 164), (some (160, false))⟩,op 166 (.pick (.t 160) (.k (.bool true)) (.t 165))]
[2, 7, 9, 10, 11, 166])
(.cond (.t 166)
(.seq (.reg [op 4 (.mov (.k (.int .i64 0))),op 5 (.mov (.k (.int .i64 0))),op 6 (.mov (.k (.int .i64 0)))]
[4, 5, 6])
.ret)
.skip))
(.seq (.reg [op 168 (.loadN (.t 2) 9),op 169 (.mov (.t 11)),op 170 (.bin .sub (.t 169) (.k (.int .i64 1))),op 171 (.call npb_ [.t 168, .t 170]),op 167 (.mov (.t 171)),op 172 (.ext (.t 167) 0),op 173 (.ext (.t 167) 1),op 174 (.ext (.t 167) 2),op 12 (.mov (.t 172)),op 13 (.mov (.t 173)),op 14 (.mov (.t 174))]
[7, 9, 10, 12, 13, 14])
(.seq (.reg [op 175 (.faddr (.t 7) 0),op 176 (.load (.t 175)),op 177 (.mov (.t 12)),op 178 (.mov (.t 9)),op 179 (.call n_proctorref13_Type [.t 176, .t 177, .t 178]),op 180 (.mov (.t 10)),op 181 (.mov (.t 13)),op 182 (.mx false (.t 180) (.t 181)),op 183 (.bin .add (.t 182) (.k (.int .i64 1))),op 184 (.mov (.t 14)),op 4 (.mov (.t 179)),op 5 (.mov (.t 183)),op 6 (.mov (.t 184))]
[4, 5, 6])
.ret))))))))))))))⟩
theorem k_proctorref13_below : chkF Tryz.prog Tryz.f218 c_proctorref13_below = true := by kernel_rfl
abbrev pc_proctorref13_below := @pcR npb_ _ _ Tryz.func218 k_proctorref13_below
def c_proctorref13_bound : AFun := ⟨34, 4, [.t 8],
  (.seq (.reg [op 4 (.box taQ_ 9 (.t 0)),op 5 (.box taS_ 2 (.t 1)),op 8 (.mov (.k (.bool false)))]
[2, 3, 4, 5])
(.seq (.seq (.reg [op 10 (.mov (.t 2)),op 9 (.mov (.t 10))]
[3, 4, 5, 9])
(.block 0
(.loop [3, 4, 5, 9] [4, 5]
  (.seq (.seq (.reg [op 11 (.mov (.t 9)),op 12 (.mov (.t 3)),op 13 (.bin .lss (.t 11) (.t 12))]
[3, 4, 5, 9, 13])
(.cond (.t 13)
.skip
(.exit 0)))
(.seq (.block 1
(.seq (.dreg [op 16 (.faddr (.t 4) 7),op 17 (.load (.t 16)),op 18 (.mov (.t 9)),op 19 (.iaddr 7 (.t 17) (.t 18)),op 20 (.faddr (.t 19) 0),op 21 (.load (.t 20)),op 22 (.bin .eql (.t 21) (.k (.int .i64 2))),op 23 (.mov (.t 22)),
⟨some 24, .loadN (.t 5) 2, (some (23, true))⟩,
⟨some 25, .faddr (.t 4) 7, (some (23, true))⟩,
⟨some 26, .load (.t 25), (some (23, true))⟩,
⟨some 27, .mov (.t 9), (some (23, true))⟩,
⟨some 28, .iaddr 7 (.t 26) (.t 27), (some (23, true))⟩,
⟨some 29, .faddr (.t 28) 1, (some (23, true))⟩,
⟨some 30, .load (.t 29), (some (23, true))⟩,
⟨some 31, .call n_proctorref13_Names [.t 24, .t 30], (some (23, true))⟩,
⟨some 32, .un .not (.t 31), (some (23, true))⟩,op 33 (.pick (.t 23) (.t 32) (.k (.bool false)))]
[3, 4, 5, 9, 33])
(.cond (.t 33)
(.seq (.reg [op 8 (.mov (.k (.bool false)))]
[8])
.ret)
.skip)))
(.reg [op 14 (.mov (.t 9)),op 15 (.bin .add (.t 14) (.k (.int .i64 1))),op 9 (.mov (.t 15))]
[3, 4, 5, 9]))))))
(.seq (.reg [op 8 (.mov (.k (.bool true)))]
[8])
.ret)))⟩
theorem k_proctorref13_bound : chkF Tryz.prog Tryz.f137 c_proctorref13_bound = true := by kernel_rfl
abbrev pc_proctorref13_bound := @pcR n_proctorref13_bound _ _ Tryz.func137 k_proctorref13_bound
def c_proctorref13_names : AFun := ⟨112, 1, [.t 2],
  (.seq (.reg [op 1 (.box taQ_ 9 (.t 0)),op 2 (.mov (.k (.bool false)))]
[1])
(.seq (.reg [op 3 (.nilrow ts_ 1)]
[1, 3])
(.seq (.seq (.reg [op 4 (.mov (.k (.int .i64 0)))]
[1, 3, 4])
(.block 0
(.loop [1, 3, 4] [1, 3, 24]
  (.seq (.seq (.reg [op 9 (.mov (.t 4)),op 10 (.faddr (.t 1) 2),op 11 (.load (.t 10)),op 12 (.len false (.t 11)),op 13 (.bin .lss (.t 9) (.t 12))]
[1, 3, 4, 13])
(.cond (.t 13)
.skip
(.exit 0)))
(.seq (.block 1
(.seq (.reg [op 16 (.mov (.t 3)),op 17 (.faddr (.t 1) 2),op 18 (.load (.t 17)),op 19 (.mov (.t 4)),op 20 (.iaddr 3 (.t 18) (.t 19)),op 21 (.faddr (.t 20) 1),op 22 (.load (.t 21)),op 23 (.mkrow ts_ 1 1 (.str []) [(0, .t 22)]),op 24 (.app ts_ 1 16 (.t 16) (.t 23)),op 3 (.mov (.t 24))]
[1, 3, 4])
(.seq (.reg [op 25 (.faddr (.t 1) 2),op 26 (.load (.t 25)),op 27 (.mov (.t 4)),op 28 (.iaddr 3 (.t 26) (.t 27)),op 29 (.faddr (.t 28) 2),op 30 (.load (.t 29)),op 31 (.bin .lss (.t 30) (.k (.int .i64 1))),op 32 (.mov (.t 31)),
⟨some 33, .faddr (.t 1) 2, (some (32, false))⟩,
⟨some 34, .load (.t 33), (some (32, false))⟩,
⟨some 35, .mov (.t 4), (some (32, false))⟩,
⟨some 36, .iaddr 3 (.t 34) (.t 35), (some (32, false))⟩,
⟨some 37, .faddr (.t 36) 2, (some (32, false))⟩,
⟨some 38, .load (.t 37), (some (32, false))⟩,
⟨some 39, .bin .gtr (.t 38) (.k (.int .i64 3)), (some (32, false))⟩,op 40 (.pick (.t 32) (.k (.bool true)) (.t 39))]
[1, 3, 4, 40])
(.cond (.t 40)
(.seq (.reg [op 2 (.mov (.k (.bool false)))]
[2])
.ret)
.skip))))
(.reg [op 14 (.mov (.t 4)),op 15 (.bin .add (.t 14) (.k (.int .i64 1))),op 4 (.mov (.t 15))]
[1, 3, 4]))))))
(.seq (.seq (.reg [op 5 (.mov (.k (.int .i64 0)))]
[1, 3, 5])
(.block 2
(.loop [1, 3, 5] [1, 3, 12, 23, 24, 56]
  (.seq (.seq (.reg [op 41 (.mov (.t 5)),op 42 (.faddr (.t 1) 3),op 43 (.load (.t 42)),op 44 (.len false (.t 43)),op 45 (.bin .lss (.t 41) (.t 44))]
[1, 3, 5, 45])
(.cond (.t 45)
.skip
(.exit 2)))
(.seq (.block 3
(.seq (.reg [op 48 (.mov (.t 3)),op 49 (.faddr (.t 1) 3),op 50 (.load (.t 49)),op 51 (.mov (.t 5)),op 52 (.iaddr 5 (.t 50) (.t 51)),op 53 (.faddr (.t 52) 0),op 54 (.load (.t 53)),op 55 (.mkrow ts_ 1 1 (.str []) [(0, .t 54)]),op 56 (.app ts_ 1 16 (.t 48) (.t 55)),op 3 (.mov (.t 56))]
[1, 3, 5])
(.seq (.reg [op 57 (.faddr (.t 1) 3),op 58 (.load (.t 57)),op 59 (.mov (.t 5)),op 60 (.iaddr 5 (.t 58) (.t 59)),op 61 (.faddr (.t 60) 1),op 62 (.loadN (.t 61) 4),op 63 (.call npR_ [.t 62]),op 64 (.un .not (.t 63))]
[1, 3, 5, 64])
(.cond (.t 64)
(.seq (.reg [op 2 (.mov (.k (.bool false)))]
[2])
.ret)
.skip))))
(.reg [op 46 (.mov (.t 5)),op 47 (.bin .add (.t 46) (.k (.int .i64 1))),op 5 (.mov (.t 47))]
[1, 3, 5]))))))
(.seq (.seq (.reg [op 6 (.mov (.k (.int .i64 0)))]
[1, 3, 6])
(.block 4
(.loop [1, 3, 6] [1, 3, 12, 23, 24, 44, 55, 56, 63]
  (.seq (.seq (.reg [op 65 (.mov (.t 6)),op 66 (.mov (.t 3)),op 67 (.len false (.t 66)),op 68 (.bin .lss (.t 65) (.t 67))]
[1, 3, 6, 68])
(.cond (.t 68)
.skip
(.exit 4)))
(.seq (.block 5
(.seq (.reg [op 71 (.mov (.t 3)),op 72 (.mov (.t 6)),op 73 (.iaddr 1 (.t 71) (.t 72)),op 74 (.load (.t 73)),op 75 (.call npN_ [.t 74]),op 76 (.un .not (.t 75)),op 77 (.mov (.t 76)),
⟨some 78, .mov (.t 3), (some (77, false))⟩,
⟨some 79, .mov (.t 6), (some (77, false))⟩,
⟨some 80, .call n_proctorref13_twice [.t 78, .t 79], (some (77, false))⟩,op 81 (.pick (.t 77) (.k (.bool true)) (.t 80))]
[1, 3, 6, 81])
(.cond (.t 81)
(.seq (.reg [op 2 (.mov (.k (.bool false)))]
[2])
.ret)
.skip)))
(.reg [op 69 (.mov (.t 6)),op 70 (.bin .add (.t 69) (.k (.int .i64 1))),op 6 (.mov (.t 70))]
[1, 3, 6]))))))
(.seq (.reg [op 7 (.nilrow ts_ 1)]
[1, 7])
(.seq (.seq (.reg [op 8 (.mov (.k (.int .i64 0)))]
[1, 7, 8])
(.block 6
(.loop [1, 7, 8] [1, 3, 12, 23, 24, 44, 55, 56, 63, 67, 75, 80, 7, 97]
  (.seq (.seq (.reg [op 82 (.mov (.t 8)),op 83 (.faddr (.t 1) 4),op 84 (.load (.t 83)),op 85 (.len false (.t 84)),op 86 (.bin .lss (.t 82) (.t 85))]
[1, 7, 8, 86])
(.cond (.t 86)
.skip
(.exit 6)))
(.seq (.block 7
(.seq (.reg [op 89 (.mov (.t 7)),op 90 (.faddr (.t 1) 4),op 91 (.load (.t 90)),op 92 (.mov (.t 8)),op 93 (.iaddr 3 (.t 91) (.t 92)),op 94 (.faddr (.t 93) 0),op 95 (.load (.t 94)),op 96 (.mkrow ts_ 1 1 (.str []) [(0, .t 95)]),op 97 (.app ts_ 1 16 (.t 89) (.t 96)),op 7 (.mov (.t 97))]
[1, 7, 8])
(.seq (.reg [op 98 (.mov (.t 7)),op 99 (.mov (.t 8)),op 100 (.iaddr 1 (.t 98) (.t 99)),op 101 (.load (.t 100)),op 102 (.call npN_ [.t 101]),op 103 (.un .not (.t 102)),op 104 (.mov (.t 103)),
⟨some 105, .mov (.t 7), (some (104, false))⟩,
⟨some 106, .mov (.t 8), (some (104, false))⟩,
⟨some 107, .call n_proctorref13_twice [.t 105, .t 106], (some (104, false))⟩,op 108 (.pick (.t 104) (.k (.bool true)) (.t 107))]
[1, 7, 8, 108])
(.cond (.t 108)
(.seq (.reg [op 2 (.mov (.k (.bool false)))]
[2])
.ret)
.skip))))
(.reg [op 87 (.mov (.t 8)),op 88 (.bin .add (.t 87) (.k (.int .i64 1))),op 8 (.mov (.t 88))]
[1, 7, 8]))))))
(.seq (.reg [op 109 (.faddr (.t 1) 0),op 110 (.load (.t 109)),op 111 (.call npN_ [.t 110]),op 2 (.mov (.t 111))]
[2])
.ret))))))))⟩
theorem k_proctorref13_names : chkF Tryz.prog Tryz.f72 c_proctorref13_names = true := by kernel_rfl
abbrev pc_proctorref13_names := @pcR n_proctorref13_names _ _ Tryz.func72 k_proctorref13_names
def c_proctorref13_symbol : AFun := ⟨56, 2, [.t 4],
  (.seq (.reg [op 2 (.box taQ_ 9 (.t 0)),op 3 (.box taS_ 2 (.t 1)),op 4 (.mov (.k (.bool false)))]
[2, 3])
(.seq (.seq (.dreg [op 6 (.faddr (.t 3) 0),op 7 (.load (.t 6)),op 8 (.bin .lss (.t 7) (.k (.int .i64 0))),op 9 (.mov (.t 8)),
⟨some 10, .faddr (.t 3) 0, (some (9, false))⟩,
⟨some 11, .load (.t 10), (some (9, false))⟩,
⟨some 12, .faddr (.t 2) 1, (some (9, false))⟩,
⟨some 13, .load (.t 12), (some (9, false))⟩,
⟨some 14, .len false (.t 13), (some (9, false))⟩,
⟨some 15, .bin .geq (.t 11) (.t 14), (some (9, false))⟩,op 16 (.pick (.t 9) (.k (.bool true)) (.t 15)),op 17 (.mov (.t 16)),
⟨some 18, .faddr (.t 3) 1, (some (17, false))⟩,
⟨some 19, .load (.t 18), (some (17, false))⟩,
⟨some 20, .len false (.t 19), (some (17, false))⟩,
⟨some 21, .faddr (.t 2) 1, (some (17, false))⟩,
⟨some 22, .load (.t 21), (some (17, false))⟩,
⟨some 23, .faddr (.t 3) 0, (some (17, false))⟩,
⟨some 24, .load (.t 23), (some (17, false))⟩,
⟨some 25, .iaddr 2 (.t 22) (.t 24), (some (17, false))⟩,
⟨some 26, .faddr (.t 25) 1, (some (17, false))⟩,
⟨some 27, .load (.t 26), (some (17, false))⟩,
⟨some 28, .len false (.t 27), (some (17, false))⟩,
⟨some 29, .bin .neq (.t 20) (.t 28), (some (17, false))⟩,op 30 (.pick (.t 17) (.k (.bool true)) (.t 29))]
[2, 3, 30])
(.cond (.t 30)
(.seq (.reg [op 4 (.mov (.k (.bool false)))]
[4])
.ret)
.skip))
(.seq (.seq (.reg [op 5 (.mov (.k (.int .i64 0)))]
[2, 3, 5])
(.block 0
(.loop [2, 3, 5] [2, 3, 14, 20, 28]
  (.seq (.seq (.reg [op 31 (.mov (.t 5)),op 32 (.faddr (.t 3) 1),op 33 (.load (.t 32)),op 34 (.len false (.t 33)),op 35 (.bin .lss (.t 31) (.t 34))]
[2, 3, 5, 35])
(.cond (.t 35)
.skip
(.exit 0)))
(.seq (.block 1
(.seq (.dreg [op 38 (.loadN (.t 2) 9),op 39 (.faddr (.t 3) 1),op 40 (.load (.t 39)),op 41 (.mov (.t 5)),op 42 (.iaddr 6 (.t 40) (.t 41)),op 43 (.loadN (.t 42) 6),op 44 (.faddr (.t 2) 1),op 45 (.load (.t 44)),op 46 (.faddr (.t 3) 0),op 47 (.load (.t 46)),op 48 (.iaddr 2 (.t 45) (.t 47)),op 49 (.faddr (.t 48) 1),op 50 (.load (.t 49)),op 51 (.mov (.t 5)),op 52 (.iaddr 1 (.t 50) (.t 51)),op 53 (.load (.t 52)),op 54 (.call n_proctorref13_arg [.t 38, .t 43, .t 53]),op 55 (.un .not (.t 54))]
[2, 3, 5, 55])
(.cond (.t 55)
(.seq (.reg [op 4 (.mov (.k (.bool false)))]
[4])
.ret)
.skip)))
(.reg [op 36 (.mov (.t 5)),op 37 (.bin .add (.t 36) (.k (.int .i64 1))),op 5 (.mov (.t 37))]
[2, 3, 5]))))))
(.seq (.reg [op 4 (.mov (.k (.bool true)))]
[4])
.ret))))⟩
theorem k_proctorref13_symbol : chkF Tryz.prog Tryz.f138 c_proctorref13_symbol = true := by kernel_rfl
abbrev pc_proctorref13_symbol := @pcR n_proctorref13_symbol _ _ Tryz.func138 k_proctorref13_symbol
def c_proctorref13_symbols : AFun := ⟨118, 1, [.t 2],
  (.seq (.reg [op 1 (.box taQ_ 9 (.t 0)),op 2 (.mov (.k (.bool false)))]
[1])
(.seq (.reg [op 13 (.faddr (.t 1) 6),op 14 (.load (.t 13)),op 15 (.len false (.t 14)),op 16 (.mks t_bool 1 1 (.bool false) (.t 15) (.t 15)),op 3 (.mov (.t 16))]
[1, 3])
(.seq (.reg [op 4 (.nilrow t_int 1)]
[1, 3, 4])
(.seq (.seq (.reg [op 5 (.mov (.k (.int .i64 0)))]
[1, 3, 4, 5])
(.block 0
(.loop [1, 3, 4, 5] [1, 15, 16, 4, 38]
  (.seq (.seq (.reg [op 17 (.mov (.t 5)),op 18 (.faddr (.t 1) 8),op 19 (.load (.t 18)),op 20 (.len false (.t 19)),op 21 (.bin .lss (.t 17) (.t 20))]
[1, 3, 4, 5, 21])
(.cond (.t 21)
.skip
(.exit 0)))
(.seq (.block 1
(.seq (.reg [op 24 (.faddr (.t 1) 8),op 25 (.load (.t 24)),op 26 (.mov (.t 5)),op 27 (.iaddr 5 (.t 25) (.t 26)),op 28 (.faddr (.t 27) 1),op 29 (.load (.t 28)),op 6 (.mov (.t 29))]
[1, 3, 4, 5, 6])
(.seq (.seq (.reg [op 30 (.mov (.t 3)),op 31 (.mov (.t 6)),op 32 (.iaddr 1 (.t 30) (.t 31)),op 33 (.load (.t 32)),op 34 (.un .not (.t 33))]
[1, 3, 4, 5, 6, 34])
(.cond (.t 34)
(.reg [op 35 (.mov (.t 4)),op 36 (.mov (.t 6)),op 37 (.mkrow t_int 1 1 (.int .i64 0) [(0, .t 36)]),op 38 (.app t_int 1 8 (.t 35) (.t 37)),op 4 (.mov (.t 38))]
[1, 3, 4, 5, 6])
.skip))
(.reg [op 39 (.mov (.t 3)),op 40 (.mov (.t 6)),op 41 (.iaddr 1 (.t 39) (.t 40)),
⟨none, .store (.t 41) (.k (.bool true)) 1, none⟩]
[1, 3, 4, 5]))))
(.reg [op 22 (.mov (.t 5)),op 23 (.bin .add (.t 22) (.k (.int .i64 1))),op 5 (.mov (.t 23))]
[1, 3, 4, 5]))))))
(.seq (.seq (.reg [op 7 (.mov (.k (.int .i64 0)))]
[1, 4, 7])
(.block 2
(.loop [1, 4, 7] [1, 15, 16, 4, 20, 37, 38]
  (.seq (.seq (.reg [op 42 (.mov (.t 7)),op 43 (.mov (.t 4)),op 44 (.len false (.t 43)),op 45 (.bin .lss (.t 42) (.t 44))]
[1, 4, 7, 45])
(.cond (.t 45)
.skip
(.exit 2)))
(.seq (.block 3
(.seq (.dreg [op 48 (.mov (.t 4)),op 49 (.mov (.t 7)),op 50 (.iaddr 1 (.t 48) (.t 49)),op 51 (.load (.t 50)),op 52 (.faddr (.t 1) 6),op 53 (.load (.t 52)),op 54 (.len false (.t 53)),op 55 (.mov (.t 4)),op 56 (.len false (.t 55)),op 57 (.bin .sub (.t 54) (.t 56)),op 58 (.mov (.t 7)),op 59 (.bin .add (.t 57) (.t 58)),op 60 (.bin .neq (.t 51) (.t 59))]
[1, 4, 7, 60])
(.cond (.t 60)
(.seq (.reg [op 2 (.mov (.k (.bool false)))]
[2])
.ret)
.skip)))
(.reg [op 46 (.mov (.t 7)),op 47 (.bin .add (.t 46) (.k (.int .i64 1))),op 7 (.mov (.t 47))]
[1, 4, 7]))))))
(.seq (.seq (.reg [op 8 (.mov (.k (.int .i64 0)))]
[1, 8])
(.block 4
(.loop [1, 8] [1, 15, 16, 4, 20, 37, 38, 44, 54, 56]
  (.seq (.seq (.reg [op 61 (.mov (.t 8)),op 62 (.faddr (.t 1) 6),op 63 (.load (.t 62)),op 64 (.len false (.t 63)),op 65 (.bin .lss (.t 61) (.t 64))]
[1, 8, 65])
(.cond (.t 65)
.skip
(.exit 4)))
(.seq (.block 5
(.seq (.seq (.dreg [op 68 (.loadN (.t 1) 9),op 69 (.faddr (.t 1) 6),op 70 (.load (.t 69)),op 71 (.mov (.t 8)),op 72 (.iaddr 2 (.t 70) (.t 71)),op 73 (.loadN (.t 72) 2),op 74 (.call n_proctorref13_symbol [.t 68, .t 73]),op 75 (.un .not (.t 74))]
[1, 8, 75])
(.cond (.t 75)
(.seq (.reg [op 2 (.mov (.k (.bool false)))]
[2])
.ret)
.skip))
(.seq (.reg [op 9 (.mov (.k (.int .i64 0)))]
[1, 8, 9])
(.block 6
(.loop [1, 8, 9] [1, 15, 16, 4, 20, 37, 38, 44, 54, 56, 64, 74]
  (.seq (.seq (.reg [op 76 (.mov (.t 9)),op 77 (.mov (.t 8)),op 78 (.bin .lss (.t 76) (.t 77))]
[1, 8, 9, 78])
(.cond (.t 78)
.skip
(.exit 6)))
(.seq (.block 7
(.seq (.dreg [op 81 (.faddr (.t 1) 6),op 82 (.load (.t 81)),op 83 (.mov (.t 8)),op 84 (.iaddr 2 (.t 82) (.t 83)),op 85 (.loadN (.t 84) 2),op 86 (.faddr (.t 1) 6),op 87 (.load (.t 86)),op 88 (.mov (.t 9)),op 89 (.iaddr 2 (.t 87) (.t 88)),op 90 (.loadN (.t 89) 2),op 91 (.call n_proctorref13_SameSymbol [.t 85, .t 90])]
[1, 8, 9, 91])
(.cond (.t 91)
(.seq (.reg [op 2 (.mov (.k (.bool false)))]
[2])
.ret)
.skip)))
(.reg [op 79 (.mov (.t 9)),op 80 (.bin .add (.t 79) (.k (.int .i64 1))),op 9 (.mov (.t 80))]
[1, 8, 9]))))))))
(.reg [op 66 (.mov (.t 8)),op 67 (.bin .add (.t 66) (.k (.int .i64 1))),op 8 (.mov (.t 67))]
[1, 8]))))))
(.seq (.seq (.reg [op 10 (.mov (.k (.int .i64 0)))]
[1, 10])
(.block 8
(.loop [1, 10] [1, 15, 16, 4, 20, 37, 38, 44, 54, 56, 64, 74, 91]
  (.seq (.seq (.reg [op 92 (.mov (.t 10)),op 93 (.faddr (.t 1) 2),op 94 (.load (.t 93)),op 95 (.len false (.t 94)),op 96 (.bin .lss (.t 92) (.t 95))]
[1, 10, 96])
(.cond (.t 96)
.skip
(.exit 8)))
(.seq (.block 9
(.seq (.reg [op 11 (.mov (.k (.bool false)))]
[1, 10, 11])
(.seq (.seq (.reg [op 12 (.mov (.k (.int .i64 0)))]
[1, 10, 11, 12])
(.block 10
(.loop [1, 10, 11, 12] [1, 15, 16, 4, 20, 37, 38, 44, 54, 56, 64, 74, 91, 95]
  (.seq (.seq (.reg [op 99 (.mov (.t 12)),op 100 (.faddr (.t 1) 6),op 101 (.load (.t 100)),op 102 (.len false (.t 101)),op 103 (.bin .lss (.t 99) (.t 102))]
[1, 10, 11, 12, 103])
(.cond (.t 103)
.skip
(.exit 10)))
(.seq (.block 11
(.reg [op 106 (.mov (.t 11)),op 107 (.mov (.t 106)),
⟨some 108, .faddr (.t 1) 6, (some (107, false))⟩,
⟨some 109, .load (.t 108), (some (107, false))⟩,
⟨some 110, .mov (.t 12), (some (107, false))⟩,
⟨some 111, .iaddr 2 (.t 109) (.t 110), (some (107, false))⟩,
⟨some 112, .loadN (.t 111) 2, (some (107, false))⟩,
⟨some 113, .mov (.t 10), (some (107, false))⟩,
⟨some 114, .call n_proctorref13_Names [.t 112, .t 113], (some (107, false))⟩,op 115 (.pick (.t 107) (.k (.bool true)) (.t 114)),op 11 (.mov (.t 115))]
[1, 10, 11, 12]))
(.reg [op 104 (.mov (.t 12)),op 105 (.bin .add (.t 104) (.k (.int .i64 1))),op 12 (.mov (.t 105))]
[1, 10, 11, 12]))))))
(.seq (.reg [op 116 (.mov (.t 11)),op 117 (.un .not (.t 116))]
[1, 10, 117])
(.cond (.t 117)
(.seq (.reg [op 2 (.mov (.k (.bool false)))]
[2])
.ret)
.skip)))))
(.reg [op 97 (.mov (.t 10)),op 98 (.bin .add (.t 97) (.k (.int .i64 1))),op 10 (.mov (.t 98))]
[1, 10]))))))
(.seq (.reg [op 2 (.mov (.k (.bool true)))]
[2])
.ret))))))))⟩
theorem k_proctorref13_symbols : chkF Tryz.prog Tryz.f74 c_proctorref13_symbols = true := by kernel_rfl
abbrev pc_proctorref13_symbols := @pcR n_proctorref13_symbols _ _ Tryz.func74 k_proctorref13_symbols
def c_proctorref13_trans : AFun := ⟨153, 3, [.t 6, .t 7],
  (.seq (.reg [op 3 (.box taQ_ 9 (.t 0)),op 4 (.box taT_ 5 (.t 1)),op 6 (.mov (.k (.int .i64 0))),op 7 (.mov (.k (.bool false)))]
[2, 3, 4])
(.seq (.seq (.reg [op 16 (.faddr (.t 4) 0),op 17 (.load (.t 16)),op 18 (.bin .lss (.t 17) (.k (.int .i64 0))),op 19 (.mov (.t 18)),
⟨some 20, .faddr (.t 4) 0, (some (19, false))⟩,
⟨some 21, .load (.t 20), (some (19, false))⟩,
⟨some 22, .faddr (.t 3) 4, (some (19, false))⟩,
⟨some 23, .load (.t 22), (some (19, false))⟩,
⟨some 24, .len false (.t 23), (some (19, false))⟩,
⟨some 25, .bin .geq (.t 21) (.t 24), (some (19, false))⟩,op 26 (.pick (.t 19) (.k (.bool true)) (.t 25)),op 27 (.mov (.t 26)),
⟨some 28, .faddr (.t 4) 2, (some (27, false))⟩,
⟨some 29, .load (.t 28), (some (27, false))⟩,
⟨some 30, .bin .lss (.t 29) (.k (.int .i64 0)), (some (27, false))⟩,op 31 (.pick (.t 27) (.k (.bool true)) (.t 30)),op 32 (.mov (.t 31)),
⟨some 33, .faddr (.t 4) 2, (some (32, false))⟩,
⟨some 34, .load (.t 33), (some (32, false))⟩,
⟨some 35, .faddr (.t 3) 4, (some (32, false))⟩,
⟨some 36, .load (.t 35), (some (32, false))⟩,
⟨some 37, .len false (.t 36), (some (32, false))⟩,
⟨some 38, .bin .geq (.t 34) (.t 37), (some (32, false))⟩,op 39 (.pick (.t 32) (.k (.bool true)) (.t 38)),op 40 (.mov (.t 39)),
⟨some 41, .faddr (.t 4) 1, (some (40, false))⟩,
⟨some 42, .load (.t 41), (some (40, false))⟩,
⟨some 43, .bin .lss (.t 42) (.k (.int .i64 0)), (some (40, false))⟩,op 44 (.pick (.t 40) (.k (.bool true)) (.t 43)),op 45 (.mov (.t 44)),
⟨some 46, .faddr (.t 4) 1, (some (45, false))⟩,
⟨some 47, .load (.t 46), (some (45, false))⟩,
⟨some 48, .faddr (.t 3) 6, (some (45, false))⟩,
⟨some 49, .load (.t 48), (some (45, false))⟩,
⟨some 50, .len false (.t 49), (some (45, false))⟩,
⟨some 51, .bin .geq (.t 47) (.t 50), (some (45, false))⟩,op 52 (.pick (.t 45) (.k (.bool true)) (.t 51))]
[2, 3, 4, 52])
(.cond (.t 52)
(.seq (.reg [op 6 (.mov (.k (.int .i64 0))),op 7 (.mov (.k (.bool false)))]
[6, 7])
.ret)
.skip))
(.seq (.reg [op 53 (.mov (.t 2)),op 8 (.mov (.t 53))]
[2, 3, 4, 8])
(.seq (.seq (.reg [op 54 (.faddr (.t 4) 3),op 55 (.load (.t 54)),op 56 (.bin .neq (.t 55) (.k (.int .i64 (-1))))]
[2, 3, 4, 8, 56])
(.cond (.t 56)
(.seq (.reg [op 58 (.loadN (.t 3) 9),op 59 (.mov (.t 8)),op 60 (.faddr (.t 4) 3),op 61 (.load (.t 60)),op 62 (.call n_proctorref13_Kind [.t 58, .t 59, .t 61]),op 57 (.mov (.t 62)),op 63 (.ext (.t 57) 0),op 64 (.ext (.t 57) 1),op 9 (.mov (.t 63)),op 10 (.mov (.t 64))]
[2, 3, 4, 9, 10])
(.seq (.seq (.reg [op 65 (.mov (.t 9)),op 66 (.bin .neq (.t 65) (.k (.int .i64 3))),op 67 (.mov (.t 66)),
⟨some 68, .mov (.t 10), (some (67, false))⟩,
⟨some 69, .bin .gtr (.t 68) (.k (.int .i64 64)), (some (67, false))⟩,op 70 (.pick (.t 67) (.k (.bool true)) (.t 69))]
[2, 3, 4, 70])
(.cond (.t 70)
(.seq (.reg [op 6 (.mov (.k (.int .i64 0))),op 7 (.mov (.k (.bool false)))]
[6, 7])
.ret)
.skip))
(.reg [op 71 (.faddr (.t 4) 3),op 72 (.load (.t 71)),op 73 (.bin .add (.t 72) (.k (.int .i64 1))),op 8 (.mov (.t 73))]
[2, 3, 4, 8])))
.skip))
(.seq (.seq (.reg [op 11 (.mov (.k (.int .i64 0)))]
[2, 3, 4, 8, 11])
(.block 0
(.loop [2, 3, 4, 8, 11] [3, 4, 24, 37, 50, 62]
  (.seq (.seq (.reg [op 74 (.mov (.t 11)),op 75 (.faddr (.t 4) 4),op 76 (.load (.t 75)),op 77 (.len false (.t 76)),op 78 (.bin .lss (.t 74) (.t 77))]
[2, 3, 4, 8, 11, 78])
(.cond (.t 78)
.skip
(.exit 0)))
(.seq (.block 1
(.seq (.reg [op 81 (.faddr (.t 4) 4),op 82 (.load (.t 81)),op 83 (.mov (.t 11)),op 84 (.iaddr 2 (.t 82) (.t 83)),op 85 (.loadN (.t 84) 2),op 12 (.alloc t_api_Set 2 (.agg [.int .i64 0, .int .i64 0])),
⟨none, .store (.t 12) (.t 85) 2, none⟩]
[2, 3, 4, 8, 11, 12])
(.seq (.reg [op 87 (.loadN (.t 3) 9),op 88 (.mov (.t 8)),op 89 (.faddr (.t 12) 1),op 90 (.load (.t 89)),op 91 (.call n_proctorref13_Kind [.t 87, .t 88, .t 90]),op 86 (.mov (.t 91)),op 92 (.ext (.t 86) 0),op 93 (.ext (.t 86) 1),op 13 (.mov (.t 92)),op 14 (.mov (.t 93))]
[2, 3, 4, 11, 12, 13, 14])
(.seq (.seq (.reg [op 94 (.faddr (.t 12) 0),op 95 (.load (.t 94)),op 96 (.bin .lss (.t 95) (.k (.int .i64 0))),op 97 (.mov (.t 96)),
⟨some 98, .faddr (.t 12) 0, (some (97, false))⟩,
⟨some 99, .load (.t 98), (some (97, false))⟩,
⟨some 100, .faddr (.t 3) 3, (some (97, false))⟩,
⟨some 101, .load (.t 100), (some (97, false))⟩,
⟨some 102, .len false (.t 101), (some (97, false))⟩,
⟨some 103, .bin .geq (.t 99) (.t 102), (some (97, false))⟩,op 104 (.pick (.t 97) (.k (.bool true)) (.t 103)),op 105 (.mov (.t 104)),
⟨some 106, .mov (.t 13), (some (105, false))⟩,
⟨some 107, .bin .eql (.t 106) (.k (.int .i64 0)), (some (105, false))⟩,op 108 (.pick (.t 105) (.k (.bool true)) (.t 107)),op 109 (.mov (.t 108)),
⟨some 110, .mov (.t 14), (some (109, false))⟩,
⟨some 111, .bin .gtr (.t 110) (.k (.int .i64 64)), (some (109, false))⟩,op 112 (.pick (.t 109) (.k (.bool true)) (.t 111)),op 113 (.mov (.t 112)),
⟨some 114, .mov (.t 13), (some (113, false))⟩,
⟨some 115, .faddr (.t 3) 3, (some (113, false))⟩,
⟨some 116, .load (.t 115), (some (113, false))⟩,
⟨some 117, .faddr (.t 12) 0, (some (113, false))⟩,
⟨some 118, .load (.t 117), (some (113, false))⟩,
⟨some 119, .iaddr 5 (.t 116) (.t 118), (some (113, false))⟩,
⟨some 120, .faddr (.t 119) 1, (some (113, false))⟩,
⟨some 121, .faddr (.t 120) 0, (some (113, false))⟩,
⟨some 122, .load (.t 121), (some (113, false))⟩,
⟨some 123, .bin .neq (.t 114) (.t 122), (some (113, false))⟩,op 124 (.pick (.t 113) (.k (.bool true)) (.t 123))]
[2, 3, 4, 11, 12, 124])
(.cond (.t 124)
(.seq (.reg [op 6 (.mov (.k (.int .i64 0))),op 7 (.mov (.k (.bool false)))]
[6, 7])
.ret)
.skip))
(.seq (.seq (.reg [op 15 (.mov (.k (.int .i64 0)))]
[2, 3, 4, 11, 12, 15])
(.block 2
(.loop [2, 3, 4, 11, 12, 15] [3, 4, 24, 37, 50, 62, 77, 12, 91, 102]
  (.seq (.seq (.reg [op 125 (.mov (.t 15)),op 126 (.mov (.t 11)),op 127 (.bin .lss (.t 125) (.t 126))]
[2, 3, 4, 11, 12, 15, 127])
(.cond (.t 127)
.skip
(.exit 2)))
(.seq (.block 3
(.seq (.dreg [op 130 (.faddr (.t 4) 4),op 131 (.load (.t 130)),op 132 (.mov (.t 15)),op 133 (.iaddr 2 (.t 131) (.t 132)),op 134 (.faddr (.t 133) 0),op 135 (.load (.t 134)),op 136 (.faddr (.t 12) 0),op 137 (.load (.t 136)),op 138 (.bin .eql (.t 135) (.t 137))]
[2, 3, 4, 11, 12, 15, 138])
(.cond (.t 138)
(.seq (.reg [op 6 (.mov (.k (.int .i64 0))),op 7 (.mov (.k (.bool false)))]
[6, 7])
.ret)
.skip)))
(.reg [op 128 (.mov (.t 15)),op 129 (.bin .add (.t 128) (.k (.int .i64 1))),op 15 (.mov (.t 129))]
[2, 3, 4, 11, 12, 15]))))))
(.reg [op 139 (.faddr (.t 12) 1),op 140 (.load (.t 139)),op 141 (.bin .add (.t 140) (.k (.int .i64 1))),op 8 (.mov (.t 141))]
[2, 3, 4, 8, 11]))))))
(.reg [op 79 (.mov (.t 11)),op 80 (.bin .add (.t 79) (.k (.int .i64 1))),op 11 (.mov (.t 80))]
[2, 3, 4, 8, 11]))))))
(.seq (.dreg [op 142 (.mov (.t 8)),op 143 (.loadN (.t 3) 9),op 144 (.faddr (.t 3) 6),op 145 (.load (.t 144)),op 146 (.faddr (.t 4) 1),op 147 (.load (.t 146)),op 148 (.iaddr 2 (.t 145) (.t 147)),op 149 (.loadN (.t 148) 2),op 150 (.mov (.t 2)),op 151 (.mov (.t 8)),op 152 (.call n_proctorref13_bound [.t 143, .t 149, .t 150, .t 151]),op 6 (.mov (.t 142)),op 7 (.mov (.t 152))]
[6, 7])
.ret))))))⟩
theorem k_proctorref13_trans : chkF Tryz.prog Tryz.f73 c_proctorref13_trans = true := by kernel_rfl
abbrev pc_proctorref13_trans := @pcR n_proctorref13_trans _ _ Tryz.func73 k_proctorref13_trans
def c_proctorref13_twice : AFun := ⟨20, 2, [.t 4],
  (.seq (.reg [op 4 (.mov (.k (.bool false)))]
[0, 1])
(.seq (.seq (.reg [op 5 (.mov (.k (.int .i64 0)))]
[0, 1, 5])
(.block 0
(.loop [0, 1, 5] []
  (.seq (.seq (.reg [op 6 (.mov (.t 5)),op 7 (.mov (.t 1)),op 8 (.bin .lss (.t 6) (.t 7))]
[0, 1, 5, 8])
(.cond (.t 8)
.skip
(.exit 0)))
(.seq (.block 1
(.seq (.dreg [op 11 (.mov (.t 0)),op 12 (.mov (.t 5)),op 13 (.iaddr 1 (.t 11) (.t 12)),op 14 (.load (.t 13)),op 15 (.mov (.t 0)),op 16 (.mov (.t 1)),op 17 (.iaddr 1 (.t 15) (.t 16)),op 18 (.load (.t 17)),op 19 (.bin .eql (.t 14) (.t 18))]
[0, 1, 5, 19])
(.cond (.t 19)
(.seq (.reg [op 4 (.mov (.k (.bool true)))]
[4])
.ret)
.skip)))
(.reg [op 9 (.mov (.t 5)),op 10 (.bin .add (.t 9) (.k (.int .i64 1))),op 5 (.mov (.t 10))]
[0, 1, 5]))))))
(.seq (.reg [op 4 (.mov (.k (.bool false)))]
[4])
.ret)))⟩
theorem k_proctorref13_twice : chkF Tryz.prog Tryz.f135 c_proctorref13_twice = true := by kernel_rfl
abbrev pc_proctorref13_twice := @pcR n_proctorref13_twice _ _ Tryz.func135 k_proctorref13_twice
def c_proctorref16_Guard : AFun := ⟨32, 4, [.t 8, .t 9],
  (.seq (.reg [op 4 (.box taQ_ 9 (.t 0)),op 8 (.mov (.k (.bool false))),op 9 (.mov (.k (.int .i64 0)))]
[1, 2, 3, 4])
(.seq (.reg [op 13 (.faddr (.t 4) 8),op 14 (.load (.t 13)),op 15 (.mov (.t 1)),op 16 (.iaddr 5 (.t 14) (.t 15)),op 17 (.faddr (.t 16) 3),op 18 (.load (.t 17)),op 10 (.mov (.t 18))]
[2, 3, 4, 10])
(.seq (.seq (.reg [op 19 (.mov (.t 10)),op 20 (.bin .lss (.t 19) (.k (.int .i64 0)))]
[2, 3, 4, 10, 20])
(.cond (.t 20)
(.seq (.reg [op 8 (.mov (.k (.bool true))),op 9 (.mov (.k (.int .i64 0)))]
[8, 9])
.ret)
.skip))
(.seq (.reg [op 22 (.loadN (.t 4) 9),op 23 (.mov (.t 10)),op 24 (.mov (.t 2)),op 25 (.mov (.t 3)),op 26 (.call npV_ [.t 22, .t 23, .t 24, .t 25]),op 21 (.mov (.t 26)),op 27 (.ext (.t 21) 0),op 28 (.ext (.t 21) 1),op 11 (.alloc taV_ 4 (.agg [.int .i64 0, .int .i64 0, .str [], .bool false])),
⟨none, .store (.t 11) (.t 27) 4, none⟩,op 12 (.mov (.t 28))]
[11, 12])
(.seq (.reg [op 29 (.faddr (.t 11) 3),op 30 (.load (.t 29)),op 31 (.mov (.t 12)),op 8 (.mov (.t 30)),op 9 (.mov (.t 31))]
[8, 9])
.ret)))))⟩
theorem k_proctorref16_Guard : chkF Tryz.prog Tryz.f221 c_proctorref16_Guard = true := by kernel_rfl
abbrev pc_proctorref16_Guard := @pcR n_proctorref16_Guard _ _ Tryz.func221 k_proctorref16_Guard
def c_proctorref16_Sets : AFun := ⟨54, 4, [.t 8, .t 9],
  (.seq (.reg [op 4 (.box taQ_ 9 (.t 0)),op 8 (.nilrow taV_ 4),op 9 (.mov (.k (.int .i64 0)))]
[1, 2, 3, 4])
(.seq (.reg [op 15 (.mkrow taV_ 4 0 (.agg [.int .i64 0, .int .i64 0, .str [], .bool false]) []),op 16 (.mov (.t 3)),op 17 (.app taV_ 4 40 (.t 15) (.t 16)),op 10 (.mov (.t 17))]
[1, 2, 3, 4, 10])
(.seq (.reg [op 18 (.faddr (.t 4) 8),op 19 (.load (.t 18)),op 20 (.mov (.t 1)),op 21 (.iaddr 5 (.t 19) (.t 20)),op 22 (.faddr (.t 21) 4),op 23 (.load (.t 22)),op 11 (.mov (.t 23))]
[2, 3, 4, 10, 11])
(.seq (.seq (.reg [op 12 (.mov (.k (.int .i64 0)))]
[2, 3, 4, 10, 11, 12])
(.block 0
(.loop [2, 3, 4, 10, 11, 12] [4, 8, 15, 17]
  (.seq (.seq (.reg [op 24 (.mov (.t 12)),op 25 (.mov (.t 11)),op 26 (.len false (.t 25)),op 27 (.bin .lss (.t 24) (.t 26))]
[2, 3, 4, 10, 11, 12, 27])
(.cond (.t 27)
.skip
(.exit 0)))
(.seq (.block 1
(.seq (.dregA [op 31 (.loadN (.t 4) 9),op 32 (.mov (.t 11)),op 33 (.mov (.t 12)),op 34 (.iaddr 2 (.t 32) (.t 33)),op 35 (.faddr (.t 34) 1),op 36 (.load (.t 35)),op 37 (.mov (.t 2)),op 38 (.mov (.t 3)),op 39 (.call npV_ [.t 31, .t 36, .t 37, .t 38]),op 30 (.mov (.t 39)),op 40 (.ext (.t 30) 0),op 41 (.ext (.t 30) 1),op 13 (.alloc taV_ 4 (.agg [.int .i64 0, .int .i64 0, .str [], .bool false])),
⟨none, .store (.t 13) (.t 40) 4, none⟩,op 14 (.mov (.t 41))] 12 13 [2, 3, 4, 10, 11, 12, 13, 14, 30, 31, 32, 33, 34, 35, 36, 37, 38, 39, 40, 41]
[2, 3, 4, 10, 11, 12, 13, 14])
(.seq (.seq (.reg [op 42 (.mov (.t 14)),op 43 (.bin .neq (.t 42) (.k (.int .i64 0)))]
[2, 3, 4, 10, 11, 12, 13, 14, 43])
(.cond (.t 43)
(.seq (.reg [op 44 (.mov (.t 14)),op 8 (.nilrow taV_ 4),op 9 (.mov (.t 44))]
[8, 9])
.ret)
.skip))
(.dreg [op 45 (.mov (.t 10)),op 46 (.mov (.t 11)),op 47 (.mov (.t 12)),op 48 (.iaddr 2 (.t 46) (.t 47)),op 49 (.faddr (.t 48) 0),op 50 (.load (.t 49)),op 51 (.loadN (.t 13) 4),op 52 (.iaddr 4 (.t 45) (.t 50)),
⟨none, .store (.t 52) (.t 51) 4, none⟩]
[2, 3, 4, 10, 11, 12]))))
(.reg [op 28 (.mov (.t 12)),op 29 (.bin .add (.t 28) (.k (.int .i64 1))),op 12 (.mov (.t 29))]
[2, 3, 4, 10, 11, 12]))))))
(.seq (.reg [op 53 (.mov (.t 10)),op 8 (.mov (.t 53)),op 9 (.mov (.k (.int .i64 0)))]
[8, 9])
.ret)))))⟩
theorem k_proctorref16_Sets : chkF Tryz.prog Tryz.f222 c_proctorref16_Sets = true := by kernel_rfl
abbrev pc_proctorref16_Sets := @pcR n_proctorref16_Sets _ _ Tryz.func222 k_proctorref16_Sets
def c_proctorref16_Value : AFun := ⟨121, 4, [.cells 8 4, .t 9],
  (.seq (.reg [op 4 (.box taQ_ 9 (.t 0)),op 8 (.alloc taV_ 4 (.agg [.int .i64 0, .int .i64 0, .str [], .bool false])),op 9 (.mov (.k (.int .i64 0)))]
[1, 2, 3, 4, 8])
(.seq (.reg [op 16 (.faddr (.t 4) 7),op 17 (.load (.t 16)),op 18 (.mov (.t 1)),op 19 (.iaddr 7 (.t 17) (.t 18)),op 20 (.loadN (.t 19) 7),op 10 (.alloc t_api_Node 7 (.agg [.int .i64 0, .int .i64 0, .int .i64 0, .int .i64 0, .int .i64 0, .str [], .bool false])),
⟨none, .store (.t 10) (.t 20) 7, none⟩]
[2, 3, 4, 8, 10])
(.seq (.seq (.reg [op 21 (.faddr (.t 10) 0),op 22 (.load (.t 21)),op 23 (.bin .eql (.t 22) (.k (.int .i64 1)))]
[2, 3, 4, 8, 10, 23])
(.cond (.t 23)
(.seq (.reg [op 24 (.faddr (.t 10) 3),op 25 (.loadN (.t 24) 4),
⟨none, .store (.t 8) (.t 25) 4, none⟩,op 9 (.mov (.k (.int .i64 0)))]
[8, 9])
.ret)
.skip))
(.seq (.seq (.reg [op 26 (.faddr (.t 10) 0),op 27 (.load (.t 26)),op 28 (.bin .eql (.t 27) (.k (.int .i64 2)))]
[2, 3, 4, 8, 10, 28])
(.cond (.t 28)
(.seq (.reg [op 30 (.mov (.t 2)),op 31 (.faddr (.t 10) 1),op 32 (.load (.t 31)),op 33 (.call npG_ [.t 30, .t 32]),op 29 (.mov (.t 33)),op 34 (.ext (.t 29) 0),op 35 (.ext (.t 29) 1),op 11 (.alloc taV_ 4 (.agg [.int .i64 0, .int .i64 0, .str [], .bool false])),
⟨none, .store (.t 11) (.t 34) 4, none⟩,op 12 (.mov (.t 35))]
[4, 8, 10, 11, 12])
(.seq (.seq (.dreg [op 36 (.mov (.t 12)),op 37 (.un .not (.t 36)),op 38 (.mov (.t 37)),
⟨some 39, .faddr (.t 11) 0, (some (38, false))⟩,
⟨some 40, .load (.t 39), (some (38, false))⟩,
⟨some 41, .faddr (.t 4) 2, (some (38, false))⟩,
⟨some 42, .load (.t 41), (some (38, false))⟩,
⟨some 43, .faddr (.t 10) 1, (some (38, false))⟩,
⟨some 44, .load (.t 43), (some (38, false))⟩,
⟨some 45, .iaddr 3 (.t 42) (.t 44), (some (38, false))⟩,
⟨some 46, .faddr (.t 45) 2, (some (38, false))⟩,
⟨some 47, .load (.t 46), (some (38, false))⟩,
⟨some 48, .bin .neq (.t 40) (.t 47), (some (38, false))⟩,op 49 (.pick (.t 38) (.k (.bool true)) (.t 48))]
[8, 11, 49])
(.cond (.t 49)
(.seq (.reg [op 50 (.build [.int .i64 0, .int .i64 0, .str [], .bool false] []),
⟨none, .store (.t 8) (.t 50) 4, none⟩,op 9 (.mov (.k (.int .i64 9)))]
[8, 9])
.ret)
.skip))
(.seq (.reg [op 51 (.loadN (.t 11) 4),
⟨none, .store (.t 8) (.t 51) 4, none⟩,op 9 (.mov (.k (.int .i64 0)))]
[8, 9])
.ret)))
.skip))
(.seq (.seq (.reg [op 52 (.faddr (.t 10) 0),op 53 (.load (.t 52)),op 54 (.bin .eql (.t 53) (.k (.int .i64 3)))]
[2, 3, 4, 8, 10, 54])
(.cond (.t 54)
(.seq (.reg [op 55 (.mov (.t 3)),op 56 (.faddr (.t 10) 1),op 57 (.load (.t 56)),op 58 (.iaddr 4 (.t 55) (.t 57)),op 59 (.loadN (.t 58) 4),
⟨none, .store (.t 8) (.t 59) 4, none⟩,op 9 (.mov (.k (.int .i64 0)))]
[8, 9])
.ret)
.skip))
(.seq (.reg [op 61 (.loadN (.t 4) 9),op 62 (.faddr (.t 10) 1),op 63 (.load (.t 62)),op 64 (.mov (.t 2)),op 65 (.mov (.t 3)),op 66 (.call npV_ [.t 61, .t 63, .t 64, .t 65]),op 60 (.mov (.t 66)),op 67 (.ext (.t 60) 0),op 68 (.ext (.t 60) 1),op 13 (.alloc taV_ 4 (.agg [.int .i64 0, .int .i64 0, .str [], .bool false])),
⟨none, .store (.t 13) (.t 67) 4, none⟩,op 14 (.mov (.t 68))]
[2, 3, 4, 8, 10, 13, 14])
(.seq (.seq (.reg [op 69 (.mov (.t 14)),op 70 (.bin .neq (.t 69) (.k (.int .i64 0)))]
[2, 3, 4, 8, 10, 13, 14, 70])
(.cond (.t 70)
(.seq (.reg [op 71 (.build [.int .i64 0, .int .i64 0, .str [], .bool false] []),op 72 (.mov (.t 14)),
⟨none, .store (.t 8) (.t 71) 4, none⟩,op 9 (.mov (.t 72))]
[8, 9])
.ret)
.skip))
(.seq (.seq (.reg [op 73 (.faddr (.t 10) 0),op 74 (.load (.t 73)),op 75 (.bin .leq (.t 74) (.k (.int .i64 5)))]
[2, 3, 4, 8, 10, 13, 75])
(.cond (.t 75)
(.seq (.reg [op 76 (.faddr (.t 10) 0),op 77 (.load (.t 76)),op 78 (.loadN (.t 13) 4),op 79 (.build [.int .i64 0, .int .i64 0, .str [], .bool false] []),op 80 (.call npO_ [.t 77, .t 78, .t 79]),op 81 (.ext (.t 80) 0),op 82 (.ext (.t 80) 1),
⟨none, .store (.t 8) (.t 81) 4, none⟩,op 9 (.mov (.t 82))]
[8, 9])
.ret)
.skip))
(.seq (.seq (.reg [op 83 (.faddr (.t 10) 0),op 84 (.load (.t 83)),op 85 (.bin .eql (.t 84) (.k (.int .i64 6))),op 86 (.mov (.t 85)),
⟨some 87, .faddr (.t 13) 3, (some (86, true))⟩,
⟨some 88, .load (.t 87), (some (86, true))⟩,
⟨some 89, .un .not (.t 88), (some (86, true))⟩,op 90 (.pick (.t 86) (.t 89) (.k (.bool false))),op 91 (.mov (.t 90)),
⟨some 92, .faddr (.t 10) 0, (some (91, false))⟩,
⟨some 93, .load (.t 92), (some (91, false))⟩,
⟨some 94, .bin .eql (.t 93) (.k (.int .i64 7)), (some (91, false))⟩,
⟨some 95, .mov (.t 94), (some (91, false))⟩,
⟨some 96, .faddr (.t 13) 3, (some (95, true))⟩,
⟨some 97, .load (.t 96), (some (95, true))⟩,
⟨some 98, .pick (.t 95) (.t 97) (.k (.bool false)), (some (91, false))⟩,op 99 (.pick (.t 91) (.k (.bool true)) (.t 98))]
[2, 3, 4, 8, 10, 13, 99])
(.cond (.t 99)
(.seq (.reg [op 100 (.loadN (.t 13) 4),
⟨none, .store (.t 8) (.t 100) 4, none⟩,op 9 (.mov (.k (.int .i64 0)))]
[8, 9])
.ret)
.skip))
(.seq (.reg [op 102 (.loadN (.t 4) 9),op 103 (.faddr (.t 10) 2),op 104 (.load (.t 103)),op 105 (.mov (.t 2)),op 106 (.mov (.t 3)),op 107 (.call npV_ [.t 102, .t 104, .t 105, .t 106]),op 101 (.mov (.t 107)),op 108 (.ext (.t 101) 0),op 109 (.ext (.t 101) 1),op 15 (.alloc taV_ 4 (.agg [.int .i64 0, .int .i64 0, .str [], .bool false])),
⟨none, .store (.t 15) (.t 108) 4, none⟩,op 14 (.mov (.t 109))]
[8, 10, 13, 14, 15])
(.seq (.seq (.reg [op 110 (.mov (.t 14)),op 111 (.bin .neq (.t 110) (.k (.int .i64 0)))]
[8, 10, 13, 14, 15, 111])
(.cond (.t 111)
(.seq (.reg [op 112 (.build [.int .i64 0, .int .i64 0, .str [], .bool false] []),op 113 (.mov (.t 14)),
⟨none, .store (.t 8) (.t 112) 4, none⟩,op 9 (.mov (.t 113))]
[8, 9])
.ret)
.skip))
(.seq (.reg [op 114 (.faddr (.t 10) 0),op 115 (.load (.t 114)),op 116 (.loadN (.t 13) 4),op 117 (.loadN (.t 15) 4),op 118 (.call npO_ [.t 115, .t 116, .t 117]),op 119 (.ext (.t 118) 0),op 120 (.ext (.t 118) 1),
⟨none, .store (.t 8) (.t 119) 4, none⟩,op 9 (.mov (.t 120))]
[8, 9])
.ret))))))))))))⟩
theorem k_proctorref16_Value : chkF Tryz.prog Tryz.f164 c_proctorref16_Value = true := by kernel_rfl
abbrev pc_proctorref16_Value := @pcR npV_ _ _ Tryz.func164 k_proctorref16_Value
def c_proctorref17_All : AFun := ⟨29, 2, [.t 4],
  (.seq (.reg [op 2 (.box taQ_ 9 (.t 0)),op 3 (.box t_api_Event 2 (.t 1)),op 4 (.nilrow taH_ 3)]
[2, 3])
(.seq (.reg [op 5 (.nilrow taH_ 3)]
[2, 3, 5])
(.seq (.seq (.reg [op 6 (.mov (.k (.int .i64 0)))]
[2, 3, 5, 6])
(.block 0
(.loop [2, 3, 5, 6] [2, 3, 4, 5, 27]
  (.seq (.seq (.reg [op 9 (.mov (.t 6)),op 10 (.faddr (.t 2) 6),op 11 (.load (.t 10)),op 12 (.len false (.t 11)),op 13 (.bin .lss (.t 9) (.t 12))]
[2, 3, 5, 6, 13])
(.cond (.t 13)
.skip
(.exit 0)))
(.seq (.block 1
(.seq (.reg [op 17 (.loadN (.t 2) 9),op 18 (.mov (.t 6)),op 19 (.loadN (.t 3) 2),op 20 (.call n_proctorref17_Hit [.t 17, .t 18, .t 19]),op 16 (.mov (.t 20)),op 21 (.ext (.t 16) 0),op 22 (.ext (.t 16) 1),op 7 (.alloc taH_ 3 (.agg [.int .i64 0, .nils, .nils])),
⟨none, .store (.t 7) (.t 21) 3, none⟩,op 8 (.mov (.t 22))]
[2, 3, 5, 6, 7, 8])
(.seq (.reg [op 23 (.mov (.t 8))]
[2, 3, 5, 6, 7, 23])
(.cond (.t 23)
(.reg [op 24 (.mov (.t 5)),op 25 (.loadN (.t 7) 3),op 26 (.mkrow taH_ 3 1 (.agg [.int .i64 0, .nils, .nils]) [(0, .t 25)]),op 27 (.app taH_ 3 56 (.t 24) (.t 26)),op 5 (.mov (.t 27))]
[2, 3, 5, 6])
.skip))))
(.reg [op 14 (.mov (.t 6)),op 15 (.bin .add (.t 14) (.k (.int .i64 1))),op 6 (.mov (.t 15))]
[2, 3, 5, 6]))))))
(.seq (.reg [op 28 (.mov (.t 5)),op 4 (.mov (.t 28))]
[4])
.ret))))⟩
theorem k_proctorref17_All : chkF Tryz.prog Tryz.f43 c_proctorref17_All = true := by kernel_rfl
abbrev pc_proctorref17_All := @pcR n_proctorref17_All _ _ Tryz.func43 k_proctorref17_All
def c_proctorref17_Hit : AFun := ⟨121, 3, [.cells 6 3, .t 7],
  (.seq (.reg [op 3 (.box taQ_ 9 (.t 0)),op 5 (.box t_api_Event 2 (.t 2)),op 6 (.alloc taH_ 3 (.agg [.int .i64 0, .nils, .nils])),op 7 (.mov (.k (.bool false)))]
[1, 3, 5, 6])
(.seq (.reg [op 17 (.faddr (.t 3) 6),op 18 (.load (.t 17)),op 19 (.mov (.t 1)),op 20 (.iaddr 2 (.t 18) (.t 19)),op 21 (.loadN (.t 20) 2),op 8 (.alloc taS_ 2 (.agg [.int .i64 0, .nils])),
⟨none, .store (.t 8) (.t 21) 2, none⟩]
[1, 3, 5, 6, 8])
(.seq (.reg [op 22 (.build [.int .i64 0, .nils, .nils] []),op 9 (.alloc taH_ 3 (.agg [.int .i64 0, .nils, .nils])),
⟨none, .store (.t 9) (.t 22) 3, none⟩]
[1, 3, 5, 6, 8, 9])
(.seq (.seq (.dreg [op 23 (.faddr (.t 3) 1),op 24 (.load (.t 23)),op 25 (.faddr (.t 8) 0),op 26 (.load (.t 25)),op 27 (.iaddr 2 (.t 24) (.t 26)),op 28 (.faddr (.t 27) 0),op 29 (.load (.t 28)),op 30 (.faddr (.t 5) 0),op 31 (.load (.t 30)),op 32 (.bin .neq (.t 29) (.t 31)),op 33 (.mov (.t 32)),
⟨some 34, .faddr (.t 8) 1, (some (33, false))⟩,
⟨some 35, .load (.t 34), (some (33, false))⟩,
⟨some 36, .len false (.t 35), (some (33, false))⟩,
⟨some 37, .faddr (.t 5) 1, (some (33, false))⟩,
⟨some 38, .load (.t 37), (some (33, false))⟩,
⟨some 39, .len false (.t 38), (some (33, false))⟩,
⟨some 40, .bin .neq (.t 36) (.t 39), (some (33, false))⟩,op 41 (.pick (.t 33) (.k (.bool true)) (.t 40))]
[1, 5, 6, 8, 9, 41])
(.cond (.t 41)
(.seq (.reg [op 42 (.loadN (.t 9) 3),
⟨none, .store (.t 6) (.t 42) 3, none⟩,op 7 (.mov (.k (.bool false)))]
[6, 7])
.ret)
.skip))
(.seq (.reg [op 10 (.nilrow ta10 5)]
[1, 5, 6, 8, 9, 10])
(.seq (.reg [op 11 (.nilrow ta10 5)]
[1, 5, 6, 8, 9, 10, 11])
(.seq (.seq (.reg [op 12 (.mov (.k (.int .i64 0)))]
[1, 5, 6, 8, 9, 10, 11, 12])
(.block 0
(.loop [1, 5, 6, 8, 9, 10, 11, 12] [3, 5, 6, 8, 9, 36, 39, 10, 11]
  (.seq (.seq (.reg [op 43 (.mov (.t 12)),op 44 (.faddr (.t 8) 1),op 45 (.load (.t 44)),op 46 (.len false (.t 45)),op 47 (.bin .lss (.t 43) (.t 46))]
[1, 5, 6, 8, 9, 10, 11, 12, 47])
(.cond (.t 47)
.skip
(.exit 0)))
(.seq (.block 1
(.seq (.reg [op 50 (.faddr (.t 8) 1),op 51 (.load (.t 50)),op 52 (.mov (.t 12)),op 53 (.iaddr 6 (.t 51) (.t 52)),op 54 (.loadN (.t 53) 6),op 13 (.alloc t_api_Arg 6 (.agg [.int .i64 0, .int .i64 0, .int .i64 0, .int .i64 0, .str [], .bool false])),
⟨none, .store (.t 13) (.t 54) 6, none⟩]
[1, 5, 6, 8, 9, 10, 11, 12, 13])
(.seq (.dreg [op 55 (.faddr (.t 13) 1),op 56 (.load (.t 55)),op 57 (.faddr (.t 5) 1),op 58 (.load (.t 57)),op 59 (.mov (.t 12)),op 60 (.iaddr 4 (.t 58) (.t 59)),op 61 (.loadN (.t 60) 4),op 62 (.build [.int .i64 0, .int .i64 0, .int .i64 0, .str [], .bool false] [(0, 1, .t 56), (1, 4, .t 61)]),op 63 (.mkrow ta10 5 1 (.agg [.int .i64 0, .int .i64 0, .int .i64 0, .str [], .bool false]) [(0, .t 62)]),op 14 (.mov (.t 63))]
[1, 5, 6, 8, 9, 10, 11, 12, 13, 14])
(.seq (.seq (.dreg [op 64 (.faddr (.t 13) 0),op 65 (.load (.t 64)),op 66 (.bin .eql (.t 65) (.k (.int .i64 1))),op 67 (.mov (.t 66)),
⟨some 68, .faddr (.t 13) 2, (some (67, true))⟩,
⟨some 69, .loadN (.t 68) 4, (some (67, true))⟩,
⟨some 70, .faddr (.t 5) 1, (some (67, true))⟩,
⟨some 71, .load (.t 70), (some (67, true))⟩,
⟨some 72, .mov (.t 12), (some (67, true))⟩,
⟨some 73, .iaddr 4 (.t 71) (.t 72), (some (67, true))⟩,
⟨some 74, .loadN (.t 73) 4, (some (67, true))⟩,
⟨some 75, .eqA true [0, 0, 1, 2] (.t 69) (.t 74), (some (67, true))⟩,op 76 (.pick (.t 67) (.t 75) (.k (.bool false)))]
[1, 5, 6, 8, 9, 10, 11, 12, 13, 14, 76])
(.cond (.t 76)
(.seq (.reg [op 77 (.loadN (.t 9) 3),
⟨none, .store (.t 6) (.t 77) 3, none⟩,op 7 (.mov (.k (.bool false)))]
[6, 7])
.ret)
.skip))
(.seq (.seq (.reg [op 78 (.faddr (.t 13) 0),op 79 (.load (.t 78)),op 80 (.bin .eql (.t 79) (.k (.int .i64 2)))]
[1, 5, 6, 8, 9, 10, 11, 12, 13, 14, 80])
(.cond (.t 80)
(.seq (.seq (.reg [op 81 (.mov (.t 10)),op 82 (.mov (.t 14)),op 83 (.call n_proctorref05_Fits [.t 81, .t 82]),op 84 (.un .not (.t 83))]
[1, 5, 6, 8, 9, 10, 11, 12, 13, 14, 84])
(.cond (.t 84)
(.seq (.reg [op 85 (.loadN (.t 9) 3),
⟨none, .store (.t 6) (.t 85) 3, none⟩,op 7 (.mov (.k (.bool false)))]
[6, 7])
.ret)
.skip))
(.reg [op 86 (.mov (.t 10)),op 87 (.mov (.t 14)),op 88 (.call n_proctorref05_Union [.t 86, .t 87]),op 10 (.mov (.t 88))]
[1, 5, 6, 8, 9, 10, 11, 12, 13, 14]))
.skip))
(.seq (.reg [op 89 (.faddr (.t 13) 0),op 90 (.load (.t 89)),op 91 (.bin .eql (.t 90) (.k (.int .i64 3)))]
[1, 5, 6, 8, 9, 10, 11, 12, 13, 14, 91])
(.cond (.t 91)
(.seq (.reg [op 93 (.mov (.t 11)),op 94 (.faddr (.t 13) 1),op 95 (.load (.t 94)),op 96 (.call npG_ [.t 93, .t 95]),op 92 (.mov (.t 96)),op 97 (.ext (.t 92) 0),op 98 (.ext (.t 92) 1),op 15 (.alloc taV_ 4 (.agg [.int .i64 0, .int .i64 0, .str [], .bool false])),
⟨none, .store (.t 15) (.t 97) 4, none⟩,op 16 (.mov (.t 98))]
[1, 5, 6, 8, 9, 10, 11, 12, 14, 15, 16])
(.seq (.seq (.dreg [op 99 (.mov (.t 16)),op 100 (.mov (.t 99)),
⟨some 101, .loadN (.t 15) 4, (some (100, true))⟩,
⟨some 102, .faddr (.t 5) 1, (some (100, true))⟩,
⟨some 103, .load (.t 102), (some (100, true))⟩,
⟨some 104, .mov (.t 12), (some (100, true))⟩,
⟨some 105, .iaddr 4 (.t 103) (.t 104), (some (100, true))⟩,
⟨some 106, .loadN (.t 105) 4, (some (100, true))⟩,
⟨some 107, .eqA true [0, 0, 1, 2] (.t 101) (.t 106), (some (100, true))⟩,op 108 (.pick (.t 100) (.t 107) (.k (.bool false)))]
[1, 5, 6, 8, 9, 10, 11, 12, 14, 16, 108])
(.cond (.t 108)
(.seq (.reg [op 109 (.loadN (.t 9) 3),
⟨none, .store (.t 6) (.t 109) 3, none⟩,op 7 (.mov (.k (.bool false)))]
[6, 7])
.ret)
.skip))
(.seq (.reg [op 110 (.mov (.t 16)),op 111 (.un .not (.t 110))]
[1, 5, 6, 8, 9, 10, 11, 12, 14, 111])
(.cond (.t 111)
(.reg [op 112 (.mov (.t 11)),op 113 (.mov (.t 14)),op 114 (.iaddr 5 (.t 113) (.k (.int .i64 0))),op 115 (.loadN (.t 114) 5),op 116 (.call n_proctorref17_put [.t 112, .t 115]),op 11 (.mov (.t 116))]
[1, 5, 6, 8, 9, 10, 11, 12])
.skip))))
.skip)))))))
(.reg [op 48 (.mov (.t 12)),op 49 (.bin .add (.t 48) (.k (.int .i64 1))),op 12 (.mov (.t 49))]
[1, 5, 6, 8, 9, 10, 11, 12]))))))
(.seq (.reg [op 117 (.mov (.t 1)),op 118 (.mov (.t 10)),op 119 (.mov (.t 11)),op 120 (.build [.int .i64 0, .nils, .nils] [(0, 1, .t 117), (1, 1, .t 118), (2, 1, .t 119)]),
⟨none, .store (.t 6) (.t 120) 3, none⟩,op 7 (.mov (.k (.bool true)))]
[6, 7])
.ret))))))))⟩
theorem k_proctorref17_Hit : chkF Tryz.prog Tryz.f79 c_proctorref17_Hit = true := by kernel_rfl
abbrev pc_proctorref17_Hit := @pcR n_proctorref17_Hit _ _ Tryz.func79 k_proctorref17_Hit
def c_proctorref17_Under : AFun := ⟨28, 2, [.t 4],
  (.seq (.reg [op 4 (.nilrow taH_ 3)]
[0, 1])
(.seq (.reg [op 5 (.nilrow taH_ 3)]
[0, 1, 5])
(.seq (.seq (.reg [op 6 (.mov (.k (.int .i64 0)))]
[0, 1, 5, 6])
(.block 0
(.loop [0, 1, 5, 6] [4, 5, 26]
  (.seq (.seq (.reg [op 7 (.mov (.t 6)),op 8 (.mov (.t 0)),op 9 (.len false (.t 8)),op 10 (.bin .lss (.t 7) (.t 9))]
[0, 1, 5, 6, 10])
(.cond (.t 10)
.skip
(.exit 0)))
(.seq (.block 1
(.seq (.reg [op 13 (.mov (.t 0)),op 14 (.mov (.t 6)),op 15 (.iaddr 3 (.t 13) (.t 14)),op 16 (.faddr (.t 15) 1),op 17 (.load (.t 16)),op 18 (.mov (.t 1)),op 19 (.call n_proctorref05_Under [.t 17, .t 18])]
[0, 1, 5, 6, 19])
(.cond (.t 19)
(.reg [op 20 (.mov (.t 5)),op 21 (.mov (.t 0)),op 22 (.mov (.t 6)),op 23 (.iaddr 3 (.t 21) (.t 22)),op 24 (.loadN (.t 23) 3),op 25 (.mkrow taH_ 3 1 (.agg [.int .i64 0, .nils, .nils]) [(0, .t 24)]),op 26 (.app taH_ 3 56 (.t 20) (.t 25)),op 5 (.mov (.t 26))]
[0, 1, 5, 6])
.skip)))
(.reg [op 11 (.mov (.t 6)),op 12 (.bin .add (.t 11) (.k (.int .i64 1))),op 6 (.mov (.t 12))]
[0, 1, 5, 6]))))))
(.seq (.reg [op 27 (.mov (.t 5)),op 4 (.mov (.t 27))]
[4])
.ret))))⟩
theorem k_proctorref17_Under : chkF Tryz.prog Tryz.f42 c_proctorref17_Under = true := by kernel_rfl
abbrev pc_proctorref17_Under := @pcR n_proctorref17_Under _ _ Tryz.func42 k_proctorref17_Under
def c_proctorref17_put : AFun := ⟨38, 2, [.t 4],
  (.seq (.reg [op 3 (.box ta10 5 (.t 1)),op 4 (.nilrow ta10 5)]
[0, 3])
(.seq (.reg [op 7 (.mov (.t 0)),op 8 (.len false (.t 7)),op 5 (.mov (.t 8))]
[0, 3, 5])
(.seq (.block 0
(.loop [0, 3, 5] [3, 4, 8]
  (.seq (.seq (.dreg [op 9 (.mov (.t 5)),op 10 (.bin .gtr (.t 9) (.k (.int .i64 0))),op 11 (.mov (.t 10)),
⟨some 12, .mov (.t 0), (some (11, true))⟩,
⟨some 13, .mov (.t 5), (some (11, true))⟩,
⟨some 14, .bin .sub (.t 13) (.k (.int .i64 1)), (some (11, true))⟩,
⟨some 15, .iaddr 5 (.t 12) (.t 14), (some (11, true))⟩,
⟨some 16, .faddr (.t 15) 0, (some (11, true))⟩,
⟨some 17, .load (.t 16), (some (11, true))⟩,
⟨some 18, .faddr (.t 3) 0, (some (11, true))⟩,
⟨some 19, .load (.t 18), (some (11, true))⟩,
⟨some 20, .bin .gtr (.t 17) (.t 19), (some (11, true))⟩,op 21 (.pick (.t 11) (.t 20) (.k (.bool false)))]
[0, 3, 5, 21])
(.cond (.t 21)
.skip
(.exit 0)))
(.block 1
(.reg [op 22 (.mov (.t 5)),op 23 (.bin .sub (.t 22) (.k (.int .i64 1))),op 5 (.mov (.t 23))]
[0, 3, 5])))))
(.seq (.reg [op 24 (.mkrow ta10 5 0 (.agg [.int .i64 0, .int .i64 0, .int .i64 0, .str [], .bool false]) []),op 25 (.mov (.t 0)),op 26 (.mov (.t 5)),op 27 (.slc 5 (.t 25) none (some (.t 26))),op 28 (.app ta10 5 48 (.t 24) (.t 27)),op 6 (.mov (.t 28))]
[0, 3, 5, 6])
(.seq (.reg [op 29 (.mov (.t 6)),op 30 (.loadN (.t 3) 5),op 31 (.mkrow ta10 5 1 (.agg [.int .i64 0, .int .i64 0, .int .i64 0, .str [], .bool false]) [(0, .t 30)]),op 32 (.app ta10 5 48 (.t 29) (.t 31)),op 6 (.mov (.t 32))]
[0, 5, 6])
(.seq (.reg [op 33 (.mov (.t 6)),op 34 (.mov (.t 0)),op 35 (.mov (.t 5)),op 36 (.slc 5 (.t 34) (some (.t 35)) none),op 37 (.app ta10 5 48 (.t 33) (.t 36)),op 4 (.mov (.t 37))]
[4])
.ret))))))⟩
theorem k_proctorref17_put : chkF Tryz.prog Tryz.f144 c_proctorref17_put = true := by kernel_rfl
abbrev pc_proctorref17_put := @pcR n_proctorref17_put _ _ Tryz.func144 k_proctorref17_put
def c_proctorref18_Less : AFun := ⟨59, 2, [.t 4],
  (.seq (.reg [op 2 (.box taC_ 2 (.t 0)),op 3 (.box taC_ 2 (.t 1)),op 4 (.mov (.k (.bool false)))]
[2, 3])
(.seq (.seq (.reg [op 6 (.faddr (.t 2) 0),op 7 (.load (.t 6)),op 8 (.faddr (.t 3) 0),op 9 (.load (.t 8)),op 10 (.bin .neq (.t 7) (.t 9))]
[2, 3, 10])
(.cond (.t 10)
(.seq (.reg [op 11 (.faddr (.t 2) 0),op 12 (.load (.t 11)),op 13 (.faddr (.t 3) 0),op 14 (.load (.t 13)),op 15 (.bin .lss (.t 12) (.t 14)),op 4 (.mov (.t 15))]
[4])
.ret)
.skip))
(.seq (.seq (.reg [op 5 (.mov (.k (.int .i64 0)))]
[2, 3, 5])
(.block 0
(.loop [2, 3, 5] [2, 3]
  (.seq (.seq (.reg [op 16 (.mov (.t 5)),op 17 (.faddr (.t 2) 1),op 18 (.load (.t 17)),op 19 (.len false (.t 18)),op 20 (.bin .lss (.t 16) (.t 19)),op 21 (.mov (.t 20)),
⟨some 22, .mov (.t 5), (some (21, true))⟩,
⟨some 23, .faddr (.t 3) 1, (some (21, true))⟩,
⟨some 24, .load (.t 23), (some (21, true))⟩,
⟨some 25, .len false (.t 24), (some (21, true))⟩,
⟨some 26, .bin .lss (.t 22) (.t 25), (some (21, true))⟩,op 27 (.pick (.t 21) (.t 26) (.k (.bool false)))]
[2, 3, 5, 27])
(.cond (.t 27)
.skip
(.exit 0)))
(.seq (.block 1
(.seq (.dreg [op 30 (.faddr (.t 2) 1),op 31 (.load (.t 30)),op 32 (.mov (.t 5)),op 33 (.iaddr 4 (.t 31) (.t 32)),op 34 (.loadN (.t 33) 4),op 35 (.faddr (.t 3) 1),op 36 (.load (.t 35)),op 37 (.mov (.t 5)),op 38 (.iaddr 4 (.t 36) (.t 37)),op 39 (.loadN (.t 38) 4),op 40 (.eqA true [0, 0, 1, 2] (.t 34) (.t 39))]
[2, 3, 5, 40])
(.cond (.t 40)
(.seq (.dreg [op 41 (.faddr (.t 2) 1),op 42 (.load (.t 41)),op 43 (.mov (.t 5)),op 44 (.iaddr 4 (.t 42) (.t 43)),op 45 (.loadN (.t 44) 4),op 46 (.faddr (.t 3) 1),op 47 (.load (.t 46)),op 48 (.mov (.t 5)),op 49 (.iaddr 4 (.t 47) (.t 48)),op 50 (.loadN (.t 49) 4),op 51 (.call npL_ [.t 45, .t 50]),op 4 (.mov (.t 51))]
[4])
.ret)
.skip)))
(.reg [op 28 (.mov (.t 5)),op 29 (.bin .add (.t 28) (.k (.int .i64 1))),op 5 (.mov (.t 29))]
[2, 3, 5]))))))
(.seq (.reg [op 52 (.faddr (.t 2) 1),op 53 (.load (.t 52)),op 54 (.len false (.t 53)),op 55 (.faddr (.t 3) 1),op 56 (.load (.t 55)),op 57 (.len false (.t 56)),op 58 (.bin .lss (.t 54) (.t 57)),op 4 (.mov (.t 58))]
[4])
.ret))))⟩
theorem k_proctorref18_Less : chkF Tryz.prog Tryz.f112 c_proctorref18_Less = true := by kernel_rfl
abbrev pc_proctorref18_Less := @pcR np11 _ _ Tryz.func112 k_proctorref18_Less
def c_proctorref18_One : AFun := ⟨15, 2, [.t 4],
  (.seq (.reg [op 2 (.box taC_ 2 (.t 0)),op 3 (.box taC_ 2 (.t 1)),op 4 (.mov (.k (.bool false)))]
[2, 3])
(.seq (.reg [op 5 (.loadN (.t 2) 2),op 6 (.loadN (.t 3) 2),op 7 (.call np11 [.t 5, .t 6]),op 8 (.un .not (.t 7)),op 9 (.mov (.t 8)),
⟨some 10, .loadN (.t 3) 2, (some (9, true))⟩,
⟨some 11, .loadN (.t 2) 2, (some (9, true))⟩,
⟨some 12, .call np11 [.t 10, .t 11], (some (9, true))⟩,
⟨some 13, .un .not (.t 12), (some (9, true))⟩,op 14 (.pick (.t 9) (.t 13) (.k (.bool false))),op 4 (.mov (.t 14))]
[4])
.ret))⟩
theorem k_proctorref18_One : chkF Tryz.prog Tryz.f59 c_proctorref18_One = true := by kernel_rfl
abbrev pc_proctorref18_One := @pcR n_proctorref18_One _ _ Tryz.func59 k_proctorref18_One
def c_proctorref18_Put : AFun := ⟨48, 2, [.t 4],
  (.seq (.reg [op 3 (.box taC_ 2 (.t 1)),op 4 (.nilrow taC_ 2)]
[0, 3])
(.seq (.reg [op 7 (.mov (.t 0)),op 8 (.len false (.t 7)),op 5 (.mov (.t 8))]
[0, 3, 5])
(.seq (.block 0
(.loop [0, 3, 5] [3, 4, 8]
  (.seq (.seq (.dreg [op 9 (.mov (.t 5)),op 10 (.bin .gtr (.t 9) (.k (.int .i64 0))),op 11 (.mov (.t 10)),
⟨some 12, .loadN (.t 3) 2, (some (11, true))⟩,
⟨some 13, .mov (.t 0), (some (11, true))⟩,
⟨some 14, .mov (.t 5), (some (11, true))⟩,
⟨some 15, .bin .sub (.t 14) (.k (.int .i64 1)), (some (11, true))⟩,
⟨some 16, .iaddr 2 (.t 13) (.t 15), (some (11, true))⟩,
⟨some 17, .loadN (.t 16) 2, (some (11, true))⟩,
⟨some 18, .call np11 [.t 12, .t 17], (some (11, true))⟩,op 19 (.pick (.t 11) (.t 18) (.k (.bool false)))]
[0, 3, 5, 19])
(.cond (.t 19)
.skip
(.exit 0)))
(.block 1
(.reg [op 20 (.mov (.t 5)),op 21 (.bin .sub (.t 20) (.k (.int .i64 1))),op 5 (.mov (.t 21))]
[0, 3, 5])))))
(.seq (.seq (.dreg [op 22 (.mov (.t 5)),op 23 (.bin .gtr (.t 22) (.k (.int .i64 0))),op 24 (.mov (.t 23)),
⟨some 25, .mov (.t 0), (some (24, true))⟩,
⟨some 26, .mov (.t 5), (some (24, true))⟩,
⟨some 27, .bin .sub (.t 26) (.k (.int .i64 1)), (some (24, true))⟩,
⟨some 28, .iaddr 2 (.t 25) (.t 27), (some (24, true))⟩,
⟨some 29, .loadN (.t 28) 2, (some (24, true))⟩,
⟨some 30, .loadN (.t 3) 2, (some (24, true))⟩,
⟨some 31, .call n_proctorref18_One [.t 29, .t 30], (some (24, true))⟩,op 32 (.pick (.t 24) (.t 31) (.k (.bool false)))]
[0, 3, 5, 32])
(.cond (.t 32)
(.seq (.reg [op 33 (.mov (.t 0)),op 4 (.mov (.t 33))]
[4])
.ret)
.skip))
(.seq (.reg [op 34 (.mkrow taC_ 2 0 (.agg [.int .i64 0, .nils]) []),op 35 (.mov (.t 0)),op 36 (.mov (.t 5)),op 37 (.slc 2 (.t 35) none (some (.t 36))),op 38 (.app taC_ 2 32 (.t 34) (.t 37)),op 6 (.mov (.t 38))]
[0, 3, 5, 6])
(.seq (.reg [op 39 (.mov (.t 6)),op 40 (.loadN (.t 3) 2),op 41 (.mkrow taC_ 2 1 (.agg [.int .i64 0, .nils]) [(0, .t 40)]),op 42 (.app taC_ 2 32 (.t 39) (.t 41)),op 6 (.mov (.t 42))]
[0, 5, 6])
(.seq (.reg [op 43 (.mov (.t 6)),op 44 (.mov (.t 0)),op 45 (.mov (.t 5)),op 46 (.slc 2 (.t 44) (some (.t 45)) none),op 47 (.app taC_ 2 32 (.t 43) (.t 46)),op 4 (.mov (.t 47))]
[4])
.ret)))))))⟩
theorem k_proctorref18_Put : chkF Tryz.prog Tryz.f54 c_proctorref18_Put = true := by kernel_rfl
abbrev pc_proctorref18_Put := @pcR n_proctorref18_Put _ _ Tryz.func54 k_proctorref18_Put
def c_proctorref18_Same : AFun := ⟨27, 2, [.t 4],
  (.seq (.reg [op 4 (.mov (.k (.bool false)))]
[0, 1])
(.seq (.seq (.reg [op 6 (.mov (.t 0)),op 7 (.len false (.t 6)),op 8 (.mov (.t 1)),op 9 (.len false (.t 8)),op 10 (.bin .neq (.t 7) (.t 9))]
[0, 1, 10])
(.cond (.t 10)
(.seq (.reg [op 4 (.mov (.k (.bool false)))]
[4])
.ret)
.skip))
(.seq (.seq (.reg [op 5 (.mov (.k (.int .i64 0)))]
[0, 1, 5])
(.block 0
(.loop [0, 1, 5] [7, 9]
  (.seq (.seq (.reg [op 11 (.mov (.t 5)),op 12 (.mov (.t 0)),op 13 (.len false (.t 12)),op 14 (.bin .lss (.t 11) (.t 13))]
[0, 1, 5, 14])
(.cond (.t 14)
.skip
(.exit 0)))
(.seq (.block 1
(.seq (.dreg [op 17 (.mov (.t 0)),op 18 (.mov (.t 5)),op 19 (.iaddr 2 (.t 17) (.t 18)),op 20 (.loadN (.t 19) 2),op 21 (.mov (.t 1)),op 22 (.mov (.t 5)),op 23 (.iaddr 2 (.t 21) (.t 22)),op 24 (.loadN (.t 23) 2),op 25 (.call n_proctorref18_One [.t 20, .t 24]),op 26 (.un .not (.t 25))]
[0, 1, 5, 26])
(.cond (.t 26)
(.seq (.reg [op 4 (.mov (.k (.bool false)))]
[4])
.ret)
.skip)))
(.reg [op 15 (.mov (.t 5)),op 16 (.bin .add (.t 15) (.k (.int .i64 1))),op 5 (.mov (.t 16))]
[0, 1, 5]))))))
(.seq (.reg [op 4 (.mov (.k (.bool true)))]
[4])
.ret))))⟩
theorem k_proctorref18_Same : chkF Tryz.prog Tryz.f13 c_proctorref18_Same = true := by kernel_rfl
abbrev pc_proctorref18_Same := @pcR n_proctorref18_Same _ _ Tryz.func13 k_proctorref18_Same
def c_proctorref19_All : AFun := ⟨56, 3, [.t 6, .t 7],
  (.seq (.reg [op 3 (.box taQ_ 9 (.t 0)),op 6 (.nilrow taC_ 2),op 7 (.mov (.k (.int .i64 0)))]
[1, 2, 3])
(.seq (.reg [op 8 (.nilrow taC_ 2)]
[1, 2, 3, 8])
(.seq (.reg [op 9 (.mov (.k (.int .i64 0)))]
[1, 2, 3, 8, 9])
(.seq (.seq (.reg [op 10 (.mov (.k (.int .i64 0)))]
[1, 2, 3, 8, 9, 10])
(.block 0
(.loop [1, 2, 3, 8, 9, 10] [3, 6, 8]
  (.seq (.seq (.reg [op 14 (.mov (.t 10)),op 15 (.mov (.t 1)),op 16 (.len false (.t 15)),op 17 (.bin .lss (.t 14) (.t 16))]
[1, 2, 3, 8, 9, 10, 17])
(.cond (.t 17)
.skip
(.exit 0)))
(.seq (.block 1
(.seq (.dreg [op 21 (.loadN (.t 3) 9),op 22 (.mov (.t 1)),op 23 (.mov (.t 10)),op 24 (.iaddr 2 (.t 22) (.t 23)),op 25 (.loadN (.t 24) 2),op 26 (.mov (.t 2)),op 27 (.call n_proctorref19_One [.t 21, .t 25, .t 26]),op 20 (.mov (.t 27)),op 28 (.ext (.t 20) 0),op 29 (.ext (.t 20) 1),op 11 (.mov (.t 28)),op 12 (.mov (.t 29))]
[1, 2, 3, 8, 9, 10, 11, 12])
(.seq (.reg [op 30 (.mov (.t 9)),op 31 (.mov (.t 12)),op 32 (.call n_proctorref19_worse [.t 30, .t 31]),op 9 (.mov (.t 32))]
[1, 2, 3, 8, 9, 10, 11])
(.seq (.reg [op 13 (.mov (.k (.int .i64 0)))]
[1, 2, 3, 8, 9, 10, 11, 13])
(.block 2
(.loop [1, 2, 3, 8, 9, 10, 11, 13] [3, 6, 8, 16, 27, 32]
  (.seq (.seq (.reg [op 33 (.mov (.t 13)),op 34 (.mov (.t 11)),op 35 (.len false (.t 34)),op 36 (.bin .lss (.t 33) (.t 35))]
[1, 2, 3, 8, 9, 10, 11, 13, 36])
(.cond (.t 36)
.skip
(.exit 2)))
(.seq (.block 3
(.reg [op 39 (.mov (.t 8)),op 40 (.mov (.t 11)),op 41 (.mov (.t 13)),op 42 (.iaddr 2 (.t 40) (.t 41)),op 43 (.loadN (.t 42) 2),op 44 (.call n_proctorref18_Put [.t 39, .t 43]),op 8 (.mov (.t 44))]
[1, 2, 3, 8, 9, 10, 11, 13]))
(.reg [op 37 (.mov (.t 13)),op 38 (.bin .add (.t 37) (.k (.int .i64 1))),op 13 (.mov (.t 38))]
[1, 2, 3, 8, 9, 10, 11, 13])))))))))
(.reg [op 18 (.mov (.t 10)),op 19 (.bin .add (.t 18) (.k (.int .i64 1))),op 10 (.mov (.t 19))]
[1, 2, 3, 8, 9, 10]))))))
(.seq (.seq (.reg [op 45 (.mov (.t 9)),op 46 (.bin .eql (.t 45) (.k (.int .i64 0))),op 47 (.mov (.t 46)),
⟨some 48, .mov (.t 8), (some (47, true))⟩,
⟨some 49, .len false (.t 48), (some (47, true))⟩,
⟨some 50, .bin .gtr (.t 49) (.k (.int .i64 256)), (some (47, true))⟩,op 51 (.pick (.t 47) (.t 50) (.k (.bool false)))]
[8, 9, 51])
(.cond (.t 51)
(.reg [op 9 (.mov (.k (.int .i64 14)))]
[8, 9])
.skip))
(.seq (.seq (.reg [op 52 (.mov (.t 9)),op 53 (.bin .neq (.t 52) (.k (.int .i64 0)))]
[8, 9, 53])
(.cond (.t 53)
(.seq (.reg [op 54 (.mov (.t 9)),op 6 (.nilrow taC_ 2),op 7 (.mov (.t 54))]
[6, 7])
.ret)
.skip))
(.seq (.reg [op 55 (.mov (.t 8)),op 6 (.mov (.t 55)),op 7 (.mov (.k (.int .i64 0)))]
[6, 7])
.ret)))))))⟩
theorem k_proctorref19_All : chkF Tryz.prog Tryz.f45 c_proctorref19_All = true := by kernel_rfl
abbrev pc_proctorref19_All := @pcR n_proctorref19_All _ _ Tryz.func45 k_proctorref19_All
def c_proctorref19_One : AFun := ⟨89, 3, [.t 6, .t 7],
  (.seq (.reg [op 3 (.box taQ_ 9 (.t 0)),op 4 (.box taC_ 2 (.t 1)),op 6 (.nilrow taC_ 2),op 7 (.mov (.k (.int .i64 0)))]
[2, 3, 4])
(.seq (.reg [op 8 (.nilrow taC_ 2)]
[2, 3, 4, 8])
(.seq (.reg [op 9 (.mov (.k (.int .i64 0)))]
[2, 3, 4, 8, 9])
(.seq (.seq (.reg [op 10 (.mov (.k (.int .i64 0)))]
[2, 3, 4, 8, 9, 10])
(.block 0
(.loop [2, 3, 4, 8, 9, 10] [3, 4, 6, 8]
  (.seq (.seq (.reg [op 15 (.mov (.t 10)),op 16 (.faddr (.t 3) 8),op 17 (.load (.t 16)),op 18 (.len false (.t 17)),op 19 (.bin .lss (.t 15) (.t 18))]
[2, 3, 4, 8, 9, 10, 19])
(.cond (.t 19)
.skip
(.exit 0)))
(.seq (.block 1
(.seq (.seq (.dreg [op 22 (.faddr (.t 3) 8),op 23 (.load (.t 22)),op 24 (.mov (.t 10)),op 25 (.iaddr 5 (.t 23) (.t 24)),op 26 (.faddr (.t 25) 0),op 27 (.load (.t 26)),op 28 (.faddr (.t 4) 0),op 29 (.load (.t 28)),op 30 (.bin .neq (.t 27) (.t 29))]
[2, 3, 4, 8, 9, 10, 30])
(.cond (.t 30)
(.exit 1)
.skip))
(.seq (.reg [op 11 (.mov (.k (.int .i64 0)))]
[2, 3, 4, 8, 9, 10, 11])
(.block 2
(.loop [2, 3, 4, 8, 9, 10, 11] [3, 4, 6, 8, 18]
  (.seq (.seq (.reg [op 31 (.mov (.t 11)),op 32 (.mov (.t 2)),op 33 (.len false (.t 32)),op 34 (.bin .lss (.t 31) (.t 33))]
[2, 3, 4, 8, 9, 10, 11, 34])
(.cond (.t 34)
.skip
(.exit 2)))
(.seq (.block 3
(.seq (.seq (.dreg [op 37 (.mov (.t 2)),op 38 (.mov (.t 11)),op 39 (.iaddr 3 (.t 37) (.t 38)),op 40 (.faddr (.t 39) 0),op 41 (.load (.t 40)),op 42 (.faddr (.t 3) 8),op 43 (.load (.t 42)),op 44 (.mov (.t 10)),op 45 (.iaddr 5 (.t 43) (.t 44)),op 46 (.faddr (.t 45) 1),op 47 (.load (.t 46)),op 48 (.bin .neq (.t 41) (.t 47))]
[2, 3, 4, 8, 9, 10, 11, 48])
(.cond (.t 48)
(.exit 3)
.skip))
(.seq (.dregA [op 50 (.loadN (.t 3) 9),op 51 (.mov (.t 10)),op 52 (.loadN (.t 4) 2),op 53 (.mov (.t 2)),op 54 (.mov (.t 11)),op 55 (.iaddr 3 (.t 53) (.t 54)),op 56 (.loadN (.t 55) 3),op 57 (.call n_proctorref19_fired [.t 50, .t 51, .t 52, .t 56]),op 49 (.mov (.t 57)),op 58 (.ext (.t 49) 0),op 59 (.ext (.t 49) 1),op 60 (.ext (.t 49) 2),op 12 (.alloc taC_ 2 (.agg [.int .i64 0, .nils])),
⟨none, .store (.t 12) (.t 58) 2, none⟩,op 13 (.mov (.t 59)),op 14 (.mov (.t 60))] 12 13 [2, 3, 4, 8, 9, 10, 11, 12, 13, 14, 49, 50, 51, 52, 53, 54, 55, 56, 57, 58, 59, 60]
[2, 3, 4, 8, 9, 10, 11, 12, 13, 14])
(.seq (.reg [op 61 (.mov (.t 9)),op 62 (.mov (.t 14)),op 63 (.call n_proctorref19_worse [.t 61, .t 62]),op 9 (.mov (.t 63))]
[2, 3, 4, 8, 9, 10, 11, 12, 13])
(.seq (.reg [op 64 (.mov (.t 13))]
[2, 3, 4, 8, 9, 10, 11, 12, 64])
(.cond (.t 64)
(.reg [op 65 (.mov (.t 8)),op 66 (.loadN (.t 12) 2),op 67 (.call n_proctorref18_Put [.t 65, .t 66]),op 8 (.mov (.t 67))]
[2, 3, 4, 8, 9, 10, 11])
.skip))))))
(.reg [op 35 (.mov (.t 11)),op 36 (.bin .add (.t 35) (.k (.int .i64 1))),op 11 (.mov (.t 36))]
[2, 3, 4, 8, 9, 10, 11]))))))))
(.reg [op 20 (.mov (.t 10)),op 21 (.bin .add (.t 20) (.k (.int .i64 1))),op 10 (.mov (.t 21))]
[2, 3, 4, 8, 9, 10]))))))
(.seq (.seq (.reg [op 68 (.mov (.t 9)),op 69 (.bin .neq (.t 68) (.k (.int .i64 0)))]
[3, 4, 8, 9, 69])
(.cond (.t 69)
(.seq (.reg [op 70 (.mov (.t 9)),op 6 (.nilrow taC_ 2),op 7 (.mov (.t 70))]
[6, 7])
.ret)
.skip))
(.seq (.seq (.reg [op 71 (.mov (.t 8)),op 72 (.len false (.t 71)),op 73 (.bin .eql (.t 72) (.k (.int .i64 0))),op 74 (.mov (.t 73)),
⟨some 75, .faddr (.t 3) 4, (some (74, true))⟩,
⟨some 76, .load (.t 75), (some (74, true))⟩,
⟨some 77, .faddr (.t 4) 0, (some (74, true))⟩,
⟨some 78, .load (.t 77), (some (74, true))⟩,
⟨some 79, .iaddr 3 (.t 76) (.t 78), (some (74, true))⟩,
⟨some 80, .faddr (.t 79) 1, (some (74, true))⟩,
⟨some 81, .load (.t 80), (some (74, true))⟩,
⟨some 82, .un .not (.t 81), (some (74, true))⟩,op 83 (.pick (.t 74) (.t 82) (.k (.bool false)))]
[4, 8, 83])
(.cond (.t 83)
(.reg [op 84 (.mov (.t 8)),op 85 (.loadN (.t 4) 2),op 86 (.mkrow taC_ 2 1 (.agg [.int .i64 0, .nils]) [(0, .t 85)]),op 87 (.app taC_ 2 32 (.t 84) (.t 86)),op 8 (.mov (.t 87))]
[8])
.skip))
(.seq (.reg [op 88 (.mov (.t 8)),op 6 (.mov (.t 88)),op 7 (.mov (.k (.int .i64 0)))]
[6, 7])
.ret)))))))⟩
theorem k_proctorref19_One : chkF Tryz.prog Tryz.f80 c_proctorref19_One = true := by kernel_rfl
abbrev pc_proctorref19_One := @pcR n_proctorref19_One _ _ Tryz.func80 k_proctorref19_One
def c_proctorref19_fired : AFun := ⟨58, 4, [.cells 8 2, .t 9, .t 10],
  (.seq (.reg [op 4 (.box taQ_ 9 (.t 0)),op 6 (.box taC_ 2 (.t 2)),op 7 (.box taH_ 3 (.t 3)),op 8 (.alloc taC_ 2 (.agg [.int .i64 0, .nils])),op 9 (.mov (.k (.bool false))),op 10 (.mov (.k (.int .i64 0)))]
[1, 4, 6, 7, 8])
(.seq (.reg [op 15 (.faddr (.t 6) 1),op 16 (.load (.t 15)),op 17 (.faddr (.t 7) 2),op 18 (.load (.t 17)),op 19 (.call n_proctorref19_free [.t 16, .t 18]),op 11 (.mov (.t 19))]
[1, 4, 7, 8, 11])
(.seq (.reg [op 21 (.loadN (.t 4) 9),op 22 (.mov (.t 1)),op 23 (.faddr (.t 7) 1),op 24 (.load (.t 23)),op 25 (.mov (.t 11)),op 26 (.call n_proctorref16_Guard [.t 21, .t 22, .t 24, .t 25]),op 20 (.mov (.t 26)),op 27 (.ext (.t 20) 0),op 28 (.ext (.t 20) 1),op 12 (.mov (.t 27)),op 13 (.mov (.t 28))]
[1, 4, 7, 8, 11, 12, 13])
(.seq (.seq (.reg [op 29 (.mov (.t 13)),op 30 (.bin .neq (.t 29) (.k (.int .i64 0))),op 31 (.mov (.t 30)),
⟨some 32, .mov (.t 12), (some (31, false))⟩,
⟨some 33, .un .not (.t 32), (some (31, false))⟩,op 34 (.pick (.t 31) (.k (.bool true)) (.t 33))]
[1, 4, 7, 8, 11, 13, 34])
(.cond (.t 34)
(.seq (.reg [op 35 (.build [.int .i64 0, .nils] []),op 36 (.mov (.t 13)),
⟨none, .store (.t 8) (.t 35) 2, none⟩,op 9 (.mov (.k (.bool false))),op 10 (.mov (.t 36))]
[8, 9, 10])
.ret)
.skip))
(.seq (.reg [op 38 (.loadN (.t 4) 9),op 39 (.mov (.t 1)),op 40 (.faddr (.t 7) 1),op 41 (.load (.t 40)),op 42 (.mov (.t 11)),op 43 (.call n_proctorref16_Sets [.t 38, .t 39, .t 41, .t 42]),op 37 (.mov (.t 43)),op 44 (.ext (.t 37) 0),op 45 (.ext (.t 37) 1),op 14 (.mov (.t 44)),op 13 (.mov (.t 45))]
[1, 4, 8, 13, 14])
(.seq (.seq (.reg [op 46 (.mov (.t 13)),op 47 (.bin .neq (.t 46) (.k (.int .i64 0)))]
[1, 4, 8, 13, 14, 47])
(.cond (.t 47)
(.seq (.reg [op 48 (.build [.int .i64 0, .nils] []),op 49 (.mov (.t 13)),
⟨none, .store (.t 8) (.t 48) 2, none⟩,op 9 (.mov (.k (.bool false))),op 10 (.mov (.t 49))]
[8, 9, 10])
.ret)
.skip))
(.seq (.reg [op 50 (.faddr (.t 4) 8),op 51 (.load (.t 50)),op 52 (.mov (.t 1)),op 53 (.iaddr 5 (.t 51) (.t 52)),op 54 (.faddr (.t 53) 2),op 55 (.load (.t 54)),op 56 (.mov (.t 14)),op 57 (.build [.int .i64 0, .nils] [(0, 1, .t 55), (1, 1, .t 56)]),
⟨none, .store (.t 8) (.t 57) 2, none⟩,op 9 (.mov (.k (.bool true))),op 10 (.mov (.k (.int .i64 0)))]
[8, 9, 10])
.ret)))))))⟩
theorem k_proctorref19_fired : chkF Tryz.prog Tryz.f145 c_proctorref19_fired = true := by kernel_rfl
abbrev pc_proctorref19_fired := @pcR n_proctorref19_fired _ _ Tryz.func145 k_proctorref19_fired
def c_proctorref19_free : AFun := ⟨29, 2, [.t 4],
  (.seq (.reg [op 4 (.nilrow taV_ 4)]
[0, 1])
(.seq (.reg [op 7 (.mkrow taV_ 4 0 (.agg [.int .i64 0, .int .i64 0, .str [], .bool false]) []),op 8 (.mov (.t 0)),op 9 (.app taV_ 4 40 (.t 7) (.t 8)),op 5 (.mov (.t 9))]
[1, 5])
(.seq (.seq (.reg [op 6 (.mov (.k (.int .i64 0)))]
[1, 5, 6])
(.block 0
(.loop [1, 5, 6] [4, 7, 9]
  (.seq (.seq (.reg [op 10 (.mov (.t 6)),op 11 (.mov (.t 1)),op 12 (.len false (.t 11)),op 13 (.bin .lss (.t 10) (.t 12))]
[1, 5, 6, 13])
(.cond (.t 13)
.skip
(.exit 0)))
(.seq (.block 1
(.dreg [op 16 (.mov (.t 5)),op 17 (.mov (.t 1)),op 18 (.mov (.t 6)),op 19 (.iaddr 5 (.t 17) (.t 18)),op 20 (.faddr (.t 19) 0),op 21 (.load (.t 20)),op 22 (.mov (.t 1)),op 23 (.mov (.t 6)),op 24 (.iaddr 5 (.t 22) (.t 23)),op 25 (.faddr (.t 24) 1),op 26 (.loadN (.t 25) 4),op 27 (.iaddr 4 (.t 16) (.t 21)),
⟨none, .store (.t 27) (.t 26) 4, none⟩]
[1, 5, 6]))
(.reg [op 14 (.mov (.t 6)),op 15 (.bin .add (.t 14) (.k (.int .i64 1))),op 6 (.mov (.t 15))]
[1, 5, 6]))))))
(.seq (.reg [op 28 (.mov (.t 5)),op 4 (.mov (.t 28))]
[4])
.ret))))⟩
theorem k_proctorref19_free : chkF Tryz.prog Tryz.f220 c_proctorref19_free = true := by kernel_rfl
abbrev pc_proctorref19_free := @pcR n_proctorref19_free _ _ Tryz.func220 k_proctorref19_free
def c_proctorref19_worse : AFun := ⟨18, 2, [.t 4],
  (.seq (.reg [op 4 (.mov (.k (.int .i64 0)))]
[0, 1])
(.seq (.seq (.reg [op 5 (.mov (.t 0)),op 6 (.bin .eql (.t 5) (.k (.int .i64 0))),op 7 (.mov (.t 6)),
⟨some 8, .mov (.t 1), (some (7, false))⟩,
⟨some 9, .bin .neq (.t 8) (.k (.int .i64 0)), (some (7, false))⟩,
⟨some 10, .mov (.t 9), (some (7, false))⟩,
⟨some 11, .mov (.t 1), (some (10, true))⟩,
⟨some 12, .mov (.t 0), (some (10, true))⟩,
⟨some 13, .bin .lss (.t 11) (.t 12), (some (10, true))⟩,
⟨some 14, .pick (.t 10) (.t 13) (.k (.bool false)), (some (7, false))⟩,op 15 (.pick (.t 7) (.k (.bool true)) (.t 14))]
[0, 1, 15])
(.cond (.t 15)
(.seq (.reg [op 16 (.mov (.t 1)),op 4 (.mov (.t 16))]
[4])
.ret)
.skip))
(.seq (.reg [op 17 (.mov (.t 0)),op 4 (.mov (.t 17))]
[4])
.ret)))⟩
theorem k_proctorref19_worse : chkF Tryz.prog Tryz.f81 c_proctorref19_worse = true := by kernel_rfl
abbrev pc_proctorref19_worse := @pcR n_proctorref19_worse _ _ Tryz.func81 k_proctorref19_worse
def c_proctorref28_Plain : AFun := ⟨22, 1, [.t 2],
  (.seq (.reg [op 1 (.box taQ_ 9 (.t 0)),op 2 (.mov (.k (.bool false)))]
[1])
(.seq (.seq (.reg [op 3 (.mov (.k (.int .i64 0)))]
[1, 3])
(.block 0
(.loop [1, 3] [1]
  (.seq (.seq (.reg [op 4 (.mov (.t 3)),op 5 (.faddr (.t 1) 8),op 6 (.load (.t 5)),op 7 (.len false (.t 6)),op 8 (.bin .lss (.t 4) (.t 7))]
[1, 3, 8])
(.cond (.t 8)
.skip
(.exit 0)))
(.seq (.block 1
(.seq (.reg [op 11 (.faddr (.t 1) 8),op 12 (.load (.t 11)),op 13 (.mov (.t 3)),op 14 (.iaddr 5 (.t 12) (.t 13)),op 15 (.faddr (.t 14) 3),op 16 (.load (.t 15)),op 17 (.bin .neq (.t 16) (.k (.int .i64 (-1))))]
[1, 3, 17])
(.cond (.t 17)
(.seq (.reg [op 2 (.mov (.k (.bool false)))]
[2])
.ret)
.skip)))
(.reg [op 9 (.mov (.t 3)),op 10 (.bin .add (.t 9) (.k (.int .i64 1))),op 3 (.mov (.t 10))]
[1, 3]))))))
(.seq (.reg [op 18 (.faddr (.t 1) 3),op 19 (.load (.t 18)),op 20 (.len false (.t 19)),op 21 (.bin .eql (.t 20) (.k (.int .i64 0))),op 2 (.mov (.t 21))]
[2])
.ret)))⟩
theorem k_proctorref28_Plain : chkF Tryz.prog Tryz.f29 c_proctorref28_Plain = true := by kernel_rfl
abbrev pc_proctorref28_Plain := @pcR n_proctorref28_Plain _ _ Tryz.func29 k_proctorref28_Plain
end Go.Proofs.YtjbcfpkibnhodaaGreatDoor.Ab
