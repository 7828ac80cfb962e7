/-
  Lemmas. No claim is proved here.
-/
import Derived.Test.YtkadalpaeglmnaaGreatDoorYAcR0
set_option linter.unusedSimpArgs false
namespace Go.Proofs.YtkadalpaeglmnaaGreatDoor.Ab
open Go
def cpO_:AFun:=⟨145,3,[.cells 6 4,.t 7],
 (.seq (.reg [op 4 (.box taV_ 4 (.t 1)),op 5 (.box taV_ 4 (.t 2)),op 6 (.alloc taV_ 4 (.agg [iv 0,iv 0,.str [],.bool false])),oC 7 0]
[0,4,5,6])
(.seq (.seq (.reg [oM 8 0,oK 9 .lss 8 4,oM 10 9,qM 11 0 10 false,qK 12 .gtr 11 16 10 false,oO 13 10 12]
[0,4,5,6,13])
(.cond (.t 13)
(.seq (.reg [op 14 (.build [iv 0,iv 0,.str [],.bool false] []),
⟨none,.store (.t 6) (.t 14) 4,none⟩,oC 7 1]
[6,7])
.ret)
.skip))
(.seq (.seq (.reg [oM 15 0,oK 16 .eql 15 4]
[0,4,5,6,16])
(.cond (.t 16)
(.seq (.seq (.reg [oF 17 4 0,oL 18 17,oK 19 .neq 18 3]
[4,6,19])
(.cond (.t 19)
(.seq (.reg [op 20 (.build [iv 0,iv 0,.str [],.bool false] []),
⟨none,.store (.t 6) (.t 20) 4,none⟩,oC 7 8]
[6,7])
.ret)
.skip))
(.seq (.reg [oF 21 4 3,oL 22 21,oU 23 22,op 24 (.call npt_ [.t 23]),oE 25 24 0,oE 26 24 1,
⟨none,.store (.t 6) (.t 25) 4,none⟩,oM 7 26]
[6,7])
.ret))
.skip))
(.seq (.seq (.reg [oM 27 0,oK 28 .eql 27 5]
[0,4,5,6,28])
(.cond (.t 28)
(.seq (.seq (.reg [oF 29 4 0,oL 30 29,oK 31 .neq 30 1]
[4,6,31])
(.cond (.t 31)
(.seq (.reg [op 32 (.build [iv 0,iv 0,.str [],.bool false] []),
⟨none,.store (.t 6) (.t 32) 4,none⟩,oC 7 8]
[6,7])
.ret)
.skip))
(.seq (.reg [oF 33 4 1,oL 34 33,op 35 (.call np16 [.k (iv 9),.k (iv 0),.t 34]),oE 36 35 0,oE 37 35 1,
⟨none,.store (.t 6) (.t 36) 4,none⟩,oM 7 37]
[6,7])
.ret))
.skip))
(.seq (.seq (.reg [oF 38 4 0,oL 39 38,oF 40 5 0,oL 41 40,oB 42 .neq 39 41]
[0,4,5,6,42])
(.cond (.t 42)
(.seq (.reg [op 43 (.build [iv 0,iv 0,.str [],.bool false] []),
⟨none,.store (.t 6) (.t 43) 4,none⟩,oC 7 8]
[6,7])
.ret)
.skip))
(.seq (.seq (.reg [oM 44 0,oK 45 .eql 44 13]
[0,4,5,6,45])
(.cond (.t 45)
(.seq (.reg [oN 46 4 4,oN 47 5 4,op 48 (.eqA false [0,0,1,2] (.t 46) (.t 47)),op 49 (.call npt_ [.t 48]),oE 50 49 0,oE 51 49 1,
⟨none,.store (.t 6) (.t 50) 4,none⟩,oM 7 51]
[6,7])
.ret)
.skip))
(.seq (.seq (.reg [oM 52 0,oK 53 .eql 52 14]
[0,4,5,6,53])
(.cond (.t 53)
(.seq (.reg [oN 54 4 4,oN 55 5 4,op 56 (.eqA true [0,0,1,2] (.t 54) (.t 55)),op 57 (.call npt_ [.t 56]),oE 58 57 0,oE 59 57 1,
⟨none,.store (.t 6) (.t 58) 4,none⟩,oM 7 59]
[6,7])
.ret)
.skip))
(.seq (.seq (.reg [oF 60 4 0,oL 61 60,oK 62 .eql 61 3]
[0,4,5,6,62])
(.cond (.t 62)
(.seq (.seq (.reg [oM 63 0,oK 64 .eql 63 6]
[0,4,5,6,64])
(.cond (.t 64)
(.seq (.reg [oF 65 4 3,oL 66 65,oM 67 66,qF 68 5 3 67 true,qL 69 68 67 true,oA 70 67 69,op 71 (.call npt_ [.t 70]),oE 72 71 0,oE 73 71 1,
⟨none,.store (.t 6) (.t 72) 4,none⟩,oM 7 73]
[6,7])
.ret)
.skip))
(.seq (.seq (.reg [oM 74 0,oK 75 .eql 74 7]
[4,5,6,75])
(.cond (.t 75)
(.seq (.reg [oF 76 4 3,oL 77 76,oM 78 77,qF 79 5 3 78 false,qL 80 79 78 false,oO 81 78 80,op 82 (.call npt_ [.t 81]),oE 83 82 0,oE 84 82 1,
⟨none,.store (.t 6) (.t 83) 4,none⟩,oM 7 84]
[6,7])
.ret)
.skip))
(.seq (.reg [op 85 (.build [iv 0,iv 0,.str [],.bool false] []),
⟨none,.store (.t 6) (.t 85) 4,none⟩,oC 7 8]
[6,7])
.ret)))
.skip))
(.seq (.seq (.reg [oM 86 0,oK 87 .eql 86 15]
[0,4,5,6,87])
(.cond (.t 87)
(.seq (.reg [oN 88 4 4,oN 89 5 4,op 90 (.call npL_ [.t 88,.t 89]),op 91 (.call npt_ [.t 90]),oE 92 91 0,oE 93 91 1,
⟨none,.store (.t 6) (.t 92) 4,none⟩,oM 7 93]
[6,7])
.ret)
.skip))
(.seq (.seq (.reg [oM 94 0,oK 95 .eql 94 16]
[0,4,5,6,95])
(.cond (.t 95)
(.seq (.reg [oN 96 5 4,oN 97 4 4,op 98 (.call npL_ [.t 96,.t 97]),oU 99 98,op 100 (.call npt_ [.t 99]),oE 101 100 0,oE 102 100 1,
⟨none,.store (.t 6) (.t 101) 4,none⟩,oM 7 102]
[6,7])
.ret)
.skip))
(.seq (.seq (.reg [oF 103 4 0,oL 104 103,oK 105 .eql 104 1,oM 106 105,qM 107 0 106 true,qK 108 .geq 107 8 106 true,oA 109 106 108,oM 110 109,qM 111 0 110 true,qK 112 .leq 111 12 110 true,oA 113 110 112]
[0,4,5,6,113])
(.cond (.t 113)
(.seq (.reg [oM 114 0,oF 115 4 1,oL 116 115,oF 117 5 1,oL 118 117,op 119 (.call np16 [.t 114,.t 116,.t 118]),oE 120 119 0,oE 121 119 1,
⟨none,.store (.t 6) (.t 120) 4,none⟩,oM 7 121]
[6,7])
.ret)
.skip))
(.seq (.seq (.reg [oF 122 4 0,oL 123 122,oK 124 .eql 123 2,oM 125 124,qM 126 0 125 true,qK 127 .eql 126 8 125 true,oA 128 125 127]
[4,5,6,128])
(.cond (.t 128)
(.seq (.seq (.reg [oF 129 4 2,oL 130 129,op 131 (.len true (.t 130)),oF 132 5 2,oL 133 132,op 134 (.len true (.t 133)),oB 135 .add 131 134,oK 136 .gtr 135 4096]
[4,5,6,136])
(.cond (.t 136)
(.seq (.reg [op 137 (.build [iv 0,iv 0,.str [],.bool false] []),
⟨none,.store (.t 6) (.t 137) 4,none⟩,oC 7 3]
[6,7])
.ret)
.skip))
(.seq (.reg [oF 138 4 2,oL 139 138,oF 140 5 2,oL 141 140,oB 142 .add 139 141,op 143 (.build [iv 0,iv 0,.str [],.bool false] [(0,1,.k (iv 2)),(2,1,.t 142)]),
⟨none,.store (.t 6) (.t 143) 4,none⟩,oC 7 0]
[6,7])
.ret))
.skip))
(.seq (.reg [op 144 (.build [iv 0,iv 0,.str [],.bool false] []),
⟨none,.store (.t 6) (.t 144) 4,none⟩,oC 7 8]
[6,7])
.ret)))))))))))))⟩
abbrev ppO_:=pcR npO_ cpO_ Tryz.func255
def cp19:AFun:=⟨44,1,[.t 2],
 (.seq (.reg [op 1 (.box taV_ 4 (.t 0)),oV 2 false]
[1])
(.seq (.seq (.reg [oF 3 1 0,oL 4 3,oK 5 .eql 4 1]
[1,5])
(.cond (.t 5)
(.seq (.reg [oF 6 1 2,oL 7 6,op 8 (.bin .eql (.t 7) (.k (.str []))),oM 9 8,qF 10 1 3 9 true,qL 11 10 9 true,oG 12 (.un .not (.t 11)) 9 true,oA 13 9 12,oM 2 13]
[2])
.ret)
.skip))
(.seq (.seq (.reg [oF 14 1 0,oL 15 14,oK 16 .eql 15 2]
[1,16])
(.cond (.t 16)
(.seq (.reg [oF 17 1 1,oL 18 17,oK 19 .eql 18 0,oM 20 19,qF 21 1 3 20 true,qL 22 21 20 true,oG 23 (.un .not (.t 22)) 20 true,oA 24 20 23,oM 25 24,qF 26 1 2 25 true,qL 27 26 25 true,oG 28 (.len true (.t 27)) 25 true,qK 29 .leq 28 4096 25 true,oA 30 25 29,oM 2 30]
[2])
.ret)
.skip))
(.seq (.reg [oF 31 1 0,oL 32 31,oK 33 .eql 32 3,oM 34 33,qF 35 1 1 34 true,qL 36 35 34 true,qK 37 .eql 36 0 34 true,oA 38 34 37,oM 39 38,qF 40 1 2 39 true,qL 41 40 39 true,oG 42 (.bin .eql (.t 41) (.k (.str []))) 39 true,oA 43 39 42,oM 2 43]
[2])
.ret))))⟩
abbrev pp19:=pcR np12 cp19 Tryz.func69
def cpa_:AFun:=⟨76,3,[.cells 6 4,.t 7],
 (.seq (.reg [op 6 (.alloc taV_ 4 (.agg [iv 0,iv 0,.str [],.bool false])),oC 7 0]
[0,1,2,6])
(.seq (.seq (.reg [oM 17 0,oK 18 .eql 17 8]
[0,1,2,6,18])
(.cond (.t 18)
(.seq (.reg [oM 20 1,oM 21 2,op 22 (.call npA_ [.t 20,.t 21]),oM 19 22,oE 23 19 0,oE 24 19 1,oM 8 23,oM 9 24]
[6,8,9])
(.seq (.reg [oM 25 8,oM 26 9,op 27 (.call npn_ [.t 25,.t 26]),oE 28 27 0,oE 29 27 1,
⟨none,.store (.t 6) (.t 28) 4,none⟩,oM 7 29]
[6,7])
.ret))
.skip))
(.seq (.seq (.reg [oM 30 0,oK 31 .eql 30 9]
[0,1,2,6,31])
(.cond (.t 31)
(.seq (.reg [oM 33 1,oM 34 2,op 35 (.call np11 [.t 33,.t 34]),oM 32 35,oE 36 32 0,oE 37 32 1,oM 10 36,oM 11 37]
[6,10,11])
(.seq (.reg [oM 38 10,oM 39 11,op 40 (.call npn_ [.t 38,.t 39]),oE 41 40 0,oE 42 40 1,
⟨none,.store (.t 6) (.t 41) 4,none⟩,oM 7 42]
[6,7])
.ret))
.skip))
(.seq (.seq (.reg [oM 43 0,oK 44 .eql 43 10]
[0,1,2,6,44])
(.cond (.t 44)
(.seq (.reg [oM 46 1,oM 47 2,op 48 (.call npM_ [.t 46,.t 47]),oM 45 48,oE 49 45 0,oE 50 45 1,oM 12 49,oM 13 50]
[6,12,13])
(.seq (.reg [oM 51 12,oM 52 13,op 53 (.call npn_ [.t 51,.t 52]),oE 54 53 0,oE 55 53 1,
⟨none,.store (.t 6) (.t 54) 4,none⟩,oM 7 55]
[6,7])
.ret))
.skip))
(.seq (.reg [oM 57 1,oM 58 2,op 59 (.call npD_ [.t 57,.t 58]),oM 56 59,oE 60 56 0,oE 61 56 1,oE 62 56 2,oM 14 60,oM 15 61,oM 16 62]
[0,6,14,15,16])
(.seq (.seq (.reg [oM 63 16,oK 64 .eql 63 7]
[0,6,14,15,16,64])
(.cond (.t 64)
(.seq (.reg [op 65 (.build [iv 0,iv 0,.str [],.bool false] []),
⟨none,.store (.t 6) (.t 65) 4,none⟩,oC 7 7]
[6,7])
.ret)
.skip))
(.seq (.seq (.reg [oM 66 0,oK 67 .eql 66 12]
[6,14,15,16,67])
(.cond (.t 67)
(.seq (.reg [oM 68 15,op 69 (.build [iv 0,iv 0,.str [],.bool false] [(0,1,.k (iv 1)),(1,1,.t 68)]),
⟨none,.store (.t 6) (.t 69) 4,none⟩,oC 7 0]
[6,7])
.ret)
.skip))
(.seq (.reg [oM 70 14,oM 71 16,oK 72 .eql 71 0,op 73 (.call npn_ [.t 70,.t 72]),oE 74 73 0,oE 75 73 1,
⟨none,.store (.t 6) (.t 74) 4,none⟩,oM 7 75]
[6,7])
.ret))))))))⟩
abbrev ppa_:=pcR np16 cpa_ Tryz.func263
def cpn_:AFun:=⟨11,2,[.cells 4 4,.t 5],
 (.seq (.reg [op 4 (.alloc taV_ 4 (.agg [iv 0,iv 0,.str [],.bool false])),oC 5 0]
[0,1,4])
(.seq (.seq (.reg [oM 6 1,oU 7 6]
[0,4,7])
(.cond (.t 7)
(.seq (.reg [op 8 (.build [iv 0,iv 0,.str [],.bool false] []),
⟨none,.store (.t 4) (.t 8) 4,none⟩,oC 5 6]
[4,5])
.ret)
.skip))
(.seq (.reg [oM 9 0,op 10 (.build [iv 0,iv 0,.str [],.bool false] [(0,1,.k (iv 1)),(1,1,.t 9)]),
⟨none,.store (.t 4) (.t 10) 4,none⟩,oC 5 0]
[4,5])
.ret)))⟩
abbrev ppn_:=pcR npn_ cpn_ Tryz.func266
def cp18:AFun:=⟨6,1,[.cells 2 4,.t 3],
 (.seq (.reg [op 2 (.alloc taV_ 4 (.agg [iv 0,iv 0,.str [],.bool false])),oC 3 0]
[0,2])
(.seq (.reg [oM 4 0,op 5 (.build [iv 0,iv 0,.str [],.bool false] [(0,1,.k (iv 3)),(3,1,.t 4)]),
⟨none,.store (.t 2) (.t 5) 4,none⟩,oC 3 0]
[2,3])
.ret))⟩
abbrev pp18:=pcR npt_ cp18 Tryz.func262
def cpC_:AFun:=⟨72,1,[.t 2,.t 3],
 (.seq (.reg [oC 2 0,oC 3 0]
[0])
(.seq (.seq (.reg [oM 6 0,oZ 7 6,oK 8 .gtr 7 32]
[0,8])
(.cond (.t 8)
(.seq (.reg [oC 2 14,oC 3 32]
[2,3])
.ret)
.skip))
(.seq (.seq (.reg [oC 4 0]
[0,4])
(.block 0
(.loop [0,4] [7]
 (.seq (.seq (.reg [oM 9 4,oM 10 0,oZ 11 10,oB 12 .lss 9 11]
[0,4,12])
(.cond (.t 12)
.skip
(.exit 0)))
(.seq (.block 1
(.seq (.seq (.reg [oM 15 0,oM 16 4,oI 17 2 15 16,oF 18 17 0,oL 19 18,op 20 (.call npN_ [.t 19]),oU 21 20]
[0,4,21])
(.cond (.t 21)
(.seq (.reg [oM 22 4,oC 2 11,oM 3 22]
[2,3])
.ret)
.skip))
(.seq (.seq (.reg [oM 23 0,oM 24 0,oM 25 4,oI 26 2 24 25,oF 27 26 0,oL 28 27,op 29 (.call np28 [.t 23,.t 28]),oM 30 4,oB 31 .lss 29 30]
[0,4,31])
(.cond (.t 31)
(.seq (.reg [oM 32 4,oC 2 10,oM 3 32]
[2,3])
.ret)
.skip))
(.seq (.seq (.reg [oM 33 0,oM 34 4,oI 35 2 33 34,oF 36 35 1,oL 37 36,oZ 38 37,oK 39 .gtr 38 8]
[0,4,39])
(.cond (.t 39)
(.seq (.reg [oM 40 4,oC 2 14,oM 3 40]
[2,3])
.ret)
.skip))
(.seq (.reg [oC 5 0]
[0,4,5])
(.block 2
(.loop [0,4,5] [7,11,20,29,38]
 (.seq (.seq (.reg [oM 41 5,oM 42 0,oM 43 4,oI 44 2 42 43,oF 45 44 1,oL 46 45,oZ 47 46,oB 48 .lss 41 47]
[0,4,5,48])
(.cond (.t 48)
.skip
(.exit 2)))
(.seq (.block 3
(.seq (.reg [oM 51 0,oM 52 4,oI 53 2 51 52,oF 54 53 1,oL 55 54,oM 56 5,oI 57 1 55 56,oL 58 57,oK 59 .lss 58 1,oM 60 59,qM 61 0 60 false,qM 62 4 60 false,qI 63 2 61 62 60 false,qF 64 63 1 60 false,qL 65 64 60 false,qM 66 5 60 false,qI 67 1 65 66 60 false,qL 68 67 60 false,qK 69 .gtr 68 3 60 false,oO 70 60 69]
[0,4,5,70])
(.cond (.t 70)
(.seq (.reg [oM 71 4,oC 2 8,oM 3 71]
[2,3])
.ret)
.skip)))
(.reg [oM 49 5,oK 50 .add 49 1,oM 5 50]
[0,4,5]))))))))))
(.reg [oM 13 4,oK 14 .add 13 1,oM 4 14]
[0,4]))))))
(.seq (.reg [oC 2 0,op 3 (.mov (.k (iv (-1))))]
[2,3])
.ret))))⟩
abbrev ppC_:=pcR npC_ cpC_ Tryz.func26
def cp25:AFun:=⟨20,2,[.t 4],
 (.seq (.reg [oC 4 0]
[0,1])
(.seq (.seq (.reg [oC 5 0]
[0,1,5])
(.block 0
(.loop [0,1,5] []
 (.seq (.seq (.reg [oM 6 5,oM 7 0,oZ 8 7,oB 9 .lss 6 8]
[0,1,5,9])
(.cond (.t 9)
.skip
(.exit 0)))
(.seq (.block 1
(.seq (.reg [oM 12 0,oM 13 5,oI 14 2 12 13,oF 15 14 0,oL 16 15,oM 17 1,oB 18 .eql 16 17]
[0,1,5,18])
(.cond (.t 18)
(.seq (.reg [oM 19 5,oM 4 19]
[4])
.ret)
.skip)))
(.reg [oM 10 5,oK 11 .add 10 1,oM 5 11]
[0,1,5]))))))
(.seq (.reg [op 4 (.mov (.k (iv (-1))))]
[4])
.ret)))⟩
abbrev pp25:=pcR np28 cp25 Tryz.func68
def cp24:AFun:=⟨24,1,[.t 2],
 (.seq (.reg [oV 2 false]
[0])
(.seq (.reg [op 5 (.call npW_ []),oM 3 5]
[0,3])
(.seq (.seq (.reg [oC 4 0]
[0,3,4])
(.block 0
(.loop [0,3,4] [5]
 (.seq (.seq (.reg [oM 6 4,oM 7 3,oZ 8 7,oB 9 .lss 6 8]
[0,3,4,9])
(.cond (.t 9)
.skip
(.exit 0)))
(.seq (.block 1
(.seq (.reg [oM 12 3,oM 13 4,oI 14 1 12 13,oL 15 14,oM 16 0,oB 17 .eql 15 16]
[0,3,4,17])
(.cond (.t 17)
(.seq (.reg [oV 2 false]
[2])
.ret)
.skip)))
(.reg [oM 10 4,oK 11 .add 10 1,oM 4 11]
[0,3,4]))))))
(.seq (.reg [oM 18 0,op 19 (.call np26 [.t 18]),oM 20 19,qM 21 0 20 true,oG 22 (.bin .neq (.t 21) (.k (.str [95]))) 20 true,oA 23 20 22,oM 2 23]
[2])
.ret))))⟩
abbrev pp24:=pcR npN_ cp24 Tryz.func67
def cp17:AFun:=⟨55,1,[.t 2],
 (.seq (.reg [oV 2 false]
[0])
(.seq (.seq (.reg [oM 6 0,op 7 (.len true (.t 6)),oK 8 .lss 7 1,oM 9 8,qM 10 0 9 false,oG 11 (.len true (.t 10)) 9 false,qK 12 .gtr 11 32 9 false,oO 13 9 12]
[0,13])
(.cond (.t 13)
(.seq (.reg [oV 2 false]
[2])
.ret)
.skip))
(.seq (.seq (.reg [oC 3 0]
[0,3])
(.block 0
(.loop [0,3] [7,11]
 (.seq (.seq (.reg [oM 14 3,oM 15 0,op 16 (.len true (.t 15)),oB 17 .lss 14 16]
[0,3,17])
(.cond (.t 17)
.skip
(.exit 0)))
(.seq (.block 1
(.seq (.reg [oM 20 0,oM 21 3,op 22 (.idx (.t 20) (.t 21)),oM 4 22]
[0,3,4])
(.seq (.reg [oM 23 4,op 24 (.bin .geq (.t 23) (.k (.int .u8 65))),oM 25 24,qM 26 4 25 true,oG 27 (.bin .leq (.t 26) (.k (.int .u8 90))) 25 true,oA 28 25 27,oM 29 28,qM 30 4 29 false,oG 31 (.bin .geq (.t 30) (.k (.int .u8 97))) 29 false,qM 32 31 29 false,qM 33 4 32 true,oG 34 (.bin .leq (.t 33) (.k (.int .u8 122))) 32 true,qA 35 32 34 29 false,oO 36 29 35,oM 37 36,qM 38 4 37 false,oG 39 (.bin .eql (.t 38) (.k (.int .u8 95))) 37 false,oO 40 37 39,oM 5 40]
[0,3,4,5])
(.seq (.reg [oM 41 5,oU 42 41,oM 43 42,qM 44 3 43 true,qK 45 .eql 44 0 43 true,qM 46 45 43 true,qM 47 4 46 false,oG 48 (.bin .lss (.t 47) (.k (.int .u8 48))) 46 false,qO 49 46 48 43 true,qM 50 49 43 true,qM 51 4 50 false,oG 52 (.bin .gtr (.t 51) (.k (.int .u8 57))) 50 false,qO 53 50 52 43 true,oA 54 43 53]
[0,3,54])
(.cond (.t 54)
(.seq (.reg [oV 2 false]
[2])
.ret)
.skip)))))
(.reg [oM 18 3,oK 19 .add 18 1,oM 3 19]
[0,3]))))))
(.seq (.reg [oV 2 true]
[2])
.ret))))⟩
abbrev pp17:=pcR np26 cp17 Tryz.func168
def cp23:AFun:=⟨45,1,[.t 2],
 (.seq (.reg [op 1 (.box taD_ 2 (.t 0)),op 2 (.mov (.k (.str [])))]
[1])
(.seq (.reg [oF 5 1 0,oL 6 5,op 7 (.bin .add (.t 6) (.k (.str [40]))),oM 3 7]
[1,3])
(.seq (.seq (.reg [oC 4 0]
[1,3,4])
(.block 0
(.loop [1,3,4] [1]
 (.seq (.seq (.reg [oM 8 4,oF 9 1 1,oL 10 9,oZ 11 10,oB 12 .lss 8 11]
[1,3,4,12])
(.cond (.t 12)
.skip
(.exit 0)))
(.seq (.block 1
(.seq (.seq (.reg [oM 15 4,oK 16 .gtr 15 0]
[1,3,4,16])
(.cond (.t 16)
(.reg [oM 17 3,op 18 (.bin .add (.t 17) (.k (.str [44,32]))),oM 3 18]
[1,3,4])
.skip))
(.seq (.reg [oF 19 1 1,oL 20 19,oM 21 4,oI 22 1 20 21,oL 23 22,oK 24 .eql 23 1]
[1,3,4,24])
(.cond (.t 24)
(.reg [oM 25 3,op 26 (.bin .add (.t 25) (.k (.str [105,110,116]))),oM 3 26]
[1,3,4])
(.seq (.reg [oF 27 1 1,oL 28 27,oM 29 4,oI 30 1 28 29,oL 31 30,oK 32 .eql 31 2]
[1,3,4,32])
(.cond (.t 32)
(.reg [oM 33 3,op 34 (.bin .add (.t 33) (.k (.str [115,116,114,105,110,103]))),oM 3 34]
[1,3,4])
(.seq (.reg [oF 35 1 1,oL 36 35,oM 37 4,oI 38 1 36 37,oL 39 38,oK 40 .eql 39 3]
[1,3,4,40])
(.cond (.t 40)
(.reg [oM 41 3,op 42 (.bin .add (.t 41) (.k (.str [98,111,111,108]))),oM 3 42]
[1,3,4])
.skip))))))))
(.reg [oM 13 4,oK 14 .add 13 1,oM 4 14]
[1,3,4]))))))
(.seq (.reg [oM 43 3,op 44 (.bin .add (.t 43) (.k (.str [41]))),oM 2 44]
[2])
.ret))))⟩
abbrev pp23:=pcR np19 cp23 Tryz.func75
def cpW_:AFun:=⟨2,0,[.t 0],
 (.seq (.reg [op 0 (.nilrow ts_ 1)]
[])
(.seq (.reg [op 1 (.mkrow ts_ 1 22 (.str []) [(0,.k (.str [97,99,99,101,112,116])),(1,.k (.str [97,108,115,111])),(2,.k (.str [97,110,100])),(3,.k (.str [98,111,111,108])),(4,.k (.str [100,111])),(5,.k (.str [101,118,101,110,116])),(6,.k (.str [101,120,105,115,116,115])),(7,.k (.str [102,97,108,115,101])),(8,.k (.str [102,111,114,97,108,108])),(9,.k (.str [102,114,101,101])),(10,.k (.str [105,102])),(11,.k (.str [105,110,116])),(12,.k (.str [110,101,120,116])),(13,.k (.str [110,111,116])),(14,.k (.str [111,110])),(15,.k (.str [111,114])),(16,.k (.str [113,101,97])),(17,.k (.str [115,107,105,112])),(18,.k (.str [115,116,97,114,116])),(19,.k (.str [115,116,114,105,110,103])),(20,.k (.str [116,111])),(21,.k (.str [116,114,117,101]))]),oM 0 1]
[0])
.ret))⟩
abbrev ppW_:=pcR npW_ cpW_ Tryz.func167
def cp27:AFun:=⟨166,1,[.t 2],
 (.seq (.reg [op 1 (.box taQ_ 9 (.t 0)),oC 2 0]
[1])
(.seq (.seq (.reg [oF 9 1 1,oL 10 9,oZ 11 10,oK 12 .gtr 11 12,oM 13 12,qF 14 1 2 13 false,qL 15 14 13 false,oG 16 (.len false (.t 15)) 13 false,qK 17 .gtr 16 9 13 false,oO 18 13 17,oM 19 18,qF 20 1 3 19 false,qL 21 20 19 false,oG 22 (.len false (.t 21)) 19 false,qK 23 .gtr 22 12 19 false,oO 24 19 23,oM 25 24,qF 26 1 4 25 false,qL 27 26 25 false,oG 28 (.len false (.t 27)) 25 false,qK 29 .gtr 28 12 25 false,oO 30 25 29,oM 31 30,qF 32 1 6 31 false,qL 33 32 31 false,oG 34 (.len false (.t 33)) 31 false,qK 35 .gtr 34 12 31 false,oO 36 31 35,oM 37 36,qF 38 1 8 37 false,qL 39 38 37 false,oG 40 (.len false (.t 39)) 37 false,qK 41 .gtr 40 12 37 false,oO 42 37 41,oM 43 42,qF 44 1 7 43 false,qL 45 44 43 false,oG 46 (.len false (.t 45)) 43 false,qK 47 .gtr 46 40 43 false,oO 48 43 47,oM 49 48,qF 50 1 0 49 false,qL 51 50 49 false,oG 52 (.len true (.t 51)) 49 false,qK 53 .gtr 52 100 49 false,oO 54 49 53]
[1,54])
(.cond (.t 54)
(.seq (.reg [oC 2 0]
[2])
.ret)
.skip))
(.seq (.seq (.reg [oC 3 0]
[1,3])
(.block 0
(.loop [1,3] [1,11,16,22,28,34,40,46,52]
 (.seq (.seq (.reg [oM 55 3,oF 56 1 1,oL 57 56,oZ 58 57,oB 59 .lss 55 58]
[1,3,59])
(.cond (.t 59)
.skip
(.exit 0)))
(.seq (.block 1
(.seq (.reg [oF 62 1 1,oL 63 62,oM 64 3,oI 65 2 63 64,oF 66 65 1,oL 67 66,oZ 68 67,oK 69 .gtr 68 12,oM 70 69,qF 71 1 1 70 false,qL 72 71 70 false,qM 73 3 70 false,qI 74 2 72 73 70 false,qF 75 74 0 70 false,qL 76 75 70 false,oG 77 (.len true (.t 76)) 70 false,qK 78 .gtr 77 100 70 false,oO 79 70 78]
[1,3,79])
(.cond (.t 79)
(.seq (.reg [oC 2 0]
[2])
.ret)
.skip)))
(.reg [oM 60 3,oK 61 .add 60 1,oM 3 61]
[1,3]))))))
(.seq (.seq (.reg [oC 4 0]
[1,4])
(.block 2
(.loop [1,4] [1,11,16,22,28,34,40,46,52,58,68,77]
 (.seq (.seq (.reg [oM 80 4,oF 81 1 6,oL 82 81,oZ 83 82,oB 84 .lss 80 83]
[1,4,84])
(.cond (.t 84)
.skip
(.exit 2)))
(.seq (.block 3
(.seq (.seq (.reg [oF 87 1 6,oL 88 87,oM 89 4,oI 90 2 88 89,oF 91 90 1,oL 92 91,oZ 93 92,oK 94 .gtr 93 12]
[1,4,94])
(.cond (.t 94)
(.seq (.reg [oC 2 0]
[2])
.ret)
.skip))
(.seq (.reg [oC 5 0]
[1,4,5])
(.block 4
(.loop [1,4,5] [1,11,16,22,28,34,40,46,52,58,68,77,83,93]
 (.seq (.seq (.reg [oM 95 5,oF 96 1 6,oL 97 96,oM 98 4,oI 99 2 97 98,oF 100 99 1,oL 101 100,oZ 102 101,oB 103 .lss 95 102]
[1,4,5,103])
(.cond (.t 103)
.skip
(.exit 4)))
(.seq (.block 5
(.seq (.reg [oF 106 1 6,oL 107 106,oM 108 4,oI 109 2 107 108,oF 110 109 1,oL 111 110,oM 112 5,oI 113 6 111 112,oF 114 113 2,oF 115 114 2,oL 116 115,op 117 (.len true (.t 116)),oK 118 .gtr 117 100]
[1,4,5,118])
(.cond (.t 118)
(.seq (.reg [oC 2 0]
[2])
.ret)
.skip)))
(.reg [oM 104 5,oK 105 .add 104 1,oM 5 105]
[1,4,5]))))))))
(.reg [oM 85 4,oK 86 .add 85 1,oM 4 86]
[1,4]))))))
(.seq (.seq (.reg [oC 6 0]
[1,6])
(.block 6
(.loop [1,6] [1,11,16,22,28,34,40,46,52,58,68,77,83,93,102,117]
 (.seq (.seq (.reg [oM 119 6,oF 120 1 3,oL 121 120,oZ 122 121,oB 123 .lss 119 122]
[1,6,123])
(.cond (.t 123)
.skip
(.exit 6)))
(.seq (.block 7
(.seq (.reg [oF 126 1 3,oL 127 126,oM 128 6,oI 129 5 127 128,oF 130 129 1,oF 131 130 2,oL 132 131,op 133 (.len true (.t 132)),oK 134 .gtr 133 100]
[1,6,134])
(.cond (.t 134)
(.seq (.reg [oC 2 0]
[2])
.ret)
.skip)))
(.reg [oM 124 6,oK 125 .add 124 1,oM 6 125]
[1,6]))))))
(.seq (.seq (.reg [oC 7 0]
[1,7])
(.block 8
(.loop [1,7] [1,11,16,22,28,34,40,46,52,58,68,77,83,93,102,117,122,133]
 (.seq (.seq (.reg [oM 135 7,oF 136 1 7,oL 137 136,oZ 138 137,oB 139 .lss 135 138]
[1,7,139])
(.cond (.t 139)
.skip
(.exit 8)))
(.seq (.block 9
(.seq (.reg [oF 142 1 7,oL 143 142,oM 144 7,oI 145 7 143 144,oF 146 145 3,oF 147 146 2,oL 148 147,op 149 (.len true (.t 148)),oK 150 .gtr 149 100]
[1,7,150])
(.cond (.t 150)
(.seq (.reg [oC 2 0]
[2])
.ret)
.skip)))
(.reg [oM 140 7,oK 141 .add 140 1,oM 7 141]
[1,7]))))))
(.seq (.seq (.reg [oC 8 0]
[1,8])
(.block 10
(.loop [1,8] [1,11,16,22,28,34,40,46,52,58,68,77,83,93,102,117,122,133,138,149]
 (.seq (.seq (.reg [oM 151 8,oF 152 1 8,oL 153 152,oZ 154 153,oB 155 .lss 151 154]
[1,8,155])
(.cond (.t 155)
.skip
(.exit 10)))
(.seq (.block 11
(.seq (.reg [oF 158 1 8,oL 159 158,oM 160 8,oI 161 5 159 160,oF 162 161 4,oL 163 162,oZ 164 163,oK 165 .gtr 164 12]
[1,8,165])
(.cond (.t 165)
(.seq (.reg [oC 2 0]
[2])
.ret)
.skip)))
(.reg [oM 156 8,oK 157 .add 156 1,oM 8 157]
[1,8]))))))
(.seq (.reg [oC 2 1]
[2])
.ret))))))))⟩
abbrev pp27:=pcR npF_ cp27 Tryz.func4
def cpK_:AFun:=⟨27,3,[.t 6,.t 7],
 (.seq (.reg [op 3 (.box taQ_ 9 (.t 0)),oC 6 0,oC 7 0]
[1,2,3])
(.seq (.reg [oN 12 3 9,oM 13 2,op 14 (.call npb_ [.t 12,.t 13]),oM 11 14,oE 15 11 0,oE 16 11 1,oE 17 11 2,oM 8 15,oM 9 16,oM 10 17]
[1,8,9,10])
(.seq (.seq (.reg [oM 18 8,oK 19 .eql 18 0,oM 20 19,qM 21 10 20 false,qM 22 1 20 false,qB 23 .neq 21 22 20 false,oO 24 20 23]
[8,9,24])
(.cond (.t 24)
(.seq (.reg [oC 6 0,oC 7 0]
[6,7])
.ret)
.skip))
(.seq (.reg [oM 25 8,oM 26 9,oM 6 25,oM 7 26]
[6,7])
.ret))))⟩
abbrev ppK_:=pcR npK_ cpK_ Tryz.func71
def cpN_:AFun:=⟨30,2,[.t 4],
 (.seq (.reg [op 2 (.box taS_ 2 (.t 0)),oV 4 false]
[1,2])
(.seq (.seq (.reg [oC 5 0]
[1,2,5])
(.block 0
(.loop [1,2,5] [2]
 (.seq (.seq (.reg [oM 6 5,oF 7 2 1,oL 8 7,oZ 9 8,oB 10 .lss 6 9]
[1,2,5,10])
(.cond (.t 10)
.skip
(.exit 0)))
(.seq (.block 1
(.seq (.reg [oF 13 2 1,oL 14 13,oM 15 5,oI 16 6 14 15,oF 17 16 0,oL 18 17,oK 19 .eql 18 2,oM 20 19,qF 21 2 1 20 true,qL 22 21 20 true,qM 23 5 20 true,qI 24 6 22 23 20 true,qF 25 24 1 20 true,qL 26 25 20 true,qM 27 1 20 true,qB 28 .eql 26 27 20 true,oA 29 20 28]
[1,2,5,29])
(.cond (.t 29)
(.seq (.reg [oV 4 true]
[4])
.ret)
.skip)))
(.reg [oM 11 5,oK 12 .add 11 1,oM 5 12]
[1,2,5]))))))
(.seq (.reg [oV 4 false]
[4])
.ret)))⟩
abbrev ppN_:=pcR np15 cpN_ Tryz.func74
def cpR_:AFun:=⟨101,1,[.t 2],
 (.seq (.reg [op 1 (.box taQ_ 9 (.t 0)),oV 2 false]
[1])
(.seq (.reg [oF 10 1 1,oL 11 10,op 12 (.call npC_ [.t 11]),oM 9 12,oE 13 9 0,oE 14 9 1,oM 3 13,oM 4 14]
[1,3])
(.seq (.seq (.reg [oM 15 3,oK 16 .neq 15 0,oM 17 16,qF 18 1 2 17 false,qL 19 18 17 false,oG 20 (.len false (.t 19)) 17 false,qK 21 .gtr 20 8 17 false,oO 22 17 21,oM 23 22,qF 24 1 3 23 false,qL 25 24 23 false,oG 26 (.len false (.t 25)) 23 false,qK 27 .gtr 26 16 23 false,oO 28 23 27,oM 29 28,qF 30 1 4 29 false,qL 31 30 29 false,oG 32 (.len false (.t 31)) 29 false,qK 33 .gtr 32 32 29 false,oO 34 29 33,oM 35 34,qF 36 1 6 35 false,qL 37 36 35 false,oG 38 (.len false (.t 37)) 35 false,qK 39 .gtr 38 64 35 false,oO 40 35 39,oM 41 40,qF 42 1 7 41 false,qL 43 42 41 false,oG 44 (.len false (.t 43)) 41 false,qK 45 .gtr 44 2048 41 false,oO 46 41 45,oM 47 46,qF 48 1 8 47 false,qL 49 48 47 false,oG 50 (.len false (.t 49)) 47 false,qK 51 .gtr 50 256 47 false,oO 52 47 51,oM 53 52,qF 54 1 5 53 false,qL 55 54 53 false,qK 56 .lss 55 0 53 false,oO 57 53 56,oM 58 57,qF 59 1 5 58 false,qL 60 59 58 false,qF 61 1 4 58 false,qL 62 61 58 false,oG 63 (.len false (.t 62)) 58 false,qB 64 .geq 60 63 58 false,oO 65 58 64,oM 66 65,qN 67 1 9 66 false,oG 68 (.call np24 [.t 67]) 66 false,oG 69 (.un .not (.t 68)) 66 false,oO 70 66 69]
[1,70])
(.cond (.t 70)
(.seq (.reg [oV 2 false]
[2])
.ret)
.skip))
(.seq (.reg [oC 5 0]
[1,5])
(.seq (.seq (.reg [oC 6 0]
[1,5,6])
(.block 0
(.loop [1,5,6] [1,12,20,26,32,38,44,50,63,68]
 (.seq (.seq (.reg [oM 71 6,oF 72 1 8,oL 73 72,oZ 74 73,oB 75 .lss 71 74]
[1,5,6,75])
(.cond (.t 75)
.skip
(.exit 0)))
(.seq (.block 1
(.seq (.dreg [oN 79 1 9,oF 80 1 8,oL 81 80,oM 82 6,oI 83 5 81 82,oN 84 83 5,oM 85 5,op 86 (.call np23 [.t 79,.t 84,.t 85]),oM 78 86,oE 87 78 0,oE 88 78 1,oM 7 87,oM 8 88]
[1,6,7,8])
(.seq (.seq (.reg [oM 89 8,oU 90 89]
[1,6,7,90])
(.cond (.t 90)
(.seq (.reg [oV 2 false]
[2])
.ret)
.skip))
(.reg [oM 91 7,oM 5 91]
[1,5,6]))))
(.reg [oM 76 6,oK 77 .add 76 1,oM 6 77]
[1,5,6]))))))
(.seq (.reg [oM 92 5,oF 93 1 7,oL 94 93,oZ 95 94,oB 96 .eql 92 95,oM 97 96,qN 98 1 9 97 true,oG 99 (.call np20 [.t 98]) 97 true,oA 100 97 99,oM 2 100]
[2])
.ret))))))⟩
abbrev ppR_:=pcR npR_ cpR_ Tryz.func8
def cp22:AFun:=⟨149,2,[.t 4],
 (.seq (.reg [op 2 (.box taQ_ 9 (.t 0)),op 3 (.box taQ_ 9 (.t 1)),oV 4 false]
[2,3])
(.seq (.seq (.reg [oN 11 2 9,oN 12 3 9,op 13 (.call nps_ [.t 11,.t 12]),oU 14 13,oM 15 14,qF 16 2 6 15 false,qL 17 16 15 false,oG 18 (.len false (.t 17)) 15 false,qF 19 3 6 15 false,qL 20 19 15 false,oG 21 (.len false (.t 20)) 15 false,qB 22 .neq 18 21 15 false,oO 23 15 22,oM 24 23,qF 25 2 7 24 false,qL 26 25 24 false,oG 27 (.len false (.t 26)) 24 false,qF 28 3 7 24 false,qL 29 28 24 false,oG 30 (.len false (.t 29)) 24 false,qB 31 .neq 27 30 24 false,oO 32 24 31,oM 33 32,qF 34 2 8 33 false,qL 35 34 33 false,oG 36 (.len false (.t 35)) 33 false,qF 37 3 8 33 false,qL 38 37 33 false,oG 39 (.len false (.t 38)) 33 false,qB 40 .neq 36 39 33 false,oO 41 33 40]
[2,3,41])
(.cond (.t 41)
(.seq (.reg [oV 4 false]
[4])
.ret)
.skip))
(.seq (.seq (.reg [oC 5 0]
[2,3,5])
(.block 0
(.loop [2,3,5] [2,3,13,18,21,27,30,36,39]
 (.seq (.seq (.reg [oM 42 5,oF 43 2 6,oL 44 43,oZ 45 44,oB 46 .lss 42 45]
[2,3,5,46])
(.cond (.t 46)
.skip
(.exit 0)))
(.seq (.block 1
(.seq (.dreg [oF 49 2 6,oL 50 49,oM 51 5,oI 52 2 50 51,oN 53 52 2,oF 54 3 6,oL 55 54,oM 56 5,oI 57 2 55 56,oN 58 57 2,op 59 (.call np10 [.t 53,.t 58]),oU 60 59]
[2,3,5,60])
(.cond (.t 60)
(.seq (.reg [oV 4 false]
[4])
.ret)
.skip)))
(.reg [oM 47 5,oK 48 .add 47 1,oM 5 48]
[2,3,5]))))))
(.seq (.seq (.reg [oC 6 0]
[2,3,6])
(.block 2
(.loop [2,3,6] [2,3,13,18,21,27,30,36,39,45,59]
 (.seq (.seq (.reg [oM 61 6,oF 62 2 7,oL 63 62,oZ 64 63,oB 65 .lss 61 64]
[2,3,6,65])
(.cond (.t 65)
.skip
(.exit 2)))
(.seq (.block 3
(.seq (.dreg [oF 68 2 7,oL 69 68,oM 70 6,oI 71 7 69 70,oN 72 71 7,oF 73 3 7,oL 74 73,oM 75 6,oI 76 7 74 75,oN 77 76 7,op 78 (.eqA true [0,0,0,0,0,1,2] (.t 72) (.t 77))]
[2,3,6,78])
(.cond (.t 78)
(.seq (.reg [oV 4 false]
[4])
.ret)
.skip)))
(.reg [oM 66 6,oK 67 .add 66 1,oM 6 67]
[2,3,6]))))))
(.seq (.seq (.reg [oC 7 0]
[2,3,7])
(.block 4
(.loop [2,3,7] [2,3,13,18,21,27,30,36,39,45,59,64]
 (.seq (.seq (.reg [oM 79 7,oF 80 2 8,oL 81 80,oZ 82 81,oB 83 .lss 79 82]
[2,3,7,83])
(.cond (.t 83)
.skip
(.exit 4)))
(.seq (.block 5
(.seq (.reg [oF 86 2 8,oL 87 86,oM 88 7,oI 89 5 87 88,oN 90 89 5,op 8 (.alloc taT_ 5 (.agg [iv 0,iv 0,iv 0,iv 0,.nils])),
⟨none,.store (.t 8) (.t 90) 5,none⟩]
[2,3,7,8])
(.seq (.reg [oF 91 3 8,oL 92 91,oM 93 7,oI 94 5 92 93,oN 95 94 5,op 9 (.alloc taT_ 5 (.agg [iv 0,iv 0,iv 0,iv 0,.nils])),
⟨none,.store (.t 9) (.t 95) 5,none⟩]
[2,3,7,8,9])
(.seq (.seq (.reg [oF 96 8 0,oL 97 96,oF 98 9 0,oL 99 98,oB 100 .neq 97 99,oM 101 100,qF 102 8 1 101 false,qL 103 102 101 false,qF 104 9 1 101 false,qL 105 104 101 false,qB 106 .neq 103 105 101 false,oO 107 101 106,oM 108 107,qF 109 8 2 108 false,qL 110 109 108 false,qF 111 9 2 108 false,qL 112 111 108 false,qB 113 .neq 110 112 108 false,oO 114 108 113,oM 115 114,qF 116 8 3 115 false,qL 117 116 115 false,qF 118 9 3 115 false,qL 119 118 115 false,qB 120 .neq 117 119 115 false,oO 121 115 120,oM 122 121,qF 123 8 4 122 false,qL 124 123 122 false,oG 125 (.len false (.t 124)) 122 false,qF 126 9 4 122 false,qL 127 126 122 false,oG 128 (.len false (.t 127)) 122 false,qB 129 .neq 125 128 122 false,oO 130 122 129]
[2,3,7,8,9,130])
(.cond (.t 130)
(.seq (.reg [oV 4 false]
[4])
.ret)
.skip))
(.seq (.reg [oC 10 0]
[2,3,7,8,9,10])
(.block 6
(.loop [2,3,7,8,9,10] [2,3,13,18,21,27,30,36,39,45,59,64,82,8,9,125,128]
 (.seq (.seq (.reg [oM 131 10,oF 132 8 4,oL 133 132,oZ 134 133,oB 135 .lss 131 134]
[2,3,7,8,9,10,135])
(.cond (.t 135)
.skip
(.exit 6)))
(.seq (.block 7
(.seq (.dreg [oF 138 8 4,oL 139 138,oM 140 10,oI 141 2 139 140,oN 142 141 2,oF 143 9 4,oL 144 143,oM 145 10,oI 146 2 144 145,oN 147 146 2,op 148 (.eqA true [0,0] (.t 142) (.t 147))]
[2,3,7,8,9,10,148])
(.cond (.t 148)
(.seq (.reg [oV 4 false]
[4])
.ret)
.skip)))
(.reg [oM 136 10,oK 137 .add 136 1,oM 10 137]
[2,3,7,8,9,10]))))))))))
(.reg [oM 84 7,oK 85 .add 84 1,oM 7 85]
[2,3,7]))))))
(.seq (.reg [oV 4 true]
[4])
.ret))))))⟩
abbrev pp22:=pcR npS_ cp22 Tryz.func9
def cpS_:AFun:=⟨38,2,[.t 4],
 (.seq (.reg [op 2 (.box taS_ 2 (.t 0)),op 3 (.box taS_ 2 (.t 1)),oV 4 false]
[2,3])
(.seq (.seq (.reg [oF 6 2 0,oL 7 6,oF 8 3 0,oL 9 8,oB 10 .neq 7 9,oM 11 10,qF 12 2 1 11 false,qL 13 12 11 false,oG 14 (.len false (.t 13)) 11 false,qF 15 3 1 11 false,qL 16 15 11 false,oG 17 (.len false (.t 16)) 11 false,qB 18 .neq 14 17 11 false,oO 19 11 18]
[2,3,19])
(.cond (.t 19)
(.seq (.reg [oV 4 false]
[4])
.ret)
.skip))
(.seq (.seq (.reg [oC 5 0]
[2,3,5])
(.block 0
(.loop [2,3,5] [2,3,14,17]
 (.seq (.seq (.reg [oM 20 5,oF 21 2 1,oL 22 21,oZ 23 22,oB 24 .lss 20 23]
[2,3,5,24])
(.cond (.t 24)
.skip
(.exit 0)))
(.seq (.block 1
(.seq (.dreg [oF 27 2 1,oL 28 27,oM 29 5,oI 30 6 28 29,oN 31 30 6,oF 32 3 1,oL 33 32,oM 34 5,oI 35 6 33 34,oN 36 35 6,op 37 (.eqA true [0,0,0,0,1,2] (.t 31) (.t 36))]
[2,3,5,37])
(.cond (.t 37)
(.seq (.reg [oV 4 false]
[4])
.ret)
.skip)))
(.reg [oM 25 5,oK 26 .add 25 1,oM 5 26]
[2,3,5]))))))
(.seq (.reg [oV 4 true]
[4])
.ret))))⟩
abbrev ppS_:=pcR np10 cpS_ Tryz.func31
def cp21:AFun:=⟨31,3,[.t 6],
 (.seq (.reg [oC 6 0]
[0,1,2])
(.seq (.seq (.reg [oM 9 1,oK 10 .lss 9 1,oM 11 10,qM 12 1 11 false,qM 13 2 11 false,qB 14 .neq 12 13 11 false,oO 15 11 14]
[0,1,2,15])
(.cond (.t 15)
(.seq (.reg [oC 6 0]
[6])
.ret)
.skip))
(.seq (.reg [oM 17 0,oM 18 1,op 19 (.build [iv 0,iv 0,.str [],.bool false] [(0,1,.t 18)]),oM 20 2,op 21 (.build [iv 0,iv 0,.str [],.bool false] [(0,1,.t 20)]),op 22 (.call npO_ [.t 17,.t 19,.t 21]),oM 16 22,oE 23 16 0,oE 24 16 1,op 7 (.alloc taV_ 4 (.agg [iv 0,iv 0,.str [],.bool false])),
⟨none,.store (.t 7) (.t 23) 4,none⟩,oM 8 24]
[7,8])
(.seq (.seq (.reg [oM 25 8,oK 26 .eql 25 7]
[7,8,26])
(.cond (.t 26)
(.seq (.reg [oC 6 1]
[6])
.ret)
.skip))
(.seq (.seq (.reg [oM 27 8,oK 28 .neq 27 0]
[7,28])
(.cond (.t 28)
(.seq (.reg [oC 6 0]
[6])
.ret)
.skip))
(.seq (.reg [oF 29 7 0,oL 30 29,oM 6 30]
[6])
.ret))))))⟩
abbrev pp21:=pcR np18 cp21 Tryz.func229
def cp26:AFun:=⟨90,3,[.t 6],
 (.seq (.reg [op 3 (.box taQ_ 9 (.t 0)),op 4 (.box taA_ 6 (.t 1)),oV 6 false]
[2,3,4])
(.seq (.reg [op 8 (.build [iv 0,iv 0,.str [],.bool false] []),op 7 (.alloc taV_ 4 (.agg [iv 0,iv 0,.str [],.bool false])),
⟨none,.store (.t 7) (.t 8) 4,none⟩]
[2,3,4,7])
(.seq (.seq (.reg [oF 9 4 0,oL 10 9,oK 11 .eql 10 1]
[2,3,4,7,11])
(.cond (.t 11)
(.seq (.reg [oF 12 4 1,oL 13 12,oK 14 .eql 13 0,oM 15 14,qF 16 4 2 15 true,qN 17 16 4 15 true,oG 18 (.call np12 [.t 17]) 15 true,oA 19 15 18,oM 20 19,qF 21 4 2 20 true,qF 22 21 0 20 true,qL 23 22 20 true,qM 24 2 20 true,qB 25 .eql 23 24 20 true,oA 26 20 25,oM 6 26]
[6])
.ret)
.skip))
(.seq (.seq (.reg [oF 27 4 2,oN 28 27 4,oN 29 7 4,op 30 (.eqA true [0,0,1,2] (.t 28) (.t 29))]
[2,3,4,30])
(.cond (.t 30)
(.seq (.reg [oV 6 false]
[6])
.ret)
.skip))
(.seq (.seq (.reg [oF 31 4 0,oL 32 31,oK 33 .eql 32 2]
[2,3,4,33])
(.cond (.t 33)
(.seq (.reg [oF 34 4 1,oL 35 34,oK 36 .geq 35 0,oM 37 36,qF 38 4 1 37 true,qL 39 38 37 true,qF 40 3 2 37 true,qL 41 40 37 true,oG 42 (.len false (.t 41)) 37 true,qB 43 .lss 39 42 37 true,oA 44 37 43,oM 45 44,qF 46 3 2 45 true,qL 47 46 45 true,qF 48 4 1 45 true,qL 49 48 45 true,qI 50 3 47 49 45 true,qF 51 50 2 45 true,qL 52 51 45 true,qM 53 2 45 true,qB 54 .eql 52 53 45 true,oA 55 45 54,oM 6 55]
[6])
.ret)
.skip))
(.seq (.seq (.reg [oF 56 4 0,oL 57 56,oK 58 .eql 57 3]
[2,3,4,58])
(.cond (.t 58)
(.seq (.reg [oF 59 4 1,oL 60 59,oK 61 .geq 60 0,oM 62 61,qF 63 4 1 62 true,qL 64 63 62 true,qF 65 3 3 62 true,qL 66 65 62 true,oG 67 (.len false (.t 66)) 62 true,qB 68 .lss 64 67 62 true,oA 69 62 68,oM 70 69,qF 71 3 3 70 true,qL 72 71 70 true,qF 73 4 1 70 true,qL 74 73 70 true,qI 75 5 72 74 70 true,qF 76 75 1 70 true,qF 77 76 0 70 true,qL 78 77 70 true,qM 79 2 70 true,qB 80 .eql 78 79 70 true,oA 81 70 80,oM 6 81]
[6])
.ret)
.skip))
(.seq (.reg [oF 82 4 0,oL 83 82,oK 84 .eql 83 4,oM 85 84,qF 86 4 1 85 true,qL 87 86 85 true,qK 88 .eql 87 0 85 true,oA 89 85 88,oM 6 89]
[6])
.ret)))))))⟩
abbrev pp26:=pcR np29 cp26 Tryz.func170
def cpb_:AFun:=⟨185,2,[.t 4,.t 5,.t 6],
 (.seq (.reg [op 2 (.box taQ_ 9 (.t 0)),oC 4 0,oC 5 0,oC 6 0]
[1,2])
(.seq (.seq (.reg [oM 15 1,oK 16 .lss 15 0,oM 17 16,qM 18 1 17 false,qF 19 2 7 17 false,qL 20 19 17 false,oG 21 (.len false (.t 20)) 17 false,qB 22 .geq 18 21 17 false,oO 23 17 22]
[1,2,23])
(.cond (.t 23)
(.seq (.reg [oC 4 0,oC 5 0,oC 6 0]
[4,5,6])
.ret)
.skip))
(.seq (.reg [oF 24 2 7,oL 25 24,oM 26 1,oI 27 7 25 26,oN 28 27 7,op 7 (.alloc taN_ 7 (.agg [iv 0,iv 0,iv 0,iv 0,iv 0,.str [],.bool false])),
⟨none,.store (.t 7) (.t 28) 7,none⟩]
[1,2,7])
(.seq (.reg [op 29 (.build [iv 0,iv 0,.str [],.bool false] []),op 8 (.alloc taV_ 4 (.agg [iv 0,iv 0,.str [],.bool false])),
⟨none,.store (.t 8) (.t 29) 4,none⟩]
[1,2,7,8])
(.seq (.seq (.reg [oF 30 7 0,oL 31 30,oK 32 .eql 31 1]
[1,2,7,8,32])
(.cond (.t 32)
(.seq (.seq (.reg [oF 33 7 1,oL 34 33,oK 35 .neq 34 0,oM 36 35,qF 37 7 2 36 false,qL 38 37 36 false,qK 39 .neq 38 0 36 false,oO 40 36 39,oM 41 40,qF 42 7 3 41 false,qN 43 42 4 41 false,oG 44 (.call np12 [.t 43]) 41 false,oG 45 (.un .not (.t 44)) 41 false,oO 46 41 45]
[1,7,46])
(.cond (.t 46)
(.seq (.reg [oC 4 0,oC 5 0,oC 6 0]
[4,5,6])
.ret)
.skip))
(.seq (.reg [oF 47 7 3,oF 48 47 0,oL 49 48,oM 50 1,oM 4 49,oC 5 1,oM 6 50]
[4,5,6])
.ret))
.skip))
(.seq (.seq (.reg [oF 51 7 3,oN 52 51 4,oN 53 8 4,op 54 (.eqA true [0,0,1,2] (.t 52) (.t 53))]
[1,2,7,54])
(.cond (.t 54)
(.seq (.reg [oC 4 0,oC 5 0,oC 6 0]
[4,5,6])
.ret)
.skip))
(.seq (.seq (.reg [oF 55 7 0,oL 56 55,oK 57 .eql 56 2]
[1,2,7,57])
(.cond (.t 57)
(.seq (.seq (.reg [oF 58 7 1,oL 59 58,oK 60 .lss 59 0,oM 61 60,qF 62 7 1 61 false,qL 63 62 61 false,qF 64 2 2 61 false,qL 65 64 61 false,oG 66 (.len false (.t 65)) 61 false,qB 67 .geq 63 66 61 false,oO 68 61 67,oM 69 68,qF 70 7 2 69 false,qL 71 70 69 false,qK 72 .neq 71 0 69 false,oO 73 69 72]
[1,2,7,73])
(.cond (.t 73)
(.seq (.reg [oC 4 0,oC 5 0,oC 6 0]
[4,5,6])
.ret)
.skip))
(.seq (.reg [oF 74 2 2,oL 75 74,oF 76 7 1,oL 77 76,oI 78 3 75 77,oF 79 78 2,oL 80 79,oM 81 1,oM 4 80,oC 5 1,oM 6 81]
[4,5,6])
.ret))
.skip))
(.seq (.seq (.reg [oF 82 7 0,oL 83 82,oK 84 .eql 83 3]
[1,2,7,84])
(.cond (.t 84)
(.seq (.seq (.reg [oF 85 7 1,oL 86 85,oK 87 .lss 86 0,oM 88 87,qF 89 7 1 88 false,qL 90 89 88 false,qF 91 2 3 88 false,qL 92 91 88 false,oG 93 (.len false (.t 92)) 88 false,qB 94 .geq 90 93 88 false,oO 95 88 94,oM 96 95,qF 97 7 2 96 false,qL 98 97 96 false,qK 99 .neq 98 0 96 false,oO 100 96 99]
[1,2,7,100])
(.cond (.t 100)
(.seq (.reg [oC 4 0,oC 5 0,oC 6 0]
[4,5,6])
.ret)
.skip))
(.seq (.reg [oF 101 2 3,oL 102 101,oF 103 7 1,oL 104 103,oI 105 5 102 104,oF 106 105 1,oF 107 106 0,oL 108 107,oM 109 1,oM 4 108,oC 5 1,oM 6 109]
[4,5,6])
.ret))
.skip))
(.seq (.seq (.reg [oF 110 7 0,oL 111 110,oK 112 .lss 111 4,oM 113 112,qF 114 7 0 113 false,qL 115 114 113 false,qK 116 .gtr 115 16 113 false,oO 117 113 116]
[1,2,7,117])
(.cond (.t 117)
(.seq (.reg [oC 4 0,oC 5 0,oC 6 0]
[4,5,6])
.ret)
.skip))
(.seq (.reg [oN 119 2 9,oM 120 1,oK 121 .sub 120 1,op 122 (.call npb_ [.t 119,.t 121]),oM 118 122,oE 123 118 0,oE 124 118 1,oE 125 118 2,oM 9 123,oM 10 124,oM 11 125]
[1,2,7,9,10,11])
(.seq (.seq (.reg [oF 126 7 0,oL 127 126,oK 128 .leq 127 5]
[1,2,7,9,10,11,128])
(.cond (.t 128)
(.seq (.seq (.reg [oM 129 9,oK 130 .eql 129 0,oM 131 130,qF 132 7 1 131 false,qL 133 132 131 false,qM 134 1 131 false,qK 135 .sub 134 1 131 false,qB 136 .neq 133 135 131 false,oO 137 131 136,oM 138 137,qF 139 7 2 138 false,qL 140 139 138 false,qK 141 .neq 140 0 138 false,oO 142 138 141]
[7,9,10,11,142])
(.cond (.t 142)
(.seq (.reg [oC 4 0,oC 5 0,oC 6 0]
[4,5,6])
.ret)
.skip))
(.seq (.reg [oF 143 7 0,oL 144 143,oM 145 9,oM 146 9,op 147 (.call np18 [.t 144,.t 145,.t 146]),oM 148 10,oK 149 .add 148 1,oM 150 11,oM 4 147,oM 5 149,oM 6 150]
[4,5,6])
.ret))
.skip))
(.seq (.seq (.reg [oM 151 9,oK 152 .eql 151 0,oM 153 152,qF 154 7 2 153 false,qL 155 154 153 false,qM 156 1 153 false,qK 157 .sub 156 1 153 false,qB 158 .neq 155 157 153 false,oO 159 153 158,oM 160 159,qF 161 7 1 160 false,qL 162 161 160 false,qM 163 11 160 false,qK 164 .sub 163 1 160 false,qB 165 .neq 162 164 160 false,oO 166 160 165]
[2,7,9,10,11,166])
(.cond (.t 166)
(.seq (.reg [oC 4 0,oC 5 0,oC 6 0]
[4,5,6])
.ret)
.skip))
(.seq (.reg [oN 168 2 9,oM 169 11,oK 170 .sub 169 1,op 171 (.call npb_ [.t 168,.t 170]),oM 167 171,oE 172 167 0,oE 173 167 1,oE 174 167 2,oM 12 172,oM 13 173,oM 14 174]
[7,9,10,12,13,14])
(.seq (.reg [oF 175 7 0,oL 176 175,oM 177 12,oM 178 9,op 179 (.call np18 [.t 176,.t 177,.t 178]),oM 180 10,oM 181 13,op 182 (.mx false (.t 180) (.t 181)),oK 183 .add 182 1,oM 184 14,oM 4 179,oM 5 183,oM 6 184]
[4,5,6])
.ret))))))))))))))⟩
abbrev ppb_:=pcR npb_ cpb_ Tryz.func169
def cp16:AFun:=⟨34,4,[.t 8],
 (.seq (.reg [op 4 (.box taQ_ 9 (.t 0)),op 5 (.box taS_ 2 (.t 1)),oV 8 false]
[2,3,4,5])
(.seq (.seq (.reg [oM 10 2,oM 9 10]
[3,4,5,9])
(.block 0
(.loop [3,4,5,9] [4,5]
 (.seq (.seq (.reg [oM 11 9,oM 12 3,oB 13 .lss 11 12]
[3,4,5,9,13])
(.cond (.t 13)
.skip
(.exit 0)))
(.seq (.block 1
(.seq (.dreg [oF 16 4 7,oL 17 16,oM 18 9,oI 19 7 17 18,oF 20 19 0,oL 21 20,oK 22 .eql 21 2,oM 23 22,qN 24 5 2 23 true,qF 25 4 7 23 true,qL 26 25 23 true,qM 27 9 23 true,qI 28 7 26 27 23 true,qF 29 28 1 23 true,qL 30 29 23 true,oG 31 (.call np15 [.t 24,.t 30]) 23 true,oG 32 (.un .not (.t 31)) 23 true,oA 33 23 32]
[3,4,5,9,33])
(.cond (.t 33)
(.seq (.reg [oV 8 false]
[8])
.ret)
.skip)))
(.reg [oM 14 9,oK 15 .add 14 1,oM 9 15]
[3,4,5,9]))))))
(.seq (.reg [oV 8 true]
[8])
.ret)))⟩
abbrev pp16:=pcR np25 cp16 Tryz.func72
def cp15:AFun:=⟨112,1,[.t 2],
 (.seq (.reg [op 1 (.box taQ_ 9 (.t 0)),oV 2 false]
[1])
(.seq (.reg [op 3 (.nilrow ts_ 1)]
[1,3])
(.seq (.seq (.reg [oC 4 0]
[1,3,4])
(.block 0
(.loop [1,3,4] [1,3,24]
 (.seq (.seq (.reg [oM 9 4,oF 10 1 2,oL 11 10,oZ 12 11,oB 13 .lss 9 12]
[1,3,4,13])
(.cond (.t 13)
.skip
(.exit 0)))
(.seq (.block 1
(.seq (.reg [oM 16 3,oF 17 1 2,oL 18 17,oM 19 4,oI 20 3 18 19,oF 21 20 1,oL 22 21,op 23 (.mkrow ts_ 1 1 (.str []) [(0,.t 22)]),op 24 (.app ts_ 1 16 (.t 16) (.t 23)),oM 3 24]
[1,3,4])
(.seq (.reg [oF 25 1 2,oL 26 25,oM 27 4,oI 28 3 26 27,oF 29 28 2,oL 30 29,oK 31 .lss 30 1,oM 32 31,qF 33 1 2 32 false,qL 34 33 32 false,qM 35 4 32 false,qI 36 3 34 35 32 false,qF 37 36 2 32 false,qL 38 37 32 false,qK 39 .gtr 38 3 32 false,oO 40 32 39]
[1,3,4,40])
(.cond (.t 40)
(.seq (.reg [oV 2 false]
[2])
.ret)
.skip))))
(.reg [oM 14 4,oK 15 .add 14 1,oM 4 15]
[1,3,4]))))))
(.seq (.seq (.reg [oC 5 0]
[1,3,5])
(.block 2
(.loop [1,3,5] [1,3,12,23,24,56]
 (.seq (.seq (.reg [oM 41 5,oF 42 1 3,oL 43 42,oZ 44 43,oB 45 .lss 41 44]
[1,3,5,45])
(.cond (.t 45)
.skip
(.exit 2)))
(.seq (.block 3
(.seq (.reg [oM 48 3,oF 49 1 3,oL 50 49,oM 51 5,oI 52 5 50 51,oF 53 52 0,oL 54 53,op 55 (.mkrow ts_ 1 1 (.str []) [(0,.t 54)]),op 56 (.app ts_ 1 16 (.t 48) (.t 55)),oM 3 56]
[1,3,5])
(.seq (.reg [oF 57 1 3,oL 58 57,oM 59 5,oI 60 5 58 59,oF 61 60 1,oN 62 61 4,op 63 (.call np12 [.t 62]),oU 64 63]
[1,3,5,64])
(.cond (.t 64)
(.seq (.reg [oV 2 false]
[2])
.ret)
.skip))))
(.reg [oM 46 5,oK 47 .add 46 1,oM 5 47]
[1,3,5]))))))
(.seq (.seq (.reg [oC 6 0]
[1,3,6])
(.block 4
(.loop [1,3,6] [1,3,12,23,24,44,55,56,63]
 (.seq (.seq (.reg [oM 65 6,oM 66 3,oZ 67 66,oB 68 .lss 65 67]
[1,3,6,68])
(.cond (.t 68)
.skip
(.exit 4)))
(.seq (.block 5
(.seq (.reg [oM 71 3,oM 72 6,oI 73 1 71 72,oL 74 73,op 75 (.call npN_ [.t 74]),oU 76 75,oM 77 76,qM 78 3 77 false,qM 79 6 77 false,oG 80 (.call np14 [.t 78,.t 79]) 77 false,oO 81 77 80]
[1,3,6,81])
(.cond (.t 81)
(.seq (.reg [oV 2 false]
[2])
.ret)
.skip)))
(.reg [oM 69 6,oK 70 .add 69 1,oM 6 70]
[1,3,6]))))))
(.seq (.reg [op 7 (.nilrow ts_ 1)]
[1,7])
(.seq (.seq (.reg [oC 8 0]
[1,7,8])
(.block 6
(.loop [1,7,8] [1,3,12,23,24,44,55,56,63,67,75,80,7,97]
 (.seq (.seq (.reg [oM 82 8,oF 83 1 4,oL 84 83,oZ 85 84,oB 86 .lss 82 85]
[1,7,8,86])
(.cond (.t 86)
.skip
(.exit 6)))
(.seq (.block 7
(.seq (.reg [oM 89 7,oF 90 1 4,oL 91 90,oM 92 8,oI 93 3 91 92,oF 94 93 0,oL 95 94,op 96 (.mkrow ts_ 1 1 (.str []) [(0,.t 95)]),op 97 (.app ts_ 1 16 (.t 89) (.t 96)),oM 7 97]
[1,7,8])
(.seq (.reg [oM 98 7,oM 99 8,oI 100 1 98 99,oL 101 100,op 102 (.call npN_ [.t 101]),oU 103 102,oM 104 103,qM 105 7 104 false,qM 106 8 104 false,oG 107 (.call np14 [.t 105,.t 106]) 104 false,oO 108 104 107]
[1,7,8,108])
(.cond (.t 108)
(.seq (.reg [oV 2 false]
[2])
.ret)
.skip))))
(.reg [oM 87 8,oK 88 .add 87 1,oM 8 88]
[1,7,8]))))))
(.seq (.reg [oF 109 1 0,oL 110 109,op 111 (.call npN_ [.t 110]),oM 2 111]
[2])
.ret))))))))⟩
abbrev pp15:=pcR np24 cp15 Tryz.func27
