/-
  Lemmas. No claim is proved here.
-/
import Derived.Test.YtkadalpaeglmnaaGreatDoorYAcR0
set_option linter.unusedSimpArgs false
namespace Go.Proofs.YtkadalpaeglmnaaGreatDoor.Ab
open Go
def cps_:AFun:=⟨162,2,[.t 4],
 (.seq (.reg [op 2 (.box taQ_ 9 (.t 0)),op 3 (.box taQ_ 9 (.t 1)),oV 4 false]
[2,3])
(.seq (.seq (.reg [oF 10 2 0,oL 11 10,oF 12 3 0,oL 13 12,oB 14 .neq 11 13,oM 15 14,qF 16 2 5 15 false,qL 17 16 15 false,qF 18 3 5 15 false,qL 19 18 15 false,qB 20 .neq 17 19 15 false,oO 21 15 20,oM 22 21,qF 23 2 1 22 false,qL 24 23 22 false,oG 25 (.len false (.t 24)) 22 false,qF 26 3 1 22 false,qL 27 26 22 false,oG 28 (.len false (.t 27)) 22 false,qB 29 .neq 25 28 22 false,oO 30 22 29,oM 31 30,qF 32 2 2 31 false,qL 33 32 31 false,oG 34 (.len false (.t 33)) 31 false,qF 35 3 2 31 false,qL 36 35 31 false,oG 37 (.len false (.t 36)) 31 false,qB 38 .neq 34 37 31 false,oO 39 31 38,oM 40 39,qF 41 2 3 40 false,qL 42 41 40 false,oG 43 (.len false (.t 42)) 40 false,qF 44 3 3 40 false,qL 45 44 40 false,oG 46 (.len false (.t 45)) 40 false,qB 47 .neq 43 46 40 false,oO 48 40 47,oM 49 48,qF 50 2 4 49 false,qL 51 50 49 false,oG 52 (.len false (.t 51)) 49 false,qF 53 3 4 49 false,qL 54 53 49 false,oG 55 (.len false (.t 54)) 49 false,qB 56 .neq 52 55 49 false,oO 57 49 56]
[2,3,57])
(.cond (.t 57)
(.seq (.reg [oV 4 false]
[4])
.ret)
.skip))
(.seq (.seq (.reg [oC 5 0]
[2,3,5])
(.block 0
(.loop [2,3,5] [2,3,25,28,34,37,43,46,52,55]
 (.seq (.seq (.reg [oM 58 5,oF 59 2 1,oL 60 59,oZ 61 60,oB 62 .lss 58 61]
[2,3,5,62])
(.cond (.t 62)
.skip
(.exit 0)))
(.seq (.block 1
(.seq (.seq (.dreg [oF 65 2 1,oL 66 65,oM 67 5,oI 68 2 66 67,oN 69 68 2,op 70 (.call np19 [.t 69]),oF 71 3 1,oL 72 71,oM 73 5,oI 74 2 72 73,oN 75 74 2,op 76 (.call np19 [.t 75]),oB 77 .neq 70 76]
[2,3,5,77])
(.cond (.t 77)
(.seq (.reg [oV 4 false]
[4])
.ret)
.skip))
(.seq (.reg [oC 6 0]
[2,3,5,6])
(.block 2
(.loop [2,3,5,6] [2,3,25,28,34,37,43,46,52,55,61,70,76]
 (.seq (.seq (.reg [oM 78 6,oF 79 2 1,oL 80 79,oM 81 5,oI 82 2 80 81,oF 83 82 1,oL 84 83,oZ 85 84,oB 86 .lss 78 85]
[2,3,5,6,86])
(.cond (.t 86)
.skip
(.exit 2)))
(.seq (.block 3
(.seq (.dreg [oF 89 2 1,oL 90 89,oM 91 5,oI 92 2 90 91,oF 93 92 1,oL 94 93,oM 95 6,oI 96 1 94 95,oL 97 96,oF 98 3 1,oL 99 98,oM 100 5,oI 101 2 99 100,oF 102 101 1,oL 103 102,oM 104 6,oI 105 1 103 104,oL 106 105,oB 107 .neq 97 106]
[2,3,5,6,107])
(.cond (.t 107)
(.seq (.reg [oV 4 false]
[4])
.ret)
.skip)))
(.reg [oM 87 6,oK 88 .add 87 1,oM 6 88]
[2,3,5,6]))))))))
(.reg [oM 63 5,oK 64 .add 63 1,oM 5 64]
[2,3,5]))))))
(.seq (.seq (.reg [oC 7 0]
[2,3,7])
(.block 4
(.loop [2,3,7] [2,3,25,28,34,37,43,46,52,55,61,70,76,85]
 (.seq (.seq (.reg [oM 108 7,oF 109 2 2,oL 110 109,oZ 111 110,oB 112 .lss 108 111]
[2,3,7,112])
(.cond (.t 112)
.skip
(.exit 4)))
(.seq (.block 5
(.seq (.dreg [oF 115 2 2,oL 116 115,oM 117 7,oI 118 3 116 117,oN 119 118 3,oF 120 3 2,oL 121 120,oM 122 7,oI 123 3 121 122,oN 124 123 3,op 125 (.eqA true [2,1,0] (.t 119) (.t 124))]
[2,3,7,125])
(.cond (.t 125)
(.seq (.reg [oV 4 false]
[4])
.ret)
.skip)))
(.reg [oM 113 7,oK 114 .add 113 1,oM 7 114]
[2,3,7]))))))
(.seq (.seq (.reg [oC 8 0]
[2,3,8])
(.block 6
(.loop [2,3,8] [2,3,25,28,34,37,43,46,52,55,61,70,76,85,111]
 (.seq (.seq (.reg [oM 126 8,oF 127 2 3,oL 128 127,oZ 129 128,oB 130 .lss 126 129]
[2,3,8,130])
(.cond (.t 130)
.skip
(.exit 6)))
(.seq (.block 7
(.seq (.dreg [oF 133 2 3,oL 134 133,oM 135 8,oI 136 5 134 135,oN 137 136 5,oF 138 3 3,oL 139 138,oM 140 8,oI 141 5 139 140,oN 142 141 5,op 143 (.eqA true [1,0,0,1,2] (.t 137) (.t 142))]
[2,3,8,143])
(.cond (.t 143)
(.seq (.reg [oV 4 false]
[4])
.ret)
.skip)))
(.reg [oM 131 8,oK 132 .add 131 1,oM 8 132]
[2,3,8]))))))
(.seq (.seq (.reg [oC 9 0]
[2,3,9])
(.block 8
(.loop [2,3,9] [2,3,25,28,34,37,43,46,52,55,61,70,76,85,111,129]
 (.seq (.seq (.reg [oM 144 9,oF 145 2 4,oL 146 145,oZ 147 146,oB 148 .lss 144 147]
[2,3,9,148])
(.cond (.t 148)
.skip
(.exit 8)))
(.seq (.block 9
(.seq (.dreg [oF 151 2 4,oL 152 151,oM 153 9,oI 154 3 152 153,oN 155 154 3,oF 156 3 4,oL 157 156,oM 158 9,oI 159 3 157 158,oN 160 159 3,op 161 (.eqA true [1,2,2] (.t 155) (.t 160))]
[2,3,9,161])
(.cond (.t 161)
(.seq (.reg [oV 4 false]
[4])
.ret)
.skip)))
(.reg [oM 149 9,oK 150 .add 149 1,oM 9 150]
[2,3,9]))))))
(.seq (.reg [oV 4 true]
[4])
.ret)))))))⟩
abbrev pps_:=pcR nps_ cps_ Tryz.func30
def cp13:AFun:=⟨56,2,[.t 4],
 (.seq (.reg [op 2 (.box taQ_ 9 (.t 0)),op 3 (.box taS_ 2 (.t 1)),oV 4 false]
[2,3])
(.seq (.seq (.dreg [oF 6 3 0,oL 7 6,oK 8 .lss 7 0,oM 9 8,qF 10 3 0 9 false,qL 11 10 9 false,qF 12 2 1 9 false,qL 13 12 9 false,oG 14 (.len false (.t 13)) 9 false,qB 15 .geq 11 14 9 false,oO 16 9 15,oM 17 16,qF 18 3 1 17 false,qL 19 18 17 false,oG 20 (.len false (.t 19)) 17 false,qF 21 2 1 17 false,qL 22 21 17 false,qF 23 3 0 17 false,qL 24 23 17 false,qI 25 2 22 24 17 false,qF 26 25 1 17 false,qL 27 26 17 false,oG 28 (.len false (.t 27)) 17 false,qB 29 .neq 20 28 17 false,oO 30 17 29]
[2,3,30])
(.cond (.t 30)
(.seq (.reg [oV 4 false]
[4])
.ret)
.skip))
(.seq (.seq (.reg [oC 5 0]
[2,3,5])
(.block 0
(.loop [2,3,5] [2,3,14,20,28]
 (.seq (.seq (.reg [oM 31 5,oF 32 3 1,oL 33 32,oZ 34 33,oB 35 .lss 31 34]
[2,3,5,35])
(.cond (.t 35)
.skip
(.exit 0)))
(.seq (.block 1
(.seq (.dreg [oN 38 2 9,oF 39 3 1,oL 40 39,oM 41 5,oI 42 6 40 41,oN 43 42 6,oF 44 2 1,oL 45 44,oF 46 3 0,oL 47 46,oI 48 2 45 47,oF 49 48 1,oL 50 49,oM 51 5,oI 52 1 50 51,oL 53 52,op 54 (.call np29 [.t 38,.t 43,.t 53]),oU 55 54]
[2,3,5,55])
(.cond (.t 55)
(.seq (.reg [oV 4 false]
[4])
.ret)
.skip)))
(.reg [oM 36 5,oK 37 .add 36 1,oM 5 37]
[2,3,5]))))))
(.seq (.reg [oV 4 true]
[4])
.ret))))⟩
abbrev pp12:=pcR np22 cp13 Tryz.func73
def cp11:AFun:=⟨118,1,[.t 2],
 (.seq (.reg [op 1 (.box taQ_ 9 (.t 0)),oV 2 false]
[1])
(.seq (.reg [oF 13 1 6,oL 14 13,oZ 15 14,op 16 (.mks tb_ 1 1 (.bool false) (.t 15) (.t 15)),oM 3 16]
[1,3])
(.seq (.reg [op 4 (.nilrow ti_ 1)]
[1,3,4])
(.seq (.seq (.reg [oC 5 0]
[1,3,4,5])
(.block 0
(.loop [1,3,4,5] [1,15,16,4,38]
 (.seq (.seq (.reg [oM 17 5,oF 18 1 8,oL 19 18,oZ 20 19,oB 21 .lss 17 20]
[1,3,4,5,21])
(.cond (.t 21)
.skip
(.exit 0)))
(.seq (.block 1
(.seq (.reg [oF 24 1 8,oL 25 24,oM 26 5,oI 27 5 25 26,oF 28 27 1,oL 29 28,oM 6 29]
[1,3,4,5,6])
(.seq (.seq (.reg [oM 30 3,oM 31 6,oI 32 1 30 31,oL 33 32,oU 34 33]
[1,3,4,5,6,34])
(.cond (.t 34)
(.reg [oM 35 4,oM 36 6,op 37 (.mkrow ti_ 1 1 (iv 0) [(0,.t 36)]),op 38 (.app ti_ 1 8 (.t 35) (.t 37)),oM 4 38]
[1,3,4,5,6])
.skip))
(.reg [oM 39 3,oM 40 6,oI 41 1 39 40,
⟨none,.store (.t 41) (.k (.bool true)) 1,none⟩]
[1,3,4,5]))))
(.reg [oM 22 5,oK 23 .add 22 1,oM 5 23]
[1,3,4,5]))))))
(.seq (.seq (.reg [oC 7 0]
[1,4,7])
(.block 2
(.loop [1,4,7] [1,15,16,4,20,37,38]
 (.seq (.seq (.reg [oM 42 7,oM 43 4,oZ 44 43,oB 45 .lss 42 44]
[1,4,7,45])
(.cond (.t 45)
.skip
(.exit 2)))
(.seq (.block 3
(.seq (.dreg [oM 48 4,oM 49 7,oI 50 1 48 49,oL 51 50,oF 52 1 6,oL 53 52,oZ 54 53,oM 55 4,oZ 56 55,oB 57 .sub 54 56,oM 58 7,oB 59 .add 57 58,oB 60 .neq 51 59]
[1,4,7,60])
(.cond (.t 60)
(.seq (.reg [oV 2 false]
[2])
.ret)
.skip)))
(.reg [oM 46 7,oK 47 .add 46 1,oM 7 47]
[1,4,7]))))))
(.seq (.seq (.reg [oC 8 0]
[1,8])
(.block 4
(.loop [1,8] [1,15,16,4,20,37,38,44,54,56]
 (.seq (.seq (.reg [oM 61 8,oF 62 1 6,oL 63 62,oZ 64 63,oB 65 .lss 61 64]
[1,8,65])
(.cond (.t 65)
.skip
(.exit 4)))
(.seq (.block 5
(.seq (.seq (.dreg [oN 68 1 9,oF 69 1 6,oL 70 69,oM 71 8,oI 72 2 70 71,oN 73 72 2,op 74 (.call np22 [.t 68,.t 73]),oU 75 74]
[1,8,75])
(.cond (.t 75)
(.seq (.reg [oV 2 false]
[2])
.ret)
.skip))
(.seq (.reg [oC 9 0]
[1,8,9])
(.block 6
(.loop [1,8,9] [1,15,16,4,20,37,38,44,54,56,64,74]
 (.seq (.seq (.reg [oM 76 9,oM 77 8,oB 78 .lss 76 77]
[1,8,9,78])
(.cond (.t 78)
.skip
(.exit 6)))
(.seq (.block 7
(.seq (.dreg [oF 81 1 6,oL 82 81,oM 83 8,oI 84 2 82 83,oN 85 84 2,oF 86 1 6,oL 87 86,oM 88 9,oI 89 2 87 88,oN 90 89 2,op 91 (.call np10 [.t 85,.t 90])]
[1,8,9,91])
(.cond (.t 91)
(.seq (.reg [oV 2 false]
[2])
.ret)
.skip)))
(.reg [oM 79 9,oK 80 .add 79 1,oM 9 80]
[1,8,9]))))))))
(.reg [oM 66 8,oK 67 .add 66 1,oM 8 67]
[1,8]))))))
(.seq (.seq (.reg [oC 10 0]
[1,10])
(.block 8
(.loop [1,10] [1,15,16,4,20,37,38,44,54,56,64,74,91]
 (.seq (.seq (.reg [oM 92 10,oF 93 1 2,oL 94 93,oZ 95 94,oB 96 .lss 92 95]
[1,10,96])
(.cond (.t 96)
.skip
(.exit 8)))
(.seq (.block 9
(.seq (.reg [oV 11 false]
[1,10,11])
(.seq (.seq (.reg [oC 12 0]
[1,10,11,12])
(.block 10
(.loop [1,10,11,12] [1,15,16,4,20,37,38,44,54,56,64,74,91,95]
 (.seq (.seq (.reg [oM 99 12,oF 100 1 6,oL 101 100,oZ 102 101,oB 103 .lss 99 102]
[1,10,11,12,103])
(.cond (.t 103)
.skip
(.exit 10)))
(.seq (.block 11
(.reg [oM 106 11,oM 107 106,qF 108 1 6 107 false,qL 109 108 107 false,qM 110 12 107 false,qI 111 2 109 110 107 false,qN 112 111 2 107 false,qM 113 10 107 false,oG 114 (.call np15 [.t 112,.t 113]) 107 false,oO 115 107 114,oM 11 115]
[1,10,11,12]))
(.reg [oM 104 12,oK 105 .add 104 1,oM 12 105]
[1,10,11,12]))))))
(.seq (.reg [oM 116 11,oU 117 116]
[1,10,117])
(.cond (.t 117)
(.seq (.reg [oV 2 false]
[2])
.ret)
.skip)))))
(.reg [oM 97 10,oK 98 .add 97 1,oM 10 98]
[1,10]))))))
(.seq (.reg [oV 2 true]
[2])
.ret))))))))⟩
abbrev pp10:=pcR np20 cp11 Tryz.func29
def cp14:AFun:=⟨153,3,[.t 6,.t 7],
 (.seq (.reg [op 3 (.box taQ_ 9 (.t 0)),op 4 (.box taT_ 5 (.t 1)),oC 6 0,oV 7 false]
[2,3,4])
(.seq (.seq (.reg [oF 16 4 0,oL 17 16,oK 18 .lss 17 0,oM 19 18,qF 20 4 0 19 false,qL 21 20 19 false,qF 22 3 4 19 false,qL 23 22 19 false,oG 24 (.len false (.t 23)) 19 false,qB 25 .geq 21 24 19 false,oO 26 19 25,oM 27 26,qF 28 4 2 27 false,qL 29 28 27 false,qK 30 .lss 29 0 27 false,oO 31 27 30,oM 32 31,qF 33 4 2 32 false,qL 34 33 32 false,qF 35 3 4 32 false,qL 36 35 32 false,oG 37 (.len false (.t 36)) 32 false,qB 38 .geq 34 37 32 false,oO 39 32 38,oM 40 39,qF 41 4 1 40 false,qL 42 41 40 false,qK 43 .lss 42 0 40 false,oO 44 40 43,oM 45 44,qF 46 4 1 45 false,qL 47 46 45 false,qF 48 3 6 45 false,qL 49 48 45 false,oG 50 (.len false (.t 49)) 45 false,qB 51 .geq 47 50 45 false,oO 52 45 51]
[2,3,4,52])
(.cond (.t 52)
(.seq (.reg [oC 6 0,oV 7 false]
[6,7])
.ret)
.skip))
(.seq (.reg [oM 53 2,oM 8 53]
[2,3,4,8])
(.seq (.seq (.reg [oF 54 4 3,oL 55 54,op 56 (.bin .neq (.t 55) (.k (iv (-1))))]
[2,3,4,8,56])
(.cond (.t 56)
(.seq (.reg [oN 58 3 9,oM 59 8,oF 60 4 3,oL 61 60,op 62 (.call npK_ [.t 58,.t 59,.t 61]),oM 57 62,oE 63 57 0,oE 64 57 1,oM 9 63,oM 10 64]
[2,3,4,9,10])
(.seq (.seq (.reg [oM 65 9,oK 66 .neq 65 3,oM 67 66,qM 68 10 67 false,qK 69 .gtr 68 64 67 false,oO 70 67 69]
[2,3,4,70])
(.cond (.t 70)
(.seq (.reg [oC 6 0,oV 7 false]
[6,7])
.ret)
.skip))
(.reg [oF 71 4 3,oL 72 71,oK 73 .add 72 1,oM 8 73]
[2,3,4,8])))
.skip))
(.seq (.seq (.reg [oC 11 0]
[2,3,4,8,11])
(.block 0
(.loop [2,3,4,8,11] [3,4,24,37,50,62]
 (.seq (.seq (.reg [oM 74 11,oF 75 4 4,oL 76 75,oZ 77 76,oB 78 .lss 74 77]
[2,3,4,8,11,78])
(.cond (.t 78)
.skip
(.exit 0)))
(.seq (.block 1
(.seq (.reg [oF 81 4 4,oL 82 81,oM 83 11,oI 84 2 82 83,oN 85 84 2,op 12 (.alloc ta19 2 (.agg [iv 0,iv 0])),
⟨none,.store (.t 12) (.t 85) 2,none⟩]
[2,3,4,8,11,12])
(.seq (.reg [oN 87 3 9,oM 88 8,oF 89 12 1,oL 90 89,op 91 (.call npK_ [.t 87,.t 88,.t 90]),oM 86 91,oE 92 86 0,oE 93 86 1,oM 13 92,oM 14 93]
[2,3,4,11,12,13,14])
(.seq (.seq (.reg [oF 94 12 0,oL 95 94,oK 96 .lss 95 0,oM 97 96,qF 98 12 0 97 false,qL 99 98 97 false,qF 100 3 3 97 false,qL 101 100 97 false,oG 102 (.len false (.t 101)) 97 false,qB 103 .geq 99 102 97 false,oO 104 97 103,oM 105 104,qM 106 13 105 false,qK 107 .eql 106 0 105 false,oO 108 105 107,oM 109 108,qM 110 14 109 false,qK 111 .gtr 110 64 109 false,oO 112 109 111,oM 113 112,qM 114 13 113 false,qF 115 3 3 113 false,qL 116 115 113 false,qF 117 12 0 113 false,qL 118 117 113 false,qI 119 5 116 118 113 false,qF 120 119 1 113 false,qF 121 120 0 113 false,qL 122 121 113 false,qB 123 .neq 114 122 113 false,oO 124 113 123]
[2,3,4,11,12,124])
(.cond (.t 124)
(.seq (.reg [oC 6 0,oV 7 false]
[6,7])
.ret)
.skip))
(.seq (.seq (.reg [oC 15 0]
[2,3,4,11,12,15])
(.block 2
(.loop [2,3,4,11,12,15] [3,4,24,37,50,62,77,12,91,102]
 (.seq (.seq (.reg [oM 125 15,oM 126 11,oB 127 .lss 125 126]
[2,3,4,11,12,15,127])
(.cond (.t 127)
.skip
(.exit 2)))
(.seq (.block 3
(.seq (.dreg [oF 130 4 4,oL 131 130,oM 132 15,oI 133 2 131 132,oF 134 133 0,oL 135 134,oF 136 12 0,oL 137 136,oB 138 .eql 135 137]
[2,3,4,11,12,15,138])
(.cond (.t 138)
(.seq (.reg [oC 6 0,oV 7 false]
[6,7])
.ret)
.skip)))
(.reg [oM 128 15,oK 129 .add 128 1,oM 15 129]
[2,3,4,11,12,15]))))))
(.reg [oF 139 12 1,oL 140 139,oK 141 .add 140 1,oM 8 141]
[2,3,4,8,11]))))))
(.reg [oM 79 11,oK 80 .add 79 1,oM 11 80]
[2,3,4,8,11]))))))
(.seq (.dreg [oM 142 8,oN 143 3 9,oF 144 3 6,oL 145 144,oF 146 4 1,oL 147 146,oI 148 2 145 147,oN 149 148 2,oM 150 2,oM 151 8,op 152 (.call np25 [.t 143,.t 149,.t 150,.t 151]),oM 6 142,oM 7 152]
[6,7])
.ret))))))⟩
abbrev pp14:=pcR np23 cp14 Tryz.func28
def cpt_:AFun:=⟨20,2,[.t 4],
 (.seq (.reg [oV 4 false]
[0,1])
(.seq (.seq (.reg [oC 5 0]
[0,1,5])
(.block 0
(.loop [0,1,5] []
 (.seq (.seq (.reg [oM 6 5,oM 7 1,oB 8 .lss 6 7]
[0,1,5,8])
(.cond (.t 8)
.skip
(.exit 0)))
(.seq (.block 1
(.seq (.dreg [oM 11 0,oM 12 5,oI 13 1 11 12,oL 14 13,oM 15 0,oM 16 1,oI 17 1 15 16,oL 18 17,oB 19 .eql 14 18]
[0,1,5,19])
(.cond (.t 19)
(.seq (.reg [oV 4 true]
[4])
.ret)
.skip)))
(.reg [oM 9 5,oK 10 .add 9 1,oM 5 10]
[0,1,5]))))))
(.seq (.reg [oV 4 false]
[4])
.ret)))⟩
abbrev ppt_:=pcR np14 cpt_ Tryz.func70
def csC_:AFun:=⟨22,1,[.t 2,.t 3],
 (.seq (.reg [oC 2 0,oC 3 0]
[0])
(.seq (.seq (.reg [oM 6 0,oZ 7 6,oK 8 .gtr 7 32]
[0,8])
(.cond (.t 8)
(.seq (.reg [oC 2 32,oC 3 14]
[2,3])
.ret)
.skip))
(.seq (.seq (.reg [oM 9 0,oZ 10 9,oC 11 0]
[0,10,11])
(.block 0
(.loop [0,10,11] [7,10]
 (.seq (.reg [oB 12 .lss 11 10]
[0,10,11,12])
(.seq (.cond (.t 12)
.skip
(.exit 0))
(.seq (.block 1
(.seq (.reg [oM 13 11,oM 4 13]
[0,4,10,11])
(.seq (.reg [oM 14 0,oM 15 4,op 16 (.call nso_ [.t 14,.t 15]),oM 5 16]
[0,4,5,10,11])
(.seq (.reg [oM 17 5,oK 18 .neq 17 0]
[0,4,5,10,11,18])
(.cond (.t 18)
(.seq (.reg [oM 19 4,oM 20 5,oM 2 19,oM 3 20]
[2,3])
.ret)
.skip)))))
(.reg [oK 21 .add 11 1,oM 11 21]
[0,10,11])))))))
(.seq (.reg [op 2 (.mov (.k (iv (-1)))),oC 3 0]
[2,3])
.ret))))⟩
abbrev psC_:=pcR nsC_ csC_ Tryz.func134
def csF_:AFun:=⟨14,2,[.t 4,.t 5],
 (.seq (.reg [op 3 (.box ts_ 1 (.t 1)),oC 4 0,oV 5 false]
[0,3])
(.seq (.reg [oM 7 0,op 8 (.mkfn nsF1_ [.t 3]),op 9 (.call nsIaDaD_ [.t 7,.t 8]),oM 6 9]
[6])
(.seq (.reg [oM 10 6,op 11 (.mx false (.t 10) (.k (iv 0))),oM 12 6,oK 13 .geq 12 0,oM 4 11,oM 5 13]
[4,5])
.ret)))⟩
abbrev psF_:=pcR nsF_ csF_ Tryz.func243
def csF1_:AFun:=⟨8,2,[.t 3],
 (.seq (.reg [op 2 (.box taD_ 2 (.t 0)),oV 3 false]
[1,2])
(.seq (.reg [oF 4 2 0,oL 5 4,oL 6 1,oB 7 .eql 5 6,oM 3 7]
[3])
.ret))⟩
abbrev psF1_:=pcR nsF1_ csF1_ Tryz.func259
def csN_:AFun:=⟨14,1,[.t 2],
 (.seq (.reg [oV 2 false]
[0])
(.seq (.reg [oM 3 0,op 4 (.call nsS_ [.t 3]),oM 5 4,qM 6 0 5 true,oG 7 (.call nsW_ [.t 6]) 5 true,oG 8 (.un .not (.t 7)) 5 true,oA 9 5 8,oM 10 9,qM 11 0 10 true,oG 12 (.bin .neq (.t 11) (.k (.str [95]))) 10 true,oA 13 10 12,oM 2 13]
[2])
.ret))⟩
abbrev psN_:=pcR nsN_ csN_ Tryz.func135
def csS_:AFun:=⟨25,1,[.t 2],
 (.seq (.reg [oV 2 false]
[0])
(.seq (.seq (.reg [oM 4 0,op 5 (.bin .eql (.t 4) (.k (.str []))),oM 6 5,qM 7 0 6 false,oG 8 (.len true (.t 7)) 6 false,qK 9 .gtr 8 32 6 false,oO 10 6 9,oM 11 10,qM 12 0 11 false,oG 13 (.idx (.t 12) (.k (iv 0))) 11 false,oG 14 (.bin .geq (.t 13) (.k (.int .u8 48))) 11 false,qM 15 14 11 false,qM 16 0 15 true,oG 17 (.idx (.t 16) (.k (iv 0))) 15 true,oG 18 (.bin .leq (.t 17) (.k (.int .u8 57))) 15 true,qA 19 15 18 11 false,oO 20 11 19]
[0,20])
(.cond (.t 20)
(.seq (.reg [oV 2 false]
[2])
.ret)
.skip))
(.seq (.reg [op 3 (.mov (.f nsS1_))]
[0,3])
(.seq (.reg [oM 21 0,oM 22 3,op 23 (.call nsI_ [.t 21,.t 22]),oK 24 .lss 23 0,oM 2 24]
[2])
.ret))))⟩
abbrev psS_:=pcR nsS_ csS_ Tryz.func207
def csS1_:AFun:=⟨29,1,[.t 2],
 (.seq (.reg [oV 2 false]
[0])
(.seq (.reg [oM 3 0,op 4 (.bin .neq (.t 3) (.k (.int .i32 95))),oM 5 4,qM 6 0 5 true,oG 7 (.bin .lss (.t 6) (.k (.int .i32 48))) 5 true,qM 8 7 5 true,qM 9 0 8 false,oG 10 (.bin .gtr (.t 9) (.k (.int .i32 57))) 8 false,qO 11 8 10 5 true,oA 12 5 11,oM 13 12,qM 14 0 13 true,oG 15 (.bin .lss (.t 14) (.k (.int .i32 65))) 13 true,qM 16 15 13 true,qM 17 0 16 false,oG 18 (.bin .gtr (.t 17) (.k (.int .i32 90))) 16 false,qO 19 16 18 13 true,oA 20 13 19,oM 21 20,qM 22 0 21 true,oG 23 (.bin .lss (.t 22) (.k (.int .i32 97))) 21 true,qM 24 23 21 true,qM 25 0 24 false,oG 26 (.bin .gtr (.t 25) (.k (.int .i32 122))) 24 false,qO 27 24 26 21 true,oA 28 21 27,oM 2 28]
[2])
.ret))⟩
abbrev psS1_:=pcR nsS1_ csS1_ Tryz.func245
def csW_:AFun:=⟨10,1,[.t 2],
 (.seq (.reg [oV 2 false]
[0])
(.seq (.reg [oM 3 0,op 4 (.call nsS_ [.t 3]),oM 5 4,oG 6 (.slcG 22 (.g 1)) 5 true,qM 7 0 5 true,oG 8 (.call nsCss_ [.t 6,.t 7]) 5 true,oA 9 5 8,oM 2 9]
[2])
.ret))⟩
abbrev psW_:=pcR nsW_ csW_ Tryz.func208
def cso_:AFun:=⟨37,2,[.t 4],
 (.seq (.reg [oC 4 0]
[0,1])
(.seq (.reg [oM 8 0,oM 9 1,oI 10 2 8 9,oN 11 10 2,op 5 (.alloc taD_ 2 (.agg [.str [],.nils])),
⟨none,.store (.t 5) (.t 11) 2,none⟩]
[0,1,5])
(.seq (.reg [oM 13 0,oF 14 5 0,oL 15 14,op 16 (.call nsF_ [.t 13,.t 15]),oM 12 16,oE 17 12 0,oE 18 12 1,oM 6 17,oM 7 18]
[1,5,6])
(.seq (.block 0
(.seq (.reg [oF 20 5 0,oL 21 20,op 22 (.call nsN_ [.t 21]),oU 23 22,oM 19 23]
[1,5,6,19])
(.cond (.t 19)
(.seq (.reg [oC 4 11]
[4])
.ret)
(.seq (.reg [oM 25 6,oM 26 1,oB 27 .lss 25 26,oM 24 27]
[5,24])
(.cond (.t 24)
(.seq (.reg [oC 4 10]
[4])
.ret)
(.seq (.reg [oF 29 5 1,oL 30 29,oZ 31 30,oK 32 .gtr 31 8,oM 28 32]
[5,28])
(.cond (.t 28)
(.seq (.reg [oC 4 14]
[4])
.ret)
(.seq (.reg [oF 34 5 1,oL 35 34,op 36 (.call ns25 [.t 35,.f nso1_]),oM 33 36]
[33])
(.cond (.t 33)
(.seq (.reg [oC 4 8]
[4])
.ret)
.skip)))))))))
(.seq (.reg [oC 4 0]
[4])
.ret)))))⟩
abbrev pso_:=pcR nso_ cso_ Tryz.func206
def cso1_:AFun:=⟨6,1,[.t 2],
 (.seq (.reg [oV 2 false]
[0])
(.seq (.reg [oM 3 0,op 4 (.call nvN_ [.t 3]),op 5 (.bin .eql (.t 4) (.k (.str []))),oM 2 5]
[2])
.ret))⟩
abbrev pso1_:=pcR nso1_ cso1_ Tryz.func244
def cvB_:AFun:=⟨5,1,[.cells 2 4],
 (.seq (.reg [op 2 (.alloc taV_ 4 (.agg [iv 0,iv 0,.str [],.bool false]))]
[0,2])
(.seq (.reg [oM 3 0,op 4 (.build [iv 0,iv 0,.str [],.bool false] [(0,1,.k (iv 3)),(3,1,.t 3)]),
⟨none,.store (.t 2) (.t 4) 4,none⟩]
[2])
.ret))⟩
abbrev pvB_:=pcR nvB_ cvB_ Tryz.func181
def cvI_:AFun:=⟨5,1,[.cells 2 4],
 (.seq (.reg [op 2 (.alloc taV_ 4 (.agg [iv 0,iv 0,.str [],.bool false]))]
[0,2])
(.seq (.reg [oM 3 0,op 4 (.build [iv 0,iv 0,.str [],.bool false] [(0,1,.k (iv 1)),(1,1,.t 3)]),
⟨none,.store (.t 2) (.t 4) 4,none⟩]
[2])
.ret))⟩
abbrev pvI_:=pcR nvI_ cvI_ Tryz.func179
def cvN_:AFun:=⟨10,1,[.t 2],
 (.seq (.reg [op 2 (.mov (.k (.str [])))]
[0])
(.seq (.seq (.reg [oM 3 0]
[3])
(.block 0
(.seq (.reg [oK 5 .eql 3 1,oM 4 5]
[3,4])
(.cond (.t 4)
(.seq (.reg [op 2 (.mov (.k (.str [105,110,116])))]
[2])
.ret)
(.seq (.reg [oK 7 .eql 3 2,oM 6 7]
[3,6])
(.cond (.t 6)
(.seq (.reg [op 2 (.mov (.k (.str [115,116,114,105,110,103])))]
[2])
.ret)
(.seq (.reg [oK 9 .eql 3 3,oM 8 9]
[8])
(.cond (.t 8)
(.seq (.reg [op 2 (.mov (.k (.str [98,111,111,108])))]
[2])
.ret)
.skip))))))))
(.seq (.reg [op 2 (.mov (.k (.str [])))]
[2])
.ret)))⟩
abbrev pvN_:=pcR nvN_ cvN_ Tryz.func139
def cvR_:AFun:=⟨32,1,[.t 2],
 (.seq (.reg [op 1 (.box taV_ 4 (.t 0)),oV 2 false]
[1])
(.seq (.seq (.reg [oF 3 1 0,oL 4 3]
[1,4])
(.block 0
(.seq (.reg [oK 6 .eql 4 1,oM 5 6]
[1,4,5])
(.cond (.t 5)
(.seq (.dreg [oN 7 1 4,oF 8 1 1,oL 9 8,op 10 (.call nvI_ [.t 9]),op 11 (.eqA false [0,0,1,2] (.t 7) (.t 10)),oM 2 11]
[2])
.ret)
(.seq (.reg [oK 13 .eql 4 2,oM 12 13]
[1,4,12])
(.cond (.t 12)
(.seq (.dreg [oN 14 1 4,oF 15 1 2,oL 16 15,op 17 (.call nvS_ [.t 16]),op 18 (.eqA false [0,0,1,2] (.t 14) (.t 17)),oM 19 18,qF 20 1 2 19 true,qL 21 20 19 true,oG 22 (.len true (.t 21)) 19 true,qK 23 .leq 22 4096 19 true,oA 24 19 23,oM 2 24]
[2])
.ret)
(.seq (.reg [oK 26 .eql 4 3,oM 25 26]
[1,25])
(.cond (.t 25)
(.seq (.dreg [oN 27 1 4,oF 28 1 3,oL 29 28,op 30 (.call nvB_ [.t 29]),op 31 (.eqA false [0,0,1,2] (.t 27) (.t 30)),oM 2 31]
[2])
.ret)
.skip))))))))
(.seq (.reg [oV 2 false]
[2])
.ret)))⟩
abbrev pvR_:=pcR nvR_ cvR_ Tryz.func98
def cvS_:AFun:=⟨5,1,[.cells 2 4],
 (.seq (.reg [op 2 (.alloc taV_ 4 (.agg [iv 0,iv 0,.str [],.bool false]))]
[0,2])
(.seq (.reg [oM 3 0,op 4 (.build [iv 0,iv 0,.str [],.bool false] [(0,1,.k (iv 2)),(2,1,.t 3)]),
⟨none,.store (.t 2) (.t 4) 4,none⟩]
[2])
.ret))⟩
abbrev pvS_:=pcR nvS_ cvS_ Tryz.func180
def cvT_:AFun:=⟨81,3,[.t 6],
 (.seq (.reg [oC 6 0]
[0,1,2])
(.seq (.seq (.reg [oM 7 0]
[1,2,7])
(.block 0
(.seq (.block 7
(.seq (.block 6
(.seq (.block 5
(.seq (.block 4
(.seq (.block 3
(.seq (.block 2
(.seq (.block 1
(.seq (.seq (.seq (.reg [oK 9 .eql 7 4,oM 8 9]
[1,2,7,8])
(.cond (.t 8)
(.exit 1)
.skip))
(.seq (.seq (.seq (.reg [oK 11 .eql 7 6,oM 10 11]
[1,2,7,10])
(.cond (.t 10)
.skip
(.reg [oK 12 .eql 7 7,oM 10 12]
[1,2,7,10])))
(.cond (.t 10)
(.exit 2)
.skip))
(.seq (.seq (.reg [oK 14 .eql 7 5,oM 13 14]
[1,2,7,13])
(.cond (.t 13)
(.exit 3)
.skip))
(.seq (.seq (.seq (.reg [oK 16 .eql 7 9,oM 15 16]
[1,2,7,15])
(.cond (.t 15)
.skip
(.seq (.reg [oK 17 .eql 7 10,oM 15 17]
[1,2,7,15])
(.cond (.t 15)
.skip
(.seq (.reg [oK 18 .eql 7 11,oM 15 18]
[1,2,7,15])
(.cond (.t 15)
.skip
(.reg [oK 19 .eql 7 12,oM 15 19]
[1,2,7,15])))))))
(.cond (.t 15)
(.exit 4)
.skip))
(.seq (.seq (.reg [oK 21 .eql 7 8,oM 20 21]
[1,2,7,20])
(.cond (.t 20)
(.exit 5)
.skip))
(.seq (.seq (.seq (.reg [oK 23 .eql 7 13,oM 22 23]
[1,2,7,22])
(.cond (.t 22)
.skip
(.reg [oK 24 .eql 7 14,oM 22 24]
[1,2,7,22])))
(.cond (.t 22)
(.exit 6)
.skip))
(.seq (.seq (.reg [oK 26 .eql 7 15,oM 25 26]
[1,2,7,25])
(.cond (.t 25)
.skip
(.reg [oK 27 .eql 7 16,oM 25 27]
[1,2,25])))
(.cond (.t 25)
(.exit 7)
.skip))))))))
(.exit 0)))
(.reg [oM 28 1,oM 2 28]
[1,2])))
(.seq (.seq (.reg [oM 29 1,oK 30 .eql 29 3,oM 31 30,qM 32 2 31 true,qM 33 1 31 true,qB 34 .eql 32 33 31 true,oA 35 31 34,op 36 (.call nvw_ [.t 35,.k (iv 3)]),oM 6 36]
[6])
.ret)
(.exit 0))))
(.reg [oM 37 1,oM 2 37]
[1,2])))
(.seq (.seq (.reg [oM 38 1,oK 39 .eql 38 1,oM 40 39,qM 41 2 40 true,qM 42 1 40 true,qB 43 .eql 41 42 40 true,oA 44 40 43,oM 45 1,op 46 (.call nvw_ [.t 44,.t 45]),oM 6 46]
[6])
.ret)
(.exit 0))))
(.seq (.seq (.reg [oM 47 1,oK 48 .eql 47 1,oM 49 48,qM 50 1 49 false,qK 51 .eql 50 2 49 false,oO 52 49 51,oM 53 52,qM 54 2 53 true,qM 55 1 53 true,qB 56 .eql 54 55 53 true,oA 57 53 56,oM 58 1,op 59 (.call nvw_ [.t 57,.t 58]),oM 6 59]
[6])
.ret)
(.exit 0))))
(.seq (.seq (.reg [oM 60 1,op 61 (.call nvN_ [.t 60]),op 62 (.bin .neq (.t 61) (.k (.str []))),oM 63 62,qM 64 2 63 true,qM 65 1 63 true,qB 66 .eql 64 65 63 true,oA 67 63 66,op 68 (.call nvw_ [.t 67,.k (iv 3)]),oM 6 68]
[6])
.ret)
(.exit 0))))
(.seq (.seq (.reg [oM 69 1,oK 70 .eql 69 1,oM 71 70,qM 72 1 71 false,qK 73 .eql 72 2 71 false,oO 74 71 73,oM 75 74,qM 76 2 75 true,qM 77 1 75 true,qB 78 .eql 76 77 75 true,oA 79 75 78,op 80 (.call nvw_ [.t 79,.k (iv 3)]),oM 6 80]
[6])
.ret)
(.exit 0)))))
(.seq (.reg [oC 6 0]
[6])
.ret)))⟩
abbrev pvT_:=pcR nvT_ cvT_ Tryz.func212
def cvw_:AFun:=⟨8,2,[.t 4],
 (.seq (.reg [oC 4 0]
[0,1])
(.seq (.seq (.reg [oM 5 0,oU 6 5]
[1,6])
(.cond (.t 6)
(.seq (.reg [oC 4 0]
[4])
.ret)
.skip))
(.seq (.reg [oM 7 1,oM 4 7]
[4])
.ret)))⟩
abbrev pvw_:=pcR nvw_ cvw_ Tryz.func247
def csCii_:AFun:=⟨9,2,[.t 4],
 (.seq (.reg [oV 4 false]
[0,1])
(.seq (.reg [oM 5 0,oM 6 1,op 7 (.call ns29 [.t 5,.t 6]),oK 8 .geq 7 0,oM 4 8]
[4])
.ret))⟩
abbrev psCii_:=pcR ns25 csCii_ Tryz.func173
def cs24:AFun:=⟨9,2,[.t 4],
 (.seq (.reg [oV 4 false]
[0,1])
(.seq (.reg [oM 5 0,oM 6 1,op 7 (.call ns26 [.t 5,.t 6]),oK 8 .geq 7 0,oM 4 8]
[4])
.ret))⟩
abbrev ps22:=pcR ns18 cs24 Tryz.func146
def csCaSaS_:AFun:=⟨9,2,[.t 4],
 (.seq (.reg [oV 4 false]
[0,1])
(.seq (.reg [oM 5 0,oM 6 1,op 7 (.call nsIaSaS_ [.t 5,.t 6]),oK 8 .geq 7 0,oM 4 8]
[4])
.ret))⟩
abbrev psCaSaS_:=pcR nsCaSaS_ csCaSaS_ Tryz.func163
def cs26:AFun:=⟨9,2,[.t 4],
 (.seq (.reg [oV 4 false]
[0,1])
(.seq (.reg [oM 5 0,oM 6 1,op 7 (.call nsIii_ [.t 5,.t 6]),oK 8 .geq 7 0,oM 4 8]
[4])
.ret))⟩
abbrev ps24:=pcR nsCii_ cs26 Tryz.func153
def csCaAaA_:AFun:=⟨9,2,[.t 4],
 (.seq (.reg [op 3 (.box taA_ 6 (.t 1)),oV 4 false]
[0,3])
(.seq (.reg [oM 5 0,oN 6 3 6,op 7 (.call nsIaAaA_ [.t 5,.t 6]),oK 8 .geq 7 0,oM 4 8]
[4])
.ret))⟩
abbrev psCaAaA_:=pcR nsCaAaA_ csCaAaA_ Tryz.func214
def csCss_:AFun:=⟨9,2,[.t 4],
 (.seq (.reg [oV 4 false]
[0,1])
(.seq (.reg [oM 5 0,oM 6 1,op 7 (.call nsIss_ [.t 5,.t 6]),oK 8 .geq 7 0,oM 4 8]
[4])
.ret))⟩
abbrev psCss_:=pcR nsCss_ csCss_ Tryz.func16
def csEaAiaAi_:AFun:=⟨32,3,[.t 6],
 (.seq (.reg [oV 6 false]
[0,1,2])
(.seq (.seq (.reg [oM 10 0,oZ 11 10,oM 12 1,oZ 13 12,oB 14 .neq 11 13]
[0,1,2,14])
(.cond (.t 14)
(.seq (.reg [oV 6 false]
[6])
.ret)
.skip))
(.seq (.seq (.reg [oM 15 0,oZ 16 15,oC 17 0]
[1,2,15,16,17])
(.block 0
(.loop [1,2,15,16,17] [11,13,16]
 (.seq (.reg [oB 18 .lss 17 16]
[1,2,15,16,17,18])
(.seq (.cond (.t 18)
.skip
(.exit 0))
(.seq (.block 1
(.seq (.reg [oM 19 17,oI 20 6 15 17,oN 21 20 6,op 8 (.alloc taA_ 6 (.agg [iv 0,iv 0,iv 0,iv 0,.str [],.bool false])),oM 7 19,
⟨none,.store (.t 8) (.t 21) 6,none⟩]
[1,2,7,8,15,16,17])
(.seq (.reg [oM 22 1,oM 23 7,oI 24 1 22 23,oL 25 24,oM 9 25]
[1,2,8,9,15,16,17])
(.seq (.reg [oM 26 2,oN 27 8 6,oM 28 9,op 29 (.callv (.t 26) [.t 27,.t 28]),oU 30 29]
[1,2,15,16,17,30])
(.cond (.t 30)
(.seq (.reg [oV 6 false]
[6])
.ret)
.skip)))))
(.reg [oK 31 .add 17 1,oM 17 31]
[1,2,15,16,17])))))))
(.seq (.reg [oV 6 true]
[6])
.ret))))⟩
abbrev psEaAiaAi_:=pcR nsEaAiaAi_ csEaAiaAi_ Tryz.func215
def csEaAaA_:AFun:=⟨26,2,[.t 4],
 (.seq (.reg [oV 4 false]
[0,1])
(.seq (.seq (.reg [oM 6 0,oZ 7 6,oM 8 1,oZ 9 8,oB 10 .neq 7 9]
[0,1,10])
(.cond (.t 10)
(.seq (.reg [oV 4 false]
[4])
.ret)
.skip))
(.seq (.seq (.reg [oM 11 0,oZ 12 11,oC 13 0]
[0,1,12,13])
(.block 0
(.loop [0,1,12,13] [7,9,12]
 (.seq (.reg [oB 14 .lss 13 12]
[0,1,12,13,14])
(.seq (.cond (.t 14)
.skip
(.exit 0))
(.seq (.block 1
(.seq (.reg [oM 15 13,oM 5 15]
[0,1,5,12,13])
(.seq (.dreg [oM 16 0,oM 17 5,oI 18 6 16 17,oN 19 18 6,oM 20 1,oM 21 5,oI 22 6 20 21,oN 23 22 6,op 24 (.eqA true [0,0,0,0,1,2] (.t 19) (.t 23))]
[0,1,12,13,24])
(.cond (.t 24)
(.seq (.reg [oV 4 false]
[4])
.ret)
.skip))))
(.reg [oK 25 .add 13 1,oM 13 25]
[0,1,12,13])))))))
(.seq (.reg [oV 4 true]
[4])
.ret))))⟩
abbrev psEaAaA_:=pcR nsEaAaA_ csEaAaA_ Tryz.func200
def csIii_:AFun:=⟨19,2,[.t 4],
 (.seq (.reg [oC 4 0]
[0,1])
(.seq (.seq (.reg [oM 6 0,oZ 7 6,oC 8 0]
[0,1,7,8])
(.block 0
(.loop [0,1,7,8] [7]
 (.seq (.reg [oB 9 .lss 8 7]
[0,1,7,8,9])
(.seq (.cond (.t 9)
.skip
(.exit 0))
(.seq (.block 1
(.seq (.reg [oM 10 8,oM 5 10]
[0,1,5,7,8])
(.seq (.reg [oM 11 1,oM 12 0,oM 13 5,oI 14 1 12 13,oL 15 14,op 16 (.callv (.t 11) [.t 15])]
[0,1,5,7,8,16])
(.cond (.t 16)
(.seq (.reg [oM 17 5,oM 4 17]
[4])
.ret)
.skip))))
(.reg [oK 18 .add 8 1,oM 8 18]
[0,1,7,8])))))))
(.seq (.reg [op 4 (.mov (.k (iv (-1))))]
[4])
.ret)))⟩
abbrev psIii_:=pcR ns29 csIii_ Tryz.func231
def csIaDaD_:AFun:=⟨19,2,[.t 4],
 (.seq (.reg [oC 4 0]
[0,1])
(.seq (.seq (.reg [oM 6 0,oZ 7 6,oC 8 0]
[0,1,7,8])
(.block 0
(.loop [0,1,7,8] [7]
 (.seq (.reg [oB 9 .lss 8 7]
[0,1,7,8,9])
(.seq (.cond (.t 9)
.skip
(.exit 0))
(.seq (.block 1
(.seq (.reg [oM 10 8,oM 5 10]
[0,1,5,7,8])
(.seq (.reg [oM 11 1,oM 12 0,oM 13 5,oI 14 2 12 13,oN 15 14 2,op 16 (.callv (.t 11) [.t 15])]
[0,1,5,7,8,16])
(.cond (.t 16)
(.seq (.reg [oM 17 5,oM 4 17]
[4])
.ret)
.skip))))
(.reg [oK 18 .add 8 1,oM 8 18]
[0,1,7,8])))))))
(.seq (.reg [op 4 (.mov (.k (iv (-1))))]
[4])
.ret)))⟩
abbrev psIaDaD_:=pcR nsIaDaD_ csIaDaD_ Tryz.func258
def cs25:AFun:=⟨19,2,[.t 4],
 (.seq (.reg [oC 4 0]
[0,1])
(.seq (.seq (.reg [oM 6 0,oZ 7 6,oC 8 0]
[0,1,7,8])
(.block 0
(.loop [0,1,7,8] [7]
 (.seq (.reg [oB 9 .lss 8 7]
[0,1,7,8,9])
(.seq (.cond (.t 9)
.skip
(.exit 0))
(.seq (.block 1
(.seq (.reg [oM 10 8,oM 5 10]
[0,1,5,7,8])
(.seq (.reg [oM 11 1,oM 12 0,oM 13 5,oI 14 2 12 13,oN 15 14 2,op 16 (.callv (.t 11) [.t 15])]
[0,1,5,7,8,16])
(.cond (.t 16)
(.seq (.reg [oM 17 5,oM 4 17]
[4])
.ret)
.skip))))
(.reg [oK 18 .add 8 1,oM 8 18]
[0,1,7,8])))))))
(.seq (.reg [op 4 (.mov (.k (iv (-1))))]
[4])
.ret)))⟩
abbrev ps23:=pcR ns26 cs25 Tryz.func213
def csIaSaS_:AFun:=⟨19,2,[.t 4],
 (.seq (.reg [oC 4 0]
[0,1])
(.seq (.seq (.reg [oM 6 0,oZ 7 6,oC 8 0]
[0,1,7,8])
(.block 0
(.loop [0,1,7,8] [7]
 (.seq (.reg [oB 9 .lss 8 7]
[0,1,7,8,9])
(.seq (.cond (.t 9)
.skip
(.exit 0))
(.seq (.block 1
(.seq (.reg [oM 10 8,oM 5 10]
[0,1,5,7,8])
(.seq (.reg [oM 11 1,oM 12 0,oM 13 5,oI 14 2 12 13,oN 15 14 2,op 16 (.callv (.t 11) [.t 15])]
[0,1,5,7,8,16])
(.cond (.t 16)
(.seq (.reg [oM 17 5,oM 4 17]
[4])
.ret)
.skip))))
(.reg [oK 18 .add 8 1,oM 8 18]
[0,1,7,8])))))))
(.seq (.reg [op 4 (.mov (.k (iv (-1))))]
[4])
.ret)))⟩
abbrev psIaSaS_:=pcR nsIaSaS_ csIaSaS_ Tryz.func156
def cs27:AFun:=⟨19,2,[.t 4],
 (.seq (.reg [oC 4 0]
[0,1])
(.seq (.seq (.reg [oM 6 0,oZ 7 6,oC 8 0]
[0,1,7,8])
(.block 0
(.loop [0,1,7,8] [7]
 (.seq (.reg [oB 9 .lss 8 7]
[0,1,7,8,9])
(.seq (.cond (.t 9)
.skip
(.exit 0))
(.seq (.block 1
(.seq (.reg [oM 10 8,oM 5 10]
[0,1,5,7,8])
(.seq (.reg [oM 11 1,oM 12 0,oM 13 5,oI 14 1 12 13,oL 15 14,oB 16 .eql 11 15]
[0,1,5,7,8,16])
(.cond (.t 16)
(.seq (.reg [oM 17 5,oM 4 17]
[4])
.ret)
.skip))))
(.reg [oK 18 .add 8 1,oM 8 18]
[0,1,7,8])))))))
(.seq (.reg [op 4 (.mov (.k (iv (-1))))]
[4])
.ret)))⟩
abbrev ps25:=pcR nsIii_ cs27 Tryz.func204
def csIaAaA_:AFun:=⟨19,2,[.t 4],
 (.seq (.reg [op 3 (.box taA_ 6 (.t 1)),oC 4 0]
[0,3])
(.seq (.seq (.reg [oM 6 0,oZ 7 6,oC 8 0]
[0,3,7,8])
(.block 0
(.loop [0,3,7,8] [3,7]
 (.seq (.reg [oB 9 .lss 8 7]
[0,3,7,8,9])
(.seq (.cond (.t 9)
.skip
(.exit 0))
(.seq (.block 1
(.seq (.reg [oM 10 8,oM 5 10]
[0,3,5,7,8])
(.seq (.dreg [oN 11 3 6,oM 12 0,oM 13 5,oI 14 6 12 13,oN 15 14 6,op 16 (.eqA false [0,0,0,0,1,2] (.t 11) (.t 15))]
[0,3,5,7,8,16])
(.cond (.t 16)
(.seq (.reg [oM 17 5,oM 4 17]
[4])
.ret)
.skip))))
(.reg [oK 18 .add 8 1,oM 8 18]
[0,3,7,8])))))))
(.seq (.reg [op 4 (.mov (.k (iv (-1))))]
[4])
.ret)))⟩
abbrev psIaAaA_:=pcR nsIaAaA_ csIaAaA_ Tryz.func248
def csIss_:AFun:=⟨19,2,[.t 4],
 (.seq (.reg [oC 4 0]
[0,1])
(.seq (.seq (.reg [oM 6 0,oZ 7 6,oC 8 0]
[0,1,7,8])
(.block 0
(.loop [0,1,7,8] [7]
 (.seq (.reg [oB 9 .lss 8 7]
[0,1,7,8,9])
(.seq (.cond (.t 9)
.skip
(.exit 0))
(.seq (.block 1
(.seq (.reg [oM 10 8,oM 5 10]
[0,1,5,7,8])
(.seq (.reg [oM 11 1,oM 12 0,oM 13 5,oI 14 1 12 13,oL 15 14,oB 16 .eql 11 15]
[0,1,5,7,8,16])
(.cond (.t 16)
(.seq (.reg [oM 17 5,oM 4 17]
[4])
.ret)
.skip))))
(.reg [oK 18 .add 8 1,oM 8 18]
[0,1,7,8])))))))
(.seq (.reg [op 4 (.mov (.k (iv (-1))))]
[4])
.ret)))⟩
abbrev psIss_:=pcR nsIss_ csIss_ Tryz.func49
def csI_:AFun:=⟨8,2,[.t 4],
 (.seq (.reg [oC 4 0]
[0,1])
(.seq (.reg [oM 5 0,oM 6 1,op 7 (.call nsi_ [.t 5,.t 6,.k (.bool true)]),oM 4 7]
[4])
.ret))⟩
abbrev psI_:=pcR nsI_ csI_ Tryz.func246
def csi_:AFun:=⟨21,3,[.t 6],
 (.seq (.reg [oC 6 0]
[0,1,2])
(.seq (.seq (.reg [oM 9 0,op 10 (.rng (.t 9))]
[1,2,10])
(.block 0
(.loop [1,2,10] [10]
 (.seq (.reg [op 11 (.nxt (.t 10)),oE 12 11 0]
[1,2,10,11,12])
(.seq (.cond (.t 12)
.skip
(.exit 0))
(.block 1
(.seq (.reg [oE 13 11 1,oE 14 11 2,oM 7 13,oM 8 14]
[1,2,7,8,10])
(.seq (.reg [oM 15 1,oM 16 8,op 17 (.callv (.t 15) [.t 16]),oM 18 2,op 19 (.eqB false (.t 17) (.t 18))]
[1,2,7,10,19])
(.cond (.t 19)
(.seq (.reg [oM 20 7,oM 6 20]
[6])
.ret)
.skip)))))))))
(.seq (.reg [op 6 (.mov (.k (iv (-1))))]
[6])
.ret)))⟩
abbrev psi_:=pcR nsi_ csi_ Tryz.func260
