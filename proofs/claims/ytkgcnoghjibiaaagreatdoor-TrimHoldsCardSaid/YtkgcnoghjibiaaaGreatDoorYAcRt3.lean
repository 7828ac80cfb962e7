/- Lemmas. -/
import Derived.Test.YtkgcnoghjibiaaaGreatDoorYAcR0
set_option linter.unusedSimpArgs false
namespace Go.Proofs.YtkgcnoghjibiaaaGreatDoor.Ab
open Go
def ctaaT_:AFun:=⟨9,2,[.t 4],
 (sR [ob__ 3 294 1 1,oV 4 false]
[0,3]
(sR [oM 5 0,op 6 (.mkfn 257 [.t 3]),oc 7 256 [.t 5,.t 6],oU 8 7,oM 4 8]
[4]
.ret))⟩
abbrev htaaT_:=hcR 200 ctaaT_ Tryz.func200
def ctaaT1z:AFun:=⟨8,2,[.t 3],
 (sR [ob__ 2 196 4 0,oV 3 false]
[1,2]
(sR [oL 4 1,oN 5 2 4,op 6 (.callv (.t 4) [.t 5]),oU 7 6,oM 3 7]
[3]
.ret))⟩
abbrev htaaT1z:=hcR 257 ctaaT1z Tryz.func257
def ct15:AFun:=⟨40,1,[.t 2],
 (sR [ob__ 1 144 8 0,oV 2 false]
[1]
(.seq (sR [oF 3 1 0,oL 4 3]
[1,4]
(.block 0
(sR [oK 6 .eql 4 1,oM 5 6]
[1,4,5]
(cT 5
(sR [oF 7 1 1,oL 8 7,op 9 (.bin .eql (.t 8) (.k (.str []))),oM 10 9,qF 11 1 2 10 true,qN 12 11 4 10 true,oG 13 (.call 103 [.t 12]) 10 true,oA 14 10 13,oM 2 14]
[2]
.ret)
(sR [oK 16 .eql 4 2,oM 15 16]
[1,15]
(cT 15
(sR [oF 17 1 1,oL 18 17,oc 19 149 [.t 18],oM 20 19,qF 21 1 2 20 true,qN 22 21 4 20 true,oG 23 (.build [iv 0,iv 0,.str [],.bool false] []) 20 true,oG 24 (.eqA false [0,0,1,2] (.t 22) (.t 23)) 20 true,oA 25 20 24,oM 2 25]
[2]
.ret)
.skip))))))
(sR [oF 26 1 0,oL 27 26,oK 28 .eql 27 3,oM 29 28,qF 30 1 1 29 true,qL 31 30 29 true,oG 32 (.bin .eql (.t 31) (.k (.str []))) 29 true,oA 33 29 32,oM 34 33,qF 35 1 2 34 true,qN 36 35 4 34 true,oG 37 (.build [iv 0,iv 0,.str [],.bool false] []) 34 true,oG 38 (.eqA false [0,0,1,2] (.t 36) (.t 37)) 34 true,oA 39 34 38,oM 2 39]
[2]
.ret)))⟩
abbrev pt12:=pcR 196 ct15 Tryz.func196
def ctk_:AFun:=⟨6,1,[.t 2],
 (sR [oV 2 false]
[0]
(sR [oM 3 0,oc 4 153 [.t 3],op 5 (.bin .neq (.t 4) (.k (.str []))),oM 2 5]
[2]
.ret))⟩
abbrev ptk_:=pcR 98 ctk_ Tryz.func98
def ctl_:AFun:=⟨38,1,[.t 2],
 (sR [ob__ 1 191 10 0,oV 2 false]
[1]
(.seq (.block 0
(sR [oF 4 1 1,oL 5 4,oK 6 .neq 5 0,oM 7 6,qF 8 1 2 7 false,qL 9 8 7 false,qK 10 .neq 9 0 7 false,oO 11 7 10,oM 3 11]
[1,3]
(cT 3
(sR [oV 2 false]
[2]
.ret)
(sR [oF 13 1 0,oL 14 13,oK 15 .eql 14 1,oM 12 15]
[1,12]
(cT 12
(sR [oF 16 1 3,oL 17 16,op 18 (.bin .eql (.t 17) (.k (.str []))),oM 19 18,qF 20 1 4 19 true,qN 21 20 4 19 true,oG 22 (.call 103 [.t 21]) 19 true,oA 23 19 22,oM 2 23]
[2]
.ret)
.skip)))))
(sR [oF 24 1 0,oL 25 24,oK 26 .eql 25 17,oM 27 26,qF 28 1 4 27 true,qN 29 28 4 27 true,oG 30 (.build [iv 0,iv 0,.str [],.bool false] []) 27 true,oG 31 (.eqA false [0,0,1,2] (.t 29) (.t 30)) 27 true,oA 32 27 31,oM 33 32,qF 34 1 3 33 true,qL 35 34 33 true,oG 36 (.call 149 [.t 35]) 33 true,oA 37 33 36,oM 2 37]
[2]
.ret)))⟩
abbrev ptl_:=pcR 255 ctl_ Tryz.func255
def ct13:AFun:=⟨6,1,[.t 2],
 (sR [ob__ 1 55 3 0,oV 2 false]
[1]
(sR [oF 3 1 0,oL 4 3,oc 5 149 [.t 4],oM 2 5]
[2]
.ret))⟩
abbrev pt11:=pcR 94 ct13 Tryz.func94
def ct12:AFun:=⟨151,1,[.t 2,.t 3],
 (sR [op 2 (.nilrow 3 1),op 3 (.nilrow 3 1)]
[0]
(.seq (.dregT [oM 7 0,oZ 8 7,op 9 (.mks 3 1 8 (iv 0) (.t 8) (.t 8)),oM 10 0,oZ 11 10,op 12 (.mks 3 1 8 (iv 0) (.t 11) (.t 11)),oM 2 9,oM 3 12]
[2,5] [[],[],[],[],[],[],[2],[2,5]] [[2],[2],[],[5],[5],[],[],[]] [0,1,3,4]
(.next 2 [6] [3,4] (.next 5 [7] [6] .fin .nil) (.next 5 [] [0,1] (.next 2 [6,7] [] .fin .nil) .nil))
[0,2,3,7,8,9,10,11,12] [0,2,3])
(.seq (sR [oM 13 0,oZ 14 13,oC 15 0]
[2,3,13,14,15]
(.block 0
(.loop [2,3,13,14,15] [2,3,8,9,11,12,14]
 (sR [oB 16 .lss 15 14]
[2,3,13,14,15,16]
(.seq (cT 16
.skip x0z)
(.seq (.block 1
(sR [oM 17 15,oI 18 10 13 15,oN 19 18 10,oa 5 191 10 (.agg [iv 0,iv 0,iv 0,.str [],iv 0,iv 0,.str [],.bool false,iv 0,iv 0]),oM 4 17,oS 5 19 10]
[2,3,4,5,13,14,15]
(.seq (sR [oN 20 5 10,oc 21 255 [.t 20]]
[2,3,4,5,13,14,15,21]
(cT 21
(sR [oM 22 2,oM 23 4,oM 24 3,oM 25 4,oI 26 1 22 23,
⟨none,.store (.t 26) (.k (iv 1)) 1,none⟩,oI 27 1 24 25,
⟨none,.store (.t 27) (.k (iv 1)) 1,none⟩]
[2,3,13,14,15] x1z)
.skip))
(.seq (sR [oF 28 5 0,oL 29 28,oK 30 .lss 29 4,oM 31 30,qF 32 5 0 31 false,qL 33 32 31 false,qK 34 .gtr 33 16 31 false,oO 35 31 34,oM 36 35,qF 37 5 3 36 false,qL 38 37 36 false,oG 39 (.bin .neq (.t 38) (.k (.str []))) 36 false,oO 40 36 39,oM 41 40,qF 42 5 4 41 false,qN 43 42 4 41 false,oG 44 (.build [iv 0,iv 0,.str [],.bool false] []) 41 false,oG 45 (.eqA true [0,0,1,2] (.t 43) (.t 44)) 41 false,oO 46 41 45,oM 47 46,qM 48 4 47 false,qK 49 .eql 48 0 47 false,oO 50 47 49,oM 51 50,qM 52 2 51 false,qM 53 4 51 false,qK 54 .sub 53 1 51 false,qI 55 1 52 54 51 false,qL 56 55 51 false,qK 57 .eql 56 0 51 false,oO 58 51 57]
[2,3,4,5,13,14,15,58]
(cT 58 x1z
.skip))
(.seq (sR [oF 59 5 0,oL 60 59,oK 61 .leq 60 5]
[2,3,4,5,13,14,15,61]
(cT 61
(.seq (sR [oF 62 5 1,oL 63 62,oM 64 4,oK 65 .sub 64 1,oB 66 .eql 63 65,oM 67 66,qF 68 5 2 67 true,qL 69 68 67 true,qK 70 .eql 69 0 67 true,oA 71 67 70]
[2,3,4,13,14,15,71]
(cT 71
(.dregT [oM 72 2,oM 73 4,oM 74 3,oM 75 4,oM 76 2,oM 77 4,oK 78 .sub 77 1,oI 79 1 76 78,oL 80 79,oK 81 .add 80 1,oM 82 3,oM 83 4,oK 84 .sub 83 1,oI 85 1 82 84,oL 86 85,oK 87 .add 86 1,oI 88 1 72 73,oS 88 81 1,oI 89 1 74 75,oS 89 87 1]
[17,19] [[],[],[],[],[],[],[],[],[],[],[],[],[],[],[],[],[],[],[17],[17]] [[17,19],[17,19],[19],[19],[17,19],[17,19],[17,19],[17,19],[17,19],[17,19],[17,19],[17,19],[17,19],[17,19],[17,19],[19],[17,19],[],[19],[]] [0,1,2,3,4,5,6,7,8,9,10,11,12,13,14,15,16]
(.next 17 [18] [2,3,15] (.next 19 [] [] .fin .nil) .nil)
[2,3,4,13,14,15,72,73,74,75,76,77,78,79,80,81,82,83,84,85,86,87,88,89] [2,3,13,14,15])
.skip)) x1z)
.skip))
(sR [oM 90 4,oK 91 .sub 90 1,oM 92 2,oM 93 4,oK 94 .sub 93 1,oI 95 1 92 94,oL 96 95,oB 97 .sub 91 96,oM 6 97]
[2,3,4,5,6,13,14,15]
(sR [oF 98 5 2,oL 99 98,oM 100 4,oK 101 .sub 100 1,oB 102 .eql 99 101,oM 103 102,qF 104 5 1 103 true,qL 105 104 103 true,qM 106 6 103 true,qB 107 .eql 105 106 103 true,oA 108 103 107,oM 109 108,qM 110 6 109 true,qK 111 .geq 110 0 109 true,oA 112 109 111,oM 113 112,qM 114 2 113 true,qM 115 6 113 true,qI 116 1 114 115 113 true,qL 117 116 113 true,qK 118 .gtr 117 0 113 true,oA 119 113 118]
[2,3,4,6,13,14,15,119]
(cT 119
(.dregT [oM 120 2,oM 121 4,oM 122 3,oM 123 4,oM 124 2,oM 125 6,oI 126 1 124 125,oL 127 126,oM 128 2,oM 129 4,oK 130 .sub 129 1,oI 131 1 128 130,oL 132 131,oB 133 .add 127 132,oK 134 .add 133 1,oM 135 3,oM 136 6,oI 137 1 135 136,oL 138 137,oM 139 3,oM 140 4,oK 141 .sub 140 1,oI 142 1 139 141,oL 143 142,op 144 (.mx false (.t 138) (.t 143)),oK 145 .add 144 1,oI 146 1 120 121,oS 146 134 1,oI 147 1 122 123,oS 147 145 1]
[27,29] [[],[],[],[],[],[],[],[],[],[],[],[],[],[],[],[],[],[],[],[],[],[],[],[],[],[],[],[],[27],[27]] [[27,29],[27,29],[29],[29],[27,29],[27,29],[27,29],[27,29],[27,29],[27,29],[27,29],[27,29],[27,29],[27,29],[27,29],[27,29],[27,29],[27,29],[27,29],[27,29],[27,29],[27,29],[27,29],[27,29],[29],[29],[27,29],[],[29],[]] [0,1,2,3,4,5,6,7,8,9,10,11,12,13,14,15,16,17,18,19,20,21,22,23,24,25,26]
(.next 27 [28] [2,3,24,25] (.next 29 [] [] .fin .nil) .nil)
[2,3,4,6,13,14,15,120,121,122,123,124,125,126,127,128,129,130,131,132,133,134,135,136,137,138,139,140,141,142,143,144,145,146,147] [2,3,13,14,15])
.skip))))))))
(.reg [oK 148 .add 15 1,oM 15 148]
[2,3,13,14,15])))))))
(sR [oM 149 2,oM 150 3,oM 2 149,oM 3 150]
[2,3]
.ret))))⟩
abbrev pt10:=pcR 198 ct12 Tryz.func198
def cts_:AFun:=⟨11,1,[.t 2],
 (sR [ob__ 1 78 4 0,oV 2 false]
[1]
(sR [oF 3 1 0,oL 4 3,oc 5 149 [.t 4],oM 6 5,qF 7 1 1 6 true,qL 8 7 6 true,oG 9 (.call 195 [.t 8,.f 196]) 6 true,oA 10 6 9,oM 2 10]
[2]
.ret))⟩
abbrev pts_:=pcR 107 cts_ Tryz.func107
def ctt_:AFun:=⟨53,1,[.t 2],
 (sR [ob__ 1 82 13 0,oV 2 false]
[1]
(sR [oF 8 1 10,oL 9 8,oc 10 198 [.t 9],oM 7 10,oE 11 7 0,oE 12 7 1,oa 3 40 1 (.nils),oa 4 40 1 (.nils),oS 3 11 1,oS 4 12 1]
[1,3,4]
(sR [oa 5 3 1 (iv 0),
⟨none,.store (.t 5) (.k (iv 0)) 1,none⟩]
[1,3,4,5]
(sR [op 13 (.mkfn 199 [.t 5,.t 1,.t 3,.t 4]),oa 6 202 1 (.nilfn),oS 6 13 1]
[1,5,6]
(.seq (sR [oF 14 1 0,oN 15 14 3,oc 16 94 [.t 15],oU 17 16,oM 18 17,qF 19 1 3 18 false,qN 20 19 3 18 false,oG 21 (.call 94 [.t 20]) 18 false,oG 22 (.un .not (.t 21)) 18 false,oO 23 18 22,oM 24 23,qF 25 1 6 24 false,qN 26 25 4 24 false,oG 27 (.call 107 [.t 26]) 24 false,oG 28 (.un .not (.t 27)) 24 false,oO 29 24 28,oM 30 29,qF 31 1 11 30 false,qL 32 31 30 false,oG 33 (.bin .neq (.t 32) (.k (iv (-1)))) 30 false,qM 34 33 30 false,qL 35 6 34 true,qF 36 1 11 34 true,qL 37 36 34 true,oG 38 (.callv (.t 35) [.t 37]) 34 true,oG 39 (.un .not (.t 38)) 34 true,qA 40 34 39 30 false,oO 41 30 40]
[1,5,6,41]
(cT 41
(sR [oV 2 false]
[2]
.ret)
.skip))
(sR [oF 42 1 12,oL 43 42,op 44 (.mkfn 201 [.t 6]),oc 45 200 [.t 43,.t 44],oM 46 45,qL 47 5 46 true,qF 48 1 10 46 true,qL 49 48 46 true,oG 50 (.len false (.t 49)) 46 true,qB 51 .eql 47 50 46 true,oA 52 46 51,oM 2 52]
[2]
.ret))))))⟩
abbrev ptt_:=pcR 109 ctt_ Tryz.func109
def ctt1z:AFun:=⟨37,5,[.t 6],
 (sR [oV 6 false]
[0,1,2,3,4]
(.seq (.seq (.dreg [oM 7 0,oL 8 1,oB 9 .lss 7 8,oM 10 9,qM 11 0 10 false,qF 12 2 10 10 false,qL 13 12 10 false,oG 14 (.len false (.t 13)) 10 false,qB 15 .geq 11 14 10 false,oO 16 10 15,oM 17 16,qL 18 3 17 false,qM 19 0 17 false,qI 20 1 18 19 17 false,qL 21 20 17 false,qM 22 0 17 false,qL 23 1 17 false,qB 24 .sub 22 23 17 false,qK 25 .add 24 1 17 false,qB 26 .neq 21 25 17 false,oO 27 17 26,oM 28 27,qL 29 4 28 false,qM 30 0 28 false,qI 31 1 29 30 28 false,qL 32 31 28 false,qK 33 .gtr 32 64 28 false,oO 34 28 33]
[0,1,34])
(cT 34
(sR [oV 6 false]
[6]
.ret)
.skip))
(sR [oM 35 0,oK 36 .add 35 1,oS 1 36 1]
[]
(sR [oV 6 true]
[6]
.ret))))⟩
abbrev htt1z:=hcR 199 ctt1z Tryz.func199
def ctt2z:AFun:=⟨13,2,[.t 3],
 (sR [ob__ 2 196 4 0,oV 3 false]
[1,2]
(sR [oF 4 2 0,oN 5 4 3,oc 6 94 [.t 5],oM 7 6,qL 8 1 7 true,qF 9 2 3 7 true,qL 10 9 7 true,oG 11 (.callv (.t 8) [.t 10]) 7 true,oA 12 7 11,oM 3 12]
[3]
.ret))⟩
abbrev htt2z:=hcR 201 ctt2z Tryz.func201
def ctS_:AFun:=⟨9,1,[.t 2],
 (sR [ob__ 1 30 9 0,op 2 (.nilrow 3 1)]
[1]
(.seq (sR [oN 3 1 9,oc 4 37 [.t 3],oU 5 4]
[1,5]
(cT 5
(sR [op 2 (.nilrow 3 1)]
[2]
.ret)
.skip))
(sR [oN 6 1 9,oc 7 50 [.t 6],op 8 (.fld (.t 7) 0),oM 2 8]
[2]
.ret)))⟩
abbrev ptS_:=pcR 16 ctS_ Tryz.func16
def ctT_:AFun:=⟨52,1,[.cells 2 9,.t 3],
 (sR [ob__ 1 30 9 0,oa 2 30 9 (.agg [.str [],.nils,.nils,.nils,.nils,iv 0,.nils,.nils,.nils]),oV 3 false]
[1,2]
(sR [oN 12 1 9,oc 13 14 [.t 12],oM 11 13,oE 14 11 0,oE 15 11 1,oa 4 63 12 (.agg [.str [],iv 0,iv 0,.nils,.nils,.nils,.nils,.str [],iv 0,iv 0,.nils,.nils]),oS 4 14 12,oM 5 15]
[1,2,4,5]
(.seq (sR [oM 16 5,oU 17 16]
[1,2,4,17]
(cT 17
(sR [op 18 (.build [.str [],.nils,.nils,.nils,.nils,iv 0,.nils,.nils,.nils] []),oS 2 18 9,oV 3 false]
[2,3]
.ret)
.skip))
(.seq (.dregT [oN 19 1 9,oN 20 1 9,oc 21 16 [.t 20],oc 22 15 [.t 19,.t 21],oa 6 66 1 (.nils),oS 6 22 1]
[4,5] [[],[],[],[],[],[4]] [[5],[5],[5],[5],[],[]] [0,1,2,3]
(.next 4 [] [0,1,2,3] (.next 5 [] [] .fin .nil) .nil)
[1,2,4,6,19,20,21,22] [1,2,4,6])
(sR [op 23 (.mkfn 17 [.t 6]),oa 7 70 1 (.nilfn),oS 7 23 1]
[1,2,4,7]
(sR [oF 24 4 6,oL 25 24,op 26 (.mkfn 20 [.t 7]),oc 27 19 [.t 25,.t 26],oF 28 4 6,oS 28 27 1]
[1,2,4,7]
(sR [oF 29 4 11,oL 30 29,op 31 (.mkfn 22 [.t 7]),oc 32 21 [.t 30,.t 31],oM 8 32]
[1,2,4,7,8]
(sR [oF 33 4 11,oL 34 33,op 35 (.mkfn 23 [.t 7]),oc 36 21 [.t 34,.t 35],oF 37 4 11,oS 37 36 1]
[1,2,4,8]
(sR [oN 38 1 9,oN 39 4 12,oM 40 8,oc 41 24 [.t 38,.t 39,.t 40],oF 42 4 10,oS 42 41 1]
[2,4]
(sR [oN 44 4 12,oc 45 25 [.t 44],oM 43 45,oE 46 43 0,oE 47 43 1,oa 9 30 9 (.agg [.str [],.nils,.nils,.nils,.nils,iv 0,.nils,.nils,.nils]),oa 10 87 3 (.agg [iv 0,iv 0,iv 0]),oS 9 46 9,oS 10 47 3]
[2,9,10]
(.seq (.dregT [oN 48 9 9,oN 49 10 3,op 50 (.build [iv 0,iv 0,iv 0] []),op 51 (.eqA false [0,0,0] (.t 49) (.t 50)),oS 2 48 9,oM 3 51]
[4] [[],[],[],[],[],[4]] [[4],[],[],[],[],[]] [0,1,2,3]
(.next 4 [5] [1,2,3] .fin .nil)
[2,3,9,10,48,49,50,51] [2,3])
.ret)))))))))))⟩
abbrev ptT_:=pcR 6 ctT_ Tryz.func6
def ctT1z:AFun:=⟨8,2,[.t 3],
 (sR [ob__ 2 55 3 0,oV 3 false]
[1,2]
(sR [oL 4 1,oF 5 2 0,oL 6 5,oc 7 18 [.t 4,.t 6],oM 3 7]
[3]
.ret))⟩
abbrev ptT1z:=pcR 17 ctT1z Tryz.func17
def ctT2z:AFun:=⟨8,2,[.t 3],
 (sR [ob__ 2 73 5 0,oV 3 false]
[1,2]
(sR [oL 4 1,oF 5 2 0,oN 6 5 3,op 7 (.callv (.t 4) [.t 6]),oM 3 7]
[3]
.ret))⟩
abbrev ptT2z:=pcR 20 ctT2z Tryz.func20
def ctT3z:AFun:=⟨9,2,[.t 3],
 (sR [ob__ 2 82 13 0,oV 3 false]
[1,2]
(sR [oL 4 1,oF 5 2 0,oN 6 5 3,op 7 (.callv (.t 4) [.t 6]),oU 8 7,oM 3 8]
[3]
.ret))⟩
abbrev ptT3z:=pcR 22 ctT3z Tryz.func22
def ctT4z:AFun:=⟨8,2,[.t 3],
 (sR [ob__ 2 82 13 0,oV 3 false]
[1,2]
(sR [oL 4 1,oF 5 2 0,oN 6 5 3,op 7 (.callv (.t 4) [.t 6]),oM 3 7]
[3]
.ret))⟩
abbrev ptT4z:=pcR 23 ctT4z Tryz.func23
def cta_:AFun:=⟨47,3,[.t 6],
 (sR [ob__ 3 30 9 0,ob__ 4 63 12 1,op 6 (.nilrow 78 4)]
[2,4]
(sR [oF 14 4 10,oL 15 14,oM 7 15]
[2,4,7]
(sR [op 8 (.mov (.f 52))]
[2,4,7,8]
(sR [oM 16 7,oc 17 55 [.t 16],oM 9 17]
[2,4,8,9]
(.seq (sR [oM 18 2,oZ 19 18,oC 20 0]
[4,8,9,18,19,20]
(.block 0
(.loop [4,8,9,18,19,20] [3,4,6,17,19,44]
 (sR [oB 21 .lss 20 19]
[4,8,9,18,19,20,21]
(.seq (cT 21
.skip x0z)
(.seq (.block 1
(sR [oI 22 13 18 20,oN 23 22 13,oa 11 82 13 (.agg [.str [],iv 0,iv 0,.str [],iv 0,iv 0,.str [],.nils,iv 0,iv 0,.nils,iv 0,.nils]),oS 11 23 13]
[4,8,9,11,18,19,20]
(sR [oM 24 8,oF 25 11 6,oN 26 25 4,op 27 (.callv (.t 24) [.t 26]),oa 12 141 1 (.nilfn),oS 12 27 1]
[4,8,9,11,12,18,19,20]
(sR [oF 28 4 11,oL 29 28,op 30 (.mkfn 57 [.t 12]),oc 31 56 [.t 29,.t 30],oM 13 31]
[4,8,9,11,12,13,18,19,20]
(sR [oM 32 13,oU 33 32,oM 34 33,qM 35 9 34 true,qL 36 12 34 true,oG 37 (.call 58 [.t 35,.t 36]) 34 true,oG 38 (.un .not (.t 37)) 34 true,oA 39 34 38]
[4,8,9,11,18,19,20,39]
(cT 39
(.reg [oM 40 9,oF 41 11 6,oN 42 41 4,op 43 (.mkrow 78 4 1 (.agg [.str [],.nils,iv 0,iv 0]) [(0,.t 42)]),op 44 (.app 78 4 56 (.t 40) (.t 43)),oM 9 44]
[4,8,9,18,19,20])
.skip))))))
(.reg [oK 45 .add 20 1,oM 20 45]
[4,8,9,18,19,20])))))))
(sR [oM 46 9,oM 6 46]
[6]
.ret))))))⟩
abbrev pta_:=pcR 24 cta_ Tryz.func24
def cta1z:AFun:=⟨4,1,[.t 2],
 (sR [ob__ 1 78 4 0,op 2 (.mov (.k (.nilfn)))]
[1]
(sR [op 3 (.mkfn 53 [.t 1]),oM 2 3]
[2]
.ret))⟩
abbrev hta1z:=hcR 52 cta1z Tryz.func52
def cta11z:AFun:=⟨16,2,[.t 3],
 (sR [ob__ 2 78 4 0,oV 3 false]
[1,2]
(sR [oF 4 1 0,oL 5 4,oF 6 2 0,oL 7 6,oB 8 .eql 5 7,oM 9 8,qF 10 1 1 9 true,qL 11 10 9 true,qF 12 2 1 9 true,qL 13 12 9 true,oG 14 (.call 54 [.t 11,.t 13]) 9 true,oA 15 9 14,oM 3 15]
[3]
.ret))⟩
abbrev pta11z:=pcR 53 cta11z Tryz.func53
def cta2z:AFun:=⟨8,2,[.t 3],
 (sR [ob__ 2 82 13 0,oV 3 false]
[1,2]
(sR [oL 4 1,oF 5 2 6,oN 6 5 4,op 7 (.callv (.t 4) [.t 6]),oM 3 7]
[3]
.ret))⟩
abbrev pta2z:=pcR 57 cta2z Tryz.func57
def ctf_:AFun:=⟨52,1,[.cells 2 1],
 (sR [ob__ 1 30 9 0,oa 2 138 1 (.agg [.nils])]
[1,2]
(sR [oF 7 1 5,oL 8 7,op 9 (.mkrow 3 1 1 (iv 0) [(0,.t 8)]),op 10 (.build [.nils] [(0,1,.t 9)]),oa 3 138 1 (.agg [.nils]),oS 3 10 1]
[1,2,3]
(.seq (sR [oC 4 0]
[1,2,3,4]
(.block 0
(.loop [1,2,3,4] [1,2,9,3,45]
 (.seq (sR [oM 11 4,oF 12 3 0,oL 13 12,oZ 14 13,oB 15 .lss 11 14]
[1,2,3,4,15]
(cT 15
.skip x0z))
(.seq (.block 1
(sR [oF 18 1 8,oL 19 18,oZ 20 19,oC 21 0]
[1,2,3,4,19,20,21]
(.block 2
(.loop [1,2,3,4,19,20,21] [1,2,9,3,14,20,45]
 (sR [oB 22 .lss 21 20]
[1,2,3,4,19,20,21,22]
(.seq (cT 22
.skip x2z)
(.seq (.block 3
(sR [oI 23 5 19 21,oN 24 23 5,oa 6 95 5 (.agg [iv 0,iv 0,iv 0,iv 0,.nils]),oS 6 24 5]
[1,2,3,4,6,19,20,21]
(.seq (.dreg [oF 25 6 0,oL 26 25,oF 27 3 0,oL 28 27,oM 29 4,oI 30 1 28 29,oL 31 30,oB 32 .eql 26 31,oM 33 32,qN 34 3 1 33 true,qF 35 6 2 33 true,qL 36 35 33 true,oG 37 (.call 90 [.t 34,.t 36]) 33 true,oG 38 (.un .not (.t 37)) 33 true,oA 39 33 38]
[1,2,3,4,6,19,20,21,39])
(cT 39
(.reg [oF 40 3 0,oL 41 40,oF 42 6 2,oL 43 42,op 44 (.mkrow 3 1 1 (iv 0) [(0,.t 43)]),op 45 (.app 3 1 8 (.t 41) (.t 44)),oF 46 3 0,oS 46 45 1]
[1,2,3,4,19,20,21])
.skip))))
(.reg [oK 47 .add 21 1,oM 21 47]
[1,2,3,4,19,20,21]))))))))
(.reg [oM 16 4,oK 17 .add 16 1,oM 4 17]
[1,2,3,4]))))))
(sR [oF 48 3 0,oL 49 48,oc 50 91 [.t 49]]
[2,3]
(sR [oN 51 3 1,oS 2 51 1]
[2]
.ret)))))⟩
abbrev ptf_:=pcR 50 ctf_ Tryz.func50
def ctkaT_:AFun:=⟨23,2,[.t 4],
 (sR [op 4 (.nilrow 73 5)]
[0,1]
(sR [op 5 (.nilrow 73 5)]
[0,1,5]
(.seq (sR [oM 8 0,oZ 9 8,oC 10 0]
[1,5,8,9,10]
(.block 0
(.loop [1,5,8,9,10] [4,5,9,20]
 (sR [oB 11 .lss 10 9]
[1,5,8,9,10,11]
(.seq (cT 11
.skip x0z)
(.seq (.block 1
(sR [oI 12 5 8 10,oN 13 12 5,oa 7 73 5 (.agg [.str [],iv 0,iv 0,.bool false,.bool false]),oS 7 13 5]
[1,5,7,8,9,10]
(sR [oM 14 1,oN 15 7 5,op 16 (.callv (.t 14) [.t 15])]
[1,5,7,8,9,10,16]
(cT 16
(.reg [oM 17 5,oN 18 7 5,op 19 (.mkrow 73 5 1 (.agg [.str [],iv 0,iv 0,.bool false,.bool false]) [(0,.t 18)]),op 20 (.app 73 5 40 (.t 17) (.t 19)),oM 5 20]
[1,5,8,9,10])
.skip))))
(.reg [oK 21 .add 10 1,oM 10 21]
[1,5,8,9,10])))))))
(sR [oM 22 5,oM 4 22]
[4]
.ret))))⟩
theorem ktkaT_:chkF Tryz.prog Tryz.f19 ctkaT_=true:=by kernel_rfl
def ct10:AFun:=⟨23,2,[.t 4],
 (sR [op 4 (.nilrow 82 13)]
[0,1]
(sR [op 5 (.nilrow 82 13)]
[0,1,5]
(.seq (sR [oM 8 0,oZ 9 8,oC 10 0]
[1,5,8,9,10]
(.block 0
(.loop [1,5,8,9,10] [4,5,9,20]
 (sR [oB 11 .lss 10 9]
[1,5,8,9,10,11]
(.seq (cT 11
.skip x0z)
(.seq (.block 1
(sR [oI 12 13 8 10,oN 13 12 13,oa 7 82 13 (.agg [.str [],iv 0,iv 0,.str [],iv 0,iv 0,.str [],.nils,iv 0,iv 0,.nils,iv 0,.nils]),oS 7 13 13]
[1,5,7,8,9,10]
(sR [oM 14 1,oN 15 7 13,op 16 (.callv (.t 14) [.t 15])]
[1,5,7,8,9,10,16]
(cT 16
(.reg [oM 17 5,oN 18 7 13,op 19 (.mkrow 82 13 1 (.agg [.str [],iv 0,iv 0,.str [],iv 0,iv 0,.str [],.nils,iv 0,iv 0,.nils,iv 0,.nils]) [(0,.t 18)]),op 20 (.app 82 13 176 (.t 17) (.t 19)),oM 5 20]
[1,5,8,9,10])
.skip))))
(.reg [oK 21 .add 10 1,oM 10 21]
[1,5,8,9,10])))))))
(sR [oM 22 5,oM 4 22]
[4]
.ret))))⟩
abbrev htkaT_:=hcR 21 ct10 Tryz.func21
def ctn_:AFun:=⟨25,2,[.t 4],
 (sR [ob__ 2 30 9 0,op 4 (.nilrow 9 1)]
[1,2]
(sR [op 5 (.nilrow 9 1)]
[1,2,5]
(.seq (sR [oM 8 1,oZ 9 8,oC 10 0]
[2,5,8,9,10]
(.block 0
(.loop [2,5,8,9,10] [2,4,5,9,22]
 (sR [oB 11 .lss 10 9]
[2,5,8,9,10,11]
(.seq (cT 11
.skip x0z)
(.seq (.block 1
(sR [oI 12 1 8 10,oL 13 12,oM 7 13]
[2,5,7,8,9,10]
(.reg [oM 14 5,oF 15 2 4,oL 16 15,oM 17 7,oI 18 3 16 17,oF 19 18 0,oL 20 19,op 21 (.mkrow 9 1 1 (.str []) [(0,.t 20)]),op 22 (.app 9 1 16 (.t 14) (.t 21)),oM 5 22]
[2,5,8,9,10])))
(.reg [oK 23 .add 10 1,oM 10 23]
[2,5,8,9,10])))))))
(sR [oM 24 5,oM 4 24]
[4]
.ret))))⟩
abbrev ptn_:=pcR 15 ctn_ Tryz.func15
def csCaTaT_:AFun:=⟨9,2,[.t 4],
 (sR [oV 4 false]
[0,1]
(sR [oM 5 0,oM 6 1,oc 7 278 [.t 5,.t 6],oK 8 .geq 7 0,oM 4 8]
[4]
.ret))⟩
abbrev hsCaTaT_:=hcR 256 csCaTaT_ Tryz.func256
def csEaTaT_:AFun:=⟨26,2,[.t 4],
 (sR [oV 4 false]
[0,1]
(.seq (sR [oM 6 0,oZ 7 6,oM 8 1,oZ 9 8,oB 10 .neq 7 9]
[0,1,10]
(cT 10
(sR [oV 4 false]
[4]
.ret)
.skip))
(.seq (sR [oM 11 0,oZ 12 11,oC 13 0]
[0,1,12,13]
(.block 0
(.loop [0,1,12,13] [7,9,12]
 (sR [oB 14 .lss 13 12]
[0,1,12,13,14]
(.seq (cT 14
.skip x0z)
(.seq (.block 1
(sR [oM 15 13,oM 5 15]
[0,1,5,12,13]
(.seq (.dreg [oM 16 0,oM 17 5,oI 18 8 16 17,oN 19 18 8,oM 20 1,oM 21 5,oI 22 8 20 21,oN 23 22 8,op 24 (.eqA true [0,1,0,0,1,2,0,0] (.t 19) (.t 23))]
[0,1,12,13,24])
(cT 24
(sR [oV 4 false]
[4]
.ret)
.skip))))
(.reg [oK 25 .add 13 1,oM 13 25]
[0,1,12,13])))))))
(sR [oV 4 true]
[4]
.ret))))⟩
abbrev psEaTaT_:=pcR 54 csEaTaT_ Tryz.func54
def csIaTaT_:AFun:=⟨19,2,[.t 4],
 (sR [oC 4 0]
[0,1]
(.seq (sR [oM 6 0,oZ 7 6,oC 8 0]
[0,1,7,8]
(.block 0
(.loop [0,1,7,8] [7]
 (sR [oB 9 .lss 8 7]
[0,1,7,8,9]
(.seq (cT 9
.skip x0z)
(.seq (.block 1
(sR [oM 10 8,oM 5 10]
[0,1,5,7,8]
(sR [oM 11 1,oM 12 0,oM 13 5,oI 14 4 12 13,oN 15 14 4,op 16 (.callv (.t 11) [.t 15])]
[0,1,5,7,8,16]
(cT 16
(sR [oM 17 5,oM 4 17]
[4]
.ret)
.skip))))
(.reg [oK 18 .add 8 1,oM 8 18]
[0,1,7,8])))))))
(sR [op 4 (.mov (.k (iv (-1))))]
[4]
.ret)))⟩
abbrev hsIaTaT_:=hcR 278 csIaTaT_ Tryz.func278
def csSii_:AFun:=⟨11,1,[],
 (sR [oM 3 0,oZ 4 3,oM 2 4]
[0,2]
(.reg [oM 5 0,oM 6 2,oM 7 2,op 8 (.conv .u64 (.t 7)),oc 9 180 [.t 8],oc 10 179 [.t 5,.k (iv 0),.t 6,.t 9]]
[]))⟩
abbrev hsSii_:=hcR 91 csSii_ Tryz.func91
def csii_:AFun:=⟨49,3,[],
 (sR [oM 8 1,oK 9 .add 8 1,oM 6 9]
[0,1,2,6]
(.block 0
(.loop [0,1,2,6] []
 (.seq (sR [oM 10 6,oM 11 2,oB 12 .lss 10 11]
[0,1,2,6,12]
(cT 12
.skip x0z))
(.seq (.block 1
(sR [oM 15 6,oM 7 15]
[0,1,2,6,7]
(.block 2
(.loop [0,1,2,6,7] []
 (.seq (.seq (.dreg [oM 16 7,oM 17 1,oB 18 .gtr 16 17,oM 19 18,qM 20 0 19 true,qM 21 7 19 true,qI 22 1 20 21 19 true,qL 23 22 19 true,qM 24 0 19 true,qM 25 7 19 true,qK 26 .sub 25 1 19 true,qI 27 1 24 26 19 true,qL 28 27 19 true,oG 29 (.call 243 [.t 23,.t 28]) 19 true,oA 30 19 29]
[0,1,2,6,7,30])
(cT 30
.skip x2z))
(.seq (.block 3
(.dregT [oM 33 0,oM 34 7,oM 35 0,oM 36 7,oK 37 .sub 36 1,oM 38 0,oM 39 7,oK 40 .sub 39 1,oI 41 1 38 40,oL 42 41,oM 43 0,oM 44 7,oI 45 1 43 44,oL 46 45,oI 47 1 33 34,oS 47 42 1,oI 48 1 35 37,oS 48 46 1]
[15,17] [[],[],[],[],[],[],[],[],[],[],[],[],[],[],[],[],[15],[15]] [[15,17],[15,17],[17],[17],[17],[15,17],[15,17],[15,17],[15,17],[15,17],[15,17],[15,17],[15,17],[15,17],[15,17],[],[17],[]] [0,1,2,3,4,5,6,7,8,9,10,11,12,13,14]
(.next 15 [16] [2,3,4] (.next 17 [] [] .fin .nil) .nil)
[0,1,2,6,7,33,34,35,36,37,38,39,40,41,42,43,44,45,46,47,48] [0,1,2,6,7]))
(.reg [oM 31 7,oK 32 .sub 31 1,oM 7 32]
[0,1,2,6,7])))))))
(.reg [oM 13 6,oK 14 .add 13 1,oM 6 14]
[0,1,2,6]))))))⟩
abbrev hsii_:=hcR 237 csii_ Tryz.func237
def cspi_:AFun:=⟨134,4,[],
 (sR [oV 8 true]
[0,1,2]
(sR [oV 9 true]
[0,1,2]
(.block 0
(.loop [0,1,2] []
 (.block 1
(sR [oM 19 2,oM 20 1,oB 21 .sub 19 20,oM 10 21]
[0,1,2,10]
(.seq (sR [oM 22 10,oK 23 .leq 22 12]
[0,1,2,23]
(cT 23
(sR [oM 24 0,oM 25 1,oM 26 2,oc 27 237 [.t 24,.t 25,.t 26]]
[]
.ret)
.skip))
.bad)))))))⟩
abbrev hspi_:=hcR 179 cspi_ Tryz.func179
