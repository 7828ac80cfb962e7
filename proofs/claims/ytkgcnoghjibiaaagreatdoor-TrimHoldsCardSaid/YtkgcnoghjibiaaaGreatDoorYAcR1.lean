/- Lemmas. -/
import Derived.Test.YtkgcnoghjibiaaaGreatDoorYAcR0
set_option linter.unusedSimpArgs false
namespace Go.Proofs.YtkgcnoghjibiaaaGreatDoor.Ab
open Go
def ccR_:AFun:=⟨17,1,[.t 2],
 (sR [ob__ 1 30 9 0,oV 2 false]
[1]
(sR [oN 3 1 9,oc 4 75 [.t 3],oM 5 4,qN 6 1 9 5 true,oG 7 (.call 76 [.t 6]) 5 true,oA 8 5 7,oM 9 8,qN 10 1 9 9 true,oG 11 (.call 77 [.t 10]) 9 true,oA 12 9 11,oM 13 12,qN 14 1 9 13 true,oG 15 (.call 78 [.t 14]) 13 true,oA 16 13 15,oM 2 16]
[2]
.ret))⟩
abbrev pcR_:=pcR 37 ccR_ Tryz.func37
def ccS_:AFun:=⟨10,2,[.t 4],
 (sR [ob__ 2 106 2 0,oV 4 false]
[1,2]
(sR [oF 5 2 1,oL 6 5,oM 7 1,op 8 (.build [iv 0,iv 0,iv 0,iv 0,.str [],.bool false] [(0,1,.k (iv 2)),(1,1,.t 7)]),oc 9 233 [.t 6,.t 8],oM 4 9]
[4]
.ret))⟩
abbrev pcS_:=pcR 165 ccS_ Tryz.func165
def ccai_:AFun:=⟨20,2,[.t 4],
 (sR [oV 4 false]
[0,1]
(.seq (sR [oM 7 0,oZ 8 7,oC 9 0]
[1,7,8,9]
(.block 0
(.loop [1,7,8,9] [8]
 (sR [oB 10 .lss 9 8]
[1,7,8,9,10]
(.seq (cT 10
.skip x0z)
(.seq (.block 1
(sR [oM 11 9,oI 12 1 7 9,oL 13 12,oM 5 11,oM 6 13]
[1,5,6,7,8,9]
(sR [oM 14 1,oM 15 5,oM 16 6,op 17 (.callv (.t 14) [.t 15,.t 16]),oU 18 17]
[1,7,8,9,18]
(cT 18
(sR [oV 4 false]
[4]
.ret)
.skip))))
(.reg [oK 19 .add 9 1,oM 9 19]
[1,7,8,9])))))))
(sR [oV 4 true]
[4]
.ret)))⟩
abbrev pcai_:=pcR 173 ccai_ Tryz.func173
def ccaaS_:AFun:=⟨20,2,[.t 4],
 (sR [oV 4 false]
[0,1]
(.seq (sR [oM 7 0,oZ 8 7,oC 9 0]
[1,7,8,9]
(.block 0
(.loop [1,7,8,9] [8]
 (sR [oB 10 .lss 9 8]
[1,7,8,9,10]
(.seq (cT 10
.skip x0z)
(.seq (.block 1
(sR [oM 11 9,oI 12 2 7 9,oN 13 12 2,oa 6 168 2 (.agg [iv 0,iv 0]),oM 5 11,oS 6 13 2]
[1,5,6,7,8,9]
(sR [oM 14 1,oM 15 5,oN 16 6 2,op 17 (.callv (.t 14) [.t 15,.t 16]),oU 18 17]
[1,7,8,9,18]
(cT 18
(sR [oV 4 false]
[4]
.ret)
.skip))))
(.reg [oK 19 .add 9 1,oM 9 19]
[1,7,8,9])))))))
(sR [oV 4 true]
[4]
.ret)))⟩
theorem kcaaS_:chkF Tryz.prog Tryz.f162 ccaaS_=true:=by kernel_rfl
def ccaaT_:AFun:=⟨20,2,[.t 4],
 (sR [oV 4 false]
[0,1]
(.seq (sR [oM 7 0,oZ 8 7,oC 9 0]
[1,7,8,9]
(.block 0
(.loop [1,7,8,9] [8]
 (sR [oB 10 .lss 9 8]
[1,7,8,9,10]
(.seq (cT 10
.skip x0z)
(.seq (.block 1
(sR [oM 11 9,oI 12 5 7 9,oN 13 12 5,oa 6 95 5 (.agg [iv 0,iv 0,iv 0,iv 0,.nils]),oM 5 11,oS 6 13 5]
[1,5,6,7,8,9]
(sR [oM 14 1,oM 15 5,oN 16 6 5,op 17 (.callv (.t 14) [.t 15,.t 16]),oU 18 17]
[1,7,8,9,18]
(cT 18
(sR [oV 4 false]
[4]
.ret)
.skip))))
(.reg [oK 19 .add 9 1,oM 9 19]
[1,7,8,9])))))))
(sR [oV 4 true]
[4]
.ret)))⟩
theorem kcaaT_:chkF Tryz.prog Tryz.f166 ccaaT_=true:=by kernel_rfl
def ccas_:AFun:=⟨20,2,[.t 4],
 (sR [oV 4 false]
[0,1]
(.seq (sR [oM 7 0,oZ 8 7,oC 9 0]
[1,7,8,9]
(.block 0
(.loop [1,7,8,9] [8]
 (sR [oB 10 .lss 9 8]
[1,7,8,9,10]
(.seq (cT 10
.skip x0z)
(.seq (.block 1
(sR [oM 11 9,oI 12 1 7 9,oL 13 12,oM 5 11,oM 6 13]
[1,5,6,7,8,9]
(sR [oM 14 1,oM 15 5,oM 16 6,op 17 (.callv (.t 14) [.t 15,.t 16]),oU 18 17]
[1,7,8,9,18]
(cT 18
(sR [oV 4 false]
[4]
.ret)
.skip))))
(.reg [oK 19 .add 9 1,oM 9 19]
[1,7,8,9])))))))
(sR [oV 4 true]
[4]
.ret)))⟩
abbrev pcas_:=pcR 228 ccas_ Tryz.func228
def cca_:AFun:=⟨90,3,[.t 6],
 (sR [ob__ 3 30 9 0,ob__ 4 108 6 1,oV 6 false]
[2,3,4]
(.seq (sR [oF 7 4 0,oL 8 7]
[2,3,4,8]
(.block 0
(sR [oK 10 .eql 8 1,oM 9 10]
[2,3,4,8,9]
(cT 9
(sR [oF 11 4 1,oL 12 11,oK 13 .eql 12 0,oM 14 13,qF 15 4 2 14 true,qN 16 15 4 14 true,oG 17 (.call 103 [.t 16]) 14 true,oA 18 14 17,oM 19 18,qF 20 4 2 19 true,qF 21 20 0 19 true,qL 22 21 19 true,qM 23 2 19 true,qB 24 .eql 22 23 19 true,oA 25 19 24,oM 6 25]
[6]
.ret)
(sR [oK 27 .eql 8 2,oM 26 27]
[2,3,4,8,26]
(cT 26
(sR [oF 28 4 1,oL 29 28,oK 30 .geq 29 0,oM 31 30,qF 32 4 1 31 true,qL 33 32 31 true,qF 34 3 2 31 true,qL 35 34 31 true,oG 36 (.len false (.t 35)) 31 true,qB 37 .lss 33 36 31 true,oA 38 31 37,oM 39 38,qF 40 3 2 39 true,qL 41 40 39 true,qF 42 4 1 39 true,qL 43 42 39 true,qI 44 3 41 43 39 true,qF 45 44 2 39 true,qL 46 45 39 true,qM 47 2 39 true,qB 48 .eql 46 47 39 true,oA 49 39 48,oM 50 49,qF 51 4 2 50 true,qN 52 51 4 50 true,oG 53 (.build [iv 0,iv 0,.str [],.bool false] []) 50 true,oG 54 (.eqA false [0,0,1,2] (.t 52) (.t 53)) 50 true,oA 55 50 54,oM 6 55]
[6]
.ret)
(sR [oK 57 .eql 8 3,oM 56 57]
[2,3,4,56]
(cT 56
(sR [oF 58 4 1,oL 59 58,oK 60 .geq 59 0,oM 61 60,qF 62 4 1 61 true,qL 63 62 61 true,qF 64 3 3 61 true,qL 65 64 61 true,oG 66 (.len false (.t 65)) 61 true,qB 67 .lss 63 66 61 true,oA 68 61 67,oM 69 68,qF 70 3 3 69 true,qL 71 70 69 true,qF 72 4 1 69 true,qL 73 72 69 true,qI 74 5 71 73 69 true,qF 75 74 1 69 true,qF 76 75 0 69 true,qL 77 76 69 true,qM 78 2 69 true,qB 79 .eql 77 78 69 true,oA 80 69 79,oM 81 80,qF 82 4 2 81 true,qN 83 82 4 81 true,oG 84 (.build [iv 0,iv 0,.str [],.bool false] []) 81 true,oG 85 (.eqA false [0,0,1,2] (.t 83) (.t 84)) 81 true,oA 86 81 85,oM 6 86]
[6]
.ret)
.skip))))))))
(sR [oN 87 4 6,op 88 (.build [iv 0,iv 0,iv 0,iv 0,.str [],.bool false] [(0,1,.k (iv 4))]),op 89 (.eqA false [0,0,0,0,1,2] (.t 87) (.t 88)),oM 6 89]
[6]
.ret)))⟩
abbrev pca_:=pcR 236 cca_ Tryz.func236
def cce_:AFun:=⟨147,1,[.t 2],
 (sR [ob__ 1 30 9 0,op 2 (.nilrow 266 3)]
[1]
(sR [oF 10 1 7,oL 11 10,oZ 12 11,op 13 (.mks 266 3 24 (.agg [iv 0,iv 0,iv 0]) (.t 12) (.t 12)),oM 3 13]
[1,3]
(.seq (sR [oF 14 1 7,oL 15 14,oZ 16 15,oC 17 0]
[1,3,15,16,17]
(.block 0
(.loop [1,3,15,16,17] [1,2,12,13,16]
 (sR [oB 18 .lss 17 16]
[1,3,15,16,17,18]
(.seq (cT 18
.skip x0z)
(.seq (.block 1
(sR [oM 19 17,oI 20 7 15 17,oN 21 20 7,oa 5 112 7 (.agg [iv 0,iv 0,iv 0,iv 0,iv 0,.str [],.bool false]),oM 4 19,oS 5 21 7]
[1,3,4,5,15,16,17]
(.seq (sR [oN 23 1 9,oM 24 4,oc 25 230 [.t 23,.t 24],oM 22 25,oE 26 22 0,oE 27 22 1,oa 6 266 3 (.agg [iv 0,iv 0,iv 0]),oS 6 26 3,oM 7 27]
[1,3,4,5,6,7,15,16,17]
(sR [oM 28 7]
[1,3,4,5,6,15,16,17,28]
(cT 28
(sR [oM 29 3,oM 30 4,oN 31 6 3,oI 32 3 29 30,oS 32 31 3]
[1,3,15,16,17] x1z)
.skip)))
(.seq (sR [oF 33 5 0,oL 34 33,oK 35 .lss 34 4,oM 36 35,qF 37 5 0 36 false,qL 38 37 36 false,qK 39 .gtr 38 16 36 false,oO 40 36 39,oM 41 40,qM 42 4 41 false,qK 43 .eql 42 0 41 false,oO 44 41 43,oM 45 44,qM 46 3 45 false,qM 47 4 45 false,qK 48 .sub 47 1 45 false,qI 49 3 46 48 45 false,qF 50 49 0 45 false,qL 51 50 45 false,qK 52 .eql 51 0 45 false,oO 53 45 52,oM 54 53,qF 55 5 3 54 false,qN 56 55 4 54 false,oG 57 (.build [iv 0,iv 0,.str [],.bool false] []) 54 false,oG 58 (.eqA true [0,0,1,2] (.t 56) (.t 57)) 54 false,oO 59 54 58]
[1,3,4,5,15,16,17,59]
(cT 59 x1z
.skip))
(sR [oM 60 3,oM 61 4,oK 62 .sub 61 1,oI 63 3 60 62,oN 64 63 3,oa 8 266 3 (.agg [iv 0,iv 0,iv 0]),oS 8 64 3]
[1,3,4,5,8,15,16,17]
(.seq (sR [oF 65 5 0,oL 66 65,oK 67 .leq 66 5]
[1,3,4,5,8,15,16,17,67]
(cT 67
(.seq (sR [oF 68 5 1,oL 69 68,oM 70 4,oK 71 .sub 70 1,oB 72 .eql 69 71,oM 73 72,qF 74 5 2 73 true,qL 75 74 73 true,qK 76 .eql 75 0 73 true,oA 77 73 76]
[1,3,4,5,8,15,16,17,77]
(cT 77
(.dreg [oM 78 3,oM 79 4,oF 80 5 0,oL 81 80,oF 82 8 0,oL 83 82,oF 84 8 0,oL 85 84,oc 86 231 [.t 81,.t 83,.t 85],oF 87 8 1,oL 88 87,oK 89 .add 88 1,oF 90 8 2,oL 91 90,op 92 (.build [iv 0,iv 0,iv 0] [(0,1,.t 86),(1,1,.t 89),(2,1,.t 91)]),oI 93 3 78 79,oS 93 92 3]
[1,3,15,16,17])
.skip)) x1z)
.skip))
(sR [oF 94 5 2,oL 95 94,oM 96 4,oK 97 .sub 96 1,oB 98 .eql 95 97,oM 99 98,qF 100 5 1 99 true,qL 101 100 99 true,qF 102 8 2 99 true,qL 103 102 99 true,qK 104 .sub 103 1 99 true,qB 105 .eql 101 104 99 true,oA 106 99 105,oM 107 106,qF 108 5 1 107 true,qL 109 108 107 true,qK 110 .geq 109 0 107 true,oA 111 107 110,oM 112 111,qM 113 3 112 true,qF 114 5 1 112 true,qL 115 114 112 true,qI 116 3 113 115 112 true,qF 117 116 0 112 true,qL 118 117 112 true,qK 119 .neq 118 0 112 true,oA 120 112 119]
[1,3,4,5,8,15,16,17,120]
(cT 120
(sR [oM 121 3,oF 122 5 1,oL 123 122,oI 124 3 121 123,oN 125 124 3,oa 9 266 3 (.agg [iv 0,iv 0,iv 0]),oS 9 125 3]
[1,3,4,5,8,9,15,16,17]
(.dreg [oM 126 3,oM 127 4,oF 128 5 0,oL 129 128,oF 130 9 0,oL 131 130,oF 132 8 0,oL 133 132,oc 134 231 [.t 129,.t 131,.t 133],oF 135 9 1,oL 136 135,oF 137 8 1,oL 138 137,op 139 (.mx false (.t 136) (.t 138)),oK 140 .add 139 1,oF 141 9 2,oL 142 141,op 143 (.build [iv 0,iv 0,iv 0] [(0,1,.t 134),(1,1,.t 140),(2,1,.t 142)]),oI 144 3 126 127,oS 144 143 3]
[1,3,15,16,17]))
.skip))))))))
(.reg [oK 145 .add 17 1,oM 17 145]
[1,3,15,16,17])))))))
(sR [oM 146 3,oM 2 146]
[2]
.ret))))⟩
abbrev pce_:=pcR 156 cce_ Tryz.func156
def ccf_:AFun:=⟨37,1,[.t 2],
 (sR [ob__ 1 30 9 0,oV 2 false]
[1]
(sR [oF 3 1 2,oL 4 3,oZ 5 4,oK 6 .leq 5 8,oM 7 6,qF 8 1 3 7 true,qL 9 8 7 true,oG 10 (.len false (.t 9)) 7 true,qK 11 .leq 10 16 7 true,oA 12 7 11,oM 13 12,qF 14 1 4 13 true,qL 15 14 13 true,oG 16 (.len false (.t 15)) 13 true,qK 17 .leq 16 32 13 true,oA 18 13 17,oM 19 18,qF 20 1 6 19 true,qL 21 20 19 true,oG 22 (.len false (.t 21)) 19 true,qK 23 .leq 22 64 19 true,oA 24 19 23,oM 25 24,qF 26 1 7 25 true,qL 27 26 25 true,oG 28 (.len false (.t 27)) 25 true,qK 29 .leq 28 2048 25 true,oA 30 25 29,oM 31 30,qF 32 1 8 31 true,qL 33 32 31 true,oG 34 (.len false (.t 33)) 31 true,qK 35 .leq 34 256 31 true,oA 36 31 35,oM 2 36]
[2]
.ret))⟩
abbrev pcf_:=pcR 75 ccf_ Tryz.func75
def cch_:AFun:=⟨96,1,[.t 2],
 (sR [ob__ 1 30 9 0,oV 2 false]
[1]
(sR [op 3 (.nilrow 9 1),op 4 (.nilrow 9 1)]
[1,3,4]
(.seq (sR [oF 13 1 2,oL 14 13,oZ 15 14,oC 16 0]
[1,3,4,14,15,16]
(.block 0
(.loop [1,3,4,14,15,16] [1,3,4,15,24]
 (sR [oB 17 .lss 16 15]
[1,3,4,14,15,16,17]
(.seq (cT 17
.skip x0z)
(.seq (.block 1
(sR [oI 18 3 14 16,oN 19 18 3,oa 6 124 3 (.agg [.bool false,.str [],iv 0]),oS 6 19 3]
[1,3,4,6,14,15,16]
(.reg [oM 20 3,oF 21 6 1,oL 22 21,op 23 (.mkrow 9 1 1 (.str []) [(0,.t 22)]),op 24 (.app 9 1 16 (.t 20) (.t 23)),oM 3 24]
[1,3,4,14,15,16])))
(.reg [oK 25 .add 16 1,oM 16 25]
[1,3,4,14,15,16])))))))
(.seq (sR [oF 26 1 3,oL 27 26,oZ 28 27,oC 29 0]
[1,3,4,27,28,29]
(.block 2
(.loop [1,3,4,27,28,29] [1,3,4,15,6,23,24,28,37]
 (sR [oB 30 .lss 29 28]
[1,3,4,27,28,29,30]
(.seq (cT 30
.skip x2z)
(.seq (.block 3
(sR [oI 31 5 27 29,oN 32 31 5,oa 8 110 5 (.agg [.str [],iv 0,iv 0,.str [],.bool false]),oS 8 32 5]
[1,3,4,8,27,28,29]
(.reg [oM 33 3,oF 34 8 0,oL 35 34,op 36 (.mkrow 9 1 1 (.str []) [(0,.t 35)]),op 37 (.app 9 1 16 (.t 33) (.t 36)),oM 3 37]
[1,3,4,27,28,29])))
(.reg [oK 38 .add 29 1,oM 29 38]
[1,3,4,27,28,29])))))))
(.seq (sR [oF 39 1 4,oL 40 39,oZ 41 40,oC 42 0]
[1,3,4,40,41,42]
(.block 4
(.loop [1,3,4,40,41,42] [1,3,4,15,6,23,24,28,8,36,37,41,50]
 (sR [oB 43 .lss 42 41]
[1,3,4,40,41,42,43]
(.seq (cT 43
.skip
(.exit 4))
(.seq (.block 5
(sR [oI 44 3 40 42,oN 45 44 3,oa 10 53 3 (.agg [.str [],.bool false,.bool false]),oS 10 45 3]
[1,3,4,10,40,41,42]
(.reg [oM 46 4,oF 47 10 0,oL 48 47,op 49 (.mkrow 9 1 1 (.str []) [(0,.t 48)]),op 50 (.app 9 1 16 (.t 46) (.t 49)),oM 4 50]
[1,3,4,40,41,42])))
(.reg [oK 51 .add 42 1,oM 42 51]
[1,3,4,40,41,42])))))))
(sR [oF 53 1 1,oL 54 53,oc 55 148 [.t 54],oM 52 55,oE 56 52 0,oE 57 52 1,oM 11 56,oM 12 57]
[1,3,4,12]
(sR [oM 58 12,oK 59 .eql 58 0,oM 60 59,qF 61 1 0 60 true,qL 62 61 60 true,oG 63 (.call 149 [.t 62]) 60 true,oA 64 60 63,oM 65 64,qM 66 3 65 true,oG 67 (.call 150 [.t 66]) 65 true,oA 68 65 67,oM 69 68,qM 70 4 69 true,oG 71 (.call 150 [.t 70]) 69 true,oA 72 69 71,oM 73 72,qF 74 1 2 73 true,qL 75 74 73 true,oG 76 (.call 151 [.t 75,.f 152]) 73 true,oA 77 73 76,oM 78 77,qF 79 1 3 78 true,qL 80 79 78 true,oG 81 (.call 154 [.t 80,.f 155]) 78 true,oA 82 78 81,oM 83 82,qF 84 1 5 83 true,qL 85 84 83 true,qK 86 .geq 85 0 83 true,oA 87 83 86,oM 88 87,qF 89 1 5 88 true,qL 90 89 88 true,qF 91 1 4 88 true,qL 92 91 88 true,oG 93 (.len false (.t 92)) 88 true,qB 94 .lss 90 93 88 true,oA 95 88 94,oM 2 95]
[2]
.ret)))))))⟩
abbrev pch_:=pcR 76 cch_ Tryz.func76
def cch1z:AFun:=⟨9,2,[.t 4],
 (sR [ob__ 3 124 3 1,oV 4 false]
[3]
(sR [oF 5 3 2,oL 6 5,oc 7 153 [.t 6],op 8 (.bin .neq (.t 7) (.k (.str []))),oM 4 8]
[4]
.ret))⟩
abbrev pch1z:=pcR 152 cch1z Tryz.func152
def cch2z:AFun:=⟨8,2,[.t 4],
 (sR [ob__ 3 110 5 1,oV 4 false]
[3]
(sR [oF 5 3 1,oN 6 5 4,oc 7 103 [.t 6],oM 4 7]
[4]
.ret))⟩
abbrev pch2z:=pcR 155 cch2z Tryz.func155
def ccl_:AFun:=⟨105,2,[.cells 4 3,.t 5],
 (sR [ob__ 2 30 9 0,oa 4 266 3 (.agg [iv 0,iv 0,iv 0]),oV 5 false]
[1,2,4]
(sR [oF 8 2 7,oL 9 8,oM 10 1,oI 11 7 9 10,oN 12 11 7,oa 6 112 7 (.agg [iv 0,iv 0,iv 0,iv 0,iv 0,.str [],.bool false]),oS 6 12 7]
[1,2,4,6]
(sR [oF 13 6 0,oL 14 13,oF 15 6 1,oL 16 15,op 17 (.build [iv 0,iv 0,iv 0,iv 0,iv 0,.str [],.bool false] [(0,1,.t 14),(1,1,.t 16)]),oa 7 112 7 (.agg [iv 0,iv 0,iv 0,iv 0,iv 0,.str [],.bool false]),oS 7 17 7]
[1,2,4,6,7]
(.seq (.block 0
(sR [oF 19 6 0,oL 20 19,oK 21 .eql 20 1,oM 22 21,qN 23 6 7 22 true,qF 24 6 0 22 true,qL 25 24 22 true,qF 26 6 3 22 true,qN 27 26 4 22 true,oG 28 (.build [iv 0,iv 0,iv 0,iv 0,iv 0,.str [],.bool false] [(0,1,.t 25),(3,4,.t 27)]) 22 true,oG 29 (.eqA false [0,0,0,0,0,1,2] (.t 23) (.t 28)) 22 true,oA 30 22 29,oM 31 30,qF 32 6 3 31 true,qN 33 32 4 31 true,oG 34 (.call 103 [.t 33]) 31 true,oA 35 31 34,oM 18 35]
[1,2,4,6,7,18]
(cT 18
(sR [oF 36 6 3,oF 37 36 0,oL 38 37,oM 39 1,op 40 (.build [iv 0,iv 0,iv 0] [(0,1,.t 38),(1,1,.k (iv 1)),(2,1,.t 39)]),oS 4 40 3,oV 5 true]
[4,5]
.ret)
(sR [oF 42 6 0,oL 43 42,oK 44 .eql 43 2,oM 45 44,qN 46 6 7 45 true,qN 47 7 7 45 true,oG 48 (.eqA false [0,0,0,0,0,1,2] (.t 46) (.t 47)) 45 true,oA 49 45 48,oM 50 49,qF 51 6 1 50 true,qL 52 51 50 true,qK 53 .geq 52 0 50 true,oA 54 50 53,oM 55 54,qF 56 6 1 55 true,qL 57 56 55 true,qF 58 2 2 55 true,qL 59 58 55 true,oG 60 (.len false (.t 59)) 55 true,qB 61 .lss 57 60 55 true,oA 62 55 61,oM 41 62]
[1,2,4,6,7,41]
(cT 41
(sR [oF 63 2 2,oL 64 63,oF 65 6 1,oL 66 65,oI 67 3 64 66,oF 68 67 2,oL 69 68,oM 70 1,op 71 (.build [iv 0,iv 0,iv 0] [(0,1,.t 69),(1,1,.k (iv 1)),(2,1,.t 70)]),oS 4 71 3,oV 5 true]
[4,5]
.ret)
(sR [oF 73 6 0,oL 74 73,oK 75 .eql 74 3,oM 76 75,qN 77 6 7 76 true,qN 78 7 7 76 true,oG 79 (.eqA false [0,0,0,0,0,1,2] (.t 77) (.t 78)) 76 true,oA 80 76 79,oM 81 80,qF 82 6 1 81 true,qL 83 82 81 true,qK 84 .geq 83 0 81 true,oA 85 81 84,oM 86 85,qF 87 6 1 86 true,qL 88 87 86 true,qF 89 2 3 86 true,qL 90 89 86 true,oG 91 (.len false (.t 90)) 86 true,qB 92 .lss 88 91 86 true,oA 93 86 92,oM 72 93]
[1,2,4,6,72]
(cT 72
(sR [oF 94 2 3,oL 95 94,oF 96 6 1,oL 97 96,oI 98 5 95 97,oF 99 98 1,oF 100 99 0,oL 101 100,oM 102 1,op 103 (.build [iv 0,iv 0,iv 0] [(0,1,.t 101),(1,1,.k (iv 1)),(2,1,.t 102)]),oS 4 103 3,oV 5 true]
[4,5]
.ret)
.skip)))))))
(sR [op 104 (.build [iv 0,iv 0,iv 0] []),oS 4 104 3,oV 5 false]
[4,5]
.ret)))))⟩
abbrev pcl_:=pcR 230 ccl_ Tryz.func230
def ccn_:AFun:=⟨6,1,[.t 2],
 (sR [ob__ 1 66 1 0,oV 2 false]
[1]
(sR [oL 3 1,op 4 (.mkfn 229 [.t 1]),oc 5 228 [.t 3,.t 4],oM 2 5]
[2]
.ret))⟩
abbrev pcn_:=pcR 150 ccn_ Tryz.func150
def ccn1z:AFun:=⟨15,3,[.t 5],
 (sR [oV 5 false]
[0,1,2]
(sR [oM 6 1,oc 7 149 [.t 6],oM 8 7,qL 9 2 8 true,qM 10 1 8 true,oG 11 (.call 51 [.t 9,.t 10]) 8 true,qM 12 0 8 true,qB 13 .eql 11 12 8 true,oA 14 8 13,oM 5 14]
[5]
.ret))⟩
abbrev pcn1z:=pcR 229 ccn1z Tryz.func229
def ccs_:AFun:=⟨17,2,[.t 4],
 (sR [ob__ 2 106 2 0,ob__ 3 106 2 1,oV 4 false]
[2,3]
(sR [oF 5 2 0,oL 6 5,oF 7 3 0,oL 8 7,oB 9 .eql 6 8,oM 10 9,qF 11 2 1 10 true,qL 12 11 10 true,qF 13 3 1 10 true,qL 14 13 10 true,oG 15 (.call 210 [.t 12,.t 14]) 10 true,oA 16 10 15,oM 4 16]
[4]
.ret))⟩
abbrev pcs_:=pcR 172 ccs_ Tryz.func172
def cc23:AFun:=⟨27,2,[.t 4],
 (sR [ob__ 2 30 9 0,ob__ 3 106 2 1,oV 4 false]
[2,3]
(.seq (sR [oF 5 3 0,oL 6 5,oK 7 .lss 6 0,oM 8 7,qF 9 3 0 8 false,qL 10 9 8 false,qF 11 2 1 8 false,qL 12 11 8 false,oG 13 (.len false (.t 12)) 8 false,qB 14 .geq 10 13 8 false,oO 15 8 14]
[2,3,15]
(cT 15
(sR [oV 4 false]
[4]
.ret)
.skip))
(.seq (.dreg [oF 16 3 1,oL 17 16,oF 18 2 1,oL 19 18,oF 20 3 0,oL 21 20,oI 22 2 19 21,oF 23 22 1,oL 24 23,op 25 (.mkfn 235 [.t 2]),oc 26 234 [.t 17,.t 24,.t 25],oM 4 26]
[4])
.ret)))⟩
abbrev pc14:=pcR 169 cc23 Tryz.func169
def cc21:AFun:=⟨10,3,[.t 5],
 (sR [ob__ 3 108 6 0,oV 5 false]
[1,2,3]
(sR [oN 6 2 9,oN 7 3 6,oM 8 1,oc 9 236 [.t 6,.t 7,.t 8],oM 5 9]
[5]
.ret))⟩
abbrev pc12:=pcR 235 cc21 Tryz.func235
def cc22:AFun:=⟨41,1,[.t 2],
 (sR [ob__ 1 30 9 0,oV 2 false]
[1]
(sR [oa 3 40 1 (.nils)]
[1,3]
(.seq (sR [oF 7 1 8,oL 8 7,oZ 9 8,oC 10 0]
[1,3,8,9,10]
(.block 0
(.loop [1,3,8,9,10] [1,3,9,23]
 (sR [oB 11 .lss 10 9]
[1,3,8,9,10,11]
(.seq (cT 11
.skip x0z)
(.seq (.block 1
(sR [oI 12 5 8 10,oN 13 12 5,oa 5 95 5 (.agg [iv 0,iv 0,iv 0,iv 0,.nils]),oS 5 13 5]
[1,3,5,8,9,10]
(sR [oL 14 3,oF 15 5 1,oL 16 15,oc 17 167 [.t 14,.t 16],oU 18 17]
[1,3,5,8,9,10,18]
(cT 18
(.reg [oL 19 3,oF 20 5 1,oL 21 20,op 22 (.mkrow 3 1 1 (iv 0) [(0,.t 21)]),op 23 (.app 3 1 8 (.t 19) (.t 22)),oS 3 23 1]
[1,3,8,9,10])
.skip))))
(.reg [oK 24 .add 10 1,oM 10 24]
[1,3,8,9,10])))))))
(sR [op 25 (.mkfn 168 [.t 1]),oM 6 25]
[1,3,6]
(sR [oL 26 3,op 27 (.mkfn 174 [.t 1,.t 3]),oc 28 173 [.t 26,.t 27],oM 29 28,qF 30 1 6 29 true,qL 31 30 29 true,qM 32 6 29 true,oG 33 (.call 175 [.t 31,.t 32]) 29 true,oA 34 29 33,oM 35 34,qF 36 1 2 35 true,qL 37 36 35 true,oG 38 (.mkfn 176 [.t 1]) 35 true,oG 39 (.call 151 [.t 37,.t 38]) 35 true,oA 40 35 39,oM 2 40]
[2]
.ret)))))⟩
abbrev pc13:=pcR 78 cc22 Tryz.func78
def ccs1z:AFun:=⟨17,3,[.t 5],
 (sR [ob__ 4 106 2 1,oV 5 false]
[0,2,4]
(sR [oN 6 2 9,oN 7 4 2,oc 8 169 [.t 6,.t 7],oM 9 8,qF 10 2 6 9 true,qL 11 10 9 true,oG 12 (.mkfn 171 [.t 4]) 9 true,oG 13 (.call 170 [.t 11,.t 12]) 9 true,qM 14 0 9 true,qB 15 .eql 13 14 9 true,oA 16 9 15,oM 5 16]
[5]
.ret))⟩
abbrev pcs1z:=pcR 168 ccs1z Tryz.func168
def ccs11z:AFun:=⟨7,2,[.t 3],
 (sR [ob__ 2 106 2 0,oV 3 false]
[1,2]
(sR [oN 4 2 2,oN 5 1 2,oc 6 172 [.t 4,.t 5],oM 3 6]
[3]
.ret))⟩
abbrev pcs11z:=pcR 171 ccs11z Tryz.func171
def ccs2z:AFun:=⟨17,4,[.t 6],
 (sR [oV 6 false]
[0,1,2,3]
(sR [oM 7 1,oF 8 2 6,oL 9 8,oZ 10 9,oL 11 3,oZ 12 11,oB 13 .sub 10 12,oM 14 0,oB 15 .add 13 14,oB 16 .eql 7 15,oM 6 16]
[6]
.ret))⟩
abbrev pcs2z:=pcR 174 ccs2z Tryz.func174
def ccs3z:AFun:=⟨10,3,[.t 5],
 (sR [ob__ 3 3 1 0,ob__ 4 124 3 1,oV 5 false]
[2,3]
(sR [oF 6 2 6,oL 7 6,op 8 (.mkfn 178 [.t 3]),oc 9 177 [.t 7,.t 8],oM 5 9]
[5]
.ret))⟩
abbrev pcs3z:=pcR 176 ccs3z Tryz.func176
def ccs31z:AFun:=⟨7,2,[.t 3],
 (sR [ob__ 2 106 2 0,oV 3 false]
[1,2]
(sR [oN 4 2 2,oL 5 1,oc 6 165 [.t 4,.t 5],oM 3 6]
[3]
.ret))⟩
abbrev pcs31z:=pcR 178 ccs31z Tryz.func178
def cct_:AFun:=⟨21,1,[.t 2],
 (sR [ob__ 1 30 9 0,oV 2 false]
[1]
(sR [oN 7 1 9,oc 8 156 [.t 7],oa 3 263 1 (.nils),oS 3 8 1]
[1,3]
(sR [oa 4 3 1 (iv 0),
⟨none,.store (.t 4) (.k (iv 0)) 1,none⟩]
[1,3,4]
(sR [op 9 (.mkfn 157 [.t 4,.t 3]),oa 5 267 1 (.nilfn),oS 5 9 1]
[1,3,4,5]
(sR [op 10 (.mkfn 158 [.t 4,.t 1,.t 5]),oM 6 10]
[1,3,4,6]
(sR [oF 11 1 8,oL 12 11,oM 13 6,oc 14 166 [.t 12,.t 13],oM 15 14,qL 16 4 15 true,qL 17 3 15 true,oG 18 (.len false (.t 17)) 15 true,qB 19 .eql 16 18 15 true,oA 20 15 19,oM 2 20]
[2]
.ret))))))⟩
abbrev pct_:=pcR 77 cct_ Tryz.func77
def cct1z:AFun:=⟨48,4,[.t 6],
 (sR [oV 6 false]
[0,1,2,3]
(.seq (.seq (.dreg [oM 7 0,oL 8 2,oB 9 .lss 7 8,oM 10 9,qM 11 0 10 false,qL 12 3 10 false,oG 13 (.len false (.t 12)) 10 false,qB 14 .geq 11 13 10 false,oO 15 10 14,oM 16 15,qL 17 3 16 false,qM 18 0 16 false,qI 19 3 17 18 16 false,qF 20 19 0 16 false,qL 21 20 16 false,qM 22 1 16 false,qB 23 .neq 21 22 16 false,oO 24 16 23,oM 25 24,qM 26 1 25 false,qK 27 .eql 26 0 25 false,oO 28 25 27,oM 29 28,qL 30 3 29 false,qM 31 0 29 false,qI 32 3 30 31 29 false,qF 33 32 2 29 false,qL 34 33 29 false,qL 35 2 29 false,qB 36 .neq 34 35 29 false,oO 37 29 36,oM 38 37,qL 39 3 38 false,qM 40 0 38 false,qI 41 3 39 40 38 false,qF 42 41 1 38 false,qL 43 42 38 false,qK 44 .gtr 43 64 38 false,oO 45 38 44]
[0,2,45])
(cT 45
(sR [oV 6 false]
[6]
.ret)
.skip))
(sR [oM 46 0,oK 47 .add 46 1,oS 2 47 1]
[]
(sR [oV 6 true]
[6]
.ret))))⟩
theorem kct1z:chkF Tryz.prog Tryz.f157 cct1z=true:=by kernel_rfl
def cct2z:AFun:=⟨74,5,[.t 7],
 (sR [ob__ 6 95 5 1,oV 7 false]
[2,3,4,6]
(sR [oL 10 2,oM 8 10]
[2,3,4,6,8]
(.seq (sR [oF 11 6 0,oL 12 11,oK 13 .lss 12 0,oM 14 13,qF 15 6 0 14 false,qL 16 15 14 false,qF 17 3 4 14 false,qL 18 17 14 false,oG 19 (.len false (.t 18)) 14 false,qB 20 .geq 16 19 14 false,oO 21 14 20,oM 22 21,qF 23 6 2 22 false,qL 24 23 22 false,qK 25 .lss 24 0 22 false,oO 26 22 25,oM 27 26,qF 28 6 2 27 false,qL 29 28 27 false,qF 30 3 4 27 false,qL 31 30 27 false,oG 32 (.len false (.t 31)) 27 false,qB 33 .geq 29 32 27 false,oO 34 27 33,oM 35 34,qF 36 6 1 35 false,qL 37 36 35 false,qK 38 .lss 37 0 35 false,oO 39 35 38,oM 40 39,qF 41 6 1 40 false,qL 42 41 40 false,qF 43 3 6 40 false,qL 44 43 40 false,oG 45 (.len false (.t 44)) 40 false,qB 46 .geq 42 45 40 false,oO 47 40 46,oM 48 47,qF 49 6 3 48 false,qL 50 49 48 false,oG 51 (.bin .neq (.t 50) (.k (iv (-1)))) 48 false,qM 52 51 48 false,qL 53 4 52 true,qF 54 6 3 52 true,qL 55 54 52 true,oG 56 (.callv (.t 53) [.t 55,.k (iv 3)]) 52 true,oG 57 (.un .not (.t 56)) 52 true,qA 58 52 57 48 false,oO 59 48 58]
[2,3,4,6,8,59]
(cT 59
(sR [oV 7 false]
[7]
.ret)
.skip))
(sR [op 60 (.mkfn 159 [.t 6,.t 3,.t 4]),oM 9 60]
[2,3,6,8,9]
(sR [oF 61 6 4,oL 62 61,oM 63 9,oc 64 162 [.t 62,.t 63],oM 65 64,qF 66 3 7 65 true,qL 67 66 65 true,qM 68 8 65 true,qL 69 2 65 true,oG 70 (.slc 7 (.t 67) (some (.t 68)) (some (.t 69))) 65 true,oG 71 (.mkfn 164 [.t 3,.t 6]) 65 true,oG 72 (.call 163 [.t 70,.t 71]) 65 true,oA 73 65 72,oM 7 73]
[7]
.ret)))))⟩
theorem kct2z:chkF Tryz.prog Tryz.f158 cct2z=true:=by kernel_rfl
def cct21z:AFun:=⟨44,5,[.t 7],
 (sR [ob__ 6 168 2 1,oV 7 false]
[0,2,3,4,6]
(sR [oF 9 2 4,oL 10 9,oM 11 0,op 12 (.slc 2 (.t 10) none (some (.t 11))),op 13 (.mkfn 161 [.t 6]),oc 14 160 [.t 12,.t 13],oM 8 14]
[3,4,6,8]
(.seq (.dreg [oF 15 6 0,oL 16 15,oK 17 .geq 16 0,oM 18 17,qF 19 6 0 18 true,qL 20 19 18 true,qF 21 3 3 18 true,qL 22 21 18 true,oG 23 (.len false (.t 22)) 18 true,qB 24 .lss 20 23 18 true,oA 25 18 24,oM 26 25,qM 27 8 26 true,oG 28 (.un .not (.t 27)) 26 true,oA 29 26 28,oM 30 29,qL 31 4 30 true,qF 32 6 1 30 true,qL 33 32 30 true,qF 34 3 3 30 true,qL 35 34 30 true,qF 36 6 0 30 true,qL 37 36 30 true,qI 38 5 35 37 30 true,qF 39 38 1 30 true,qF 40 39 0 30 true,qL 41 40 30 true,oG 42 (.callvB (.t 31) [.t 33,.t 41]) 30 true,oA 43 30 42,oM 7 43]
[7])
.ret)))⟩
theorem kct21z:chkF Tryz.prog Tryz.f159 cct21z=true:=by kernel_rfl
def cct211z:AFun:=⟨9,2,[.t 3],
 (sR [ob__ 2 168 2 0,oV 3 false]
[1,2]
(sR [oF 4 2 0,oL 5 4,oF 6 1 0,oL 7 6,oB 8 .eql 5 7,oM 3 8]
[3]
.ret))⟩
abbrev pct211z:=pcR 161 cct211z Tryz.func161
def cct22z:AFun:=⟨21,4,[.t 6],
 (sR [ob__ 5 112 7 1,oV 6 false]
[2,3,5]
(.seq (.dreg [oF 7 5 0,oL 8 7,oK 9 .neq 8 2,oM 10 9,qF 11 2 6 10 false,qL 12 11 10 false,qF 13 3 1 10 false,qL 14 13 10 false,qI 15 2 12 14 10 false,qN 16 15 2 10 false,qF 17 5 1 10 false,qL 18 17 10 false,oG 19 (.call 165 [.t 16,.t 18]) 10 false,oO 20 10 19,oM 6 20]
[6])
.ret))⟩
abbrev pct22z:=pcR 164 cct22z Tryz.func164
def cpA_:AFun:=⟨27,2,[.t 4,.t 5],
 (sR [oC 4 0,oV 5 false]
[0,1]
(.seq (sR [oM 6 1,oK 7 .gtr 6 0,oM 8 7,qM 9 0 8 true,qM 10 1 8 true,oG 11 (.bin .sub (.k (iv 9223372036854775807)) (.t 10)) 8 true,qB 12 .gtr 9 11 8 true,oA 13 8 12,oM 14 13,qM 15 1 14 false,qK 16 .lss 15 0 14 false,qM 17 16 14 false,qM 18 0 17 true,qM 19 1 17 true,oG 20 (.bin .sub (.k (iv (-9223372036854775808))) (.t 19)) 17 true,qB 21 .lss 18 20 17 true,qA 22 17 21 14 false,oO 23 14 22]
[0,1,23]
(cT 23
(sR [oC 4 0,oV 5 false]
[4,5]
.ret)
.skip))
(sR [oM 24 0,oM 25 1,oB 26 .add 24 25,oM 4 26,oV 5 true]
[4,5]
.ret)))⟩
abbrev ppA_:=pcR 288 cpA_ Tryz.func288
def cpD_:AFun:=⟨27,2,[.t 4,.t 5,.t 6],
 (sR [oC 4 0,oC 5 0,oC 6 0]
[0,1]
(.seq (sR [oM 9 1,oK 10 .eql 9 0]
[0,1,10]
(cT 10
(sR [oC 4 0,oC 5 0,oC 6 7]
[4,5,6]
.ret)
.skip))
(.seq (sR [oM 11 1,op 12 (.bin .eql (.t 11) (.k (iv (-1))))]
[0,1,12]
(cT 12
(sR [oM 14 0,oc 15 290 [.k (iv 0),.t 14],oM 13 15,oE 16 13 0,oE 17 13 1,oM 7 16,oM 8 17]
[7,8]
(.seq (sR [oM 18 8,oU 19 18]
[7,19]
(cT 19
(sR [oC 4 0,oC 5 0,oC 6 6]
[4,5,6]
.ret)
.skip))
(sR [oM 20 7,oM 4 20,oC 5 0,oC 6 0]
[4,5,6]
.ret)))
.skip))
(.seq (.dreg [oM 21 0,oM 22 1,oB 23 .quo 21 22,oM 24 0,oM 25 1,oB 26 .rem 24 25,oM 4 23,oM 5 26,oC 6 0]
[4,5,6])
.ret))))⟩
abbrev ppD_:=pcR 292 cpD_ Tryz.func292
def cpM_:AFun:=⟨81,2,[.t 4,.t 5],
 (sR [oC 4 0,oV 5 false]
[0,1]
(.seq (sR [oM 6 0,oK 7 .eql 6 0,oM 8 7,qM 9 1 8 false,qK 10 .eql 9 0 8 false,oO 11 8 10]
[0,1,11]
(cT 11
(sR [oC 4 0,oV 5 true]
[4,5]
.ret)
.skip))
(.seq (sR [oM 12 0,op 13 (.bin .eql (.t 12) (.k (iv (-1))))]
[0,1,13]
(cT 13
(sR [oM 14 1,oc 15 290 [.k (iv 0),.t 14],oE 16 15 0,oE 17 15 1,oM 4 16,oM 5 17]
[4,5]
.ret)
.skip))
(.seq (sR [oM 18 1,op 19 (.bin .eql (.t 18) (.k (iv (-1))))]
[0,1,19]
(cT 19
(sR [oM 20 0,oc 21 290 [.k (iv 0),.t 20],oE 22 21 0,oE 23 21 1,oM 4 22,oM 5 23]
[4,5]
.ret)
.skip))
(.seq (sR [oM 24 0,oK 25 .gtr 24 0,oM 26 25,qM 27 1 26 true,qK 28 .gtr 27 0 26 true,oA 29 26 28,oM 30 29,qM 31 0 30 true,qM 32 1 30 true,oG 33 (.bin .quo (.k (iv 9223372036854775807)) (.t 32)) 30 true,qB 34 .gtr 31 33 30 true,oA 35 30 34,oM 36 35,qM 37 0 36 false,qK 38 .gtr 37 0 36 false,qM 39 38 36 false,qM 40 1 39 true,qK 41 .lss 40 0 39 true,qA 42 39 41 36 false,qM 43 42 36 false,qM 44 1 43 true,qM 45 0 43 true,oG 46 (.bin .quo (.k (iv (-9223372036854775808))) (.t 45)) 43 true,qB 47 .lss 44 46 43 true,qA 48 43 47 36 false,oO 49 36 48,oM 50 49,qM 51 0 50 false,qK 52 .lss 51 0 50 false,qM 53 52 50 false,qM 54 1 53 true,qK 55 .gtr 54 0 53 true,qA 56 53 55 50 false,qM 57 56 50 false,qM 58 0 57 true,qM 59 1 57 true,oG 60 (.bin .quo (.k (iv (-9223372036854775808))) (.t 59)) 57 true,qB 61 .lss 58 60 57 true,qA 62 57 61 50 false,oO 63 50 62,oM 64 63,qM 65 0 64 false,qK 66 .lss 65 0 64 false,qM 67 66 64 false,qM 68 1 67 true,qK 69 .lss 68 0 67 true,qA 70 67 69 64 false,qM 71 70 64 false,qM 72 0 71 true,qM 73 1 71 true,oG 74 (.bin .quo (.k (iv 9223372036854775807)) (.t 73)) 71 true,qB 75 .lss 72 74 71 true,qA 76 71 75 64 false,oO 77 64 76]
[0,1,77]
(cT 77
(sR [oC 4 0,oV 5 false]
[4,5]
.ret)
.skip))
(sR [oM 78 0,oM 79 1,oB 80 .mul 78 79,oM 4 80,oV 5 true]
[4,5]
.ret))))))⟩
abbrev ppM_:=pcR 291 cpM_ Tryz.func291
def cp11:AFun:=⟨27,2,[.t 4,.t 5],
 (sR [oC 4 0,oV 5 false]
[0,1]
(.seq (sR [oM 6 1,oK 7 .lss 6 0,oM 8 7,qM 9 0 8 true,qM 10 1 8 true,oG 11 (.bin .add (.k (iv 9223372036854775807)) (.t 10)) 8 true,qB 12 .gtr 9 11 8 true,oA 13 8 12,oM 14 13,qM 15 1 14 false,qK 16 .gtr 15 0 14 false,qM 17 16 14 false,qM 18 0 17 true,qM 19 1 17 true,oG 20 (.bin .add (.k (iv (-9223372036854775808))) (.t 19)) 17 true,qB 21 .lss 18 20 17 true,qA 22 17 21 14 false,oO 23 14 22]
[0,1,23]
(cT 23
(sR [oC 4 0,oV 5 false]
[4,5]
.ret)
.skip))
(sR [oM 24 0,oM 25 1,oB 26 .sub 24 25,oM 4 26,oV 5 true]
[4,5]
.ret)))⟩
abbrev ppS_:=pcR 290 cp11 Tryz.func290
def cp10:AFun:=⟨37,2,[.t 4],
 (sR [oV 4 false]
[0,1]
(.seq (sR [oC 5 0]
[0,1,5]
(.block 0
(.loop [0,1,5] []
 (.seq (sR [oM 6 5,oM 7 0,oy 8 7,oB 9 .lss 6 8,oM 10 9,qM 11 5 10 true,qM 12 1 10 true,oG 13 (.len true (.t 12)) 10 true,qB 14 .lss 11 13 10 true,oA 15 10 14]
[0,1,5,15]
(cT 15
.skip x0z))
(.seq (.block 1
(.seq (.dreg [oM 18 0,oM 19 5,op 20 (.idx (.t 18) (.t 19)),oM 21 1,oM 22 5,op 23 (.idx (.t 21) (.t 22)),oB 24 .neq 20 23]
[0,1,5,24])
(cT 24
(.seq (.dreg [oM 25 0,oM 26 5,op 27 (.idx (.t 25) (.t 26)),oM 28 1,oM 29 5,op 30 (.idx (.t 28) (.t 29)),oB 31 .lss 27 30,oM 4 31]
[4])
.ret)
.skip)))
(.reg [oM 16 5,oK 17 .add 16 1,oM 5 17]
[0,1,5]))))))
(sR [oM 32 0,oy 33 32,oM 34 1,oy 35 34,oB 36 .lss 33 35,oM 4 36]
[4]
.ret)))⟩
abbrev ppB_:=pcR 224 cp10 Tryz.func224
def cpL_:AFun:=⟨38,2,[.t 4],
 (sR [ob__ 2 48 4 0,ob__ 3 48 4 1,oV 4 false]
[2,3]
(.seq (sR [oF 5 2 0,oL 6 5,oF 7 3 0,oL 8 7,oB 9 .neq 6 8]
[2,3,9]
(cT 9
(sR [oF 10 2 0,oL 11 10,oF 12 3 0,oL 13 12,oB 14 .lss 11 13,oM 4 14]
[4]
.ret)
.skip))
(.seq (sR [oF 15 2 0,oL 16 15,oK 17 .eql 16 1]
[2,3,17]
(cT 17
(sR [oF 18 2 1,oL 19 18,oF 20 3 1,oL 21 20,oB 22 .lss 19 21,oM 4 22]
[4]
.ret)
.skip))
(.seq (sR [oF 23 2 0,oL 24 23,oK 25 .eql 24 2]
[2,3,25]
(cT 25
(sR [oF 26 2 2,oL 27 26,oF 28 3 2,oL 29 28,oc 30 224 [.t 27,.t 29],oM 4 30]
[4]
.ret)
.skip))
(sR [oF 31 2 3,oL 32 31,oU 33 32,oM 34 33,qF 35 3 3 34 true,qL 36 35 34 true,oA 37 34 36,oM 4 37]
[4]
.ret)))))⟩
abbrev ppL_:=pcR 147 cpL_ Tryz.func147
def cpO_:AFun:=⟨145,3,[.cells 6 4,.t 7],
 (sR [ob__ 4 48 4 1,ob__ 5 48 4 2,oa 6 48 4 (.agg [iv 0,iv 0,.str [],.bool false]),oC 7 0]
[0,4,5,6]
(.seq (sR [oM 8 0,oK 9 .lss 8 4,oM 10 9,qM 11 0 10 false,qK 12 .gtr 11 16 10 false,oO 13 10 12]
[0,4,5,6,13]
(cT 13
(sR [op 14 (.build [iv 0,iv 0,.str [],.bool false] []),oS 6 14 4,oC 7 1]
[6,7]
.ret)
.skip))
(.seq (sR [oM 15 0,oK 16 .eql 15 4]
[0,4,5,6,16]
(cT 16
(.seq (sR [oF 17 4 0,oL 18 17,oK 19 .neq 18 3]
[4,6,19]
(cT 19
(sR [op 20 (.build [iv 0,iv 0,.str [],.bool false] []),oS 6 20 4,oC 7 8]
[6,7]
.ret)
.skip))
(sR [oF 21 4 3,oL 22 21,oU 23 22,oc 24 279 [.t 23],oE 25 24 0,oE 26 24 1,oS 6 25 4,oM 7 26]
[6,7]
.ret))
.skip))
(.seq (sR [oM 27 0,oK 28 .eql 27 5]
[0,4,5,6,28]
(cT 28
(.seq (sR [oF 29 4 0,oL 30 29,oK 31 .neq 30 1]
[4,6,31]
(cT 31
(sR [op 32 (.build [iv 0,iv 0,.str [],.bool false] []),oS 6 32 4,oC 7 8]
[6,7]
.ret)
.skip))
(sR [oF 33 4 1,oL 34 33,oc 35 280 [.k (iv 9),.k (iv 0),.t 34],oE 36 35 0,oE 37 35 1,oS 6 36 4,oM 7 37]
[6,7]
.ret))
.skip))
(.seq (sR [oF 38 4 0,oL 39 38,oF 40 5 0,oL 41 40,oB 42 .neq 39 41]
[0,4,5,6,42]
(cT 42
(sR [op 43 (.build [iv 0,iv 0,.str [],.bool false] []),oS 6 43 4,oC 7 8]
[6,7]
.ret)
.skip))
(.seq (sR [oM 44 0,oK 45 .eql 44 13]
[0,4,5,6,45]
(cT 45
(sR [oN 46 4 4,oN 47 5 4,op 48 (.eqA false [0,0,1,2] (.t 46) (.t 47)),oc 49 279 [.t 48],oE 50 49 0,oE 51 49 1,oS 6 50 4,oM 7 51]
[6,7]
.ret)
.skip))
(.seq (sR [oM 52 0,oK 53 .eql 52 14]
[0,4,5,6,53]
(cT 53
(sR [oN 54 4 4,oN 55 5 4,op 56 (.eqA true [0,0,1,2] (.t 54) (.t 55)),oc 57 279 [.t 56],oE 58 57 0,oE 59 57 1,oS 6 58 4,oM 7 59]
[6,7]
.ret)
.skip))
(.seq (sR [oF 60 4 0,oL 61 60,oK 62 .eql 61 3]
[0,4,5,6,62]
(cT 62
(.seq (sR [oM 63 0,oK 64 .eql 63 6]
[0,4,5,6,64]
(cT 64
(sR [oF 65 4 3,oL 66 65,oM 67 66,qF 68 5 3 67 true,qL 69 68 67 true,oA 70 67 69,oc 71 279 [.t 70],oE 72 71 0,oE 73 71 1,oS 6 72 4,oM 7 73]
[6,7]
.ret)
.skip))
(.seq (sR [oM 74 0,oK 75 .eql 74 7]
[4,5,6,75]
(cT 75
(sR [oF 76 4 3,oL 77 76,oM 78 77,qF 79 5 3 78 false,qL 80 79 78 false,oO 81 78 80,oc 82 279 [.t 81],oE 83 82 0,oE 84 82 1,oS 6 83 4,oM 7 84]
[6,7]
.ret)
.skip))
(sR [op 85 (.build [iv 0,iv 0,.str [],.bool false] []),oS 6 85 4,oC 7 8]
[6,7]
.ret)))
.skip))
(.seq (sR [oM 86 0,oK 87 .eql 86 15]
[0,4,5,6,87]
(cT 87
(sR [oN 88 4 4,oN 89 5 4,oc 90 147 [.t 88,.t 89],oc 91 279 [.t 90],oE 92 91 0,oE 93 91 1,oS 6 92 4,oM 7 93]
[6,7]
.ret)
.skip))
(.seq (sR [oM 94 0,oK 95 .eql 94 16]
[0,4,5,6,95]
(cT 95
(sR [oN 96 5 4,oN 97 4 4,oc 98 147 [.t 96,.t 97],oU 99 98,oc 100 279 [.t 99],oE 101 100 0,oE 102 100 1,oS 6 101 4,oM 7 102]
[6,7]
.ret)
.skip))
(.seq (sR [oF 103 4 0,oL 104 103,oK 105 .eql 104 1,oM 106 105,qM 107 0 106 true,qK 108 .geq 107 8 106 true,oA 109 106 108,oM 110 109,qM 111 0 110 true,qK 112 .leq 111 12 110 true,oA 113 110 112]
[0,4,5,6,113]
(cT 113
(sR [oM 114 0,oF 115 4 1,oL 116 115,oF 117 5 1,oL 118 117,oc 119 280 [.t 114,.t 116,.t 118],oE 120 119 0,oE 121 119 1,oS 6 120 4,oM 7 121]
[6,7]
.ret)
.skip))
(.seq (sR [oF 122 4 0,oL 123 122,oK 124 .eql 123 2,oM 125 124,qM 126 0 125 true,qK 127 .eql 126 8 125 true,oA 128 125 127]
[4,5,6,128]
(cT 128
(.seq (sR [oF 129 4 2,oL 130 129,oy 131 130,oF 132 5 2,oL 133 132,oy 134 133,oB 135 .add 131 134,oK 136 .gtr 135 4096]
[4,5,6,136]
(cT 136
(sR [op 137 (.build [iv 0,iv 0,.str [],.bool false] []),oS 6 137 4,oC 7 3]
[6,7]
.ret)
.skip))
(sR [oF 138 4 2,oL 139 138,oF 140 5 2,oL 141 140,oB 142 .add 139 141,op 143 (.build [iv 0,iv 0,.str [],.bool false] [(0,1,.k (iv 2)),(2,1,.t 142)]),oS 6 143 4,oC 7 0]
[6,7]
.ret))
.skip))
(sR [op 144 (.build [iv 0,iv 0,.str [],.bool false] []),oS 6 144 4,oC 7 8]
[6,7]
.ret)))))))))))))⟩
abbrev ppO_:=pcR 261 cpO_ Tryz.func261
def cp27:AFun:=⟨44,1,[.t 2],
 (sR [ob__ 1 48 4 0,oV 2 false]
[1]
(.seq (sR [oF 3 1 0,oL 4 3,oK 5 .eql 4 1]
[1,5]
(cT 5
(sR [oF 6 1 2,oL 7 6,op 8 (.bin .eql (.t 7) (.k (.str []))),oM 9 8,qF 10 1 3 9 true,qL 11 10 9 true,oG 12 (.un .not (.t 11)) 9 true,oA 13 9 12,oM 2 13]
[2]
.ret)
.skip))
(.seq (sR [oF 14 1 0,oL 15 14,oK 16 .eql 15 2]
[1,16]
(cT 16
(sR [oF 17 1 1,oL 18 17,oK 19 .eql 18 0,oM 20 19,qF 21 1 3 20 true,qL 22 21 20 true,oG 23 (.un .not (.t 22)) 20 true,oA 24 20 23,oM 25 24,qF 26 1 2 25 true,qL 27 26 25 true,oG 28 (.len true (.t 27)) 25 true,qK 29 .leq 28 4096 25 true,oA 30 25 29,oM 2 30]
[2]
.ret)
.skip))
(sR [oF 31 1 0,oL 32 31,oK 33 .eql 32 3,oM 34 33,qF 35 1 1 34 true,qL 36 35 34 true,qK 37 .eql 36 0 34 true,oA 38 34 37,oM 39 38,qF 40 1 2 39 true,qL 41 40 39 true,oG 42 (.bin .eql (.t 41) (.k (.str []))) 39 true,oA 43 39 42,oM 2 43]
[2]
.ret))))⟩
abbrev pp25:=pcR 35 cp27 Tryz.func35
def cpa_:AFun:=⟨76,3,[.cells 6 4,.t 7],
 (sR [oa 6 48 4 (.agg [iv 0,iv 0,.str [],.bool false]),oC 7 0]
[0,1,2,6]
(.seq (sR [oM 17 0,oK 18 .eql 17 8]
[0,1,2,6,18]
(cT 18
(sR [oM 20 1,oM 21 2,oc 22 288 [.t 20,.t 21],oM 19 22,oE 23 19 0,oE 24 19 1,oM 8 23,oM 9 24]
[6,8,9]
(sR [oM 25 8,oM 26 9,oc 27 289 [.t 25,.t 26],oE 28 27 0,oE 29 27 1,oS 6 28 4,oM 7 29]
[6,7]
.ret))
.skip))
(.seq (sR [oM 30 0,oK 31 .eql 30 9]
[0,1,2,6,31]
(cT 31
(sR [oM 33 1,oM 34 2,oc 35 290 [.t 33,.t 34],oM 32 35,oE 36 32 0,oE 37 32 1,oM 10 36,oM 11 37]
[6,10,11]
(sR [oM 38 10,oM 39 11,oc 40 289 [.t 38,.t 39],oE 41 40 0,oE 42 40 1,oS 6 41 4,oM 7 42]
[6,7]
.ret))
.skip))
(.seq (sR [oM 43 0,oK 44 .eql 43 10]
[0,1,2,6,44]
(cT 44
(sR [oM 46 1,oM 47 2,oc 48 291 [.t 46,.t 47],oM 45 48,oE 49 45 0,oE 50 45 1,oM 12 49,oM 13 50]
[6,12,13]
(sR [oM 51 12,oM 52 13,oc 53 289 [.t 51,.t 52],oE 54 53 0,oE 55 53 1,oS 6 54 4,oM 7 55]
[6,7]
.ret))
.skip))
(sR [oM 57 1,oM 58 2,oc 59 292 [.t 57,.t 58],oM 56 59,oE 60 56 0,oE 61 56 1,oE 62 56 2,oM 14 60,oM 15 61,oM 16 62]
[0,6,14,15,16]
(.seq (sR [oM 63 16,oK 64 .eql 63 7]
[0,6,14,15,16,64]
(cT 64
(sR [op 65 (.build [iv 0,iv 0,.str [],.bool false] []),oS 6 65 4,oC 7 7]
[6,7]
.ret)
.skip))
(.seq (sR [oM 66 0,oK 67 .eql 66 12]
[6,14,15,16,67]
(cT 67
(sR [oM 68 15,op 69 (.build [iv 0,iv 0,.str [],.bool false] [(0,1,.k (iv 1)),(1,1,.t 68)]),oS 6 69 4,oC 7 0]
[6,7]
.ret)
.skip))
(sR [oM 70 14,oM 71 16,oK 72 .eql 71 0,oc 73 289 [.t 70,.t 72],oE 74 73 0,oE 75 73 1,oS 6 74 4,oM 7 75]
[6,7]
.ret))))))))⟩
abbrev ppa_:=pcR 280 cpa_ Tryz.func280
