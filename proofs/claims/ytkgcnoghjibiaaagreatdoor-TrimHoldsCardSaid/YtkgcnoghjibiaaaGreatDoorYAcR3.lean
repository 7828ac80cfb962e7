/- Lemmas. -/
import Derived.Test.YtkgcnoghjibiaaaGreatDoorYAcR0
set_option linter.unusedSimpArgs false
namespace Go.Proofs.YtkgcnoghjibiaaaGreatDoor.Ab
open Go
def cp42:AFun:=⟨29,2,[.t 4],
 (sR [ob__ 2 30 9 0,ob__ 3 45 2 1,op 4 (.nilrow 185 3)]
[2,3]
(sR [op 5 (.nilrow 185 3)]
[2,3,5]
(.seq (sR [oC 6 0]
[2,3,5,6]
(.block 0
(.loop [2,3,5,6] [2,3,4,5,27]
 (.seq (sR [oM 9 6,oF 10 2 6,oL 11 10,oZ 12 11,oB 13 .lss 9 12]
[2,3,5,6,13]
(cT 13
.skip x0z))
(.seq (.block 1
(sR [oN 17 2 9,oM 18 6,oN 19 3 2,oc 20 146 [.t 17,.t 18,.t 19],oM 16 20,oE 21 16 0,oE 22 16 1,oa 7 185 3 (.agg [iv 0,.nils,.nils]),oS 7 21 3,oM 8 22]
[2,3,5,6,7,8]
(sR [oM 23 8]
[2,3,5,6,7,23]
(cT 23
(.reg [oM 24 5,oN 25 7 3,op 26 (.mkrow 185 3 1 (.agg [iv 0,.nils,.nils]) [(0,.t 25)]),op 27 (.app 185 3 56 (.t 24) (.t 26)),oM 5 27]
[2,3,5,6])
.skip))))
(.reg [oM 14 6,oK 15 .add 14 1,oM 6 15]
[2,3,5,6]))))))
(sR [oM 28 5,oM 4 28]
[4]
.ret))))⟩
abbrev pp41:=pcR 72 cp42 Tryz.func72
def cpH_:AFun:=⟨121,3,[.cells 6 3,.t 7],
 (sR [ob__ 3 30 9 0,ob__ 5 45 2 2,oa 6 185 3 (.agg [iv 0,.nils,.nils]),oV 7 false]
[1,3,5,6]
(sR [oF 17 3 6,oL 18 17,oM 19 1,oI 20 2 18 19,oN 21 20 2,oa 8 106 2 (.agg [iv 0,.nils]),oS 8 21 2]
[1,3,5,6,8]
(sR [op 22 (.build [iv 0,.nils,.nils] []),oa 9 185 3 (.agg [iv 0,.nils,.nils]),oS 9 22 3]
[1,3,5,6,8,9]
(.seq (.seq (.dreg [oF 23 3 1,oL 24 23,oF 25 8 0,oL 26 25,oI 27 2 24 26,oF 28 27 0,oL 29 28,oF 30 5 0,oL 31 30,oB 32 .neq 29 31,oM 33 32,qF 34 8 1 33 false,qL 35 34 33 false,oG 36 (.len false (.t 35)) 33 false,qF 37 5 1 33 false,qL 38 37 33 false,oG 39 (.len false (.t 38)) 33 false,qB 40 .neq 36 39 33 false,oO 41 33 40]
[1,5,6,8,9,41])
(cT 41
(sR [oN 42 9 3,oS 6 42 3,oV 7 false]
[6,7]
.ret)
.skip))
(sR [op 10 (.nilrow 174 5)]
[1,5,6,8,9,10]
(sR [op 11 (.nilrow 174 5)]
[1,5,6,8,9,10,11]
(.seq (sR [oC 12 0]
[1,5,6,8,9,10,11,12]
(.block 0
(.loop [1,5,6,8,9,10,11,12] [3,5,6,8,9,36,39,10,11]
 (.seq (sR [oM 43 12,oF 44 8 1,oL 45 44,oZ 46 45,oB 47 .lss 43 46]
[1,5,6,8,9,10,11,12,47]
(cT 47
.skip x0z))
(.seq (.block 1
(sR [oF 50 8 1,oL 51 50,oM 52 12,oI 53 6 51 52,oN 54 53 6,oa 13 108 6 (.agg [iv 0,iv 0,iv 0,iv 0,.str [],.bool false]),oS 13 54 6]
[1,5,6,8,9,10,11,12,13]
(.seq (.dreg [oF 55 13 1,oL 56 55,oF 57 5 1,oL 58 57,oM 59 12,oI 60 4 58 59,oN 61 60 4,op 62 (.build [iv 0,iv 0,iv 0,.str [],.bool false] [(0,1,.t 56),(1,4,.t 61)]),op 63 (.mkrow 174 5 1 (.agg [iv 0,iv 0,iv 0,.str [],.bool false]) [(0,.t 62)]),oM 14 63]
[1,5,6,8,9,10,11,12,13,14])
(.seq (.seq (.dreg [oF 64 13 0,oL 65 64,oK 66 .eql 65 1,oM 67 66,qF 68 13 2 67 true,qN 69 68 4 67 true,qF 70 5 1 67 true,qL 71 70 67 true,qM 72 12 67 true,qI 73 4 71 72 67 true,qN 74 73 4 67 true,oG 75 (.eqA true [0,0,1,2] (.t 69) (.t 74)) 67 true,oA 76 67 75]
[1,5,6,8,9,10,11,12,13,14,76])
(cT 76
(sR [oN 77 9 3,oS 6 77 3,oV 7 false]
[6,7]
.ret)
.skip))
(.seq (sR [oF 78 13 0,oL 79 78,oK 80 .eql 79 2]
[1,5,6,8,9,10,11,12,13,14,80]
(cT 80
(.seq (sR [oM 81 10,oM 82 14,oc 83 221 [.t 81,.t 82],oU 84 83]
[1,5,6,8,9,10,11,12,13,14,84]
(cT 84
(sR [oN 85 9 3,oS 6 85 3,oV 7 false]
[6,7]
.ret)
.skip))
(.reg [oM 86 10,oM 87 14,oc 88 222 [.t 86,.t 87],oM 10 88]
[1,5,6,8,9,10,11,12,13,14]))
.skip))
(sR [oF 89 13 0,oL 90 89,oK 91 .eql 90 3]
[1,5,6,8,9,10,11,12,13,14,91]
(cT 91
(sR [oM 93 11,oF 94 13 1,oL 95 94,oc 96 73 [.t 93,.t 95],oM 92 96,oE 97 92 0,oE 98 92 1,oa 15 48 4 (.agg [iv 0,iv 0,.str [],.bool false]),oS 15 97 4,oM 16 98]
[1,5,6,8,9,10,11,12,14,15,16]
(.seq (.seq (.dreg [oM 99 16,oM 100 99,qN 101 15 4 100 true,qF 102 5 1 100 true,qL 103 102 100 true,qM 104 12 100 true,qI 105 4 103 104 100 true,qN 106 105 4 100 true,oG 107 (.eqA true [0,0,1,2] (.t 101) (.t 106)) 100 true,oA 108 100 107]
[1,5,6,8,9,10,11,12,14,16,108])
(cT 108
(sR [oN 109 9 3,oS 6 109 3,oV 7 false]
[6,7]
.ret)
.skip))
(sR [oM 110 16,oU 111 110]
[1,5,6,8,9,10,11,12,14,111]
(cT 111
(.reg [oM 112 11,oM 113 14,op 114 (.iaddr 5 (.t 113) (.k (iv 0))),oN 115 114 5,oc 116 223 [.t 112,.t 115],oM 11 116]
[1,5,6,8,9,10,11,12])
.skip))))
.skip)))))))
(.reg [oM 48 12,oK 49 .add 48 1,oM 12 49]
[1,5,6,8,9,10,11,12]))))))
(sR [oM 117 1,oM 118 10,oM 119 11,op 120 (.build [iv 0,.nils,.nils] [(0,1,.t 117),(1,1,.t 118),(2,1,.t 119)]),oS 6 120 3,oV 7 true]
[6,7]
.ret))))))))⟩
abbrev pp40:=pcR 146 cpH_ Tryz.func146
def cpU_:AFun:=⟨28,2,[.t 4],
 (sR [op 4 (.nilrow 185 3)]
[0,1]
(sR [op 5 (.nilrow 185 3)]
[0,1,5]
(.seq (sR [oC 6 0]
[0,1,5,6]
(.block 0
(.loop [0,1,5,6] [4,5,26]
 (.seq (sR [oM 7 6,oM 8 0,oZ 9 8,oB 10 .lss 7 9]
[0,1,5,6,10]
(cT 10
.skip x0z))
(.seq (.block 1
(sR [oM 13 0,oM 14 6,oI 15 3 13 14,oF 16 15 1,oL 17 16,oM 18 1,oc 19 217 [.t 17,.t 18]]
[0,1,5,6,19]
(cT 19
(.reg [oM 20 5,oM 21 0,oM 22 6,oI 23 3 21 22,oN 24 23 3,op 25 (.mkrow 185 3 1 (.agg [iv 0,.nils,.nils]) [(0,.t 24)]),op 26 (.app 185 3 56 (.t 20) (.t 25)),oM 5 26]
[0,1,5,6])
.skip)))
(.reg [oM 11 6,oK 12 .add 11 1,oM 6 12]
[0,1,5,6]))))))
(sR [oM 27 5,oM 4 27]
[4]
.ret))))⟩
abbrev ppU_:=pcR 143 cpU_ Tryz.func143
def cpp_:AFun:=⟨38,2,[.t 4],
 (sR [ob__ 3 174 5 1,op 4 (.nilrow 174 5)]
[0,3]
(sR [oM 7 0,oZ 8 7,oM 5 8]
[0,3,5]
(.seq (.block 0
(.loop [0,3,5] [3,4,8]
 (.seq (.seq (.dreg [oM 9 5,oK 10 .gtr 9 0,oM 11 10,qM 12 0 11 true,qM 13 5 11 true,qK 14 .sub 13 1 11 true,qI 15 5 12 14 11 true,qF 16 15 0 11 true,qL 17 16 11 true,qF 18 3 0 11 true,qL 19 18 11 true,qB 20 .gtr 17 19 11 true,oA 21 11 20]
[0,3,5,21])
(cT 21
.skip x0z))
(.block 1
(.reg [oM 22 5,oK 23 .sub 22 1,oM 5 23]
[0,3,5])))))
(sR [op 24 (.mkrow 174 5 0 (.agg [iv 0,iv 0,iv 0,.str [],.bool false]) []),oM 25 0,oM 26 5,op 27 (.slc 5 (.t 25) none (some (.t 26))),op 28 (.app 174 5 48 (.t 24) (.t 27)),oM 6 28]
[0,3,5,6]
(sR [oM 29 6,oN 30 3 5,op 31 (.mkrow 174 5 1 (.agg [iv 0,iv 0,iv 0,.str [],.bool false]) [(0,.t 30)]),op 32 (.app 174 5 48 (.t 29) (.t 31)),oM 6 32]
[0,5,6]
(sR [oM 33 6,oM 34 0,oM 35 5,op 36 (.slc 5 (.t 34) (some (.t 35)) none),op 37 (.app 174 5 48 (.t 33) (.t 36)),oM 4 37]
[4]
.ret))))))⟩
abbrev ppp_:=pcR 223 cpp_ Tryz.func223
def cp13:AFun:=⟨22,2,[.t 4],
 (sR [ob__ 2 30 9 0,oV 4 false]
[1,2]
(.seq (sR [oC 5 0]
[1,2,5]
(.block 0
(.loop [1,2,5] [2]
 (.seq (sR [oM 6 5,oM 7 1,oZ 8 7,oB 9 .lss 6 8]
[1,2,5,9]
(cT 9
.skip x0z))
(.seq (.block 1
(.seq (.dreg [oF 12 2 4,oL 13 12,oM 14 1,oM 15 5,oI 16 2 14 15,oF 17 16 0,oL 18 17,oI 19 3 13 18,oF 20 19 2,oL 21 20]
[1,2,5,21])
(cT 21
(sR [oV 4 true]
[4]
.ret)
.skip)))
(.reg [oM 10 5,oK 11 .add 10 1,oM 5 11]
[1,2,5]))))))
(sR [oV 4 false]
[4]
.ret)))⟩
abbrev pp12:=pcR 145 cp13 Tryz.func145
def cp32:AFun:=⟨59,2,[.t 4],
 (sR [ob__ 2 178 2 0,ob__ 3 178 2 1,oV 4 false]
[2,3]
(.seq (sR [oF 6 2 0,oL 7 6,oF 8 3 0,oL 9 8,oB 10 .neq 7 9]
[2,3,10]
(cT 10
(sR [oF 11 2 0,oL 12 11,oF 13 3 0,oL 14 13,oB 15 .lss 12 14,oM 4 15]
[4]
.ret)
.skip))
(.seq (sR [oC 5 0]
[2,3,5]
(.block 0
(.loop [2,3,5] [2,3]
 (.seq (sR [oM 16 5,oF 17 2 1,oL 18 17,oZ 19 18,oB 20 .lss 16 19,oM 21 20,qM 22 5 21 true,qF 23 3 1 21 true,qL 24 23 21 true,oG 25 (.len false (.t 24)) 21 true,qB 26 .lss 22 25 21 true,oA 27 21 26]
[2,3,5,27]
(cT 27
.skip x0z))
(.seq (.block 1
(.seq (.dreg [oF 30 2 1,oL 31 30,oM 32 5,oI 33 4 31 32,oN 34 33 4,oF 35 3 1,oL 36 35,oM 37 5,oI 38 4 36 37,oN 39 38 4,op 40 (.eqA true [0,0,1,2] (.t 34) (.t 39))]
[2,3,5,40])
(cT 40
(.seq (.dreg [oF 41 2 1,oL 42 41,oM 43 5,oI 44 4 42 43,oN 45 44 4,oF 46 3 1,oL 47 46,oM 48 5,oI 49 4 47 48,oN 50 49 4,oc 51 147 [.t 45,.t 50],oM 4 51]
[4])
.ret)
.skip)))
(.reg [oM 28 5,oK 29 .add 28 1,oM 5 29]
[2,3,5]))))))
(sR [oF 52 2 1,oL 53 52,oZ 54 53,oF 55 3 1,oL 56 55,oZ 57 56,oB 58 .lss 54 57,oM 4 58]
[4]
.ret))))⟩
abbrev pp30:=pcR 263 cp32 Tryz.func263
def cp41:AFun:=⟨15,2,[.t 4],
 (sR [ob__ 2 178 2 0,ob__ 3 178 2 1,oV 4 false]
[2,3]
(sR [oN 5 2 2,oN 6 3 2,oc 7 263 [.t 5,.t 6],oU 8 7,oM 9 8,qN 10 3 2 9 true,qN 11 2 2 9 true,oG 12 (.call 263 [.t 10,.t 11]) 9 true,oG 13 (.un .not (.t 12)) 9 true,oA 14 9 13,oM 4 14]
[4]
.ret))⟩
abbrev pp39:=pcR 264 cp41 Tryz.func264
def cp40:AFun:=⟨48,2,[.t 4],
 (sR [ob__ 3 178 2 1,op 4 (.nilrow 178 2)]
[0,3]
(sR [oM 7 0,oZ 8 7,oM 5 8]
[0,3,5]
(.seq (.block 0
(.loop [0,3,5] [3,4,8]
 (.seq (.seq (.dreg [oM 9 5,oK 10 .gtr 9 0,oM 11 10,qN 12 3 2 11 true,qM 13 0 11 true,qM 14 5 11 true,qK 15 .sub 14 1 11 true,qI 16 2 13 15 11 true,qN 17 16 2 11 true,oG 18 (.call 263 [.t 12,.t 17]) 11 true,oA 19 11 18]
[0,3,5,19])
(cT 19
.skip x0z))
(.block 1
(.reg [oM 20 5,oK 21 .sub 20 1,oM 5 21]
[0,3,5])))))
(.seq (.seq (.dreg [oM 22 5,oK 23 .gtr 22 0,oM 24 23,qM 25 0 24 true,qM 26 5 24 true,qK 27 .sub 26 1 24 true,qI 28 2 25 27 24 true,qN 29 28 2 24 true,qN 30 3 2 24 true,oG 31 (.call 264 [.t 29,.t 30]) 24 true,oA 32 24 31]
[0,3,5,32])
(cT 32
(sR [oM 33 0,oM 4 33]
[4]
.ret)
.skip))
(sR [op 34 (.mkrow 178 2 0 (.agg [iv 0,.nils]) []),oM 35 0,oM 36 5,op 37 (.slc 2 (.t 35) none (some (.t 36))),op 38 (.app 178 2 32 (.t 34) (.t 37)),oM 6 38]
[0,3,5,6]
(sR [oM 39 6,oN 40 3 2,op 41 (.mkrow 178 2 1 (.agg [iv 0,.nils]) [(0,.t 40)]),op 42 (.app 178 2 32 (.t 39) (.t 41)),oM 6 42]
[0,5,6]
(sR [oM 43 6,oM 44 0,oM 45 5,op 46 (.slc 2 (.t 44) (some (.t 45)) none),op 47 (.app 178 2 32 (.t 43) (.t 46)),oM 4 47]
[4]
.ret)))))))⟩
abbrev pp38:=pcR 220 cp40 Tryz.func220
def cp17:AFun:=⟨28,1,[.t 2],
 (sR [ob__ 1 30 9 0,op 2 (.nilrow 178 2)]
[1]
(sR [oF 5 1 5,oL 6 5,op 7 (.build [iv 0,.nils] [(0,1,.t 6)]),oa 3 178 2 (.agg [iv 0,.nils]),oS 3 7 2]
[1,3]
(.seq (sR [oC 4 0]
[1,3,4]
(.block 0
(.loop [1,3,4] [1,2,3,24]
 (.seq (sR [oM 8 4,oF 9 1 3,oL 10 9,oZ 11 10,oB 12 .lss 8 11]
[1,3,4,12]
(cT 12
.skip x0z))
(.seq (.block 1
(.dregT [oF 15 3 1,oL 16 15,oF 17 1 3,oL 18 17,oM 19 4,oI 20 5 18 19,oF 21 20 1,oN 22 21 4,op 23 (.mkrow 48 4 1 (.agg [iv 0,iv 0,.str [],.bool false]) [(0,.t 22)]),op 24 (.app 48 4 40 (.t 16) (.t 23)),oF 25 3 1,oS 25 24 1]
[8,9,11] [[],[],[],[],[],[],[],[],[],[8],[8,9],[8,9]] [[9,11],[9,11],[8,9,11],[8,9,11],[8,9,11],[8,9,11],[8,9,11],[8,9,11],[],[],[11],[]] [0,1,2,3,4,5,6,7]
(.next 8 [] [0,1] (.next 9 [10] [] (.next 11 [] [] .fin .nil) .nil) .nil)
[1,3,4,15,16,17,18,19,20,21,22,23,24,25] [1,3,4]))
(.reg [oM 13 4,oK 14 .add 13 1,oM 4 14]
[1,3,4]))))))
(sR [oN 26 3 2,op 27 (.mkrow 178 2 1 (.agg [iv 0,.nils]) [(0,.t 26)]),oM 2 27]
[2]
.ret))))⟩
abbrev pp15:=pcR 32 cp17 Tryz.func32
def cp39:AFun:=⟨56,3,[.t 6,.t 7],
 (sR [ob__ 3 30 9 0,op 6 (.nilrow 178 2),oC 7 0]
[1,2,3]
(sR [op 8 (.nilrow 178 2)]
[1,2,3,8]
(sR [oC 9 0]
[1,2,3,8,9]
(.seq (sR [oC 10 0]
[1,2,3,8,9,10]
(.block 0
(.loop [1,2,3,8,9,10] [3,6,8]
 (.seq (sR [oM 14 10,oM 15 1,oZ 16 15,oB 17 .lss 14 16]
[1,2,3,8,9,10,17]
(cT 17
.skip x0z))
(.seq (.block 1
(.seq (.dreg [oN 21 3 9,oM 22 1,oM 23 10,oI 24 2 22 23,oN 25 24 2,oM 26 2,oc 27 218 [.t 21,.t 25,.t 26],oM 20 27,oE 28 20 0,oE 29 20 1,oM 11 28,oM 12 29]
[1,2,3,8,9,10,11,12])
(sR [oM 30 9,oM 31 12,oc 32 219 [.t 30,.t 31],oM 9 32]
[1,2,3,8,9,10,11]
(sR [oC 13 0]
[1,2,3,8,9,10,11,13]
(.block 2
(.loop [1,2,3,8,9,10,11,13] [3,6,8,16,27,32]
 (.seq (sR [oM 33 13,oM 34 11,oZ 35 34,oB 36 .lss 33 35]
[1,2,3,8,9,10,11,13,36]
(cT 36
.skip x2z))
(.seq (.block 3
(.reg [oM 39 8,oM 40 11,oM 41 13,oI 42 2 40 41,oN 43 42 2,oc 44 220 [.t 39,.t 43],oM 8 44]
[1,2,3,8,9,10,11,13]))
(.reg [oM 37 13,oK 38 .add 37 1,oM 13 38]
[1,2,3,8,9,10,11,13])))))))))
(.reg [oM 18 10,oK 19 .add 18 1,oM 10 19]
[1,2,3,8,9,10]))))))
(.seq (sR [oM 45 9,oK 46 .eql 45 0,oM 47 46,qM 48 8 47 true,oG 49 (.len false (.t 48)) 47 true,qK 50 .gtr 49 256 47 true,oA 51 47 50]
[8,9,51]
(cT 51
(.reg [oC 9 14]
[8,9])
.skip))
(.seq (sR [oM 52 9,oK 53 .neq 52 0]
[8,9,53]
(cT 53
(sR [oM 54 9,op 6 (.nilrow 178 2),oM 7 54]
[6,7]
.ret)
.skip))
(sR [oM 55 8,oM 6 55,oC 7 0]
[6,7]
.ret)))))))⟩
abbrev pp37:=pcR 144 cp39 Tryz.func144
def cpE_:AFun:=⟨26,4,[.t 8,.t 9],
 (sR [ob__ 4 30 9 0,ob__ 7 45 2 3,op 8 (.nilrow 178 2),oC 9 0]
[1,2,4,7]
(sR [oN 11 4 9,oN 12 7 2,oc 13 72 [.t 11,.t 12],oM 14 1,oc 15 143 [.t 13,.t 14],oM 10 15]
[2,4,10]
(.seq (sR [oM 16 10,oZ 17 16,oK 18 .eql 17 0]
[2,4,10,18]
(cT 18
(sR [oM 19 2,oM 8 19,oC 9 0]
[8,9]
.ret)
.skip))
(sR [oN 20 4 9,oM 21 2,oM 22 10,oc 23 144 [.t 20,.t 21,.t 22],oE 24 23 0,oE 25 23 1,oM 8 24,oM 9 25]
[8,9]
.ret))))⟩
abbrev ppE_:=pcR 70 cpE_ Tryz.func70
def cp38:AFun:=⟨89,3,[.t 6,.t 7],
 (sR [ob__ 3 30 9 0,ob__ 4 178 2 1,op 6 (.nilrow 178 2),oC 7 0]
[2,3,4]
(sR [op 8 (.nilrow 178 2)]
[2,3,4,8]
(sR [oC 9 0]
[2,3,4,8,9]
(.seq (sR [oC 10 0]
[2,3,4,8,9,10]
(.block 0
(.loop [2,3,4,8,9,10] [3,4,6,8]
 (.seq (sR [oM 15 10,oF 16 3 8,oL 17 16,oZ 18 17,oB 19 .lss 15 18]
[2,3,4,8,9,10,19]
(cT 19
.skip x0z))
(.seq (.block 1
(.seq (.seq (.dreg [oF 22 3 8,oL 23 22,oM 24 10,oI 25 5 23 24,oF 26 25 0,oL 27 26,oF 28 4 0,oL 29 28,oB 30 .neq 27 29]
[2,3,4,8,9,10,30])
(cT 30 x1z
.skip))
(sR [oC 11 0]
[2,3,4,8,9,10,11]
(.block 2
(.loop [2,3,4,8,9,10,11] [3,4,6,8,18]
 (.seq (sR [oM 31 11,oM 32 2,oZ 33 32,oB 34 .lss 31 33]
[2,3,4,8,9,10,11,34]
(cT 34
.skip x2z))
(.seq (.block 3
(.seq (.seq (.dreg [oM 37 2,oM 38 11,oI 39 3 37 38,oF 40 39 0,oL 41 40,oF 42 3 8,oL 43 42,oM 44 10,oI 45 5 43 44,oF 46 45 1,oL 47 46,oB 48 .neq 41 47]
[2,3,4,8,9,10,11,48])
(cT 48
(.exit 3)
.skip))
(.seq (.dregT [oN 50 3 9,oM 51 10,oN 52 4 2,oM 53 2,oM 54 11,oI 55 3 53 54,oN 56 55 3,oc 57 262 [.t 50,.t 51,.t 52,.t 56],oM 49 57,oE 58 49 0,oE 59 49 1,oE 60 49 2,oa 12 178 2 (.agg [iv 0,.nils]),oS 12 58 2,oM 13 59,oM 14 60]
[12,13] [[],[],[],[],[],[],[],[],[],[],[],[],[],[12],[12,13],[12,13]] [[13],[13],[13],[13],[13],[13],[13],[13],[13],[13],[],[],[],[],[],[]] [0,1,2,3,4,5,6,7,8,9,10,11]
(.next 12 [] [0,1,2,3,4,5,6,7,8,9,10,11] (.next 13 [14,15] [10,11] .fin .nil) .nil)
[2,3,4,8,9,10,11,12,13,14,49,50,51,52,53,54,55,56,57,58,59,60] [2,3,4,8,9,10,11,12,13,14])
(sR [oM 61 9,oM 62 14,oc 63 219 [.t 61,.t 62],oM 9 63]
[2,3,4,8,9,10,11,12,13]
(sR [oM 64 13]
[2,3,4,8,9,10,11,12,64]
(cT 64
(.reg [oM 65 8,oN 66 12 2,oc 67 220 [.t 65,.t 66],oM 8 67]
[2,3,4,8,9,10,11])
.skip))))))
(.reg [oM 35 11,oK 36 .add 35 1,oM 11 36]
[2,3,4,8,9,10,11]))))))))
(.reg [oM 20 10,oK 21 .add 20 1,oM 10 21]
[2,3,4,8,9,10]))))))
(.seq (sR [oM 68 9,oK 69 .neq 68 0]
[3,4,8,9,69]
(cT 69
(sR [oM 70 9,op 6 (.nilrow 178 2),oM 7 70]
[6,7]
.ret)
.skip))
(.seq (sR [oM 71 8,oZ 72 71,oK 73 .eql 72 0,oM 74 73,qF 75 3 4 74 true,qL 76 75 74 true,qF 77 4 0 74 true,qL 78 77 74 true,qI 79 3 76 78 74 true,qF 80 79 1 74 true,qL 81 80 74 true,oG 82 (.un .not (.t 81)) 74 true,oA 83 74 82]
[4,8,83]
(cT 83
(.reg [oM 84 8,oN 85 4 2,op 86 (.mkrow 178 2 1 (.agg [iv 0,.nils]) [(0,.t 85)]),op 87 (.app 178 2 32 (.t 84) (.t 86)),oM 8 87]
[8])
.skip))
(sR [oM 88 8,oM 6 88,oC 7 0]
[6,7]
.ret)))))))⟩
abbrev pp36:=pcR 218 cp38 Tryz.func218
def cp16:AFun:=⟨38,4,[.t 8,.t 9,.t 10],
 (sR [ob__ 4 30 9 0,op 8 (.nilrow 178 2),oC 9 0,oC 10 0]
[1,2,3,4]
(.seq (sR [oC 11 0]
[1,2,3,4,11]
(.block 0
(.loop [1,2,3,4,11] [4,8]
 (.seq (sR [oM 14 11,oM 15 3,oZ 16 15,oB 17 .lss 14 16]
[1,2,3,4,11,17]
(cT 17
.skip x0z))
(.seq (.block 1
(.seq (.dreg [oN 21 4 9,oM 22 1,oM 23 2,oM 24 3,oM 25 11,oI 26 2 24 25,oN 27 26 2,oc 28 70 [.t 21,.t 22,.t 23,.t 27],oM 20 28,oE 29 20 0,oE 30 20 1,oM 12 29,oM 13 30]
[1,3,4,11,12,13])
(.seq (sR [oM 31 13,oK 32 .neq 31 0]
[1,3,4,11,12,13,32]
(cT 32
(sR [oM 33 13,oM 34 11,oK 35 .add 34 1,op 8 (.nilrow 178 2),oM 9 33,oM 10 35]
[8,9,10]
.ret)
.skip))
(.reg [oM 36 12,oM 2 36]
[1,2,3,4,11]))))
(.reg [oM 18 11,oK 19 .add 18 1,oM 11 19]
[1,2,3,4,11]))))))
(sR [oM 37 2,oM 8 37,oC 9 0,oC 10 0]
[8,9,10]
.ret)))⟩
abbrev pp14:=pcR 31 cp16 Tryz.func31
def cpf_:AFun:=⟨58,4,[.cells 8 2,.t 9,.t 10],
 (sR [ob__ 4 30 9 0,ob__ 6 178 2 2,ob__ 7 185 3 3,oa 8 178 2 (.agg [iv 0,.nils]),oV 9 false,oC 10 0]
[1,4,6,7,8]
(sR [oF 15 6 1,oL 16 15,oF 17 7 2,oL 18 17,oc 19 281 [.t 16,.t 18],oM 11 19]
[1,4,7,8,11]
(sR [oN 21 4 9,oM 22 1,oF 23 7 1,oL 24 23,oM 25 11,oc 26 282 [.t 21,.t 22,.t 24,.t 25],oM 20 26,oE 27 20 0,oE 28 20 1,oM 12 27,oM 13 28]
[1,4,7,8,11,12,13]
(.seq (sR [oM 29 13,oK 30 .neq 29 0,oM 31 30,qM 32 12 31 false,oG 33 (.un .not (.t 32)) 31 false,oO 34 31 33]
[1,4,7,8,11,13,34]
(cT 34
(sR [op 35 (.build [iv 0,.nils] []),oM 36 13,oS 8 35 2,oV 9 false,oM 10 36]
[8,9,10]
.ret)
.skip))
(sR [oN 38 4 9,oM 39 1,oF 40 7 1,oL 41 40,oM 42 11,oc 43 283 [.t 38,.t 39,.t 41,.t 42],oM 37 43,oE 44 37 0,oE 45 37 1,oM 14 44,oM 13 45]
[1,4,8,13,14]
(.seq (sR [oM 46 13,oK 47 .neq 46 0]
[1,4,8,13,14,47]
(cT 47
(sR [op 48 (.build [iv 0,.nils] []),oM 49 13,oS 8 48 2,oV 9 false,oM 10 49]
[8,9,10]
.ret)
.skip))
(sR [oF 50 4 8,oL 51 50,oM 52 1,oI 53 5 51 52,oF 54 53 2,oL 55 54,oM 56 14,op 57 (.build [iv 0,.nils] [(0,1,.t 55),(1,1,.t 56)]),oS 8 57 2,oV 9 true,oC 10 0]
[8,9,10]
.ret)))))))⟩
abbrev ppf_:=pcR 262 cpf_ Tryz.func262
def cp31:AFun:=⟨29,2,[.t 4],
 (sR [op 4 (.nilrow 48 4)]
[0,1]
(sR [op 7 (.mkrow 48 4 0 (.agg [iv 0,iv 0,.str [],.bool false]) []),oM 8 0,op 9 (.app 48 4 40 (.t 7) (.t 8)),oM 5 9]
[1,5]
(.seq (sR [oC 6 0]
[1,5,6]
(.block 0
(.loop [1,5,6] [4,7,9]
 (.seq (sR [oM 10 6,oM 11 1,oZ 12 11,oB 13 .lss 10 12]
[1,5,6,13]
(cT 13
.skip x0z))
(.seq (.block 1
(.dreg [oM 16 5,oM 17 1,oM 18 6,oI 19 5 17 18,oF 20 19 0,oL 21 20,oM 22 1,oM 23 6,oI 24 5 22 23,oF 25 24 1,oN 26 25 4,oI 27 4 16 21,oS 27 26 4]
[1,5,6]))
(.reg [oM 14 6,oK 15 .add 14 1,oM 6 15]
[1,5,6]))))))
(sR [oM 28 5,oM 4 28]
[4]
.ret))))⟩
abbrev pp29:=pcR 281 cp31 Tryz.func281
def cpw_:AFun:=⟨18,2,[.t 4],
 (sR [oC 4 0]
[0,1]
(.seq (sR [oM 5 0,oK 6 .eql 5 0,oM 7 6,qM 8 1 7 false,qK 9 .neq 8 0 7 false,qM 10 9 7 false,qM 11 1 10 true,qM 12 0 10 true,qB 13 .lss 11 12 10 true,qA 14 10 13 7 false,oO 15 7 14]
[0,1,15]
(cT 15
(sR [oM 16 1,oM 4 16]
[4]
.ret)
.skip))
(sR [oM 17 0,oM 4 17]
[4]
.ret)))⟩
abbrev ppw_:=pcR 219 cpw_ Tryz.func219
def csC_:AFun:=⟨22,1,[.t 2,.t 3],
 (sR [oC 2 0,oC 3 0]
[0]
(.seq (sR [oM 6 0,oZ 7 6,oK 8 .gtr 7 32]
[0,8]
(cT 8
(sR [oC 2 32,oC 3 14]
[2,3]
.ret)
.skip))
(.seq (sR [oM 9 0,oZ 10 9,oC 11 0]
[0,10,11]
(.block 0
(.loop [0,10,11] [7,10]
 (sR [oB 12 .lss 11 10]
[0,10,11,12]
(.seq (cT 12
.skip x0z)
(.seq (.block 1
(sR [oM 13 11,oM 4 13]
[0,4,10,11]
(sR [oM 14 0,oM 15 4,oc 16 225 [.t 14,.t 15],oM 5 16]
[0,4,5,10,11]
(sR [oM 17 5,oK 18 .neq 17 0]
[0,4,5,10,11,18]
(cT 18
(sR [oM 19 4,oM 20 5,oM 2 19,oM 3 20]
[2,3]
.ret)
.skip)))))
(.reg [oK 21 .add 11 1,oM 11 21]
[0,10,11])))))))
(sR [op 2 (.mov (.k (iv (-1)))),oC 3 0]
[2,3]
.ret))))⟩
abbrev psC_:=pcR 148 csC_ Tryz.func148
def csF_:AFun:=⟨14,2,[.t 4,.t 5],
 (sR [ob__ 3 9 1 1,oC 4 0,oV 5 false]
[0,3]
(sR [oM 7 0,op 8 (.mkfn 285 [.t 3]),oc 9 284 [.t 7,.t 8],oM 6 9]
[6]
(sR [oM 10 6,op 11 (.mx false (.t 10) (.k (iv 0))),oM 12 6,oK 13 .geq 12 0,oM 4 11,oM 5 13]
[4,5]
.ret)))⟩
abbrev psF_:=pcR 265 csF_ Tryz.func265
def csF1z:AFun:=⟨8,2,[.t 3],
 (sR [ob__ 2 42 2 0,oV 3 false]
[1,2]
(sR [oF 4 2 0,oL 5 4,oL 6 1,oB 7 .eql 5 6,oM 3 7]
[3]
.ret))⟩
abbrev psF1z:=pcR 285 csF1z Tryz.func285
def csN_:AFun:=⟨14,1,[.t 2],
 (sR [oV 2 false]
[0]
(sR [oM 3 0,oc 4 226 [.t 3],oM 5 4,qM 6 0 5 true,oG 7 (.call 227 [.t 6]) 5 true,oG 8 (.un .not (.t 7)) 5 true,oA 9 5 8,oM 10 9,qM 11 0 10 true,oG 12 (.bin .neq (.t 11) (.k (.str [95]))) 10 true,oA 13 10 12,oM 2 13]
[2]
.ret))⟩
abbrev psN_:=pcR 149 csN_ Tryz.func149
def csS_:AFun:=⟨25,1,[.t 2],
 (sR [oV 2 false]
[0]
(.seq (sR [oM 4 0,op 5 (.bin .eql (.t 4) (.k (.str []))),oM 6 5,qM 7 0 6 false,oG 8 (.len true (.t 7)) 6 false,qK 9 .gtr 8 32 6 false,oO 10 6 9,oM 11 10,qM 12 0 11 false,oG 13 (.idx (.t 12) (.k (iv 0))) 11 false,oG 14 (.bin .geq (.t 13) (.k (.int .u8 48))) 11 false,qM 15 14 11 false,qM 16 0 15 true,oG 17 (.idx (.t 16) (.k (iv 0))) 15 true,oG 18 (.bin .leq (.t 17) (.k (.int .u8 57))) 15 true,qA 19 15 18 11 false,oO 20 11 19]
[0,20]
(cT 20
(sR [oV 2 false]
[2]
.ret)
.skip))
(sR [op 3 (.mov (.f 267))]
[0,3]
(sR [oM 21 0,oM 22 3,oc 23 268 [.t 21,.t 22],oK 24 .lss 23 0,oM 2 24]
[2]
.ret))))⟩
abbrev psS_:=pcR 226 csS_ Tryz.func226
def csS1z:AFun:=⟨29,1,[.t 2],
 (sR [oV 2 false]
[0]
(sR [oM 3 0,op 4 (.bin .neq (.t 3) (.k (.int .i32 95))),oM 5 4,qM 6 0 5 true,oG 7 (.bin .lss (.t 6) (.k (.int .i32 48))) 5 true,qM 8 7 5 true,qM 9 0 8 false,oG 10 (.bin .gtr (.t 9) (.k (.int .i32 57))) 8 false,qO 11 8 10 5 true,oA 12 5 11,oM 13 12,qM 14 0 13 true,oG 15 (.bin .lss (.t 14) (.k (.int .i32 65))) 13 true,qM 16 15 13 true,qM 17 0 16 false,oG 18 (.bin .gtr (.t 17) (.k (.int .i32 90))) 16 false,qO 19 16 18 13 true,oA 20 13 19,oM 21 20,qM 22 0 21 true,oG 23 (.bin .lss (.t 22) (.k (.int .i32 97))) 21 true,qM 24 23 21 true,qM 25 0 24 false,oG 26 (.bin .gtr (.t 25) (.k (.int .i32 122))) 24 false,qO 27 24 26 21 true,oA 28 21 27,oM 2 28]
[2]
.ret))⟩
abbrev psS1z:=pcR 267 csS1z Tryz.func267
def csW_:AFun:=⟨10,1,[.t 2],
 (sR [oV 2 false]
[0]
(sR [oM 3 0,oc 4 226 [.t 3],oM 5 4,oG 6 (.slcG 22 (.g 1)) 5 true,qM 7 0 5 true,oG 8 (.call 18 [.t 6,.t 7]) 5 true,oA 9 5 8,oM 2 9]
[2]
.ret))⟩
abbrev psW_:=pcR 227 csW_ Tryz.func227
def cso_:AFun:=⟨37,2,[.t 4],
 (sR [oC 4 0]
[0,1]
(sR [oM 8 0,oM 9 1,oI 10 2 8 9,oN 11 10 2,oa 5 42 2 (.agg [.str [],.nils]),oS 5 11 2]
[0,1,5]
(sR [oM 13 0,oF 14 5 0,oL 15 14,oc 16 265 [.t 13,.t 15],oM 12 16,oE 17 12 0,oE 18 12 1,oM 6 17,oM 7 18]
[1,5,6]
(.seq (.block 0
(sR [oF 20 5 0,oL 21 20,oc 22 149 [.t 21],oU 23 22,oM 19 23]
[1,5,6,19]
(cT 19
(sR [oC 4 11]
[4]
.ret)
(sR [oM 25 6,oM 26 1,oB 27 .lss 25 26,oM 24 27]
[5,24]
(cT 24
(sR [oC 4 10]
[4]
.ret)
(sR [oF 29 5 1,oL 30 29,oZ 31 30,oK 32 .gtr 31 8,oM 28 32]
[5,28]
(cT 28
(sR [oC 4 14]
[4]
.ret)
(sR [oF 34 5 1,oL 35 34,oc 36 183 [.t 35,.f 266],oM 33 36]
[33]
(cT 33
(sR [oC 4 8]
[4]
.ret)
.skip)))))))))
(sR [oC 4 0]
[4]
.ret)))))⟩
abbrev pso_:=pcR 225 cso_ Tryz.func225
def cso1z:AFun:=⟨6,1,[.t 2],
 (sR [oV 2 false]
[0]
(sR [oM 3 0,oc 4 153 [.t 3],op 5 (.bin .eql (.t 4) (.k (.str []))),oM 2 5]
[2]
.ret))⟩
abbrev pso1z:=pcR 266 cso1z Tryz.func266
def cvB_:AFun:=⟨5,1,[.cells 2 4],
 (sR [oa 2 48 4 (.agg [iv 0,iv 0,.str [],.bool false])]
[0,2]
(sR [oM 3 0,op 4 (.build [iv 0,iv 0,.str [],.bool false] [(0,1,.k (iv 3)),(3,1,.t 3)]),oS 2 4 4]
[2]
.ret))⟩
abbrev pvB_:=pcR 191 cvB_ Tryz.func191
def cvI_:AFun:=⟨5,1,[.cells 2 4],
 (sR [oa 2 48 4 (.agg [iv 0,iv 0,.str [],.bool false])]
[0,2]
(sR [oM 3 0,op 4 (.build [iv 0,iv 0,.str [],.bool false] [(0,1,.k (iv 1)),(1,1,.t 3)]),oS 2 4 4]
[2]
.ret))⟩
abbrev pvI_:=pcR 189 cvI_ Tryz.func189
def cvN_:AFun:=⟨10,1,[.t 2],
 (sR [op 2 (.mov (.k (.str [])))]
[0]
(.seq (sR [oM 3 0]
[3]
(.block 0
(sR [oK 5 .eql 3 1,oM 4 5]
[3,4]
(cT 4
(sR [op 2 (.mov (.k (.str [105,110,116])))]
[2]
.ret)
(sR [oK 7 .eql 3 2,oM 6 7]
[3,6]
(cT 6
(sR [op 2 (.mov (.k (.str [115,116,114,105,110,103])))]
[2]
.ret)
(sR [oK 9 .eql 3 3,oM 8 9]
[8]
(cT 8
(sR [op 2 (.mov (.k (.str [98,111,111,108])))]
[2]
.ret)
.skip))))))))
(sR [op 2 (.mov (.k (.str [])))]
[2]
.ret)))⟩
abbrev pvN_:=pcR 153 cvN_ Tryz.func153
def cvR_:AFun:=⟨32,1,[.t 2],
 (sR [ob__ 1 48 4 0,oV 2 false]
[1]
(.seq (sR [oF 3 1 0,oL 4 3]
[1,4]
(.block 0
(sR [oK 6 .eql 4 1,oM 5 6]
[1,4,5]
(cT 5
(.seq (.dreg [oN 7 1 4,oF 8 1 1,oL 9 8,oc 10 189 [.t 9],op 11 (.eqA false [0,0,1,2] (.t 7) (.t 10)),oM 2 11]
[2])
.ret)
(sR [oK 13 .eql 4 2,oM 12 13]
[1,4,12]
(cT 12
(.seq (.dreg [oN 14 1 4,oF 15 1 2,oL 16 15,oc 17 190 [.t 16],op 18 (.eqA false [0,0,1,2] (.t 14) (.t 17)),oM 19 18,qF 20 1 2 19 true,qL 21 20 19 true,oG 22 (.len true (.t 21)) 19 true,qK 23 .leq 22 4096 19 true,oA 24 19 23,oM 2 24]
[2])
.ret)
(sR [oK 26 .eql 4 3,oM 25 26]
[1,25]
(cT 25
(.seq (.dreg [oN 27 1 4,oF 28 1 3,oL 29 28,oc 30 191 [.t 29],op 31 (.eqA false [0,0,1,2] (.t 27) (.t 30)),oM 2 31]
[2])
.ret)
.skip))))))))
(sR [oV 2 false]
[2]
.ret)))⟩
abbrev pvR_:=pcR 103 cvR_ Tryz.func103
def cvS_:AFun:=⟨5,1,[.cells 2 4],
 (sR [oa 2 48 4 (.agg [iv 0,iv 0,.str [],.bool false])]
[0,2]
(sR [oM 3 0,op 4 (.build [iv 0,iv 0,.str [],.bool false] [(0,1,.k (iv 2)),(2,1,.t 3)]),oS 2 4 4]
[2]
.ret))⟩
abbrev pvS_:=pcR 190 cvS_ Tryz.func190
def cvT_:AFun:=⟨81,3,[.t 6],
 (sR [oC 6 0]
[0,1,2]
(.seq (sR [oM 7 0]
[1,2,7]
(.block 0
(.seq (.block 7
(.seq (.block 6
(.seq (.block 5
(.seq (.block 4
(.seq (.block 3
(.seq (.block 2
(.seq (.block 1
(.seq (.seq (sR [oK 9 .eql 7 4,oM 8 9]
[1,2,7,8]
(cT 8 x1z
.skip))
(.seq (.seq (sR [oK 11 .eql 7 6,oM 10 11]
[1,2,7,10]
(cT 10
.skip
(.reg [oK 12 .eql 7 7,oM 10 12]
[1,2,7,10])))
(cT 10 x2z
.skip))
(.seq (sR [oK 14 .eql 7 5,oM 13 14]
[1,2,7,13]
(cT 13
(.exit 3)
.skip))
(.seq (.seq (sR [oK 16 .eql 7 9,oM 15 16]
[1,2,7,15]
(cT 15
.skip
(sR [oK 17 .eql 7 10,oM 15 17]
[1,2,7,15]
(cT 15
.skip
(sR [oK 18 .eql 7 11,oM 15 18]
[1,2,7,15]
(cT 15
.skip
(.reg [oK 19 .eql 7 12,oM 15 19]
[1,2,7,15])))))))
(cT 15
(.exit 4)
.skip))
(.seq (sR [oK 21 .eql 7 8,oM 20 21]
[1,2,7,20]
(cT 20
(.exit 5)
.skip))
(.seq (.seq (sR [oK 23 .eql 7 13,oM 22 23]
[1,2,7,22]
(cT 22
.skip
(.reg [oK 24 .eql 7 14,oM 22 24]
[1,2,7,22])))
(cT 22
(.exit 6)
.skip))
(.seq (sR [oK 26 .eql 7 15,oM 25 26]
[1,2,7,25]
(cT 25
.skip
(.reg [oK 27 .eql 7 16,oM 25 27]
[1,2,25])))
(cT 25
(.exit 7)
.skip)))))))) x0z))
(.reg [oM 28 1,oM 2 28]
[1,2])))
(.seq (sR [oM 29 1,oK 30 .eql 29 3,oM 31 30,qM 32 2 31 true,qM 33 1 31 true,qB 34 .eql 32 33 31 true,oA 35 31 34,oc 36 269 [.t 35,.k (iv 3)],oM 6 36]
[6]
.ret) x0z)))
(.reg [oM 37 1,oM 2 37]
[1,2])))
(.seq (sR [oM 38 1,oK 39 .eql 38 1,oM 40 39,qM 41 2 40 true,qM 42 1 40 true,qB 43 .eql 41 42 40 true,oA 44 40 43,oM 45 1,oc 46 269 [.t 44,.t 45],oM 6 46]
[6]
.ret) x0z)))
(.seq (sR [oM 47 1,oK 48 .eql 47 1,oM 49 48,qM 50 1 49 false,qK 51 .eql 50 2 49 false,oO 52 49 51,oM 53 52,qM 54 2 53 true,qM 55 1 53 true,qB 56 .eql 54 55 53 true,oA 57 53 56,oM 58 1,oc 59 269 [.t 57,.t 58],oM 6 59]
[6]
.ret) x0z)))
(.seq (sR [oM 60 1,oc 61 153 [.t 60],op 62 (.bin .neq (.t 61) (.k (.str []))),oM 63 62,qM 64 2 63 true,qM 65 1 63 true,qB 66 .eql 64 65 63 true,oA 67 63 66,oc 68 269 [.t 67,.k (iv 3)],oM 6 68]
[6]
.ret) x0z)))
(.seq (sR [oM 69 1,oK 70 .eql 69 1,oM 71 70,qM 72 1 71 false,qK 73 .eql 72 2 71 false,oO 74 71 73,oM 75 74,qM 76 2 75 true,qM 77 1 75 true,qB 78 .eql 76 77 75 true,oA 79 75 78,oc 80 269 [.t 79,.k (iv 3)],oM 6 80]
[6]
.ret) x0z))))
(sR [oC 6 0]
[6]
.ret)))⟩
abbrev pvT_:=pcR 231 cvT_ Tryz.func231
def cvw_:AFun:=⟨8,2,[.t 4],
 (sR [oC 4 0]
[0,1]
(.seq (sR [oM 5 0,oU 6 5]
[1,6]
(cT 6
(sR [oC 4 0]
[4]
.ret)
.skip))
(sR [oM 7 1,oM 4 7]
[4]
.ret)))⟩
abbrev pvw_:=pcR 269 cvw_ Tryz.func269
def csCii_:AFun:=⟨9,2,[.t 4],
 (sR [oV 4 false]
[0,1]
(sR [oM 5 0,oM 6 1,oc 7 214 [.t 5,.t 6],oK 8 .geq 7 0,oM 4 8]
[4]
.ret))⟩
abbrev psCii_:=pcR 167 csCii_ Tryz.func167
def csCaAaA_:AFun:=⟨9,2,[.t 4],
 (sR [ob__ 3 108 6 1,oV 4 false]
[0,3]
(sR [oM 5 0,oN 6 3 6,oc 7 270 [.t 5,.t 6],oK 8 .geq 7 0,oM 4 8]
[4]
.ret))⟩
abbrev psCaAaA_:=pcR 233 csCaAaA_ Tryz.func233
def csCss_:AFun:=⟨9,2,[.t 4],
 (sR [oV 4 false]
[0,1]
(sR [oM 5 0,oM 6 1,oc 7 51 [.t 5,.t 6],oK 8 .geq 7 0,oM 4 8]
[4]
.ret))⟩
abbrev psCss_:=pcR 18 csCss_ Tryz.func18
def csEaAiaAi_:AFun:=⟨32,3,[.t 6],
 (sR [oV 6 false]
[0,1,2]
(.seq (sR [oM 10 0,oZ 11 10,oM 12 1,oZ 13 12,oB 14 .neq 11 13]
[0,1,2,14]
(cT 14
(sR [oV 6 false]
[6]
.ret)
.skip))
(.seq (sR [oM 15 0,oZ 16 15,oC 17 0]
[1,2,15,16,17]
(.block 0
(.loop [1,2,15,16,17] [11,13,16]
 (sR [oB 18 .lss 17 16]
[1,2,15,16,17,18]
(.seq (cT 18
.skip x0z)
(.seq (.block 1
(sR [oM 19 17,oI 20 6 15 17,oN 21 20 6,oa 8 108 6 (.agg [iv 0,iv 0,iv 0,iv 0,.str [],.bool false]),oM 7 19,oS 8 21 6]
[1,2,7,8,15,16,17]
(sR [oM 22 1,oM 23 7,oI 24 1 22 23,oL 25 24,oM 9 25]
[1,2,8,9,15,16,17]
(sR [oM 26 2,oN 27 8 6,oM 28 9,op 29 (.callv (.t 26) [.t 27,.t 28]),oU 30 29]
[1,2,15,16,17,30]
(cT 30
(sR [oV 6 false]
[6]
.ret)
.skip)))))
(.reg [oK 31 .add 17 1,oM 17 31]
[1,2,15,16,17])))))))
(sR [oV 6 true]
[6]
.ret))))⟩
abbrev psEaAiaAi_:=pcR 234 csEaAiaAi_ Tryz.func234
def csEaAaA_:AFun:=⟨26,2,[.t 4],
 (sR [oV 4 false]
[0,1]
(.seq (sR [oM 6 0,oZ 7 6,oM 8 1,oZ 9 8,oB 10 .neq 7 9]
[0,1,10]
(cT 10
(sR [oV 4 false]
[4]
.ret)
.skip))
(.seq (sR [oM 11 0,oZ 12 11,oC 13 0]
[0,1,12,13]
(.block 0
(.loop [0,1,12,13] [7,9,12]
 (sR [oB 14 .lss 13 12]
[0,1,12,13,14]
(.seq (cT 14
.skip x0z)
(.seq (.block 1
(sR [oM 15 13,oM 5 15]
[0,1,5,12,13]
(.seq (.dreg [oM 16 0,oM 17 5,oI 18 6 16 17,oN 19 18 6,oM 20 1,oM 21 5,oI 22 6 20 21,oN 23 22 6,op 24 (.eqA true [0,0,0,0,1,2] (.t 19) (.t 23))]
[0,1,12,13,24])
(cT 24
(sR [oV 4 false]
[4]
.ret)
.skip))))
(.reg [oK 25 .add 13 1,oM 13 25]
[0,1,12,13])))))))
(sR [oV 4 true]
[4]
.ret))))⟩
abbrev psEaAaA_:=pcR 210 csEaAaA_ Tryz.func210
def csIii_:AFun:=⟨19,2,[.t 4],
 (sR [oC 4 0]
[0,1]
(.seq (sR [oM 6 0,oZ 7 6,oC 8 0]
[0,1,7,8]
(.block 0
(.loop [0,1,7,8] [7]
 (sR [oB 9 .lss 8 7]
[0,1,7,8,9]
(.seq (cT 9
.skip x0z)
(.seq (.block 1
(sR [oM 10 8,oM 5 10]
[0,1,5,7,8]
(sR [oM 11 1,oM 12 0,oM 13 5,oI 14 1 12 13,oL 15 14,op 16 (.callv (.t 11) [.t 15])]
[0,1,5,7,8,16]
(cT 16
(sR [oM 17 5,oM 4 17]
[4]
.ret)
.skip))))
(.reg [oK 18 .add 8 1,oM 8 18]
[0,1,7,8])))))))
(sR [op 4 (.mov (.k (iv (-1))))]
[4]
.ret)))⟩
abbrev psIii_:=pcR 249 csIii_ Tryz.func249
def cs10:AFun:=⟨19,2,[.t 4],
 (sR [oC 4 0]
[0,1]
(.seq (sR [oM 6 0,oZ 7 6,oC 8 0]
[0,1,7,8]
(.block 0
(.loop [0,1,7,8] [7]
 (sR [oB 9 .lss 8 7]
[0,1,7,8,9]
(.seq (cT 9
.skip x0z)
(.seq (.block 1
(sR [oM 10 8,oM 5 10]
[0,1,5,7,8]
(sR [oM 11 1,oM 12 0,oM 13 5,oI 14 1 12 13,oL 15 14,oB 16 .eql 11 15]
[0,1,5,7,8,16]
(cT 16
(sR [oM 17 5,oM 4 17]
[4]
.ret)
.skip))))
(.reg [oK 18 .add 8 1,oM 8 18]
[0,1,7,8])))))))
(sR [op 4 (.mov (.k (iv (-1))))]
[4]
.ret)))⟩
abbrev ps10:=pcR 214 cs10 Tryz.func214
def csIaAaA_:AFun:=⟨19,2,[.t 4],
 (sR [ob__ 3 108 6 1,oC 4 0]
[0,3]
(.seq (sR [oM 6 0,oZ 7 6,oC 8 0]
[0,3,7,8]
(.block 0
(.loop [0,3,7,8] [3,7]
 (sR [oB 9 .lss 8 7]
[0,3,7,8,9]
(.seq (cT 9
.skip x0z)
(.seq (.block 1
(sR [oM 10 8,oM 5 10]
[0,3,5,7,8]
(.seq (.dreg [oN 11 3 6,oM 12 0,oM 13 5,oI 14 6 12 13,oN 15 14 6,op 16 (.eqA false [0,0,0,0,1,2] (.t 11) (.t 15))]
[0,3,5,7,8,16])
(cT 16
(sR [oM 17 5,oM 4 17]
[4]
.ret)
.skip))))
(.reg [oK 18 .add 8 1,oM 8 18]
[0,3,7,8])))))))
(sR [op 4 (.mov (.k (iv (-1))))]
[4]
.ret)))⟩
abbrev psIaAaA_:=pcR 270 csIaAaA_ Tryz.func270
def csIss_:AFun:=⟨19,2,[.t 4],
 (sR [oC 4 0]
[0,1]
(.seq (sR [oM 6 0,oZ 7 6,oC 8 0]
[0,1,7,8]
(.block 0
(.loop [0,1,7,8] [7]
 (sR [oB 9 .lss 8 7]
[0,1,7,8,9]
(.seq (cT 9
.skip x0z)
(.seq (.block 1
(sR [oM 10 8,oM 5 10]
[0,1,5,7,8]
(sR [oM 11 1,oM 12 0,oM 13 5,oI 14 1 12 13,oL 15 14,oB 16 .eql 11 15]
[0,1,5,7,8,16]
(cT 16
(sR [oM 17 5,oM 4 17]
[4]
.ret)
.skip))))
(.reg [oK 18 .add 8 1,oM 8 18]
[0,1,7,8])))))))
(sR [op 4 (.mov (.k (iv (-1))))]
[4]
.ret)))⟩
abbrev psIss_:=pcR 51 csIss_ Tryz.func51
def csI_:AFun:=⟨8,2,[.t 4],
 (sR [oC 4 0]
[0,1]
(sR [oM 5 0,oM 6 1,oc 7 286 [.t 5,.t 6,.k (.bool true)],oM 4 7]
[4]
.ret))⟩
abbrev psI_:=pcR 268 csI_ Tryz.func268
def csi_:AFun:=⟨21,3,[.t 6],
 (sR [oC 6 0]
[0,1,2]
(.seq (sR [oM 9 0,op 10 (.rng (.t 9))]
[1,2,10]
(.block 0
(.loop [1,2,10] [10]
 (sR [op 11 (.nxt (.t 10)),oE 12 11 0]
[1,2,10,11,12]
(.seq (cT 12
.skip x0z)
(.block 1
(sR [oE 13 11 1,oE 14 11 2,oM 7 13,oM 8 14]
[1,2,7,8,10]
(sR [oM 15 1,oM 16 8,op 17 (.callv (.t 15) [.t 16]),oM 18 2,op 19 (.eqB false (.t 17) (.t 18))]
[1,2,7,10,19]
(cT 19
(sR [oM 20 7,oM 6 20]
[6]
.ret)
.skip)))))))))
(sR [op 6 (.mov (.k (iv (-1))))]
[6]
.ret)))⟩
abbrev psi_:=pcR 286 csi_ Tryz.func286
