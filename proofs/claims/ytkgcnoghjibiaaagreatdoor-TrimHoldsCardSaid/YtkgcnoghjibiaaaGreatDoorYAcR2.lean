/- Lemmas. -/
import Derived.Test.YtkgcnoghjibiaaaGreatDoorYAcR0
set_option linter.unusedSimpArgs false
namespace Go.Proofs.YtkgcnoghjibiaaaGreatDoor.Ab
open Go
def cpn_:AFun:=⟨11,2,[.cells 4 4,.t 5],
 (sR [oa 4 48 4 (.agg [iv 0,iv 0,.str [],.bool false]),oC 5 0]
[0,1,4]
(.seq (sR [oM 6 1,oU 7 6]
[0,4,7]
(cT 7
(sR [op 8 (.build [iv 0,iv 0,.str [],.bool false] []),oS 4 8 4,oC 5 6]
[4,5]
.ret)
.skip))
(sR [oM 9 0,op 10 (.build [iv 0,iv 0,.str [],.bool false] [(0,1,.k (iv 1)),(1,1,.t 9)]),oS 4 10 4,oC 5 0]
[4,5]
.ret)))⟩
abbrev ppn_:=pcR 289 cpn_ Tryz.func289
def cpt_:AFun:=⟨6,1,[.cells 2 4,.t 3],
 (sR [oa 2 48 4 (.agg [iv 0,iv 0,.str [],.bool false]),oC 3 0]
[0,2]
(sR [oM 4 0,op 5 (.build [iv 0,iv 0,.str [],.bool false] [(0,1,.k (iv 3)),(3,1,.t 4)]),oS 2 5 4,oC 3 0]
[2,3]
.ret))⟩
abbrev ppt_:=pcR 279 cpt_ Tryz.func279
def cp36:AFun:=⟨34,2,[.t 4],
 (sR [oV 4 false]
[0,1]
(.seq (sR [oC 5 0]
[0,1,5]
(.block 0
(.loop [0,1,5] []
 (.seq (sR [oM 8 5,oM 9 0,oZ 10 9,oB 11 .lss 8 10]
[0,1,5,11]
(cT 11
.skip x0z))
(.seq (.block 1
(sR [oM 15 1,oM 16 0,oM 17 5,oI 18 5 16 17,oF 19 18 0,oL 20 19,oc 21 73 [.t 15,.t 20],oM 14 21,oE 22 14 0,oE 23 14 1,oa 6 48 4 (.agg [iv 0,iv 0,.str [],.bool false]),oS 6 22 4,oM 7 23]
[0,1,5,6,7]
(.seq (.dreg [oM 24 7,oM 25 24,qN 26 6 4 25 true,qM 27 0 25 true,qM 28 5 25 true,qI 29 5 27 28 25 true,qF 30 29 1 25 true,qN 31 30 4 25 true,oG 32 (.eqA true [0,0,1,2] (.t 26) (.t 31)) 25 true,oA 33 25 32]
[0,1,5,33])
(cT 33
(sR [oV 4 false]
[4]
.ret)
.skip))))
(.reg [oM 12 5,oK 13 .add 12 1,oM 5 13]
[0,1,5]))))))
(sR [oV 4 true]
[4]
.ret)))⟩
abbrev pp34:=pcR 221 cp36 Tryz.func221
def cp45:AFun:=⟨26,2,[.cells 4 4,.t 5],
 (sR [oa 4 48 4 (.agg [iv 0,iv 0,.str [],.bool false]),oV 5 false]
[0,1,4]
(.seq (sR [oC 6 0]
[0,1,4,6]
(.block 0
(.loop [0,1,4,6] [4]
 (.seq (sR [oM 7 6,oM 8 0,oZ 9 8,oB 10 .lss 7 9]
[0,1,4,6,10]
(cT 10
.skip x0z))
(.seq (.block 1
(sR [oM 13 0,oM 14 6,oI 15 5 13 14,oF 16 15 0,oL 17 16,oM 18 1,oB 19 .eql 17 18]
[0,1,4,6,19]
(cT 19
(sR [oM 20 0,oM 21 6,oI 22 5 20 21,oF 23 22 1,oN 24 23 4,oS 4 24 4,oV 5 true]
[4,5]
.ret)
.skip)))
(.reg [oM 11 6,oK 12 .add 11 1,oM 6 12]
[0,1,4,6]))))))
(sR [op 25 (.build [iv 0,iv 0,.str [],.bool false] []),oS 4 25 4,oV 5 false]
[4,5]
.ret)))⟩
abbrev pp44:=pcR 73 cp45 Tryz.func73
def cp26:AFun:=⟨35,2,[.t 4],
 (sR [oV 4 false]
[0,1]
(.seq (sR [oC 5 0]
[0,1,5]
(.block 0
(.loop [0,1,5] []
 (.seq (sR [oM 8 5,oM 9 0,oZ 10 9,oB 11 .lss 8 10]
[0,1,5,11]
(cT 11
.skip x0z))
(.seq (.block 1
(sR [oM 15 1,oM 16 0,oM 17 5,oI 18 5 16 17,oF 19 18 0,oL 20 19,oc 21 73 [.t 15,.t 20],oM 14 21,oE 22 14 0,oE 23 14 1,oa 6 48 4 (.agg [iv 0,iv 0,.str [],.bool false]),oS 6 22 4,oM 7 23]
[0,1,5,6,7]
(.seq (.dreg [oM 24 7,oU 25 24,oM 26 25,qN 27 6 4 26 false,qM 28 0 26 false,qM 29 5 26 false,qI 30 5 28 29 26 false,qF 31 30 1 26 false,qN 32 31 4 26 false,oG 33 (.eqA true [0,0,1,2] (.t 27) (.t 32)) 26 false,oO 34 26 33]
[0,1,5,34])
(cT 34
(sR [oV 4 false]
[4]
.ret)
.skip))))
(.reg [oM 12 5,oK 13 .add 12 1,oM 5 13]
[0,1,5]))))))
(sR [oV 4 true]
[4]
.ret)))⟩
abbrev pp24:=pcR 217 cp26 Tryz.func217
def cp25:AFun:=⟨42,2,[.t 4],
 (sR [op 4 (.nilrow 174 5)]
[0,1]
(sR [op 5 (.nilrow 174 5)]
[0,1,5]
(.seq (sR [oC 6 0]
[0,1,5,6]
(.block 0
(.loop [0,1,5,6] [4,5,33,40]
 (.seq (sR [oM 11 6,oK 12 .lss 11 8]
[0,1,5,6,12]
(cT 12
.skip x0z))
(.seq (.block 1
(sR [oM 16 0,oM 17 6,oc 18 73 [.t 16,.t 17],oM 15 18,oE 19 15 0,oE 20 15 1,oa 7 48 4 (.agg [iv 0,iv 0,.str [],.bool false]),oS 7 19 4,oM 8 20]
[0,1,5,6,7,8]
(sR [oM 22 1,oM 23 6,oc 24 73 [.t 22,.t 23],oM 21 24,oE 25 21 0,oE 26 21 1,oa 9 48 4 (.agg [iv 0,iv 0,.str [],.bool false]),oS 9 25 4,oM 10 26]
[0,1,5,6,7,8,9,10]
(sR [oM 27 8]
[0,1,5,6,7,9,10,27]
(cT 27
(.reg [oM 28 5,oM 29 6,oN 30 7 4,op 31 (.build [iv 0,iv 0,iv 0,.str [],.bool false] [(0,1,.t 29),(1,4,.t 30)]),op 32 (.mkrow 174 5 1 (.agg [iv 0,iv 0,iv 0,.str [],.bool false]) [(0,.t 31)]),op 33 (.app 174 5 48 (.t 28) (.t 32)),oM 5 33]
[0,1,5,6])
(sR [oM 34 10]
[0,1,5,6,9,34]
(cT 34
(.reg [oM 35 5,oM 36 6,oN 37 9 4,op 38 (.build [iv 0,iv 0,iv 0,.str [],.bool false] [(0,1,.t 36),(1,4,.t 37)]),op 39 (.mkrow 174 5 1 (.agg [iv 0,iv 0,iv 0,.str [],.bool false]) [(0,.t 38)]),op 40 (.app 174 5 48 (.t 35) (.t 39)),oM 5 40]
[0,1,5,6])
.skip)))))))
(.reg [oM 13 6,oK 14 .add 13 1,oM 6 14]
[0,1,5,6]))))))
(sR [oM 41 5,oM 4 41]
[4]
.ret))))⟩
abbrev pp23:=pcR 222 cp25 Tryz.func222
def cpC_:AFun:=⟨72,1,[.t 2,.t 3],
 (sR [oC 2 0,oC 3 0]
[0]
(.seq (sR [oM 6 0,oZ 7 6,oK 8 .gtr 7 32]
[0,8]
(cT 8
(sR [oC 2 14,oC 3 32]
[2,3]
.ret)
.skip))
(.seq (sR [oC 4 0]
[0,4]
(.block 0
(.loop [0,4] [7]
 (.seq (sR [oM 9 4,oM 10 0,oZ 11 10,oB 12 .lss 9 11]
[0,4,12]
(cT 12
.skip x0z))
(.seq (.block 1
(.seq (sR [oM 15 0,oM 16 4,oI 17 2 15 16,oF 18 17 0,oL 19 18,oc 20 63 [.t 19],oU 21 20]
[0,4,21]
(cT 21
(sR [oM 22 4,oC 2 11,oM 3 22]
[2,3]
.ret)
.skip))
(.seq (sR [oM 23 0,oM 24 0,oM 25 4,oI 26 2 24 25,oF 27 26 0,oL 28 27,oc 29 34 [.t 23,.t 28],oM 30 4,oB 31 .lss 29 30]
[0,4,31]
(cT 31
(sR [oM 32 4,oC 2 10,oM 3 32]
[2,3]
.ret)
.skip))
(.seq (sR [oM 33 0,oM 34 4,oI 35 2 33 34,oF 36 35 1,oL 37 36,oZ 38 37,oK 39 .gtr 38 8]
[0,4,39]
(cT 39
(sR [oM 40 4,oC 2 14,oM 3 40]
[2,3]
.ret)
.skip))
(sR [oC 5 0]
[0,4,5]
(.block 2
(.loop [0,4,5] [7,11,20,29,38]
 (.seq (sR [oM 41 5,oM 42 0,oM 43 4,oI 44 2 42 43,oF 45 44 1,oL 46 45,oZ 47 46,oB 48 .lss 41 47]
[0,4,5,48]
(cT 48
.skip x2z))
(.seq (.block 3
(sR [oM 51 0,oM 52 4,oI 53 2 51 52,oF 54 53 1,oL 55 54,oM 56 5,oI 57 1 55 56,oL 58 57,oK 59 .lss 58 1,oM 60 59,qM 61 0 60 false,qM 62 4 60 false,qI 63 2 61 62 60 false,qF 64 63 1 60 false,qL 65 64 60 false,qM 66 5 60 false,qI 67 1 65 66 60 false,qL 68 67 60 false,qK 69 .gtr 68 3 60 false,oO 70 60 69]
[0,4,5,70]
(cT 70
(sR [oM 71 4,oC 2 8,oM 3 71]
[2,3]
.ret)
.skip)))
(.reg [oM 49 5,oK 50 .add 49 1,oM 5 50]
[0,4,5]))))))))))
(.reg [oM 13 4,oK 14 .add 13 1,oM 4 14]
[0,4]))))))
(sR [oC 2 0,op 3 (.mov (.k (iv (-1))))]
[2,3]
.ret))))⟩
abbrev ppC_:=pcR 26 cpC_ Tryz.func26
def cpF_:AFun:=⟨20,2,[.t 4],
 (sR [oC 4 0]
[0,1]
(.seq (sR [oC 5 0]
[0,1,5]
(.block 0
(.loop [0,1,5] []
 (.seq (sR [oM 6 5,oM 7 0,oZ 8 7,oB 9 .lss 6 8]
[0,1,5,9]
(cT 9
.skip x0z))
(.seq (.block 1
(sR [oM 12 0,oM 13 5,oI 14 2 12 13,oF 15 14 0,oL 16 15,oM 17 1,oB 18 .eql 16 17]
[0,1,5,18]
(cT 18
(sR [oM 19 5,oM 4 19]
[4]
.ret)
.skip)))
(.reg [oM 10 5,oK 11 .add 10 1,oM 5 11]
[0,1,5]))))))
(sR [op 4 (.mov (.k (iv (-1))))]
[4]
.ret)))⟩
abbrev ppF_:=pcR 34 cpF_ Tryz.func34
def cp35:AFun:=⟨24,1,[.t 2],
 (sR [oV 2 false]
[0]
(sR [oc 5 139 [],oM 3 5]
[0,3]
(.seq (sR [oC 4 0]
[0,3,4]
(.block 0
(.loop [0,3,4] [5]
 (.seq (sR [oM 6 4,oM 7 3,oZ 8 7,oB 9 .lss 6 8]
[0,3,4,9]
(cT 9
.skip x0z))
(.seq (.block 1
(sR [oM 12 3,oM 13 4,oI 14 1 12 13,oL 15 14,oM 16 0,oB 17 .eql 15 16]
[0,3,4,17]
(cT 17
(sR [oV 2 false]
[2]
.ret)
.skip)))
(.reg [oM 10 4,oK 11 .add 10 1,oM 4 11]
[0,3,4]))))))
(sR [oM 18 0,oc 19 140 [.t 18],oM 20 19,qM 21 0 20 true,oG 22 (.bin .neq (.t 21) (.k (.str [95]))) 20 true,oA 23 20 22,oM 2 23]
[2]
.ret))))⟩
abbrev pp33:=pcR 63 cp35 Tryz.func63
def cp24:AFun:=⟨55,1,[.t 2],
 (sR [oV 2 false]
[0]
(.seq (sR [oM 6 0,oy 7 6,oK 8 .lss 7 1,oM 9 8,qM 10 0 9 false,oG 11 (.len true (.t 10)) 9 false,qK 12 .gtr 11 32 9 false,oO 13 9 12]
[0,13]
(cT 13
(sR [oV 2 false]
[2]
.ret)
.skip))
(.seq (sR [oC 3 0]
[0,3]
(.block 0
(.loop [0,3] [7,11]
 (.seq (sR [oM 14 3,oM 15 0,oy 16 15,oB 17 .lss 14 16]
[0,3,17]
(cT 17
.skip x0z))
(.seq (.block 1
(sR [oM 20 0,oM 21 3,op 22 (.idx (.t 20) (.t 21)),oM 4 22]
[0,3,4]
(sR [oM 23 4,op 24 (.bin .geq (.t 23) (.k (.int .u8 65))),oM 25 24,qM 26 4 25 true,oG 27 (.bin .leq (.t 26) (.k (.int .u8 90))) 25 true,oA 28 25 27,oM 29 28,qM 30 4 29 false,oG 31 (.bin .geq (.t 30) (.k (.int .u8 97))) 29 false,qM 32 31 29 false,qM 33 4 32 true,oG 34 (.bin .leq (.t 33) (.k (.int .u8 122))) 32 true,qA 35 32 34 29 false,oO 36 29 35,oM 37 36,qM 38 4 37 false,oG 39 (.bin .eql (.t 38) (.k (.int .u8 95))) 37 false,oO 40 37 39,oM 5 40]
[0,3,4,5]
(sR [oM 41 5,oU 42 41,oM 43 42,qM 44 3 43 true,qK 45 .eql 44 0 43 true,qM 46 45 43 true,qM 47 4 46 false,oG 48 (.bin .lss (.t 47) (.k (.int .u8 48))) 46 false,qO 49 46 48 43 true,qM 50 49 43 true,qM 51 4 50 false,oG 52 (.bin .gtr (.t 51) (.k (.int .u8 57))) 50 false,qO 53 50 52 43 true,oA 54 43 53]
[0,3,54]
(cT 54
(sR [oV 2 false]
[2]
.ret)
.skip)))))
(.reg [oM 18 3,oK 19 .add 18 1,oM 3 19]
[0,3]))))))
(sR [oV 2 true]
[2]
.ret))))⟩
abbrev pp22:=pcR 140 cp24 Tryz.func140
def cp23:AFun:=⟨2,0,[.t 0],
 (sR [op 0 (.nilrow 9 1)]
[]
(sR [op 1 (.mkrow 9 1 22 (.str []) [(0,.k (.str [97,99,99,101,112,116])),(1,.k (.str [97,108,115,111])),(2,.k (.str [97,110,100])),(3,.k (.str [98,111,111,108])),(4,.k (.str [100,111])),(5,.k (.str [101,118,101,110,116])),(6,.k (.str [101,120,105,115,116,115])),(7,.k (.str [102,97,108,115,101])),(8,.k (.str [102,111,114,97,108,108])),(9,.k (.str [102,114,101,101])),(10,.k (.str [105,102])),(11,.k (.str [105,110,116])),(12,.k (.str [110,101,120,116])),(13,.k (.str [110,111,116])),(14,.k (.str [111,110])),(15,.k (.str [111,114])),(16,.k (.str [113,101,97])),(17,.k (.str [115,107,105,112])),(18,.k (.str [115,116,97,114,116])),(19,.k (.str [115,116,114,105,110,103])),(20,.k (.str [116,111])),(21,.k (.str [116,114,117,101]))]),oM 0 1]
[0]
.ret))⟩
abbrev pp21:=pcR 139 cp23 Tryz.func139
def cp22:AFun:=⟨56,2,[.t 4],
 (sR [ob__ 3 45 2 1,oV 4 false]
[0,3]
(sR [oM 7 0,oF 8 3 0,oL 9 8,oc 10 34 [.t 7,.t 9],oM 5 10]
[0,3,5]
(.seq (.seq (.dreg [oM 11 5,oK 12 .lss 11 0,oM 13 12,qM 14 0 13 false,qM 15 5 13 false,qI 16 2 14 15 13 false,qF 17 16 1 13 false,qL 18 17 13 false,oG 19 (.len false (.t 18)) 13 false,qF 20 3 1 13 false,qL 21 20 13 false,oG 22 (.len false (.t 21)) 13 false,qB 23 .neq 19 22 13 false,oO 24 13 23]
[0,3,5,24])
(cT 24
(sR [oV 4 false]
[4]
.ret)
.skip))
(.seq (sR [oC 6 0]
[0,3,5,6]
(.block 0
(.loop [0,3,5,6] [3,10,19,22]
 (.seq (sR [oM 25 6,oF 26 3 1,oL 27 26,oZ 28 27,oB 29 .lss 25 28]
[0,3,5,6,29]
(cT 29
.skip x0z))
(.seq (.block 1
(.seq (.dreg [oF 32 3 1,oL 33 32,oM 34 6,oI 35 4 33 34,oF 36 35 0,oL 37 36,oM 38 0,oM 39 5,oI 40 2 38 39,oF 41 40 1,oL 42 41,oM 43 6,oI 44 1 42 43,oL 45 44,oB 46 .neq 37 45,oM 47 46,qF 48 3 1 47 false,qL 49 48 47 false,qM 50 6 47 false,qI 51 4 49 50 47 false,qN 52 51 4 47 false,oG 53 (.call 35 [.t 52]) 47 false,oG 54 (.un .not (.t 53)) 47 false,oO 55 47 54]
[0,3,5,6,55])
(cT 55
(sR [oV 4 false]
[4]
.ret)
.skip)))
(.reg [oM 30 6,oK 31 .add 30 1,oM 6 31]
[0,3,5,6]))))))
(sR [oV 4 true]
[4]
.ret)))))⟩
abbrev pp20:=pcR 11 cp22 Tryz.func11
def cp44:AFun:=⟨166,1,[.t 2],
 (sR [ob__ 1 30 9 0,oC 2 0]
[1]
(.seq (sR [oF 9 1 1,oL 10 9,oZ 11 10,oK 12 .gtr 11 12,oM 13 12,qF 14 1 2 13 false,qL 15 14 13 false,oG 16 (.len false (.t 15)) 13 false,qK 17 .gtr 16 9 13 false,oO 18 13 17,oM 19 18,qF 20 1 3 19 false,qL 21 20 19 false,oG 22 (.len false (.t 21)) 19 false,qK 23 .gtr 22 12 19 false,oO 24 19 23,oM 25 24,qF 26 1 4 25 false,qL 27 26 25 false,oG 28 (.len false (.t 27)) 25 false,qK 29 .gtr 28 12 25 false,oO 30 25 29,oM 31 30,qF 32 1 6 31 false,qL 33 32 31 false,oG 34 (.len false (.t 33)) 31 false,qK 35 .gtr 34 12 31 false,oO 36 31 35,oM 37 36,qF 38 1 8 37 false,qL 39 38 37 false,oG 40 (.len false (.t 39)) 37 false,qK 41 .gtr 40 12 37 false,oO 42 37 41,oM 43 42,qF 44 1 7 43 false,qL 45 44 43 false,oG 46 (.len false (.t 45)) 43 false,qK 47 .gtr 46 40 43 false,oO 48 43 47,oM 49 48,qF 50 1 0 49 false,qL 51 50 49 false,oG 52 (.len true (.t 51)) 49 false,qK 53 .gtr 52 100 49 false,oO 54 49 53]
[1,54]
(cT 54
(sR [oC 2 0]
[2]
.ret)
.skip))
(.seq (sR [oC 3 0]
[1,3]
(.block 0
(.loop [1,3] [1,11,16,22,28,34,40,46,52]
 (.seq (sR [oM 55 3,oF 56 1 1,oL 57 56,oZ 58 57,oB 59 .lss 55 58]
[1,3,59]
(cT 59
.skip x0z))
(.seq (.block 1
(sR [oF 62 1 1,oL 63 62,oM 64 3,oI 65 2 63 64,oF 66 65 1,oL 67 66,oZ 68 67,oK 69 .gtr 68 12,oM 70 69,qF 71 1 1 70 false,qL 72 71 70 false,qM 73 3 70 false,qI 74 2 72 73 70 false,qF 75 74 0 70 false,qL 76 75 70 false,oG 77 (.len true (.t 76)) 70 false,qK 78 .gtr 77 100 70 false,oO 79 70 78]
[1,3,79]
(cT 79
(sR [oC 2 0]
[2]
.ret)
.skip)))
(.reg [oM 60 3,oK 61 .add 60 1,oM 3 61]
[1,3]))))))
(.seq (sR [oC 4 0]
[1,4]
(.block 2
(.loop [1,4] [1,11,16,22,28,34,40,46,52,58,68,77]
 (.seq (sR [oM 80 4,oF 81 1 6,oL 82 81,oZ 83 82,oB 84 .lss 80 83]
[1,4,84]
(cT 84
.skip x2z))
(.seq (.block 3
(.seq (sR [oF 87 1 6,oL 88 87,oM 89 4,oI 90 2 88 89,oF 91 90 1,oL 92 91,oZ 93 92,oK 94 .gtr 93 12]
[1,4,94]
(cT 94
(sR [oC 2 0]
[2]
.ret)
.skip))
(sR [oC 5 0]
[1,4,5]
(.block 4
(.loop [1,4,5] [1,11,16,22,28,34,40,46,52,58,68,77,83,93]
 (.seq (sR [oM 95 5,oF 96 1 6,oL 97 96,oM 98 4,oI 99 2 97 98,oF 100 99 1,oL 101 100,oZ 102 101,oB 103 .lss 95 102]
[1,4,5,103]
(cT 103
.skip
(.exit 4)))
(.seq (.block 5
(sR [oF 106 1 6,oL 107 106,oM 108 4,oI 109 2 107 108,oF 110 109 1,oL 111 110,oM 112 5,oI 113 6 111 112,oF 114 113 2,oF 115 114 2,oL 116 115,oy 117 116,oK 118 .gtr 117 100]
[1,4,5,118]
(cT 118
(sR [oC 2 0]
[2]
.ret)
.skip)))
(.reg [oM 104 5,oK 105 .add 104 1,oM 5 105]
[1,4,5]))))))))
(.reg [oM 85 4,oK 86 .add 85 1,oM 4 86]
[1,4]))))))
(.seq (sR [oC 6 0]
[1,6]
(.block 6
(.loop [1,6] [1,11,16,22,28,34,40,46,52,58,68,77,83,93,102,117]
 (.seq (sR [oM 119 6,oF 120 1 3,oL 121 120,oZ 122 121,oB 123 .lss 119 122]
[1,6,123]
(cT 123
.skip
(.exit 6)))
(.seq (.block 7
(sR [oF 126 1 3,oL 127 126,oM 128 6,oI 129 5 127 128,oF 130 129 1,oF 131 130 2,oL 132 131,oy 133 132,oK 134 .gtr 133 100]
[1,6,134]
(cT 134
(sR [oC 2 0]
[2]
.ret)
.skip)))
(.reg [oM 124 6,oK 125 .add 124 1,oM 6 125]
[1,6]))))))
(.seq (sR [oC 7 0]
[1,7]
(.block 8
(.loop [1,7] [1,11,16,22,28,34,40,46,52,58,68,77,83,93,102,117,122,133]
 (.seq (sR [oM 135 7,oF 136 1 7,oL 137 136,oZ 138 137,oB 139 .lss 135 138]
[1,7,139]
(cT 139
.skip
(.exit 8)))
(.seq (.block 9
(sR [oF 142 1 7,oL 143 142,oM 144 7,oI 145 7 143 144,oF 146 145 3,oF 147 146 2,oL 148 147,oy 149 148,oK 150 .gtr 149 100]
[1,7,150]
(cT 150
(sR [oC 2 0]
[2]
.ret)
.skip)))
(.reg [oM 140 7,oK 141 .add 140 1,oM 7 141]
[1,7]))))))
(.seq (sR [oC 8 0]
[1,8]
(.block 10
(.loop [1,8] [1,11,16,22,28,34,40,46,52,58,68,77,83,93,102,117,122,133,138,149]
 (.seq (sR [oM 151 8,oF 152 1 8,oL 153 152,oZ 154 153,oB 155 .lss 151 154]
[1,8,155]
(cT 155
.skip
(.exit 10)))
(.seq (.block 11
(sR [oF 158 1 8,oL 159 158,oM 160 8,oI 161 5 159 160,oF 162 161 4,oL 163 162,oZ 164 163,oK 165 .gtr 164 12]
[1,8,165]
(cT 165
(sR [oC 2 0]
[2]
.ret)
.skip)))
(.reg [oM 156 8,oK 157 .add 156 1,oM 8 157]
[1,8]))))))
(sR [oC 2 1]
[2]
.ret))))))))⟩
abbrev pp43:=pcR 10 cp44 Tryz.func10
def cpK_:AFun:=⟨27,3,[.t 6,.t 7],
 (sR [ob__ 3 30 9 0,oC 6 0,oC 7 0]
[1,2,3]
(sR [oN 12 3 9,oM 13 2,oc 14 141 [.t 12,.t 13],oM 11 14,oE 15 11 0,oE 16 11 1,oE 17 11 2,oM 8 15,oM 9 16,oM 10 17]
[1,8,9,10]
(.seq (sR [oM 18 8,oK 19 .eql 18 0,oM 20 19,qM 21 10 20 false,qM 22 1 20 false,qB 23 .neq 21 22 20 false,oO 24 20 23]
[8,9,24]
(cT 24
(sR [oC 6 0,oC 7 0]
[6,7]
.ret)
.skip))
(sR [oM 25 8,oM 26 9,oM 6 25,oM 7 26]
[6,7]
.ret))))⟩
abbrev ppK_:=pcR 65 cpK_ Tryz.func65
def cpN_:AFun:=⟨30,2,[.t 4],
 (sR [ob__ 2 106 2 0,oV 4 false]
[1,2]
(.seq (sR [oC 5 0]
[1,2,5]
(.block 0
(.loop [1,2,5] [2]
 (.seq (sR [oM 6 5,oF 7 2 1,oL 8 7,oZ 9 8,oB 10 .lss 6 9]
[1,2,5,10]
(cT 10
.skip x0z))
(.seq (.block 1
(sR [oF 13 2 1,oL 14 13,oM 15 5,oI 16 6 14 15,oF 17 16 0,oL 18 17,oK 19 .eql 18 2,oM 20 19,qF 21 2 1 20 true,qL 22 21 20 true,qM 23 5 20 true,qI 24 6 22 23 20 true,qF 25 24 1 20 true,qL 26 25 20 true,qM 27 1 20 true,qB 28 .eql 26 27 20 true,oA 29 20 28]
[1,2,5,29]
(cT 29
(sR [oV 4 true]
[4]
.ret)
.skip)))
(.reg [oM 11 5,oK 12 .add 11 1,oM 5 12]
[1,2,5]))))))
(sR [oV 4 false]
[4]
.ret)))⟩
abbrev ppN_:=pcR 69 cpN_ Tryz.func69
def cpR_:AFun:=⟨101,1,[.t 2],
 (sR [ob__ 1 30 9 0,oV 2 false]
[1]
(sR [oF 10 1 1,oL 11 10,oc 12 26 [.t 11],oM 9 12,oE 13 9 0,oE 14 9 1,oM 3 13,oM 4 14]
[1,3]
(.seq (sR [oM 15 3,oK 16 .neq 15 0,oM 17 16,qF 18 1 2 17 false,qL 19 18 17 false,oG 20 (.len false (.t 19)) 17 false,qK 21 .gtr 20 8 17 false,oO 22 17 21,oM 23 22,qF 24 1 3 23 false,qL 25 24 23 false,oG 26 (.len false (.t 25)) 23 false,qK 27 .gtr 26 16 23 false,oO 28 23 27,oM 29 28,qF 30 1 4 29 false,qL 31 30 29 false,oG 32 (.len false (.t 31)) 29 false,qK 33 .gtr 32 32 29 false,oO 34 29 33,oM 35 34,qF 36 1 6 35 false,qL 37 36 35 false,oG 38 (.len false (.t 37)) 35 false,qK 39 .gtr 38 64 35 false,oO 40 35 39,oM 41 40,qF 42 1 7 41 false,qL 43 42 41 false,oG 44 (.len false (.t 43)) 41 false,qK 45 .gtr 44 2048 41 false,oO 46 41 45,oM 47 46,qF 48 1 8 47 false,qL 49 48 47 false,oG 50 (.len false (.t 49)) 47 false,qK 51 .gtr 50 256 47 false,oO 52 47 51,oM 53 52,qF 54 1 5 53 false,qL 55 54 53 false,qK 56 .lss 55 0 53 false,oO 57 53 56,oM 58 57,qF 59 1 5 58 false,qL 60 59 58 false,qF 61 1 4 58 false,qL 62 61 58 false,oG 63 (.len false (.t 62)) 58 false,qB 64 .geq 60 63 58 false,oO 65 58 64,oM 66 65,qN 67 1 9 66 false,oG 68 (.call 27 [.t 67]) 66 false,oG 69 (.un .not (.t 68)) 66 false,oO 70 66 69]
[1,70]
(cT 70
(sR [oV 2 false]
[2]
.ret)
.skip))
(sR [oC 5 0]
[1,5]
(.seq (sR [oC 6 0]
[1,5,6]
(.block 0
(.loop [1,5,6] [1,12,20,26,32,38,44,50,63,68]
 (.seq (sR [oM 71 6,oF 72 1 8,oL 73 72,oZ 74 73,oB 75 .lss 71 74]
[1,5,6,75]
(cT 75
.skip x0z))
(.seq (.block 1
(.seq (.dreg [oN 79 1 9,oF 80 1 8,oL 81 80,oM 82 6,oI 83 5 81 82,oN 84 83 5,oM 85 5,oc 86 28 [.t 79,.t 84,.t 85],oM 78 86,oE 87 78 0,oE 88 78 1,oM 7 87,oM 8 88]
[1,6,7,8])
(.seq (sR [oM 89 8,oU 90 89]
[1,6,7,90]
(cT 90
(sR [oV 2 false]
[2]
.ret)
.skip))
(.reg [oM 91 7,oM 5 91]
[1,5,6]))))
(.reg [oM 76 6,oK 77 .add 76 1,oM 6 77]
[1,5,6]))))))
(sR [oM 92 5,oF 93 1 7,oL 94 93,oZ 95 94,oB 96 .eql 92 95,oM 97 96,qN 98 1 9 97 true,oG 99 (.call 29 [.t 98]) 97 true,oA 100 97 99,oM 2 100]
[2]
.ret))))))⟩
abbrev ppR_:=pcR 7 cpR_ Tryz.func7
def cpS_:AFun:=⟨38,2,[.t 4],
 (sR [ob__ 2 106 2 0,ob__ 3 106 2 1,oV 4 false]
[2,3]
(.seq (sR [oF 6 2 0,oL 7 6,oF 8 3 0,oL 9 8,oB 10 .neq 7 9,oM 11 10,qF 12 2 1 11 false,qL 13 12 11 false,oG 14 (.len false (.t 13)) 11 false,qF 15 3 1 11 false,qL 16 15 11 false,oG 17 (.len false (.t 16)) 11 false,qB 18 .neq 14 17 11 false,oO 19 11 18]
[2,3,19]
(cT 19
(sR [oV 4 false]
[4]
.ret)
.skip))
(.seq (sR [oC 5 0]
[2,3,5]
(.block 0
(.loop [2,3,5] [2,3,14,17]
 (.seq (sR [oM 20 5,oF 21 2 1,oL 22 21,oZ 23 22,oB 24 .lss 20 23]
[2,3,5,24]
(cT 24
.skip x0z))
(.seq (.block 1
(.seq (.dreg [oF 27 2 1,oL 28 27,oM 29 5,oI 30 6 28 29,oN 31 30 6,oF 32 3 1,oL 33 32,oM 34 5,oI 35 6 33 34,oN 36 35 6,op 37 (.eqA true [0,0,0,0,1,2] (.t 31) (.t 36))]
[2,3,5,37])
(cT 37
(sR [oV 4 false]
[4]
.ret)
.skip)))
(.reg [oM 25 5,oK 26 .add 25 1,oM 5 26]
[2,3,5]))))))
(sR [oV 4 true]
[4]
.ret))))⟩
abbrev pp10:=pcR 68 cpS_ Tryz.func68
def cp34:AFun:=⟨31,3,[.t 6],
 (sR [oC 6 0]
[0,1,2]
(.seq (sR [oM 9 1,oK 10 .lss 9 1,oM 11 10,qM 12 1 11 false,qM 13 2 11 false,qB 14 .neq 12 13 11 false,oO 15 11 14]
[0,1,2,15]
(cT 15
(sR [oC 6 0]
[6]
.ret)
.skip))
(sR [oM 17 0,oM 18 1,op 19 (.build [iv 0,iv 0,.str [],.bool false] [(0,1,.t 18)]),oM 20 2,op 21 (.build [iv 0,iv 0,.str [],.bool false] [(0,1,.t 20)]),oc 22 261 [.t 17,.t 19,.t 21],oM 16 22,oE 23 16 0,oE 24 16 1,oa 7 48 4 (.agg [iv 0,iv 0,.str [],.bool false]),oS 7 23 4,oM 8 24]
[7,8]
(.seq (sR [oM 25 8,oK 26 .eql 25 7]
[7,8,26]
(cT 26
(sR [oC 6 1]
[6]
.ret)
.skip))
(.seq (sR [oM 27 8,oK 28 .neq 27 0]
[7,28]
(cT 28
(sR [oC 6 0]
[6]
.ret)
.skip))
(sR [oF 29 7 0,oL 30 29,oM 6 30]
[6]
.ret))))))⟩
abbrev pp32:=pcR 216 cp34 Tryz.func216
def cp43:AFun:=⟨90,3,[.t 6],
 (sR [ob__ 3 30 9 0,ob__ 4 108 6 1,oV 6 false]
[2,3,4]
(sR [op 8 (.build [iv 0,iv 0,.str [],.bool false] []),oa 7 48 4 (.agg [iv 0,iv 0,.str [],.bool false]),oS 7 8 4]
[2,3,4,7]
(.seq (sR [oF 9 4 0,oL 10 9,oK 11 .eql 10 1]
[2,3,4,7,11]
(cT 11
(sR [oF 12 4 1,oL 13 12,oK 14 .eql 13 0,oM 15 14,qF 16 4 2 15 true,qN 17 16 4 15 true,oG 18 (.call 35 [.t 17]) 15 true,oA 19 15 18,oM 20 19,qF 21 4 2 20 true,qF 22 21 0 20 true,qL 23 22 20 true,qM 24 2 20 true,qB 25 .eql 23 24 20 true,oA 26 20 25,oM 6 26]
[6]
.ret)
.skip))
(.seq (sR [oF 27 4 2,oN 28 27 4,oN 29 7 4,op 30 (.eqA true [0,0,1,2] (.t 28) (.t 29))]
[2,3,4,30]
(cT 30
(sR [oV 6 false]
[6]
.ret)
.skip))
(.seq (sR [oF 31 4 0,oL 32 31,oK 33 .eql 32 2]
[2,3,4,33]
(cT 33
(sR [oF 34 4 1,oL 35 34,oK 36 .geq 35 0,oM 37 36,qF 38 4 1 37 true,qL 39 38 37 true,qF 40 3 2 37 true,qL 41 40 37 true,oG 42 (.len false (.t 41)) 37 true,qB 43 .lss 39 42 37 true,oA 44 37 43,oM 45 44,qF 46 3 2 45 true,qL 47 46 45 true,qF 48 4 1 45 true,qL 49 48 45 true,qI 50 3 47 49 45 true,qF 51 50 2 45 true,qL 52 51 45 true,qM 53 2 45 true,qB 54 .eql 52 53 45 true,oA 55 45 54,oM 6 55]
[6]
.ret)
.skip))
(.seq (sR [oF 56 4 0,oL 57 56,oK 58 .eql 57 3]
[2,3,4,58]
(cT 58
(sR [oF 59 4 1,oL 60 59,oK 61 .geq 60 0,oM 62 61,qF 63 4 1 62 true,qL 64 63 62 true,qF 65 3 3 62 true,qL 66 65 62 true,oG 67 (.len false (.t 66)) 62 true,qB 68 .lss 64 67 62 true,oA 69 62 68,oM 70 69,qF 71 3 3 70 true,qL 72 71 70 true,qF 73 4 1 70 true,qL 74 73 70 true,qI 75 5 72 74 70 true,qF 76 75 1 70 true,qF 77 76 0 70 true,qL 78 77 70 true,qM 79 2 70 true,qB 80 .eql 78 79 70 true,oA 81 70 80,oM 6 81]
[6]
.ret)
.skip))
(sR [oF 82 4 0,oL 83 82,oK 84 .eql 83 4,oM 85 84,qF 86 4 1 85 true,qL 87 86 85 true,qK 88 .eql 87 0 85 true,oA 89 85 88,oM 6 89]
[6]
.ret)))))))⟩
abbrev pp42:=pcR 142 cp43 Tryz.func142
def cpb_:AFun:=⟨185,2,[.t 4,.t 5,.t 6],
 (sR [ob__ 2 30 9 0,oC 4 0,oC 5 0,oC 6 0]
[1,2]
(.seq (sR [oM 15 1,oK 16 .lss 15 0,oM 17 16,qM 18 1 17 false,qF 19 2 7 17 false,qL 20 19 17 false,oG 21 (.len false (.t 20)) 17 false,qB 22 .geq 18 21 17 false,oO 23 17 22]
[1,2,23]
(cT 23
(sR [oC 4 0,oC 5 0,oC 6 0]
[4,5,6]
.ret)
.skip))
(sR [oF 24 2 7,oL 25 24,oM 26 1,oI 27 7 25 26,oN 28 27 7,oa 7 112 7 (.agg [iv 0,iv 0,iv 0,iv 0,iv 0,.str [],.bool false]),oS 7 28 7]
[1,2,7]
(sR [op 29 (.build [iv 0,iv 0,.str [],.bool false] []),oa 8 48 4 (.agg [iv 0,iv 0,.str [],.bool false]),oS 8 29 4]
[1,2,7,8]
(.seq (sR [oF 30 7 0,oL 31 30,oK 32 .eql 31 1]
[1,2,7,8,32]
(cT 32
(.seq (sR [oF 33 7 1,oL 34 33,oK 35 .neq 34 0,oM 36 35,qF 37 7 2 36 false,qL 38 37 36 false,qK 39 .neq 38 0 36 false,oO 40 36 39,oM 41 40,qF 42 7 3 41 false,qN 43 42 4 41 false,oG 44 (.call 35 [.t 43]) 41 false,oG 45 (.un .not (.t 44)) 41 false,oO 46 41 45]
[1,7,46]
(cT 46
(sR [oC 4 0,oC 5 0,oC 6 0]
[4,5,6]
.ret)
.skip))
(sR [oF 47 7 3,oF 48 47 0,oL 49 48,oM 50 1,oM 4 49,oC 5 1,oM 6 50]
[4,5,6]
.ret))
.skip))
(.seq (sR [oF 51 7 3,oN 52 51 4,oN 53 8 4,op 54 (.eqA true [0,0,1,2] (.t 52) (.t 53))]
[1,2,7,54]
(cT 54
(sR [oC 4 0,oC 5 0,oC 6 0]
[4,5,6]
.ret)
.skip))
(.seq (sR [oF 55 7 0,oL 56 55,oK 57 .eql 56 2]
[1,2,7,57]
(cT 57
(.seq (sR [oF 58 7 1,oL 59 58,oK 60 .lss 59 0,oM 61 60,qF 62 7 1 61 false,qL 63 62 61 false,qF 64 2 2 61 false,qL 65 64 61 false,oG 66 (.len false (.t 65)) 61 false,qB 67 .geq 63 66 61 false,oO 68 61 67,oM 69 68,qF 70 7 2 69 false,qL 71 70 69 false,qK 72 .neq 71 0 69 false,oO 73 69 72]
[1,2,7,73]
(cT 73
(sR [oC 4 0,oC 5 0,oC 6 0]
[4,5,6]
.ret)
.skip))
(sR [oF 74 2 2,oL 75 74,oF 76 7 1,oL 77 76,oI 78 3 75 77,oF 79 78 2,oL 80 79,oM 81 1,oM 4 80,oC 5 1,oM 6 81]
[4,5,6]
.ret))
.skip))
(.seq (sR [oF 82 7 0,oL 83 82,oK 84 .eql 83 3]
[1,2,7,84]
(cT 84
(.seq (sR [oF 85 7 1,oL 86 85,oK 87 .lss 86 0,oM 88 87,qF 89 7 1 88 false,qL 90 89 88 false,qF 91 2 3 88 false,qL 92 91 88 false,oG 93 (.len false (.t 92)) 88 false,qB 94 .geq 90 93 88 false,oO 95 88 94,oM 96 95,qF 97 7 2 96 false,qL 98 97 96 false,qK 99 .neq 98 0 96 false,oO 100 96 99]
[1,2,7,100]
(cT 100
(sR [oC 4 0,oC 5 0,oC 6 0]
[4,5,6]
.ret)
.skip))
(sR [oF 101 2 3,oL 102 101,oF 103 7 1,oL 104 103,oI 105 5 102 104,oF 106 105 1,oF 107 106 0,oL 108 107,oM 109 1,oM 4 108,oC 5 1,oM 6 109]
[4,5,6]
.ret))
.skip))
(.seq (sR [oF 110 7 0,oL 111 110,oK 112 .lss 111 4,oM 113 112,qF 114 7 0 113 false,qL 115 114 113 false,qK 116 .gtr 115 16 113 false,oO 117 113 116]
[1,2,7,117]
(cT 117
(sR [oC 4 0,oC 5 0,oC 6 0]
[4,5,6]
.ret)
.skip))
(sR [oN 119 2 9,oM 120 1,oK 121 .sub 120 1,oc 122 141 [.t 119,.t 121],oM 118 122,oE 123 118 0,oE 124 118 1,oE 125 118 2,oM 9 123,oM 10 124,oM 11 125]
[1,2,7,9,10,11]
(.seq (sR [oF 126 7 0,oL 127 126,oK 128 .leq 127 5]
[1,2,7,9,10,11,128]
(cT 128
(.seq (sR [oM 129 9,oK 130 .eql 129 0,oM 131 130,qF 132 7 1 131 false,qL 133 132 131 false,qM 134 1 131 false,qK 135 .sub 134 1 131 false,qB 136 .neq 133 135 131 false,oO 137 131 136,oM 138 137,qF 139 7 2 138 false,qL 140 139 138 false,qK 141 .neq 140 0 138 false,oO 142 138 141]
[7,9,10,11,142]
(cT 142
(sR [oC 4 0,oC 5 0,oC 6 0]
[4,5,6]
.ret)
.skip))
(sR [oF 143 7 0,oL 144 143,oM 145 9,oM 146 9,oc 147 216 [.t 144,.t 145,.t 146],oM 148 10,oK 149 .add 148 1,oM 150 11,oM 4 147,oM 5 149,oM 6 150]
[4,5,6]
.ret))
.skip))
(.seq (sR [oM 151 9,oK 152 .eql 151 0,oM 153 152,qF 154 7 2 153 false,qL 155 154 153 false,qM 156 1 153 false,qK 157 .sub 156 1 153 false,qB 158 .neq 155 157 153 false,oO 159 153 158,oM 160 159,qF 161 7 1 160 false,qL 162 161 160 false,qM 163 11 160 false,qK 164 .sub 163 1 160 false,qB 165 .neq 162 164 160 false,oO 166 160 165]
[2,7,9,10,11,166]
(cT 166
(sR [oC 4 0,oC 5 0,oC 6 0]
[4,5,6]
.ret)
.skip))
(sR [oN 168 2 9,oM 169 11,oK 170 .sub 169 1,oc 171 141 [.t 168,.t 170],oM 167 171,oE 172 167 0,oE 173 167 1,oE 174 167 2,oM 12 172,oM 13 173,oM 14 174]
[7,9,10,12,13,14]
(sR [oF 175 7 0,oL 176 175,oM 177 12,oM 178 9,oc 179 216 [.t 176,.t 177,.t 178],oM 180 10,oM 181 13,op 182 (.mx false (.t 180) (.t 181)),oK 183 .add 182 1,oM 184 14,oM 4 179,oM 5 183,oM 6 184]
[4,5,6]
.ret))))))))))))))⟩
abbrev ppb_:=pcR 141 cpb_ Tryz.func141
def cp21:AFun:=⟨34,4,[.t 8],
 (sR [ob__ 4 30 9 0,ob__ 5 106 2 1,oV 8 false]
[2,3,4,5]
(.seq (sR [oM 10 2,oM 9 10]
[3,4,5,9]
(.block 0
(.loop [3,4,5,9] [4,5]
 (.seq (sR [oM 11 9,oM 12 3,oB 13 .lss 11 12]
[3,4,5,9,13]
(cT 13
.skip x0z))
(.seq (.block 1
(.seq (.dreg [oF 16 4 7,oL 17 16,oM 18 9,oI 19 7 17 18,oF 20 19 0,oL 21 20,oK 22 .eql 21 2,oM 23 22,qN 24 5 2 23 true,qF 25 4 7 23 true,qL 26 25 23 true,qM 27 9 23 true,qI 28 7 26 27 23 true,qF 29 28 1 23 true,qL 30 29 23 true,oG 31 (.call 69 [.t 24,.t 30]) 23 true,oG 32 (.un .not (.t 31)) 23 true,oA 33 23 32]
[3,4,5,9,33])
(cT 33
(sR [oV 8 false]
[8]
.ret)
.skip)))
(.reg [oM 14 9,oK 15 .add 14 1,oM 9 15]
[3,4,5,9]))))))
(sR [oV 8 true]
[8]
.ret)))⟩
abbrev pp19:=pcR 66 cp21 Tryz.func66
def cp20:AFun:=⟨112,1,[.t 2],
 (sR [ob__ 1 30 9 0,oV 2 false]
[1]
(sR [op 3 (.nilrow 9 1)]
[1,3]
(.seq (sR [oC 4 0]
[1,3,4]
(.block 0
(.loop [1,3,4] [1,3,24]
 (.seq (sR [oM 9 4,oF 10 1 2,oL 11 10,oZ 12 11,oB 13 .lss 9 12]
[1,3,4,13]
(cT 13
.skip x0z))
(.seq (.block 1
(sR [oM 16 3,oF 17 1 2,oL 18 17,oM 19 4,oI 20 3 18 19,oF 21 20 1,oL 22 21,op 23 (.mkrow 9 1 1 (.str []) [(0,.t 22)]),op 24 (.app 9 1 16 (.t 16) (.t 23)),oM 3 24]
[1,3,4]
(sR [oF 25 1 2,oL 26 25,oM 27 4,oI 28 3 26 27,oF 29 28 2,oL 30 29,oK 31 .lss 30 1,oM 32 31,qF 33 1 2 32 false,qL 34 33 32 false,qM 35 4 32 false,qI 36 3 34 35 32 false,qF 37 36 2 32 false,qL 38 37 32 false,qK 39 .gtr 38 3 32 false,oO 40 32 39]
[1,3,4,40]
(cT 40
(sR [oV 2 false]
[2]
.ret)
.skip))))
(.reg [oM 14 4,oK 15 .add 14 1,oM 4 15]
[1,3,4]))))))
(.seq (sR [oC 5 0]
[1,3,5]
(.block 2
(.loop [1,3,5] [1,3,12,23,24,56]
 (.seq (sR [oM 41 5,oF 42 1 3,oL 43 42,oZ 44 43,oB 45 .lss 41 44]
[1,3,5,45]
(cT 45
.skip x2z))
(.seq (.block 3
(sR [oM 48 3,oF 49 1 3,oL 50 49,oM 51 5,oI 52 5 50 51,oF 53 52 0,oL 54 53,op 55 (.mkrow 9 1 1 (.str []) [(0,.t 54)]),op 56 (.app 9 1 16 (.t 48) (.t 55)),oM 3 56]
[1,3,5]
(sR [oF 57 1 3,oL 58 57,oM 59 5,oI 60 5 58 59,oF 61 60 1,oN 62 61 4,oc 63 35 [.t 62],oU 64 63]
[1,3,5,64]
(cT 64
(sR [oV 2 false]
[2]
.ret)
.skip))))
(.reg [oM 46 5,oK 47 .add 46 1,oM 5 47]
[1,3,5]))))))
(.seq (sR [oC 6 0]
[1,3,6]
(.block 4
(.loop [1,3,6] [1,3,12,23,24,44,55,56,63]
 (.seq (sR [oM 65 6,oM 66 3,oZ 67 66,oB 68 .lss 65 67]
[1,3,6,68]
(cT 68
.skip
(.exit 4)))
(.seq (.block 5
(sR [oM 71 3,oM 72 6,oI 73 1 71 72,oL 74 73,oc 75 63 [.t 74],oU 76 75,oM 77 76,qM 78 3 77 false,qM 79 6 77 false,oG 80 (.call 64 [.t 78,.t 79]) 77 false,oO 81 77 80]
[1,3,6,81]
(cT 81
(sR [oV 2 false]
[2]
.ret)
.skip)))
(.reg [oM 69 6,oK 70 .add 69 1,oM 6 70]
[1,3,6]))))))
(sR [op 7 (.nilrow 9 1)]
[1,7]
(.seq (sR [oC 8 0]
[1,7,8]
(.block 6
(.loop [1,7,8] [1,3,12,23,24,44,55,56,63,67,75,80,7,97]
 (.seq (sR [oM 82 8,oF 83 1 4,oL 84 83,oZ 85 84,oB 86 .lss 82 85]
[1,7,8,86]
(cT 86
.skip
(.exit 6)))
(.seq (.block 7
(sR [oM 89 7,oF 90 1 4,oL 91 90,oM 92 8,oI 93 3 91 92,oF 94 93 0,oL 95 94,op 96 (.mkrow 9 1 1 (.str []) [(0,.t 95)]),op 97 (.app 9 1 16 (.t 89) (.t 96)),oM 7 97]
[1,7,8]
(sR [oM 98 7,oM 99 8,oI 100 1 98 99,oL 101 100,oc 102 63 [.t 101],oU 103 102,oM 104 103,qM 105 7 104 false,qM 106 8 104 false,oG 107 (.call 64 [.t 105,.t 106]) 104 false,oO 108 104 107]
[1,7,8,108]
(cT 108
(sR [oV 2 false]
[2]
.ret)
.skip))))
(.reg [oM 87 8,oK 88 .add 87 1,oM 8 88]
[1,7,8]))))))
(sR [oF 109 1 0,oL 110 109,oc 111 63 [.t 110],oM 2 111]
[2]
.ret))))))))⟩
abbrev pp18:=pcR 27 cp20 Tryz.func27
def cp14:AFun:=⟨56,2,[.t 4],
 (sR [ob__ 2 30 9 0,ob__ 3 106 2 1,oV 4 false]
[2,3]
(.seq (.seq (.dreg [oF 6 3 0,oL 7 6,oK 8 .lss 7 0,oM 9 8,qF 10 3 0 9 false,qL 11 10 9 false,qF 12 2 1 9 false,qL 13 12 9 false,oG 14 (.len false (.t 13)) 9 false,qB 15 .geq 11 14 9 false,oO 16 9 15,oM 17 16,qF 18 3 1 17 false,qL 19 18 17 false,oG 20 (.len false (.t 19)) 17 false,qF 21 2 1 17 false,qL 22 21 17 false,qF 23 3 0 17 false,qL 24 23 17 false,qI 25 2 22 24 17 false,qF 26 25 1 17 false,qL 27 26 17 false,oG 28 (.len false (.t 27)) 17 false,qB 29 .neq 20 28 17 false,oO 30 17 29]
[2,3,30])
(cT 30
(sR [oV 4 false]
[4]
.ret)
.skip))
(.seq (sR [oC 5 0]
[2,3,5]
(.block 0
(.loop [2,3,5] [2,3,14,20,28]
 (.seq (sR [oM 31 5,oF 32 3 1,oL 33 32,oZ 34 33,oB 35 .lss 31 34]
[2,3,5,35]
(cT 35
.skip x0z))
(.seq (.block 1
(.seq (.dreg [oN 38 2 9,oF 39 3 1,oL 40 39,oM 41 5,oI 42 6 40 41,oN 43 42 6,oF 44 2 1,oL 45 44,oF 46 3 0,oL 47 46,oI 48 2 45 47,oF 49 48 1,oL 50 49,oM 51 5,oI 52 1 50 51,oL 53 52,oc 54 142 [.t 38,.t 43,.t 53],oU 55 54]
[2,3,5,55])
(cT 55
(sR [oV 4 false]
[4]
.ret)
.skip)))
(.reg [oM 36 5,oK 37 .add 36 1,oM 5 37]
[2,3,5]))))))
(sR [oV 4 true]
[4]
.ret))))⟩
abbrev pp13:=pcR 67 cp14 Tryz.func67
def cps_:AFun:=⟨118,1,[.t 2],
 (sR [ob__ 1 30 9 0,oV 2 false]
[1]
(sR [oF 13 1 6,oL 14 13,oZ 15 14,op 16 (.mks 4 1 1 (.bool false) (.t 15) (.t 15)),oM 3 16]
[1,3]
(sR [op 4 (.nilrow 3 1)]
[1,3,4]
(.seq (sR [oC 5 0]
[1,3,4,5]
(.block 0
(.loop [1,3,4,5] [1,15,16,4,38]
 (.seq (sR [oM 17 5,oF 18 1 8,oL 19 18,oZ 20 19,oB 21 .lss 17 20]
[1,3,4,5,21]
(cT 21
.skip x0z))
(.seq (.block 1
(sR [oF 24 1 8,oL 25 24,oM 26 5,oI 27 5 25 26,oF 28 27 1,oL 29 28,oM 6 29]
[1,3,4,5,6]
(.seq (sR [oM 30 3,oM 31 6,oI 32 1 30 31,oL 33 32,oU 34 33]
[1,3,4,5,6,34]
(cT 34
(.reg [oM 35 4,oM 36 6,op 37 (.mkrow 3 1 1 (iv 0) [(0,.t 36)]),op 38 (.app 3 1 8 (.t 35) (.t 37)),oM 4 38]
[1,3,4,5,6])
.skip))
(.reg [oM 39 3,oM 40 6,oI 41 1 39 40,
⟨none,.store (.t 41) (.k (.bool true)) 1,none⟩]
[1,3,4,5]))))
(.reg [oM 22 5,oK 23 .add 22 1,oM 5 23]
[1,3,4,5]))))))
(.seq (sR [oC 7 0]
[1,4,7]
(.block 2
(.loop [1,4,7] [1,15,16,4,20,37,38]
 (.seq (sR [oM 42 7,oM 43 4,oZ 44 43,oB 45 .lss 42 44]
[1,4,7,45]
(cT 45
.skip x2z))
(.seq (.block 3
(.seq (.dreg [oM 48 4,oM 49 7,oI 50 1 48 49,oL 51 50,oF 52 1 6,oL 53 52,oZ 54 53,oM 55 4,oZ 56 55,oB 57 .sub 54 56,oM 58 7,oB 59 .add 57 58,oB 60 .neq 51 59]
[1,4,7,60])
(cT 60
(sR [oV 2 false]
[2]
.ret)
.skip)))
(.reg [oM 46 7,oK 47 .add 46 1,oM 7 47]
[1,4,7]))))))
(.seq (sR [oC 8 0]
[1,8]
(.block 4
(.loop [1,8] [1,15,16,4,20,37,38,44,54,56]
 (.seq (sR [oM 61 8,oF 62 1 6,oL 63 62,oZ 64 63,oB 65 .lss 61 64]
[1,8,65]
(cT 65
.skip
(.exit 4)))
(.seq (.block 5
(.seq (.seq (.dreg [oN 68 1 9,oF 69 1 6,oL 70 69,oM 71 8,oI 72 2 70 71,oN 73 72 2,oc 74 67 [.t 68,.t 73],oU 75 74]
[1,8,75])
(cT 75
(sR [oV 2 false]
[2]
.ret)
.skip))
(sR [oC 9 0]
[1,8,9]
(.block 6
(.loop [1,8,9] [1,15,16,4,20,37,38,44,54,56,64,74]
 (.seq (sR [oM 76 9,oM 77 8,oB 78 .lss 76 77]
[1,8,9,78]
(cT 78
.skip
(.exit 6)))
(.seq (.block 7
(.seq (.dreg [oF 81 1 6,oL 82 81,oM 83 8,oI 84 2 82 83,oN 85 84 2,oF 86 1 6,oL 87 86,oM 88 9,oI 89 2 87 88,oN 90 89 2,oc 91 68 [.t 85,.t 90]]
[1,8,9,91])
(cT 91
(sR [oV 2 false]
[2]
.ret)
.skip)))
(.reg [oM 79 9,oK 80 .add 79 1,oM 9 80]
[1,8,9]))))))))
(.reg [oM 66 8,oK 67 .add 66 1,oM 8 67]
[1,8]))))))
(.seq (sR [oC 10 0]
[1,10]
(.block 8
(.loop [1,10] [1,15,16,4,20,37,38,44,54,56,64,74,91]
 (.seq (sR [oM 92 10,oF 93 1 2,oL 94 93,oZ 95 94,oB 96 .lss 92 95]
[1,10,96]
(cT 96
.skip
(.exit 8)))
(.seq (.block 9
(sR [oV 11 false]
[1,10,11]
(.seq (sR [oC 12 0]
[1,10,11,12]
(.block 10
(.loop [1,10,11,12] [1,15,16,4,20,37,38,44,54,56,64,74,91,95]
 (.seq (sR [oM 99 12,oF 100 1 6,oL 101 100,oZ 102 101,oB 103 .lss 99 102]
[1,10,11,12,103]
(cT 103
.skip
(.exit 10)))
(.seq (.block 11
(.reg [oM 106 11,oM 107 106,qF 108 1 6 107 false,qL 109 108 107 false,qM 110 12 107 false,qI 111 2 109 110 107 false,qN 112 111 2 107 false,qM 113 10 107 false,oG 114 (.call 69 [.t 112,.t 113]) 107 false,oO 115 107 114,oM 11 115]
[1,10,11,12]))
(.reg [oM 104 12,oK 105 .add 104 1,oM 12 105]
[1,10,11,12]))))))
(sR [oM 116 11,oU 117 116]
[1,10,117]
(cT 117
(sR [oV 2 false]
[2]
.ret)
.skip)))))
(.reg [oM 97 10,oK 98 .add 97 1,oM 10 98]
[1,10]))))))
(sR [oV 2 true]
[2]
.ret))))))))⟩
abbrev pps_:=pcR 29 cps_ Tryz.func29
def cp19:AFun:=⟨153,3,[.t 6,.t 7],
 (sR [ob__ 3 30 9 0,ob__ 4 95 5 1,oC 6 0,oV 7 false]
[2,3,4]
(.seq (sR [oF 16 4 0,oL 17 16,oK 18 .lss 17 0,oM 19 18,qF 20 4 0 19 false,qL 21 20 19 false,qF 22 3 4 19 false,qL 23 22 19 false,oG 24 (.len false (.t 23)) 19 false,qB 25 .geq 21 24 19 false,oO 26 19 25,oM 27 26,qF 28 4 2 27 false,qL 29 28 27 false,qK 30 .lss 29 0 27 false,oO 31 27 30,oM 32 31,qF 33 4 2 32 false,qL 34 33 32 false,qF 35 3 4 32 false,qL 36 35 32 false,oG 37 (.len false (.t 36)) 32 false,qB 38 .geq 34 37 32 false,oO 39 32 38,oM 40 39,qF 41 4 1 40 false,qL 42 41 40 false,qK 43 .lss 42 0 40 false,oO 44 40 43,oM 45 44,qF 46 4 1 45 false,qL 47 46 45 false,qF 48 3 6 45 false,qL 49 48 45 false,oG 50 (.len false (.t 49)) 45 false,qB 51 .geq 47 50 45 false,oO 52 45 51]
[2,3,4,52]
(cT 52
(sR [oC 6 0,oV 7 false]
[6,7]
.ret)
.skip))
(sR [oM 53 2,oM 8 53]
[2,3,4,8]
(.seq (sR [oF 54 4 3,oL 55 54,op 56 (.bin .neq (.t 55) (.k (iv (-1))))]
[2,3,4,8,56]
(cT 56
(sR [oN 58 3 9,oM 59 8,oF 60 4 3,oL 61 60,oc 62 65 [.t 58,.t 59,.t 61],oM 57 62,oE 63 57 0,oE 64 57 1,oM 9 63,oM 10 64]
[2,3,4,9,10]
(.seq (sR [oM 65 9,oK 66 .neq 65 3,oM 67 66,qM 68 10 67 false,qK 69 .gtr 68 64 67 false,oO 70 67 69]
[2,3,4,70]
(cT 70
(sR [oC 6 0,oV 7 false]
[6,7]
.ret)
.skip))
(.reg [oF 71 4 3,oL 72 71,oK 73 .add 72 1,oM 8 73]
[2,3,4,8])))
.skip))
(.seq (sR [oC 11 0]
[2,3,4,8,11]
(.block 0
(.loop [2,3,4,8,11] [3,4,24,37,50,62]
 (.seq (sR [oM 74 11,oF 75 4 4,oL 76 75,oZ 77 76,oB 78 .lss 74 77]
[2,3,4,8,11,78]
(cT 78
.skip x0z))
(.seq (.block 1
(sR [oF 81 4 4,oL 82 81,oM 83 11,oI 84 2 82 83,oN 85 84 2,oa 12 168 2 (.agg [iv 0,iv 0]),oS 12 85 2]
[2,3,4,8,11,12]
(sR [oN 87 3 9,oM 88 8,oF 89 12 1,oL 90 89,oc 91 65 [.t 87,.t 88,.t 90],oM 86 91,oE 92 86 0,oE 93 86 1,oM 13 92,oM 14 93]
[2,3,4,11,12,13,14]
(.seq (sR [oF 94 12 0,oL 95 94,oK 96 .lss 95 0,oM 97 96,qF 98 12 0 97 false,qL 99 98 97 false,qF 100 3 3 97 false,qL 101 100 97 false,oG 102 (.len false (.t 101)) 97 false,qB 103 .geq 99 102 97 false,oO 104 97 103,oM 105 104,qM 106 13 105 false,qK 107 .eql 106 0 105 false,oO 108 105 107,oM 109 108,qM 110 14 109 false,qK 111 .gtr 110 64 109 false,oO 112 109 111,oM 113 112,qM 114 13 113 false,qF 115 3 3 113 false,qL 116 115 113 false,qF 117 12 0 113 false,qL 118 117 113 false,qI 119 5 116 118 113 false,qF 120 119 1 113 false,qF 121 120 0 113 false,qL 122 121 113 false,qB 123 .neq 114 122 113 false,oO 124 113 123]
[2,3,4,11,12,124]
(cT 124
(sR [oC 6 0,oV 7 false]
[6,7]
.ret)
.skip))
(.seq (sR [oC 15 0]
[2,3,4,11,12,15]
(.block 2
(.loop [2,3,4,11,12,15] [3,4,24,37,50,62,77,12,91,102]
 (.seq (sR [oM 125 15,oM 126 11,oB 127 .lss 125 126]
[2,3,4,11,12,15,127]
(cT 127
.skip x2z))
(.seq (.block 3
(.seq (.dreg [oF 130 4 4,oL 131 130,oM 132 15,oI 133 2 131 132,oF 134 133 0,oL 135 134,oF 136 12 0,oL 137 136,oB 138 .eql 135 137]
[2,3,4,11,12,15,138])
(cT 138
(sR [oC 6 0,oV 7 false]
[6,7]
.ret)
.skip)))
(.reg [oM 128 15,oK 129 .add 128 1,oM 15 129]
[2,3,4,11,12,15]))))))
(.reg [oF 139 12 1,oL 140 139,oK 141 .add 140 1,oM 8 141]
[2,3,4,8,11]))))))
(.reg [oM 79 11,oK 80 .add 79 1,oM 11 80]
[2,3,4,8,11]))))))
(.seq (.dreg [oM 142 8,oN 143 3 9,oF 144 3 6,oL 145 144,oF 146 4 1,oL 147 146,oI 148 2 145 147,oN 149 148 2,oM 150 2,oM 151 8,oc 152 66 [.t 143,.t 149,.t 150,.t 151],oM 6 142,oM 7 152]
[6,7])
.ret))))))⟩
abbrev pp17:=pcR 28 cp19 Tryz.func28
def cp18:AFun:=⟨20,2,[.t 4],
 (sR [oV 4 false]
[0,1]
(.seq (sR [oC 5 0]
[0,1,5]
(.block 0
(.loop [0,1,5] []
 (.seq (sR [oM 6 5,oM 7 1,oB 8 .lss 6 7]
[0,1,5,8]
(cT 8
.skip x0z))
(.seq (.block 1
(.seq (.dreg [oM 11 0,oM 12 5,oI 13 1 11 12,oL 14 13,oM 15 0,oM 16 1,oI 17 1 15 16,oL 18 17,oB 19 .eql 14 18]
[0,1,5,19])
(cT 19
(sR [oV 4 true]
[4]
.ret)
.skip)))
(.reg [oM 9 5,oK 10 .add 9 1,oM 5 10]
[0,1,5]))))))
(sR [oV 4 false]
[4]
.ret)))⟩
abbrev pp16:=pcR 64 cp18 Tryz.func64
def cpG_:AFun:=⟨32,4,[.t 8,.t 9],
 (sR [ob__ 4 30 9 0,oV 8 false,oC 9 0]
[1,2,3,4]
(sR [oF 13 4 8,oL 14 13,oM 15 1,oI 16 5 14 15,oF 17 16 3,oL 18 17,oM 10 18]
[2,3,4,10]
(.seq (sR [oM 19 10,oK 20 .lss 19 0]
[2,3,4,10,20]
(cT 20
(sR [oV 8 true,oC 9 0]
[8,9]
.ret)
.skip))
(sR [oN 22 4 9,oM 23 10,oM 24 2,oM 25 3,oc 26 293 [.t 22,.t 23,.t 24,.t 25],oM 21 26,oE 27 21 0,oE 28 21 1,oa 11 48 4 (.agg [iv 0,iv 0,.str [],.bool false]),oS 11 27 4,oM 12 28]
[11,12]
(sR [oF 29 11 3,oL 30 29,oM 31 12,oM 8 30,oM 9 31]
[8,9]
.ret)))))⟩
abbrev ppG_:=pcR 282 cpG_ Tryz.func282
def cp33:AFun:=⟨54,4,[.t 8,.t 9],
 (sR [ob__ 4 30 9 0,op 8 (.nilrow 48 4),oC 9 0]
[1,2,3,4]
(sR [op 15 (.mkrow 48 4 0 (.agg [iv 0,iv 0,.str [],.bool false]) []),oM 16 3,op 17 (.app 48 4 40 (.t 15) (.t 16)),oM 10 17]
[1,2,3,4,10]
(sR [oF 18 4 8,oL 19 18,oM 20 1,oI 21 5 19 20,oF 22 21 4,oL 23 22,oM 11 23]
[2,3,4,10,11]
(.seq (sR [oC 12 0]
[2,3,4,10,11,12]
(.block 0
(.loop [2,3,4,10,11,12] [4,8,15,17]
 (.seq (sR [oM 24 12,oM 25 11,oZ 26 25,oB 27 .lss 24 26]
[2,3,4,10,11,12,27]
(cT 27
.skip x0z))
(.seq (.block 1
(.seq (.dregT [oN 31 4 9,oM 32 11,oM 33 12,oI 34 2 32 33,oF 35 34 1,oL 36 35,oM 37 2,oM 38 3,oc 39 293 [.t 31,.t 36,.t 37,.t 38],oM 30 39,oE 40 30 0,oE 41 30 1,oa 13 48 4 (.agg [iv 0,iv 0,.str [],.bool false]),oS 13 40 4,oM 14 41]
[12,13] [[],[],[],[],[],[],[],[],[],[],[],[],[],[12],[12,13]] [[13],[13],[13],[13],[13],[13],[13],[13],[13],[13],[13],[],[],[],[]] [0,1,2,3,4,5,6,7,8,9,10,11]
(.next 12 [] [0,1,2,3,4,5,6,7,8,9,10,11] (.next 13 [14] [11] .fin .nil) .nil)
[2,3,4,10,11,12,13,14,30,31,32,33,34,35,36,37,38,39,40,41] [2,3,4,10,11,12,13,14])
(.seq (sR [oM 42 14,oK 43 .neq 42 0]
[2,3,4,10,11,12,13,14,43]
(cT 43
(sR [oM 44 14,op 8 (.nilrow 48 4),oM 9 44]
[8,9]
.ret)
.skip))
(.dreg [oM 45 10,oM 46 11,oM 47 12,oI 48 2 46 47,oF 49 48 0,oL 50 49,oN 51 13 4,oI 52 4 45 50,oS 52 51 4]
[2,3,4,10,11,12]))))
(.reg [oM 28 12,oK 29 .add 28 1,oM 12 29]
[2,3,4,10,11,12]))))))
(sR [oM 53 10,oM 8 53,oC 9 0]
[8,9]
.ret)))))⟩
abbrev pp31:=pcR 283 cp33 Tryz.func283
def cpV_:AFun:=⟨121,4,[.cells 8 4,.t 9],
 (sR [ob__ 4 30 9 0,oa 8 48 4 (.agg [iv 0,iv 0,.str [],.bool false]),oC 9 0]
[1,2,3,4,8]
(sR [oF 16 4 7,oL 17 16,oM 18 1,oI 19 7 17 18,oN 20 19 7,oa 10 112 7 (.agg [iv 0,iv 0,iv 0,iv 0,iv 0,.str [],.bool false]),oS 10 20 7]
[2,3,4,8,10]
(.seq (sR [oF 21 10 0,oL 22 21,oK 23 .eql 22 1]
[2,3,4,8,10,23]
(cT 23
(sR [oF 24 10 3,oN 25 24 4,oS 8 25 4,oC 9 0]
[8,9]
.ret)
.skip))
(.seq (sR [oF 26 10 0,oL 27 26,oK 28 .eql 27 2]
[2,3,4,8,10,28]
(cT 28
(sR [oM 30 2,oF 31 10 1,oL 32 31,oc 33 73 [.t 30,.t 32],oM 29 33,oE 34 29 0,oE 35 29 1,oa 11 48 4 (.agg [iv 0,iv 0,.str [],.bool false]),oS 11 34 4,oM 12 35]
[4,8,10,11,12]
(.seq (.seq (.dreg [oM 36 12,oU 37 36,oM 38 37,qF 39 11 0 38 false,qL 40 39 38 false,qF 41 4 2 38 false,qL 42 41 38 false,qF 43 10 1 38 false,qL 44 43 38 false,qI 45 3 42 44 38 false,qF 46 45 2 38 false,qL 47 46 38 false,qB 48 .neq 40 47 38 false,oO 49 38 48]
[8,11,49])
(cT 49
(sR [op 50 (.build [iv 0,iv 0,.str [],.bool false] []),oS 8 50 4,oC 9 9]
[8,9]
.ret)
.skip))
(sR [oN 51 11 4,oS 8 51 4,oC 9 0]
[8,9]
.ret)))
.skip))
(.seq (sR [oF 52 10 0,oL 53 52,oK 54 .eql 53 3]
[2,3,4,8,10,54]
(cT 54
(sR [oM 55 3,oF 56 10 1,oL 57 56,oI 58 4 55 57,oN 59 58 4,oS 8 59 4,oC 9 0]
[8,9]
.ret)
.skip))
(sR [oN 61 4 9,oF 62 10 1,oL 63 62,oM 64 2,oM 65 3,oc 66 293 [.t 61,.t 63,.t 64,.t 65],oM 60 66,oE 67 60 0,oE 68 60 1,oa 13 48 4 (.agg [iv 0,iv 0,.str [],.bool false]),oS 13 67 4,oM 14 68]
[2,3,4,8,10,13,14]
(.seq (sR [oM 69 14,oK 70 .neq 69 0]
[2,3,4,8,10,13,14,70]
(cT 70
(sR [op 71 (.build [iv 0,iv 0,.str [],.bool false] []),oM 72 14,oS 8 71 4,oM 9 72]
[8,9]
.ret)
.skip))
(.seq (sR [oF 73 10 0,oL 74 73,oK 75 .leq 74 5]
[2,3,4,8,10,13,75]
(cT 75
(sR [oF 76 10 0,oL 77 76,oN 78 13 4,op 79 (.build [iv 0,iv 0,.str [],.bool false] []),oc 80 261 [.t 77,.t 78,.t 79],oE 81 80 0,oE 82 80 1,oS 8 81 4,oM 9 82]
[8,9]
.ret)
.skip))
(.seq (sR [oF 83 10 0,oL 84 83,oK 85 .eql 84 6,oM 86 85,qF 87 13 3 86 true,qL 88 87 86 true,oG 89 (.un .not (.t 88)) 86 true,oA 90 86 89,oM 91 90,qF 92 10 0 91 false,qL 93 92 91 false,qK 94 .eql 93 7 91 false,qM 95 94 91 false,qF 96 13 3 95 true,qL 97 96 95 true,qA 98 95 97 91 false,oO 99 91 98]
[2,3,4,8,10,13,99]
(cT 99
(sR [oN 100 13 4,oS 8 100 4,oC 9 0]
[8,9]
.ret)
.skip))
(sR [oN 102 4 9,oF 103 10 2,oL 104 103,oM 105 2,oM 106 3,oc 107 293 [.t 102,.t 104,.t 105,.t 106],oM 101 107,oE 108 101 0,oE 109 101 1,oa 15 48 4 (.agg [iv 0,iv 0,.str [],.bool false]),oS 15 108 4,oM 14 109]
[8,10,13,14,15]
(.seq (sR [oM 110 14,oK 111 .neq 110 0]
[8,10,13,14,15,111]
(cT 111
(sR [op 112 (.build [iv 0,iv 0,.str [],.bool false] []),oM 113 14,oS 8 112 4,oM 9 113]
[8,9]
.ret)
.skip))
(sR [oF 114 10 0,oL 115 114,oN 116 13 4,oN 117 15 4,oc 118 261 [.t 115,.t 116,.t 117],oE 119 118 0,oE 120 118 1,oS 8 119 4,oM 9 120]
[8,9]
.ret))))))))))))⟩
abbrev ppV_:=pcR 293 cpV_ Tryz.func293
