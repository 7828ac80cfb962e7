/- Lemmas. -/
import Derived.Test.YtkgcnoghjibiaaaGreatDoorYAcR0
set_option linter.unusedSimpArgs false
namespace Go.Proofs.YtkgcnoghjibiaaaGreatDoor.Ab
open Go
def cbeaTaT_:AFun:=⟨22,2,[.t 4],
 (sR [op 4 (.nilrow 82 13)]
[0,1]
(sR [op 5 (.nilrow 82 13)]
[0,1,5]
(.seq (sR [oM 8 0,oZ 9 8,oC 10 0]
[1,5,8,9,10]
(.block 0
(.loop [1,5,8,9,10] [4,5,9,19]
 (sR [oB 11 .lss 10 9]
[1,5,8,9,10,11]
(.seq (cT 11
.skip x0z)
(.seq (.block 1
(sR [oI 12 5 8 10,oN 13 12 5,oa 7 95 5 (.agg [iv 0,iv 0,iv 0,iv 0,.nils]),oS 7 13 5]
[1,5,7,8,9,10]
(.reg [oM 14 5,oM 15 1,oN 16 7 5,op 17 (.callv (.t 15) [.t 16]),op 18 (.mkrow 82 13 1 (.agg [.str [],iv 0,iv 0,.str [],iv 0,iv 0,.str [],.nils,iv 0,iv 0,.nils,iv 0,.nils]) [(0,.t 17)]),op 19 (.app 82 13 176 (.t 14) (.t 18)),oM 5 19]
[1,5,8,9,10])))
(.reg [oK 20 .add 10 1,oM 10 20]
[1,5,8,9,10])))))))
(sR [oM 21 5,oM 4 21]
[4]
.ret))))⟩
abbrev hbeaTaT_:=hcR 79 cbeaTaT_ Tryz.func79
def cbe_:AFun:=⟨28,2,[.t 4],
 (sR [ob__ 2 95 5 0,oC 4 0]
[1,2]
(.seq (.block 0
(sR [oF 6 2 4,oL 7 6,oZ 8 7,oK 9 .gtr 8 0,oM 5 9]
[1,2,5]
(cT 5
(sR [oF 10 2 4,oL 11 10,oF 12 2 4,oL 13 12,oZ 14 13,oK 15 .sub 14 1,oI 16 2 11 15,oF 17 16 1,oL 18 17,oK 19 .add 18 1,oM 4 19]
[4]
.ret)
(sR [oF 21 2 3,oL 22 21,oK 23 .geq 22 0,oM 20 23]
[1,2,20]
(cT 20
(sR [oF 24 2 3,oL 25 24,oK 26 .add 25 1,oM 4 26]
[4]
.ret)
.skip)))))
(sR [oM 27 1,oM 4 27]
[4]
.ret)))⟩
abbrev pbe_:=pcR 81 cbe_ Tryz.func81
def cbi_:AFun:=⟨5,1,[.cells 2 3],
 (sR [oa 2 55 3 (.agg [.str [],iv 0,iv 0])]
[0,2]
(sR [oM 3 0,op 4 (.build [.str [],iv 0,iv 0] [(0,1,.t 3)]),oS 2 4 3]
[2]
.ret))⟩
abbrev pbi_:=pcR 38 cbi_ Tryz.func38
def cbn_:AFun:=⟨57,3,[.cells 6 10],
 (sR [ob__ 3 30 9 0,ob__ 4 112 7 1,oa 6 191 10 (.agg [iv 0,iv 0,iv 0,.str [],iv 0,iv 0,.str [],.bool false,iv 0,iv 0])]
[2,3,4,6]
(.seq (sR [oF 7 4 0,oL 8 7]
[2,3,4,6,8]
(.block 0
(sR [oK 10 .eql 8 1,oM 9 10]
[2,3,4,6,8,9]
(cT 9
(sR [oF 11 4 0,oL 12 11,oF 13 4 3,oN 14 13 4,op 15 (.build [iv 0,iv 0,iv 0,.str [],iv 0,iv 0,.str [],.bool false,iv 0,iv 0] [(0,1,.t 12),(4,4,.t 14)]),oS 6 15 10]
[6]
.ret)
(sR [oK 17 .eql 8 2,oM 16 17]
[2,3,4,6,8,16]
(cT 16
(sR [oF 18 3 2,oL 19 18,oF 20 4 1,oL 21 20,oI 22 3 19 21,oF 23 22 1,oL 24 23,op 25 (.build [iv 0,iv 0,iv 0,.str [],iv 0,iv 0,.str [],.bool false,iv 0,iv 0] [(0,1,.k (iv 17)),(3,1,.t 24)]),oS 6 25 10]
[6]
.ret)
(sR [oK 27 .eql 8 3,oM 26 27]
[2,3,4,6,8,26]
(cT 26
(sR [oF 28 3 3,oL 29 28,oF 30 4 1,oL 31 30,oI 32 5 29 31,oF 33 32 0,oL 34 33,op 35 (.build [iv 0,iv 0,iv 0,.str [],iv 0,iv 0,.str [],.bool false,iv 0,iv 0] [(0,1,.k (iv 17)),(3,1,.t 34)]),oS 6 35 10]
[6]
.ret)
(.seq (sR [oK 37 .eql 8 4,oM 36 37]
[2,4,6,8,36]
(cT 36
.skip
(.reg [oK 38 .eql 8 5,oM 36 38]
[2,4,6,36])))
(cT 36
(sR [oF 39 4 0,oL 40 39,oF 41 4 1,oL 42 41,oM 43 2,oB 44 .sub 42 43,op 45 (.build [iv 0,iv 0,iv 0,.str [],iv 0,iv 0,.str [],.bool false,iv 0,iv 0] [(0,1,.t 40),(1,1,.t 44)]),oS 6 45 10]
[6]
.ret)
.skip))))))))))
(sR [oF 46 4 0,oL 47 46,oF 48 4 1,oL 49 48,oM 50 2,oB 51 .sub 49 50,oF 52 4 2,oL 53 52,oM 54 2,oB 55 .sub 53 54,op 56 (.build [iv 0,iv 0,iv 0,.str [],iv 0,iv 0,.str [],.bool false,iv 0,iv 0] [(0,1,.t 47),(1,1,.t 51),(2,1,.t 55)]),oS 6 56 10]
[6]
.ret)))⟩
abbrev pbn_:=pcR 84 cbn_ Tryz.func84
def cbs_:AFun:=⟨17,2,[.cells 4 4],
 (sR [ob__ 2 30 9 0,ob__ 3 106 2 1,oa 4 78 4 (.agg [.str [],.nils,iv 0,iv 0])]
[2,3,4]
(.seq (.dreg [oF 5 2 1,oL 6 5,oF 7 3 0,oL 8 7,oI 9 2 6 8,oF 10 9 0,oL 11 10,oF 12 3 1,oL 13 12,op 14 (.mkfn 88 [.t 2]),oc 15 87 [.t 13,.t 14],op 16 (.build [.str [],.nils,iv 0,iv 0] [(0,1,.t 11),(1,1,.t 15)]),oS 4 16 4]
[4])
.ret))⟩
abbrev pbs_:=pcR 49 cbs_ Tryz.func49
def cbs1z:AFun:=⟨7,2,[.cells 3 8],
 (sR [ob__ 2 108 6 0,oa 3 144 8 (.agg [iv 0,.str [],iv 0,iv 0,.str [],.bool false,iv 0,iv 0])]
[1,2,3]
(sR [oN 4 1 9,oN 5 2 6,oc 6 89 [.t 4,.t 5],oS 3 6 8]
[3]
.ret))⟩
abbrev pbs1z:=pcR 88 cbs1z Tryz.func88
def cbt_:AFun:=⟨8,1,[.t 2],
 (sR [ob__ 1 30 9 0,op 2 (.nilrow 82 13)]
[1]
(sR [oa 3 3 1 (iv 0),
⟨none,.store (.t 3) (.k (iv 0)) 1,none⟩]
[1,3]
(sR [oF 4 1 8,oL 5 4,op 6 (.mkfn 80 [.t 3,.t 1]),oc 7 79 [.t 5,.t 6],oM 2 7]
[2]
.ret)))⟩
abbrev pbt_:=pcR 48 cbt_ Tryz.func48
def cbt1z:AFun:=⟨57,3,[.cells 4 13],
 (sR [ob__ 3 95 5 0,oa 4 82 13 (.agg [.str [],iv 0,iv 0,.str [],iv 0,iv 0,.str [],.nils,iv 0,iv 0,.nils,iv 0,.nils])]
[1,2,3,4]
(.seq (.dregT [oL 8 1,oN 9 3 5,oL 10 1,oc 11 81 [.t 9,.t 10],oa 5 3 1 (iv 0),oS 5 8 1,oM 6 11]
[4,5] [[],[],[],[],[],[4],[4,5]] [[5],[5],[5],[5],[],[],[]] [0,1,2,3]
(.next 4 [] [0,1,2,3] (.next 5 [6] [] .fin .nil) .nil)
[1,2,3,4,5,6,8,9,10,11] [1,2,3,4,5,6])
(sR [oM 12 6,oS 1 12 1]
[2,3,4,5,6]
(sR [op 7 (.mov (.k (iv (-1))))]
[2,3,4,5,6,7]
(.seq (sR [oF 13 3 3,oL 14 13,oK 15 .geq 14 0]
[2,3,4,5,6,7,15]
(cT 15
(.reg [oF 16 3 3,oL 17 16,oL 18 5,oB 19 .sub 17 18,oM 7 19]
[2,3,4,5,6,7])
.skip))
(.seq (.dreg [oF 20 2 4,oL 21 20,oF 22 3 0,oL 23 22,oI 24 3 21 23,oF 25 24 0,oL 26 25,oc 27 38 [.t 26],oF 28 2 4,oL 29 28,oF 30 3 2,oL 31 30,oI 32 3 29 31,oF 33 32 0,oL 34 33,oc 35 38 [.t 34],oN 36 2 9,oF 37 2 6,oL 38 37,oF 39 3 1,oL 40 39,oI 41 2 38 40,oN 42 41 2,oc 43 49 [.t 36,.t 42],oM 44 7,oF 45 2 7,oL 46 45,oL 47 5,oM 48 6,op 49 (.slc 7 (.t 46) (some (.t 47)) (some (.t 48))),op 50 (.mkfn 83 [.t 2,.t 5]),oc 51 82 [.t 49,.t 50],oF 52 3 4,oL 53 52,op 54 (.mkfn 86 [.t 2,.t 5]),oc 55 85 [.t 53,.t 54],op 56 (.build [.str [],iv 0,iv 0,.str [],iv 0,iv 0,.str [],.nils,iv 0,iv 0,.nils,iv 0,.nils] [(0,3,.t 27),(3,3,.t 35),(6,4,.t 43),(11,1,.t 44),(10,1,.t 51),(12,1,.t 55)]),oS 4 56 13]
[4])
.ret))))))⟩
abbrev hbt1z:=hcR 80 cbt1z Tryz.func80
def cbt11z:AFun:=⟨9,3,[.cells 4 10],
 (sR [ob__ 3 112 7 0,oa 4 191 10 (.agg [iv 0,iv 0,iv 0,.str [],iv 0,iv 0,.str [],.bool false,iv 0,iv 0])]
[1,2,3,4]
(sR [oN 5 1 9,oN 6 3 7,oL 7 2,oc 8 84 [.t 5,.t 6,.t 7],oS 4 8 10]
[4]
.ret))⟩
abbrev pbt11z:=pcR 83 cbt11z Tryz.func83
def cbt12z:AFun:=⟨18,3,[.cells 4 4],
 (sR [ob__ 3 168 2 0,oa 4 196 4 (.agg [.str [],iv 0,iv 0,iv 0])]
[1,2,3,4]
(.seq (.dreg [oF 5 1 3,oL 6 5,oF 7 3 0,oL 8 7,oI 9 5 6 8,oF 10 9 0,oL 11 10,oc 12 38 [.t 11],oF 13 3 1,oL 14 13,oL 15 2,oB 16 .sub 14 15,op 17 (.build [.str [],iv 0,iv 0,iv 0] [(0,3,.t 12),(3,1,.t 16)]),oS 4 17 4]
[4])
.ret))⟩
abbrev pbt12z:=pcR 86 cbt12z Tryz.func86
def ccL_:AFun:=⟨39,1,[.cells 2 9,.cells 3 3],
 (sR [ob__ 1 63 12 0,oa 2 30 9 (.agg [.str [],.nils,.nils,.nils,.nils,iv 0,.nils,.nils,.nils]),oa 3 87 3 (.agg [iv 0,iv 0,iv 0])]
[1,2,3]
(.seq (sR [oN 6 1 12,oc 7 59 [.t 6],oU 8 7]
[1,2,3,8]
(cT 8
(sR [op 9 (.build [.str [],.nils,.nils,.nils,.nils,iv 0,.nils,.nils,.nils] []),op 10 (.build [iv 0,iv 0,iv 0] [(0,1,.k (iv 1))]),oS 2 9 9,oS 3 10 3]
[2,3]
.ret)
.skip))
(sR [op 11 .mkmap,op 12 .mkmap,op 13 .mkmap,op 14 (.build [.str [],.nils,.nils,.nils,.nils,iv 0,.nils,.nils,.nils,.nilm,.nilm,.nilm] [(9,1,.t 11),(10,1,.t 12),(11,1,.t 13)]),ob__ 15 154 12 14,oM 4 15]
[1,2,3,4]
(sR [oa 5 155 1 (.nilp)]
[1,2,3,4,5]
(.seq (sR [oM 16 4,oN 17 1 12,oc 18 61 [.t 16,.t 17],op 19 (.mki 160 (.t 5)),oc 20 60 [.t 18,.t 19]]
[2,3,4,20]
(cT 20
.bad
.skip))
(sR [oM 34 4,on__ 35 34,oF 36 35 0,oN 37 36 9,op 38 (.build [iv 0,iv 0,iv 0] []),oS 2 37 9,oS 3 38 3]
[2,3]
.ret))))))⟩
abbrev pcL_:=pcR 25 ccL_ Tryz.func25
def cc14:AFun:=⟨21,2,[.t 4],
 (sR [oq 4]
[0,1]
(.seq (sR [oM 8 0,oZ 9 8,oC 10 0]
[1,8,9,10]
(.block 0
(.loop [1,8,9,10] [9]
 (sR [oB 11 .lss 10 9]
[1,8,9,10,11]
(.seq (cT 11
.skip x0z)
(.seq (.block 1
(sR [oI 12 4 8 10,oN 13 12 4,oa 6 119 4 (.agg [.str [],iv 0,iv 0,.nils]),oS 6 13 4]
[1,6,8,9,10]
(sR [oM 14 1,oN 15 6 4,op 16 (.callvB (.t 14) [.t 15]),oM 7 16]
[1,7,8,9,10]
(sR [oM 17 7,op 18 (.eqI true (.t 17) (.k (.nili)))]
[1,7,8,9,10,18]
(cT 18
(sR [oM 19 7,oM 4 19]
[4]
.ret)
.skip)))))
(.reg [oK 20 .add 10 1,oM 10 20]
[1,8,9,10])))))))
(sR [oq 4]
[4]
.ret)))⟩
abbrev hc14:=hcR 115 cc14 Tryz.func115
def cc13:AFun:=⟨21,2,[.t 4],
 (sR [oq 4]
[0,1]
(.seq (sR [oM 8 0,oZ 9 8,oC 10 0]
[1,8,9,10]
(.block 0
(.loop [1,8,9,10] [9]
 (sR [oB 11 .lss 10 9]
[1,8,9,10,11]
(.seq (cT 11
.skip x0z)
(.seq (.block 1
(sR [oI 12 7 8 10,oN 13 12 7,oa 6 130 7 (.agg [.str [],iv 0,iv 0,iv 0,iv 0,.str [],.bool false]),oS 6 13 7]
[1,6,8,9,10]
(sR [oM 14 1,oN 15 6 7,op 16 (.callvB (.t 14) [.t 15]),oM 7 16]
[1,7,8,9,10]
(sR [oM 17 7,op 18 (.eqI true (.t 17) (.k (.nili)))]
[1,7,8,9,10,18]
(cT 18
(sR [oM 19 7,oM 4 19]
[4]
.ret)
.skip)))))
(.reg [oK 20 .add 10 1,oM 10 20]
[1,8,9,10])))))))
(sR [oq 4]
[4]
.ret)))⟩
abbrev hc13:=hcR 121 cc13 Tryz.func121
def cc12:AFun:=⟨21,2,[.t 4],
 (sR [oq 4]
[0,1]
(.seq (sR [oM 8 0,oZ 9 8,oC 10 0]
[1,8,9,10]
(.block 0
(.loop [1,8,9,10] [9]
 (sR [oB 11 .lss 10 9]
[1,8,9,10,11]
(.seq (cT 11
.skip x0z)
(.seq (.block 1
(sR [oI 12 5 8 10,oN 13 12 5,oa 6 126 5 (.agg [.bool false,.str [],iv 0,iv 0,iv 0]),oS 6 13 5]
[1,6,8,9,10]
(sR [oM 14 1,oN 15 6 5,op 16 (.callvB (.t 14) [.t 15]),oM 7 16]
[1,7,8,9,10]
(sR [oM 17 7,op 18 (.eqI true (.t 17) (.k (.nili)))]
[1,7,8,9,10,18]
(cT 18
(sR [oM 19 7,oM 4 19]
[4]
.ret)
.skip)))))
(.reg [oK 20 .add 10 1,oM 10 20]
[1,8,9,10])))))))
(sR [oq 4]
[4]
.ret)))⟩
abbrev hc12:=hcR 118 cc12 Tryz.func118
def cc11:AFun:=⟨21,2,[.t 4],
 (sR [oq 4]
[0,1]
(.seq (sR [oM 8 0,oZ 9 8,oC 10 0]
[1,8,9,10]
(.block 0
(.loop [1,8,9,10] [9]
 (sR [oB 11 .lss 10 9]
[1,8,9,10,11]
(.seq (cT 11
.skip x0z)
(.seq (.block 1
(sR [oI 12 5 8 10,oN 13 12 5,oa 6 73 5 (.agg [.str [],iv 0,iv 0,.bool false,.bool false]),oS 6 13 5]
[1,6,8,9,10]
(sR [oM 14 1,oN 15 6 5,op 16 (.callvB (.t 14) [.t 15]),oM 7 16]
[1,7,8,9,10]
(sR [oM 17 7,op 18 (.eqI true (.t 17) (.k (.nili)))]
[1,7,8,9,10,18]
(cT 18
(sR [oM 19 7,oM 4 19]
[4]
.ret)
.skip)))))
(.reg [oK 20 .add 10 1,oM 10 20]
[1,8,9,10])))))))
(sR [oq 4]
[4]
.ret)))⟩
abbrev hc11:=hcR 124 cc11 Tryz.func124
def cceaT_:AFun:=⟨21,2,[.t 4],
 (sR [oq 4]
[0,1]
(.seq (sR [oM 8 0,oZ 9 8,oC 10 0]
[1,8,9,10]
(.block 0
(.loop [1,8,9,10] [9]
 (sR [oB 11 .lss 10 9]
[1,8,9,10,11]
(.seq (cT 11
.skip x0z)
(.seq (.block 1
(sR [oI 12 4 8 10,oN 13 12 4,oa 6 78 4 (.agg [.str [],.nils,iv 0,iv 0]),oS 6 13 4]
[1,6,8,9,10]
(sR [oM 14 1,oN 15 6 4,op 16 (.callvB (.t 14) [.t 15]),oM 7 16]
[1,7,8,9,10]
(sR [oM 17 7,op 18 (.eqI true (.t 17) (.k (.nili)))]
[1,7,8,9,10,18]
(cT 18
(sR [oM 19 7,oM 4 19]
[4]
.ret)
.skip)))))
(.reg [oK 20 .add 10 1,oM 10 20]
[1,8,9,10])))))))
(sR [oq 4]
[4]
.ret)))⟩
abbrev hceaT_:=hcR 129 cceaT_ Tryz.func129
def cc10:AFun:=⟨21,2,[.t 4],
 (sR [oq 4]
[0,1]
(.seq (sR [oM 8 0,oZ 9 8,oC 10 0]
[1,8,9,10]
(.block 0
(.loop [1,8,9,10] [9]
 (sR [oB 11 .lss 10 9]
[1,8,9,10,11]
(.seq (cT 11
.skip x0z)
(.seq (.block 1
(sR [oI 12 13 8 10,oN 13 12 13,oa 6 82 13 (.agg [.str [],iv 0,iv 0,.str [],iv 0,iv 0,.str [],.nils,iv 0,iv 0,.nils,iv 0,.nils]),oS 6 13 13]
[1,6,8,9,10]
(sR [oM 14 1,oN 15 6 13,op 16 (.callvB (.t 14) [.t 15]),oM 7 16]
[1,7,8,9,10]
(sR [oM 17 7,op 18 (.eqI true (.t 17) (.k (.nili)))]
[1,7,8,9,10,18]
(cT 18
(sR [oM 19 7,oM 4 19]
[4]
.ret)
.skip)))))
(.reg [oK 20 .add 10 1,oM 10 20]
[1,8,9,10])))))))
(sR [oq 4]
[4]
.ret)))⟩
abbrev hc10:=hcR 133 cc10 Tryz.func133
def ccfi_:AFun:=⟨32,5,[.t 10],
 (sR [ob__ 6 55 3 1,oq 10]
[0,2,3,4,6]
(.seq (sR [oM 13 3,oM 14 4,oB 15 .geq 13 14]
[0,2,6,15]
(cT 15
.bad
.skip))
(.seq (sR [oM 19 0,oF 20 6 0,oL 21 20,op 22 (.mget true false [1] (iv 0) (.t 19) (.t 21)),oM 18 22,oE 23 18 0,oE 24 18 1,oM 11 23,oM 12 24]
[0,2,6,12]
(sR [oM 25 12]
[0,2,6,25]
(cT 25
.bad
.skip)))
(sR [oM 28 0,oF 29 6 0,oL 30 29,oM 31 2,
⟨none,.mput false [1] (.t 28) (.t 30) (.t 31),none⟩]
[]
(sR [oq 10]
[10]
.ret)))))⟩
abbrev hcfi_:=hcR 206 ccfi_ Tryz.func206
def ccfaN_:AFun:=⟨32,5,[.t 10],
 (sR [ob__ 6 55 3 1,ob__ 7 112 7 2,oq 10]
[0,3,4,6,7]
(.seq (sR [oM 13 3,oM 14 4,oB 15 .geq 13 14]
[0,6,7,15]
(cT 15
.bad
.skip))
(.seq (sR [oM 19 0,oF 20 6 0,oL 21 20,op 22 (.mget true false [1] (.agg [iv 0,iv 0,iv 0,iv 0,iv 0,.str [],.bool false]) (.t 19) (.t 21)),oM 18 22,oE 23 18 0,oE 24 18 1,oa 11 112 7 (.agg [iv 0,iv 0,iv 0,iv 0,iv 0,.str [],.bool false]),oS 11 23 7,oM 12 24]
[0,6,7,12]
(sR [oM 25 12]
[0,6,7,25]
(cT 25
.bad
.skip)))
(sR [oM 28 0,oF 29 6 0,oL 30 29,oN 31 7 7,
⟨none,.mput false [1] (.t 28) (.t 30) (.t 31),none⟩]
[]
(sR [oq 10]
[10]
.ret)))))⟩
abbrev hcfaN_:=hcR 207 ccfaN_ Tryz.func207
def cpT_:AFun:=⟨64,2,[.t 4],
 (sR [ob__ 2 30 9 0,oV 4 false]
[1,2]
(.seq (sR [oN 11 2 9,oM 12 1,oc 13 4 [.t 11,.t 12],oU 14 13]
[1,2,14]
(cT 14
(sR [oc 15 5 [],oM 4 15]
[4]
.ret)
.skip))
(sR [oN 17 2 9,oc 18 6 [.t 17],oM 16 18,oE 19 16 0,oE 20 16 1,oa 5 30 9 (.agg [.str [],.nils,.nils,.nils,.nils,iv 0,.nils,.nils,.nils]),oS 5 19 9,oM 6 20]
[1,2,5,6]
(.seq (sR [oM 21 6,oU 22 21,oM 23 22,qN 24 5 9 23 false,oG 25 (.call 7 [.t 24]) 23 false,oG 26 (.un .not (.t 25)) 23 false,oO 27 23 26]
[1,2,5,27]
(cT 27
(sR [oV 4 false]
[4]
.ret)
.skip))
(sR [oN 29 2 9,oM 30 1,oc 31 8 [.t 29,.t 30],oM 28 31,oE 32 28 0,oE 33 28 1,oM 7 32,oM 8 33]
[1,2,5,7,8]
(sR [oN 35 5 9,oM 36 1,oc 37 8 [.t 35,.t 36],oM 34 37,oE 38 34 0,oE 39 34 1,oM 9 38,oM 10 39]
[1,2,5,7,8,9,10]
(.seq (.dreg [oM 40 7,oM 41 9,oB 42 .eql 40 41,oM 43 42,qM 44 8 43 true,qM 45 10 43 true,qB 46 .eql 44 45 43 true,oA 47 43 46,oM 48 47,qM 49 8 48 true,qK 50 .neq 49 0 48 true,qM 51 50 48 true,qN 52 5 9 51 false,qM 53 1 51 false,oG 54 (.call 9 [.t 52,.t 53]) 51 false,qN 55 2 9 51 false,qM 56 1 51 false,oG 57 (.call 9 [.t 55,.t 56]) 51 false,oG 58 (.eqB false (.t 54) (.t 57)) 51 false,qO 59 51 58 48 true,oA 60 48 59,oM 61 60,oG 62 (.call 5 []) 61 true,oA 63 61 62,oM 4 63]
[4])
.ret)))))))⟩
abbrev ppT_:=pcR 3 cpT_ Tryz.func3
def cp29:AFun:=⟨26,0,[.t 0],
 (sR [oV 0 false]
[]
(sR [op 4 (.build [.str [],.bool false,.bool false] [(0,1,.k (.str [115]))]),op 5 (.build [.str [],.bool false,.bool false] [(0,1,.k (.str [116]))]),op 6 (.mkrow 53 3 2 (.agg [.str [],.bool false,.bool false]) [(0,.t 4),(1,.t 5)]),op 7 (.build [.str [],.nils,.nils,.nils,.nils,iv 0,.nils,.nils,.nils] [(0,1,.k (.str [113])),(4,1,.t 6)]),oc 8 6 [.t 7],oM 3 8,oE 9 3 0,oE 10 3 1,oa 1 30 9 (.agg [.str [],.nils,.nils,.nils,.nils,iv 0,.nils,.nils,.nils]),oS 1 9 9,oM 2 10]
[1,2]
(sR [oM 11 2,oM 12 11,qF 13 1 4 12 true,qL 14 13 12 true,oG 15 (.len false (.t 14)) 12 true,qK 16 .eql 15 1 12 true,oA 17 12 16,oM 18 17,qF 19 1 4 18 true,qL 20 19 18 true,oG 21 (.iaddr 3 (.t 20) (.k (iv 0))) 18 true,qF 22 21 0 18 true,qL 23 22 18 true,oG 24 (.bin .eql (.t 23) (.k (.str [115]))) 18 true,oA 25 18 24,oM 0 25]
[0]
.ret)))⟩
abbrev pp27:=pcR 5 cp29 Tryz.func5
def cp28:AFun:=⟨85,2,[.t 4],
 (sR [ob__ 2 30 9 0,oV 4 false]
[1,2]
(.seq (sR [oN 8 2 9,oc 9 10 [.t 8],oK 10 .eql 9 0,oM 11 10,qM 12 1 11 false,oG 13 (.len false (.t 12)) 11 false,qK 14 .gtr 13 10 11 false,oO 15 11 14,oM 16 15,qN 17 2 9 16 false,oG 18 (.call 7 [.t 17]) 16 false,oG 19 (.un .not (.t 18)) 16 false,oO 20 16 19]
[1,2,20]
(cT 20
(sR [oV 4 false]
[4]
.ret)
.skip))
(.seq (sR [oC 5 0]
[1,2,5]
(.block 0
(.loop [1,2,5] [2,9,13,18]
 (.seq (sR [oM 21 5,oF 22 2 1,oL 23 22,oZ 24 23,oB 25 .lss 21 24]
[1,2,5,25]
(cT 25
.skip x0z))
(.seq (.block 1
(sR [oF 28 2 1,oL 29 28,oM 30 5,oI 31 2 29 30,oF 32 31 1,oL 33 32,oZ 34 33,oK 35 .gtr 34 3]
[1,2,5,35]
(cT 35
(sR [oV 4 false]
[4]
.ret)
.skip)))
(.reg [oM 26 5,oK 27 .add 26 1,oM 5 27]
[1,2,5]))))))
(.seq (sR [oC 6 0]
[1,2,6]
(.block 2
(.loop [1,2,6] [2,9,13,18,24,34]
 (.seq (sR [oM 36 6,oM 37 1,oZ 38 37,oB 39 .lss 36 38]
[1,2,6,39]
(cT 39
.skip x2z))
(.seq (.block 3
(.seq (.seq (.dreg [oM 42 1,oM 43 6,oI 44 2 42 43,oF 45 44 1,oL 46 45,oZ 47 46,oK 48 .gtr 47 12,oM 49 48,qF 50 2 1 49 false,qL 51 50 49 false,qM 52 1 49 false,qM 53 6 49 false,qI 54 2 52 53 49 false,qN 55 54 2 49 false,oG 56 (.call 11 [.t 51,.t 55]) 49 false,oG 57 (.un .not (.t 56)) 49 false,oO 58 49 57]
[1,2,6,58])
(cT 58
(sR [oV 4 false]
[4]
.ret)
.skip))
(sR [oC 7 0]
[1,2,6,7]
(.block 4
(.loop [1,2,6,7] [2,9,13,18,24,34,38,47,56]
 (.seq (sR [oM 59 7,oM 60 1,oM 61 6,oI 62 2 60 61,oF 63 62 1,oL 64 63,oZ 65 64,oB 66 .lss 59 65]
[1,2,6,7,66]
(cT 66
.skip
(.exit 4)))
(.seq (.block 5
(sR [oM 69 1,oM 70 6,oI 71 2 69 70,oF 72 71 1,oL 73 72,oM 74 7,oI 75 4 73 74,oF 76 75 2,oL 77 76,oy 78 77,oK 79 .gtr 78 100]
[1,2,6,7,79]
(cT 79
(sR [oV 4 false]
[4]
.ret)
.skip)))
(.reg [oM 67 7,oK 68 .add 67 1,oM 7 68]
[1,2,6,7]))))))))
(.reg [oM 40 6,oK 41 .add 40 1,oM 6 41]
[1,2,6]))))))
(sR [oN 80 2 9,oM 81 1,oc 82 13 [.t 80,.t 81],oc 83 12 [.t 82,.k (.bool true)],oK 84 .leq 83 150,oM 4 84]
[4]
.ret)))))⟩
abbrev pp26:=pcR 4 cp28 Tryz.func4
def cp37:AFun:=⟨61,3,[.t 6],
 (sR [ob__ 3 30 9 0,ob__ 5 45 2 2,op 6 (.nilrow 43 1)]
[1,3,5]
(sR [op 7 (.nilrow 43 1)]
[1,3,5,7]
(sR [op 8 (.nilrow 185 3)]
[1,3,5,7,8]
(.seq (sR [oF 14 3 1,oL 15 14,oN 16 5 2,oc 17 11 [.t 15,.t 16]]
[1,3,5,7,8,17]
(cT 17
(.reg [oN 18 3 9,oN 19 5 2,oc 20 72 [.t 18,.t 19],oM 8 20]
[1,3,7,8])
.skip))
(.seq (sR [oC 9 0]
[1,3,7,8,9]
(.block 0
(.loop [1,3,7,8,9] [3,5,6,7,8,17,20,59]
 (.seq (sR [oM 21 9,oF 22 3 2,oL 23 22,oZ 24 23,oB 25 .lss 21 24]
[1,3,7,8,9,25]
(cT 25
.skip x0z))
(.seq (.block 1
(sR [op 10 (.nilrow 48 4)]
[1,3,7,8,9,10]
(.seq (sR [oM 28 9,oM 29 1,oZ 30 29,oB 31 .lss 28 30]
[1,3,7,8,9,10,31]
(cT 31
(.reg [oM 32 1,oM 33 9,oI 34 1 32 33,oL 35 34,oM 10 35]
[1,3,7,8,9,10])
.skip))
(.seq (sR [oC 11 0]
[1,3,7,8,9,10,11]
(.block 2
(.loop [1,3,7,8,9,10,11] [3,5,6,7,8,17,20,24,10,30]
 (.seq (sR [oM 36 11,oM 37 8,oZ 38 37,oB 39 .lss 36 38]
[1,3,7,8,9,10,11,39]
(cT 39
.skip x2z))
(.seq (.block 3
(sR [oM 43 8,oM 44 11,oI 45 3 43 44,oF 46 45 1,oL 47 46,oM 48 9,oc 49 73 [.t 47,.t 48],oM 42 49,oE 50 42 0,oE 51 42 1,oa 12 48 4 (.agg [iv 0,iv 0,.str [],.bool false]),oS 12 50 4,oM 13 51]
[1,3,7,8,9,10,11,12,13]
(sR [oM 52 13]
[1,3,7,8,9,10,11,12,52]
(cT 52
(.reg [oM 53 10,oN 54 12 4,oc 55 74 [.t 53,.t 54],oM 10 55]
[1,3,7,8,9,10,11])
.skip))))
(.reg [oM 40 11,oK 41 .add 40 1,oM 11 41]
[1,3,7,8,9,10,11]))))))
(.reg [oM 56 7,oM 57 10,op 58 (.mkrow 43 1 1 (.nils) [(0,.t 57)]),op 59 (.app 43 1 24 (.t 56) (.t 58)),oM 7 59]
[1,3,7,8,9])))))
(.reg [oM 26 9,oK 27 .add 26 1,oM 9 27]
[1,3,7,8,9]))))))
(sR [oM 60 7,oM 6 60]
[6]
.ret))))))⟩
abbrev pp35:=pcR 36 cp37 Tryz.func36
def cpB_:AFun:=⟨57,4,[.t 8],
 (sR [op 8 (.nilrow 101 1)]
[0,1,2,3]
(.seq (sR [oM 12 1,oM 13 0,oZ 14 13,oB 15 .geq 12 14]
[0,1,2,3,15]
(cT 15
(sR [oM 16 2,op 17 (.mkrow 101 1 1 (.nils) [(0,.t 16)]),oM 8 17]
[8]
.ret)
.skip))
(sR [op 9 (.nilrow 101 1)]
[0,1,2,3,9]
(.seq (sR [oM 18 3]
[0,1,2,3,9,18]
(cT 18
(.reg [oM 19 0,oM 20 1,oK 21 .add 20 1,oM 22 2,oM 23 3,oc 24 30 [.t 19,.t 21,.t 22,.t 23],oM 9 24]
[0,1,2,3,9])
.skip))
(.seq (sR [oC 10 0]
[0,1,2,3,9,10]
(.block 0
(.loop [0,1,2,3,9,10] [8,14,17,9,24,36,47,55]
 (.seq (sR [oM 25 10,oM 26 0,oM 27 1,oI 28 1 26 27,oL 29 28,oZ 30 29,oB 31 .lss 25 30]
[0,1,2,3,9,10,31]
(cT 31
.skip x0z))
(.seq (.block 1
(.seq (.dregT [op 34 (.mkrow 174 5 0 (.agg [iv 0,iv 0,iv 0,.str [],.bool false]) []),oM 35 2,op 36 (.app 174 5 48 (.t 34) (.t 35)),oM 37 1,oM 38 0,oM 39 1,oI 40 1 38 39,oL 41 40,oM 42 10,oI 43 4 41 42,oN 44 43 4,op 45 (.build [iv 0,iv 0,iv 0,.str [],.bool false] [(0,1,.t 37),(1,4,.t 44)]),op 46 (.mkrow 174 5 1 (.agg [iv 0,iv 0,iv 0,.str [],.bool false]) [(0,.t 45)]),op 47 (.app 174 5 48 (.t 36) (.t 46)),oM 11 47]
[0,2,12,13] [[],[],[0],[],[],[],[],[],[],[],[],[],[],[0,2,12],[0,2,12,13]] [[],[2,13],[],[12,13],[12,13],[12,13],[12,13],[12,13],[12,13],[12,13],[12,13],[12,13],[],[],[]] [1,3,4,5,6,7,8,9,10,11]
(.next 0 [] [1,3,4,5,6,7,8,9,10,11] (.next 2 [] [3,4,5,6,7,8,9,10,11] (.next 12 [] [] (.next 13 [14] [] .fin .nil) .nil) (.next 12 [] [1] (.next 2 [] [] (.next 13 [14] [] .fin .nil) .nil) .nil)) (.next 12 [] [1] (.next 0 [] [1] (.next 2 [] [] (.next 13 [14] [] .fin .nil) .nil) .nil) .nil))
[0,1,2,3,9,10,11,34,35,36,37,38,39,40,41,42,43,44,45,46,47] [0,1,2,3,9,10,11])
(.reg [oM 48 9,oM 49 0,oM 50 1,oK 51 .add 50 1,oM 52 11,oM 53 3,oc 54 30 [.t 49,.t 51,.t 52,.t 53],op 55 (.app 101 1 24 (.t 48) (.t 54)),oM 9 55]
[0,1,2,3,9,10])))
(.reg [oM 32 10,oK 33 .add 32 1,oM 10 33]
[0,1,2,3,9,10]))))))
(sR [oM 56 9,oM 8 56]
[8]
.ret))))))⟩
abbrev hpB_:=hcR 30 cpB_ Tryz.func30
def cp30:AFun:=⟨28,2,[.t 4],
 (sR [oC 4 0]
[0,1]
(sR [oC 5 1]
[0,1,5]
(.seq (sR [oC 6 0]
[0,1,5,6]
(.block 0
(.loop [0,1,5,6] []
 (.seq (sR [oM 8 6,oM 9 0,oZ 10 9,oB 11 .lss 8 10]
[0,1,5,6,11]
(cT 11
.skip x0z))
(.seq (.block 1
(sR [oM 14 0,oM 15 6,oI 16 1 14 15,oL 17 16,oZ 18 17,oM 7 18]
[0,1,5,6,7]
(.seq (sR [oM 19 1]
[0,1,5,6,7,19]
(cT 19
(.reg [oM 20 7,oK 21 .add 20 1,oM 7 21]
[0,1,5,6,7])
.skip))
(.reg [oM 22 5,oM 23 7,op 24 (.mx true (.t 23) (.k (iv 1000000))),oB 25 .mul 22 24,op 26 (.mx true (.t 25) (.k (iv 1000000))),oM 5 26]
[0,1,5,6]))))
(.reg [oM 12 6,oK 13 .add 12 1,oM 6 13]
[0,1,5,6]))))))
(sR [oM 27 5,oM 4 27]
[4]
.ret))))⟩
abbrev pp28:=pcR 12 cp30 Tryz.func12
def cp46:AFun:=⟨25,2,[.t 4],
 (sR [ob__ 2 30 9 0,op 4 (.nilrow 43 1)]
[1,2]
(sR [oF 7 2 2,oL 8 7,oZ 9 8,op 10 (.mks 43 1 24 (.nils) (.t 9) (.t 9)),oM 5 10]
[1,2,5]
(.seq (sR [oC 6 0]
[1,2,5,6]
(.block 0
(.loop [1,2,5,6] [2,4,9,10]
 (.seq (sR [oM 11 6,oM 12 1,oZ 13 12,oB 14 .lss 11 13]
[1,2,5,6,14]
(cT 14
.skip x0z))
(.seq (.block 1
(.dreg [oN 17 2 9,oM 18 5,oM 19 1,oM 20 6,oI 21 2 19 20,oN 22 21 2,oc 23 36 [.t 17,.t 18,.t 22],oM 5 23]
[1,2,5,6]))
(.reg [oM 15 6,oK 16 .add 15 1,oM 6 16]
[1,2,5,6]))))))
(sR [oM 24 5,oM 4 24]
[4]
.ret))))⟩
abbrev pp45:=pcR 13 cp46 Tryz.func13
def cpP_:AFun:=⟨48,2,[.t 4],
 (sR [ob__ 3 48 4 1,op 4 (.nilrow 48 4)]
[0,3]
(sR [oM 7 0,oZ 8 7,oM 5 8]
[0,3,5]
(.seq (.block 0
(.loop [0,3,5] [3,4,8]
 (.seq (.seq (.dreg [oM 9 5,oK 10 .gtr 9 0,oM 11 10,qN 12 3 4 11 true,qM 13 0 11 true,qM 14 5 11 true,qK 15 .sub 14 1 11 true,qI 16 4 13 15 11 true,qN 17 16 4 11 true,oG 18 (.call 147 [.t 12,.t 17]) 11 true,oA 19 11 18]
[0,3,5,19])
(cT 19
.skip x0z))
(.block 1
(.reg [oM 20 5,oK 21 .sub 20 1,oM 5 21]
[0,3,5])))))
(.seq (.seq (.dreg [oM 22 5,oK 23 .gtr 22 0,oM 24 23,qM 25 0 24 true,qM 26 5 24 true,qK 27 .sub 26 1 24 true,qI 28 4 25 27 24 true,qN 29 28 4 24 true,qN 30 3 4 24 true,oG 31 (.eqA false [0,0,1,2] (.t 29) (.t 30)) 24 true,oA 32 24 31]
[0,3,5,32])
(cT 32
(sR [oM 33 0,oM 4 33]
[4]
.ret)
.skip))
(sR [op 34 (.mkrow 48 4 0 (.agg [iv 0,iv 0,.str [],.bool false]) []),oM 35 0,oM 36 5,op 37 (.slc 4 (.t 35) none (some (.t 36))),op 38 (.app 48 4 40 (.t 34) (.t 37)),oM 6 38]
[0,3,5,6]
(sR [oM 39 6,oN 40 3 4,op 41 (.mkrow 48 4 1 (.agg [iv 0,iv 0,.str [],.bool false]) [(0,.t 40)]),op 42 (.app 48 4 40 (.t 39) (.t 41)),oM 6 42]
[0,5,6]
(sR [oM 43 6,oM 44 0,oM 45 5,op 46 (.slc 4 (.t 44) (some (.t 45)) none),op 47 (.app 48 4 40 (.t 43) (.t 46)),oM 4 47]
[4]
.ret)))))))⟩
abbrev ppP_:=pcR 74 cpP_ Tryz.func74
def cp12:AFun:=⟨23,3,[.t 6],
 (sR [ob__ 3 30 9 0,oV 6 false]
[1,2,3]
(.seq (.dreg [oN 11 3 9,oM 12 1,oN 13 3 9,oc 14 32 [.t 13],oM 15 2,oc 16 31 [.t 11,.t 12,.t 14,.t 15],oM 10 16,oE 17 10 0,oE 18 10 1,oE 19 10 2,oM 7 17,oM 8 18,oM 9 19]
[3,7])
(sR [oN 20 3 9,oM 21 7,oc 22 145 [.t 20,.t 21],oM 6 22]
[6]
.ret)))⟩
abbrev pp11:=pcR 71 cp12 Tryz.func71
def cp15:AFun:=⟨11,2,[.t 4],
 (sR [ob__ 2 30 9 0,oV 4 false]
[1,2]
(.seq (.dreg [oN 5 2 9,oN 6 2 9,oM 7 1,oc 8 13 [.t 6,.t 7],oM 9 1,oc 10 33 [.t 5,.t 8,.k (iv 0),.k (.nils),.t 9],oM 4 10]
[4])
.ret))⟩
abbrev ppH_:=pcR 9 cp15 Tryz.func9
def cpW_:AFun:=⟨61,2,[.t 4,.t 5],
 (sR [ob__ 2 30 9 0,oC 4 0,oC 5 0]
[1,2]
(sR [oN 13 2 9,oM 14 1,oc 15 13 [.t 13,.t 14],oc 16 30 [.t 15,.k (iv 0),.k (.nils),.k (.bool true)],oM 6 16]
[1,2,6]
(sR [oC 7 0]
[1,2,6,7]
(sR [oC 8 0]
[1,2,6,7,8]
(.seq (sR [oC 9 0]
[1,2,6,7,8,9]
(.block 0
(.loop [1,2,6,7,8,9] [2,15,16]
 (.seq (sR [oM 17 9,oM 18 6,oZ 19 18,oB 20 .lss 17 19]
[1,2,6,7,8,9,20]
(cT 20
.skip x0z))
(.seq (.block 1
(.seq (.dreg [oN 24 2 9,oM 25 6,oM 26 9,oI 27 1 25 26,oL 28 27,oN 29 2 9,oc 30 32 [.t 29],oM 31 1,oc 32 31 [.t 24,.t 28,.t 30,.t 31],oM 23 32,oE 33 23 0,oE 34 23 1,oE 35 23 2,oM 10 33,oM 11 34,oM 12 35]
[1,2,6,7,8,9,11,12])
(sR [oM 36 11,oK 37 .neq 36 0,oM 38 37,qM 39 7 38 true,qK 40 .eql 39 0 38 true,qM 41 40 38 true,qM 42 12 41 false,qM 43 7 41 false,qB 44 .lss 42 43 41 false,qO 45 41 44 38 true,qM 46 45 38 true,qM 47 12 46 false,qM 48 7 46 false,qB 49 .eql 47 48 46 false,qM 50 49 46 false,qM 51 11 50 true,qM 52 8 50 true,qB 53 .lss 51 52 50 true,qA 54 50 53 46 false,qO 55 46 54 38 true,oA 56 38 55]
[1,2,6,7,8,9,11,12,56]
(cT 56
(sR [oM 57 12,oM 7 57]
[1,2,6,7,9,11]
(.reg [oM 58 11,oM 8 58]
[1,2,6,7,8,9]))
.skip))))
(.reg [oM 21 9,oK 22 .add 21 1,oM 9 22]
[1,2,6,7,8,9]))))))
(sR [oM 59 7,oM 60 8,oM 4 59,oM 5 60]
[4,5]
.ret))))))⟩
abbrev ppW_:=pcR 8 cpW_ Tryz.func8
def cph_:AFun:=⟨63,5,[.t 10],
 (sR [ob__ 5 30 9 0,oV 10 false]
[1,2,3,4,5]
(.seq (sR [oM 14 2,oM 15 1,oZ 16 15,oB 17 .geq 14 16]
[1,2,3,4,5,17]
(cT 17
(sR [oN 18 5 9,oM 19 3,oM 20 4,oc 21 71 [.t 18,.t 19,.t 20],oM 10 21]
[10]
.ret)
.skip))
(sR [oF 22 5 2,oL 23 22,oM 24 2,oI 25 3 23 24,oF 26 25 0,oL 27 26,oM 11 27]
[1,2,3,4,5,11]
(.seq (sR [oC 12 0]
[1,2,3,4,5,11,12]
(.block 0
(.loop [1,2,3,4,5,11,12] [5,16,21,39,50]
 (.seq (sR [oM 28 12,oM 29 1,oM 30 2,oI 31 1 29 30,oL 32 31,oZ 33 32,oB 34 .lss 28 33]
[1,2,3,4,5,11,12,34]
(cT 34
.skip x0z))
(.seq (.block 1
(.seq (.dregT [op 37 (.mkrow 174 5 0 (.agg [iv 0,iv 0,iv 0,.str [],.bool false]) []),oM 38 3,op 39 (.app 174 5 48 (.t 37) (.t 38)),oM 40 2,oM 41 1,oM 42 2,oI 43 1 41 42,oL 44 43,oM 45 12,oI 46 4 44 45,oN 47 46 4,op 48 (.build [iv 0,iv 0,iv 0,.str [],.bool false] [(0,1,.t 40),(1,4,.t 47)]),op 49 (.mkrow 174 5 1 (.agg [iv 0,iv 0,iv 0,.str [],.bool false]) [(0,.t 48)]),op 50 (.app 174 5 48 (.t 39) (.t 49)),oM 13 50]
[0,2,12,13] [[],[],[0],[],[],[],[],[],[],[],[],[],[],[0,2,12],[0,2,12,13]] [[],[2,13],[],[12,13],[12,13],[12,13],[12,13],[12,13],[12,13],[12,13],[12,13],[12,13],[],[],[]] [1,3,4,5,6,7,8,9,10,11]
(.next 0 [] [1,3,4,5,6,7,8,9,10,11] (.next 2 [] [3,4,5,6,7,8,9,10,11] (.next 12 [] [] (.next 13 [14] [] .fin .nil) .nil) (.next 12 [] [1] (.next 2 [] [] (.next 13 [14] [] .fin .nil) .nil) .nil)) (.next 12 [] [1] (.next 0 [] [1] (.next 2 [] [] (.next 13 [14] [] .fin .nil) .nil) .nil) .nil))
[1,2,3,4,5,11,12,13,37,38,39,40,41,42,43,44,45,46,47,48,49,50] [1,2,3,4,5,11,12,13])
(sR [oN 51 5 9,oM 52 1,oM 53 2,oK 54 .add 53 1,oM 55 13,oM 56 4,oc 57 33 [.t 51,.t 52,.t 54,.t 55,.t 56],oM 58 11,op 59 (.eqB true (.t 57) (.t 58))]
[1,2,3,4,5,11,12,59]
(cT 59
(sR [oM 60 11,oU 61 60,oM 10 61]
[10]
.ret)
.skip))))
(.reg [oM 35 12,oK 36 .add 35 1,oM 12 36]
[1,2,3,4,5,11,12]))))))
(sR [oM 62 11,oM 10 62]
[10]
.ret)))))⟩
abbrev pph_:=pcR 33 cph_ Tryz.func33
def ctR_:AFun:=⟨41,1,[.t 2],
 (sR [ob__ 1 63 12 0,oV 2 false]
[1]
(sR [oF 3 1 0,oN 4 3 3,oc 5 94 [.t 4],oM 6 5,qF 7 1 7 6 true,qN 8 7 3 6 true,oG 9 (.call 94 [.t 8]) 6 true,oA 10 6 9,oM 11 10,qF 12 1 3 11 true,qL 13 12 11 true,oG 14 (.call 95 [.t 13,.f 96]) 11 true,oA 15 11 14,oM 16 15,qF 17 1 4 16 true,qL 18 17 16 true,oG 19 (.call 99 [.t 18,.f 100]) 16 true,oA 20 16 19,oM 21 20,qF 22 1 5 21 true,qL 23 22 21 true,oG 24 (.call 101 [.t 23,.f 102]) 21 true,oA 25 21 24,oM 26 25,qF 27 1 6 26 true,qL 28 27 26 true,oG 29 (.call 104 [.t 28,.f 105]) 26 true,oA 30 26 29,oM 31 30,qF 32 1 10 31 true,qL 33 32 31 true,oG 34 (.call 106 [.t 33,.f 107]) 31 true,oA 35 31 34,oM 36 35,qF 37 1 11 36 true,qL 38 37 36 true,oG 39 (.call 108 [.t 38,.f 109]) 36 true,oA 40 36 39,oM 2 40]
[2]
.ret))⟩
abbrev ptR_:=pcR 59 ctR_ Tryz.func59
def ctR1z:AFun:=⟨11,1,[.t 2],
 (sR [ob__ 1 119 4 0,oV 2 false]
[1]
(sR [oF 3 1 0,oN 4 3 3,oc 5 94 [.t 4],oM 6 5,qF 7 1 3 6 true,qL 8 7 6 true,oG 9 (.call 97 [.t 8,.f 98]) 6 true,oA 10 6 9,oM 2 10]
[2]
.ret))⟩
abbrev ptR1z:=pcR 96 ctR1z Tryz.func96
def ctR2z:AFun:=⟨11,1,[.t 2],
 (sR [ob__ 1 126 5 0,oV 2 false]
[1]
(sR [oF 3 1 1,oN 4 3 3,oc 5 94 [.t 4],oM 6 5,qF 7 1 4 6 true,qL 8 7 6 true,oG 9 (.call 98 [.t 8]) 6 true,oA 10 6 9,oM 2 10]
[2]
.ret))⟩
abbrev ptR2z:=pcR 100 ctR2z Tryz.func100
def ctR3z:AFun:=⟨11,1,[.t 2],
 (sR [ob__ 1 130 7 0,oV 2 false]
[1]
(sR [oF 3 1 0,oN 4 3 3,oc 5 94 [.t 4],oM 6 5,qF 7 1 3 6 true,qN 8 7 4 6 true,oG 9 (.call 103 [.t 8]) 6 true,oA 10 6 9,oM 2 10]
[2]
.ret))⟩
abbrev ptR3z:=pcR 102 ctR3z Tryz.func102
def ctR4z:AFun:=⟨6,1,[.t 2],
 (sR [ob__ 1 73 5 0,oV 2 false]
[1]
(sR [oF 3 1 0,oN 4 3 3,oc 5 94 [.t 4],oM 2 5]
[2]
.ret))⟩
abbrev ptR4z:=pcR 105 ctR4z Tryz.func105
def ctai1z:AFun:=⟨8,2,[.t 3],
 (sR [oV 3 false]
[0,1]
(sR [oL 4 1,oM 5 0,op 6 (.callv (.t 4) [.t 5]),oU 7 6,oM 3 7]
[3]
.ret))⟩
abbrev ptai1z:=pcR 184 ctai1z Tryz.func184
