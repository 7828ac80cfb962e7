/-
  Lemmas. No claim is proved here.
-/
import Derived.Test.YtkadalpaeglmnaaGreatDoorYAcR0
set_option linter.unusedSimpArgs false
namespace Go.Proofs.YtkadalpaeglmnaaGreatDoor.Ab
open Go
def ccca_:AFun:=⟨68,3,[.cells 6 6,.t 7],
 (.seq (.reg [op 4 (.box ta18 8 (.t 1)),op 6 (.alloc taA_ 6 (.agg [iv 0,iv 0,iv 0,iv 0,.str [],.bool false])),op 7 (.mov (.k (.nili)))]
[0,2,4,6])
(.seq (.reg [op 12 (.build [iv 0,iv 0,iv 0,iv 0,.str [],.bool false] [(0,1,.k (iv 4))]),oM 13 2,op 8 (.alloc taA_ 6 (.agg [iv 0,iv 0,iv 0,iv 0,.str [],.bool false])),
⟨none,.store (.t 8) (.t 12) 6,none⟩,oM 9 13]
[0,2,4,6,8,9])
(.seq (.seq (.reg [oF 14 4 0,oL 15 14]
[0,2,4,6,8,9,15])
(.block 0
(.seq (.reg [oK 17 .eql 15 1,oM 16 17]
[0,2,4,6,8,9,15,16])
(.cond (.t 16)
(.dregC [oF 18 4 2,oN 19 18 4,op 20 (.build [iv 0,iv 0,iv 0,iv 0,.str [],.bool false] [(0,1,.k (iv 1)),(2,4,.t 19)]),oF 21 4 2,oF 22 21 0,oL 23 22,
⟨none,.store (.t 8) (.t 20) 6,none⟩,oM 9 23]
[6] [0,0,0,0,0,0,1,1] [0,0,0,1,1,1,1,1] [([0,1,2,3,4,5],[]),([7],[3,4,5])] [2,4,6,8,9,18,19,20,21,22,23]
[2,6,8,9])
(.seq (.reg [oK 25 .eql 15 2,oM 24 25]
[0,2,4,6,8,9,24])
(.cond (.t 24)
(.seq (.dregA [oM 27 0,op 28 (.nchk (.t 27)),oF 29 28 10,oL 30 29,oF 31 4 1,oL 32 31,op 33 (.mget true false [1] (.agg [iv 0,iv 0,iv 0,iv 0,iv 0,.str [],.bool false]) (.t 30) (.t 32)),oM 26 33,oE 34 26 0,oE 35 26 1,op 10 (.alloc taN_ 7 (.agg [iv 0,iv 0,iv 0,iv 0,iv 0,.str [],.bool false])),
⟨none,.store (.t 10) (.t 34) 7,none⟩,oM 11 35] 10 11 [0,2,6,8,10,11,26,27,28,29,30,31,32,33,34,35]
[0,2,6,8,10,11])
(.seq (.seq (.reg [oM 36 11,oU 37 36]
[0,2,6,8,10,37])
(.cond (.t 37)
.bad
.skip))
(.dreg [oF 47 10 0,oL 48 47,oF 49 10 1,oL 50 49,op 51 (.build [iv 0,iv 0,iv 0,iv 0,.str [],.bool false] [(0,1,.t 48),(1,1,.t 50)]),oM 52 0,oN 53 10 7,op 54 (.call ncck_ [.t 52,.t 53]),
⟨none,.store (.t 8) (.t 51) 6,none⟩,oM 9 54]
[2,6,8,9])))
.skip))))))
(.seq (.seq (.reg [oM 55 9,oM 56 2,oB 57 .neq 55 56]
[6,8,57])
(.cond (.t 57)
.bad
.skip))
(.seq (.reg [oN 67 8 6,
⟨none,.store (.t 6) (.t 67) 6,none⟩,op 7 (.mov (.k (.nili)))]
[6,7])
.ret)))))⟩
abbrev pcca_:=pcR ncca_ ccca_ Tryz.func198
def cccd_:AFun:=⟨51,2,[.t 4],
 (.seq (.reg [op 3 (.box ta17 4 (.t 1)),op 4 (.mov (.k (.nili)))]
[0,3])
(.seq (.seq (.reg [oF 6 3 3,oL 7 6,oZ 8 7,oK 9 .gtr 8 8]
[0,3,9])
(.cond (.t 9)
.bad
.skip))
(.seq (.dreg [oM 13 0,op 14 (.nchk (.t 13)),oF 15 14 9,oL 16 15,oF 17 3 0,oN 18 17 3,oM 19 0,op 20 (.nchk (.t 19)),oF 21 20 0,oF 22 21 1,oL 23 22,oZ 24 23,oM 25 0,op 26 (.nchk (.t 25)),oF 27 26 0,oF 28 27 1,oL 29 28,oZ 30 29,op 31 (.callB ncfi_ [.t 16,.t 18,.t 24,.t 30,.k (iv 32)]),oM 5 31]
[0,3,5])
(.seq (.dregC [oM 32 0,oM 33 0,op 34 (.nchk (.t 33)),oF 35 34 0,oF 36 35 1,oL 37 36,oF 38 3 0,oF 39 38 0,oL 40 39,oF 41 3 3,oL 42 41,op 43 (.call ns28 [.t 42]),op 44 (.build [.str [],.nils] [(0,1,.t 40),(1,1,.t 43)]),op 45 (.mkrow taD_ 2 1 (.agg [.str [],.nils]) [(0,.t 44)]),op 46 (.app taD_ 2 40 (.t 37) (.t 45)),op 47 (.nchk (.t 32)),oF 48 47 0,oF 49 48 1,
⟨none,.store (.t 49) (.t 46) 1,none⟩]
[13,14,18] [0,0,0,0,0,0,0,0,0,0,0,0,0,1,2,2,2,2,3] [2,1,1,1,1,1,0,0,0,0,0,0,0,3,3,2,2,2,3] [([0,1,2,3,4,5,6,7,8,9,10,11,12],[]),([],[0,1,2,3,4,5]),([15,16,17],[0]),([],[])] [0,3,5,32,33,34,35,36,37,38,39,40,41,42,43,44,45,46,47,48,49]
[5])
(.seq (.reg [oM 50 5,oM 4 50]
[4])
.ret)))))⟩
abbrev hccd_:=hcR nccd_ cccd_ Tryz.func111
def ccce_:AFun:=⟨105,4,[.t 8],
 (.seq (.reg [op 8 (.mov (.k (.nili)))]
[0,1,2,3])
(.seq (.block 0
(.loop [0,1,2,3] [63,70]
 (.seq (.seq (.reg [oM 13 1,op 14 (.nchk (.t 13)),oF 15 14 4,oL 16 15,oM 17 2,oB 18 .leq 16 17]
[0,1,2,3,18])
(.cond (.t 18)
.skip
(.exit 0)))
(.seq (.block 1
(.seq (.dregA [oM 26 1,op 27 (.nchk (.t 26)),oF 28 27 0,oL 29 28,oM 30 1,op 31 (.nchk (.t 30)),oF 32 31 4,oL 33 32,oI 34 10 29 33,oN 35 34 10,op 9 (.alloc taE_ 10 (.agg [iv 0,iv 0,iv 0,.str [],iv 0,iv 0,.str [],.bool false,iv 0,iv 0])),
⟨none,.store (.t 9) (.t 35) 10,none⟩] 10 11 [0,1,2,3,9,26,27,28,29,30,31,32,33,34,35]
[0,1,2,3,9])
(.seq (.reg [oM 37 0,oM 38 1,oN 39 9 10,op 40 (.call nccn_ [.t 37,.t 38,.t 39]),oM 36 40,oE 41 36 0,oE 42 36 1,oE 43 36 2,op 10 (.alloc taN_ 7 (.agg [iv 0,iv 0,iv 0,iv 0,iv 0,.str [],.bool false])),
⟨none,.store (.t 10) (.t 41) 7,none⟩,oM 11 42,oM 12 43]
[0,1,2,3,10,11,12])
(.seq (.seq (.reg [oM 44 12,op 45 (.eqI true (.t 44) (.k (.nili)))]
[0,1,2,3,10,11,45])
(.cond (.t 45)
.bad
.skip))
(.dregT [oM 54 0,oM 55 1,oM 56 0,op 57 (.nchk (.t 56)),oF 58 57 0,oF 59 58 7,oL 60 59,oN 61 10 7,op 62 (.mkrow taN_ 7 1 (.agg [iv 0,iv 0,iv 0,iv 0,iv 0,.str [],.bool false]) [(0,.t 61)]),op 63 (.app taN_ 7 64 (.t 60) (.t 62)),oM 64 1,op 65 (.nchk (.t 64)),oF 66 65 5,oL 67 66,oM 68 11,op 69 (.mkrow ti_ 1 1 (iv 0) [(0,.t 68)]),op 70 (.app ti_ 1 8 (.t 67) (.t 69)),op 71 (.nchk (.t 54)),oF 72 71 0,oF 73 72 7,
⟨none,.store (.t 73) (.t 63) 1,none⟩,op 74 (.nchk (.t 55)),oF 75 74 5,
⟨none,.store (.t 75) (.t 70) 1,none⟩]
[8,9,15,16,20,23] [[],[],[],[],[],[],[],[],[],[8],[],[],[],[],[],[],[8,9,15],[8,9,15,16],[8,9,15,16],[8,9,15,16],[8,9,15,16],[8,9,15,16,20],[8,9,15,16,20],[8,9,15,16,20]] [[20,23],[23],[9,16,20,23],[9,16,20,23],[9,16,20,23],[9,16,20,23],[9,16,20,23],[8,9,16,20,23],[],[],[16,20,23],[16,20,23],[16,20,23],[16,20,23],[15,16,20,23],[],[],[20,23],[20,23],[20,23],[],[23],[23],[]] [0,1,2,3,4,5,6,7,10,11,12,13,14]
(.next 8 [] [0,1,2,3,4,5,6,10,11,12,13,14] (.next 9 [] [0,1,10,11,12,13,14] (.next 15 [] [0,1,10,11,12,13] (.next 16 [17,18,19] [0,1] (.next 20 [21,22] [1] (.next 23 [] [] .fin .nil) .nil) .nil) .nil) (.next 15 [] [0,1,2,3,4,5,6,10,11,12,13] (.next 9 [] [0,1,10,11,12,13] (.next 16 [17,18,19] [0,1] (.next 20 [21,22] [1] (.next 23 [] [] .fin .nil) .nil) .nil) .nil) .nil)) (.next 15 [] [0,1,2,3,4,5,6,7,10,11,12,13] (.next 8 [] [0,1,2,3,4,5,6,10,11,12,13] (.next 9 [] [0,1,10,11,12,13] (.next 16 [17,18,19] [0,1] (.next 20 [21,22] [1] (.next 23 [] [] .fin .nil) .nil) .nil) .nil) .nil) .nil))
[0,1,2,3,10,11,54,55,56,57,58,59,60,61,62,63,64,65,66,67,68,69,70,71,72,73,74,75] [0,1,2,3])))))
(.reg [oM 19 1,op 20 (.nchk (.t 19)),oF 21 20 4,oL 22 21,oK 23 .add 22 1,op 24 (.nchk (.t 19)),oF 25 24 4,
⟨none,.store (.t 25) (.t 23) 1,none⟩]
[0,1,2,3])))))
(.seq (.seq (.reg [oM 76 1,op 77 (.nchk (.t 76)),oF 78 77 5,oL 79 78,oM 80 2,oI 81 1 79 80,oL 82 81,oM 83 3,oB 84 .neq 82 83]
[84])
(.cond (.t 84)
.bad
.skip))
(.seq (.reg [op 8 (.mov (.k (.nili)))]
[8])
.ret))))⟩
abbrev hcce_:=hcR ncce_ ccce_ Tryz.func201
def cc20:AFun:=⟨23,2,[.t 4,.t 5],
 (.seq (.reg [op 3 (.box taI_ 3 (.t 1)),oC 4 0,op 5 (.mov (.k (.nili)))]
[0,3])
(.seq (.dreg [oM 9 0,op 10 (.nchk (.t 9)),oF 11 10 11,oL 12 11,oF 13 3 0,oL 14 13,op 15 (.mget true false [1] (iv 0) (.t 12) (.t 14)),oM 8 15,oE 16 8 0,oE 17 8 1,oM 6 16,oM 7 17]
[6,7])
(.seq (.seq (.reg [oM 18 7,oU 19 18]
[6,19])
(.cond (.t 19)
.bad
.skip))
(.seq (.reg [oM 22 6,oM 4 22,op 5 (.mov (.k (.nili)))]
[4,5])
.ret))))⟩
abbrev pccf_:=pcR nc11 cc20 Tryz.func122
def cccf_:AFun:=⟨39,2,[.t 4],
 (.seq (.reg [op 3 (.box ta16 7 (.t 1)),op 4 (.mov (.k (.nili)))]
[0,3])
(.seq (.reg [oM 6 0,op 7 (.nchk (.t 6)),oF 8 7 0,oF 9 8 3,oL 10 9,oZ 11 10,oM 5 11]
[0,3,5])
(.seq (.dregC [oM 12 0,oM 13 0,op 14 (.nchk (.t 13)),oF 15 14 0,oF 16 15 3,oL 17 16,oF 18 3 0,oF 19 18 0,oL 20 19,oF 21 3 3,oN 22 21 4,op 23 (.build [.str [],iv 0,iv 0,.str [],.bool false] [(0,1,.t 20),(1,4,.t 22)]),op 24 (.mkrow taF_ 5 1 (.agg [.str [],iv 0,iv 0,.str [],.bool false]) [(0,.t 23)]),op 25 (.app taF_ 5 56 (.t 17) (.t 24)),op 26 (.nchk (.t 12)),oF 27 26 0,oF 28 27 3,
⟨none,.store (.t 28) (.t 25) 1,none⟩]
[12,13,17] [0,0,0,0,0,0,0,0,0,0,0,0,1,2,2,2,2,3] [2,1,1,1,1,1,0,0,0,0,0,0,3,3,2,2,2,3] [([0,1,2,3,4,5,6,7,8,9,10,11],[]),([],[0,1,2,3,4,5]),([14,15,16],[0]),([],[])] [0,3,5,12,13,14,15,16,17,18,19,20,21,22,23,24,25,26,27,28]
[0,3,5])
(.seq (.dreg [oM 29 0,op 30 (.nchk (.t 29)),oF 31 30 10,oL 32 31,oF 33 3 0,oN 34 33 3,oM 35 5,op 36 (.build [iv 0,iv 0,iv 0,iv 0,iv 0,.str [],.bool false] [(0,1,.k (iv 3)),(1,1,.t 35)]),oM 37 5,op 38 (.callB ncfaN_ [.t 32,.t 34,.t 36,.t 37,.k (iv 16)]),oM 4 38]
[4])
.ret))))⟩
abbrev hccf_:=hcR nccf_ cccf_ Tryz.func117
def ccck_:AFun:=⟨29,2,[.t 4],
 (.seq (.reg [op 3 (.box taN_ 7 (.t 1)),oC 4 0]
[0,3])
(.seq (.seq (.reg [oF 5 3 0,oL 6 5,oK 7 .eql 6 2]
[0,3,7])
(.cond (.t 7)
(.seq (.dreg [oM 8 0,op 9 (.nchk (.t 8)),oF 10 9 0,oF 11 10 2,oL 12 11,oF 13 3 1,oL 14 13,oI 15 3 12 14,oF 16 15 2,oL 17 16,oM 4 17]
[4])
.ret)
.skip))
(.seq (.dreg [oM 18 0,op 19 (.nchk (.t 18)),oF 20 19 0,oF 21 20 3,oL 22 21,oF 23 3 1,oL 24 23,oI 25 5 22 24,oF 26 25 1,oF 27 26 0,oL 28 27,oM 4 28]
[4])
.ret)))⟩
abbrev pcck_:=pcR ncck_ ccck_ Tryz.func240
def cccn_:AFun:=⟨118,3,[.cells 6 7,.t 7,.t 8],
 (.seq (.reg [op 5 (.box taE_ 10 (.t 2)),op 6 (.alloc taN_ 7 (.agg [iv 0,iv 0,iv 0,iv 0,iv 0,.str [],.bool false])),oC 7 0,op 8 (.mov (.k (.nili)))]
[0,1,5,6])
(.seq (.block 0
(.seq (.reg [oF 15 5 0,oL 16 15,oK 17 .eql 16 1,oM 14 17]
[0,1,5,6,14])
(.cond (.t 14)
(.seq (.dregC [oF 18 5 0,oL 19 18,oF 20 5 4,oN 21 20 4,op 22 (.build [iv 0,iv 0,iv 0,iv 0,iv 0,.str [],.bool false] [(0,1,.t 19),(3,4,.t 21)]),oF 23 5 4,oF 24 23 0,oL 25 24,
⟨none,.store (.t 6) (.t 22) 7,none⟩,oM 7 25,op 8 (.mov (.k (.nili)))]
[8] [0,0,0,0,0,0,0,0,1,1,1] [0,0,0,0,0,1,1,1,1,1,1] [([0,1,2,3,4,5,6,7],[]),([9,10],[5,6,7])] [5,6,7,8,18,19,20,21,22,23,24,25]
[6,7,8])
.ret)
(.seq (.reg [oF 27 5 0,oL 28 27,oK 29 .eql 28 17,oM 26 29]
[0,1,5,6,26])
(.cond (.t 26)
(.seq (.dregA [oM 31 0,op 32 (.nchk (.t 31)),oF 33 32 10,oL 34 33,oF 35 5 3,oL 36 35,op 37 (.mget true false [1] (.agg [iv 0,iv 0,iv 0,iv 0,iv 0,.str [],.bool false]) (.t 34) (.t 36)),oM 30 37,oE 38 30 0,oE 39 30 1,op 9 (.alloc taN_ 7 (.agg [iv 0,iv 0,iv 0,iv 0,iv 0,.str [],.bool false])),
⟨none,.store (.t 9) (.t 38) 7,none⟩,oM 10 39] 10 11 [0,1,6,9,10,30,31,32,33,34,35,36,37,38,39]
[0,1,6,9,10])
(.seq (.seq (.reg [oM 40 10,oU 41 40]
[0,1,6,9,41])
(.cond (.t 41)
.bad
.skip))
(.seq (.seq (.dreg [oF 44 9 0,oL 45 44,oK 46 .eql 45 2,oM 47 46,qM 48 1 47 true,oG 49 (.nchk (.t 48)) 47 true,qF 50 49 1 47 true,qN 51 50 2 47 true,qF 52 9 1 47 true,qL 53 52 47 true,oG 54 (.call ncS_ [.t 51,.t 53]) 47 true,oG 55 (.un .not (.t 54)) 47 true,oA 56 47 55]
[0,6,9,56])
(.cond (.t 56)
.bad
.skip))
(.seq (.dreg [oN 59 9 7,oM 60 0,oN 61 9 7,op 62 (.call ncck_ [.t 60,.t 61]),
⟨none,.store (.t 6) (.t 59) 7,none⟩,oM 7 62,op 8 (.mov (.k (.nili)))]
[6,7,8])
.ret))))
.skip)))))
(.seq (.dregA [oF 63 5 0,oL 64 63,oF 65 5 1,oL 66 65,oM 67 1,op 68 (.nchk (.t 67)),oF 69 68 3,oL 70 69,oB 71 .add 66 70,op 72 (.build [iv 0,iv 0,iv 0,iv 0,iv 0,.str [],.bool false] [(0,1,.t 64),(1,1,.t 71)]),op 11 (.alloc taN_ 7 (.agg [iv 0,iv 0,iv 0,iv 0,iv 0,.str [],.bool false])),
⟨none,.store (.t 11) (.t 72) 7,none⟩] 10 11 [1,5,6,11,63,64,65,66,67,68,69,70,71,72]
[1,5,6,11])
(.seq (.dreg [oM 73 1,op 74 (.nchk (.t 73)),oF 75 74 5,oL 76 75,oF 77 5 1,oL 78 77,oI 79 1 76 78,oL 80 79,oM 12 80]
[1,5,6,11,12])
(.seq (.seq (.reg [oF 81 5 0,oL 82 81,oK 83 .gtr 82 5]
[1,5,6,11,12,83])
(.cond (.t 83)
(.dregC [oF 84 5 2,oL 85 84,oM 86 1,op 87 (.nchk (.t 86)),oF 88 87 3,oL 89 88,oB 90 .add 85 89,oM 91 1,op 92 (.nchk (.t 91)),oF 93 92 5,oL 94 93,oF 95 5 2,oL 96 95,oI 97 1 94 96,oL 98 97,oF 99 11 2,
⟨none,.store (.t 99) (.t 90) 1,none⟩,oM 12 98]
[16] [0,0,0,0,0,0,0,0,0,0,0,0,0,0,0,0,1,1] [0,0,0,0,0,0,0,1,1,1,1,1,1,1,1,0,1,1] [([0,1,2,3,4,5,6,7,8,9,10,11,12,13,14,15],[]),([17],[7,8,9,10,11,12,13,14])] [1,5,6,11,12,84,85,86,87,88,89,90,91,92,93,94,95,96,97,98,99]
[1,5,6,11,12])
.skip))
(.seq (.dreg [oF 100 5 0,oL 101 100,oM 102 1,op 103 (.nchk (.t 102)),oF 104 103 5,oL 105 104,oF 106 5 1,oL 107 106,oI 108 1 105 107,oL 109 108,oM 110 12,op 111 (.call nvT_ [.t 101,.t 109,.t 110]),oM 13 111]
[6,11,13])
(.seq (.seq (.reg [oM 112 13,oK 113 .eql 112 0]
[6,11,13,113])
(.cond (.t 113)
.bad
.skip))
(.seq (.reg [oN 116 11 7,oM 117 13,
⟨none,.store (.t 6) (.t 116) 7,none⟩,oM 7 117,op 8 (.mov (.k (.nili)))]
[6,7,8])
.ret))))))))⟩
abbrev pccn_:=pcR nccn_ cccn_ Tryz.func241
def ccco_:AFun:=⟨106,1,[],
 (.seq (.reg [op 2 (.nilrow ti_ 1),op 3 (.nilrow ti_ 1)]
[0,2,3])
(.seq (.seq (.reg [oM 12 0,op 13 (.nchk (.t 12)),oF 14 13 0,oF 15 14 8,oL 16 15,oZ 17 16,oC 18 0]
[0,2,3,16,17,18])
(.block 0
(.loop [0,2,3,16,17,18] [2,3,17,31]
 (.seq (.reg [oB 19 .lss 18 17]
[0,2,3,16,17,18,19])
(.seq (.cond (.t 19)
.skip
(.exit 0))
(.seq (.block 1
(.seq (.reg [oI 20 5 16 18,oN 21 20 5,op 5 (.alloc taT_ 5 (.agg [iv 0,iv 0,iv 0,iv 0,.nils])),
⟨none,.store (.t 5) (.t 21) 5,none⟩]
[0,2,3,5,16,17,18])
(.seq (.reg [oM 22 3,oF 23 5 1,oL 24 23,op 25 (.call nsCii_ [.t 22,.t 24]),oU 26 25]
[0,2,3,5,16,17,18,26])
(.cond (.t 26)
(.reg [oM 27 3,oF 28 5 1,oL 29 28,op 30 (.mkrow ti_ 1 1 (iv 0) [(0,.t 29)]),op 31 (.app ti_ 1 8 (.t 27) (.t 30)),oM 3 31]
[0,2,3,16,17,18])
.skip))))
(.reg [oK 32 .add 18 1,oM 18 32]
[0,2,3,16,17,18])))))))
(.seq (.seq (.reg [oM 33 0,op 34 (.nchk (.t 33)),oF 35 34 0,oF 36 35 6,oL 37 36,oZ 38 37,oC 39 0]
[0,2,3,38,39])
(.block 2
(.loop [0,2,3,38,39] [2,3,17,5,25,30,31,38,49]
 (.seq (.reg [oB 40 .lss 39 38]
[0,2,3,38,39,40])
(.seq (.cond (.t 40)
.skip
(.exit 2))
(.seq (.block 3
(.seq (.reg [oM 41 39,oM 6 41]
[0,2,3,6,38,39])
(.seq (.reg [oM 42 3,oM 43 6,op 44 (.call nsCii_ [.t 42,.t 43]),oU 45 44]
[0,2,3,6,38,39,45])
(.cond (.t 45)
(.reg [oM 46 2,oM 47 6,op 48 (.mkrow ti_ 1 1 (iv 0) [(0,.t 47)]),op 49 (.app ti_ 1 8 (.t 46) (.t 48)),oM 2 49]
[0,2,3,38,39])
.skip))))
(.reg [oK 50 .add 39 1,oM 39 50]
[0,2,3,38,39])))))))
(.seq (.reg [op 7 (.nilrow taS_ 2)]
[0,2,3,7])
(.seq (.reg [oM 51 2,oM 52 3,op 53 (.app ti_ 1 8 (.t 51) (.t 52)),oM 8 53]
[0,7,8])
(.seq (.seq (.reg [oM 54 8,oZ 55 54,oC 56 0]
[0,7,8,54,55,56])
(.block 4
(.loop [0,7,8,54,55,56] [2,3,17,5,25,30,31,38,44,48,49,7,53,55,70]
 (.seq (.reg [oB 57 .lss 56 55]
[0,7,8,54,55,56,57])
(.seq (.cond (.t 57)
.skip
(.exit 4))
(.seq (.block 5
(.seq (.reg [oI 58 1 54 56,oL 59 58,oM 10 59]
[0,7,8,10,54,55,56])
(.reg [oM 60 7,oM 61 0,op 62 (.nchk (.t 61)),oF 63 62 0,oF 64 63 6,oL 65 64,oM 66 10,oI 67 2 65 66,oN 68 67 2,op 69 (.mkrow taS_ 2 1 (.agg [iv 0,.nils]) [(0,.t 68)]),op 70 (.app taS_ 2 32 (.t 60) (.t 69)),oM 7 70]
[0,7,8,54,55,56])))
(.reg [oK 71 .add 56 1,oM 56 71]
[0,7,8,54,55,56])))))))
(.seq (.reg [oM 72 0,oM 73 7,op 74 (.nchk (.t 72)),oF 75 74 0,oF 76 75 6,
⟨none,.store (.t 76) (.t 73) 1,none⟩]
[0,8])
(.seq (.reg [oM 77 0,op 78 (.nchk (.t 77)),oF 79 78 0,oF 80 79 8,oL 81 80,oZ 82 81,oC 83 0]
[0,8,82,83])
(.block 6
(.loop [0,8,82,83] [2,3,17,5,25,30,31,38,44,48,49,7,53,55,69,70,82]
 (.seq (.reg [oB 84 .lss 83 82]
[0,8,82,83,84])
(.seq (.cond (.t 84)
.skip
(.exit 6))
(.seq (.block 7
(.seq (.reg [oM 85 83,oM 11 85]
[0,8,11,82,83])
(.dreg [oM 86 0,op 87 (.nchk (.t 86)),oF 88 87 0,oF 89 88 8,oL 90 89,oM 91 11,oM 92 8,oM 93 0,op 94 (.nchk (.t 93)),oF 95 94 0,oF 96 95 8,oL 97 96,oM 98 11,oI 99 5 97 98,oF 100 99 1,oL 101 100,op 102 (.call nsIii_ [.t 92,.t 101]),oI 103 5 90 91,oF 104 103 1,
⟨none,.store (.t 104) (.t 102) 1,none⟩]
[0,8,82,83])))
(.reg [oK 105 .add 83 1,oM 83 105]
[0,8,82,83]))))))))))))))⟩
abbrev hcco_:=hcR ncco_ ccco_ Tryz.func132
def cccq_:AFun:=⟨41,2,[.t 4],
 (.seq (.reg [op 3 (.box ta13 5 (.t 1)),op 4 (.mov (.k (.nili)))]
[0,3])
(.seq (.reg [oM 6 0,op 7 (.nchk (.t 6)),oF 8 7 0,oF 9 8 2,oL 10 9,oZ 11 10,oM 5 11]
[0,3,5])
(.seq (.dregC [oM 12 0,oM 13 0,op 14 (.nchk (.t 13)),oF 15 14 0,oF 16 15 2,oL 17 16,oF 18 3 0,oL 19 18,oF 20 3 1,oF 21 20 0,oL 22 21,oF 23 3 4,oL 24 23,op 25 (.build [.bool false,.str [],iv 0] [(0,1,.t 19),(1,1,.t 22),(2,1,.t 24)]),op 26 (.mkrow ta21 3 1 (.agg [.bool false,.str [],iv 0]) [(0,.t 25)]),op 27 (.app ta21 3 32 (.t 17) (.t 26)),op 28 (.nchk (.t 12)),oF 29 28 0,oF 30 29 2,
⟨none,.store (.t 30) (.t 27) 1,none⟩]
[14,15,19] [0,0,0,0,0,0,0,0,0,0,0,0,0,0,1,2,2,2,2,3] [2,1,1,1,1,1,0,0,0,0,0,0,0,0,3,3,2,2,2,3] [([0,1,2,3,4,5,6,7,8,9,10,11,12,13],[]),([],[0,1,2,3,4,5]),([16,17,18],[0]),([],[])] [0,3,5,12,13,14,15,16,17,18,19,20,21,22,23,24,25,26,27,28,29,30]
[0,3,5])
(.seq (.dreg [oM 31 0,op 32 (.nchk (.t 31)),oF 33 32 10,oL 34 33,oF 35 3 1,oN 36 35 3,oM 37 5,op 38 (.build [iv 0,iv 0,iv 0,iv 0,iv 0,.str [],.bool false] [(0,1,.k (iv 2)),(1,1,.t 37)]),oM 39 5,op 40 (.callB ncfaN_ [.t 34,.t 36,.t 38,.t 39,.k (iv 8)]),oM 4 40]
[4])
.ret))))⟩
abbrev hccq_:=hcR nccq_ cccq_ Tryz.func114
def cccr1_:AFun:=⟨8,2,[.t 2],
 (.seq (.reg [op 2 (.mov (.k (.nili)))]
[0,1])
(.seq (.reg [oF 3 0 3,oL 4 3,oL 5 1,op 6 (.mkfn (nccd_+1000000) [.t 5]),op 7 (.call nc18 [.t 4,.t 6]),oM 2 7]
[2])
.ret))⟩
abbrev hccr1_:=hcR nccr1_ cccr1_ Tryz.func109
def cccr2_:AFun:=⟨8,2,[.t 2],
 (.seq (.reg [op 2 (.mov (.k (.nili)))]
[0,1])
(.seq (.reg [oF 3 0 4,oL 4 3,oL 5 1,op 6 (.mkfn (nccq_+1000000) [.t 5]),op 7 (.call nc16 [.t 4,.t 6]),oM 2 7]
[2])
.ret))⟩
abbrev hccr2_:=hcR nccr2_ cccr2_ Tryz.func112
def cccr3_:AFun:=⟨8,2,[.t 2],
 (.seq (.reg [op 2 (.mov (.k (.nili)))]
[0,1])
(.seq (.reg [oF 3 0 5,oL 4 3,oL 5 1,op 6 (.mkfn (nccf_+1000000) [.t 5]),op 7 (.call nc17 [.t 4,.t 6]),oM 2 7]
[2])
.ret))⟩
abbrev hccr3_:=hcR nccr3_ cccr3_ Tryz.func115
def cccr4_:AFun:=⟨8,2,[.t 2],
 (.seq (.reg [op 2 (.mov (.k (.nili)))]
[0,1])
(.seq (.reg [oF 3 0 6,oL 4 3,oL 5 1,op 6 (.mkfn (nccs_+1000000) [.t 5]),op 7 (.call nc15 [.t 4,.t 6]),oM 2 7]
[2])
.ret))⟩
abbrev hccr4_:=hcR nccr4_ cccr4_ Tryz.func118
def cccr5_:AFun:=⟨15,2,[.t 2],
 (.seq (.reg [op 2 (.mov (.k (.nili)))]
[0,1])
(.seq (.dregC [oL 4 0,oL 5 0,oF 6 1 7,oN 7 6 3,op 8 (.call nc11 [.t 5,.t 7]),oM 3 8,oE 9 3 0,oE 10 3 1,op 11 (.nchk (.t 4)),oF 12 11 0,oF 13 12 5,
⟨none,.store (.t 13) (.t 9) 1,none⟩,oM 2 10]
[11] [0,0,0,0,0,0,0,0,0,0,0,1,1] [0,0,0,0,0,0,0,1,0,0,0,1,1] [([0,1,2,3,4,5,6,7,8,9,10],[]),([12],[7])] [0,1,2,3,4,5,6,7,8,9,10,11,12,13]
[2])
(.seq (.reg [oM 14 2,oM 2 14]
[2])
.ret)))⟩
abbrev hccr5_:=hcR nccr5_ cccr5_ Tryz.func121
def cccr6_:AFun:=⟨7,2,[.t 2],
 (.seq (.reg [op 2 (.mov (.k (.nili)))]
[0,1])
(.seq (.reg [oF 3 0 10,oL 4 3,op 5 (.mkfn nccr61_ [.t 1]),op 6 (.call nceaT_ [.t 4,.t 5]),oM 2 6]
[2])
.ret))⟩
abbrev hccr6_:=hcR nccr6_ cccr6_ Tryz.func123
def cccr61_:AFun:=⟨13,2,[.t 3],
 (.seq (.reg [op 2 (.box ta11 4 (.t 0)),op 3 (.mov (.k (.nili)))]
[1,2])
(.seq (.reg [oL 7 1,oN 8 2 4,op 9 (.call nc12 [.t 7,.t 8]),oM 6 9,oE 10 6 0,oE 11 6 1,oM 4 10,oM 5 11]
[5])
(.seq (.reg [oM 12 5,oM 3 12]
[3])
.ret)))⟩
abbrev hccr61_:=hcR nccr61_ cccr61_ Tryz.func125
def cccr7_:AFun:=⟨8,2,[.t 2],
 (.seq (.reg [op 2 (.mov (.k (.nili)))]
[0,1])
(.seq (.reg [oF 3 0 11,oL 4 3,oL 5 1,op 6 (.mkfn (ncct_+1000000) [.t 5]),op 7 (.call nc14 [.t 4,.t 6]),oM 2 7]
[2])
.ret))⟩
abbrev hccr7_:=hcR nccr7_ cccr7_ Tryz.func127
def cccr8_:AFun:=⟨7,2,[.t 2],
 (.seq (.reg [op 2 (.mov (.k (.nili)))]
[0,1])
(.seq (.reg [oL 3 0,oF 4 1 4,oL 5 4,op 6 (.call nc19 [.t 3,.t 5]),oM 2 6]
[2])
.ret))⟩
abbrev hccr8_:=hcR nccr8_ cccr8_ Tryz.func130
def cc19:AFun:=⟨73,3,[.t 6,.t 7],
 (.seq (.reg [op 6 (.nilrow ta19 2),op 7 (.mov (.k (.nili)))]
[0,1,2])
(.seq (.reg [op 8 (.nilrow ta19 2)]
[0,1,2,8])
(.seq (.seq (.reg [oM 14 2,oZ 15 14,oC 16 0]
[0,1,8,14,15,16])
(.block 0
(.loop [0,1,8,14,15,16] [6,8,15,70]
 (.seq (.reg [oB 17 .lss 16 15]
[0,1,8,14,15,16,17])
(.seq (.cond (.t 17)
.skip
(.exit 0))
(.seq (.block 1
(.seq (.reg [oI 18 4 14 16,oN 19 18 4,op 10 (.alloc ta20 4 (.agg [.str [],iv 0,iv 0,iv 0])),
⟨none,.store (.t 10) (.t 19) 4,none⟩]
[0,1,8,10,14,15,16])
(.seq (.dregA [oM 21 0,op 22 (.nchk (.t 21)),oF 23 22 10,oL 24 23,oF 25 10 0,oF 26 25 0,oL 27 26,op 28 (.mget true false [1] (.agg [iv 0,iv 0,iv 0,iv 0,iv 0,.str [],.bool false]) (.t 24) (.t 27)),oM 20 28,oE 29 20 0,oE 30 20 1,op 11 (.alloc taN_ 7 (.agg [iv 0,iv 0,iv 0,iv 0,iv 0,.str [],.bool false])),
⟨none,.store (.t 11) (.t 29) 7,none⟩,oM 12 30] 11 12 [0,1,8,10,11,12,14,15,16,20,21,22,23,24,25,26,27,28,29,30]
[0,1,8,10,11,12,14,15,16])
(.seq (.seq (.reg [oM 31 12,oU 32 31,oM 33 32,qF 34 11 0 33 false,qL 35 34 33 false,qK 36 .neq 35 3 33 false,oO 37 33 36]
[0,1,8,10,11,14,15,16,37])
(.cond (.t 37)
.bad
.skip))
(.seq (.seq (.reg [oM 41 8,op 42 (.mkfn nc13 [.t 11]),op 43 (.call ns18 [.t 41,.t 42])]
[0,1,8,10,11,14,15,16,43])
(.cond (.t 43)
.bad
.skip))
(.seq (.seq (.dreg [oM 47 0,oM 48 1,oF 49 10 3,oL 50 49,oM 51 0,oN 52 11 7,op 53 (.call ncck_ [.t 51,.t 52]),op 54 (.callB ncce_ [.t 47,.t 48,.t 50,.t 53]),oM 13 54]
[0,1,8,10,11,13,14,15,16])
(.seq (.reg [oM 55 13,op 56 (.eqI true (.t 55) (.k (.nili)))]
[0,1,8,10,11,13,14,15,16,56])
(.cond (.t 56)
(.seq (.reg [oM 57 13,op 6 (.nilrow ta19 2),oM 7 57]
[6,7])
.ret)
.skip)))
(.dregC [oM 58 8,oF 59 11 1,oL 60 59,oF 61 10 3,oL 62 61,oM 63 1,op 64 (.nchk (.t 63)),oF 65 64 3,oL 66 65,oB 67 .add 62 66,op 68 (.build [iv 0,iv 0] [(0,1,.t 60),(1,1,.t 67)]),op 69 (.mkrow ta19 2 1 (.agg [iv 0,iv 0]) [(0,.t 68)]),op 70 (.app ta19 2 16 (.t 58) (.t 69)),oM 8 70]
[11,12] [0,0,0,0,0,0,0,0,0,0,0,1,2,2] [1,0,0,0,0,0,0,0,0,0,0,2,2,2] [([0,1,2,3,4,5,6,7,8,9,10],[]),([],[0]),([13],[])] [0,1,8,10,11,14,15,16,58,59,60,61,62,63,64,65,66,67,68,69,70]
[0,1,8,14,15,16])))))))
(.reg [oK 71 .add 16 1,oM 16 71]
[0,1,8,14,15,16])))))))
(.seq (.reg [oM 72 8,oM 6 72,op 7 (.mov (.k (.nili)))]
[6,7])
.ret))))⟩
abbrev hc16:=hcR nc20 cc19 Tryz.func202
def cc17:AFun:=⟨9,2,[.t 3],
 (.seq (.reg [op 2 (.box ta19 2 (.t 0)),oV 3 false]
[1,2])
(.seq (.reg [oF 4 2 0,oL 5 4,oF 6 1 1,oL 7 6,oB 8 .eql 5 7,oM 3 8]
[3])
.ret))⟩
abbrev pc11:=pcR nc13 cc17 Tryz.func242
def cc16:AFun:=⟨26,2,[.t 4],
 (.seq (.reg [op 4 (.mov (.k (.nili)))]
[0,1])
(.seq (.seq (.reg [oM 7 1,oZ 8 7,oC 9 0]
[0,7,8,9])
(.block 0
(.loop [0,7,8,9] [8]
 (.seq (.reg [oB 10 .lss 9 8]
[0,7,8,9,10])
(.seq (.cond (.t 10)
.skip
(.exit 0))
(.seq (.block 1
(.seq (.reg [oM 11 9,oI 12 5 7 9,oN 13 12 5,op 5 (.alloc ti_ 1 (iv 0)),op 6 (.alloc ta13 5 (.agg [.bool false,.str [],iv 0,iv 0,iv 0])),
⟨none,.store (.t 5) (.t 11) 1,none⟩,
⟨none,.store (.t 6) (.t 13) 5,none⟩]
[0,5,7,8,9])
(.seq (.reg [oM 14 0,op 15 (.nchk (.t 14)),oF 16 15 0,oF 17 16 6,oL 18 17,op 19 (.mkfn nccs1_ [.t 5]),op 20 (.call nsCaSaS_ [.t 18,.t 19]),oU 21 20]
[0,7,8,9,21])
(.cond (.t 21)
.bad
.skip))))
(.reg [oK 25 .add 9 1,oM 9 25]
[0,7,8,9])))))))
(.seq (.reg [op 4 (.mov (.k (.nili)))]
[4])
.ret)))⟩
abbrev pccs_:=pcR nc19 cc16 Tryz.func131
def cc15:AFun:=⟨7,2,[.t 3],
 (.seq (.reg [op 2 (.box taS_ 2 (.t 0)),oV 3 false]
[1,2])
(.seq (.reg [oN 4 2 2,oL 5 1,op 6 (.call ncS_ [.t 4,.t 5]),oM 3 6]
[3])
.ret))⟩
abbrev pc10:=pcR nccs1_ cc15 Tryz.func203
def cc18:AFun:=⟨40,2,[.t 4],
 (.seq (.reg [op 3 (.box ta12 5 (.t 1)),op 4 (.mov (.k (.nili)))]
[0,3])
(.seq (.reg [oM 6 0,op 7 (.nchk (.t 6)),oF 8 7 0,oF 9 8 4,oL 10 9,oZ 11 10,oM 5 11]
[0,3,5])
(.seq (.dregC [oM 12 0,oM 13 0,op 14 (.nchk (.t 13)),oF 15 14 0,oF 16 15 4,oL 17 16,oF 18 3 0,oF 19 18 0,oL 20 19,oF 21 3 3,oL 22 21,oF 23 3 4,oL 24 23,op 25 (.build [.str [],.bool false,.bool false] [(0,1,.t 20),(1,1,.t 22),(2,1,.t 24)]),op 26 (.mkrow ta15 3 1 (.agg [.str [],.bool false,.bool false]) [(0,.t 25)]),op 27 (.app ta15 3 24 (.t 17) (.t 26)),op 28 (.nchk (.t 12)),oF 29 28 0,oF 30 29 4,
⟨none,.store (.t 30) (.t 27) 1,none⟩]
[14,15,19] [0,0,0,0,0,0,0,0,0,0,0,0,0,0,1,2,2,2,2,3] [2,1,1,1,1,1,0,0,0,0,0,0,0,0,3,3,2,2,2,3] [([0,1,2,3,4,5,6,7,8,9,10,11,12,13],[]),([],[0,1,2,3,4,5]),([16,17,18],[0]),([],[])] [0,3,5,12,13,14,15,16,17,18,19,20,21,22,23,24,25,26,27,28,29,30]
[0,3,5])
(.seq (.dreg [oM 31 0,op 32 (.nchk (.t 31)),oF 33 32 11,oL 34 33,oF 35 3 0,oN 36 35 3,oM 37 5,oM 38 5,op 39 (.callB ncfi_ [.t 34,.t 36,.t 37,.t 38,.k (iv 32)]),oM 4 39]
[4])
.ret))))⟩
abbrev hc15:=hcR nccs_ cc18 Tryz.func120
def cccs_:AFun:=⟨142,2,[.t 4,.t 5],
 (.seq (.reg [op 3 (.box ta11 4 (.t 1)),oC 4 0,op 5 (.mov (.k (.nili)))]
[0,3])
(.seq (.dregA [oM 15 0,op 16 (.nchk (.t 15)),oF 17 16 9,oL 18 17,oF 19 3 0,oL 20 19,op 21 (.mget true false [1] (iv 0) (.t 18) (.t 20)),oM 14 21,oE 22 14 0,oE 23 14 1,op 6 (.alloc ti_ 1 (iv 0)),
⟨none,.store (.t 6) (.t 22) 1,none⟩,oM 7 23] 10 11 [0,3,6,7,14,15,16,17,18,19,20,21,22,23]
[0,3,6,7])
(.seq (.block 0
(.seq (.reg [oM 25 7,oU 26 25,oM 24 26]
[0,3,6,24])
(.cond (.t 24)
.bad
(.seq (.dreg [oM 36 0,op 37 (.nchk (.t 36)),oF 38 37 0,oF 39 38 1,oL 40 39,oL 41 6,oI 42 2 40 41,oF 43 42 1,oL 44 43,oZ 45 44,oF 46 3 1,oL 47 46,oZ 48 47,oB 49 .neq 45 48,oM 35 49]
[0,3,6,35])
(.cond (.t 35)
.bad
.skip)))))
(.seq (.reg [oL 58 6,op 59 (.build [iv 0,.nils] [(0,1,.t 58)]),op 8 (.alloc taS_ 2 (.agg [iv 0,.nils])),
⟨none,.store (.t 8) (.t 59) 2,none⟩]
[0,3,6,8])
(.seq (.seq (.reg [oF 60 3 1,oL 61 60,oZ 62 61,oC 63 0]
[0,6,8,61,62,63])
(.block 1
(.loop [0,6,8,61,62,63] [3,6,45,48,8,62,93]
 (.seq (.reg [oB 64 .lss 63 62]
[0,6,8,61,62,63,64])
(.seq (.cond (.t 64)
.skip
(.exit 1))
(.seq (.block 2
(.seq (.reg [oM 65 63,oI 66 8 61 63,oN 67 66 8,op 10 (.alloc ta18 8 (.agg [iv 0,.str [],iv 0,iv 0,.str [],.bool false,iv 0,iv 0])),oM 9 65,
⟨none,.store (.t 10) (.t 67) 8,none⟩]
[0,6,8,9,10,61,62,63])
(.seq (.dregA [oM 69 0,oN 70 10 8,oM 71 0,op 72 (.nchk (.t 71)),oF 73 72 0,oF 74 73 1,oL 75 74,oL 76 6,oI 77 2 75 76,oF 78 77 1,oL 79 78,oM 80 9,oI 81 1 79 80,oL 82 81,op 83 (.call ncca_ [.t 69,.t 70,.t 82]),oM 68 83,oE 84 68 0,oE 85 68 1,op 11 (.alloc taA_ 6 (.agg [iv 0,iv 0,iv 0,iv 0,.str [],.bool false])),
⟨none,.store (.t 11) (.t 84) 6,none⟩,oM 12 85] 18 19 [0,6,8,11,12,61,62,63,68,69,70,71,72,73,74,75,76,77,78,79,80,81,82,83,84,85]
[0,6,8,11,12,61,62,63])
(.seq (.seq (.reg [oM 86 12,op 87 (.eqI true (.t 86) (.k (.nili)))]
[0,6,8,11,12,61,62,63,87])
(.cond (.t 87)
(.seq (.reg [oM 88 12,oC 4 0,oM 5 88]
[4,5])
.ret)
.skip))
(.reg [oF 89 8 1,oL 90 89,oN 91 11 6,op 92 (.mkrow taA_ 6 1 (.agg [iv 0,iv 0,iv 0,iv 0,.str [],.bool false]) [(0,.t 91)]),op 93 (.app taA_ 6 56 (.t 90) (.t 92)),oF 94 8 1,
⟨none,.store (.t 94) (.t 93) 1,none⟩]
[0,6,8,61,62,63])))))
(.reg [oK 95 .add 63 1,oM 63 95]
[0,6,8,61,62,63])))))))
(.seq (.reg [oM 96 0,op 97 (.nchk (.t 96)),oF 98 97 0,oF 99 98 6,oL 100 99,op 101 (.mkfn nc10 [.t 6,.t 8]),op 102 (.call nsIaSaS_ [.t 100,.t 101]),oM 13 102]
[0,8,13])
(.seq (.block 3
(.seq (.reg [oM 104 13,oK 105 .geq 104 0,oM 103 105]
[0,8,13,103])
(.cond (.t 103)
(.seq (.reg [oM 106 13,oM 4 106,op 5 (.mov (.k (.nili)))]
[4,5])
.ret)
(.seq (.reg [oM 108 0,op 109 (.nchk (.t 108)),oF 110 109 0,oF 111 110 6,oL 112 111,oZ 113 112,oK 114 .eql 113 64,oM 107 114]
[0,8,107])
(.cond (.t 107)
.bad
.skip)))))
(.seq (.dregC [oM 123 0,oM 124 0,op 125 (.nchk (.t 124)),oF 126 125 0,oF 127 126 6,oL 128 127,oN 129 8 2,op 130 (.mkrow taS_ 2 1 (.agg [iv 0,.nils]) [(0,.t 129)]),op 131 (.app taS_ 2 32 (.t 128) (.t 130)),op 132 (.nchk (.t 123)),oF 133 132 0,oF 134 133 6,
⟨none,.store (.t 134) (.t 131) 1,none⟩]
[7,8,12] [0,0,0,0,0,0,0,1,2,2,2,2,3] [2,1,1,1,1,1,0,3,3,2,2,2,3] [([0,1,2,3,4,5,6],[]),([],[0,1,2,3,4,5]),([9,10,11],[0]),([],[])] [0,8,123,124,125,126,127,128,129,130,131,132,133,134]
[0])
(.seq (.reg [oM 135 0,op 136 (.nchk (.t 135)),oF 137 136 0,oF 138 137 6,oL 139 138,oZ 140 139,oK 141 .sub 140 1,oM 4 141,op 5 (.mov (.k (.nili)))]
[4,5])
.ret)))))))))⟩
abbrev hccs_:=hcR nc12 cccs_ Tryz.func126
def cccs1_:AFun:=⟨16,3,[.t 4],
 (.seq (.reg [op 3 (.box taS_ 2 (.t 0)),oV 4 false]
[1,2,3])
(.seq (.reg [oF 5 3 0,oL 6 5,oL 7 1,oB 8 .eql 6 7,oM 9 8,qF 10 3 1 9 true,qL 11 10 9 true,qF 12 2 1 9 true,qL 13 12 9 true,oG 14 (.call nsEaAaA_ [.t 11,.t 13]) 9 true,oA 15 9 14,oM 4 15]
[4])
.ret))⟩
abbrev pccs1_:=pcR nc10 cccs1_ Tryz.func199
def ccct_:AFun:=⟨128,2,[.t 4],
 (.seq (.reg [op 3 (.box ta10 13 (.t 1)),op 4 (.mov (.k (.nili)))]
[0,3])
(.seq (.seq (.reg [oM 11 0,op 12 (.nchk (.t 11)),oF 13 12 0,oF 14 13 8,oL 15 14,oZ 16 15,oK 17 .eql 16 256]
[0,3,17])
(.cond (.t 17)
.bad
.skip))
(.seq (.reg [oM 22 0,oF 23 3 0,oN 24 23 3,op 25 (.call nc11 [.t 22,.t 24]),oM 21 25,oE 26 21 0,oE 27 21 1,oM 5 26,oM 6 27]
[0,3,5,6])
(.seq (.seq (.reg [oM 28 6,op 29 (.eqI true (.t 28) (.k (.nili)))]
[0,3,5,6,29])
(.cond (.t 29)
(.seq (.reg [oM 30 6,oM 4 30]
[4])
.ret)
.skip))
(.seq (.reg [oM 32 0,oF 33 3 6,oN 34 33 4,op 35 (.call nc12 [.t 32,.t 34]),oM 31 35,oE 36 31 0,oE 37 31 1,oM 7 36,oM 6 37]
[0,3,5,6,7])
(.seq (.seq (.reg [oM 38 6,op 39 (.eqI true (.t 38) (.k (.nili)))]
[0,3,5,6,7,39])
(.cond (.t 39)
(.seq (.reg [oM 40 6,oM 4 40]
[4])
.ret)
.skip))
(.seq (.seq (.dreg [oM 41 0,op 42 (.nchk (.t 41)),oF 43 42 0,oF 44 43 7,oL 45 44,oZ 46 45,oF 47 3 10,oL 48 47,oZ 49 48,oB 50 .add 46 49,oK 51 .gtr 50 2048]
[0,3,5,7,51])
(.cond (.t 51)
.bad
.skip))
(.seq (.reg [oM 55 5,oM 56 7,op 57 (.build [iv 0,iv 0,iv 0,iv 0,.nils] [(0,1,.t 55),(1,1,.t 56),(3,1,.k (iv (-1)))]),op 8 (.alloc taT_ 5 (.agg [iv 0,iv 0,iv 0,iv 0,.nils])),
⟨none,.store (.t 8) (.t 57) 5,none⟩]
[0,3,7,8])
(.seq (.dreg [oF 58 3 10,oL 59 58,oM 60 0,op 61 (.nchk (.t 60)),oF 62 61 0,oF 63 62 6,oL 64 63,oM 65 7,oI 66 2 64 65,oN 67 66 2,oM 68 0,op 69 (.nchk (.t 68)),oF 70 69 0,oF 71 70 7,oL 72 71,oZ 73 72,op 74 (.build [.nils,iv 0,.nils,iv 0,iv 0,.nils] [(0,1,.t 59),(1,2,.t 67),(3,1,.t 73)]),op 75 (.box tcb_ 6 (.t 74)),oM 9 75]
[0,3,8,9])
(.seq (.seq (.reg [oF 76 3 11,oL 77 76,oK 78 .geq 77 0]
[0,3,8,9,78])
(.cond (.t 78)
(.seq (.seq (.reg [oM 79 0,oM 80 9,oF 81 3 11,oL 82 81,op 83 (.call ncce_ [.t 79,.t 80,.t 82,.k (iv 3)]),oM 10 83]
[0,3,8,9,10])
(.seq (.reg [oM 84 10,op 85 (.eqI true (.t 84) (.k (.nili)))]
[0,3,8,9,10,85])
(.cond (.t 85)
(.seq (.reg [oM 86 10,oM 4 86]
[4])
.ret)
.skip)))
(.dreg [oF 87 3 11,oL 88 87,oM 89 9,op 90 (.nchk (.t 89)),oF 91 90 3,oL 92 91,oB 93 .add 88 92,oF 94 8 3,
⟨none,.store (.t 94) (.t 93) 1,none⟩]
[0,3,8,9]))
.skip))
(.seq (.seq (.reg [oM 96 0,oM 97 9,oF 98 3 12,oL 99 98,op 100 (.call nc20 [.t 96,.t 97,.t 99]),oM 95 100,oE 101 95 0,oE 102 95 1,oF 103 8 4,
⟨none,.store (.t 103) (.t 101) 1,none⟩,oM 6 102]
[0,3,6,8])
(.seq (.reg [oM 104 6,op 105 (.eqI true (.t 104) (.k (.nili)))]
[0,3,6,8,105])
(.cond (.t 105)
(.seq (.reg [oM 106 6,oM 4 106]
[4])
.ret)
.skip)))
(.seq (.reg [oM 108 0,oF 109 3 3,oN 110 109 3,op 111 (.call nc11 [.t 108,.t 110]),oM 107 111,oE 112 107 0,oE 113 107 1,oF 114 8 2,
⟨none,.store (.t 114) (.t 112) 1,none⟩,oM 6 113]
[0,6,8])
(.seq (.dregC [oM 115 0,oM 116 0,op 117 (.nchk (.t 116)),oF 118 117 0,oF 119 118 8,oL 120 119,oN 121 8 5,op 122 (.mkrow taT_ 5 1 (.agg [iv 0,iv 0,iv 0,iv 0,.nils]) [(0,.t 121)]),op 123 (.app taT_ 5 56 (.t 120) (.t 122)),op 124 (.nchk (.t 115)),oF 125 124 0,oF 126 125 8,
⟨none,.store (.t 126) (.t 123) 1,none⟩]
[7,8,12] [0,0,0,0,0,0,0,1,2,2,2,2,3] [2,1,1,1,1,1,0,3,3,2,2,2,3] [([0,1,2,3,4,5,6],[]),([],[0,1,2,3,4,5]),([9,10,11],[0]),([],[])] [0,6,8,115,116,117,118,119,120,121,122,123,124,125,126]
[6])
(.seq (.reg [oM 127 6,oM 4 127]
[4])
.ret))))))))))))))⟩
abbrev hcct_:=hcR ncct_ ccct_ Tryz.func129
def ctrh_:AFun:=⟨9,2,[.t 4],
 (.seq (.reg [op 2 (.box ttr_ 1 (.t 0)),oV 4 false]
[1,2])
(.seq (.reg [oF 5 2 0,oL 6 5,oM 7 1,op 8 (.call nsCii_ [.t 6,.t 7]),oM 4 8]
[4])
.ret))⟩
abbrev ptrh_:=pcR ntrh_ ctrh_ Tryz.func65
def ccLi_:AFun:=⟨17,2,[.t 4],
 (.seq (.reg [oV 4 false]
[0,1])
(.seq (.reg [oM 5 0,op 6 (.call ncii_ [.t 5]),oM 7 6,qM 8 1 7 true,oG 9 (.call ncii_ [.t 8]) 7 true,oG 10 (.un .not (.t 9)) 7 true,oA 11 7 10,oM 12 11,qM 13 0 12 false,qM 14 1 12 false,qB 15 .lss 13 14 12 false,oO 16 12 15,oM 4 16]
[4])
.ret))⟩
abbrev pcLi_:=pcR ncLi_ ccLi_ Tryz.func224
def ccii_:AFun:=⟨6,1,[.t 2],
 (.seq (.reg [oV 2 false]
[0])
(.seq (.reg [oM 3 0,oM 4 0,oB 5 .neq 3 4,oM 2 5]
[2])
.ret))⟩
abbrev pcii_:=pcR ncii_ ccii_ Tryz.func254
def cm10:AFun:=⟨8,1,[.t 2],
 (.seq (.reg [oC 2 0]
[0])
(.seq (.cond (.k (.bool false))
(.seq (.reg [oM 3 0,op 4 (.conv .u32 (.t 3)),op 5 (.call nm11 [.t 4]),oM 2 5]
[2])
.ret)
.skip)
(.seq (.reg [oM 6 0,op 7 (.call nmbL_ [.t 6]),oM 2 7]
[2])
.ret)))⟩
abbrev pm11:=pcR nm10 cm10 Tryz.func166
def cmbL_:AFun:=⟨25,1,[.t 2],
 (.seq (.reg [oC 2 0]
[0,2])
(.seq (.seq (.reg [oM 3 0,op 4 (.bin .geq (.t 3) (.k (.int .u64 4294967296)))]
[0,2,4])
(.cond (.t 4)
(.seq (.reg [oM 5 0,op 6 (.bin .shr (.t 5) (.k (.int .u64 32))),oM 0 6]
[0])
(.reg [oC 2 32]
[0,2]))
.skip))
(.seq (.seq (.reg [oM 7 0,op 8 (.bin .geq (.t 7) (.k (.int .u64 65536)))]
[0,2,8])
(.cond (.t 8)
(.seq (.reg [oM 9 0,op 10 (.bin .shr (.t 9) (.k (.int .u64 16))),oM 0 10]
[0,2])
(.reg [oM 11 2,oK 12 .add 11 16,oM 2 12]
[0,2]))
.skip))
(.seq (.seq (.reg [oM 13 0,op 14 (.bin .geq (.t 13) (.k (.int .u64 256)))]
[0,2,14])
(.cond (.t 14)
(.seq (.reg [oM 15 0,op 16 (.bin .shr (.t 15) (.k (.int .u64 8))),oM 0 16]
[0,2])
(.reg [oM 17 2,oK 18 .add 17 8,oM 2 18]
[0,2]))
.skip))
(.seq (.reg [oM 19 2,oM 20 0,op 21 (.conv .u8 (.t 20)),op 22 (.idx (.k (.str [0,1,2,2,3,3,3,3,4,4,4,4,4,4,4,4,5,5,5,5,5,5,5,5,5,5,5,5,5,5,5,5,6,6,6,6,6,6,6,6,6,6,6,6,6,6,6,6,6,6,6,6,6,6,6,6,6,6,6,6,6,6,6,6,7,7,7,7,7,7,7,7,7,7,7,7,7,7,7,7,7,7,7,7,7,7,7,7,7,7,7,7,7,7,7,7,7,7,7,7,7,7,7,7,7,7,7,7,7,7,7,7,7,7,7,7,7,7,7,7,7,7,7,7,7,7,7,7,8,8,8,8,8,8,8,8,8,8,8,8,8,8,8,8,8,8,8,8,8,8,8,8,8,8,8,8,8,8,8,8,8,8,8,8,8,8,8,8,8,8,8,8,8,8,8,8,8,8,8,8,8,8,8,8,8,8,8,8,8,8,8,8,8,8,8,8,8,8,8,8,8,8,8,8,8,8,8,8,8,8,8,8,8,8,8,8,8,8,8,8,8,8,8,8,8,8,8,8,8,8,8,8,8,8,8,8,8,8,8,8,8,8,8,8,8,8,8,8,8,8,8,8,8,8,8,8])) (.t 21)),op 23 (.conv .i64 (.t 22)),oB 24 .add 19 23,oM 2 24]
[2])
.ret)))))⟩
abbrev pmbL_:=pcR nmbL_ cmbL_ Tryz.func228
def cbT_:AFun:=⟨81,1,[.cells 2 12,.t 3],
 (.seq (.reg [op 1 (.box taQ_ 9 (.t 0)),op 2 (.alloc ta14 12 (.agg [.str [],iv 0,iv 0,.nils,.nils,.nils,.nils,.str [],iv 0,iv 0,.nils,.nils])),oV 3 false]
[1,2])
(.seq (.seq (.reg [oN 9 1 9,op 10 (.call ncR_ [.t 9]),oU 11 10]
[1,2,11])
(.cond (.t 11)
(.seq (.reg [op 12 (.build [.str [],iv 0,iv 0,.nils,.nils,.nils,.nils,.str [],iv 0,iv 0,.nils,.nils] []),
⟨none,.store (.t 2) (.t 12) 12,none⟩,oV 3 false]
[2,3])
.ret)
.skip))
(.seq (.dregA [oF 13 1 0,oL 14 13,op 15 (.call nbi_ [.t 14]),oF 16 1 1,oL 17 16,op 18 (.call nbeaDaT_ [.t 17,.f nbT1_]),oF 19 1 2,oL 20 19,op 21 (.call nbeaQaT_ [.t 20,.f nbT2_]),oF 22 1 3,oL 23 22,op 24 (.call nbeaFaT_ [.t 23,.f nbT3_]),oF 25 1 4,oL 26 25,op 27 (.call nbeaSaT_ [.t 26,.f nbT4_]),oF 28 1 4,oL 29 28,oF 30 1 5,oL 31 30,oI 32 3 29 31,oF 33 32 0,oL 34 33,op 35 (.call nbi_ [.t 34]),oN 36 1 9,op 37 (.call nbt_ [.t 36]),op 38 (.build [.str [],iv 0,iv 0,.nils,.nils,.nils,.nils,.str [],iv 0,iv 0,.nils,.nils] [(0,3,.t 15),(3,1,.t 18),(4,1,.t 21),(5,1,.t 24),(6,1,.t 27),(7,3,.t 35),(11,1,.t 37)]),op 4 (.alloc ta14 12 (.agg [.str [],iv 0,iv 0,.nils,.nils,.nils,.nils,.str [],iv 0,iv 0,.nils,.nils])),
⟨none,.store (.t 4) (.t 38) 12,none⟩] 26 27 [1,2,4,13,14,15,16,17,18,19,20,21,22,23,24,25,26,27,28,29,30,31,32,33,34,35,36,37,38]
[1,2,4])
(.seq (.reg [oF 39 1 6,oL 40 39,oZ 41 40,op 42 (.mks tb_ 1 1 (.bool false) (.t 41) (.t 41)),oM 5 42]
[1,2,4,5])
(.seq (.seq (.reg [oF 43 1 8,oL 44 43,oZ 45 44,oC 46 0]
[1,2,4,5,45,46])
(.block 0
(.loop [1,2,4,5,45,46] [1,2,10,15,18,21,24,27,35,37,4,41,42,45]
 (.seq (.reg [oB 47 .lss 46 45]
[1,2,4,5,45,46,47])
(.seq (.cond (.t 47)
.skip
(.exit 0))
(.seq (.block 1
(.seq (.reg [oM 48 46,oM 6 48]
[1,2,4,5,6,45,46])
(.reg [oM 49 5,oF 50 1 8,oL 51 50,oM 52 6,oI 53 5 51 52,oF 54 53 1,oL 55 54,oI 56 1 49 55,
⟨none,.store (.t 56) (.k (.bool true)) 1,none⟩]
[1,2,4,5,45,46])))
(.reg [oK 57 .add 46 1,oM 46 57]
[1,2,4,5,45,46])))))))
(.seq (.seq (.reg [oF 58 1 6,oL 59 58,oZ 60 59,oC 61 0]
[1,2,4,5,59,60,61])
(.block 2
(.loop [1,2,4,5,59,60,61] [1,2,10,15,18,21,24,27,35,37,4,41,42,45,60,77]
 (.seq (.reg [oB 62 .lss 61 60]
[1,2,4,5,59,60,61,62])
(.seq (.cond (.t 62)
.skip
(.exit 2))
(.seq (.block 3
(.seq (.reg [oM 63 61,oI 64 2 59 61,oN 65 64 2,op 8 (.alloc taS_ 2 (.agg [iv 0,.nils])),oM 7 63,
⟨none,.store (.t 8) (.t 65) 2,none⟩]
[1,2,4,5,7,8,59,60,61])
(.seq (.reg [oM 66 5,oM 67 7,oI 68 1 66 67,oL 69 68,oU 70 69]
[1,2,4,5,8,59,60,61,70])
(.cond (.t 70)
(.dregC [oF 71 4 10,oL 72 71,oN 73 1 9,oN 74 8 2,op 75 (.call nbs_ [.t 73,.t 74]),op 76 (.mkrow ta11 4 1 (.agg [.str [],.nils,iv 0,iv 0]) [(0,.t 75)]),op 77 (.app ta11 4 56 (.t 72) (.t 76)),oF 78 4 10,
⟨none,.store (.t 78) (.t 77) 1,none⟩]
[5,6,8] [0,0,0,0,0,1,2,2,3] [1,1,0,0,0,3,3,2,3] [([0,1,2,3,4],[]),([],[0,1]),([7],[]),([],[])] [1,2,4,5,8,59,60,61,71,72,73,74,75,76,77,78]
[1,2,4,5,59,60,61])
.skip))))
(.reg [oK 79 .add 61 1,oM 61 79]
[1,2,4,5,59,60,61])))))))
(.seq (.reg [oN 80 4 12,
⟨none,.store (.t 2) (.t 80) 12,none⟩,oV 3 true]
[2,3])
.ret)))))))⟩
abbrev pbT_:=pcR nbT_ cbT_ Tryz.func13
def cbT1_:AFun:=⟨10,1,[.cells 2 4],
 (.seq (.reg [op 1 (.box taD_ 2 (.t 0)),op 2 (.alloc ta17 4 (.agg [.str [],iv 0,iv 0,.nils]))]
[1,2])
(.seq (.dreg [oF 3 1 0,oL 4 3,op 5 (.call nbi_ [.t 4]),oF 6 1 1,oL 7 6,op 8 (.call ns28 [.t 7]),op 9 (.build [.str [],iv 0,iv 0,.nils] [(0,3,.t 5),(3,1,.t 8)]),
⟨none,.store (.t 2) (.t 9) 4,none⟩]
[2])
.ret))⟩
abbrev pbT1_:=pcR nbT1_ cbT1_ Tryz.func39
def cbT2_:AFun:=⟨11,1,[.cells 2 5],
 (.seq (.reg [op 1 (.box ta21 3 (.t 0)),op 2 (.alloc ta13 5 (.agg [.bool false,.str [],iv 0,iv 0,iv 0]))]
[1,2])
(.seq (.dreg [oF 3 1 0,oL 4 3,oF 5 1 1,oL 6 5,op 7 (.call nbi_ [.t 6]),oF 8 1 2,oL 9 8,op 10 (.build [.bool false,.str [],iv 0,iv 0,iv 0] [(0,1,.t 4),(1,3,.t 7),(4,1,.t 9)]),
⟨none,.store (.t 2) (.t 10) 5,none⟩]
[2])
.ret))⟩
abbrev pbT2_:=pcR nbT2_ cbT2_ Tryz.func42
def cbT3_:AFun:=⟨9,1,[.cells 2 7],
 (.seq (.reg [op 1 (.box taF_ 5 (.t 0)),op 2 (.alloc ta16 7 (.agg [.str [],iv 0,iv 0,iv 0,iv 0,.str [],.bool false]))]
[1,2])
(.seq (.dreg [oF 3 1 0,oL 4 3,op 5 (.call nbi_ [.t 4]),oF 6 1 1,oN 7 6 4,op 8 (.build [.str [],iv 0,iv 0,iv 0,iv 0,.str [],.bool false] [(0,3,.t 5),(3,4,.t 7)]),
⟨none,.store (.t 2) (.t 8) 7,none⟩]
[2])
.ret))⟩
abbrev pbT3_:=pcR nbT3_ cbT3_ Tryz.func44
def cbT4_:AFun:=⟨11,1,[.cells 2 5],
 (.seq (.reg [op 1 (.box ta15 3 (.t 0)),op 2 (.alloc ta12 5 (.agg [.str [],iv 0,iv 0,.bool false,.bool false]))]
[1,2])
(.seq (.dreg [oF 3 1 0,oL 4 3,op 5 (.call nbi_ [.t 4]),oF 6 1 1,oL 7 6,oF 8 1 2,oL 9 8,op 10 (.build [.str [],iv 0,iv 0,.bool false,.bool false] [(0,3,.t 5),(3,1,.t 7),(4,1,.t 9)]),
⟨none,.store (.t 2) (.t 10) 5,none⟩]
[2])
.ret))⟩
abbrev pbT4_:=pcR nbT4_ cbT4_ Tryz.func46
def cba_:AFun:=⟨33,2,[.cells 4 8],
 (.seq (.reg [op 2 (.box taQ_ 9 (.t 0)),op 3 (.box taA_ 6 (.t 1)),op 4 (.alloc ta18 8 (.agg [iv 0,.str [],iv 0,iv 0,.str [],.bool false,iv 0,iv 0]))]
[2,3,4])
(.seq (.seq (.reg [oF 5 3 0,oL 6 5]
[2,3,4,6])
(.block 0
(.seq (.reg [oK 8 .eql 6 1,oM 7 8]
[2,3,4,6,7])
(.cond (.t 7)
(.seq (.reg [oF 9 3 2,oN 10 9 4,op 11 (.build [iv 0,.str [],iv 0,iv 0,.str [],.bool false,iv 0,iv 0] [(0,1,.k (iv 1)),(2,4,.t 10)]),
⟨none,.store (.t 4) (.t 11) 8,none⟩]
[4])
.ret)
(.seq (.reg [oK 13 .eql 6 2,oM 12 13]
[2,3,4,6,12])
(.cond (.t 12)
(.seq (.reg [oF 14 2 2,oL 15 14,oF 16 3 1,oL 17 16,oI 18 3 15 17,oF 19 18 1,oL 20 19,op 21 (.build [iv 0,.str [],iv 0,iv 0,.str [],.bool false,iv 0,iv 0] [(0,1,.k (iv 2)),(1,1,.t 20)]),
⟨none,.store (.t 4) (.t 21) 8,none⟩]
[4])
.ret)
(.seq (.reg [oK 23 .eql 6 3,oM 22 23]
[2,3,4,22])
(.cond (.t 22)
(.seq (.reg [oF 24 2 3,oL 25 24,oF 26 3 1,oL 27 26,oI 28 5 25 27,oF 29 28 0,oL 30 29,op 31 (.build [iv 0,.str [],iv 0,iv 0,.str [],.bool false,iv 0,iv 0] [(0,1,.k (iv 2)),(1,1,.t 30)]),
⟨none,.store (.t 4) (.t 31) 8,none⟩]
[4])
.ret)
.skip))))))))
(.seq (.reg [op 32 (.build [iv 0,.str [],iv 0,iv 0,.str [],.bool false,iv 0,iv 0] [(0,1,.k (iv 3))]),
⟨none,.store (.t 4) (.t 32) 8,none⟩]
[4])
.ret)))⟩
abbrev pba_:=pcR nba_ cba_ Tryz.func86
def cbeaAaT_:AFun:=⟨22,2,[.t 4],
 (.seq (.reg [op 4 (.nilrow ta18 8)]
[0,1])
(.seq (.reg [op 5 (.nilrow ta18 8)]
[0,1,5])
(.seq (.seq (.reg [oM 8 0,oZ 9 8,oC 10 0]
[1,5,8,9,10])
(.block 0
(.loop [1,5,8,9,10] [4,5,9,19]
 (.seq (.reg [oB 11 .lss 10 9]
[1,5,8,9,10,11])
(.seq (.cond (.t 11)
.skip
(.exit 0))
(.seq (.block 1
(.seq (.reg [oI 12 6 8 10,oN 13 12 6,op 7 (.alloc taA_ 6 (.agg [iv 0,iv 0,iv 0,iv 0,.str [],.bool false])),
⟨none,.store (.t 7) (.t 13) 6,none⟩]
[1,5,7,8,9,10])
(.reg [oM 14 5,oM 15 1,oN 16 7 6,op 17 (.callv (.t 15) [.t 16]),op 18 (.mkrow ta18 8 1 (.agg [iv 0,.str [],iv 0,iv 0,.str [],.bool false,iv 0,iv 0]) [(0,.t 17)]),op 19 (.app ta18 8 80 (.t 14) (.t 18)),oM 5 19]
[1,5,8,9,10])))
(.reg [oK 20 .add 10 1,oM 10 20]
[1,5,8,9,10])))))))
(.seq (.reg [oM 21 5,oM 4 21]
[4])
.ret))))⟩
theorem kbeaAaT_:chkF Tryz.prog Tryz.f84 cbeaAaT_=true:=by kernel_rfl
def cbeaDaT_:AFun:=⟨22,2,[.t 4],
 (.seq (.reg [op 4 (.nilrow ta17 4)]
[0,1])
(.seq (.reg [op 5 (.nilrow ta17 4)]
[0,1,5])
(.seq (.seq (.reg [oM 8 0,oZ 9 8,oC 10 0]
[1,5,8,9,10])
(.block 0
(.loop [1,5,8,9,10] [4,5,9,19]
 (.seq (.reg [oB 11 .lss 10 9]
[1,5,8,9,10,11])
(.seq (.cond (.t 11)
.skip
(.exit 0))
(.seq (.block 1
(.seq (.reg [oI 12 2 8 10,oN 13 12 2,op 7 (.alloc taD_ 2 (.agg [.str [],.nils])),
⟨none,.store (.t 7) (.t 13) 2,none⟩]
[1,5,7,8,9,10])
(.reg [oM 14 5,oM 15 1,oN 16 7 2,op 17 (.callv (.t 15) [.t 16]),op 18 (.mkrow ta17 4 1 (.agg [.str [],iv 0,iv 0,.nils]) [(0,.t 17)]),op 19 (.app ta17 4 56 (.t 14) (.t 18)),oM 5 19]
[1,5,8,9,10])))
(.reg [oK 20 .add 10 1,oM 10 20]
[1,5,8,9,10])))))))
(.seq (.reg [oM 21 5,oM 4 21]
[4])
.ret))))⟩
abbrev pbeaDaT_:=pcR nbeaDaT_ cbeaDaT_ Tryz.func38
def cbeaFaT_:AFun:=⟨22,2,[.t 4],
 (.seq (.reg [op 4 (.nilrow ta16 7)]
[0,1])
(.seq (.reg [op 5 (.nilrow ta16 7)]
[0,1,5])
(.seq (.seq (.reg [oM 8 0,oZ 9 8,oC 10 0]
[1,5,8,9,10])
(.block 0
(.loop [1,5,8,9,10] [4,5,9,19]
 (.seq (.reg [oB 11 .lss 10 9]
[1,5,8,9,10,11])
(.seq (.cond (.t 11)
.skip
(.exit 0))
(.seq (.block 1
(.seq (.reg [oI 12 5 8 10,oN 13 12 5,op 7 (.alloc taF_ 5 (.agg [.str [],iv 0,iv 0,.str [],.bool false])),
⟨none,.store (.t 7) (.t 13) 5,none⟩]
[1,5,7,8,9,10])
(.reg [oM 14 5,oM 15 1,oN 16 7 5,op 17 (.callv (.t 15) [.t 16]),op 18 (.mkrow ta16 7 1 (.agg [.str [],iv 0,iv 0,iv 0,iv 0,.str [],.bool false]) [(0,.t 17)]),op 19 (.app ta16 7 72 (.t 14) (.t 18)),oM 5 19]
[1,5,8,9,10])))
(.reg [oK 20 .add 10 1,oM 10 20]
[1,5,8,9,10])))))))
(.seq (.reg [oM 21 5,oM 4 21]
[4])
.ret))))⟩
abbrev pbeaFaT_:=pcR nbeaFaT_ cbeaFaT_ Tryz.func43
