/-
  Lemmas. No claim is proved here.
-/
import Derived.Test.YtkadalpaeglmnaaGreatDoorYAcR0
set_option linter.unusedSimpArgs false
namespace Go.Proofs.YtkadalpaeglmnaaGreatDoor.Ab
open Go
def ct23:AFun:=⟨9,2,[.t 4],
 (.seq (.reg [op 3 (.box tf10 1 (.t 1)),oV 4 false]
[0,3])
(.seq (.reg [oM 5 0,op 6 (.mkfn ntaaT1_ [.t 3]),op 7 (.call ns19 [.t 5,.t 6]),oU 8 7,oM 4 8]
[4])
.ret))⟩
abbrev htaaT_:=hcR nt23 ct23 Tryz.func190
def ct18:AFun:=⟨8,2,[.t 3],
 (.seq (.reg [op 2 (.box ta20 4 (.t 0)),oV 3 false]
[1,2])
(.seq (.reg [oL 4 1,oN 5 2 4,op 6 (.callv (.t 4) [.t 5]),oU 7 6,oM 3 7]
[3])
.ret))⟩
abbrev htaaT1_:=hcR ntaaT1_ ct18 Tryz.func239
def ct17:AFun:=⟨9,2,[.t 4],
 (.seq (.reg [op 3 (.box tf12 1 (.t 1)),oV 4 false]
[0,3])
(.seq (.reg [oM 5 0,op 6 (.mkfn nt12 [.t 3]),op 7 (.call ns11 [.t 5,.t 6]),oU 8 7,oM 4 8]
[4])
.ret))⟩
abbrev pt16:=pcR nt19 ct17 Tryz.func99
def ct11:AFun:=⟨8,2,[.t 3],
 (.seq (.reg [op 2 (.box ta12 5 (.t 0)),oV 3 false]
[1,2])
(.seq (.reg [oL 4 1,oN 5 2 5,op 6 (.callv (.t 4) [.t 5]),oU 7 6,oM 3 7]
[3])
.ret))⟩
abbrev pt11:=pcR nt12 ct11 Tryz.func183
def ctaaT_:AFun:=⟨9,2,[.t 4],
 (.seq (.reg [op 3 (.box tfaTb_ 1 (.t 1)),oV 4 false]
[0,3])
(.seq (.reg [oM 5 0,op 6 (.mkfn nt10 [.t 3]),op 7 (.call nsCaTaT_ [.t 5,.t 6]),oU 8 7,oM 4 8]
[4])
.ret))⟩
abbrev ptaaT_:=pcR ntaaT_ ctaaT_ Tryz.func101
def ctaaT1_:AFun:=⟨8,2,[.t 3],
 (.seq (.reg [op 2 (.box ta11 4 (.t 0)),oV 3 false]
[1,2])
(.seq (.reg [oL 4 1,oN 5 2 4,op 6 (.callv (.t 4) [.t 5]),oU 7 6,oM 3 7]
[3])
.ret))⟩
abbrev ptaaT1_:=pcR nt10 ctaaT1_ Tryz.func184
def ct16:AFun:=⟨9,2,[.t 4],
 (.seq (.reg [op 3 (.box tf11 1 (.t 1)),oV 4 false]
[0,3])
(.seq (.reg [oM 5 0,op 6 (.mkfn nt11 [.t 3]),op 7 (.call ns10 [.t 5,.t 6]),oU 8 7,oM 4 8]
[4])
.ret))⟩
abbrev pt15:=pcR nt18 ct16 Tryz.func103
def ct10:AFun:=⟨8,2,[.t 3],
 (.seq (.reg [op 2 (.box ta10 13 (.t 0)),oV 3 false]
[1,2])
(.seq (.reg [oL 4 1,oN 5 2 13,op 6 (.callv (.t 4) [.t 5]),oU 7 6,oM 3 7]
[3])
.ret))⟩
abbrev pt10:=pcR nt11 ct10 Tryz.func187
def ct30:AFun:=⟨40,1,[.t 2],
 (.seq (.reg [op 1 (.box ta18 8 (.t 0)),oV 2 false]
[1])
(.seq (.seq (.reg [oF 3 1 0,oL 4 3]
[1,4])
(.block 0
(.seq (.reg [oK 6 .eql 4 1,oM 5 6]
[1,4,5])
(.cond (.t 5)
(.seq (.reg [oF 7 1 1,oL 8 7,op 9 (.bin .eql (.t 8) (.k (.str []))),oM 10 9,qF 11 1 2 10 true,qN 12 11 4 10 true,oG 13 (.call nvR_ [.t 12]) 10 true,oA 14 10 13,oM 2 14]
[2])
.ret)
(.seq (.reg [oK 16 .eql 4 2,oM 15 16]
[1,15])
(.cond (.t 15)
(.seq (.reg [oF 17 1 1,oL 18 17,op 19 (.call nsN_ [.t 18]),oM 20 19,qF 21 1 2 20 true,qN 22 21 4 20 true,oG 23 (.build [iv 0,iv 0,.str [],.bool false] []) 20 true,oG 24 (.eqA false [0,0,1,2] (.t 22) (.t 23)) 20 true,oA 25 20 24,oM 2 25]
[2])
.ret)
.skip))))))
(.seq (.reg [oF 26 1 0,oL 27 26,oK 28 .eql 27 3,oM 29 28,qF 30 1 1 29 true,qL 31 30 29 true,oG 32 (.bin .eql (.t 31) (.k (.str []))) 29 true,oA 33 29 32,oM 34 33,qF 35 1 2 34 true,qN 36 35 4 34 true,oG 37 (.build [iv 0,iv 0,.str [],.bool false] []) 34 true,oG 38 (.eqA false [0,0,1,2] (.t 36) (.t 37)) 34 true,oA 39 34 38,oM 2 39]
[2])
.ret)))⟩
abbrev pt25:=pcR nta_ ct30 Tryz.func186
def ctk_:AFun:=⟨6,1,[.t 2],
 (.seq (.reg [oV 2 false]
[0])
(.seq (.reg [oM 3 0,op 4 (.call nvN_ [.t 3]),op 5 (.bin .neq (.t 4) (.k (.str []))),oM 2 5]
[2])
.ret))⟩
abbrev ptk_:=pcR ntk_ ctk_ Tryz.func93
def ct26:AFun:=⟨38,1,[.t 2],
 (.seq (.reg [op 1 (.box taE_ 10 (.t 0)),oV 2 false]
[1])
(.seq (.block 0
(.seq (.reg [oF 4 1 1,oL 5 4,oK 6 .neq 5 0,oM 7 6,qF 8 1 2 7 false,qL 9 8 7 false,qK 10 .neq 9 0 7 false,oO 11 7 10,oM 3 11]
[1,3])
(.cond (.t 3)
(.seq (.reg [oV 2 false]
[2])
.ret)
(.seq (.reg [oF 13 1 0,oL 14 13,oK 15 .eql 14 1,oM 12 15]
[1,12])
(.cond (.t 12)
(.seq (.reg [oF 16 1 3,oL 17 16,op 18 (.bin .eql (.t 17) (.k (.str []))),oM 19 18,qF 20 1 4 19 true,qN 21 20 4 19 true,oG 22 (.call nvR_ [.t 21]) 19 true,oA 23 19 22,oM 2 23]
[2])
.ret)
.skip)))))
(.seq (.reg [oF 24 1 0,oL 25 24,oK 26 .eql 25 17,oM 27 26,qF 28 1 4 27 true,qN 29 28 4 27 true,oG 30 (.build [iv 0,iv 0,.str [],.bool false] []) 27 true,oG 31 (.eqA false [0,0,1,2] (.t 29) (.t 30)) 27 true,oA 32 27 31,oM 33 32,qF 34 1 3 33 true,qL 35 34 33 true,oG 36 (.call nsN_ [.t 35]) 33 true,oA 37 33 36,oM 2 37]
[2])
.ret)))⟩
abbrev ptl_:=pcR ntl_ ct26 Tryz.func237
def ct28:AFun:=⟨6,1,[.t 2],
 (.seq (.reg [op 1 (.box taI_ 3 (.t 0)),oV 2 false]
[1])
(.seq (.reg [oF 3 1 0,oL 4 3,op 5 (.call nsN_ [.t 4]),oM 2 5]
[2])
.ret))⟩
abbrev pt24:=pcR ntn_ ct28 Tryz.func89
def ct27:AFun:=⟨151,1,[.t 2,.t 3],
 (.seq (.reg [op 2 (.nilrow ti_ 1),op 3 (.nilrow ti_ 1)]
[0])
(.seq (.dregT [oM 7 0,oZ 8 7,op 9 (.mks ti_ 1 8 (iv 0) (.t 8) (.t 8)),oM 10 0,oZ 11 10,op 12 (.mks ti_ 1 8 (iv 0) (.t 11) (.t 11)),oM 2 9,oM 3 12]
[2,5] [[],[],[],[],[],[],[2],[2,5]] [[2],[2],[],[5],[5],[],[],[]] [0,1,3,4]
(.next 2 [6] [3,4] (.next 5 [7] [6] .fin .nil) (.next 5 [] [0,1] (.next 2 [6,7] [] .fin .nil) .nil))
[0,2,3,7,8,9,10,11,12] [0,2,3])
(.seq (.seq (.reg [oM 13 0,oZ 14 13,oC 15 0]
[2,3,13,14,15])
(.block 0
(.loop [2,3,13,14,15] [2,3,8,9,11,12,14]
 (.seq (.reg [oB 16 .lss 15 14]
[2,3,13,14,15,16])
(.seq (.cond (.t 16)
.skip
(.exit 0))
(.seq (.block 1
(.seq (.reg [oM 17 15,oI 18 10 13 15,oN 19 18 10,op 5 (.alloc taE_ 10 (.agg [iv 0,iv 0,iv 0,.str [],iv 0,iv 0,.str [],.bool false,iv 0,iv 0])),oM 4 17,
⟨none,.store (.t 5) (.t 19) 10,none⟩]
[2,3,4,5,13,14,15])
(.seq (.seq (.reg [oN 20 5 10,op 21 (.call ntl_ [.t 20])]
[2,3,4,5,13,14,15,21])
(.cond (.t 21)
(.seq (.reg [oM 22 2,oM 23 4,oM 24 3,oM 25 4,oI 26 1 22 23,
⟨none,.store (.t 26) (.k (iv 1)) 1,none⟩,oI 27 1 24 25,
⟨none,.store (.t 27) (.k (iv 1)) 1,none⟩]
[2,3,13,14,15])
(.exit 1))
.skip))
(.seq (.seq (.reg [oF 28 5 0,oL 29 28,oK 30 .lss 29 4,oM 31 30,qF 32 5 0 31 false,qL 33 32 31 false,qK 34 .gtr 33 16 31 false,oO 35 31 34,oM 36 35,qF 37 5 3 36 false,qL 38 37 36 false,oG 39 (.bin .neq (.t 38) (.k (.str []))) 36 false,oO 40 36 39,oM 41 40,qF 42 5 4 41 false,qN 43 42 4 41 false,oG 44 (.build [iv 0,iv 0,.str [],.bool false] []) 41 false,oG 45 (.eqA true [0,0,1,2] (.t 43) (.t 44)) 41 false,oO 46 41 45,oM 47 46,qM 48 4 47 false,qK 49 .eql 48 0 47 false,oO 50 47 49,oM 51 50,qM 52 2 51 false,qM 53 4 51 false,qK 54 .sub 53 1 51 false,qI 55 1 52 54 51 false,qL 56 55 51 false,qK 57 .eql 56 0 51 false,oO 58 51 57]
[2,3,4,5,13,14,15,58])
(.cond (.t 58)
(.exit 1)
.skip))
(.seq (.seq (.reg [oF 59 5 0,oL 60 59,oK 61 .leq 60 5]
[2,3,4,5,13,14,15,61])
(.cond (.t 61)
(.seq (.seq (.reg [oF 62 5 1,oL 63 62,oM 64 4,oK 65 .sub 64 1,oB 66 .eql 63 65,oM 67 66,qF 68 5 2 67 true,qL 69 68 67 true,qK 70 .eql 69 0 67 true,oA 71 67 70]
[2,3,4,13,14,15,71])
(.cond (.t 71)
(.dregC [oM 72 2,oM 73 4,oM 74 3,oM 75 4,oM 76 2,oM 77 4,oK 78 .sub 77 1,oI 79 1 76 78,oL 80 79,oK 81 .add 80 1,oM 82 3,oM 83 4,oK 84 .sub 83 1,oI 85 1 82 84,oL 86 85,oK 87 .add 86 1,oI 88 1 72 73,
⟨none,.store (.t 88) (.t 81) 1,none⟩,oI 89 1 74 75,
⟨none,.store (.t 89) (.t 87) 1,none⟩]
[17,19] [0,0,0,0,0,0,0,0,0,0,0,0,0,0,0,0,0,1,1,2] [0,0,1,1,0,0,0,0,0,0,0,0,0,0,0,1,0,2,1,2] [([0,1,2,3,4,5,6,7,8,9,10,11,12,13,14,15,16],[]),([18],[2,3,15]),([],[])] [2,3,4,13,14,15,72,73,74,75,76,77,78,79,80,81,82,83,84,85,86,87,88,89]
[2,3,13,14,15])
.skip))
(.exit 1))
.skip))
(.seq (.reg [oM 90 4,oK 91 .sub 90 1,oM 92 2,oM 93 4,oK 94 .sub 93 1,oI 95 1 92 94,oL 96 95,oB 97 .sub 91 96,oM 6 97]
[2,3,4,5,6,13,14,15])
(.seq (.reg [oF 98 5 2,oL 99 98,oM 100 4,oK 101 .sub 100 1,oB 102 .eql 99 101,oM 103 102,qF 104 5 1 103 true,qL 105 104 103 true,qM 106 6 103 true,qB 107 .eql 105 106 103 true,oA 108 103 107,oM 109 108,qM 110 6 109 true,qK 111 .geq 110 0 109 true,oA 112 109 111,oM 113 112,qM 114 2 113 true,qM 115 6 113 true,qI 116 1 114 115 113 true,qL 117 116 113 true,qK 118 .gtr 117 0 113 true,oA 119 113 118]
[2,3,4,6,13,14,15,119])
(.cond (.t 119)
(.dregC [oM 120 2,oM 121 4,oM 122 3,oM 123 4,oM 124 2,oM 125 6,oI 126 1 124 125,oL 127 126,oM 128 2,oM 129 4,oK 130 .sub 129 1,oI 131 1 128 130,oL 132 131,oB 133 .add 127 132,oK 134 .add 133 1,oM 135 3,oM 136 6,oI 137 1 135 136,oL 138 137,oM 139 3,oM 140 4,oK 141 .sub 140 1,oI 142 1 139 141,oL 143 142,op 144 (.mx false (.t 138) (.t 143)),oK 145 .add 144 1,oI 146 1 120 121,
⟨none,.store (.t 146) (.t 134) 1,none⟩,oI 147 1 122 123,
⟨none,.store (.t 147) (.t 145) 1,none⟩]
[27,29] [0,0,0,0,0,0,0,0,0,0,0,0,0,0,0,0,0,0,0,0,0,0,0,0,0,0,0,1,1,2] [0,0,1,1,0,0,0,0,0,0,0,0,0,0,0,0,0,0,0,0,0,0,0,0,1,1,0,2,1,2] [([0,1,2,3,4,5,6,7,8,9,10,11,12,13,14,15,16,17,18,19,20,21,22,23,24,25,26],[]),([28],[2,3,24,25]),([],[])] [2,3,4,6,13,14,15,120,121,122,123,124,125,126,127,128,129,130,131,132,133,134,135,136,137,138,139,140,141,142,143,144,145,146,147]
[2,3,13,14,15])
.skip))))))))
(.reg [oK 148 .add 15 1,oM 15 148]
[2,3,13,14,15])))))))
(.seq (.reg [oM 149 2,oM 150 3,oM 2 149,oM 3 150]
[2,3])
.ret))))⟩
abbrev pt23:=pcR nt27 ct27 Tryz.func188
def cts_:AFun:=⟨11,1,[.t 2],
 (.seq (.reg [op 1 (.box ta11 4 (.t 0)),oV 2 false]
[1])
(.seq (.reg [oF 3 1 0,oL 4 3,op 5 (.call nsN_ [.t 4]),oM 6 5,qF 7 1 1 6 true,qL 8 7 6 true,oG 9 (.call nt24 [.t 8,.f nta_]) 6 true,oA 10 6 9,oM 2 10]
[2])
.ret))⟩
abbrev pts_:=pcR nts_ cts_ Tryz.func102
def ctt_:AFun:=⟨53,1,[.t 2],
 (.seq (.reg [op 1 (.box ta10 13 (.t 0)),oV 2 false]
[1])
(.seq (.reg [oF 8 1 10,oL 9 8,op 10 (.call nt27 [.t 9]),oM 7 10,oE 11 7 0,oE 12 7 1,op 3 (.alloc tS10 1 (.nils)),op 4 (.alloc tS10 1 (.nils)),
⟨none,.store (.t 3) (.t 11) 1,none⟩,
⟨none,.store (.t 4) (.t 12) 1,none⟩]
[1,3,4])
(.seq (.reg [op 5 (.alloc ti_ 1 (iv 0)),
⟨none,.store (.t 5) (.k (iv 0)) 1,none⟩]
[1,3,4,5])
(.seq (.reg [op 13 (.mkfn ntt1_ [.t 5,.t 1,.t 3,.t 4]),op 6 (.alloc tfib_ 1 (.nilfn)),
⟨none,.store (.t 6) (.t 13) 1,none⟩]
[1,5,6])
(.seq (.seq (.reg [oF 14 1 0,oN 15 14 3,op 16 (.call ntn_ [.t 15]),oU 17 16,oM 18 17,qF 19 1 3 18 false,qN 20 19 3 18 false,oG 21 (.call ntn_ [.t 20]) 18 false,oG 22 (.un .not (.t 21)) 18 false,oO 23 18 22,oM 24 23,qF 25 1 6 24 false,qN 26 25 4 24 false,oG 27 (.call nts_ [.t 26]) 24 false,oG 28 (.un .not (.t 27)) 24 false,oO 29 24 28,oM 30 29,qF 31 1 11 30 false,qL 32 31 30 false,oG 33 (.bin .neq (.t 32) (.k (iv (-1)))) 30 false,qM 34 33 30 false,qL 35 6 34 true,qF 36 1 11 34 true,qL 37 36 34 true,oG 38 (.callv (.t 35) [.t 37]) 34 true,oG 39 (.un .not (.t 38)) 34 true,qA 40 34 39 30 false,oO 41 30 40]
[1,5,6,41])
(.cond (.t 41)
(.seq (.reg [oV 2 false]
[2])
.ret)
.skip))
(.seq (.reg [oF 42 1 12,oL 43 42,op 44 (.mkfn ntt2_ [.t 6]),op 45 (.call nt23 [.t 43,.t 44]),oM 46 45,qL 47 5 46 true,qF 48 1 10 46 true,qL 49 48 46 true,oG 50 (.len false (.t 49)) 46 true,qB 51 .eql 47 50 46 true,oA 52 46 51,oM 2 52]
[2])
.ret))))))⟩
abbrev ptt_:=pcR ntt_ ctt_ Tryz.func104
def ctt1_:AFun:=⟨37,5,[.t 6],
 (.seq (.reg [oV 6 false]
[0,1,2,3,4])
(.seq (.seq (.dreg [oM 7 0,oL 8 1,oB 9 .lss 7 8,oM 10 9,qM 11 0 10 false,qF 12 2 10 10 false,qL 13 12 10 false,oG 14 (.len false (.t 13)) 10 false,qB 15 .geq 11 14 10 false,oO 16 10 15,oM 17 16,qL 18 3 17 false,qM 19 0 17 false,qI 20 1 18 19 17 false,qL 21 20 17 false,qM 22 0 17 false,qL 23 1 17 false,qB 24 .sub 22 23 17 false,qK 25 .add 24 1 17 false,qB 26 .neq 21 25 17 false,oO 27 17 26,oM 28 27,qL 29 4 28 false,qM 30 0 28 false,qI 31 1 29 30 28 false,qL 32 31 28 false,qK 33 .gtr 32 64 28 false,oO 34 28 33]
[0,1,34])
(.cond (.t 34)
(.seq (.reg [oV 6 false]
[6])
.ret)
.skip))
(.seq (.reg [oM 35 0,oK 36 .add 35 1,
⟨none,.store (.t 1) (.t 36) 1,none⟩]
[])
(.seq (.reg [oV 6 true]
[6])
.ret))))⟩
abbrev htt1_:=hcR ntt1_ ctt1_ Tryz.func189
def ctt2_:AFun:=⟨13,2,[.t 3],
 (.seq (.reg [op 2 (.box ta20 4 (.t 0)),oV 3 false]
[1,2])
(.seq (.reg [oF 4 2 0,oN 5 4 3,op 6 (.call ntn_ [.t 5]),oM 7 6,qL 8 1 7 true,qF 9 2 3 7 true,qL 10 9 7 true,oG 11 (.callv (.t 8) [.t 10]) 7 true,oA 12 7 11,oM 3 12]
[3])
.ret))⟩
abbrev htt2_:=hcR ntt2_ ctt2_ Tryz.func191
def ctS_:AFun:=⟨9,1,[.t 2],
 (.seq (.reg [op 1 (.box taQ_ 9 (.t 0)),op 2 (.nilrow ti_ 1)]
[1])
(.seq (.seq (.reg [oN 3 1 9,op 4 (.call ncR_ [.t 3]),oU 5 4]
[1,5])
(.cond (.t 5)
(.seq (.reg [op 2 (.nilrow ti_ 1)]
[2])
.ret)
.skip))
(.seq (.reg [oN 6 1 9,op 7 (.call ntf_ [.t 6]),op 8 (.fld (.t 7) 0),oM 2 8]
[2])
.ret)))⟩
abbrev ptS_:=pcR ntS_ ctS_ Tryz.func7
def ct25:AFun:=⟨52,1,[.cells 2 9,.t 3],
 (.seq (.reg [op 1 (.box taQ_ 9 (.t 0)),op 2 (.alloc taQ_ 9 (.agg [.str [],.nils,.nils,.nils,.nils,iv 0,.nils,.nils,.nils])),oV 3 false]
[1,2])
(.seq (.reg [oN 12 1 9,op 13 (.call nbT_ [.t 12]),oM 11 13,oE 14 11 0,oE 15 11 1,op 4 (.alloc ta14 12 (.agg [.str [],iv 0,iv 0,.nils,.nils,.nils,.nils,.str [],iv 0,iv 0,.nils,.nils])),
⟨none,.store (.t 4) (.t 14) 12,none⟩,oM 5 15]
[1,2,4,5])
(.seq (.seq (.reg [oM 16 5,oU 17 16]
[1,2,4,17])
(.cond (.t 17)
(.seq (.reg [op 18 (.build [.str [],.nils,.nils,.nils,.nils,iv 0,.nils,.nils,.nils] []),
⟨none,.store (.t 2) (.t 18) 9,none⟩,oV 3 false]
[2,3])
.ret)
.skip))
(.seq (.dregA [oN 19 1 9,oN 20 1 9,op 21 (.call ntS_ [.t 20]),op 22 (.call nt26 [.t 19,.t 21]),op 6 (.alloc tS_ 1 (.nils)),
⟨none,.store (.t 6) (.t 22) 1,none⟩] 4 5 [1,2,4,6,19,20,21,22]
[1,2,4,6])
(.seq (.reg [op 23 (.mkfn ntT1_ [.t 6]),op 7 (.alloc tfaIb_ 1 (.nilfn)),
⟨none,.store (.t 7) (.t 23) 1,none⟩]
[1,2,4,7])
(.seq (.reg [oF 24 4 6,oL 25 24,op 26 (.mkfn ntT2_ [.t 7]),op 27 (.call nt25 [.t 25,.t 26]),oF 28 4 6,
⟨none,.store (.t 28) (.t 27) 1,none⟩]
[1,2,4,7])
(.seq (.reg [oF 29 4 11,oL 30 29,op 31 (.mkfn ntT3_ [.t 7]),op 32 (.call ntkaT_ [.t 30,.t 31]),oM 8 32]
[1,2,4,7,8])
(.seq (.reg [oF 33 4 11,oL 34 33,op 35 (.mkfn ntT4_ [.t 7]),op 36 (.call ntkaT_ [.t 34,.t 35]),oF 37 4 11,
⟨none,.store (.t 37) (.t 36) 1,none⟩]
[1,2,4,8])
(.seq (.reg [oN 38 1 9,oN 39 4 12,oM 40 8,op 41 (.call nt28 [.t 38,.t 39,.t 40]),oF 42 4 10,
⟨none,.store (.t 42) (.t 41) 1,none⟩]
[2,4])
(.seq (.reg [oN 44 4 12,op 45 (.call ncL_ [.t 44]),oM 43 45,oE 46 43 0,oE 47 43 1,op 9 (.alloc taQ_ 9 (.agg [.str [],.nils,.nils,.nils,.nils,iv 0,.nils,.nils,.nils])),op 10 (.alloc ta34 3 (.agg [iv 0,iv 0,iv 0])),
⟨none,.store (.t 9) (.t 46) 9,none⟩,
⟨none,.store (.t 10) (.t 47) 3,none⟩]
[2,9,10])
(.seq (.dregC [oN 48 9 9,oN 49 10 3,op 50 (.build [iv 0,iv 0,iv 0] []),op 51 (.eqA false [0,0,0] (.t 49) (.t 50)),
⟨none,.store (.t 2) (.t 48) 9,none⟩,oM 3 51]
[4] [0,0,0,0,1,1] [0,1,1,1,1,1] [([0,1,2,3],[]),([5],[1,2,3])] [2,3,9,10,48,49,50,51]
[2,3])
.ret)))))))))))⟩
abbrev pt22:=pcR nt17 ct25 Tryz.func6
def ctT1_:AFun:=⟨8,2,[.t 3],
 (.seq (.reg [op 2 (.box taI_ 3 (.t 0)),oV 3 false]
[1,2])
(.seq (.reg [oL 4 1,oF 5 2 0,oL 6 5,op 7 (.call nsCss_ [.t 4,.t 6]),oM 3 7]
[3])
.ret))⟩
abbrev ptT1_:=pcR ntT1_ ctT1_ Tryz.func15
def ctT2_:AFun:=⟨8,2,[.t 3],
 (.seq (.reg [op 2 (.box ta12 5 (.t 0)),oV 3 false]
[1,2])
(.seq (.reg [oL 4 1,oF 5 2 0,oN 6 5 3,op 7 (.callv (.t 4) [.t 6]),oM 3 7]
[3])
.ret))⟩
abbrev ptT2_:=pcR ntT2_ ctT2_ Tryz.func18
def ctT3_:AFun:=⟨9,2,[.t 3],
 (.seq (.reg [op 2 (.box ta10 13 (.t 0)),oV 3 false]
[1,2])
(.seq (.reg [oL 4 1,oF 5 2 0,oN 6 5 3,op 7 (.callv (.t 4) [.t 6]),oU 8 7,oM 3 8]
[3])
.ret))⟩
abbrev ptT3_:=pcR ntT3_ ctT3_ Tryz.func20
def ctT4_:AFun:=⟨8,2,[.t 3],
 (.seq (.reg [op 2 (.box ta10 13 (.t 0)),oV 3 false]
[1,2])
(.seq (.reg [oL 4 1,oF 5 2 0,oN 6 5 3,op 7 (.callv (.t 4) [.t 6]),oM 3 7]
[3])
.ret))⟩
abbrev ptT4_:=pcR ntT4_ ctT4_ Tryz.func21
def ctT_:AFun:=⟨14,1,[.t 2],
 (.seq (.reg [op 1 (.box taQ_ 9 (.t 0)),oV 2 false]
[1])
(.seq (.dreg [oN 3 1 9,op 4 (.call ncR_ [.t 3]),oM 5 4,qN 6 1 9 5 true,oG 7 (.call ntS_ [.t 6]) 5 true,oG 8 (.len false (.t 7)) 5 true,qF 9 1 4 5 true,qL 10 9 5 true,oG 11 (.len false (.t 10)) 5 true,qB 12 .eql 8 11 5 true,oA 13 5 12,oM 2 13]
[2])
.ret))⟩
abbrev ptT_:=pcR ntT_ ctT_ Tryz.func10
def cta_:AFun:=⟨47,3,[.t 6],
 (.seq (.reg [op 3 (.box taQ_ 9 (.t 0)),op 4 (.box ta14 12 (.t 1)),op 6 (.nilrow ta11 4)]
[2,4])
(.seq (.reg [oF 14 4 10,oL 15 14,oM 7 15]
[2,4,7])
(.seq (.reg [op 8 (.mov (.f nta1_))]
[2,4,7,8])
(.seq (.reg [oM 16 7,op 17 (.call ns27 [.t 16]),oM 9 17]
[2,4,8,9])
(.seq (.seq (.reg [oM 18 2,oZ 19 18,oC 20 0]
[4,8,9,18,19,20])
(.block 0
(.loop [4,8,9,18,19,20] [3,4,6,17,19,44]
 (.seq (.reg [oB 21 .lss 20 19]
[4,8,9,18,19,20,21])
(.seq (.cond (.t 21)
.skip
(.exit 0))
(.seq (.block 1
(.seq (.reg [oI 22 13 18 20,oN 23 22 13,op 11 (.alloc ta10 13 (.agg [.str [],iv 0,iv 0,.str [],iv 0,iv 0,.str [],.nils,iv 0,iv 0,.nils,iv 0,.nils])),
⟨none,.store (.t 11) (.t 23) 13,none⟩]
[4,8,9,11,18,19,20])
(.seq (.reg [oM 24 8,oF 25 11 6,oN 26 25 4,op 27 (.callv (.t 24) [.t 26]),op 12 (.alloc tfaTb_ 1 (.nilfn)),
⟨none,.store (.t 12) (.t 27) 1,none⟩]
[4,8,9,11,12,18,19,20])
(.seq (.reg [oF 28 4 11,oL 29 28,op 30 (.mkfn nta2_ [.t 12]),op 31 (.call ns10 [.t 29,.t 30]),oM 13 31]
[4,8,9,11,12,13,18,19,20])
(.seq (.reg [oM 32 13,oU 33 32,oM 34 33,qM 35 9 34 true,qL 36 12 34 true,oG 37 (.call nsCaTaT_ [.t 35,.t 36]) 34 true,oG 38 (.un .not (.t 37)) 34 true,oA 39 34 38]
[4,8,9,11,18,19,20,39])
(.cond (.t 39)
(.reg [oM 40 9,oF 41 11 6,oN 42 41 4,op 43 (.mkrow ta11 4 1 (.agg [.str [],.nils,iv 0,iv 0]) [(0,.t 42)]),op 44 (.app ta11 4 56 (.t 40) (.t 43)),oM 9 44]
[4,8,9,18,19,20])
.skip))))))
(.reg [oK 45 .add 20 1,oM 20 45]
[4,8,9,18,19,20])))))))
(.seq (.reg [oM 46 9,oM 6 46]
[6])
.ret))))))⟩
abbrev pta_:=pcR nt28 cta_ Tryz.func22
def cta1_:AFun:=⟨4,1,[.t 2],
 (.seq (.reg [op 1 (.box ta11 4 (.t 0)),op 2 (.mov (.k (.nilfn)))]
[1])
(.seq (.reg [op 3 (.mkfn nta11_ [.t 1]),oM 2 3]
[2])
.ret))⟩
abbrev hta1_:=hcR nta1_ cta1_ Tryz.func50
def cta11_:AFun:=⟨16,2,[.t 3],
 (.seq (.reg [op 2 (.box ta11 4 (.t 0)),oV 3 false]
[1,2])
(.seq (.reg [oF 4 1 0,oL 5 4,oF 6 2 0,oL 7 6,oB 8 .eql 5 7,oM 9 8,qF 10 1 1 9 true,qL 11 10 9 true,qF 12 2 1 9 true,qL 13 12 9 true,oG 14 (.call nsEaTaT_ [.t 11,.t 13]) 9 true,oA 15 9 14,oM 3 15]
[3])
.ret))⟩
abbrev pta11_:=pcR nta11_ cta11_ Tryz.func51
def cta2_:AFun:=⟨8,2,[.t 3],
 (.seq (.reg [op 2 (.box ta10 13 (.t 0)),oV 3 false]
[1,2])
(.seq (.reg [oL 4 1,oF 5 2 6,oN 6 5 4,op 7 (.callv (.t 4) [.t 6]),oM 3 7]
[3])
.ret))⟩
abbrev pta2_:=pcR nta2_ cta2_ Tryz.func55
def ctf_:AFun:=⟨52,1,[.cells 2 1],
 (.seq (.reg [op 1 (.box taQ_ 9 (.t 0)),op 2 (.alloc ttr_ 1 (.agg [.nils]))]
[1,2])
(.seq (.reg [oF 7 1 5,oL 8 7,op 9 (.mkrow ti_ 1 1 (iv 0) [(0,.t 8)]),op 10 (.build [.nils] [(0,1,.t 9)]),op 3 (.alloc ttr_ 1 (.agg [.nils])),
⟨none,.store (.t 3) (.t 10) 1,none⟩]
[1,2,3])
(.seq (.seq (.reg [oC 4 0]
[1,2,3,4])
(.block 0
(.loop [1,2,3,4] [1,2,9,3,45]
 (.seq (.seq (.reg [oM 11 4,oF 12 3 0,oL 13 12,oZ 14 13,oB 15 .lss 11 14]
[1,2,3,4,15])
(.cond (.t 15)
.skip
(.exit 0)))
(.seq (.block 1
(.seq (.reg [oF 18 1 8,oL 19 18,oZ 20 19,oC 21 0]
[1,2,3,4,19,20,21])
(.block 2
(.loop [1,2,3,4,19,20,21] [1,2,9,3,14,20,45]
 (.seq (.reg [oB 22 .lss 21 20]
[1,2,3,4,19,20,21,22])
(.seq (.cond (.t 22)
.skip
(.exit 2))
(.seq (.block 3
(.seq (.reg [oI 23 5 19 21,oN 24 23 5,op 6 (.alloc taT_ 5 (.agg [iv 0,iv 0,iv 0,iv 0,.nils])),
⟨none,.store (.t 6) (.t 24) 5,none⟩]
[1,2,3,4,6,19,20,21])
(.seq (.dreg [oF 25 6 0,oL 26 25,oF 27 3 0,oL 28 27,oM 29 4,oI 30 1 28 29,oL 31 30,oB 32 .eql 26 31,oM 33 32,qN 34 3 1 33 true,qF 35 6 2 33 true,qL 36 35 33 true,oG 37 (.call ntrh_ [.t 34,.t 36]) 33 true,oG 38 (.un .not (.t 37)) 33 true,oA 39 33 38]
[1,2,3,4,6,19,20,21,39])
(.cond (.t 39)
(.reg [oF 40 3 0,oL 41 40,oF 42 6 2,oL 43 42,op 44 (.mkrow ti_ 1 1 (iv 0) [(0,.t 43)]),op 45 (.app ti_ 1 8 (.t 41) (.t 44)),oF 46 3 0,
⟨none,.store (.t 46) (.t 45) 1,none⟩]
[1,2,3,4,19,20,21])
.skip))))
(.reg [oK 47 .add 21 1,oM 21 47]
[1,2,3,4,19,20,21]))))))))
(.reg [oM 16 4,oK 17 .add 16 1,oM 4 17]
[1,2,3,4]))))))
(.seq (.reg [oF 48 3 0,oL 49 48,op 50 (.call nsSii_ [.t 49])]
[2,3])
(.seq (.reg [oN 51 3 1,
⟨none,.store (.t 2) (.t 51) 1,none⟩]
[2])
.ret)))))⟩
abbrev ptf_:=pcR ntf_ ctf_ Tryz.func25
def ctkaT_:AFun:=⟨23,2,[.t 4],
 (.seq (.reg [op 4 (.nilrow ta12 5)]
[0,1])
(.seq (.reg [op 5 (.nilrow ta12 5)]
[0,1,5])
(.seq (.seq (.reg [oM 8 0,oZ 9 8,oC 10 0]
[1,5,8,9,10])
(.block 0
(.loop [1,5,8,9,10] [4,5,9,20]
 (.seq (.reg [oB 11 .lss 10 9]
[1,5,8,9,10,11])
(.seq (.cond (.t 11)
.skip
(.exit 0))
(.seq (.block 1
(.seq (.reg [oI 12 5 8 10,oN 13 12 5,op 7 (.alloc ta12 5 (.agg [.str [],iv 0,iv 0,.bool false,.bool false])),
⟨none,.store (.t 7) (.t 13) 5,none⟩]
[1,5,7,8,9,10])
(.seq (.reg [oM 14 1,oN 15 7 5,op 16 (.callv (.t 14) [.t 15])]
[1,5,7,8,9,10,16])
(.cond (.t 16)
(.reg [oM 17 5,oN 18 7 5,op 19 (.mkrow ta12 5 1 (.agg [.str [],iv 0,iv 0,.bool false,.bool false]) [(0,.t 18)]),op 20 (.app ta12 5 40 (.t 17) (.t 19)),oM 5 20]
[1,5,8,9,10])
.skip))))
(.reg [oK 21 .add 10 1,oM 10 21]
[1,5,8,9,10])))))))
(.seq (.reg [oM 22 5,oM 4 22]
[4])
.ret))))⟩
theorem ktkaT_:chkF Tryz.prog Tryz.f17 ctkaT_=true:=by kernel_rfl
def ct13:AFun:=⟨23,2,[.t 4],
 (.seq (.reg [op 4 (.nilrow ta10 13)]
[0,1])
(.seq (.reg [op 5 (.nilrow ta10 13)]
[0,1,5])
(.seq (.seq (.reg [oM 8 0,oZ 9 8,oC 10 0]
[1,5,8,9,10])
(.block 0
(.loop [1,5,8,9,10] [4,5,9,20]
 (.seq (.reg [oB 11 .lss 10 9]
[1,5,8,9,10,11])
(.seq (.cond (.t 11)
.skip
(.exit 0))
(.seq (.block 1
(.seq (.reg [oI 12 13 8 10,oN 13 12 13,op 7 (.alloc ta10 13 (.agg [.str [],iv 0,iv 0,.str [],iv 0,iv 0,.str [],.nils,iv 0,iv 0,.nils,iv 0,.nils])),
⟨none,.store (.t 7) (.t 13) 13,none⟩]
[1,5,7,8,9,10])
(.seq (.reg [oM 14 1,oN 15 7 13,op 16 (.callv (.t 14) [.t 15])]
[1,5,7,8,9,10,16])
(.cond (.t 16)
(.reg [oM 17 5,oN 18 7 13,op 19 (.mkrow ta10 13 1 (.agg [.str [],iv 0,iv 0,.str [],iv 0,iv 0,.str [],.nils,iv 0,iv 0,.nils,iv 0,.nils]) [(0,.t 18)]),op 20 (.app ta10 13 176 (.t 17) (.t 19)),oM 5 20]
[1,5,8,9,10])
.skip))))
(.reg [oK 21 .add 10 1,oM 10 21]
[1,5,8,9,10])))))))
(.seq (.reg [oM 22 5,oM 4 22]
[4])
.ret))))⟩
abbrev htkaT_:=hcR ntkaT_ ct13 Tryz.func19
def ctn_:AFun:=⟨25,2,[.t 4],
 (.seq (.reg [op 2 (.box taQ_ 9 (.t 0)),op 4 (.nilrow ts_ 1)]
[1,2])
(.seq (.reg [op 5 (.nilrow ts_ 1)]
[1,2,5])
(.seq (.seq (.reg [oM 8 1,oZ 9 8,oC 10 0]
[2,5,8,9,10])
(.block 0
(.loop [2,5,8,9,10] [2,4,5,9,22]
 (.seq (.reg [oB 11 .lss 10 9]
[2,5,8,9,10,11])
(.seq (.cond (.t 11)
.skip
(.exit 0))
(.seq (.block 1
(.seq (.reg [oI 12 1 8 10,oL 13 12,oM 7 13]
[2,5,7,8,9,10])
(.reg [oM 14 5,oF 15 2 4,oL 16 15,oM 17 7,oI 18 3 16 17,oF 19 18 0,oL 20 19,op 21 (.mkrow ts_ 1 1 (.str []) [(0,.t 20)]),op 22 (.app ts_ 1 16 (.t 14) (.t 21)),oM 5 22]
[2,5,8,9,10])))
(.reg [oK 23 .add 10 1,oM 10 23]
[2,5,8,9,10])))))))
(.seq (.reg [oM 24 5,oM 4 24]
[4])
.ret))))⟩
abbrev ptn_:=pcR nt26 ctn_ Tryz.func14
def cs19:AFun:=⟨9,2,[.t 4],
 (.seq (.reg [oV 4 false]
[0,1])
(.seq (.reg [oM 5 0,oM 6 1,op 7 (.call ns24 [.t 5,.t 6]),oK 8 .geq 7 0,oM 4 8]
[4])
.ret))⟩
abbrev ps18:=pcR ns20 cs19 Tryz.func235
def cs14:AFun:=⟨9,2,[.t 4],
 (.seq (.reg [oV 4 false]
[0,1])
(.seq (.reg [oM 5 0,oM 6 1,op 7 (.call ns22 [.t 5,.t 6]),oK 8 .geq 7 0,oM 4 8]
[4])
.ret))⟩
abbrev ps14:=pcR ns14 cs14 Tryz.func171
def cs13:AFun:=⟨9,2,[.t 4],
 (.seq (.reg [oV 4 false]
[0,1])
(.seq (.reg [oM 5 0,oM 6 1,op 7 (.call ns21 [.t 5,.t 6]),oK 8 .geq 7 0,oM 4 8]
[4])
.ret))⟩
abbrev ps13:=pcR ns13 cs13 Tryz.func177
def cs12:AFun:=⟨9,2,[.t 4],
 (.seq (.reg [oV 4 false]
[0,1])
(.seq (.reg [oM 5 0,oM 6 1,op 7 (.call ns17 [.t 5,.t 6]),oK 8 .geq 7 0,oM 4 8]
[4])
.ret))⟩
abbrev ps12:=pcR ns12 cs12 Tryz.func175
def cs18:AFun:=⟨9,2,[.t 4],
 (.seq (.reg [oV 4 false]
[0,1])
(.seq (.reg [oM 5 0,oM 6 1,op 7 (.call ns23 [.t 5,.t 6]),oK 8 .geq 7 0,oM 4 8]
[4])
.ret))⟩
abbrev hsCaTaT_:=hcR ns19 cs18 Tryz.func238
def cs11:AFun:=⟨9,2,[.t 4],
 (.seq (.reg [oV 4 false]
[0,1])
(.seq (.reg [oM 5 0,oM 6 1,op 7 (.call ns16 [.t 5,.t 6]),oK 8 .geq 7 0,oM 4 8]
[4])
.ret))⟩
abbrev ps11:=pcR ns11 cs11 Tryz.func182
def csCaTaT_:AFun:=⟨9,2,[.t 4],
 (.seq (.reg [oV 4 false]
[0,1])
(.seq (.reg [oM 5 0,oM 6 1,op 7 (.call nsIaTaT_ [.t 5,.t 6]),oK 8 .geq 7 0,oM 4 8]
[4])
.ret))⟩
abbrev psCaTaT_:=pcR nsCaTaT_ csCaTaT_ Tryz.func56
def cs10:AFun:=⟨9,2,[.t 4],
 (.seq (.reg [oV 4 false]
[0,1])
(.seq (.reg [oM 5 0,oM 6 1,op 7 (.call ns15 [.t 5,.t 6]),oK 8 .geq 7 0,oM 4 8]
[4])
.ret))⟩
abbrev ps10:=pcR ns10 cs10 Tryz.func54
def csEaTaT_:AFun:=⟨26,2,[.t 4],
 (.seq (.reg [oV 4 false]
[0,1])
(.seq (.seq (.reg [oM 6 0,oZ 7 6,oM 8 1,oZ 9 8,oB 10 .neq 7 9]
[0,1,10])
(.cond (.t 10)
(.seq (.reg [oV 4 false]
[4])
.ret)
.skip))
(.seq (.seq (.reg [oM 11 0,oZ 12 11,oC 13 0]
[0,1,12,13])
(.block 0
(.loop [0,1,12,13] [7,9,12]
 (.seq (.reg [oB 14 .lss 13 12]
[0,1,12,13,14])
(.seq (.cond (.t 14)
.skip
(.exit 0))
(.seq (.block 1
(.seq (.reg [oM 15 13,oM 5 15]
[0,1,5,12,13])
(.seq (.dreg [oM 16 0,oM 17 5,oI 18 8 16 17,oN 19 18 8,oM 20 1,oM 21 5,oI 22 8 20 21,oN 23 22 8,op 24 (.eqA true [0,1,0,0,1,2,0,0] (.t 19) (.t 23))]
[0,1,12,13,24])
(.cond (.t 24)
(.seq (.reg [oV 4 false]
[4])
.ret)
.skip))))
(.reg [oK 25 .add 13 1,oM 13 25]
[0,1,12,13])))))))
(.seq (.reg [oV 4 true]
[4])
.ret))))⟩
abbrev psEaTaT_:=pcR nsEaTaT_ csEaTaT_ Tryz.func52
def cs23:AFun:=⟨19,2,[.t 4],
 (.seq (.reg [oC 4 0]
[0,1])
(.seq (.seq (.reg [oM 6 0,oZ 7 6,oC 8 0]
[0,1,7,8])
(.block 0
(.loop [0,1,7,8] [7]
 (.seq (.reg [oB 9 .lss 8 7]
[0,1,7,8,9])
(.seq (.cond (.t 9)
.skip
(.exit 0))
(.seq (.block 1
(.seq (.reg [oM 10 8,oM 5 10]
[0,1,5,7,8])
(.seq (.reg [oM 11 1,oM 12 0,oM 13 5,oI 14 8 12 13,oN 15 14 8,op 16 (.callv (.t 11) [.t 15])]
[0,1,5,7,8,16])
(.cond (.t 16)
(.seq (.reg [oM 17 5,oM 4 17]
[4])
.ret)
.skip))))
(.reg [oK 18 .add 8 1,oM 8 18]
[0,1,7,8])))))))
(.seq (.reg [op 4 (.mov (.k (iv (-1))))]
[4])
.ret)))⟩
abbrev ps21:=pcR ns24 cs23 Tryz.func256
def cs21:AFun:=⟨19,2,[.t 4],
 (.seq (.reg [oC 4 0]
[0,1])
(.seq (.seq (.reg [oM 6 0,oZ 7 6,oC 8 0]
[0,1,7,8])
(.block 0
(.loop [0,1,7,8] [7]
 (.seq (.reg [oB 9 .lss 8 7]
[0,1,7,8,9])
(.seq (.cond (.t 9)
.skip
(.exit 0))
(.seq (.block 1
(.seq (.reg [oM 10 8,oM 5 10]
[0,1,5,7,8])
(.seq (.reg [oM 11 1,oM 12 0,oM 13 5,oI 14 4 12 13,oN 15 14 4,op 16 (.callv (.t 11) [.t 15])]
[0,1,5,7,8,16])
(.cond (.t 16)
(.seq (.reg [oM 17 5,oM 4 17]
[4])
.ret)
.skip))))
(.reg [oK 18 .add 8 1,oM 8 18]
[0,1,7,8])))))))
(.seq (.reg [op 4 (.mov (.k (iv (-1))))]
[4])
.ret)))⟩
abbrev ps20:=pcR ns22 cs21 Tryz.func230
def cs20:AFun:=⟨19,2,[.t 4],
 (.seq (.reg [oC 4 0]
[0,1])
(.seq (.seq (.reg [oM 6 0,oZ 7 6,oC 8 0]
[0,1,7,8])
(.block 0
(.loop [0,1,7,8] [7]
 (.seq (.reg [oB 9 .lss 8 7]
[0,1,7,8,9])
(.seq (.cond (.t 9)
.skip
(.exit 0))
(.seq (.block 1
(.seq (.reg [oM 10 8,oM 5 10]
[0,1,5,7,8])
(.seq (.reg [oM 11 1,oM 12 0,oM 13 5,oI 14 7 12 13,oN 15 14 7,op 16 (.callv (.t 11) [.t 15])]
[0,1,5,7,8,16])
(.cond (.t 16)
(.seq (.reg [oM 17 5,oM 4 17]
[4])
.ret)
.skip))))
(.reg [oK 18 .add 8 1,oM 8 18]
[0,1,7,8])))))))
(.seq (.reg [op 4 (.mov (.k (iv (-1))))]
[4])
.ret)))⟩
abbrev ps19:=pcR ns21 cs20 Tryz.func233
def cs17:AFun:=⟨19,2,[.t 4],
 (.seq (.reg [oC 4 0]
[0,1])
(.seq (.seq (.reg [oM 6 0,oZ 7 6,oC 8 0]
[0,1,7,8])
(.block 0
(.loop [0,1,7,8] [7]
 (.seq (.reg [oB 9 .lss 8 7]
[0,1,7,8,9])
(.seq (.cond (.t 9)
.skip
(.exit 0))
(.seq (.block 1
(.seq (.reg [oM 10 8,oM 5 10]
[0,1,5,7,8])
(.seq (.reg [oM 11 1,oM 12 0,oM 13 5,oI 14 5 12 13,oN 15 14 5,op 16 (.callv (.t 11) [.t 15])]
[0,1,5,7,8,16])
(.cond (.t 16)
(.seq (.reg [oM 17 5,oM 4 17]
[4])
.ret)
.skip))))
(.reg [oK 18 .add 8 1,oM 8 18]
[0,1,7,8])))))))
(.seq (.reg [op 4 (.mov (.k (iv (-1))))]
[4])
.ret)))⟩
abbrev ps17:=pcR ns17 cs17 Tryz.func232
def cs22:AFun:=⟨19,2,[.t 4],
 (.seq (.reg [oC 4 0]
[0,1])
(.seq (.seq (.reg [oM 6 0,oZ 7 6,oC 8 0]
[0,1,7,8])
(.block 0
(.loop [0,1,7,8] [7]
 (.seq (.reg [oB 9 .lss 8 7]
[0,1,7,8,9])
(.seq (.cond (.t 9)
.skip
(.exit 0))
(.seq (.block 1
(.seq (.reg [oM 10 8,oM 5 10]
[0,1,5,7,8])
(.seq (.reg [oM 11 1,oM 12 0,oM 13 5,oI 14 4 12 13,oN 15 14 4,op 16 (.callv (.t 11) [.t 15])]
[0,1,5,7,8,16])
(.cond (.t 16)
(.seq (.reg [oM 17 5,oM 4 17]
[4])
.ret)
.skip))))
(.reg [oK 18 .add 8 1,oM 8 18]
[0,1,7,8])))))))
(.seq (.reg [op 4 (.mov (.k (iv (-1))))]
[4])
.ret)))⟩
abbrev hsIaTaT_:=hcR ns23 cs22 Tryz.func257
def cs16:AFun:=⟨19,2,[.t 4],
 (.seq (.reg [oC 4 0]
[0,1])
(.seq (.seq (.reg [oM 6 0,oZ 7 6,oC 8 0]
[0,1,7,8])
(.block 0
(.loop [0,1,7,8] [7]
 (.seq (.reg [oB 9 .lss 8 7]
[0,1,7,8,9])
(.seq (.cond (.t 9)
.skip
(.exit 0))
(.seq (.block 1
(.seq (.reg [oM 10 8,oM 5 10]
[0,1,5,7,8])
(.seq (.reg [oM 11 1,oM 12 0,oM 13 5,oI 14 5 12 13,oN 15 14 5,op 16 (.callv (.t 11) [.t 15])]
[0,1,5,7,8,16])
(.cond (.t 16)
(.seq (.reg [oM 17 5,oM 4 17]
[4])
.ret)
.skip))))
(.reg [oK 18 .add 8 1,oM 8 18]
[0,1,7,8])))))))
(.seq (.reg [op 4 (.mov (.k (iv (-1))))]
[4])
.ret)))⟩
abbrev ps16:=pcR ns16 cs16 Tryz.func234
def csIaTaT_:AFun:=⟨19,2,[.t 4],
 (.seq (.reg [oC 4 0]
[0,1])
(.seq (.seq (.reg [oM 6 0,oZ 7 6,oC 8 0]
[0,1,7,8])
(.block 0
(.loop [0,1,7,8] [7]
 (.seq (.reg [oB 9 .lss 8 7]
[0,1,7,8,9])
(.seq (.cond (.t 9)
.skip
(.exit 0))
(.seq (.block 1
(.seq (.reg [oM 10 8,oM 5 10]
[0,1,5,7,8])
(.seq (.reg [oM 11 1,oM 12 0,oM 13 5,oI 14 4 12 13,oN 15 14 4,op 16 (.callv (.t 11) [.t 15])]
[0,1,5,7,8,16])
(.cond (.t 16)
(.seq (.reg [oM 17 5,oM 4 17]
[4])
.ret)
.skip))))
(.reg [oK 18 .add 8 1,oM 8 18]
[0,1,7,8])))))))
(.seq (.reg [op 4 (.mov (.k (iv (-1))))]
[4])
.ret)))⟩
abbrev psIaTaT_:=pcR nsIaTaT_ csIaTaT_ Tryz.func88
def cs15:AFun:=⟨19,2,[.t 4],
 (.seq (.reg [oC 4 0]
[0,1])
(.seq (.seq (.reg [oM 6 0,oZ 7 6,oC 8 0]
[0,1,7,8])
(.block 0
(.loop [0,1,7,8] [7]
 (.seq (.reg [oB 9 .lss 8 7]
[0,1,7,8,9])
(.seq (.cond (.t 9)
.skip
(.exit 0))
(.seq (.block 1
(.seq (.reg [oM 10 8,oM 5 10]
[0,1,5,7,8])
(.seq (.reg [oM 11 1,oM 12 0,oM 13 5,oI 14 13 12 13,oN 15 14 13,op 16 (.callv (.t 11) [.t 15])]
[0,1,5,7,8,16])
(.cond (.t 16)
(.seq (.reg [oM 17 5,oM 4 17]
[4])
.ret)
.skip))))
(.reg [oK 18 .add 8 1,oM 8 18]
[0,1,7,8])))))))
(.seq (.reg [op 4 (.mov (.k (iv (-1))))]
[4])
.ret)))⟩
abbrev ps15:=pcR ns15 cs15 Tryz.func87
def csSii_:AFun:=⟨11,1,[],
 (.seq (.reg [oM 3 0,oZ 4 3,oM 2 4]
[0,2])
(.reg [oM 5 0,oM 6 2,oM 7 2,op 8 (.conv .u64 (.t 7)),op 9 (.call nm10 [.t 8]),op 10 (.call nspi_ [.t 5,.k (iv 0),.t 6,.t 9])]
[]))⟩
abbrev hsSii_:=hcR nsSii_ csSii_ Tryz.func66
def csii_:AFun:=⟨49,3,[],
 (.seq (.reg [oM 8 1,oK 9 .add 8 1,oM 6 9]
[0,1,2,6])
(.block 0
(.loop [0,1,2,6] []
 (.seq (.seq (.reg [oM 10 6,oM 11 2,oB 12 .lss 10 11]
[0,1,2,6,12])
(.cond (.t 12)
.skip
(.exit 0)))
(.seq (.block 1
(.seq (.reg [oM 15 6,oM 7 15]
[0,1,2,6,7])
(.block 2
(.loop [0,1,2,6,7] []
 (.seq (.seq (.dreg [oM 16 7,oM 17 1,oB 18 .gtr 16 17,oM 19 18,qM 20 0 19 true,qM 21 7 19 true,qI 22 1 20 21 19 true,qL 23 22 19 true,qM 24 0 19 true,qM 25 7 19 true,qK 26 .sub 25 1 19 true,qI 27 1 24 26 19 true,qL 28 27 19 true,oG 29 (.call ncLi_ [.t 23,.t 28]) 19 true,oA 30 19 29]
[0,1,2,6,7,30])
(.cond (.t 30)
.skip
(.exit 2)))
(.seq (.block 3
(.dregC [oM 33 0,oM 34 7,oM 35 0,oM 36 7,oK 37 .sub 36 1,oM 38 0,oM 39 7,oK 40 .sub 39 1,oI 41 1 38 40,oL 42 41,oM 43 0,oM 44 7,oI 45 1 43 44,oL 46 45,oI 47 1 33 34,
⟨none,.store (.t 47) (.t 42) 1,none⟩,oI 48 1 35 37,
⟨none,.store (.t 48) (.t 46) 1,none⟩]
[15,17] [0,0,0,0,0,0,0,0,0,0,0,0,0,0,0,1,1,2] [0,0,1,1,1,0,0,0,0,0,0,0,0,0,0,2,1,2] [([0,1,2,3,4,5,6,7,8,9,10,11,12,13,14],[]),([16],[2,3,4]),([],[])] [0,1,2,6,7,33,34,35,36,37,38,39,40,41,42,43,44,45,46,47,48]
[0,1,2,6,7]))
(.reg [oM 31 7,oK 32 .sub 31 1,oM 7 32]
[0,1,2,6,7])))))))
(.reg [oM 13 6,oK 14 .add 13 1,oM 6 14]
[0,1,2,6]))))))⟩
abbrev hsii_:=hcR nsii_ csii_ Tryz.func218
def cspi_:AFun:=⟨134,4,[],
 (.seq (.reg [oV 8 true]
[0,1,2])
(.seq (.reg [oV 9 true]
[0,1,2])
(.block 0
(.loop [0,1,2] []
 (.block 1
(.seq (.reg [oM 19 2,oM 20 1,oB 21 .sub 19 20,oM 10 21]
[0,1,2,10])
(.seq (.seq (.reg [oM 22 10,oK 23 .leq 22 12]
[0,1,2,23])
(.cond (.t 23)
(.seq (.reg [oM 24 0,oM 25 1,oM 26 2,op 27 (.call nsii_ [.t 24,.t 25,.t 26])]
[])
.ret)
.skip))
.bad)))))))⟩
abbrev hspi_:=hcR nspi_ cspi_ Tryz.func165
