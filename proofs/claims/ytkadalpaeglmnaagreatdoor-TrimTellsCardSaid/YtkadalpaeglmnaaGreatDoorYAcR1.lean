/-
  Lemmas. No claim is proved here.
-/
import Derived.Test.YtkadalpaeglmnaaGreatDoorYAcR0
set_option linter.unusedSimpArgs false
namespace Go.Proofs.YtkadalpaeglmnaaGreatDoor.Ab
open Go
def ccR_:AFun:=⟨17,1,[.t 2],
 (.seq (.reg [op 1 (.box taQ_ 9 (.t 0)),oV 2 false]
[1])
(.seq (.reg [oN 3 1 9,op 4 (.call ncf_ [.t 3]),oM 5 4,qN 6 1 9 5 true,oG 7 (.call nch_ [.t 6]) 5 true,oA 8 5 7,oM 9 8,qN 10 1 9 9 true,oG 11 (.call nct_ [.t 10]) 9 true,oA 12 9 11,oM 13 12,qN 14 1 9 13 true,oG 15 (.call nc23 [.t 14]) 13 true,oA 16 13 15,oM 2 16]
[2])
.ret))⟩
abbrev pcR_:=pcR ncR_ ccR_ Tryz.func24
def ccS_:AFun:=⟨10,2,[.t 4],
 (.seq (.reg [op 2 (.box taS_ 2 (.t 0)),oV 4 false]
[1,2])
(.seq (.reg [oF 5 2 1,oL 6 5,oM 7 1,op 8 (.build [iv 0,iv 0,iv 0,iv 0,.str [],.bool false] [(0,1,.k (iv 2)),(1,1,.t 7)]),op 9 (.call nsCaAaA_ [.t 6,.t 8]),oM 4 9]
[4])
.ret))⟩
abbrev pcS_:=pcR ncS_ ccS_ Tryz.func151
def ccai_:AFun:=⟨20,2,[.t 4],
 (.seq (.reg [oV 4 false]
[0,1])
(.seq (.seq (.reg [oM 7 0,oZ 8 7,oC 9 0]
[1,7,8,9])
(.block 0
(.loop [1,7,8,9] [8]
 (.seq (.reg [oB 10 .lss 9 8]
[1,7,8,9,10])
(.seq (.cond (.t 10)
.skip
(.exit 0))
(.seq (.block 1
(.seq (.reg [oM 11 9,oI 12 1 7 9,oL 13 12,oM 5 11,oM 6 13]
[1,5,6,7,8,9])
(.seq (.reg [oM 14 1,oM 15 5,oM 16 6,op 17 (.callv (.t 14) [.t 15,.t 16]),oU 18 17]
[1,7,8,9,18])
(.cond (.t 18)
(.seq (.reg [oV 4 false]
[4])
.ret)
.skip))))
(.reg [oK 19 .add 9 1,oM 9 19]
[1,7,8,9])))))))
(.seq (.reg [oV 4 true]
[4])
.ret)))⟩
abbrev pcai_:=pcR ncai_ ccai_ Tryz.func159
def ccaaF_:AFun:=⟨20,2,[.t 4],
 (.seq (.reg [oV 4 false]
[0,1])
(.seq (.seq (.reg [oM 7 0,oZ 8 7,oC 9 0]
[1,7,8,9])
(.block 0
(.loop [1,7,8,9] [8]
 (.seq (.reg [oB 10 .lss 9 8]
[1,7,8,9,10])
(.seq (.cond (.t 10)
.skip
(.exit 0))
(.seq (.block 1
(.seq (.reg [oM 11 9,oI 12 5 7 9,oN 13 12 5,op 6 (.alloc taF_ 5 (.agg [.str [],iv 0,iv 0,.str [],.bool false])),oM 5 11,
⟨none,.store (.t 6) (.t 13) 5,none⟩]
[1,5,6,7,8,9])
(.seq (.reg [oM 14 1,oM 15 5,oN 16 6 5,op 17 (.callv (.t 14) [.t 15,.t 16]),oU 18 17]
[1,7,8,9,18])
(.cond (.t 18)
(.seq (.reg [oV 4 false]
[4])
.ret)
.skip))))
(.reg [oK 19 .add 9 1,oM 9 19]
[1,7,8,9])))))))
(.seq (.reg [oV 4 true]
[4])
.ret)))⟩
abbrev pcaaF_:=pcR ncaaF_ ccaaF_ Tryz.func140
def ccaaN_:AFun:=⟨20,2,[.t 4],
 (.seq (.reg [oV 4 false]
[0,1])
(.seq (.seq (.reg [oM 7 0,oZ 8 7,oC 9 0]
[1,7,8,9])
(.block 0
(.loop [1,7,8,9] [8]
 (.seq (.reg [oB 10 .lss 9 8]
[1,7,8,9,10])
(.seq (.cond (.t 10)
.skip
(.exit 0))
(.seq (.block 1
(.seq (.reg [oM 11 9,oI 12 7 7 9,oN 13 12 7,op 6 (.alloc taN_ 7 (.agg [iv 0,iv 0,iv 0,iv 0,iv 0,.str [],.bool false])),oM 5 11,
⟨none,.store (.t 6) (.t 13) 7,none⟩]
[1,5,6,7,8,9])
(.seq (.reg [oM 14 1,oM 15 5,oN 16 6 7,op 17 (.callv (.t 14) [.t 15,.t 16]),oU 18 17]
[1,7,8,9,18])
(.cond (.t 18)
(.seq (.reg [oV 4 false]
[4])
.ret)
.skip))))
(.reg [oK 19 .add 9 1,oM 9 19]
[1,7,8,9])))))))
(.seq (.reg [oV 4 true]
[4])
.ret)))⟩
abbrev pcaaN_:=pcR ncaaN_ ccaaN_ Tryz.func149
def ccaaQ_:AFun:=⟨20,2,[.t 4],
 (.seq (.reg [oV 4 false]
[0,1])
(.seq (.seq (.reg [oM 7 0,oZ 8 7,oC 9 0]
[1,7,8,9])
(.block 0
(.loop [1,7,8,9] [8]
 (.seq (.reg [oB 10 .lss 9 8]
[1,7,8,9,10])
(.seq (.cond (.t 10)
.skip
(.exit 0))
(.seq (.block 1
(.seq (.reg [oM 11 9,oI 12 3 7 9,oN 13 12 3,op 6 (.alloc ta21 3 (.agg [.bool false,.str [],iv 0])),oM 5 11,
⟨none,.store (.t 6) (.t 13) 3,none⟩]
[1,5,6,7,8,9])
(.seq (.reg [oM 14 1,oM 15 5,oN 16 6 3,op 17 (.callv (.t 14) [.t 15,.t 16]),oU 18 17]
[1,7,8,9,18])
(.cond (.t 18)
(.seq (.reg [oV 4 false]
[4])
.ret)
.skip))))
(.reg [oK 19 .add 9 1,oM 9 19]
[1,7,8,9])))))))
(.seq (.reg [oV 4 true]
[4])
.ret)))⟩
abbrev pcaaQ_:=pcR ncaaQ_ ccaaQ_ Tryz.func137
def cc21:AFun:=⟨20,2,[.t 4],
 (.seq (.reg [oV 4 false]
[0,1])
(.seq (.seq (.reg [oM 7 0,oZ 8 7,oC 9 0]
[1,7,8,9])
(.block 0
(.loop [1,7,8,9] [8]
 (.seq (.reg [oB 10 .lss 9 8]
[1,7,8,9,10])
(.seq (.cond (.t 10)
.skip
(.exit 0))
(.seq (.block 1
(.seq (.reg [oM 11 9,oI 12 2 7 9,oN 13 12 2,op 6 (.alloc ta19 2 (.agg [iv 0,iv 0])),oM 5 11,
⟨none,.store (.t 6) (.t 13) 2,none⟩]
[1,5,6,7,8,9])
(.seq (.reg [oM 14 1,oM 15 5,oN 16 6 2,op 17 (.callv (.t 14) [.t 15,.t 16]),oU 18 17]
[1,7,8,9,18])
(.cond (.t 18)
(.seq (.reg [oV 4 false]
[4])
.ret)
.skip))))
(.reg [oK 19 .add 9 1,oM 9 19]
[1,7,8,9])))))))
(.seq (.reg [oV 4 true]
[4])
.ret)))⟩
theorem kcaaS_:chkF Tryz.prog Tryz.f148 cc21=true:=by kernel_rfl
def ccaaS_:AFun:=⟨20,2,[.t 4],
 (.seq (.reg [oV 4 false]
[0,1])
(.seq (.seq (.reg [oM 7 0,oZ 8 7,oC 9 0]
[1,7,8,9])
(.block 0
(.loop [1,7,8,9] [8]
 (.seq (.reg [oB 10 .lss 9 8]
[1,7,8,9,10])
(.seq (.cond (.t 10)
.skip
(.exit 0))
(.seq (.block 1
(.seq (.reg [oM 11 9,oI 12 2 7 9,oN 13 12 2,op 6 (.alloc taS_ 2 (.agg [iv 0,.nils])),oM 5 11,
⟨none,.store (.t 6) (.t 13) 2,none⟩]
[1,5,6,7,8,9])
(.seq (.reg [oM 14 1,oM 15 5,oN 16 6 2,op 17 (.callv (.t 14) [.t 15,.t 16]),oU 18 17]
[1,7,8,9,18])
(.cond (.t 18)
(.seq (.reg [oV 4 false]
[4])
.ret)
.skip))))
(.reg [oK 19 .add 9 1,oM 9 19]
[1,7,8,9])))))))
(.seq (.reg [oV 4 true]
[4])
.ret)))⟩
abbrev pcaaS_:=pcR ncaaS_ ccaaS_ Tryz.func161
def ccaaT_:AFun:=⟨20,2,[.t 4],
 (.seq (.reg [oV 4 false]
[0,1])
(.seq (.seq (.reg [oM 7 0,oZ 8 7,oC 9 0]
[1,7,8,9])
(.block 0
(.loop [1,7,8,9] [8]
 (.seq (.reg [oB 10 .lss 9 8]
[1,7,8,9,10])
(.seq (.cond (.t 10)
.skip
(.exit 0))
(.seq (.block 1
(.seq (.reg [oM 11 9,oI 12 5 7 9,oN 13 12 5,op 6 (.alloc taT_ 5 (.agg [iv 0,iv 0,iv 0,iv 0,.nils])),oM 5 11,
⟨none,.store (.t 6) (.t 13) 5,none⟩]
[1,5,6,7,8,9])
(.seq (.reg [oM 14 1,oM 15 5,oN 16 6 5,op 17 (.callv (.t 14) [.t 15,.t 16]),oU 18 17]
[1,7,8,9,18])
(.cond (.t 18)
(.seq (.reg [oV 4 false]
[4])
.ret)
.skip))))
(.reg [oK 19 .add 9 1,oM 9 19]
[1,7,8,9])))))))
(.seq (.reg [oV 4 true]
[4])
.ret)))⟩
theorem kcaaT_:chkF Tryz.prog Tryz.f152 ccaaT_=true:=by kernel_rfl
def ccas_:AFun:=⟨20,2,[.t 4],
 (.seq (.reg [oV 4 false]
[0,1])
(.seq (.seq (.reg [oM 7 0,oZ 8 7,oC 9 0]
[1,7,8,9])
(.block 0
(.loop [1,7,8,9] [8]
 (.seq (.reg [oB 10 .lss 9 8]
[1,7,8,9,10])
(.seq (.cond (.t 10)
.skip
(.exit 0))
(.seq (.block 1
(.seq (.reg [oM 11 9,oI 12 1 7 9,oL 13 12,oM 5 11,oM 6 13]
[1,5,6,7,8,9])
(.seq (.reg [oM 14 1,oM 15 5,oM 16 6,op 17 (.callv (.t 14) [.t 15,.t 16]),oU 18 17]
[1,7,8,9,18])
(.cond (.t 18)
(.seq (.reg [oV 4 false]
[4])
.ret)
.skip))))
(.reg [oK 19 .add 9 1,oM 9 19]
[1,7,8,9])))))))
(.seq (.reg [oV 4 true]
[4])
.ret)))⟩
abbrev pcas_:=pcR ncas_ ccas_ Tryz.func209
def cca_:AFun:=⟨90,3,[.t 6],
 (.seq (.reg [op 3 (.box taQ_ 9 (.t 0)),op 4 (.box taA_ 6 (.t 1)),oV 6 false]
[2,3,4])
(.seq (.seq (.reg [oF 7 4 0,oL 8 7]
[2,3,4,8])
(.block 0
(.seq (.reg [oK 10 .eql 8 1,oM 9 10]
[2,3,4,8,9])
(.cond (.t 9)
(.seq (.reg [oF 11 4 1,oL 12 11,oK 13 .eql 12 0,oM 14 13,qF 15 4 2 14 true,qN 16 15 4 14 true,oG 17 (.call nvR_ [.t 16]) 14 true,oA 18 14 17,oM 19 18,qF 20 4 2 19 true,qF 21 20 0 19 true,qL 22 21 19 true,qM 23 2 19 true,qB 24 .eql 22 23 19 true,oA 25 19 24,oM 6 25]
[6])
.ret)
(.seq (.reg [oK 27 .eql 8 2,oM 26 27]
[2,3,4,8,26])
(.cond (.t 26)
(.seq (.reg [oF 28 4 1,oL 29 28,oK 30 .geq 29 0,oM 31 30,qF 32 4 1 31 true,qL 33 32 31 true,qF 34 3 2 31 true,qL 35 34 31 true,oG 36 (.len false (.t 35)) 31 true,qB 37 .lss 33 36 31 true,oA 38 31 37,oM 39 38,qF 40 3 2 39 true,qL 41 40 39 true,qF 42 4 1 39 true,qL 43 42 39 true,qI 44 3 41 43 39 true,qF 45 44 2 39 true,qL 46 45 39 true,qM 47 2 39 true,qB 48 .eql 46 47 39 true,oA 49 39 48,oM 50 49,qF 51 4 2 50 true,qN 52 51 4 50 true,oG 53 (.build [iv 0,iv 0,.str [],.bool false] []) 50 true,oG 54 (.eqA false [0,0,1,2] (.t 52) (.t 53)) 50 true,oA 55 50 54,oM 6 55]
[6])
.ret)
(.seq (.reg [oK 57 .eql 8 3,oM 56 57]
[2,3,4,56])
(.cond (.t 56)
(.seq (.reg [oF 58 4 1,oL 59 58,oK 60 .geq 59 0,oM 61 60,qF 62 4 1 61 true,qL 63 62 61 true,qF 64 3 3 61 true,qL 65 64 61 true,oG 66 (.len false (.t 65)) 61 true,qB 67 .lss 63 66 61 true,oA 68 61 67,oM 69 68,qF 70 3 3 69 true,qL 71 70 69 true,qF 72 4 1 69 true,qL 73 72 69 true,qI 74 5 71 73 69 true,qF 75 74 1 69 true,qF 76 75 0 69 true,qL 77 76 69 true,qM 78 2 69 true,qB 79 .eql 77 78 69 true,oA 80 69 79,oM 81 80,qF 82 4 2 81 true,qN 83 82 4 81 true,oG 84 (.build [iv 0,iv 0,.str [],.bool false] []) 81 true,oG 85 (.eqA false [0,0,1,2] (.t 83) (.t 84)) 81 true,oA 86 81 85,oM 6 86]
[6])
.ret)
.skip))))))))
(.seq (.reg [oN 87 4 6,op 88 (.build [iv 0,iv 0,iv 0,iv 0,.str [],.bool false] [(0,1,.k (iv 4))]),op 89 (.eqA false [0,0,0,0,1,2] (.t 87) (.t 88)),oM 6 89]
[6])
.ret)))⟩
abbrev pca_:=pcR nca_ cca_ Tryz.func217
def cce_:AFun:=⟨147,1,[.t 2],
 (.seq (.reg [op 1 (.box taQ_ 9 (.t 0)),op 2 (.nilrow tce_ 3)]
[1])
(.seq (.reg [oF 10 1 7,oL 11 10,oZ 12 11,op 13 (.mks tce_ 3 24 (.agg [iv 0,iv 0,iv 0]) (.t 12) (.t 12)),oM 3 13]
[1,3])
(.seq (.seq (.reg [oF 14 1 7,oL 15 14,oZ 16 15,oC 17 0]
[1,3,15,16,17])
(.block 0
(.loop [1,3,15,16,17] [1,2,12,13,16]
 (.seq (.reg [oB 18 .lss 17 16]
[1,3,15,16,17,18])
(.seq (.cond (.t 18)
.skip
(.exit 0))
(.seq (.block 1
(.seq (.reg [oM 19 17,oI 20 7 15 17,oN 21 20 7,op 5 (.alloc taN_ 7 (.agg [iv 0,iv 0,iv 0,iv 0,iv 0,.str [],.bool false])),oM 4 19,
⟨none,.store (.t 5) (.t 21) 7,none⟩]
[1,3,4,5,15,16,17])
(.seq (.seq (.reg [oN 23 1 9,oM 24 4,op 25 (.call ncl_ [.t 23,.t 24]),oM 22 25,oE 26 22 0,oE 27 22 1,op 6 (.alloc tce_ 3 (.agg [iv 0,iv 0,iv 0])),
⟨none,.store (.t 6) (.t 26) 3,none⟩,oM 7 27]
[1,3,4,5,6,7,15,16,17])
(.seq (.reg [oM 28 7]
[1,3,4,5,6,15,16,17,28])
(.cond (.t 28)
(.seq (.reg [oM 29 3,oM 30 4,oN 31 6 3,oI 32 3 29 30,
⟨none,.store (.t 32) (.t 31) 3,none⟩]
[1,3,15,16,17])
(.exit 1))
.skip)))
(.seq (.seq (.reg [oF 33 5 0,oL 34 33,oK 35 .lss 34 4,oM 36 35,qF 37 5 0 36 false,qL 38 37 36 false,qK 39 .gtr 38 16 36 false,oO 40 36 39,oM 41 40,qM 42 4 41 false,qK 43 .eql 42 0 41 false,oO 44 41 43,oM 45 44,qM 46 3 45 false,qM 47 4 45 false,qK 48 .sub 47 1 45 false,qI 49 3 46 48 45 false,qF 50 49 0 45 false,qL 51 50 45 false,qK 52 .eql 51 0 45 false,oO 53 45 52,oM 54 53,qF 55 5 3 54 false,qN 56 55 4 54 false,oG 57 (.build [iv 0,iv 0,.str [],.bool false] []) 54 false,oG 58 (.eqA true [0,0,1,2] (.t 56) (.t 57)) 54 false,oO 59 54 58]
[1,3,4,5,15,16,17,59])
(.cond (.t 59)
(.exit 1)
.skip))
(.seq (.reg [oM 60 3,oM 61 4,oK 62 .sub 61 1,oI 63 3 60 62,oN 64 63 3,op 8 (.alloc tce_ 3 (.agg [iv 0,iv 0,iv 0])),
⟨none,.store (.t 8) (.t 64) 3,none⟩]
[1,3,4,5,8,15,16,17])
(.seq (.seq (.reg [oF 65 5 0,oL 66 65,oK 67 .leq 66 5]
[1,3,4,5,8,15,16,17,67])
(.cond (.t 67)
(.seq (.seq (.reg [oF 68 5 1,oL 69 68,oM 70 4,oK 71 .sub 70 1,oB 72 .eql 69 71,oM 73 72,qF 74 5 2 73 true,qL 75 74 73 true,qK 76 .eql 75 0 73 true,oA 77 73 76]
[1,3,4,5,8,15,16,17,77])
(.cond (.t 77)
(.dreg [oM 78 3,oM 79 4,oF 80 5 0,oL 81 80,oF 82 8 0,oL 83 82,oF 84 8 0,oL 85 84,op 86 (.call nvT_ [.t 81,.t 83,.t 85]),oF 87 8 1,oL 88 87,oK 89 .add 88 1,oF 90 8 2,oL 91 90,op 92 (.build [iv 0,iv 0,iv 0] [(0,1,.t 86),(1,1,.t 89),(2,1,.t 91)]),oI 93 3 78 79,
⟨none,.store (.t 93) (.t 92) 3,none⟩]
[1,3,15,16,17])
.skip))
(.exit 1))
.skip))
(.seq (.reg [oF 94 5 2,oL 95 94,oM 96 4,oK 97 .sub 96 1,oB 98 .eql 95 97,oM 99 98,qF 100 5 1 99 true,qL 101 100 99 true,qF 102 8 2 99 true,qL 103 102 99 true,qK 104 .sub 103 1 99 true,qB 105 .eql 101 104 99 true,oA 106 99 105,oM 107 106,qF 108 5 1 107 true,qL 109 108 107 true,qK 110 .geq 109 0 107 true,oA 111 107 110,oM 112 111,qM 113 3 112 true,qF 114 5 1 112 true,qL 115 114 112 true,qI 116 3 113 115 112 true,qF 117 116 0 112 true,qL 118 117 112 true,qK 119 .neq 118 0 112 true,oA 120 112 119]
[1,3,4,5,8,15,16,17,120])
(.cond (.t 120)
(.seq (.reg [oM 121 3,oF 122 5 1,oL 123 122,oI 124 3 121 123,oN 125 124 3,op 9 (.alloc tce_ 3 (.agg [iv 0,iv 0,iv 0])),
⟨none,.store (.t 9) (.t 125) 3,none⟩]
[1,3,4,5,8,9,15,16,17])
(.dreg [oM 126 3,oM 127 4,oF 128 5 0,oL 129 128,oF 130 9 0,oL 131 130,oF 132 8 0,oL 133 132,op 134 (.call nvT_ [.t 129,.t 131,.t 133]),oF 135 9 1,oL 136 135,oF 137 8 1,oL 138 137,op 139 (.mx false (.t 136) (.t 138)),oK 140 .add 139 1,oF 141 9 2,oL 142 141,op 143 (.build [iv 0,iv 0,iv 0] [(0,1,.t 134),(1,1,.t 140),(2,1,.t 142)]),oI 144 3 126 127,
⟨none,.store (.t 144) (.t 143) 3,none⟩]
[1,3,15,16,17]))
.skip))))))))
(.reg [oK 145 .add 17 1,oM 17 145]
[1,3,15,16,17])))))))
(.seq (.reg [oM 146 3,oM 2 146]
[2])
.ret))))⟩
abbrev pce_:=pcR nce_ cce_ Tryz.func142
def ccf_:AFun:=⟨37,1,[.t 2],
 (.seq (.reg [op 1 (.box taQ_ 9 (.t 0)),oV 2 false]
[1])
(.seq (.reg [oF 3 1 2,oL 4 3,oZ 5 4,oK 6 .leq 5 8,oM 7 6,qF 8 1 3 7 true,qL 9 8 7 true,oG 10 (.len false (.t 9)) 7 true,qK 11 .leq 10 16 7 true,oA 12 7 11,oM 13 12,qF 14 1 4 13 true,qL 15 14 13 true,oG 16 (.len false (.t 15)) 13 true,qK 17 .leq 16 32 13 true,oA 18 13 17,oM 19 18,qF 20 1 6 19 true,qL 21 20 19 true,oG 22 (.len false (.t 21)) 19 true,qK 23 .leq 22 64 19 true,oA 24 19 23,oM 25 24,qF 26 1 7 25 true,qL 27 26 25 true,oG 28 (.len false (.t 27)) 25 true,qK 29 .leq 28 2048 25 true,oA 30 25 29,oM 31 30,qF 32 1 8 31 true,qL 33 32 31 true,oG 34 (.len false (.t 33)) 31 true,qK 35 .leq 34 256 31 true,oA 36 31 35,oM 2 36]
[2])
.ret))⟩
abbrev pcf_:=pcR ncf_ ccf_ Tryz.func61
def cch_:AFun:=⟨96,1,[.t 2],
 (.seq (.reg [op 1 (.box taQ_ 9 (.t 0)),oV 2 false]
[1])
(.seq (.reg [op 3 (.nilrow ts_ 1),op 4 (.nilrow ts_ 1)]
[1,3,4])
(.seq (.seq (.reg [oF 13 1 2,oL 14 13,oZ 15 14,oC 16 0]
[1,3,4,14,15,16])
(.block 0
(.loop [1,3,4,14,15,16] [1,3,4,15,24]
 (.seq (.reg [oB 17 .lss 16 15]
[1,3,4,14,15,16,17])
(.seq (.cond (.t 17)
.skip
(.exit 0))
(.seq (.block 1
(.seq (.reg [oI 18 3 14 16,oN 19 18 3,op 6 (.alloc ta21 3 (.agg [.bool false,.str [],iv 0])),
⟨none,.store (.t 6) (.t 19) 3,none⟩]
[1,3,4,6,14,15,16])
(.reg [oM 20 3,oF 21 6 1,oL 22 21,op 23 (.mkrow ts_ 1 1 (.str []) [(0,.t 22)]),op 24 (.app ts_ 1 16 (.t 20) (.t 23)),oM 3 24]
[1,3,4,14,15,16])))
(.reg [oK 25 .add 16 1,oM 16 25]
[1,3,4,14,15,16])))))))
(.seq (.seq (.reg [oF 26 1 3,oL 27 26,oZ 28 27,oC 29 0]
[1,3,4,27,28,29])
(.block 2
(.loop [1,3,4,27,28,29] [1,3,4,15,6,23,24,28,37]
 (.seq (.reg [oB 30 .lss 29 28]
[1,3,4,27,28,29,30])
(.seq (.cond (.t 30)
.skip
(.exit 2))
(.seq (.block 3
(.seq (.reg [oI 31 5 27 29,oN 32 31 5,op 8 (.alloc taF_ 5 (.agg [.str [],iv 0,iv 0,.str [],.bool false])),
⟨none,.store (.t 8) (.t 32) 5,none⟩]
[1,3,4,8,27,28,29])
(.reg [oM 33 3,oF 34 8 0,oL 35 34,op 36 (.mkrow ts_ 1 1 (.str []) [(0,.t 35)]),op 37 (.app ts_ 1 16 (.t 33) (.t 36)),oM 3 37]
[1,3,4,27,28,29])))
(.reg [oK 38 .add 29 1,oM 29 38]
[1,3,4,27,28,29])))))))
(.seq (.seq (.reg [oF 39 1 4,oL 40 39,oZ 41 40,oC 42 0]
[1,3,4,40,41,42])
(.block 4
(.loop [1,3,4,40,41,42] [1,3,4,15,6,23,24,28,8,36,37,41,50]
 (.seq (.reg [oB 43 .lss 42 41]
[1,3,4,40,41,42,43])
(.seq (.cond (.t 43)
.skip
(.exit 4))
(.seq (.block 5
(.seq (.reg [oI 44 3 40 42,oN 45 44 3,op 10 (.alloc ta15 3 (.agg [.str [],.bool false,.bool false])),
⟨none,.store (.t 10) (.t 45) 3,none⟩]
[1,3,4,10,40,41,42])
(.reg [oM 46 4,oF 47 10 0,oL 48 47,op 49 (.mkrow ts_ 1 1 (.str []) [(0,.t 48)]),op 50 (.app ts_ 1 16 (.t 46) (.t 49)),oM 4 50]
[1,3,4,40,41,42])))
(.reg [oK 51 .add 42 1,oM 42 51]
[1,3,4,40,41,42])))))))
(.seq (.reg [oF 53 1 1,oL 54 53,op 55 (.call nsC_ [.t 54]),oM 52 55,oE 56 52 0,oE 57 52 1,oM 11 56,oM 12 57]
[1,3,4,12])
(.seq (.reg [oM 58 12,oK 59 .eql 58 0,oM 60 59,qF 61 1 0 60 true,qL 62 61 60 true,oG 63 (.call nsN_ [.t 62]) 60 true,oA 64 60 63,oM 65 64,qM 66 3 65 true,oG 67 (.call ncn_ [.t 66]) 65 true,oA 68 65 67,oM 69 68,qM 70 4 69 true,oG 71 (.call ncn_ [.t 70]) 69 true,oA 72 69 71,oM 73 72,qF 74 1 2 73 true,qL 75 74 73 true,oG 76 (.call ncaaQ_ [.t 75,.f nch1_]) 73 true,oA 77 73 76,oM 78 77,qF 79 1 3 78 true,qL 80 79 78 true,oG 81 (.call ncaaF_ [.t 80,.f nch2_]) 78 true,oA 82 78 81,oM 83 82,qF 84 1 5 83 true,qL 85 84 83 true,qK 86 .geq 85 0 83 true,oA 87 83 86,oM 88 87,qF 89 1 5 88 true,qL 90 89 88 true,qF 91 1 4 88 true,qL 92 91 88 true,oG 93 (.len false (.t 92)) 88 true,qB 94 .lss 90 93 88 true,oA 95 88 94,oM 2 95]
[2])
.ret)))))))⟩
abbrev pch_:=pcR nch_ cch_ Tryz.func62
def cch1_:AFun:=⟨9,2,[.t 4],
 (.seq (.reg [op 3 (.box ta21 3 (.t 1)),oV 4 false]
[3])
(.seq (.reg [oF 5 3 2,oL 6 5,op 7 (.call nvN_ [.t 6]),op 8 (.bin .neq (.t 7) (.k (.str []))),oM 4 8]
[4])
.ret))⟩
abbrev pch1_:=pcR nch1_ cch1_ Tryz.func138
def cch2_:AFun:=⟨8,2,[.t 4],
 (.seq (.reg [op 3 (.box taF_ 5 (.t 1)),oV 4 false]
[3])
(.seq (.reg [oF 5 3 1,oN 6 5 4,op 7 (.call nvR_ [.t 6]),oM 4 7]
[4])
.ret))⟩
abbrev pch2_:=pcR nch2_ cch2_ Tryz.func141
def ccl_:AFun:=⟨105,2,[.cells 4 3,.t 5],
 (.seq (.reg [op 2 (.box taQ_ 9 (.t 0)),op 4 (.alloc tce_ 3 (.agg [iv 0,iv 0,iv 0])),oV 5 false]
[1,2,4])
(.seq (.reg [oF 8 2 7,oL 9 8,oM 10 1,oI 11 7 9 10,oN 12 11 7,op 6 (.alloc taN_ 7 (.agg [iv 0,iv 0,iv 0,iv 0,iv 0,.str [],.bool false])),
⟨none,.store (.t 6) (.t 12) 7,none⟩]
[1,2,4,6])
(.seq (.reg [oF 13 6 0,oL 14 13,oF 15 6 1,oL 16 15,op 17 (.build [iv 0,iv 0,iv 0,iv 0,iv 0,.str [],.bool false] [(0,1,.t 14),(1,1,.t 16)]),op 7 (.alloc taN_ 7 (.agg [iv 0,iv 0,iv 0,iv 0,iv 0,.str [],.bool false])),
⟨none,.store (.t 7) (.t 17) 7,none⟩]
[1,2,4,6,7])
(.seq (.block 0
(.seq (.reg [oF 19 6 0,oL 20 19,oK 21 .eql 20 1,oM 22 21,qN 23 6 7 22 true,qF 24 6 0 22 true,qL 25 24 22 true,qF 26 6 3 22 true,qN 27 26 4 22 true,oG 28 (.build [iv 0,iv 0,iv 0,iv 0,iv 0,.str [],.bool false] [(0,1,.t 25),(3,4,.t 27)]) 22 true,oG 29 (.eqA false [0,0,0,0,0,1,2] (.t 23) (.t 28)) 22 true,oA 30 22 29,oM 31 30,qF 32 6 3 31 true,qN 33 32 4 31 true,oG 34 (.call nvR_ [.t 33]) 31 true,oA 35 31 34,oM 18 35]
[1,2,4,6,7,18])
(.cond (.t 18)
(.seq (.reg [oF 36 6 3,oF 37 36 0,oL 38 37,oM 39 1,op 40 (.build [iv 0,iv 0,iv 0] [(0,1,.t 38),(1,1,.k (iv 1)),(2,1,.t 39)]),
⟨none,.store (.t 4) (.t 40) 3,none⟩,oV 5 true]
[4,5])
.ret)
(.seq (.reg [oF 42 6 0,oL 43 42,oK 44 .eql 43 2,oM 45 44,qN 46 6 7 45 true,qN 47 7 7 45 true,oG 48 (.eqA false [0,0,0,0,0,1,2] (.t 46) (.t 47)) 45 true,oA 49 45 48,oM 50 49,qF 51 6 1 50 true,qL 52 51 50 true,qK 53 .geq 52 0 50 true,oA 54 50 53,oM 55 54,qF 56 6 1 55 true,qL 57 56 55 true,qF 58 2 2 55 true,qL 59 58 55 true,oG 60 (.len false (.t 59)) 55 true,qB 61 .lss 57 60 55 true,oA 62 55 61,oM 41 62]
[1,2,4,6,7,41])
(.cond (.t 41)
(.seq (.reg [oF 63 2 2,oL 64 63,oF 65 6 1,oL 66 65,oI 67 3 64 66,oF 68 67 2,oL 69 68,oM 70 1,op 71 (.build [iv 0,iv 0,iv 0] [(0,1,.t 69),(1,1,.k (iv 1)),(2,1,.t 70)]),
⟨none,.store (.t 4) (.t 71) 3,none⟩,oV 5 true]
[4,5])
.ret)
(.seq (.reg [oF 73 6 0,oL 74 73,oK 75 .eql 74 3,oM 76 75,qN 77 6 7 76 true,qN 78 7 7 76 true,oG 79 (.eqA false [0,0,0,0,0,1,2] (.t 77) (.t 78)) 76 true,oA 80 76 79,oM 81 80,qF 82 6 1 81 true,qL 83 82 81 true,qK 84 .geq 83 0 81 true,oA 85 81 84,oM 86 85,qF 87 6 1 86 true,qL 88 87 86 true,qF 89 2 3 86 true,qL 90 89 86 true,oG 91 (.len false (.t 90)) 86 true,qB 92 .lss 88 91 86 true,oA 93 86 92,oM 72 93]
[1,2,4,6,72])
(.cond (.t 72)
(.seq (.reg [oF 94 2 3,oL 95 94,oF 96 6 1,oL 97 96,oI 98 5 95 97,oF 99 98 1,oF 100 99 0,oL 101 100,oM 102 1,op 103 (.build [iv 0,iv 0,iv 0] [(0,1,.t 101),(1,1,.k (iv 1)),(2,1,.t 102)]),
⟨none,.store (.t 4) (.t 103) 3,none⟩,oV 5 true]
[4,5])
.ret)
.skip)))))))
(.seq (.reg [op 104 (.build [iv 0,iv 0,iv 0] []),
⟨none,.store (.t 4) (.t 104) 3,none⟩,oV 5 false]
[4,5])
.ret)))))⟩
abbrev pcl_:=pcR ncl_ ccl_ Tryz.func211
def ccn_:AFun:=⟨6,1,[.t 2],
 (.seq (.reg [op 1 (.box tS_ 1 (.t 0)),oV 2 false]
[1])
(.seq (.reg [oL 3 1,op 4 (.mkfn ncn1_ [.t 1]),op 5 (.call ncas_ [.t 3,.t 4]),oM 2 5]
[2])
.ret))⟩
abbrev pcn_:=pcR ncn_ ccn_ Tryz.func136
def ccn1_:AFun:=⟨15,3,[.t 5],
 (.seq (.reg [oV 5 false]
[0,1,2])
(.seq (.reg [oM 6 1,op 7 (.call nsN_ [.t 6]),oM 8 7,qL 9 2 8 true,qM 10 1 8 true,oG 11 (.call nsIss_ [.t 9,.t 10]) 8 true,qM 12 0 8 true,qB 13 .eql 11 12 8 true,oA 14 8 13,oM 5 14]
[5])
.ret))⟩
abbrev pcn1_:=pcR ncn1_ ccn1_ Tryz.func210
def ccs_:AFun:=⟨17,2,[.t 4],
 (.seq (.reg [op 2 (.box taS_ 2 (.t 0)),op 3 (.box taS_ 2 (.t 1)),oV 4 false]
[2,3])
(.seq (.reg [oF 5 2 0,oL 6 5,oF 7 3 0,oL 8 7,oB 9 .eql 6 8,oM 10 9,qF 11 2 1 10 true,qL 12 11 10 true,qF 13 3 1 10 true,qL 14 13 10 true,oG 15 (.call nsEaAaA_ [.t 12,.t 14]) 10 true,oA 16 10 15,oM 4 16]
[4])
.ret))⟩
abbrev pcs_:=pcR ncs_ ccs_ Tryz.func158
def cc24:AFun:=⟨27,2,[.t 4],
 (.seq (.reg [op 2 (.box taQ_ 9 (.t 0)),op 3 (.box taS_ 2 (.t 1)),oV 4 false]
[2,3])
(.seq (.seq (.reg [oF 5 3 0,oL 6 5,oK 7 .lss 6 0,oM 8 7,qF 9 3 0 8 false,qL 10 9 8 false,qF 11 2 1 8 false,qL 12 11 8 false,oG 13 (.len false (.t 12)) 8 false,qB 14 .geq 10 13 8 false,oO 15 8 14]
[2,3,15])
(.cond (.t 15)
(.seq (.reg [oV 4 false]
[4])
.ret)
.skip))
(.seq (.dreg [oF 16 3 1,oL 17 16,oF 18 2 1,oL 19 18,oF 20 3 0,oL 21 20,oI 22 2 19 21,oF 23 22 1,oL 24 23,op 25 (.mkfn ncs1_ [.t 2]),op 26 (.call nsEaAiaAi_ [.t 17,.t 24,.t 25]),oM 4 26]
[4])
.ret)))⟩
abbrev pc14:=pcR nc24 cc24 Tryz.func155
def cc22:AFun:=⟨10,3,[.t 5],
 (.seq (.reg [op 3 (.box taA_ 6 (.t 0)),oV 5 false]
[1,2,3])
(.seq (.reg [oN 6 2 9,oN 7 3 6,oM 8 1,op 9 (.call nca_ [.t 6,.t 7,.t 8]),oM 5 9]
[5])
.ret))⟩
abbrev pc12:=pcR ncs1_ cc22 Tryz.func216
def cc23:AFun:=⟨41,1,[.t 2],
 (.seq (.reg [op 1 (.box taQ_ 9 (.t 0)),oV 2 false]
[1])
(.seq (.reg [op 3 (.alloc tS10 1 (.nils))]
[1,3])
(.seq (.seq (.reg [oF 7 1 8,oL 8 7,oZ 9 8,oC 10 0]
[1,3,8,9,10])
(.block 0
(.loop [1,3,8,9,10] [1,3,9,23]
 (.seq (.reg [oB 11 .lss 10 9]
[1,3,8,9,10,11])
(.seq (.cond (.t 11)
.skip
(.exit 0))
(.seq (.block 1
(.seq (.reg [oI 12 5 8 10,oN 13 12 5,op 5 (.alloc taT_ 5 (.agg [iv 0,iv 0,iv 0,iv 0,.nils])),
⟨none,.store (.t 5) (.t 13) 5,none⟩]
[1,3,5,8,9,10])
(.seq (.reg [oL 14 3,oF 15 5 1,oL 16 15,op 17 (.call nsCii_ [.t 14,.t 16]),oU 18 17]
[1,3,5,8,9,10,18])
(.cond (.t 18)
(.reg [oL 19 3,oF 20 5 1,oL 21 20,op 22 (.mkrow ti_ 1 1 (iv 0) [(0,.t 21)]),op 23 (.app ti_ 1 8 (.t 19) (.t 22)),
⟨none,.store (.t 3) (.t 23) 1,none⟩]
[1,3,8,9,10])
.skip))))
(.reg [oK 24 .add 10 1,oM 10 24]
[1,3,8,9,10])))))))
(.seq (.reg [op 25 (.mkfn nc21 [.t 1]),oM 6 25]
[1,3,6])
(.seq (.reg [oL 26 3,op 27 (.mkfn ncs2_ [.t 1,.t 3]),op 28 (.call ncai_ [.t 26,.t 27]),oM 29 28,qF 30 1 6 29 true,qL 31 30 29 true,qM 32 6 29 true,oG 33 (.call ncaaS_ [.t 31,.t 32]) 29 true,oA 34 29 33,oM 35 34,qF 36 1 2 35 true,qL 37 36 35 true,oG 38 (.mkfn ncs3_ [.t 1]) 35 true,oG 39 (.call ncaaQ_ [.t 37,.t 38]) 35 true,oA 40 35 39,oM 2 40]
[2])
.ret)))))⟩
abbrev pc13:=pcR nc23 cc23 Tryz.func64
def ccs1_:AFun:=⟨17,3,[.t 5],
 (.seq (.reg [op 4 (.box taS_ 2 (.t 1)),oV 5 false]
[0,2,4])
(.seq (.reg [oN 6 2 9,oN 7 4 2,op 8 (.call nc24 [.t 6,.t 7]),oM 9 8,qF 10 2 6 9 true,qL 11 10 9 true,oG 12 (.mkfn ncs11_ [.t 4]) 9 true,oG 13 (.call nsIaSaS_ [.t 11,.t 12]) 9 true,qM 14 0 9 true,qB 15 .eql 13 14 9 true,oA 16 9 15,oM 5 16]
[5])
.ret))⟩
abbrev pcs1_:=pcR nc21 ccs1_ Tryz.func154
def ccs11_:AFun:=⟨7,2,[.t 3],
 (.seq (.reg [op 2 (.box taS_ 2 (.t 0)),oV 3 false]
[1,2])
(.seq (.reg [oN 4 2 2,oN 5 1 2,op 6 (.call ncs_ [.t 4,.t 5]),oM 3 6]
[3])
.ret))⟩
abbrev pcs11_:=pcR ncs11_ ccs11_ Tryz.func157
def ccs2_:AFun:=⟨17,4,[.t 6],
 (.seq (.reg [oV 6 false]
[0,1,2,3])
(.seq (.reg [oM 7 1,oF 8 2 6,oL 9 8,oZ 10 9,oL 11 3,oZ 12 11,oB 13 .sub 10 12,oM 14 0,oB 15 .add 13 14,oB 16 .eql 7 15,oM 6 16]
[6])
.ret))⟩
abbrev pcs2_:=pcR ncs2_ ccs2_ Tryz.func160
def ccs3_:AFun:=⟨10,3,[.t 5],
 (.seq (.reg [op 3 (.box ti_ 1 (.t 0)),op 4 (.box ta21 3 (.t 1)),oV 5 false]
[2,3])
(.seq (.reg [oF 6 2 6,oL 7 6,op 8 (.mkfn ncs31_ [.t 3]),op 9 (.call nsCaSaS_ [.t 7,.t 8]),oM 5 9]
[5])
.ret))⟩
abbrev pcs3_:=pcR ncs3_ ccs3_ Tryz.func162
def ccs31_:AFun:=⟨7,2,[.t 3],
 (.seq (.reg [op 2 (.box taS_ 2 (.t 0)),oV 3 false]
[1,2])
(.seq (.reg [oN 4 2 2,oL 5 1,op 6 (.call ncS_ [.t 4,.t 5]),oM 3 6]
[3])
.ret))⟩
abbrev pcs31_:=pcR ncs31_ ccs31_ Tryz.func164
def cct_:AFun:=⟨21,1,[.t 2],
 (.seq (.reg [op 1 (.box taQ_ 9 (.t 0)),oV 2 false]
[1])
(.seq (.reg [oN 7 1 9,op 8 (.call nce_ [.t 7]),op 3 (.alloc tSe_ 1 (.nils)),
⟨none,.store (.t 3) (.t 8) 1,none⟩]
[1,3])
(.seq (.reg [op 4 (.alloc ti_ 1 (iv 0)),
⟨none,.store (.t 4) (.k (iv 0)) 1,none⟩]
[1,3,4])
(.seq (.reg [op 9 (.mkfn nct1_ [.t 4,.t 3]),op 5 (.alloc tfiib_ 1 (.nilfn)),
⟨none,.store (.t 5) (.t 9) 1,none⟩]
[1,3,4,5])
(.seq (.reg [op 10 (.mkfn nct2_ [.t 4,.t 1,.t 5]),oM 6 10]
[1,3,4,6])
(.seq (.reg [oF 11 1 8,oL 12 11,oM 13 6,op 14 (.call ncaaT_ [.t 12,.t 13]),oM 15 14,qL 16 4 15 true,qL 17 3 15 true,oG 18 (.len false (.t 17)) 15 true,qB 19 .eql 16 18 15 true,oA 20 15 19,oM 2 20]
[2])
.ret))))))⟩
abbrev pct_:=pcR nct_ cct_ Tryz.func63
def cct1_:AFun:=⟨48,4,[.t 6],
 (.seq (.reg [oV 6 false]
[0,1,2,3])
(.seq (.seq (.dreg [oM 7 0,oL 8 2,oB 9 .lss 7 8,oM 10 9,qM 11 0 10 false,qL 12 3 10 false,oG 13 (.len false (.t 12)) 10 false,qB 14 .geq 11 13 10 false,oO 15 10 14,oM 16 15,qL 17 3 16 false,qM 18 0 16 false,qI 19 3 17 18 16 false,qF 20 19 0 16 false,qL 21 20 16 false,qM 22 1 16 false,qB 23 .neq 21 22 16 false,oO 24 16 23,oM 25 24,qM 26 1 25 false,qK 27 .eql 26 0 25 false,oO 28 25 27,oM 29 28,qL 30 3 29 false,qM 31 0 29 false,qI 32 3 30 31 29 false,qF 33 32 2 29 false,qL 34 33 29 false,qL 35 2 29 false,qB 36 .neq 34 35 29 false,oO 37 29 36,oM 38 37,qL 39 3 38 false,qM 40 0 38 false,qI 41 3 39 40 38 false,qF 42 41 1 38 false,qL 43 42 38 false,qK 44 .gtr 43 64 38 false,oO 45 38 44]
[0,2,45])
(.cond (.t 45)
(.seq (.reg [oV 6 false]
[6])
.ret)
.skip))
(.seq (.reg [oM 46 0,oK 47 .add 46 1,
⟨none,.store (.t 2) (.t 47) 1,none⟩]
[])
(.seq (.reg [oV 6 true]
[6])
.ret))))⟩
theorem kct1_:chkF Tryz.prog Tryz.f143 cct1_=true:=by kernel_rfl
def cct2_:AFun:=⟨74,5,[.t 7],
 (.seq (.reg [op 6 (.box taT_ 5 (.t 1)),oV 7 false]
[2,3,4,6])
(.seq (.reg [oL 10 2,oM 8 10]
[2,3,4,6,8])
(.seq (.seq (.reg [oF 11 6 0,oL 12 11,oK 13 .lss 12 0,oM 14 13,qF 15 6 0 14 false,qL 16 15 14 false,qF 17 3 4 14 false,qL 18 17 14 false,oG 19 (.len false (.t 18)) 14 false,qB 20 .geq 16 19 14 false,oO 21 14 20,oM 22 21,qF 23 6 2 22 false,qL 24 23 22 false,qK 25 .lss 24 0 22 false,oO 26 22 25,oM 27 26,qF 28 6 2 27 false,qL 29 28 27 false,qF 30 3 4 27 false,qL 31 30 27 false,oG 32 (.len false (.t 31)) 27 false,qB 33 .geq 29 32 27 false,oO 34 27 33,oM 35 34,qF 36 6 1 35 false,qL 37 36 35 false,qK 38 .lss 37 0 35 false,oO 39 35 38,oM 40 39,qF 41 6 1 40 false,qL 42 41 40 false,qF 43 3 6 40 false,qL 44 43 40 false,oG 45 (.len false (.t 44)) 40 false,qB 46 .geq 42 45 40 false,oO 47 40 46,oM 48 47,qF 49 6 3 48 false,qL 50 49 48 false,oG 51 (.bin .neq (.t 50) (.k (iv (-1)))) 48 false,qM 52 51 48 false,qL 53 4 52 true,qF 54 6 3 52 true,qL 55 54 52 true,oG 56 (.callv (.t 53) [.t 55,.k (iv 3)]) 52 true,oG 57 (.un .not (.t 56)) 52 true,qA 58 52 57 48 false,oO 59 48 58]
[2,3,4,6,8,59])
(.cond (.t 59)
(.seq (.reg [oV 7 false]
[7])
.ret)
.skip))
(.seq (.reg [op 60 (.mkfn nct21_ [.t 6,.t 3,.t 4]),oM 9 60]
[2,3,6,8,9])
(.seq (.reg [oF 61 6 4,oL 62 61,oM 63 9,op 64 (.call nc22 [.t 62,.t 63]),oM 65 64,qF 66 3 7 65 true,qL 67 66 65 true,qM 68 8 65 true,qL 69 2 65 true,oG 70 (.slc 7 (.t 67) (some (.t 68)) (some (.t 69))) 65 true,oG 71 (.mkfn nct22_ [.t 3,.t 6]) 65 true,oG 72 (.call ncaaN_ [.t 70,.t 71]) 65 true,oA 73 65 72,oM 7 73]
[7])
.ret)))))⟩
theorem kct2_:chkF Tryz.prog Tryz.f144 cct2_=true:=by kernel_rfl
def cct21_:AFun:=⟨44,5,[.t 7],
 (.seq (.reg [op 6 (.box ta19 2 (.t 1)),oV 7 false]
[0,2,3,4,6])
(.seq (.reg [oF 9 2 4,oL 10 9,oM 11 0,op 12 (.slc 2 (.t 10) none (some (.t 11))),op 13 (.mkfn nct211_ [.t 6]),op 14 (.call ns18 [.t 12,.t 13]),oM 8 14]
[3,4,6,8])
(.seq (.dreg [oF 15 6 0,oL 16 15,oK 17 .geq 16 0,oM 18 17,qF 19 6 0 18 true,qL 20 19 18 true,qF 21 3 3 18 true,qL 22 21 18 true,oG 23 (.len false (.t 22)) 18 true,qB 24 .lss 20 23 18 true,oA 25 18 24,oM 26 25,qM 27 8 26 true,oG 28 (.un .not (.t 27)) 26 true,oA 29 26 28,oM 30 29,qL 31 4 30 true,qF 32 6 1 30 true,qL 33 32 30 true,qF 34 3 3 30 true,qL 35 34 30 true,qF 36 6 0 30 true,qL 37 36 30 true,qI 38 5 35 37 30 true,qF 39 38 1 30 true,qF 40 39 0 30 true,qL 41 40 30 true,oG 42 (.callvB (.t 31) [.t 33,.t 41]) 30 true,oA 43 30 42,oM 7 43]
[7])
.ret)))⟩
theorem kct21_:chkF Tryz.prog Tryz.f145 cct21_=true:=by kernel_rfl
def cct211_:AFun:=⟨9,2,[.t 3],
 (.seq (.reg [op 2 (.box ta19 2 (.t 0)),oV 3 false]
[1,2])
(.seq (.reg [oF 4 2 0,oL 5 4,oF 6 1 0,oL 7 6,oB 8 .eql 5 7,oM 3 8]
[3])
.ret))⟩
abbrev pct211_:=pcR nct211_ cct211_ Tryz.func147
def cct22_:AFun:=⟨21,4,[.t 6],
 (.seq (.reg [op 5 (.box taN_ 7 (.t 1)),oV 6 false]
[2,3,5])
(.seq (.dreg [oF 7 5 0,oL 8 7,oK 9 .neq 8 2,oM 10 9,qF 11 2 6 10 false,qL 12 11 10 false,qF 13 3 1 10 false,qL 14 13 10 false,qI 15 2 12 14 10 false,qN 16 15 2 10 false,qF 17 5 1 10 false,qL 18 17 10 false,oG 19 (.call ncS_ [.t 16,.t 18]) 10 false,oO 20 10 19,oM 6 20]
[6])
.ret))⟩
abbrev pct22_:=pcR nct22_ cct22_ Tryz.func150
def cpA_:AFun:=⟨27,2,[.t 4,.t 5],
 (.seq (.reg [oC 4 0,oV 5 false]
[0,1])
(.seq (.seq (.reg [oM 6 1,oK 7 .gtr 6 0,oM 8 7,qM 9 0 8 true,qM 10 1 8 true,oG 11 (.bin .sub (.k (iv 9223372036854775807)) (.t 10)) 8 true,qB 12 .gtr 9 11 8 true,oA 13 8 12,oM 14 13,qM 15 1 14 false,qK 16 .lss 15 0 14 false,qM 17 16 14 false,qM 18 0 17 true,qM 19 1 17 true,oG 20 (.bin .sub (.k (iv (-9223372036854775808))) (.t 19)) 17 true,qB 21 .lss 18 20 17 true,qA 22 17 21 14 false,oO 23 14 22]
[0,1,23])
(.cond (.t 23)
(.seq (.reg [oC 4 0,oV 5 false]
[4,5])
.ret)
.skip))
(.seq (.reg [oM 24 0,oM 25 1,oB 26 .add 24 25,oM 4 26,oV 5 true]
[4,5])
.ret)))⟩
abbrev ppA_:=pcR npA_ cpA_ Tryz.func265
def cpD_:AFun:=⟨27,2,[.t 4,.t 5,.t 6],
 (.seq (.reg [oC 4 0,oC 5 0,oC 6 0]
[0,1])
(.seq (.seq (.reg [oM 9 1,oK 10 .eql 9 0]
[0,1,10])
(.cond (.t 10)
(.seq (.reg [oC 4 0,oC 5 0,oC 6 7]
[4,5,6])
.ret)
.skip))
(.seq (.seq (.reg [oM 11 1,op 12 (.bin .eql (.t 11) (.k (iv (-1))))]
[0,1,12])
(.cond (.t 12)
(.seq (.reg [oM 14 0,op 15 (.call np11 [.k (iv 0),.t 14]),oM 13 15,oE 16 13 0,oE 17 13 1,oM 7 16,oM 8 17]
[7,8])
(.seq (.seq (.reg [oM 18 8,oU 19 18]
[7,19])
(.cond (.t 19)
(.seq (.reg [oC 4 0,oC 5 0,oC 6 6]
[4,5,6])
.ret)
.skip))
(.seq (.reg [oM 20 7,oM 4 20,oC 5 0,oC 6 0]
[4,5,6])
.ret)))
.skip))
(.seq (.dreg [oM 21 0,oM 22 1,oB 23 .quo 21 22,oM 24 0,oM 25 1,oB 26 .rem 24 25,oM 4 23,oM 5 26,oC 6 0]
[4,5,6])
.ret))))⟩
abbrev ppD_:=pcR npD_ cpD_ Tryz.func269
def cpM_:AFun:=⟨81,2,[.t 4,.t 5],
 (.seq (.reg [oC 4 0,oV 5 false]
[0,1])
(.seq (.seq (.reg [oM 6 0,oK 7 .eql 6 0,oM 8 7,qM 9 1 8 false,qK 10 .eql 9 0 8 false,oO 11 8 10]
[0,1,11])
(.cond (.t 11)
(.seq (.reg [oC 4 0,oV 5 true]
[4,5])
.ret)
.skip))
(.seq (.seq (.reg [oM 12 0,op 13 (.bin .eql (.t 12) (.k (iv (-1))))]
[0,1,13])
(.cond (.t 13)
(.seq (.reg [oM 14 1,op 15 (.call np11 [.k (iv 0),.t 14]),oE 16 15 0,oE 17 15 1,oM 4 16,oM 5 17]
[4,5])
.ret)
.skip))
(.seq (.seq (.reg [oM 18 1,op 19 (.bin .eql (.t 18) (.k (iv (-1))))]
[0,1,19])
(.cond (.t 19)
(.seq (.reg [oM 20 0,op 21 (.call np11 [.k (iv 0),.t 20]),oE 22 21 0,oE 23 21 1,oM 4 22,oM 5 23]
[4,5])
.ret)
.skip))
(.seq (.seq (.reg [oM 24 0,oK 25 .gtr 24 0,oM 26 25,qM 27 1 26 true,qK 28 .gtr 27 0 26 true,oA 29 26 28,oM 30 29,qM 31 0 30 true,qM 32 1 30 true,oG 33 (.bin .quo (.k (iv 9223372036854775807)) (.t 32)) 30 true,qB 34 .gtr 31 33 30 true,oA 35 30 34,oM 36 35,qM 37 0 36 false,qK 38 .gtr 37 0 36 false,qM 39 38 36 false,qM 40 1 39 true,qK 41 .lss 40 0 39 true,qA 42 39 41 36 false,qM 43 42 36 false,qM 44 1 43 true,qM 45 0 43 true,oG 46 (.bin .quo (.k (iv (-9223372036854775808))) (.t 45)) 43 true,qB 47 .lss 44 46 43 true,qA 48 43 47 36 false,oO 49 36 48,oM 50 49,qM 51 0 50 false,qK 52 .lss 51 0 50 false,qM 53 52 50 false,qM 54 1 53 true,qK 55 .gtr 54 0 53 true,qA 56 53 55 50 false,qM 57 56 50 false,qM 58 0 57 true,qM 59 1 57 true,oG 60 (.bin .quo (.k (iv (-9223372036854775808))) (.t 59)) 57 true,qB 61 .lss 58 60 57 true,qA 62 57 61 50 false,oO 63 50 62,oM 64 63,qM 65 0 64 false,qK 66 .lss 65 0 64 false,qM 67 66 64 false,qM 68 1 67 true,qK 69 .lss 68 0 67 true,qA 70 67 69 64 false,qM 71 70 64 false,qM 72 0 71 true,qM 73 1 71 true,oG 74 (.bin .quo (.k (iv 9223372036854775807)) (.t 73)) 71 true,qB 75 .lss 72 74 71 true,qA 76 71 75 64 false,oO 77 64 76]
[0,1,77])
(.cond (.t 77)
(.seq (.reg [oC 4 0,oV 5 false]
[4,5])
.ret)
.skip))
(.seq (.reg [oM 78 0,oM 79 1,oB 80 .mul 78 79,oM 4 80,oV 5 true]
[4,5])
.ret))))))⟩
abbrev ppM_:=pcR npM_ cpM_ Tryz.func268
def cp28:AFun:=⟨27,2,[.t 4,.t 5],
 (.seq (.reg [oC 4 0,oV 5 false]
[0,1])
(.seq (.seq (.reg [oM 6 1,oK 7 .lss 6 0,oM 8 7,qM 9 0 8 true,qM 10 1 8 true,oG 11 (.bin .add (.k (iv 9223372036854775807)) (.t 10)) 8 true,qB 12 .gtr 9 11 8 true,oA 13 8 12,oM 14 13,qM 15 1 14 false,qK 16 .gtr 15 0 14 false,qM 17 16 14 false,qM 18 0 17 true,qM 19 1 17 true,oG 20 (.bin .add (.k (iv (-9223372036854775808))) (.t 19)) 17 true,qB 21 .lss 18 20 17 true,qA 22 17 21 14 false,oO 23 14 22]
[0,1,23])
(.cond (.t 23)
(.seq (.reg [oC 4 0,oV 5 false]
[4,5])
.ret)
.skip))
(.seq (.reg [oM 24 0,oM 25 1,oB 26 .sub 24 25,oM 4 26,oV 5 true]
[4,5])
.ret)))⟩
abbrev pp28:=pcR np11 cp28 Tryz.func267
def cpB_:AFun:=⟨37,2,[.t 4],
 (.seq (.reg [oV 4 false]
[0,1])
(.seq (.seq (.reg [oC 5 0]
[0,1,5])
(.block 0
(.loop [0,1,5] []
 (.seq (.seq (.reg [oM 6 5,oM 7 0,op 8 (.len true (.t 7)),oB 9 .lss 6 8,oM 10 9,qM 11 5 10 true,qM 12 1 10 true,oG 13 (.len true (.t 12)) 10 true,qB 14 .lss 11 13 10 true,oA 15 10 14]
[0,1,5,15])
(.cond (.t 15)
.skip
(.exit 0)))
(.seq (.block 1
(.seq (.dreg [oM 18 0,oM 19 5,op 20 (.idx (.t 18) (.t 19)),oM 21 1,oM 22 5,op 23 (.idx (.t 21) (.t 22)),oB 24 .neq 20 23]
[0,1,5,24])
(.cond (.t 24)
(.seq (.dreg [oM 25 0,oM 26 5,op 27 (.idx (.t 25) (.t 26)),oM 28 1,oM 29 5,op 30 (.idx (.t 28) (.t 29)),oB 31 .lss 27 30,oM 4 31]
[4])
.ret)
.skip)))
(.reg [oM 16 5,oK 17 .add 16 1,oM 5 17]
[0,1,5]))))))
(.seq (.reg [oM 32 0,op 33 (.len true (.t 32)),oM 34 1,op 35 (.len true (.t 34)),oB 36 .lss 33 35,oM 4 36]
[4])
.ret)))⟩
abbrev ppB_:=pcR npB_ cpB_ Tryz.func270
def cpL_:AFun:=⟨38,2,[.t 4],
 (.seq (.reg [op 2 (.box taV_ 4 (.t 0)),op 3 (.box taV_ 4 (.t 1)),oV 4 false]
[2,3])
(.seq (.seq (.reg [oF 5 2 0,oL 6 5,oF 7 3 0,oL 8 7,oB 9 .neq 6 8]
[2,3,9])
(.cond (.t 9)
(.seq (.reg [oF 10 2 0,oL 11 10,oF 12 3 0,oL 13 12,oB 14 .lss 11 13,oM 4 14]
[4])
.ret)
.skip))
(.seq (.seq (.reg [oF 15 2 0,oL 16 15,oK 17 .eql 16 1]
[2,3,17])
(.cond (.t 17)
(.seq (.reg [oF 18 2 1,oL 19 18,oF 20 3 1,oL 21 20,oB 22 .lss 19 21,oM 4 22]
[4])
.ret)
.skip))
(.seq (.seq (.reg [oF 23 2 0,oL 24 23,oK 25 .eql 24 2]
[2,3,25])
(.cond (.t 25)
(.seq (.reg [oF 26 2 2,oL 27 26,oF 28 3 2,oL 29 28,op 30 (.call npB_ [.t 27,.t 29]),oM 4 30]
[4])
.ret)
.skip))
(.seq (.reg [oF 31 2 3,oL 32 31,oU 33 32,oM 34 33,qF 35 3 3 34 true,qL 36 35 34 true,oA 37 34 36,oM 4 37]
[4])
.ret)))))⟩
abbrev ppL_:=pcR npL_ cpL_ Tryz.func264
