/-
  The functions' abstract code, by program (acgen.py), and that the model's code is it, reckoned by the kernel. No claim is proved here.
-/
import Derived.Test.YtkejmcgngblfnaaGreatDoorYAcR0
namespace Go.Proofs.YtkejmcgngblfnaaGreatDoor.Ab
open Go
def csiaR_:AFun:=⟨53,4,[],
 (.seq (.reg [oM 10 1,oK 11 .add 10 1,oM 8 11]
[0,1,2,3,8])
(.block 0
(.loop [0,1,2,3,8] [52,51,50,49,48,47,46,45,44,43,42,41]
 (.seq (.seq (.reg [oM 12 8,oM 13 2,oB 14 .lss 12 13]
[0,1,2,3,8,14])
(.cond (.t 14)
.skip
(.exit 0)))
(.seq (.block 1
(.seq (.reg [oM 17 8,oM 9 17]
[0,1,2,3,8,9])
(.block 2
(.loop [0,1,2,3,8,9] [52,51,50,49,48,47,46,45,44,43,42,41]
 (.seq (.seq (.dreg [oM 18 9,oM 19 1,oB 20 .gtr 18 19,oM 21 20,qM 22 3 21 true,qM 23 0 21 true,qM 24 9 21 true,qI 25 2 23 24 21 true,qN 26 25 2 21 true,qM 27 0 21 true,qM 28 9 21 true,qK 29 .sub 28 1 21 true,qI 30 2 27 29 21 true,qN 31 30 2 21 true,oG 32 (.callv (.t 22) [.t 26,.t 31]) 21 true,qK 33 .lss 32 0 21 true,oA 34 21 33]
[0,1,2,3,8,9,34])
(.cond (.t 34)
.skip
(.exit 2)))
(.seq (.block 3
(.dregC [oM 37 0,oM 38 9,oM 39 0,oM 40 9,oK 41 .sub 40 1,oM 42 0,oM 43 9,oK 44 .sub 43 1,oI 45 2 42 44,oN 46 45 2,oM 47 0,oM 48 9,oI 49 2 47 48,oN 50 49 2,oI 51 2 37 38,
⟨none,.store (.t 51) (.t 46) 2,none⟩,oI 52 2 39 41,
⟨none,.store (.t 52) (.t 50) 2,none⟩]
[15,17] [0,0,0,0,0,0,0,0,0,0,0,0,0,0,0,1,1,2] [0,0,1,1,1,0,0,0,0,0,0,0,0,0,0,2,1,2] [([0,1,2,3,4,5,6,7,8,9,10,11,12,13,14],[]),([16],[2,3,4]),([],[])] [0,1,2,3,8,9,37,38,39,40,41,42,43,44,45,46,47,48,49,50,51,52]
[0,1,2,3,8,9]))
(.reg [oM 35 9,oK 36 .sub 35 1,oM 9 36]
[0,1,2,3,8,9])))))))
(.reg [oM 15 8,oK 16 .add 15 1,oM 8 16]
[0,1,2,3,8]))))))⟩
theorem ksiaR_:chkF Tryz.prog Tryz.f229 csiaR_=true:=by kernel_rfl
def cm11:AFun:=⟨8,1,[.t 2],
 (.seq (.reg [oC 2 0]
[0])
(.seq (.cond (.k (.bool false))
(.seq (.reg [oM 3 0,op 4 (.conv .u32 (.t 3)),op 5 (.call nm10 [.t 4]),oM 2 5]
[2])
.ret)
.skip)
(.seq (.reg [oM 6 0,op 7 (.call nmbL_ [.t 6]),oM 2 7]
[2])
.ret)))⟩
theorem km11:chkF Tryz.prog Tryz.f179 cm11=true:=by kernel_rfl
def cmbL_:AFun:=⟨25,1,[.t 2],
 (.seq (.reg [oC 2 0]
[0,2])
(.seq (.seq (.reg [oM 3 0,op 4 (.bin .geq (.t 3) (.k (.int .u64 4294967296)))]
[0,2,4])
(.cond (.t 4)
(.seq (.reg [oM 5 0,op 6 (.bin .shr (.t 5) (.k (.int .u64 32))),oM 0 6]
[0])
(.reg [oC 2 32]
[0,2]))
.skip))
(.seq (.seq (.reg [oM 7 0,op 8 (.bin .geq (.t 7) (.k (.int .u64 65536)))]
[0,2,8])
(.cond (.t 8)
(.seq (.reg [oM 9 0,op 10 (.bin .shr (.t 9) (.k (.int .u64 16))),oM 0 10]
[0,2])
(.reg [oM 11 2,oK 12 .add 11 16,oM 2 12]
[0,2]))
.skip))
(.seq (.seq (.reg [oM 13 0,op 14 (.bin .geq (.t 13) (.k (.int .u64 256)))]
[0,2,14])
(.cond (.t 14)
(.seq (.reg [oM 15 0,op 16 (.bin .shr (.t 15) (.k (.int .u64 8))),oM 0 16]
[0,2])
(.reg [oM 17 2,oK 18 .add 17 8,oM 2 18]
[0,2]))
.skip))
(.seq (.reg [oM 19 2,oM 20 0,op 21 (.conv .u8 (.t 20)),op 22 (.idx (.k (.str [0,1,2,2,3,3,3,3,4,4,4,4,4,4,4,4,5,5,5,5,5,5,5,5,5,5,5,5,5,5,5,5,6,6,6,6,6,6,6,6,6,6,6,6,6,6,6,6,6,6,6,6,6,6,6,6,6,6,6,6,6,6,6,6,7,7,7,7,7,7,7,7,7,7,7,7,7,7,7,7,7,7,7,7,7,7,7,7,7,7,7,7,7,7,7,7,7,7,7,7,7,7,7,7,7,7,7,7,7,7,7,7,7,7,7,7,7,7,7,7,7,7,7,7,7,7,7,7,8,8,8,8,8,8,8,8,8,8,8,8,8,8,8,8,8,8,8,8,8,8,8,8,8,8,8,8,8,8,8,8,8,8,8,8,8,8,8,8,8,8,8,8,8,8,8,8,8,8,8,8,8,8,8,8,8,8,8,8,8,8,8,8,8,8,8,8,8,8,8,8,8,8,8,8,8,8,8,8,8,8,8,8,8,8,8,8,8,8,8,8,8,8,8,8,8,8,8,8,8,8,8,8,8,8,8,8,8,8,8,8,8,8,8,8,8,8,8,8,8,8,8,8,8,8,8,8])) (.t 21)),op 23 (.conv .i64 (.t 22)),oB 24 .add 19 23,oM 2 24]
[2])
.ret)))))⟩
theorem kmbL_:chkF Tryz.prog Tryz.f224 cmbL_=true:=by kernel_rfl
def cm10:AFun:=⟨19,1,[.t 2],
 (.seq (.reg [oC 2 0]
[0,2])
(.seq (.seq (.reg [oM 3 0,op 4 (.bin .geq (.t 3) (.k (.int .u32 65536)))]
[0,2,4])
(.cond (.t 4)
(.seq (.reg [oM 5 0,op 6 (.bin .shr (.t 5) (.k (.int .u64 16))),oM 0 6]
[0])
(.reg [oC 2 16]
[0,2]))
.skip))
(.seq (.seq (.reg [oM 7 0,op 8 (.bin .geq (.t 7) (.k (.int .u32 256)))]
[0,2,8])
(.cond (.t 8)
(.seq (.reg [oM 9 0,op 10 (.bin .shr (.t 9) (.k (.int .u64 8))),oM 0 10]
[0,2])
(.reg [oM 11 2,oK 12 .add 11 8,oM 2 12]
[0,2]))
.skip))
(.seq (.reg [oM 13 2,oM 14 0,op 15 (.conv .u8 (.t 14)),op 16 (.idx (.k (.str [0,1,2,2,3,3,3,3,4,4,4,4,4,4,4,4,5,5,5,5,5,5,5,5,5,5,5,5,5,5,5,5,6,6,6,6,6,6,6,6,6,6,6,6,6,6,6,6,6,6,6,6,6,6,6,6,6,6,6,6,6,6,6,6,7,7,7,7,7,7,7,7,7,7,7,7,7,7,7,7,7,7,7,7,7,7,7,7,7,7,7,7,7,7,7,7,7,7,7,7,7,7,7,7,7,7,7,7,7,7,7,7,7,7,7,7,7,7,7,7,7,7,7,7,7,7,7,7,8,8,8,8,8,8,8,8,8,8,8,8,8,8,8,8,8,8,8,8,8,8,8,8,8,8,8,8,8,8,8,8,8,8,8,8,8,8,8,8,8,8,8,8,8,8,8,8,8,8,8,8,8,8,8,8,8,8,8,8,8,8,8,8,8,8,8,8,8,8,8,8,8,8,8,8,8,8,8,8,8,8,8,8,8,8,8,8,8,8,8,8,8,8,8,8,8,8,8,8,8,8,8,8,8,8,8,8,8,8,8,8,8,8,8,8,8,8,8,8,8,8,8,8,8,8,8,8])) (.t 15)),op 17 (.conv .i64 (.t 16)),oB 18 .add 13 17,oM 2 18]
[2])
.ret))))⟩
theorem km10:chkF Tryz.prog Tryz.f223 cm10=true:=by kernel_rfl
def cbK_:AFun:=⟨27,1,[.t 2],
 (.seq (.reg [op 2 (.mov (.k (.str [])))]
[0])
(.seq (.reg [op 3 (.nilrow tu_ 1)]
[0,3])
(.seq (.seq (.reg [oM 6 0,oZ 7 6,oC 8 0]
[3,6,7,8])
(.block 0
(.loop [3,6,7,8] [3,7,18,23,26,25,24,22,20,19,16,15,14,13,12,11]
 (.seq (.reg [oB 9 .lss 8 7]
[3,6,7,8,9])
(.seq (.cond (.t 9)
.skip
(.exit 0))
(.seq (.block 1
(.seq (.reg [oI 10 5 6 8,oN 11 10 5,op 5 (.alloc ta10 5 (.agg [.int .i64 0,.int .i64 0,.int .i64 0,.str [],.bool false])),
⟨none,.store (.t 5) (.t 11) 5,none⟩]
[3,5,6,7,8])
(.dregT [oM 12 3,oF 13 5 0,oL 14 13,oK 15 .add 14 16,op 16 (.conv .u8 (.t 15)),op 17 (.mkrow tu_ 1 1 (.int .u8 0) [(0,.t 16)]),op 18 (.app tu_ 1 1 (.t 12) (.t 17)),oF 19 5 1,oN 20 19 4,op 21 (.mkrow taV_ 4 1 (.agg [.int .i64 0,.int .i64 0,.str [],.bool false]) [(0,.t 20)]),op 22 (.callB nkO_ [.t 21]),op 23 (.app tu_ 1 1 (.t 18) (.t 22)),oM 3 23]
[5,6,9,10,11] [[],[],[],[],[],[],[5],[],[],[],[5,6,9],[5,6,9,10],[5,6,9,10,11]] [[6,10,11],[5,6,10,11],[5,6,10,11],[5,6,10,11],[5,6,10,11],[],[],[9,10,11],[9,10,11],[],[],[],[]] [0,1,2,3,4,7,8]
(.next 5 [] [0,7,8] (.next 6 [] [7,8] (.next 9 [] [] (.next 10 [] [] (.next 11 [12] [] .fin .nil) .nil) .nil) (.next 9 [] [0] (.next 6 [] [] (.next 10 [] [] (.next 11 [12] [] .fin .nil) .nil) .nil) .nil)) (.next 9 [] [0,1,2,3,4] (.next 5 [] [0] (.next 6 [] [] (.next 10 [] [] (.next 11 [12] [] .fin .nil) .nil) .nil) .nil) .nil))
[3,5,6,7,8,12,13,14,15,16,17,18,19,20,21,22,23] [3,6,7,8])))
(.reg [oK 24 .add 8 1,oM 8 24]
[3,6,7,8])))))))
(.seq (.reg [oM 25 3,op 26 (.b2s (.t 25)),oM 2 26]
[2])
.ret))))⟩
theorem kbK_:chkF Tryz.prog Tryz.f122 cbK_=true:=by kernel_rfl
def ciIA_:AFun:=⟨32,3,[.t 6],
 (.seq (.reg [op 3 (.box tPI_ 1 (.t 0)),op 4 (.box ti_ 1 (.t 1)),oV 6 false]
[2,3,4])
(.seq (.seq (.reg [oL 9 3,op 10 (.eqP false (.t 9) (.k (.nilp)))]
[2,3,4,10])
(.cond (.t 10)
(.seq (.reg [oV 6 false]
[6])
.ret)
.skip))
(.seq (.seq (.dreg [oL 12 3,op 13 (.nchk (.t 12)),oF 14 13 9,oL 15 14,oL 16 4,op 17 (.mget true false [0] (.nils) (.t 15) (.t 16)),oM 11 17,oE 18 11 0,oE 19 11 1,oM 7 18,oM 8 19]
[2,3,4,8])
(.seq (.reg [oM 20 8]
[2,3,4,20])
(.cond (.t 20)
(.seq (.reg [oV 6 false]
[6])
.ret)
.skip)))
(.seq (.dreg [oL 21 3,op 22 (.nchk (.t 21)),oF 23 22 9,oL 24 23,oL 25 4,oM 26 2,op 27 (.call nsCaSaS_ [.t 26]),
⟨none,.mput false [0] (.t 24) (.t 25) (.t 27),none⟩]
[2,3,4])
(.seq (.reg [oL 28 3,oM 29 2,op 30 (.mkfn niIA1_ [.t 3,.t 4]),op 31 (.call niIe_ [.t 28,.t 29,.t 30])]
[])
(.seq (.reg [oV 6 true]
[6])
.ret))))))⟩
theorem kiIA_:chkF Tryz.prog Tryz.f88 ciIA_=true:=by kernel_rfl
def cdO_:AFun:=⟨24,2,[.t 4],
 (.seq (.reg [op 2 (.box taQ_ 9 (.t 0)),op 4 (.nilrow tSV_ 1)]
[1,2])
(.seq (.reg [oF 8 2 2,oL 9 8,oZ 10 9,op 11 (.mks tSV_ 1 24 (.nils) (.t 10) (.t 10)),oM 5 11]
[1,2,5])
(.seq (.seq (.reg [oM 12 1,oZ 13 12,oC 14 0]
[2,5,12,13,14])
(.block 0
(.loop [2,5,12,13,14] [2,4,10,11,13,23,22,21,20,19,18,17,16,15,14,12]
 (.seq (.reg [oB 15 .lss 14 13]
[2,5,12,13,14,15])
(.seq (.cond (.t 15)
.skip
(.exit 0))
(.seq (.block 1
(.seq (.reg [oI 16 2 12 14,oN 17 16 2,op 7 (.alloc taE_ 2 (.agg [.str [],.nils])),
⟨none,.store (.t 7) (.t 17) 2,none⟩]
[2,5,7,12,13,14])
(.reg [oN 18 2 9,oM 19 5,oN 20 7 2,op 21 (.call ndA_ [.t 18,.t 19,.t 20]),oM 5 21]
[2,5,12,13,14])))
(.reg [oK 22 .add 14 1,oM 14 22]
[2,5,12,13,14])))))))
(.seq (.reg [oM 23 5,oM 4 23]
[4])
.ret))))⟩
theorem kdO_:chkF Tryz.prog Tryz.f54 cdO_=true:=by kernel_rfl
def cs13:AFun:=⟨28,1,[.t 2],
 (.seq (.reg [op 1 (.box taQ_ 9 (.t 0)),op 2 (.mov (.k (.nilp)))]
[1])
(.seq (.seq (.reg [oN 3 1 9,op 4 (.call ncR_ [.t 3]),oU 5 4,oM 6 5,qN 7 1 9 6 false,oG 8 (.call ncP_ [.t 7]) 6 false,oG 9 (.un .not (.t 8)) 6 false,oO 10 6 9]
[1,10])
(.cond (.t 10)
(.seq (.reg [op 2 (.mov (.k (.nilp)))]
[2])
.ret)
.skip))
(.seq (.reg [oN 11 1 9,op 12 .mkmap,oF 13 1 4,oL 14 13,oZ 15 14,op 16 (.conv .u64 (.t 15)),op 17 (.bin .shl (.k (.int .u32 1)) (.t 16)),op 18 (.bin .sub (.t 17) (.k (.int .u32 1))),oF 19 1 6,oL 20 19,oZ 21 20,op 22 (.conv .u64 (.t 21)),op 23 (.bin .shl (.k (.int .u64 1)) (.t 22)),op 24 (.bin .sub (.t 23) (.k (.int .u64 1))),op 25 (.build [.int .u32 0,.int .u64 0] [(0,1,.t 18),(1,1,.t 24)]),op 26 (.build [.str [],.nils,.nils,.nils,.nils,.int .i64 0,.nils,.nils,.nils,.nilm,.int .u32 0,.int .u64 0] [(0,9,.t 11),(9,1,.t 12),(10,2,.t 25)]),op 27 (.box tsA_ 12 (.t 26)),oM 2 27]
[2])
.ret)))⟩
theorem ks17:chkF Tryz.prog Tryz.f55 cs13=true:=by kernel_rfl
def ccS_:AFun:=⟨26,1,[.t 2],
 (.seq (.reg [op 1 (.box taQ_ 9 (.t 0)),op 2 (.nilrow taC_ 2)]
[1])
(.seq (.reg [oF 6 1 5,oL 7 6,op 8 (.build [.int .i64 0,.nils] [(0,1,.t 7)]),op 3 (.alloc taC_ 2 (.agg [.int .i64 0,.nils])),
⟨none,.store (.t 3) (.t 8) 2,none⟩]
[1,3])
(.seq (.seq (.reg [oF 9 1 3,oL 10 9,oZ 11 10,oC 12 0]
[3,10,11,12])
(.block 0
(.loop [3,10,11,12] [1,2,3,11,21,24,23,22,19,18,17,16,15,14,13,12]
 (.seq (.reg [oB 13 .lss 12 11]
[3,10,11,12,13])
(.seq (.cond (.t 13)
.skip
(.exit 0))
(.seq (.block 1
(.seq (.reg [oI 14 5 10 12,oN 15 14 5,op 5 (.alloc taF_ 5 (.agg [.str [],.int .i64 0,.int .i64 0,.str [],.bool false])),
⟨none,.store (.t 5) (.t 15) 5,none⟩]
[3,5,10,11,12])
(.reg [oF 16 3 1,oL 17 16,oF 18 5 1,oN 19 18 4,op 20 (.mkrow taV_ 4 1 (.agg [.int .i64 0,.int .i64 0,.str [],.bool false]) [(0,.t 19)]),op 21 (.app taV_ 4 40 (.t 17) (.t 20)),oF 22 3 1,
⟨none,.store (.t 22) (.t 21) 1,none⟩]
[3,10,11,12])))
(.reg [oK 23 .add 12 1,oM 12 23]
[3,10,11,12])))))))
(.seq (.reg [oN 24 3 2,op 25 (.mkrow taC_ 2 1 (.agg [.int .i64 0,.nils]) [(0,.t 24)]),oM 2 25]
[2])
.ret))))⟩
theorem kcS_:chkF Tryz.prog Tryz.f57 ccS_=true:=by kernel_rfl
def ccR_:AFun:=⟨17,1,[.t 2],
 (.seq (.reg [op 1 (.box taQ_ 9 (.t 0)),oV 2 false]
[1])
(.seq (.reg [oN 3 1 9,op 4 (.call ncf_ [.t 3]),oM 5 4,qN 6 1 9 5 true,oG 7 (.call nch_ [.t 6]) 5 true,oA 8 5 7,oM 9 8,qN 10 1 9 9 true,oG 11 (.call nct_ [.t 10]) 9 true,oA 12 9 11,oM 13 12,qN 14 1 9 13 true,oG 15 (.call ncs_ [.t 14]) 13 true,oA 16 13 15,oM 2 16]
[2])
.ret))⟩
theorem kcR_:chkF Tryz.prog Tryz.f52 ccR_=true:=by kernel_rfl
def ccf_:AFun:=⟨37,1,[.t 2],
 (.seq (.reg [op 1 (.box taQ_ 9 (.t 0)),oV 2 false]
[1])
(.seq (.reg [oF 3 1 2,oL 4 3,oZ 5 4,oK 6 .leq 5 8,oM 7 6,qF 8 1 3 7 true,qL 9 8 7 true,oG 10 (.len false (.t 9)) 7 true,qK 11 .leq 10 16 7 true,oA 12 7 11,oM 13 12,qF 14 1 4 13 true,qL 15 14 13 true,oG 16 (.len false (.t 15)) 13 true,qK 17 .leq 16 32 13 true,oA 18 13 17,oM 19 18,qF 20 1 6 19 true,qL 21 20 19 true,oG 22 (.len false (.t 21)) 19 true,qK 23 .leq 22 64 19 true,oA 24 19 23,oM 25 24,qF 26 1 7 25 true,qL 27 26 25 true,oG 28 (.len false (.t 27)) 25 true,qK 29 .leq 28 2048 25 true,oA 30 25 29,oM 31 30,qF 32 1 8 31 true,qL 33 32 31 true,oG 34 (.len false (.t 33)) 31 true,qK 35 .leq 34 256 31 true,oA 36 31 35,oM 2 36]
[2])
.ret))⟩
theorem kcf_:chkF Tryz.prog Tryz.f91 ccf_=true:=by kernel_rfl
def cch_:AFun:=⟨96,1,[.t 2],
 (.seq (.reg [op 1 (.box taQ_ 9 (.t 0)),oV 2 false]
[1])
(.seq (.reg [op 3 (.nilrow ts_ 1),op 4 (.nilrow ts_ 1)]
[1,3,4])
(.seq (.seq (.reg [oF 13 1 2,oL 14 13,oZ 15 14,oC 16 0]
[1,3,4,14,15,16])
(.block 0
(.loop [1,3,4,14,15,16] [1,3,4,15,24,95,94,93,92,91,90,89,88,87,86,85,84]
 (.seq (.reg [oB 17 .lss 16 15]
[1,3,4,14,15,16,17])
(.seq (.cond (.t 17)
.skip
(.exit 0))
(.seq (.block 1
(.seq (.reg [oI 18 3 14 16,oN 19 18 3,op 6 (.alloc ta12 3 (.agg [.bool false,.str [],.int .i64 0])),
⟨none,.store (.t 6) (.t 19) 3,none⟩]
[1,3,4,6,14,15,16])
(.reg [oM 20 3,oF 21 6 1,oL 22 21,op 23 (.mkrow ts_ 1 1 (.str []) [(0,.t 22)]),op 24 (.app ts_ 1 16 (.t 20) (.t 23)),oM 3 24]
[1,3,4,14,15,16])))
(.reg [oK 25 .add 16 1,oM 16 25]
[1,3,4,14,15,16])))))))
(.seq (.seq (.reg [oF 26 1 3,oL 27 26,oZ 28 27,oC 29 0]
[1,3,4,27,28,29])
(.block 2
(.loop [1,3,4,27,28,29] [1,3,4,15,6,23,24,28,37,95,94,93,92,91,90,89,88,87,86,85,84]
 (.seq (.reg [oB 30 .lss 29 28]
[1,3,4,27,28,29,30])
(.seq (.cond (.t 30)
.skip
(.exit 2))
(.seq (.block 3
(.seq (.reg [oI 31 5 27 29,oN 32 31 5,op 8 (.alloc taF_ 5 (.agg [.str [],.int .i64 0,.int .i64 0,.str [],.bool false])),
⟨none,.store (.t 8) (.t 32) 5,none⟩]
[1,3,4,8,27,28,29])
(.reg [oM 33 3,oF 34 8 0,oL 35 34,op 36 (.mkrow ts_ 1 1 (.str []) [(0,.t 35)]),op 37 (.app ts_ 1 16 (.t 33) (.t 36)),oM 3 37]
[1,3,4,27,28,29])))
(.reg [oK 38 .add 29 1,oM 29 38]
[1,3,4,27,28,29])))))))
(.seq (.seq (.reg [oF 39 1 4,oL 40 39,oZ 41 40,oC 42 0]
[1,3,4,40,41,42])
(.block 4
(.loop [1,3,4,40,41,42] [1,3,4,15,6,23,24,28,8,36,37,41,50,95,94,93,92,91,90,89,88,87,86,85,84]
 (.seq (.reg [oB 43 .lss 42 41]
[1,3,4,40,41,42,43])
(.seq (.cond (.t 43)
.skip
(.exit 4))
(.seq (.block 5
(.seq (.reg [oI 44 3 40 42,oN 45 44 3,op 10 (.alloc ta11 3 (.agg [.str [],.bool false,.bool false])),
⟨none,.store (.t 10) (.t 45) 3,none⟩]
[1,3,4,10,40,41,42])
(.reg [oM 46 4,oF 47 10 0,oL 48 47,op 49 (.mkrow ts_ 1 1 (.str []) [(0,.t 48)]),op 50 (.app ts_ 1 16 (.t 46) (.t 49)),oM 4 50]
[1,3,4,40,41,42])))
(.reg [oK 51 .add 42 1,oM 42 51]
[1,3,4,40,41,42])))))))
(.seq (.reg [oF 53 1 1,oL 54 53,op 55 (.call nsC_ [.t 54]),oM 52 55,oE 56 52 0,oE 57 52 1,oM 11 56,oM 12 57]
[1,3,4,12])
(.seq (.reg [oM 58 12,oK 59 .eql 58 0,oM 60 59,qF 61 1 0 60 true,qL 62 61 60 true,oG 63 (.call nsN_ [.t 62]) 60 true,oA 64 60 63,oM 65 64,qM 66 3 65 true,oG 67 (.call ncn_ [.t 66]) 65 true,oA 68 65 67,oM 69 68,qM 70 4 69 true,oG 71 (.call ncn_ [.t 70]) 69 true,oA 72 69 71,oM 73 72,qF 74 1 2 73 true,qL 75 74 73 true,oG 76 (.call ncaaQ_ [.t 75,.f nch1_]) 73 true,oA 77 73 76,oM 78 77,qF 79 1 3 78 true,qL 80 79 78 true,oG 81 (.call ncaaF_ [.t 80,.f nch2_]) 78 true,oA 82 78 81,oM 83 82,qF 84 1 5 83 true,qL 85 84 83 true,qK 86 .geq 85 0 83 true,oA 87 83 86,oM 88 87,qF 89 1 5 88 true,qL 90 89 88 true,qF 91 1 4 88 true,qL 92 91 88 true,oG 93 (.len false (.t 92)) 88 true,qB 94 .lss 90 93 88 true,oA 95 88 94,oM 2 95]
[2])
.ret)))))))⟩
theorem kch_:chkF Tryz.prog Tryz.f92 cch_=true:=by kernel_rfl
def cct_:AFun:=⟨21,1,[.t 2],
 (.seq (.reg [op 1 (.box taQ_ 9 (.t 0)),oV 2 false]
[1])
(.seq (.reg [oN 7 1 9,op 8 (.call nce_ [.t 7]),op 3 (.alloc tSe_ 1 (.nils)),
⟨none,.store (.t 3) (.t 8) 1,none⟩]
[1,3])
(.seq (.reg [op 4 (.alloc ti_ 1 (.int .i64 0)),
⟨none,.store (.t 4) (.k (.int .i64 0)) 1,none⟩]
[1,3,4])
(.seq (.reg [op 9 (.mkfn nct1_ [.t 4,.t 3]),op 5 (.alloc tfiib_ 1 (.nilfn)),
⟨none,.store (.t 5) (.t 9) 1,none⟩]
[1,3,4,5])
(.seq (.reg [op 10 (.mkfn nct2_ [.t 4,.t 1,.t 5]),oM 6 10]
[1,3,4,6])
(.seq (.reg [oF 11 1 8,oL 12 11,oM 13 6,op 14 (.call ncaaT_ [.t 12,.t 13]),oM 15 14,qL 16 4 15 true,qL 17 3 15 true,oG 18 (.len false (.t 17)) 15 true,qB 19 .eql 16 18 15 true,oA 20 15 19,oM 2 20]
[2])
.ret))))))⟩
theorem kct_:chkF Tryz.prog Tryz.f93 cct_=true:=by kernel_rfl
def ccs_:AFun:=⟨41,1,[.t 2],
 (.seq (.reg [op 1 (.box taQ_ 9 (.t 0)),oV 2 false]
[1])
(.seq (.reg [op 3 (.alloc tS10 1 (.nils))]
[1,3])
(.seq (.seq (.reg [oF 7 1 8,oL 8 7,oZ 9 8,oC 10 0]
[1,3,8,9,10])
(.block 0
(.loop [1,3,8,9,10] [1,3,9,23,40,39,38,37,36,35,34,33,32,31,30,29]
 (.seq (.reg [oB 11 .lss 10 9]
[1,3,8,9,10,11])
(.seq (.cond (.t 11)
.skip
(.exit 0))
(.seq (.block 1
(.seq (.reg [oI 12 5 8 10,oN 13 12 5,op 5 (.alloc taT_ 5 (.agg [.int .i64 0,.int .i64 0,.int .i64 0,.int .i64 0,.nils])),
⟨none,.store (.t 5) (.t 13) 5,none⟩]
[1,3,5,8,9,10])
(.seq (.reg [oL 14 3,oF 15 5 1,oL 16 15,op 17 (.call ns16 [.t 14,.t 16]),oU 18 17]
[1,3,5,8,9,10,18])
(.cond (.t 18)
(.reg [oL 19 3,oF 20 5 1,oL 21 20,op 22 (.mkrow ti_ 1 1 (.int .i64 0) [(0,.t 21)]),op 23 (.app ti_ 1 8 (.t 19) (.t 22)),
⟨none,.store (.t 3) (.t 23) 1,none⟩]
[1,3,8,9,10])
.skip))))
(.reg [oK 24 .add 10 1,oM 10 24]
[1,3,8,9,10])))))))
(.seq (.reg [op 25 (.mkfn ncs1_ [.t 1]),oM 6 25]
[1,3,6])
(.seq (.reg [oL 26 3,op 27 (.mkfn ncs2_ [.t 1,.t 3]),op 28 (.call ncai_ [.t 26,.t 27]),oM 29 28,qF 30 1 6 29 true,qL 31 30 29 true,qM 32 6 29 true,oG 33 (.call ncaaS_ [.t 31,.t 32]) 29 true,oA 34 29 33,oM 35 34,qF 36 1 2 35 true,qL 37 36 35 true,oG 38 (.mkfn ncs3_ [.t 1]) 35 true,oG 39 (.call ncaaQ_ [.t 37,.t 38]) 35 true,oA 40 35 39,oM 2 40]
[2])
.ret)))))⟩
theorem kcs_:chkF Tryz.prog Tryz.f94 ccs_=true:=by kernel_rfl
def ccP_:AFun:=⟨13,1,[.t 2],
 (.seq (.reg [op 1 (.box taQ_ 9 (.t 0)),oV 2 false]
[1])
(.seq (.reg [oF 3 1 3,oL 4 3,oZ 5 4,oK 6 .eql 5 0,oM 7 6,qF 8 1 8 7 true,qL 9 8 7 true,oG 10 (.call nsCaTaT_ [.t 9,.f ncP1_]) 7 true,oG 11 (.un .not (.t 10)) 7 true,oA 12 7 11,oM 2 12]
[2])
.ret))⟩
theorem kcP_:chkF Tryz.prog Tryz.f96 ccP_=true:=by kernel_rfl
def ccn_:AFun:=⟨6,1,[.t 2],
 (.seq (.reg [op 1 (.box tS_ 1 (.t 0)),oV 2 false]
[1])
(.seq (.reg [oL 3 1,op 4 (.mkfn ncn1_ [.t 1]),op 5 (.call ncas_ [.t 3,.t 4]),oM 2 5]
[2])
.ret))⟩
theorem kcn_:chkF Tryz.prog Tryz.f134 ccn_=true:=by kernel_rfl
def cce_:AFun:=⟨147,1,[.t 2],
 (.seq (.reg [op 1 (.box taQ_ 9 (.t 0)),op 2 (.nilrow tce_ 3)]
[1])
(.seq (.reg [oF 10 1 7,oL 11 10,oZ 12 11,op 13 (.mks tce_ 3 24 (.agg [.int .i64 0,.int .i64 0,.int .i64 0]) (.t 12) (.t 12)),oM 3 13]
[1,3])
(.seq (.seq (.reg [oF 14 1 7,oL 15 14,oZ 16 15,oC 17 0]
[1,3,15,16,17])
(.block 0
(.loop [1,3,15,16,17] [1,2,12,13,16,146,145,144,143,142,141,140,139,138,137,136,135]
 (.seq (.reg [oB 18 .lss 17 16]
[1,3,15,16,17,18])
(.seq (.cond (.t 18)
.skip
(.exit 0))
(.seq (.block 1
(.seq (.reg [oM 19 17,oI 20 7 15 17,oN 21 20 7,op 5 (.alloc taN_ 7 (.agg [.int .i64 0,.int .i64 0,.int .i64 0,.int .i64 0,.int .i64 0,.str [],.bool false])),oM 4 19,
⟨none,.store (.t 5) (.t 21) 7,none⟩]
[1,3,4,5,15,16,17])
(.seq (.seq (.reg [oN 23 1 9,oM 24 4,op 25 (.call ncl_ [.t 23,.t 24]),oM 22 25,oE 26 22 0,oE 27 22 1,op 6 (.alloc tce_ 3 (.agg [.int .i64 0,.int .i64 0,.int .i64 0])),
⟨none,.store (.t 6) (.t 26) 3,none⟩,oM 7 27]
[1,3,4,5,6,7,15,16,17])
(.seq (.reg [oM 28 7]
[1,3,4,5,6,15,16,17,28])
(.cond (.t 28)
(.seq (.reg [oM 29 3,oM 30 4,oN 31 6 3,oI 32 3 29 30,
⟨none,.store (.t 32) (.t 31) 3,none⟩]
[1,3,15,16,17])
(.exit 1))
.skip)))
(.seq (.seq (.reg [oF 33 5 0,oL 34 33,oK 35 .lss 34 4,oM 36 35,qF 37 5 0 36 false,qL 38 37 36 false,qK 39 .gtr 38 16 36 false,oO 40 36 39,oM 41 40,qM 42 4 41 false,qK 43 .eql 42 0 41 false,oO 44 41 43,oM 45 44,qM 46 3 45 false,qM 47 4 45 false,qK 48 .sub 47 1 45 false,qI 49 3 46 48 45 false,qF 50 49 0 45 false,qL 51 50 45 false,qK 52 .eql 51 0 45 false,oO 53 45 52,oM 54 53,qF 55 5 3 54 false,qN 56 55 4 54 false,oG 57 (.build [.int .i64 0,.int .i64 0,.str [],.bool false] []) 54 false,oG 58 (.eqA true [0,0,1,2] (.t 56) (.t 57)) 54 false,oO 59 54 58]
[1,3,4,5,15,16,17,59])
(.cond (.t 59)
(.exit 1)
.skip))
(.seq (.reg [oM 60 3,oM 61 4,oK 62 .sub 61 1,oI 63 3 60 62,oN 64 63 3,op 8 (.alloc tce_ 3 (.agg [.int .i64 0,.int .i64 0,.int .i64 0])),
⟨none,.store (.t 8) (.t 64) 3,none⟩]
[1,3,4,5,8,15,16,17])
(.seq (.seq (.reg [oF 65 5 0,oL 66 65,oK 67 .leq 66 5]
[1,3,4,5,8,15,16,17,67])
(.cond (.t 67)
(.seq (.seq (.reg [oF 68 5 1,oL 69 68,oM 70 4,oK 71 .sub 70 1,oB 72 .eql 69 71,oM 73 72,qF 74 5 2 73 true,qL 75 74 73 true,qK 76 .eql 75 0 73 true,oA 77 73 76]
[1,3,4,5,8,15,16,17,77])
(.cond (.t 77)
(.dreg [oM 78 3,oM 79 4,oF 80 5 0,oL 81 80,oF 82 8 0,oL 83 82,oF 84 8 0,oL 85 84,op 86 (.call nvT_ [.t 81,.t 83,.t 85]),oF 87 8 1,oL 88 87,oK 89 .add 88 1,oF 90 8 2,oL 91 90,op 92 (.build [.int .i64 0,.int .i64 0,.int .i64 0] [(0,1,.t 86),(1,1,.t 89),(2,1,.t 91)]),oI 93 3 78 79,
⟨none,.store (.t 93) (.t 92) 3,none⟩]
[1,3,15,16,17])
.skip))
(.exit 1))
.skip))
(.seq (.reg [oF 94 5 2,oL 95 94,oM 96 4,oK 97 .sub 96 1,oB 98 .eql 95 97,oM 99 98,qF 100 5 1 99 true,qL 101 100 99 true,qF 102 8 2 99 true,qL 103 102 99 true,qK 104 .sub 103 1 99 true,qB 105 .eql 101 104 99 true,oA 106 99 105,oM 107 106,qF 108 5 1 107 true,qL 109 108 107 true,qK 110 .geq 109 0 107 true,oA 111 107 110,oM 112 111,qM 113 3 112 true,qF 114 5 1 112 true,qL 115 114 112 true,qI 116 3 113 115 112 true,qF 117 116 0 112 true,qL 118 117 112 true,qK 119 .neq 118 0 112 true,oA 120 112 119]
[1,3,4,5,8,15,16,17,120])
(.cond (.t 120)
(.seq (.reg [oM 121 3,oF 122 5 1,oL 123 122,oI 124 3 121 123,oN 125 124 3,op 9 (.alloc tce_ 3 (.agg [.int .i64 0,.int .i64 0,.int .i64 0])),
⟨none,.store (.t 9) (.t 125) 3,none⟩]
[1,3,4,5,8,9,15,16,17])
(.dreg [oM 126 3,oM 127 4,oF 128 5 0,oL 129 128,oF 130 9 0,oL 131 130,oF 132 8 0,oL 133 132,op 134 (.call nvT_ [.t 129,.t 131,.t 133]),oF 135 9 1,oL 136 135,oF 137 8 1,oL 138 137,op 139 (.mx false (.t 136) (.t 138)),oK 140 .add 139 1,oF 141 9 2,oL 142 141,op 143 (.build [.int .i64 0,.int .i64 0,.int .i64 0] [(0,1,.t 134),(1,1,.t 140),(2,1,.t 142)]),oI 144 3 126 127,
⟨none,.store (.t 144) (.t 143) 3,none⟩]
[1,3,15,16,17]))
.skip))))))))
(.reg [oK 145 .add 17 1,oM 17 145]
[1,3,15,16,17])))))))
(.seq (.reg [oM 146 3,oM 2 146]
[2])
.ret))))⟩
theorem kce_:chkF Tryz.prog Tryz.f140 cce_=true:=by kernel_rfl
def ccaaQ_:AFun:=⟨20,2,[.t 4],
 (.seq (.reg [oV 4 false]
[0,1])
(.seq (.seq (.reg [oM 7 0,oZ 8 7,oC 9 0]
[1,7,8,9])
(.block 0
(.loop [1,7,8,9] [8,19,18,17,16,15,14,13,12,11,10,9]
 (.seq (.reg [oB 10 .lss 9 8]
[1,7,8,9,10])
(.seq (.cond (.t 10)
.skip
(.exit 0))
(.seq (.block 1
(.seq (.reg [oM 11 9,oI 12 3 7 9,oN 13 12 3,op 6 (.alloc ta12 3 (.agg [.bool false,.str [],.int .i64 0])),oM 5 11,
⟨none,.store (.t 6) (.t 13) 3,none⟩]
[1,5,6,7,8,9])
(.seq (.reg [oM 14 1,oM 15 5,oN 16 6 3,op 17 (.callv (.t 14) [.t 15,.t 16]),oU 18 17]
[1,7,8,9,18])
(.cond (.t 18)
(.seq (.reg [oV 4 false]
[4])
.ret)
.skip))))
(.reg [oK 19 .add 9 1,oM 9 19]
[1,7,8,9])))))))
(.seq (.reg [oV 4 true]
[4])
.ret)))⟩
theorem kcaaQ_:chkF Tryz.prog Tryz.f135 ccaaQ_=true:=by kernel_rfl
def ccaaF_:AFun:=⟨20,2,[.t 4],
 (.seq (.reg [oV 4 false]
[0,1])
(.seq (.seq (.reg [oM 7 0,oZ 8 7,oC 9 0]
[1,7,8,9])
(.block 0
(.loop [1,7,8,9] [8,19,18,17,16,15,14,13,12,11,10,9]
 (.seq (.reg [oB 10 .lss 9 8]
[1,7,8,9,10])
(.seq (.cond (.t 10)
.skip
(.exit 0))
(.seq (.block 1
(.seq (.reg [oM 11 9,oI 12 5 7 9,oN 13 12 5,op 6 (.alloc taF_ 5 (.agg [.str [],.int .i64 0,.int .i64 0,.str [],.bool false])),oM 5 11,
⟨none,.store (.t 6) (.t 13) 5,none⟩]
[1,5,6,7,8,9])
(.seq (.reg [oM 14 1,oM 15 5,oN 16 6 5,op 17 (.callv (.t 14) [.t 15,.t 16]),oU 18 17]
[1,7,8,9,18])
(.cond (.t 18)
(.seq (.reg [oV 4 false]
[4])
.ret)
.skip))))
(.reg [oK 19 .add 9 1,oM 9 19]
[1,7,8,9])))))))
(.seq (.reg [oV 4 true]
[4])
.ret)))⟩
theorem kcaaF_:chkF Tryz.prog Tryz.f138 ccaaF_=true:=by kernel_rfl
def cc10:AFun:=⟨20,2,[.t 4],
 (.seq (.reg [oV 4 false]
[0,1])
(.seq (.seq (.reg [oM 7 0,oZ 8 7,oC 9 0]
[1,7,8,9])
(.block 0
(.loop [1,7,8,9] [8,19,18,17,16,15,14,13,12,11,10,9]
 (.seq (.reg [oB 10 .lss 9 8]
[1,7,8,9,10])
(.seq (.cond (.t 10)
.skip
(.exit 0))
(.seq (.block 1
(.seq (.reg [oM 11 9,oI 12 2 7 9,oN 13 12 2,op 6 (.alloc ta14 2 (.agg [.int .i64 0,.int .i64 0])),oM 5 11,
⟨none,.store (.t 6) (.t 13) 2,none⟩]
[1,5,6,7,8,9])
(.seq (.reg [oM 14 1,oM 15 5,oN 16 6 2,op 17 (.callv (.t 14) [.t 15,.t 16]),oU 18 17]
[1,7,8,9,18])
(.cond (.t 18)
(.seq (.reg [oV 4 false]
[4])
.ret)
.skip))))
(.reg [oK 19 .add 9 1,oM 9 19]
[1,7,8,9])))))))
(.seq (.reg [oV 4 true]
[4])
.ret)))⟩
theorem kc10:chkF Tryz.prog Tryz.f146 cc10=true:=by kernel_rfl
def ccaaN_:AFun:=⟨20,2,[.t 4],
 (.seq (.reg [oV 4 false]
[0,1])
(.seq (.seq (.reg [oM 7 0,oZ 8 7,oC 9 0]
[1,7,8,9])
(.block 0
(.loop [1,7,8,9] [8,19,18,17,16,15,14,13,12,11,10,9]
 (.seq (.reg [oB 10 .lss 9 8]
[1,7,8,9,10])
(.seq (.cond (.t 10)
.skip
(.exit 0))
(.seq (.block 1
(.seq (.reg [oM 11 9,oI 12 7 7 9,oN 13 12 7,op 6 (.alloc taN_ 7 (.agg [.int .i64 0,.int .i64 0,.int .i64 0,.int .i64 0,.int .i64 0,.str [],.bool false])),oM 5 11,
⟨none,.store (.t 6) (.t 13) 7,none⟩]
[1,5,6,7,8,9])
(.seq (.reg [oM 14 1,oM 15 5,oN 16 6 7,op 17 (.callv (.t 14) [.t 15,.t 16]),oU 18 17]
[1,7,8,9,18])
(.cond (.t 18)
(.seq (.reg [oV 4 false]
[4])
.ret)
.skip))))
(.reg [oK 19 .add 9 1,oM 9 19]
[1,7,8,9])))))))
(.seq (.reg [oV 4 true]
[4])
.ret)))⟩
theorem kcaaN_:chkF Tryz.prog Tryz.f147 ccaaN_=true:=by kernel_rfl
def ccaaT_:AFun:=⟨20,2,[.t 4],
 (.seq (.reg [oV 4 false]
[0,1])
(.seq (.seq (.reg [oM 7 0,oZ 8 7,oC 9 0]
[1,7,8,9])
(.block 0
(.loop [1,7,8,9] [8,19,18,17,16,15,14,13,12,11,10,9]
 (.seq (.reg [oB 10 .lss 9 8]
[1,7,8,9,10])
(.seq (.cond (.t 10)
.skip
(.exit 0))
(.seq (.block 1
(.seq (.reg [oM 11 9,oI 12 5 7 9,oN 13 12 5,op 6 (.alloc taT_ 5 (.agg [.int .i64 0,.int .i64 0,.int .i64 0,.int .i64 0,.nils])),oM 5 11,
⟨none,.store (.t 6) (.t 13) 5,none⟩]
[1,5,6,7,8,9])
(.seq (.reg [oM 14 1,oM 15 5,oN 16 6 5,op 17 (.callv (.t 14) [.t 15,.t 16]),oU 18 17]
[1,7,8,9,18])
(.cond (.t 18)
(.seq (.reg [oV 4 false]
[4])
.ret)
.skip))))
(.reg [oK 19 .add 9 1,oM 9 19]
[1,7,8,9])))))))
(.seq (.reg [oV 4 true]
[4])
.ret)))⟩
theorem kcaaT_:chkF Tryz.prog Tryz.f150 ccaaT_=true:=by kernel_rfl
def ccai_:AFun:=⟨20,2,[.t 4],
 (.seq (.reg [oV 4 false]
[0,1])
(.seq (.seq (.reg [oM 7 0,oZ 8 7,oC 9 0]
[1,7,8,9])
(.block 0
(.loop [1,7,8,9] [8,19,18,17,16,15,14,13,12,11,10,9]
 (.seq (.reg [oB 10 .lss 9 8]
[1,7,8,9,10])
(.seq (.cond (.t 10)
.skip
(.exit 0))
(.seq (.block 1
(.seq (.reg [oM 11 9,oI 12 1 7 9,oL 13 12,oM 5 11,oM 6 13]
[1,5,6,7,8,9])
(.seq (.reg [oM 14 1,oM 15 5,oM 16 6,op 17 (.callv (.t 14) [.t 15,.t 16]),oU 18 17]
[1,7,8,9,18])
(.cond (.t 18)
(.seq (.reg [oV 4 false]
[4])
.ret)
.skip))))
(.reg [oK 19 .add 9 1,oM 9 19]
[1,7,8,9])))))))
(.seq (.reg [oV 4 true]
[4])
.ret)))⟩
theorem kcai_:chkF Tryz.prog Tryz.f157 ccai_=true:=by kernel_rfl
def ccaaS_:AFun:=⟨20,2,[.t 4],
 (.seq (.reg [oV 4 false]
[0,1])
(.seq (.seq (.reg [oM 7 0,oZ 8 7,oC 9 0]
[1,7,8,9])
(.block 0
(.loop [1,7,8,9] [8,19,18,17,16,15,14,13,12,11,10,9]
 (.seq (.reg [oB 10 .lss 9 8]
[1,7,8,9,10])
(.seq (.cond (.t 10)
.skip
(.exit 0))
(.seq (.block 1
(.seq (.reg [oM 11 9,oI 12 2 7 9,oN 13 12 2,op 6 (.alloc ta13 2 (.agg [.int .i64 0,.nils])),oM 5 11,
⟨none,.store (.t 6) (.t 13) 2,none⟩]
[1,5,6,7,8,9])
(.seq (.reg [oM 14 1,oM 15 5,oN 16 6 2,op 17 (.callv (.t 14) [.t 15,.t 16]),oU 18 17]
[1,7,8,9,18])
(.cond (.t 18)
(.seq (.reg [oV 4 false]
[4])
.ret)
.skip))))
(.reg [oK 19 .add 9 1,oM 9 19]
[1,7,8,9])))))))
(.seq (.reg [oV 4 true]
[4])
.ret)))⟩
theorem kcaaS_:chkF Tryz.prog Tryz.f159 ccaaS_=true:=by kernel_rfl
def ccas_:AFun:=⟨20,2,[.t 4],
 (.seq (.reg [oV 4 false]
[0,1])
(.seq (.seq (.reg [oM 7 0,oZ 8 7,oC 9 0]
[1,7,8,9])
(.block 0
(.loop [1,7,8,9] [8,19,18,17,16,15,14,13,12,11,10,9]
 (.seq (.reg [oB 10 .lss 9 8]
[1,7,8,9,10])
(.seq (.cond (.t 10)
.skip
(.exit 0))
(.seq (.block 1
(.seq (.reg [oM 11 9,oI 12 1 7 9,oL 13 12,oM 5 11,oM 6 13]
[1,5,6,7,8,9])
(.seq (.reg [oM 14 1,oM 15 5,oM 16 6,op 17 (.callv (.t 14) [.t 15,.t 16]),oU 18 17]
[1,7,8,9,18])
(.cond (.t 18)
(.seq (.reg [oV 4 false]
[4])
.ret)
.skip))))
(.reg [oK 19 .add 9 1,oM 9 19]
[1,7,8,9])))))))
(.seq (.reg [oV 4 true]
[4])
.ret)))⟩
theorem kcas_:chkF Tryz.prog Tryz.f191 ccas_=true:=by kernel_rfl
def ccn1_:AFun:=⟨15,3,[.t 5],
 (.seq (.reg [oV 5 false]
[0,1,2])
(.seq (.reg [oM 6 1,op 7 (.call nsN_ [.t 6]),oM 8 7,qL 9 2 8 true,qM 10 1 8 true,oG 11 (.call nsIss_ [.t 9,.t 10]) 8 true,qM 12 0 8 true,qB 13 .eql 11 12 8 true,oA 14 8 13,oM 5 14]
[5])
.ret))⟩
theorem kcn1_:chkF Tryz.prog Tryz.f192 ccn1_=true:=by kernel_rfl
def csC_:AFun:=⟨22,1,[.t 2,.t 3],
 (.seq (.reg [oC 2 0,oC 3 0]
[0])
(.seq (.seq (.reg [oM 6 0,oZ 7 6,oK 8 .gtr 7 32]
[0,8])
(.cond (.t 8)
(.seq (.reg [oC 2 32,oC 3 14]
[2,3])
.ret)
.skip))
(.seq (.seq (.reg [oM 9 0,oZ 10 9,oC 11 0]
[0,10,11])
(.block 0
(.loop [0,10,11] [7,10,21,20,19,18,17,16,15,14,13,12,11]
 (.seq (.reg [oB 12 .lss 11 10]
[0,10,11,12])
(.seq (.cond (.t 12)
.skip
(.exit 0))
(.seq (.block 1
(.seq (.reg [oM 13 11,oM 4 13]
[0,4,10,11])
(.seq (.reg [oM 14 0,oM 15 4,op 16 (.call nso_ [.t 14,.t 15]),oM 5 16]
[0,4,5,10,11])
(.seq (.reg [oM 17 5,oK 18 .neq 17 0]
[0,4,5,10,11,18])
(.cond (.t 18)
(.seq (.reg [oM 19 4,oM 20 5,oM 2 19,oM 3 20]
[2,3])
.ret)
.skip)))))
(.reg [oK 21 .add 11 1,oM 11 21]
[0,10,11])))))))
(.seq (.reg [op 2 (.mov (.k (.int .i64 (-1)))),oC 3 0]
[2,3])
.ret))))⟩
theorem ksC_:chkF Tryz.prog Tryz.f132 csC_=true:=by kernel_rfl
def cso_:AFun:=⟨37,2,[.t 4],
 (.seq (.reg [oC 4 0]
[0,1])
(.seq (.reg [oM 8 0,oM 9 1,oI 10 2 8 9,oN 11 10 2,op 5 (.alloc taD_ 2 (.agg [.str [],.nils])),
⟨none,.store (.t 5) (.t 11) 2,none⟩]
[0,1,5])
(.seq (.reg [oM 13 0,oF 14 5 0,oL 15 14,op 16 (.call nsF_ [.t 13,.t 15]),oM 12 16,oE 17 12 0,oE 18 12 1,oM 6 17,oM 7 18]
[1,5,6])
(.seq (.block 0
(.seq (.reg [oF 20 5 0,oL 21 20,op 22 (.call nsN_ [.t 21]),oU 23 22,oM 19 23]
[1,5,6,19])
(.cond (.t 19)
(.seq (.reg [oC 4 11]
[4])
.ret)
(.seq (.reg [oM 25 6,oM 26 1,oB 27 .lss 25 26,oM 24 27]
[5,24])
(.cond (.t 24)
(.seq (.reg [oC 4 10]
[4])
.ret)
(.seq (.reg [oF 29 5 1,oL 30 29,oZ 31 30,oK 32 .gtr 31 8,oM 28 32]
[5,28])
(.cond (.t 28)
(.seq (.reg [oC 4 14]
[4])
.ret)
(.seq (.reg [oF 34 5 1,oL 35 34,op 36 (.call nsCii_ [.t 35,.f nso1_]),oM 33 36]
[33])
(.cond (.t 33)
(.seq (.reg [oC 4 8]
[4])
.ret)
.skip)))))))))
(.seq (.reg [oC 4 0]
[4])
.ret)))))⟩
theorem kso_:chkF Tryz.prog Tryz.f188 cso_=true:=by kernel_rfl
def csN_:AFun:=⟨14,1,[.t 2],
 (.seq (.reg [oV 2 false]
[0])
(.seq (.reg [oM 3 0,op 4 (.call nsS_ [.t 3]),oM 5 4,qM 6 0 5 true,oG 7 (.call nsW_ [.t 6]) 5 true,oG 8 (.un .not (.t 7)) 5 true,oA 9 5 8,oM 10 9,qM 11 0 10 true,oG 12 (.bin .neq (.t 11) (.k (.str [95]))) 10 true,oA 13 10 12,oM 2 13]
[2])
.ret))⟩
theorem ksN_:chkF Tryz.prog Tryz.f133 csN_=true:=by kernel_rfl
def csS_:AFun:=⟨25,1,[.t 2],
 (.seq (.reg [oV 2 false]
[0])
(.seq (.seq (.reg [oM 4 0,op 5 (.bin .eql (.t 4) (.k (.str []))),oM 6 5,qM 7 0 6 false,oG 8 (.len true (.t 7)) 6 false,qK 9 .gtr 8 32 6 false,oO 10 6 9,oM 11 10,qM 12 0 11 false,oG 13 (.idx (.t 12) (.k (.int .i64 0))) 11 false,oG 14 (.bin .geq (.t 13) (.k (.int .u8 48))) 11 false,qM 15 14 11 false,qM 16 0 15 true,oG 17 (.idx (.t 16) (.k (.int .i64 0))) 15 true,oG 18 (.bin .leq (.t 17) (.k (.int .u8 57))) 15 true,qA 19 15 18 11 false,oO 20 11 19]
[0,20])
(.cond (.t 20)
(.seq (.reg [oV 2 false]
[2])
.ret)
.skip))
(.seq (.reg [op 3 (.mov (.f nsS1_))]
[0,3])
(.seq (.reg [oM 21 0,oM 22 3,op 23 (.call nsI_ [.t 21,.t 22]),oK 24 .lss 23 0,oM 2 24]
[2])
.ret))))⟩
theorem ksS_:chkF Tryz.prog Tryz.f189 csS_=true:=by kernel_rfl
def csS1_:AFun:=⟨29,1,[.t 2],
 (.seq (.reg [oV 2 false]
[0])
(.seq (.reg [oM 3 0,op 4 (.bin .neq (.t 3) (.k (.int .i32 95))),oM 5 4,qM 6 0 5 true,oG 7 (.bin .lss (.t 6) (.k (.int .i32 48))) 5 true,qM 8 7 5 true,qM 9 0 8 false,oG 10 (.bin .gtr (.t 9) (.k (.int .i32 57))) 8 false,qO 11 8 10 5 true,oA 12 5 11,oM 13 12,qM 14 0 13 true,oG 15 (.bin .lss (.t 14) (.k (.int .i32 65))) 13 true,qM 16 15 13 true,qM 17 0 16 false,oG 18 (.bin .gtr (.t 17) (.k (.int .i32 90))) 16 false,qO 19 16 18 13 true,oA 20 13 19,oM 21 20,qM 22 0 21 true,oG 23 (.bin .lss (.t 22) (.k (.int .i32 97))) 21 true,qM 24 23 21 true,qM 25 0 24 false,oG 26 (.bin .gtr (.t 25) (.k (.int .i32 122))) 24 false,qO 27 24 26 21 true,oA 28 21 27,oM 2 28]
[2])
.ret))⟩
theorem ksS1_:chkF Tryz.prog Tryz.f240 csS1_=true:=by kernel_rfl
def csW_:AFun:=⟨10,1,[.t 2],
 (.seq (.reg [oV 2 false]
[0])
(.seq (.reg [oM 3 0,op 4 (.call nsS_ [.t 3]),oM 5 4,oG 6 (.slcG 22 (.g 1)) 5 true,qM 7 0 5 true,oG 8 (.call nsCss_ [.t 6,.t 7]) 5 true,oA 9 5 8,oM 2 9]
[2])
.ret))⟩
theorem ksW_:chkF Tryz.prog Tryz.f190 csW_=true:=by kernel_rfl
def csI_:AFun:=⟨8,2,[.t 4],
 (.seq (.reg [oC 4 0]
[0,1])
(.seq (.reg [oM 5 0,oM 6 1,op 7 (.call nsi_ [.t 5,.t 6,.k (.bool true)]),oM 4 7]
[4])
.ret))⟩
theorem ksI_:chkF Tryz.prog Tryz.f241 csI_=true:=by kernel_rfl
def csi_:AFun:=⟨21,3,[.t 6],
 (.seq (.reg [oC 6 0]
[0,1,2])
(.seq (.seq (.reg [oM 9 0,op 10 (.rng (.t 9))]
[1,2,10])
(.block 0
(.loop [1,2,10] [10,20,19,18,17,16,15,14,13,12,11,9,8]
 (.seq (.reg [op 11 (.nxt (.t 10)),oE 12 11 0]
[1,2,10,11,12])
(.seq (.cond (.t 12)
.skip
(.exit 0))
(.block 1
(.seq (.reg [oE 13 11 1,oE 14 11 2,oM 7 13,oM 8 14]
[1,2,7,8,10])
(.seq (.reg [oM 15 1,oM 16 8,op 17 (.callv (.t 15) [.t 16]),oM 18 2,op 19 (.eqB false (.t 17) (.t 18))]
[1,2,7,10,19])
(.cond (.t 19)
(.seq (.reg [oM 20 7,oM 6 20]
[6])
.ret)
.skip)))))))))
(.seq (.reg [op 6 (.mov (.k (.int .i64 (-1))))]
[6])
.ret)))⟩
theorem ksi_:chkF Tryz.prog Tryz.f265 csi_=true:=by kernel_rfl
def csCss_:AFun:=⟨9,2,[.t 4],
 (.seq (.reg [oV 4 false]
[0,1])
(.seq (.reg [oM 5 0,oM 6 1,op 7 (.call nsIss_ [.t 5,.t 6]),oK 8 .geq 7 0,oM 4 8]
[4])
.ret))⟩
theorem ksCss_:chkF Tryz.prog Tryz.f242 csCss_=true:=by kernel_rfl
def csIss_:AFun:=⟨19,2,[.t 4],
 (.seq (.reg [oC 4 0]
[0,1])
(.seq (.seq (.reg [oM 6 0,oZ 7 6,oC 8 0]
[0,1,7,8])
(.block 0
(.loop [0,1,7,8] [7,18,17,16,15,14,13,12,11,10,9,8]
 (.seq (.reg [oB 9 .lss 8 7]
[0,1,7,8,9])
(.seq (.cond (.t 9)
.skip
(.exit 0))
(.seq (.block 1
(.seq (.reg [oM 10 8,oM 5 10]
[0,1,5,7,8])
(.seq (.reg [oM 11 1,oM 12 0,oM 13 5,oI 14 1 12 13,oL 15 14,oB 16 .eql 11 15]
[0,1,5,7,8,16])
(.cond (.t 16)
(.seq (.reg [oM 17 5,oM 4 17]
[4])
.ret)
.skip))))
(.reg [oK 18 .add 8 1,oM 8 18]
[0,1,7,8])))))))
(.seq (.reg [op 4 (.mov (.k (.int .i64 (-1))))]
[4])
.ret)))⟩
theorem ksIss_:chkF Tryz.prog Tryz.f193 csIss_=true:=by kernel_rfl
def csCaTaT_:AFun:=⟨9,2,[.t 4],
 (.seq (.reg [oV 4 false]
[0,1])
(.seq (.reg [oM 5 0,oM 6 1,op 7 (.call nsIaTaT_ [.t 5,.t 6]),oK 8 .geq 7 0,oM 4 8]
[4])
.ret))⟩
theorem ksCaTaT_:chkF Tryz.prog Tryz.f167 csCaTaT_=true:=by kernel_rfl
def csIaTaT_:AFun:=⟨19,2,[.t 4],
 (.seq (.reg [oC 4 0]
[0,1])
(.seq (.seq (.reg [oM 6 0,oZ 7 6,oC 8 0]
[0,1,7,8])
(.block 0
(.loop [0,1,7,8] [7,18,17,16,15,14,13,12,11,10,9,8]
 (.seq (.reg [oB 9 .lss 8 7]
[0,1,7,8,9])
(.seq (.cond (.t 9)
.skip
(.exit 0))
(.seq (.block 1
(.seq (.reg [oM 10 8,oM 5 10]
[0,1,5,7,8])
(.seq (.reg [oM 11 1,oM 12 0,oM 13 5,oI 14 5 12 13,oN 15 14 5,op 16 (.callv (.t 11) [.t 15])]
[0,1,5,7,8,16])
(.cond (.t 16)
(.seq (.reg [oM 17 5,oM 4 17]
[4])
.ret)
.skip))))
(.reg [oK 18 .add 8 1,oM 8 18]
[0,1,7,8])))))))
(.seq (.reg [op 4 (.mov (.k (.int .i64 (-1))))]
[4])
.ret)))⟩
theorem ksIaTaT_:chkF Tryz.prog Tryz.f208 csIaTaT_=true:=by kernel_rfl
end Go.Proofs.YtkejmcgngblfnaaGreatDoor.Ab
