/-
  The functions' abstract code, by program (acgen.py), and that the model's code is it, reckoned by the kernel. No claim is proved here.
-/
import Derived.Test.YtjbcfpkibnhodaaGreatDoorQAcR0
namespace Go.Proofs.YtjbcfpkibnhodaaGreatDoor.Ab
open Go
def clgaD_:AFun:=⟨25,3,[.t 6],
 (.seq (.reg [op 6 (.nilrow tlO_ 2)]
[0,1,2])
(.seq (.reg [op 7 (.nilrow tlO_ 2)]
[0,1,2,7])
(.seq (.seq (.reg [oM 9 1,oZ 10 9,oC 11 0]
[0,2,7,10,11])
(.block 0
(.loop [0,2,7,10,11] [6,7,10,22]
 (.seq (.reg [oB 12 .lss 11 10]
[0,2,7,10,11,12])
(.seq (.cond (.t 12)
.skip
(.exit 0))
(.seq (.block 1
(.seq (.reg [oM 13 11,oM 8 13]
[0,2,7,8,10,11])
(.seq (.reg [oM 14 2,oM 15 8,op 16 (.callv (.t 14) [.t 15])]
[0,2,7,8,10,11,16])
(.cond (.t 16)
(.reg [oM 17 7,oM 18 0,oM 19 8,op 20 (.build [.int .i64 0,.int .i64 0] [(0,1,.t 18),(1,1,.t 19)]),op 21 (.mkrow tlO_ 2 1 (.agg [.int .i64 0,.int .i64 0]) [(0,.t 20)]),op 22 (.app tlO_ 2 16 (.t 17) (.t 21)),oM 7 22]
[0,2,7,10,11])
.skip))))
(.reg [oK 23 .add 11 1,oM 11 23]
[0,2,7,10,11])))))))
(.seq (.reg [oM 24 7,oM 6 24]
[6])
.ret))))⟩
theorem klgaD_:chkF Tryz.prog Tryz.f97 clgaD_=true:=by kernel_rfl
def clgaF_:AFun:=⟨25,3,[.t 6],
 (.seq (.reg [op 6 (.nilrow tlO_ 2)]
[0,1,2])
(.seq (.reg [op 7 (.nilrow tlO_ 2)]
[0,1,2,7])
(.seq (.seq (.reg [oM 9 1,oZ 10 9,oC 11 0]
[0,2,7,10,11])
(.block 0
(.loop [0,2,7,10,11] [6,7,10,22]
 (.seq (.reg [oB 12 .lss 11 10]
[0,2,7,10,11,12])
(.seq (.cond (.t 12)
.skip
(.exit 0))
(.seq (.block 1
(.seq (.reg [oM 13 11,oM 8 13]
[0,2,7,8,10,11])
(.seq (.reg [oM 14 2,oM 15 8,op 16 (.callv (.t 14) [.t 15])]
[0,2,7,8,10,11,16])
(.cond (.t 16)
(.reg [oM 17 7,oM 18 0,oM 19 8,op 20 (.build [.int .i64 0,.int .i64 0] [(0,1,.t 18),(1,1,.t 19)]),op 21 (.mkrow tlO_ 2 1 (.agg [.int .i64 0,.int .i64 0]) [(0,.t 20)]),op 22 (.app tlO_ 2 16 (.t 17) (.t 21)),oM 7 22]
[0,2,7,10,11])
.skip))))
(.reg [oK 23 .add 11 1,oM 11 23]
[0,2,7,10,11])))))))
(.seq (.reg [oM 24 7,oM 6 24]
[6])
.ret))))⟩
theorem klgaF_:chkF Tryz.prog Tryz.f89 clgaF_=true:=by kernel_rfl
def clgaS_:AFun:=⟨25,3,[.t 6],
 (.seq (.reg [op 6 (.nilrow tlO_ 2)]
[0,1,2])
(.seq (.reg [op 7 (.nilrow tlO_ 2)]
[0,1,2,7])
(.seq (.seq (.reg [oM 9 1,oZ 10 9,oC 11 0]
[0,2,7,10,11])
(.block 0
(.loop [0,2,7,10,11] [6,7,10,22]
 (.seq (.reg [oB 12 .lss 11 10]
[0,2,7,10,11,12])
(.seq (.cond (.t 12)
.skip
(.exit 0))
(.seq (.block 1
(.seq (.reg [oM 13 11,oM 8 13]
[0,2,7,8,10,11])
(.seq (.reg [oM 14 2,oM 15 8,op 16 (.callv (.t 14) [.t 15])]
[0,2,7,8,10,11,16])
(.cond (.t 16)
(.reg [oM 17 7,oM 18 0,oM 19 8,op 20 (.build [.int .i64 0,.int .i64 0] [(0,1,.t 18),(1,1,.t 19)]),op 21 (.mkrow tlO_ 2 1 (.agg [.int .i64 0,.int .i64 0]) [(0,.t 20)]),op 22 (.app tlO_ 2 16 (.t 17) (.t 21)),oM 7 22]
[0,2,7,10,11])
.skip))))
(.reg [oK 23 .add 11 1,oM 11 23]
[0,2,7,10,11])))))))
(.seq (.reg [oM 24 7,oM 6 24]
[6])
.ret))))⟩
theorem klgaS_:chkF Tryz.prog Tryz.f84 clgaS_=true:=by kernel_rfl
def clgaT_:AFun:=⟨25,3,[.t 6],
 (.seq (.reg [op 6 (.nilrow tlO_ 2)]
[0,1,2])
(.seq (.reg [op 7 (.nilrow tlO_ 2)]
[0,1,2,7])
(.seq (.seq (.reg [oM 9 1,oZ 10 9,oC 11 0]
[0,2,7,10,11])
(.block 0
(.loop [0,2,7,10,11] [6,7,10,22]
 (.seq (.reg [oB 12 .lss 11 10]
[0,2,7,10,11,12])
(.seq (.cond (.t 12)
.skip
(.exit 0))
(.seq (.block 1
(.seq (.reg [oM 13 11,oM 8 13]
[0,2,7,8,10,11])
(.seq (.reg [oM 14 2,oM 15 8,op 16 (.callv (.t 14) [.t 15])]
[0,2,7,8,10,11,16])
(.cond (.t 16)
(.reg [oM 17 7,oM 18 0,oM 19 8,op 20 (.build [.int .i64 0,.int .i64 0] [(0,1,.t 18),(1,1,.t 19)]),op 21 (.mkrow tlO_ 2 1 (.agg [.int .i64 0,.int .i64 0]) [(0,.t 20)]),op 22 (.app tlO_ 2 16 (.t 17) (.t 21)),oM 7 22]
[0,2,7,10,11])
.skip))))
(.reg [oK 23 .add 11 1,oM 11 23]
[0,2,7,10,11])))))))
(.seq (.reg [oM 24 7,oM 6 24]
[6])
.ret))))⟩
theorem klgaT_:chkF Tryz.prog Tryz.f94 clgaT_=true:=by kernel_rfl
def cl10:AFun:=⟨92,2,[.t 4],
 (.seq (.reg [op 2 (.box taQ_ 9 (.t 0)),op 3 (.box tlO_ 2 (.t 1)),op 4 (.mov (.k (.str [])))]
[2,3])
(.seq (.block 0
(.seq (.reg [oF 6 3 1,oL 7 6,oK 8 .lss 7 0,oM 5 8]
[2,3,5])
(.cond (.t 5)
.skip
(.seq (.reg [oF 10 3 0,oL 11 10,oK 12 .eql 11 1,oM 13 12,qF 14 3 0 13 false,qL 15 14 13 false,qK 16 .eql 15 2 13 false,oO 17 13 16,oM 18 17,qF 19 3 1 18 true,qL 20 19 18 true,qF 21 2 4 18 true,qL 22 21 18 true,oG 23 (.len false (.t 22)) 18 true,qB 24 .lss 20 23 18 true,oA 25 18 24,oM 9 25]
[2,3,9])
(.cond (.t 9)
(.seq (.reg [oF 26 2 4,oL 27 26,oF 28 3 1,oL 29 28,oI 30 3 27 29,oF 31 30 0,oL 32 31,oM 4 32]
[4])
.ret)
(.seq (.reg [oF 34 3 0,oL 35 34,oK 36 .eql 35 3,oM 37 36,qF 38 3 0 37 false,qL 39 38 37 false,qK 40 .eql 39 4 37 false,oO 41 37 40,oM 42 41,qF 43 3 1 42 true,qL 44 43 42 true,qF 45 2 3 42 true,qL 46 45 42 true,oG 47 (.len false (.t 46)) 42 true,qB 48 .lss 44 47 42 true,oA 49 42 48,oM 33 49]
[2,3,33])
(.cond (.t 33)
(.seq (.reg [oF 50 2 3,oL 51 50,oF 52 3 1,oL 53 52,oI 54 5 51 53,oF 55 54 0,oL 56 55,oM 4 56]
[4])
.ret)
(.seq (.reg [oF 58 3 0,oL 59 58,oK 60 .eql 59 5,oM 61 60,qF 62 3 1 61 true,qL 63 62 61 true,qF 64 2 8 61 true,qL 65 64 61 true,oG 66 (.len false (.t 65)) 61 true,qB 67 .lss 63 66 61 true,oA 68 61 67,oM 57 68]
[2,3,57])
(.cond (.t 57)
(.seq (.reg [oF 69 3 1,oL 70 69,oK 71 .add 70 1,op 72 (.call nnT_ [.t 71]),oM 4 72]
[4])
.ret)
(.seq (.reg [oF 74 3 0,oL 75 74,oK 76 .eql 75 6,oM 77 76,qF 78 3 1 77 true,qL 79 78 77 true,qF 80 2 1 77 true,qL 81 80 77 true,oG 82 (.len false (.t 81)) 77 true,qB 83 .lss 79 82 77 true,oA 84 77 83,oM 73 84]
[2,3,73])
(.cond (.t 73)
(.seq (.reg [oF 85 2 1,oL 86 85,oF 87 3 1,oL 88 87,oI 89 2 86 88,oF 90 89 0,oL 91 90,oM 4 91]
[4])
.ret)
.skip)))))))))))
(.seq (.reg [op 4 (.mov (.k (.str [])))]
[4])
.ret)))⟩
abbrev pl10:=@pcR nl11 Tryz.f109 cl10 Tryz.func109 (by kernel_rfl)
def cln_:AFun:=⟨54,2,[.t 4],
 (.seq (.reg [op 2 (.box taQ_ 9 (.t 0)),op 3 (.box taT_ 5 (.t 1)),oV 4 false]
[2,3])
(.seq (.seq (.reg [oF 11 3 3,oL 12 11,oK 13 .lss 12 0]
[2,3,13])
(.cond (.t 13)
(.seq (.reg [oV 4 false]
[4])
.ret)
.skip))
(.seq (.dreg [oF 14 2 7,oL 15 14,oN 16 2 9,oF 17 3 3,oL 18 17,op 19 (.call nlf_ [.t 16,.t 18]),oF 20 3 3,oL 21 20,oK 22 .add 21 1,op 23 (.slc 7 (.t 15) (some (.t 19)) (some (.t 22))),oM 5 23]
[2,3,5])
(.seq (.seq (.reg [oM 24 5,op 25 (.call nsCaNaN_ [.t 24,.f nln1_])]
[2,3,25])
(.cond (.t 25)
(.seq (.reg [oV 4 false]
[4])
.ret)
.skip))
(.seq (.reg [op 6 (.nilrow taV_ 4)]
[2,3,6])
(.seq (.seq (.reg [oF 26 2 3,oL 27 26,oZ 28 27,oC 29 0]
[2,3,6,27,28,29])
(.block 0
(.loop [2,3,6,27,28,29] [2,3,19,25,6,28,37]
 (.seq (.reg [oB 30 .lss 29 28]
[2,3,6,27,28,29,30])
(.seq (.cond (.t 30)
.skip
(.exit 0))
(.seq (.block 1
(.seq (.reg [oI 31 5 27 29,oN 32 31 5,op 8 (.alloc taF_ 5 (.agg [.str [],.int .i64 0,.int .i64 0,.str [],.bool false])),
⟨none,.store (.t 8) (.t 32) 5,none⟩]
[2,3,6,8,27,28,29])
(.reg [oM 33 6,oF 34 8 1,oN 35 34 4,op 36 (.mkrow taV_ 4 1 (.agg [.int .i64 0,.int .i64 0,.str [],.bool false]) [(0,.t 35)]),op 37 (.app taV_ 4 40 (.t 33) (.t 36)),oM 6 37]
[2,3,6,27,28,29])))
(.reg [oK 38 .add 29 1,oM 29 38]
[2,3,6,27,28,29])))))))
(.seq (.reg [oN 40 2 9,oF 41 3 3,oL 42 41,oM 43 6,op 44 (.call neV_ [.t 40,.t 42,.k (.nils),.t 43]),oM 39 44,oE 45 39 0,oE 46 39 1,op 9 (.alloc taV_ 4 (.agg [.int .i64 0,.int .i64 0,.str [],.bool false])),
⟨none,.store (.t 9) (.t 45) 4,none⟩,oM 10 46]
[9,10])
(.seq (.reg [oM 47 10,oK 48 .neq 47 0,oM 49 48,qF 50 9 3 49 false,qL 51 50 49 false,oG 52 (.un .not (.t 51)) 49 false,oO 53 49 52,oM 4 53]
[4])
.ret))))))))⟩
abbrev pln_:=@pcR nln_ Tryz.f96 cln_ Tryz.func96 (by kernel_rfl)
def cln1_:AFun:=⟨11,1,[.t 2],
 (.seq (.reg [op 1 (.box taN_ 7 (.t 0)),oV 2 false]
[1])
(.seq (.reg [oF 3 1 0,oL 4 3,oK 5 .eql 4 2,oM 6 5,qF 7 1 0 6 false,qL 8 7 6 false,qK 9 .eql 8 3 6 false,oO 10 6 9,oM 2 10]
[2])
.ret))⟩
abbrev pln1_:=@pcR nln1_ Tryz.f159 cln1_ Tryz.func159 (by kernel_rfl)
def clr_:AFun:=⟨44,1,[.t 2],
 (.seq (.reg [op 1 (.box taQ_ 9 (.t 0)),op 2 (.nilrow ti_ 1)]
[1])
(.seq (.reg [oF 7 1 5,oL 8 7,op 9 (.mkrow ti_ 1 1 (.int .i64 0) [(0,.t 8)]),oM 3 9]
[1,3])
(.seq (.seq (.reg [oC 4 0]
[1,3,4])
(.block 0
(.loop [1,3,4] [1,2,9,41]
 (.seq (.seq (.reg [oM 10 4,oM 11 3,oZ 12 11,oB 13 .lss 10 12]
[1,3,4,13])
(.cond (.t 13)
.skip
(.exit 0)))
(.seq (.block 1
(.seq (.reg [oF 16 1 8,oL 17 16,oZ 18 17,oC 19 0]
[1,3,4,17,18,19])
(.block 2
(.loop [1,3,4,17,18,19] [1,2,9,12,18,41]
 (.seq (.reg [oB 20 .lss 19 18]
[1,3,4,17,18,19,20])
(.seq (.cond (.t 20)
.skip
(.exit 2))
(.seq (.block 3
(.seq (.reg [oI 21 5 17 19,oN 22 21 5,op 6 (.alloc taT_ 5 (.agg [.int .i64 0,.int .i64 0,.int .i64 0,.int .i64 0,.nils])),
⟨none,.store (.t 6) (.t 22) 5,none⟩]
[1,3,4,6,17,18,19])
(.seq (.dreg [oF 23 6 0,oL 24 23,oM 25 3,oM 26 4,oI 27 1 25 26,oL 28 27,oB 29 .eql 24 28,oM 30 29,qM 31 3 30 true,qF 32 6 2 30 true,qL 33 32 30 true,oG 34 (.call nsCii_ [.t 31,.t 33]) 30 true,oG 35 (.un .not (.t 34)) 30 true,oA 36 30 35]
[1,3,4,6,17,18,19,36])
(.cond (.t 36)
(.reg [oM 37 3,oF 38 6 2,oL 39 38,op 40 (.mkrow ti_ 1 1 (.int .i64 0) [(0,.t 39)]),op 41 (.app ti_ 1 8 (.t 37) (.t 40)),oM 3 41]
[1,3,4,17,18,19])
.skip))))
(.reg [oK 42 .add 19 1,oM 19 42]
[1,3,4,17,18,19]))))))))
(.reg [oM 14 4,oK 15 .add 14 1,oM 4 15]
[1,3,4]))))))
(.seq (.reg [oM 43 3,oM 2 43]
[2])
.ret))))⟩
abbrev plr_:=@pcR nlr_ Tryz.f82 clr_ Tryz.func82 (by kernel_rfl)
def cnA_:AFun:=⟨17,2,[.t 4,.t 5],
 (.seq (.reg [oC 4 0,oC 5 0]
[0,1])
(.seq (.seq (.reg [oM 7 0,oM 8 1,oB 9 .add 7 8,oM 6 9]
[0,1,6])
(.seq (.reg [oM 10 6,oM 11 0,oB 12 .lss 10 11,oM 13 1,oK 14 .lss 13 0,op 15 (.eqB false (.t 12) (.t 14))]
[6,15])
(.cond (.t 15)
(.seq (.reg [oM 16 6,oM 4 16,oC 5 0]
[4,5])
.ret)
.skip)))
(.seq (.reg [oC 4 0,oC 5 6]
[4,5])
.ret)))⟩
abbrev pnA_:=@pcR nnA_ Tryz.f306 cnA_ Tryz.func306 (by kernel_rfl)
def cnD_:AFun:=⟨19,2,[.t 4,.t 5],
 (.seq (.reg [oC 4 0,oC 5 0]
[0,1])
(.seq (.block 0
(.seq (.reg [oM 7 1,oK 8 .eql 7 0,oM 6 8]
[0,1,6])
(.cond (.t 6)
(.seq (.reg [oC 4 0,oC 5 7]
[4,5])
.ret)
(.seq (.reg [oM 10 1,op 11 (.bin .eql (.t 10) (.k (.int .i64 (-1)))),oM 9 11]
[0,1,9])
(.cond (.t 9)
(.seq (.reg [oM 12 0,op 13 (.call nnN_ [.t 12]),oE 14 13 0,oE 15 13 1,oM 4 14,oM 5 15]
[4,5])
.ret)
.skip)))))
(.seq (.reg [oM 16 0,oM 17 1,oB 18 .quo 16 17,oM 4 18,oC 5 0]
[4,5])
.ret)))⟩
abbrev pnD_:=@pcR nnD_ Tryz.f308 cnD_ Tryz.func308 (by kernel_rfl)
def cn10:AFun:=⟨15,2,[.t 4,.t 5],
 (.seq (.reg [oC 4 0,oC 5 0]
[0,1])
(.seq (.block 0
(.seq (.reg [oM 7 1,oK 8 .eql 7 0,oM 6 8]
[0,1,6])
(.cond (.t 6)
(.seq (.reg [oC 4 0,oC 5 7]
[4,5])
.ret)
(.seq (.reg [oM 10 1,op 11 (.bin .eql (.t 10) (.k (.int .i64 (-1)))),oM 9 11]
[0,1,9])
(.cond (.t 9)
(.seq (.reg [oC 4 0,oC 5 0]
[4,5])
.ret)
.skip)))))
(.seq (.reg [oM 12 0,oM 13 1,oB 14 .rem 12 13,oM 4 14,oC 5 0]
[4,5])
.ret)))⟩
abbrev pn10:=@pcR nn10 Tryz.f309 cn10 Tryz.func309 (by kernel_rfl)
def cnM_:AFun:=⟨42,2,[.t 4,.t 5],
 (.seq (.reg [oC 4 0,oC 5 0]
[0,1])
(.seq (.reg [oM 10 0,op 11 (.call nns_ [.t 10]),oM 12 1,op 13 (.call nns_ [.t 12]),op 14 (.call nmbM_ [.t 11,.t 13]),oM 9 14,oE 15 9 0,oE 16 9 1,oM 6 15,oM 7 16]
[0,1,6,7])
(.seq (.reg [oM 17 0,oK 18 .lss 17 0,oM 19 1,oK 20 .lss 19 0,op 21 (.eqB true (.t 18) (.t 20)),oM 8 21]
[6,7,8])
(.seq (.block 0
(.seq (.reg [oM 23 6,op 24 (.bin .gtr (.t 23) (.k (.int .u64 0))),oM 22 24]
[7,8,22])
(.cond (.t 22)
(.seq (.reg [oC 4 0,oC 5 6]
[4,5])
.ret)
(.seq (.reg [oM 26 8,oM 27 26,qM 28 7 27 true,oG 29 (.bin .leq (.t 28) (.k (.int .u64 9223372036854775808))) 27 true,oA 30 27 29,oM 25 30]
[7,8,25])
(.cond (.t 25)
(.seq (.reg [oM 31 7,op 32 (.conv .i64 (.t 31)),op 33 (.un .neg (.t 32)),oM 4 33,oC 5 0]
[4,5])
.ret)
(.seq (.reg [oM 35 8,oM 36 35,qM 37 7 36 false,oG 38 (.bin .gtr (.t 37) (.k (.int .u64 9223372036854775807))) 36 false,oO 39 36 38,oM 34 39]
[7,34])
(.cond (.t 34)
(.seq (.reg [oC 4 0,oC 5 6]
[4,5])
.ret)
.skip)))))))
(.seq (.reg [oM 40 7,op 41 (.conv .i64 (.t 40)),oM 4 41,oC 5 0]
[4,5])
.ret)))))⟩
abbrev pnM_:=@pcR nnM_ Tryz.f307 cnM_ Tryz.func307 (by kernel_rfl)
def cnN_:AFun:=⟨8,1,[.t 2,.t 3],
 (.seq (.reg [oC 2 0,oC 3 0]
[0])
(.seq (.reg [oM 4 0,op 5 (.call nnS_ [.k (.int .i64 0),.t 4]),oE 6 5 0,oE 7 5 1,oM 2 6,oM 3 7]
[2,3])
.ret))⟩
abbrev pnN_:=@pcR nnN_ Tryz.f312 cnN_ Tryz.func312 (by kernel_rfl)
def cnO_:AFun:=⟨47,3,[.t 6,.t 7],
 (.seq (.reg [oC 6 0,oC 7 0]
[0,1,2])
(.seq (.seq (.reg [oM 8 0]
[1,2,8])
(.block 0
(.seq (.block 6
(.seq (.block 5
(.seq (.block 4
(.seq (.block 3
(.seq (.block 2
(.seq (.block 1
(.seq (.seq (.seq (.reg [oK 10 .eql 8 5,oM 9 10]
[1,2,8,9])
(.cond (.t 9)
(.exit 1)
.skip))
(.seq (.seq (.reg [oK 12 .eql 8 9,oM 11 12]
[1,2,8,11])
(.cond (.t 11)
(.exit 2)
.skip))
(.seq (.seq (.reg [oK 14 .eql 8 8,oM 13 14]
[1,2,8,13])
(.cond (.t 13)
(.exit 3)
.skip))
(.seq (.seq (.reg [oK 16 .eql 8 10,oM 15 16]
[1,2,8,15])
(.cond (.t 15)
(.exit 4)
.skip))
(.seq (.seq (.reg [oK 18 .eql 8 11,oM 17 18]
[1,2,8,17])
(.cond (.t 17)
(.exit 5)
.skip))
(.seq (.reg [oK 20 .eql 8 12,oM 19 20]
[1,2,19])
(.cond (.t 19)
(.exit 6)
.skip)))))))
(.exit 0)))
(.reg [oM 21 1,oC 1 0,oM 2 21]
[1,2])))
(.seq (.seq (.reg [oM 22 1,oM 23 2,op 24 (.call nnS_ [.t 22,.t 23]),oE 25 24 0,oE 26 24 1,oM 6 25,oM 7 26]
[6,7])
.ret)
(.exit 0))))
(.seq (.seq (.reg [oM 27 1,oM 28 2,op 29 (.call nnA_ [.t 27,.t 28]),oE 30 29 0,oE 31 29 1,oM 6 30,oM 7 31]
[6,7])
.ret)
(.exit 0))))
(.seq (.seq (.reg [oM 32 1,oM 33 2,op 34 (.call nnM_ [.t 32,.t 33]),oE 35 34 0,oE 36 34 1,oM 6 35,oM 7 36]
[6,7])
.ret)
(.exit 0))))
(.seq (.seq (.reg [oM 37 1,oM 38 2,op 39 (.call nnD_ [.t 37,.t 38]),oE 40 39 0,oE 41 39 1,oM 6 40,oM 7 41]
[6,7])
.ret)
(.exit 0))))
(.seq (.seq (.reg [oM 42 1,oM 43 2,op 44 (.call nn10 [.t 42,.t 43]),oE 45 44 0,oE 46 44 1,oM 6 45,oM 7 46]
[6,7])
.ret)
(.exit 0)))))
(.seq (.reg [oC 6 0,oC 7 1]
[6,7])
.ret)))⟩
abbrev pnO_:=@pcR nnO_ Tryz.f300 cnO_ Tryz.func300 (by kernel_rfl)
def cnS_:AFun:=⟨17,2,[.t 4,.t 5],
 (.seq (.reg [oC 4 0,oC 5 0]
[0,1])
(.seq (.seq (.reg [oM 7 0,oM 8 1,oB 9 .sub 7 8,oM 6 9]
[0,1,6])
(.seq (.reg [oM 10 6,oM 11 0,oB 12 .gtr 10 11,oM 13 1,oK 14 .lss 13 0,op 15 (.eqB false (.t 12) (.t 14))]
[6,15])
(.cond (.t 15)
(.seq (.reg [oM 16 6,oM 4 16,oC 5 0]
[4,5])
.ret)
.skip)))
(.seq (.reg [oC 4 0,oC 5 6]
[4,5])
.ret)))⟩
abbrev pnS_:=@pcR nnS_ Tryz.f305 cnS_ Tryz.func305 (by kernel_rfl)
def cnT_:AFun:=⟨5,1,[.t 2],
 (.seq (.reg [op 2 (.mov (.k (.str [])))]
[0])
(.seq (.reg [oM 3 0,op 4 (.call nsF_ [.t 3,.k (.int .i64 10)]),oM 2 4]
[2])
.ret))⟩
abbrev pnT_:=@pcR nnT_ Tryz.f121 cnT_ Tryz.func121 (by kernel_rfl)
def cns_:AFun:=⟨10,1,[.t 2],
 (.seq (.reg [op 2 (.mov (.k (.int .u64 0)))]
[0])
(.seq (.seq (.reg [oM 3 0,oK 4 .lss 3 0]
[0,4])
(.cond (.t 4)
(.seq (.reg [oM 5 0,op 6 (.conv .u64 (.t 5)),op 7 (.un .neg (.t 6)),oM 2 7]
[2])
.ret)
.skip))
(.seq (.reg [oM 8 0,op 9 (.conv .u64 (.t 8)),oM 2 9]
[2])
.ret)))⟩
abbrev pns_:=@pcR nns_ Tryz.f311 cns_ Tryz.func311 (by kernel_rfl)
def cp12:AFun:=⟨102,3,[.t 6],
 (.seq (.reg [op 3 (.box taQ_ 9 (.t 0)),oV 6 false]
[1,2,3])
(.seq (.seq (.reg [oN 11 3 9,op 12 (.call np28 [.t 11]),oK 13 .eql 12 0]
[1,2,3,13])
(.cond (.t 13)
(.seq (.reg [op 14 (.call np10 []),oM 6 14]
[6])
.ret)
.skip))
(.seq (.reg [oN 15 3 9,op 16 (.call nlA_ [.t 15]),oM 7 16]
[1,2,3,7])
(.seq (.seq (.reg [oN 17 3 9,op 18 (.call np22 [.t 17]),oU 19 18]
[1,2,3,7,19])
(.cond (.t 19)
(.seq (.reg [oM 20 7,oZ 21 20,oK 22 .eql 21 0,oM 23 22,qN 24 3 9 23 true,oG 25 (.call nlT_ [.t 24]) 23 true,oG 26 (.bin .eql (.t 25) (.k (.str []))) 23 true,oA 27 23 26,oM 28 27,oG 29 (.call np10 []) 28 true,oA 30 28 29,oM 6 30]
[6])
.ret)
.skip))
(.seq (.reg [oN 31 3 9,op 32 (.call np26 [.t 31]),oM 8 32]
[1,2,3,7,8])
(.seq (.seq (.dreg [oM 33 7,oZ 34 33,oM 35 8,oZ 36 35,oB 37 .neq 34 36,oM 38 37,qN 39 3 9 38 false,qM 40 1 38 false,qM 41 2 38 false,oG 42 (.build [.int .i64 0,.int .i64 0] [(0,1,.t 40),(1,1,.t 41)]) 38 false,oG 43 (.call nl10 [.t 39,.t 42]) 38 false,qN 44 3 9 38 false,qM 45 1 38 false,qM 46 2 38 false,oG 47 (.call np16 [.t 44,.t 45,.t 46]) 38 false,qB 48 .neq 43 47 38 false,oO 49 38 48]
[3,7,8,49])
(.cond (.t 49)
(.seq (.reg [oV 6 false]
[6])
.ret)
.skip))
(.seq (.reg [op 9 (.mov (.k (.str [])))]
[3,7,8,9])
(.seq (.seq (.reg [oC 10 0]
[3,7,8,9,10])
(.block 0
(.loop [3,7,8,9,10] [3,12,14,16,18,21,25,29,32,34,36,43,47]
 (.seq (.seq (.reg [oM 50 10,oM 51 7,oZ 52 51,oB 53 .lss 50 52]
[3,7,8,9,10,53])
(.cond (.t 53)
.skip
(.exit 0)))
(.seq (.block 1
(.seq (.seq (.dreg [oM 56 7,oM 57 10,oI 58 2 56 57,oF 59 58 0,oL 60 59,oM 61 8,oM 62 10,oI 63 2 61 62,oF 64 63 0,oL 65 64,oB 66 .neq 60 65,oM 67 66,qM 68 7 67 false,qM 69 10 67 false,qI 70 2 68 69 67 false,qF 71 70 1 67 false,qL 72 71 67 false,qM 73 8 67 false,qM 74 10 67 false,qI 75 2 73 74 67 false,qF 76 75 1 67 false,qL 77 76 67 false,qB 78 .neq 72 77 67 false,oO 79 67 78]
[3,7,8,9,10,79])
(.cond (.t 79)
(.seq (.reg [oV 6 false]
[6])
.ret)
.skip))
(.dreg [oM 80 9,oN 81 3 9,oM 82 7,oM 83 10,oI 84 2 82 83,oF 85 84 0,oL 86 85,oM 87 7,oM 88 10,oI 89 2 87 88,oF 90 89 1,oL 91 90,op 92 (.call np16 [.t 81,.t 86,.t 91]),oB 93 .add 80 92,op 94 (.bin .add (.t 93) (.k (.str [10]))),oM 9 94]
[3,7,8,9,10])))
(.reg [oM 54 10,oK 55 .add 54 1,oM 10 55]
[3,7,8,9,10]))))))
(.seq (.reg [oN 95 3 9,op 96 (.call nlT_ [.t 95]),oM 97 9,oB 98 .eql 96 97,oM 99 98,oG 100 (.call np10 []) 99 true,oA 101 99 100,oM 6 101]
[6])
.ret)))))))))⟩
abbrev pp11:=@pcR np29 Tryz.f6 cp12 Tryz.func6 (by kernel_rfl)
def cpa_:AFun:=⟨8,0,[.t 0],
 (.seq (.reg [oV 0 false]
[])
(.seq (.reg [op 1 (.build [.str [],.bool false,.bool false] [(0,1,.k (.str [115]))]),op 2 (.mkrow ta12 3 1 (.agg [.str [],.bool false,.bool false]) [(0,.t 1)]),op 3 (.build [.str [],.nils,.nils,.nils,.nils,.int .i64 0,.nils,.nils,.nils] [(0,1,.k (.str [113])),(4,1,.t 2)]),op 4 (.call nlT_ [.t 3]),op 5 (.bin .eql (.t 4) (.k (.str [100,101,97,100,32,115,10]))),oM 6 5,op 7 (.pick (.t 6) (.k (.bool true)) (.k (.bool false))),oM 0 7]
[0])
.ret))⟩
theorem kpa_:chkF Tryz.prog Tryz.f46 cpa_=true:=by kernel_rfl
theorem pp20 {G:Nat→Option AV} {args:List AV} {r:AV} (h:∀c,c=cpa_→Runs Tryz.prog G c args r) (hk:args.length=cpa_.k:=by rfl):P_ Tryz.prog G np10 args r:=by
 generalize hc:cpa_=c at*
 have k:=kpa_
 rw[hc] at k
 generalize hf:Tryz.f46=f at*
 have h:=h _ rfl
 exact P_.of_runs (fn:=f) (A:=c) (hf ▸ Tryz.func46) k hk h
def cp25:AFun:=⟨102,3,[.t 6],
 (.seq (.reg [op 3 (.box taQ_ 9 (.t 0)),op 6 (.mov (.k (.str [])))]
[1,2,3])
(.seq (.seq (.reg [oM 7 2,oK 8 .lss 7 0]
[1,2,3,8])
(.cond (.t 8)
(.seq (.reg [op 6 (.mov (.k (.str [])))]
[6])
.ret)
.skip))
(.seq (.seq (.reg [oM 9 1,oK 10 .eql 9 1,oM 11 10,qM 12 2 11 true,qF 13 3 4 11 true,qL 14 13 11 true,oG 15 (.len false (.t 14)) 11 true,qB 16 .lss 12 15 11 true,oA 17 11 16]
[1,2,3,17])
(.cond (.t 17)
(.seq (.reg [oF 18 3 4,oL 19 18,oM 20 2,oI 21 3 19 20,oF 22 21 0,oL 23 22,op 24 (.bin .add (.k (.str [117,110,114,101,97,99,104,101,100,32])) (.t 23)),oM 6 24]
[6])
.ret)
.skip))
(.seq (.seq (.reg [oM 25 1,oK 26 .eql 25 2,oM 27 26,qM 28 2 27 true,qF 29 3 4 27 true,qL 30 29 27 true,oG 31 (.len false (.t 30)) 27 true,qB 32 .lss 28 31 27 true,oA 33 27 32]
[1,2,3,33])
(.cond (.t 33)
(.seq (.reg [oF 34 3 4,oL 35 34,oM 36 2,oI 37 3 35 36,oF 38 37 0,oL 39 38,op 40 (.bin .add (.k (.str [100,101,97,100,32])) (.t 39)),oM 6 40]
[6])
.ret)
.skip))
(.seq (.seq (.reg [oM 41 1,oK 42 .eql 41 3,oM 43 42,qM 44 2 43 true,qF 45 3 3 43 true,qL 46 45 43 true,oG 47 (.len false (.t 46)) 43 true,qB 48 .lss 44 47 43 true,oA 49 43 48]
[1,2,3,49])
(.cond (.t 49)
(.seq (.reg [oF 50 3 3,oL 51 50,oM 52 2,oI 53 5 51 52,oF 54 53 0,oL 55 54,op 56 (.bin .add (.k (.str [117,110,114,101,97,100,32])) (.t 55)),oM 6 56]
[6])
.ret)
.skip))
(.seq (.seq (.reg [oM 57 1,oK 58 .eql 57 4,oM 59 58,qM 60 2 59 true,qF 61 3 3 59 true,qL 62 61 59 true,oG 63 (.len false (.t 62)) 59 true,qB 64 .lss 60 63 59 true,oA 65 59 64]
[1,2,3,65])
(.cond (.t 65)
(.seq (.reg [oF 66 3 3,oL 67 66,oM 68 2,oI 69 5 67 68,oF 70 69 0,oL 71 70,op 72 (.bin .add (.k (.str [117,110,99,104,97,110,103,101,100,32])) (.t 71)),oM 6 72]
[6])
.ret)
.skip))
(.seq (.seq (.reg [oM 73 1,oK 74 .eql 73 5,oM 75 74,qM 76 2 75 true,qF 77 3 8 75 true,qL 78 77 75 true,oG 79 (.len false (.t 78)) 75 true,qB 80 .lss 76 79 75 true,oA 81 75 80]
[1,2,3,81])
(.cond (.t 81)
(.seq (.reg [oM 82 2,oK 83 .add 82 1,op 84 (.call npT_ [.t 83]),op 85 (.bin .add (.k (.str [110,101,118,101,114,32])) (.t 84)),oM 6 85]
[6])
.ret)
.skip))
(.seq (.seq (.reg [oM 86 1,oK 87 .eql 86 6,oM 88 87,qM 89 2 88 true,qF 90 3 1 88 true,qL 91 90 88 true,oG 92 (.len false (.t 91)) 88 true,qB 93 .lss 89 92 88 true,oA 94 88 93]
[2,3,94])
(.cond (.t 94)
(.seq (.reg [oF 95 3 1,oL 96 95,oM 97 2,oI 98 2 96 97,oF 99 98 0,oL 100 99,op 101 (.bin .add (.k (.str [117,110,117,115,101,100,32])) (.t 100)),oM 6 101]
[6])
.ret)
.skip))
(.seq (.reg [op 6 (.mov (.k (.str [])))]
[6])
.ret)))))))))⟩
abbrev pp25:=@pcR np16 Tryz.f51 cp25 Tryz.func51 (by kernel_rfl)
def cpA_:AFun:=⟨27,2,[.t 4,.t 5],
 (.seq (.reg [oC 4 0,oV 5 false]
[0,1])
(.seq (.seq (.reg [oM 6 1,oK 7 .gtr 6 0,oM 8 7,qM 9 0 8 true,qM 10 1 8 true,oG 11 (.bin .sub (.k (.int .i64 9223372036854775807)) (.t 10)) 8 true,qB 12 .gtr 9 11 8 true,oA 13 8 12,oM 14 13,qM 15 1 14 false,qK 16 .lss 15 0 14 false,qM 17 16 14 false,qM 18 0 17 true,qM 19 1 17 true,oG 20 (.bin .sub (.k (.int .i64 (-9223372036854775808))) (.t 19)) 17 true,qB 21 .lss 18 20 17 true,qA 22 17 21 14 false,oO 23 14 22]
[0,1,23])
(.cond (.t 23)
(.seq (.reg [oC 4 0,oV 5 false]
[4,5])
.ret)
.skip))
(.seq (.reg [oM 24 0,oM 25 1,oB 26 .add 24 25,oM 4 26,oV 5 true]
[4,5])
.ret)))⟩
abbrev ppA_:=@pcR npA_ Tryz.f285 cpA_ Tryz.func285 (by kernel_rfl)
def cpD_:AFun:=⟨27,2,[.t 4,.t 5,.t 6],
 (.seq (.reg [oC 4 0,oC 5 0,oC 6 0]
[0,1])
(.seq (.seq (.reg [oM 9 1,oK 10 .eql 9 0]
[0,1,10])
(.cond (.t 10)
(.seq (.reg [oC 4 0,oC 5 0,oC 6 7]
[4,5,6])
.ret)
.skip))
(.seq (.seq (.reg [oM 11 1,op 12 (.bin .eql (.t 11) (.k (.int .i64 (-1))))]
[0,1,12])
(.cond (.t 12)
(.seq (.reg [oM 14 0,op 15 (.call npS_ [.k (.int .i64 0),.t 14]),oM 13 15,oE 16 13 0,oE 17 13 1,oM 7 16,oM 8 17]
[7,8])
(.seq (.seq (.reg [oM 18 8,oU 19 18]
[7,19])
(.cond (.t 19)
(.seq (.reg [oC 4 0,oC 5 0,oC 6 6]
[4,5,6])
.ret)
.skip))
(.seq (.reg [oM 20 7,oM 4 20,oC 5 0,oC 6 0]
[4,5,6])
.ret)))
.skip))
(.seq (.dreg [oM 21 0,oM 22 1,oB 23 .quo 21 22,oM 24 0,oM 25 1,oB 26 .rem 24 25,oM 4 23,oM 5 26,oC 6 0]
[4,5,6])
.ret))))⟩
abbrev ppD_:=@pcR npD_ Tryz.f289 cpD_ Tryz.func289 (by kernel_rfl)
def cpM_:AFun:=⟨81,2,[.t 4,.t 5],
 (.seq (.reg [oC 4 0,oV 5 false]
[0,1])
(.seq (.seq (.reg [oM 6 0,oK 7 .eql 6 0,oM 8 7,qM 9 1 8 false,qK 10 .eql 9 0 8 false,oO 11 8 10]
[0,1,11])
(.cond (.t 11)
(.seq (.reg [oC 4 0,oV 5 true]
[4,5])
.ret)
.skip))
(.seq (.seq (.reg [oM 12 0,op 13 (.bin .eql (.t 12) (.k (.int .i64 (-1))))]
[0,1,13])
(.cond (.t 13)
(.seq (.reg [oM 14 1,op 15 (.call npS_ [.k (.int .i64 0),.t 14]),oE 16 15 0,oE 17 15 1,oM 4 16,oM 5 17]
[4,5])
.ret)
.skip))
(.seq (.seq (.reg [oM 18 1,op 19 (.bin .eql (.t 18) (.k (.int .i64 (-1))))]
[0,1,19])
(.cond (.t 19)
(.seq (.reg [oM 20 0,op 21 (.call npS_ [.k (.int .i64 0),.t 20]),oE 22 21 0,oE 23 21 1,oM 4 22,oM 5 23]
[4,5])
.ret)
.skip))
(.seq (.seq (.reg [oM 24 0,oK 25 .gtr 24 0,oM 26 25,qM 27 1 26 true,qK 28 .gtr 27 0 26 true,oA 29 26 28,oM 30 29,qM 31 0 30 true,qM 32 1 30 true,oG 33 (.bin .quo (.k (.int .i64 9223372036854775807)) (.t 32)) 30 true,qB 34 .gtr 31 33 30 true,oA 35 30 34,oM 36 35,qM 37 0 36 false,qK 38 .gtr 37 0 36 false,qM 39 38 36 false,qM 40 1 39 true,qK 41 .lss 40 0 39 true,qA 42 39 41 36 false,qM 43 42 36 false,qM 44 1 43 true,qM 45 0 43 true,oG 46 (.bin .quo (.k (.int .i64 (-9223372036854775808))) (.t 45)) 43 true,qB 47 .lss 44 46 43 true,qA 48 43 47 36 false,oO 49 36 48,oM 50 49,qM 51 0 50 false,qK 52 .lss 51 0 50 false,qM 53 52 50 false,qM 54 1 53 true,qK 55 .gtr 54 0 53 true,qA 56 53 55 50 false,qM 57 56 50 false,qM 58 0 57 true,qM 59 1 57 true,oG 60 (.bin .quo (.k (.int .i64 (-9223372036854775808))) (.t 59)) 57 true,qB 61 .lss 58 60 57 true,qA 62 57 61 50 false,oO 63 50 62,oM 64 63,qM 65 0 64 false,qK 66 .lss 65 0 64 false,qM 67 66 64 false,qM 68 1 67 true,qK 69 .lss 68 0 67 true,qA 70 67 69 64 false,qM 71 70 64 false,qM 72 0 71 true,qM 73 1 71 true,oG 74 (.bin .quo (.k (.int .i64 9223372036854775807)) (.t 73)) 71 true,qB 75 .lss 72 74 71 true,qA 76 71 75 64 false,oO 77 64 76]
[0,1,77])
(.cond (.t 77)
(.seq (.reg [oC 4 0,oV 5 false]
[4,5])
.ret)
.skip))
(.seq (.reg [oM 78 0,oM 79 1,oB 80 .mul 78 79,oM 4 80,oV 5 true]
[4,5])
.ret))))))⟩
abbrev ppM_:=@pcR npM_ Tryz.f288 cpM_ Tryz.func288 (by kernel_rfl)
def cp11:AFun:=⟨27,2,[.t 4,.t 5],
 (.seq (.reg [oC 4 0,oV 5 false]
[0,1])
(.seq (.seq (.reg [oM 6 1,oK 7 .lss 6 0,oM 8 7,qM 9 0 8 true,qM 10 1 8 true,oG 11 (.bin .add (.k (.int .i64 9223372036854775807)) (.t 10)) 8 true,qB 12 .gtr 9 11 8 true,oA 13 8 12,oM 14 13,qM 15 1 14 false,qK 16 .gtr 15 0 14 false,qM 17 16 14 false,qM 18 0 17 true,qM 19 1 17 true,oG 20 (.bin .add (.k (.int .i64 (-9223372036854775808))) (.t 19)) 17 true,qB 21 .lss 18 20 17 true,qA 22 17 21 14 false,oO 23 14 22]
[0,1,23])
(.cond (.t 23)
(.seq (.reg [oC 4 0,oV 5 false]
[4,5])
.ret)
.skip))
(.seq (.reg [oM 24 0,oM 25 1,oB 26 .sub 24 25,oM 4 26,oV 5 true]
[4,5])
.ret)))⟩
abbrev ppS_:=@pcR npS_ Tryz.f287 cp11 Tryz.func287 (by kernel_rfl)
def cp24:AFun:=⟨51,1,[.t 2],
 (.seq (.reg [op 2 (.mov (.k (.str [])))]
[0])
(.seq (.reg [op 3 (.mov (.k (.str [48,49,50,51,52,53,54,55,56,57])))]
[0,3])
(.seq (.seq (.reg [oM 5 0,oK 6 .geq 5 0,oM 7 6,qM 8 0 7 true,qK 9 .lss 8 10 7 true,oA 10 7 9]
[0,3,10])
(.cond (.t 10)
(.seq (.reg [oM 11 3,oM 12 0,oM 13 0,oK 14 .add 13 1,op 15 (.slc 0 (.t 11) (some (.t 12)) (some (.t 14))),oM 2 15]
[2])
.ret)
.skip))
(.seq (.seq (.reg [oM 16 0,oK 17 .geq 16 10]
[0,3,17])
(.cond (.t 17)
(.seq (.dreg [oM 18 0,oK 19 .quo 18 10,op 20 (.call npT_ [.t 19]),oM 21 3,oM 22 0,oK 23 .rem 22 10,oM 24 0,oK 25 .rem 24 10,oK 26 .add 25 1,op 27 (.slc 0 (.t 21) (some (.t 23)) (some (.t 26))),oB 28 .add 20 27,oM 2 28]
[2])
.ret)
.skip))
(.seq (.seq (.reg [oM 29 0,op 30 (.bin .gtr (.t 29) (.k (.int .i64 (-10))))]
[0,3,30])
(.cond (.t 30)
(.seq (.reg [oM 31 3,oM 32 0,op 33 (.un .neg (.t 32)),oM 34 0,op 35 (.un .neg (.t 34)),oK 36 .add 35 1,op 37 (.slc 0 (.t 31) (some (.t 33)) (some (.t 36))),op 38 (.bin .add (.k (.str [45])) (.t 37)),oM 2 38]
[2])
.ret)
.skip))
(.seq (.reg [oM 39 0,oK 40 .rem 39 10,op 41 (.un .neg (.t 40)),oM 4 41]
[0,3,4])
(.seq (.dreg [oM 42 0,oK 43 .quo 42 10,op 44 (.call npT_ [.t 43]),oM 45 3,oM 46 4,oM 47 4,oK 48 .add 47 1,op 49 (.slc 0 (.t 45) (some (.t 46)) (some (.t 48))),oB 50 .add 44 49,oM 2 50]
[2])
.ret)))))))⟩
abbrev pp24:=@pcR npT_ Tryz.f111 cp24 Tryz.func111 (by kernel_rfl)
def cpB_:AFun:=⟨37,2,[.t 4],
 (.seq (.reg [oV 4 false]
[0,1])
(.seq (.seq (.reg [oC 5 0]
[0,1,5])
(.block 0
(.loop [0,1,5] []
 (.seq (.seq (.reg [oM 6 5,oM 7 0,op 8 (.len true (.t 7)),oB 9 .lss 6 8,oM 10 9,qM 11 5 10 true,qM 12 1 10 true,oG 13 (.len true (.t 12)) 10 true,qB 14 .lss 11 13 10 true,oA 15 10 14]
[0,1,5,15])
(.cond (.t 15)
.skip
(.exit 0)))
(.seq (.block 1
(.seq (.dreg [oM 18 0,oM 19 5,op 20 (.idx (.t 18) (.t 19)),oM 21 1,oM 22 5,op 23 (.idx (.t 21) (.t 22)),oB 24 .neq 20 23]
[0,1,5,24])
(.cond (.t 24)
(.seq (.dreg [oM 25 0,oM 26 5,op 27 (.idx (.t 25) (.t 26)),oM 28 1,oM 29 5,op 30 (.idx (.t 28) (.t 29)),oB 31 .lss 27 30,oM 4 31]
[4])
.ret)
.skip)))
(.reg [oM 16 5,oK 17 .add 16 1,oM 5 17]
[0,1,5]))))))
(.seq (.reg [oM 32 0,op 33 (.len true (.t 32)),oM 34 1,op 35 (.len true (.t 34)),oB 36 .lss 33 35,oM 4 36]
[4])
.ret)))⟩
abbrev ppB_:=@pcR npB_ Tryz.f233 cpB_ Tryz.func233 (by kernel_rfl)
def cpL_:AFun:=⟨38,2,[.t 4],
 (.seq (.reg [op 2 (.box taV_ 4 (.t 0)),op 3 (.box taV_ 4 (.t 1)),oV 4 false]
[2,3])
(.seq (.seq (.reg [oF 5 2 0,oL 6 5,oF 7 3 0,oL 8 7,oB 9 .neq 6 8]
[2,3,9])
(.cond (.t 9)
(.seq (.reg [oF 10 2 0,oL 11 10,oF 12 3 0,oL 13 12,oB 14 .lss 11 13,oM 4 14]
[4])
.ret)
.skip))
(.seq (.seq (.reg [oF 15 2 0,oL 16 15,oK 17 .eql 16 1]
[2,3,17])
(.cond (.t 17)
(.seq (.reg [oF 18 2 1,oL 19 18,oF 20 3 1,oL 21 20,oB 22 .lss 19 21,oM 4 22]
[4])
.ret)
.skip))
(.seq (.seq (.reg [oF 23 2 0,oL 24 23,oK 25 .eql 24 2]
[2,3,25])
(.cond (.t 25)
(.seq (.reg [oF 26 2 2,oL 27 26,oF 28 3 2,oL 29 28,op 30 (.call npB_ [.t 27,.t 29]),oM 4 30]
[4])
.ret)
.skip))
(.seq (.reg [oF 31 2 3,oL 32 31,oU 33 32,oM 34 33,qF 35 3 3 34 true,qL 36 35 34 true,oA 37 34 36,oM 4 37]
[4])
.ret)))))⟩
abbrev ppL_:=@pcR npL_ Tryz.f167 cpL_ Tryz.func167 (by kernel_rfl)
def cpO_:AFun:=⟨145,3,[.cells 6 4,.t 7],
 (.seq (.reg [op 4 (.box taV_ 4 (.t 1)),op 5 (.box taV_ 4 (.t 2)),op 6 (.alloc taV_ 4 (.agg [.int .i64 0,.int .i64 0,.str [],.bool false])),oC 7 0]
[0,4,5,6])
(.seq (.seq (.reg [oM 8 0,oK 9 .lss 8 4,oM 10 9,qM 11 0 10 false,qK 12 .gtr 11 16 10 false,oO 13 10 12]
[0,4,5,6,13])
(.cond (.t 13)
(.seq (.reg [op 14 (.build [.int .i64 0,.int .i64 0,.str [],.bool false] []),
⟨none,.store (.t 6) (.t 14) 4,none⟩,oC 7 1]
[6,7])
.ret)
.skip))
(.seq (.seq (.reg [oM 15 0,oK 16 .eql 15 4]
[0,4,5,6,16])
(.cond (.t 16)
(.seq (.seq (.reg [oF 17 4 0,oL 18 17,oK 19 .neq 18 3]
[4,6,19])
(.cond (.t 19)
(.seq (.reg [op 20 (.build [.int .i64 0,.int .i64 0,.str [],.bool false] []),
⟨none,.store (.t 6) (.t 20) 4,none⟩,oC 7 8]
[6,7])
.ret)
.skip))
(.seq (.reg [oF 21 4 3,oL 22 21,oU 23 22,op 24 (.call npt_ [.t 23]),oE 25 24 0,oE 26 24 1,
⟨none,.store (.t 6) (.t 25) 4,none⟩,oM 7 26]
[6,7])
.ret))
.skip))
(.seq (.seq (.reg [oM 27 0,oK 28 .eql 27 5]
[0,4,5,6,28])
(.cond (.t 28)
(.seq (.seq (.reg [oF 29 4 0,oL 30 29,oK 31 .neq 30 1]
[4,6,31])
(.cond (.t 31)
(.seq (.reg [op 32 (.build [.int .i64 0,.int .i64 0,.str [],.bool false] []),
⟨none,.store (.t 6) (.t 32) 4,none⟩,oC 7 8]
[6,7])
.ret)
.skip))
(.seq (.reg [oF 33 4 1,oL 34 33,op 35 (.call npa_ [.k (.int .i64 9),.k (.int .i64 0),.t 34]),oE 36 35 0,oE 37 35 1,
⟨none,.store (.t 6) (.t 36) 4,none⟩,oM 7 37]
[6,7])
.ret))
.skip))
(.seq (.seq (.reg [oF 38 4 0,oL 39 38,oF 40 5 0,oL 41 40,oB 42 .neq 39 41]
[0,4,5,6,42])
(.cond (.t 42)
(.seq (.reg [op 43 (.build [.int .i64 0,.int .i64 0,.str [],.bool false] []),
⟨none,.store (.t 6) (.t 43) 4,none⟩,oC 7 8]
[6,7])
.ret)
.skip))
(.seq (.seq (.reg [oM 44 0,oK 45 .eql 44 13]
[0,4,5,6,45])
(.cond (.t 45)
(.seq (.reg [oN 46 4 4,oN 47 5 4,op 48 (.eqA false [0,0,1,2] (.t 46) (.t 47)),op 49 (.call npt_ [.t 48]),oE 50 49 0,oE 51 49 1,
⟨none,.store (.t 6) (.t 50) 4,none⟩,oM 7 51]
[6,7])
.ret)
.skip))
(.seq (.seq (.reg [oM 52 0,oK 53 .eql 52 14]
[0,4,5,6,53])
(.cond (.t 53)
(.seq (.reg [oN 54 4 4,oN 55 5 4,op 56 (.eqA true [0,0,1,2] (.t 54) (.t 55)),op 57 (.call npt_ [.t 56]),oE 58 57 0,oE 59 57 1,
⟨none,.store (.t 6) (.t 58) 4,none⟩,oM 7 59]
[6,7])
.ret)
.skip))
(.seq (.seq (.reg [oF 60 4 0,oL 61 60,oK 62 .eql 61 3]
[0,4,5,6,62])
(.cond (.t 62)
(.seq (.seq (.reg [oM 63 0,oK 64 .eql 63 6]
[0,4,5,6,64])
(.cond (.t 64)
(.seq (.reg [oF 65 4 3,oL 66 65,oM 67 66,qF 68 5 3 67 true,qL 69 68 67 true,oA 70 67 69,op 71 (.call npt_ [.t 70]),oE 72 71 0,oE 73 71 1,
⟨none,.store (.t 6) (.t 72) 4,none⟩,oM 7 73]
[6,7])
.ret)
.skip))
(.seq (.seq (.reg [oM 74 0,oK 75 .eql 74 7]
[4,5,6,75])
(.cond (.t 75)
(.seq (.reg [oF 76 4 3,oL 77 76,oM 78 77,qF 79 5 3 78 false,qL 80 79 78 false,oO 81 78 80,op 82 (.call npt_ [.t 81]),oE 83 82 0,oE 84 82 1,
⟨none,.store (.t 6) (.t 83) 4,none⟩,oM 7 84]
[6,7])
.ret)
.skip))
(.seq (.reg [op 85 (.build [.int .i64 0,.int .i64 0,.str [],.bool false] []),
⟨none,.store (.t 6) (.t 85) 4,none⟩,oC 7 8]
[6,7])
.ret)))
.skip))
(.seq (.seq (.reg [oM 86 0,oK 87 .eql 86 15]
[0,4,5,6,87])
(.cond (.t 87)
(.seq (.reg [oN 88 4 4,oN 89 5 4,op 90 (.call npL_ [.t 88,.t 89]),op 91 (.call npt_ [.t 90]),oE 92 91 0,oE 93 91 1,
⟨none,.store (.t 6) (.t 92) 4,none⟩,oM 7 93]
[6,7])
.ret)
.skip))
(.seq (.seq (.reg [oM 94 0,oK 95 .eql 94 16]
[0,4,5,6,95])
(.cond (.t 95)
(.seq (.reg [oN 96 5 4,oN 97 4 4,op 98 (.call npL_ [.t 96,.t 97]),oU 99 98,op 100 (.call npt_ [.t 99]),oE 101 100 0,oE 102 100 1,
⟨none,.store (.t 6) (.t 101) 4,none⟩,oM 7 102]
[6,7])
.ret)
.skip))
(.seq (.seq (.reg [oF 103 4 0,oL 104 103,oK 105 .eql 104 1,oM 106 105,qM 107 0 106 true,qK 108 .geq 107 8 106 true,oA 109 106 108,oM 110 109,qM 111 0 110 true,qK 112 .leq 111 12 110 true,oA 113 110 112]
[0,4,5,6,113])
(.cond (.t 113)
(.seq (.reg [oM 114 0,oF 115 4 1,oL 116 115,oF 117 5 1,oL 118 117,op 119 (.call npa_ [.t 114,.t 116,.t 118]),oE 120 119 0,oE 121 119 1,
⟨none,.store (.t 6) (.t 120) 4,none⟩,oM 7 121]
[6,7])
.ret)
.skip))
(.seq (.seq (.reg [oF 122 4 0,oL 123 122,oK 124 .eql 123 2,oM 125 124,qM 126 0 125 true,qK 127 .eql 126 8 125 true,oA 128 125 127]
[4,5,6,128])
(.cond (.t 128)
(.seq (.seq (.reg [oF 129 4 2,oL 130 129,op 131 (.len true (.t 130)),oF 132 5 2,oL 133 132,op 134 (.len true (.t 133)),oB 135 .add 131 134,oK 136 .gtr 135 4096]
[4,5,6,136])
(.cond (.t 136)
(.seq (.reg [op 137 (.build [.int .i64 0,.int .i64 0,.str [],.bool false] []),
⟨none,.store (.t 6) (.t 137) 4,none⟩,oC 7 3]
[6,7])
.ret)
.skip))
(.seq (.reg [oF 138 4 2,oL 139 138,oF 140 5 2,oL 141 140,oB 142 .add 139 141,op 143 (.build [.int .i64 0,.int .i64 0,.str [],.bool false] [(0,1,.k (.int .i64 2)),(2,1,.t 142)]),
⟨none,.store (.t 6) (.t 143) 4,none⟩,oC 7 0]
[6,7])
.ret))
.skip))
(.seq (.reg [op 144 (.build [.int .i64 0,.int .i64 0,.str [],.bool false] []),
⟨none,.store (.t 6) (.t 144) 4,none⟩,oC 7 8]
[6,7])
.ret)))))))))))))⟩
abbrev ppO_:=@pcR npO_ Tryz.f231 cpO_ Tryz.func231 (by kernel_rfl)
def cp20:AFun:=⟨44,1,[.t 2],
 (.seq (.reg [op 1 (.box taV_ 4 (.t 0)),oV 2 false]
[1])
(.seq (.seq (.reg [oF 3 1 0,oL 4 3,oK 5 .eql 4 1]
[1,5])
(.cond (.t 5)
(.seq (.reg [oF 6 1 2,oL 7 6,op 8 (.bin .eql (.t 7) (.k (.str []))),oM 9 8,qF 10 1 3 9 true,qL 11 10 9 true,oG 12 (.un .not (.t 11)) 9 true,oA 13 9 12,oM 2 13]
[2])
.ret)
.skip))
(.seq (.seq (.reg [oF 14 1 0,oL 15 14,oK 16 .eql 15 2]
[1,16])
(.cond (.t 16)
(.seq (.reg [oF 17 1 1,oL 18 17,oK 19 .eql 18 0,oM 20 19,qF 21 1 3 20 true,qL 22 21 20 true,oG 23 (.un .not (.t 22)) 20 true,oA 24 20 23,oM 25 24,qF 26 1 2 25 true,qL 27 26 25 true,oG 28 (.len true (.t 27)) 25 true,qK 29 .leq 28 4096 25 true,oA 30 25 29,oM 2 30]
[2])
.ret)
.skip))
(.seq (.reg [oF 31 1 0,oL 32 31,oK 33 .eql 32 3,oM 34 33,qF 35 1 1 34 true,qL 36 35 34 true,qK 37 .eql 36 0 34 true,oA 38 34 37,oM 39 38,qF 40 1 2 39 true,qL 41 40 39 true,oG 42 (.bin .eql (.t 41) (.k (.str []))) 39 true,oA 43 39 42,oM 2 43]
[2])
.ret))))⟩
abbrev pp19:=@pcR npR_ Tryz.f76 cp20 Tryz.func76 (by kernel_rfl)
def cp10:AFun:=⟨76,3,[.cells 6 4,.t 7],
 (.seq (.reg [op 6 (.alloc taV_ 4 (.agg [.int .i64 0,.int .i64 0,.str [],.bool false])),oC 7 0]
[0,1,2,6])
(.seq (.seq (.reg [oM 17 0,oK 18 .eql 17 8]
[0,1,2,6,18])
(.cond (.t 18)
(.seq (.reg [oM 20 1,oM 21 2,op 22 (.call npA_ [.t 20,.t 21]),oM 19 22,oE 23 19 0,oE 24 19 1,oM 8 23,oM 9 24]
[6,8,9])
(.seq (.reg [oM 25 8,oM 26 9,op 27 (.call npn_ [.t 25,.t 26]),oE 28 27 0,oE 29 27 1,
⟨none,.store (.t 6) (.t 28) 4,none⟩,oM 7 29]
[6,7])
.ret))
.skip))
(.seq (.seq (.reg [oM 30 0,oK 31 .eql 30 9]
[0,1,2,6,31])
(.cond (.t 31)
(.seq (.reg [oM 33 1,oM 34 2,op 35 (.call npS_ [.t 33,.t 34]),oM 32 35,oE 36 32 0,oE 37 32 1,oM 10 36,oM 11 37]
[6,10,11])
(.seq (.reg [oM 38 10,oM 39 11,op 40 (.call npn_ [.t 38,.t 39]),oE 41 40 0,oE 42 40 1,
⟨none,.store (.t 6) (.t 41) 4,none⟩,oM 7 42]
[6,7])
.ret))
.skip))
(.seq (.seq (.reg [oM 43 0,oK 44 .eql 43 10]
[0,1,2,6,44])
(.cond (.t 44)
(.seq (.reg [oM 46 1,oM 47 2,op 48 (.call npM_ [.t 46,.t 47]),oM 45 48,oE 49 45 0,oE 50 45 1,oM 12 49,oM 13 50]
[6,12,13])
(.seq (.reg [oM 51 12,oM 52 13,op 53 (.call npn_ [.t 51,.t 52]),oE 54 53 0,oE 55 53 1,
⟨none,.store (.t 6) (.t 54) 4,none⟩,oM 7 55]
[6,7])
.ret))
.skip))
(.seq (.reg [oM 57 1,oM 58 2,op 59 (.call npD_ [.t 57,.t 58]),oM 56 59,oE 60 56 0,oE 61 56 1,oE 62 56 2,oM 14 60,oM 15 61,oM 16 62]
[0,6,14,15,16])
(.seq (.seq (.reg [oM 63 16,oK 64 .eql 63 7]
[0,6,14,15,16,64])
(.cond (.t 64)
(.seq (.reg [op 65 (.build [.int .i64 0,.int .i64 0,.str [],.bool false] []),
⟨none,.store (.t 6) (.t 65) 4,none⟩,oC 7 7]
[6,7])
.ret)
.skip))
(.seq (.seq (.reg [oM 66 0,oK 67 .eql 66 12]
[6,14,15,16,67])
(.cond (.t 67)
(.seq (.reg [oM 68 15,op 69 (.build [.int .i64 0,.int .i64 0,.str [],.bool false] [(0,1,.k (.int .i64 1)),(1,1,.t 68)]),
⟨none,.store (.t 6) (.t 69) 4,none⟩,oC 7 0]
[6,7])
.ret)
.skip))
(.seq (.reg [oM 70 14,oM 71 16,oK 72 .eql 71 0,op 73 (.call npn_ [.t 70,.t 72]),oE 74 73 0,oE 75 73 1,
⟨none,.store (.t 6) (.t 74) 4,none⟩,oM 7 75]
[6,7])
.ret))))))))⟩
abbrev ppa_:=@pcR npa_ Tryz.f262 cp10 Tryz.func262 (by kernel_rfl)
def cpn_:AFun:=⟨11,2,[.cells 4 4,.t 5],
 (.seq (.reg [op 4 (.alloc taV_ 4 (.agg [.int .i64 0,.int .i64 0,.str [],.bool false])),oC 5 0]
[0,1,4])
(.seq (.seq (.reg [oM 6 1,oU 7 6]
[0,4,7])
(.cond (.t 7)
(.seq (.reg [op 8 (.build [.int .i64 0,.int .i64 0,.str [],.bool false] []),
⟨none,.store (.t 4) (.t 8) 4,none⟩,oC 5 6]
[4,5])
.ret)
.skip))
(.seq (.reg [oM 9 0,op 10 (.build [.int .i64 0,.int .i64 0,.str [],.bool false] [(0,1,.k (.int .i64 1)),(1,1,.t 9)]),
⟨none,.store (.t 4) (.t 10) 4,none⟩,oC 5 0]
[4,5])
.ret)))⟩
abbrev ppn_:=@pcR npn_ Tryz.f286 cpn_ Tryz.func286 (by kernel_rfl)
def cpt_:AFun:=⟨6,1,[.cells 2 4,.t 3],
 (.seq (.reg [op 2 (.alloc taV_ 4 (.agg [.int .i64 0,.int .i64 0,.str [],.bool false])),oC 3 0]
[0,2])
(.seq (.reg [oM 4 0,op 5 (.build [.int .i64 0,.int .i64 0,.str [],.bool false] [(0,1,.k (.int .i64 3)),(3,1,.t 4)]),
⟨none,.store (.t 2) (.t 5) 4,none⟩,oC 3 0]
[2,3])
.ret))⟩
abbrev ppt_:=@pcR npt_ Tryz.f261 cpt_ Tryz.func261 (by kernel_rfl)
def cpG_:AFun:=⟨26,2,[.cells 4 4,.t 5],
 (.seq (.reg [op 4 (.alloc taV_ 4 (.agg [.int .i64 0,.int .i64 0,.str [],.bool false])),oV 5 false]
[0,1,4])
(.seq (.seq (.reg [oC 6 0]
[0,1,4,6])
(.block 0
(.loop [0,1,4,6] [4]
 (.seq (.seq (.reg [oM 7 6,oM 8 0,oZ 9 8,oB 10 .lss 7 9]
[0,1,4,6,10])
(.cond (.t 10)
.skip
(.exit 0)))
(.seq (.block 1
(.seq (.reg [oM 13 0,oM 14 6,oI 15 5 13 14,oF 16 15 0,oL 17 16,oM 18 1,oB 19 .eql 17 18]
[0,1,4,6,19])
(.cond (.t 19)
(.seq (.reg [oM 20 0,oM 21 6,oI 22 5 20 21,oF 23 22 1,oN 24 23 4,
⟨none,.store (.t 4) (.t 24) 4,none⟩,oV 5 true]
[4,5])
.ret)
.skip)))
(.reg [oM 11 6,oK 12 .add 11 1,oM 6 12]
[0,1,4,6]))))))
(.seq (.reg [op 25 (.build [.int .i64 0,.int .i64 0,.str [],.bool false] []),
⟨none,.store (.t 4) (.t 25) 4,none⟩,oV 5 false]
[4,5])
.ret)))⟩
abbrev ppG_:=@pcR npG_ Tryz.f141 cpG_ Tryz.func141 (by kernel_rfl)
def cpC_:AFun:=⟨72,1,[.t 2,.t 3],
 (.seq (.reg [oC 2 0,oC 3 0]
[0])
(.seq (.seq (.reg [oM 6 0,oZ 7 6,oK 8 .gtr 7 32]
[0,8])
(.cond (.t 8)
(.seq (.reg [oC 2 14,oC 3 32]
[2,3])
.ret)
.skip))
(.seq (.seq (.reg [oC 4 0]
[0,4])
(.block 0
(.loop [0,4] [7]
 (.seq (.seq (.reg [oM 9 4,oM 10 0,oZ 11 10,oB 12 .lss 9 11]
[0,4,12])
(.cond (.t 12)
.skip
(.exit 0)))
(.seq (.block 1
(.seq (.seq (.reg [oM 15 0,oM 16 4,oI 17 2 15 16,oF 18 17 0,oL 19 18,op 20 (.call npN_ [.t 19]),oU 21 20]
[0,4,21])
(.cond (.t 21)
(.seq (.reg [oM 22 4,oC 2 11,oM 3 22]
[2,3])
.ret)
.skip))
(.seq (.seq (.reg [oM 23 0,oM 24 0,oM 25 4,oI 26 2 24 25,oF 27 26 0,oL 28 27,op 29 (.call np25 [.t 23,.t 28]),oM 30 4,oB 31 .lss 29 30]
[0,4,31])
(.cond (.t 31)
(.seq (.reg [oM 32 4,oC 2 10,oM 3 32]
[2,3])
.ret)
.skip))
(.seq (.seq (.reg [oM 33 0,oM 34 4,oI 35 2 33 34,oF 36 35 1,oL 37 36,oZ 38 37,oK 39 .gtr 38 8]
[0,4,39])
(.cond (.t 39)
(.seq (.reg [oM 40 4,oC 2 14,oM 3 40]
[2,3])
.ret)
.skip))
(.seq (.reg [oC 5 0]
[0,4,5])
(.block 2
(.loop [0,4,5] [7,11,20,29,38]
 (.seq (.seq (.reg [oM 41 5,oM 42 0,oM 43 4,oI 44 2 42 43,oF 45 44 1,oL 46 45,oZ 47 46,oB 48 .lss 41 47]
[0,4,5,48])
(.cond (.t 48)
.skip
(.exit 2)))
(.seq (.block 3
(.seq (.reg [oM 51 0,oM 52 4,oI 53 2 51 52,oF 54 53 1,oL 55 54,oM 56 5,oI 57 1 55 56,oL 58 57,oK 59 .lss 58 1,oM 60 59,qM 61 0 60 false,qM 62 4 60 false,qI 63 2 61 62 60 false,qF 64 63 1 60 false,qL 65 64 60 false,qM 66 5 60 false,qI 67 1 65 66 60 false,qL 68 67 60 false,qK 69 .gtr 68 3 60 false,oO 70 60 69]
[0,4,5,70])
(.cond (.t 70)
(.seq (.reg [oM 71 4,oC 2 8,oM 3 71]
[2,3])
.ret)
.skip)))
(.reg [oM 49 5,oK 50 .add 49 1,oM 5 50]
[0,4,5]))))))))))
(.reg [oM 13 4,oK 14 .add 13 1,oM 4 14]
[0,4]))))))
(.seq (.reg [oC 2 0,op 3 (.mov (.k (.int .i64 (-1))))]
[2,3])
.ret))))⟩
abbrev ppC_:=@pcR npC_ Tryz.f71 cpC_ Tryz.func71 (by kernel_rfl)
def cp23:AFun:=⟨20,2,[.t 4],
 (.seq (.reg [oC 4 0]
[0,1])
(.seq (.seq (.reg [oC 5 0]
[0,1,5])
(.block 0
(.loop [0,1,5] []
 (.seq (.seq (.reg [oM 6 5,oM 7 0,oZ 8 7,oB 9 .lss 6 8]
[0,1,5,9])
(.cond (.t 9)
.skip
(.exit 0)))
(.seq (.block 1
(.seq (.reg [oM 12 0,oM 13 5,oI 14 2 12 13,oF 15 14 0,oL 16 15,oM 17 1,oB 18 .eql 16 17]
[0,1,5,18])
(.cond (.t 18)
(.seq (.reg [oM 19 5,oM 4 19]
[4])
.ret)
.skip)))
(.reg [oM 10 5,oK 11 .add 10 1,oM 5 11]
[0,1,5]))))))
(.seq (.reg [op 4 (.mov (.k (.int .i64 (-1))))]
[4])
.ret)))⟩
abbrev pp23:=@pcR np25 Tryz.f77 cp23 Tryz.func77 (by kernel_rfl)
end Go.Proofs.YtjbcfpkibnhodaaGreatDoor.Ab
