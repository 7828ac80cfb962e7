/-
  The functions' abstract code, by program (acgen.py), and that the model's code is it, reckoned by the kernel. No claim is proved here.
-/
import Derived.Test.YtjbcfpkibnhodaaGreatDoorYAcR0
namespace Go.Proofs.YtjbcfpkibnhodaaGreatDoor.Ab
open Go
def clgaD_:AFun:=⟨25,3,[.t 6],
 (.seq (.reg [op 6 (.nilrow tlO_ 2)]
[0,1,2])
(.seq (.reg [op 7 (.nilrow tlO_ 2)]
[0,1,2,7])
(.seq (.seq (.reg [oM 9 1,oZ 10 9,oC 11 0]
[0,2,7,10,11])
(.block 0
(.loop [0,2,7,10,11] [6,7,10,22]
 (.seq (.reg [oB 12 .lss 11 10]
[0,2,7,10,11,12])
(.seq (.cond (.t 12)
.skip
(.exit 0))
(.seq (.block 1
(.seq (.reg [oM 13 11,oM 8 13]
[0,2,7,8,10,11])
(.seq (.reg [oM 14 2,oM 15 8,op 16 (.callv (.t 14) [.t 15])]
[0,2,7,8,10,11,16])
(.cond (.t 16)
(.reg [oM 17 7,oM 18 0,oM 19 8,op 20 (.build [.int .i64 0,.int .i64 0] [(0,1,.t 18),(1,1,.t 19)]),op 21 (.mkrow tlO_ 2 1 (.agg [.int .i64 0,.int .i64 0]) [(0,.t 20)]),op 22 (.app tlO_ 2 16 (.t 17) (.t 21)),oM 7 22]
[0,2,7,10,11])
.skip))))
(.reg [oK 23 .add 11 1,oM 11 23]
[0,2,7,10,11])))))))
(.seq (.reg [oM 24 7,oM 6 24]
[6])
.ret))))⟩
theorem klgaD_:chkF Tryz.prog Tryz.f97 clgaD_=true:=by kernel_rfl
def clgaF_:AFun:=⟨25,3,[.t 6],
 (.seq (.reg [op 6 (.nilrow tlO_ 2)]
[0,1,2])
(.seq (.reg [op 7 (.nilrow tlO_ 2)]
[0,1,2,7])
(.seq (.seq (.reg [oM 9 1,oZ 10 9,oC 11 0]
[0,2,7,10,11])
(.block 0
(.loop [0,2,7,10,11] [6,7,10,22]
 (.seq (.reg [oB 12 .lss 11 10]
[0,2,7,10,11,12])
(.seq (.cond (.t 12)
.skip
(.exit 0))
(.seq (.block 1
(.seq (.reg [oM 13 11,oM 8 13]
[0,2,7,8,10,11])
(.seq (.reg [oM 14 2,oM 15 8,op 16 (.callv (.t 14) [.t 15])]
[0,2,7,8,10,11,16])
(.cond (.t 16)
(.reg [oM 17 7,oM 18 0,oM 19 8,op 20 (.build [.int .i64 0,.int .i64 0] [(0,1,.t 18),(1,1,.t 19)]),op 21 (.mkrow tlO_ 2 1 (.agg [.int .i64 0,.int .i64 0]) [(0,.t 20)]),op 22 (.app tlO_ 2 16 (.t 17) (.t 21)),oM 7 22]
[0,2,7,10,11])
.skip))))
(.reg [oK 23 .add 11 1,oM 11 23]
[0,2,7,10,11])))))))
(.seq (.reg [oM 24 7,oM 6 24]
[6])
.ret))))⟩
theorem klgaF_:chkF Tryz.prog Tryz.f89 clgaF_=true:=by kernel_rfl
def clgaS_:AFun:=⟨25,3,[.t 6],
 (.seq (.reg [op 6 (.nilrow tlO_ 2)]
[0,1,2])
(.seq (.reg [op 7 (.nilrow tlO_ 2)]
[0,1,2,7])
(.seq (.seq (.reg [oM 9 1,oZ 10 9,oC 11 0]
[0,2,7,10,11])
(.block 0
(.loop [0,2,7,10,11] [6,7,10,22]
 (.seq (.reg [oB 12 .lss 11 10]
[0,2,7,10,11,12])
(.seq (.cond (.t 12)
.skip
(.exit 0))
(.seq (.block 1
(.seq (.reg [oM 13 11,oM 8 13]
[0,2,7,8,10,11])
(.seq (.reg [oM 14 2,oM 15 8,op 16 (.callv (.t 14) [.t 15])]
[0,2,7,8,10,11,16])
(.cond (.t 16)
(.reg [oM 17 7,oM 18 0,oM 19 8,op 20 (.build [.int .i64 0,.int .i64 0] [(0,1,.t 18),(1,1,.t 19)]),op 21 (.mkrow tlO_ 2 1 (.agg [.int .i64 0,.int .i64 0]) [(0,.t 20)]),op 22 (.app tlO_ 2 16 (.t 17) (.t 21)),oM 7 22]
[0,2,7,10,11])
.skip))))
(.reg [oK 23 .add 11 1,oM 11 23]
[0,2,7,10,11])))))))
(.seq (.reg [oM 24 7,oM 6 24]
[6])
.ret))))⟩
theorem klgaS_:chkF Tryz.prog Tryz.f84 clgaS_=true:=by kernel_rfl
def clgaT_:AFun:=⟨25,3,[.t 6],
 (.seq (.reg [op 6 (.nilrow tlO_ 2)]
[0,1,2])
(.seq (.reg [op 7 (.nilrow tlO_ 2)]
[0,1,2,7])
(.seq (.seq (.reg [oM 9 1,oZ 10 9,oC 11 0]
[0,2,7,10,11])
(.block 0
(.loop [0,2,7,10,11] [6,7,10,22]
 (.seq (.reg [oB 12 .lss 11 10]
[0,2,7,10,11,12])
(.seq (.cond (.t 12)
.skip
(.exit 0))
(.seq (.block 1
(.seq (.reg [oM 13 11,oM 8 13]
[0,2,7,8,10,11])
(.seq (.reg [oM 14 2,oM 15 8,op 16 (.callv (.t 14) [.t 15])]
[0,2,7,8,10,11,16])
(.cond (.t 16)
(.reg [oM 17 7,oM 18 0,oM 19 8,op 20 (.build [.int .i64 0,.int .i64 0] [(0,1,.t 18),(1,1,.t 19)]),op 21 (.mkrow tlO_ 2 1 (.agg [.int .i64 0,.int .i64 0]) [(0,.t 20)]),op 22 (.app tlO_ 2 16 (.t 17) (.t 21)),oM 7 22]
[0,2,7,10,11])
.skip))))
(.reg [oK 23 .add 11 1,oM 11 23]
[0,2,7,10,11])))))))
(.seq (.reg [oM 24 7,oM 6 24]
[6])
.ret))))⟩
theorem klgaT_:chkF Tryz.prog Tryz.f94 clgaT_=true:=by kernel_rfl
def cl10:AFun:=⟨92,2,[.t 4],
 (.seq (.reg [op 2 (.box taQ_ 9 (.t 0)),op 3 (.box tlO_ 2 (.t 1)),op 4 (.mov (.k (.str [])))]
[2,3])
(.seq (.block 0
(.seq (.reg [oF 6 3 1,oL 7 6,oK 8 .lss 7 0,oM 5 8]
[2,3,5])
(.cond (.t 5)
.skip
(.seq (.reg [oF 10 3 0,oL 11 10,oK 12 .eql 11 1,oM 13 12,qF 14 3 0 13 false,qL 15 14 13 false,qK 16 .eql 15 2 13 false,oO 17 13 16,oM 18 17,qF 19 3 1 18 true,qL 20 19 18 true,qF 21 2 4 18 true,qL 22 21 18 true,oG 23 (.len false (.t 22)) 18 true,qB 24 .lss 20 23 18 true,oA 25 18 24,oM 9 25]
[2,3,9])
(.cond (.t 9)
(.seq (.reg [oF 26 2 4,oL 27 26,oF 28 3 1,oL 29 28,oI 30 3 27 29,oF 31 30 0,oL 32 31,oM 4 32]
[4])
.ret)
(.seq (.reg [oF 34 3 0,oL 35 34,oK 36 .eql 35 3,oM 37 36,qF 38 3 0 37 false,qL 39 38 37 false,qK 40 .eql 39 4 37 false,oO 41 37 40,oM 42 41,qF 43 3 1 42 true,qL 44 43 42 true,qF 45 2 3 42 true,qL 46 45 42 true,oG 47 (.len false (.t 46)) 42 true,qB 48 .lss 44 47 42 true,oA 49 42 48,oM 33 49]
[2,3,33])
(.cond (.t 33)
(.seq (.reg [oF 50 2 3,oL 51 50,oF 52 3 1,oL 53 52,oI 54 5 51 53,oF 55 54 0,oL 56 55,oM 4 56]
[4])
.ret)
(.seq (.reg [oF 58 3 0,oL 59 58,oK 60 .eql 59 5,oM 61 60,qF 62 3 1 61 true,qL 63 62 61 true,qF 64 2 8 61 true,qL 65 64 61 true,oG 66 (.len false (.t 65)) 61 true,qB 67 .lss 63 66 61 true,oA 68 61 67,oM 57 68]
[2,3,57])
(.cond (.t 57)
(.seq (.reg [oF 69 3 1,oL 70 69,oK 71 .add 70 1,op 72 (.call nnT_ [.t 71]),oM 4 72]
[4])
.ret)
(.seq (.reg [oF 74 3 0,oL 75 74,oK 76 .eql 75 6,oM 77 76,qF 78 3 1 77 true,qL 79 78 77 true,qF 80 2 1 77 true,qL 81 80 77 true,oG 82 (.len false (.t 81)) 77 true,qB 83 .lss 79 82 77 true,oA 84 77 83,oM 73 84]
[2,3,73])
(.cond (.t 73)
(.seq (.reg [oF 85 2 1,oL 86 85,oF 87 3 1,oL 88 87,oI 89 2 86 88,oF 90 89 0,oL 91 90,oM 4 91]
[4])
.ret)
.skip)))))))))))
(.seq (.reg [op 4 (.mov (.k (.str [])))]
[4])
.ret)))⟩
abbrev pl12:=@pcR nl10 Tryz.f109 cl10 Tryz.func109 (by kernel_rfl)
def cln_:AFun:=⟨54,2,[.t 4],
 (.seq (.reg [op 2 (.box taQ_ 9 (.t 0)),op 3 (.box taT_ 5 (.t 1)),oV 4 false]
[2,3])
(.seq (.seq (.reg [oF 11 3 3,oL 12 11,oK 13 .lss 12 0]
[2,3,13])
(.cond (.t 13)
(.seq (.reg [oV 4 false]
[4])
.ret)
.skip))
(.seq (.dreg [oF 14 2 7,oL 15 14,oN 16 2 9,oF 17 3 3,oL 18 17,op 19 (.call nlf_ [.t 16,.t 18]),oF 20 3 3,oL 21 20,oK 22 .add 21 1,op 23 (.slc 7 (.t 15) (some (.t 19)) (some (.t 22))),oM 5 23]
[2,3,5])
(.seq (.seq (.reg [oM 24 5,op 25 (.call nsCaNaN_ [.t 24,.f nln1_])]
[2,3,25])
(.cond (.t 25)
(.seq (.reg [oV 4 false]
[4])
.ret)
.skip))
(.seq (.reg [op 6 (.nilrow taV_ 4)]
[2,3,6])
(.seq (.seq (.reg [oF 26 2 3,oL 27 26,oZ 28 27,oC 29 0]
[2,3,6,27,28,29])
(.block 0
(.loop [2,3,6,27,28,29] [2,3,19,25,6,28,37]
 (.seq (.reg [oB 30 .lss 29 28]
[2,3,6,27,28,29,30])
(.seq (.cond (.t 30)
.skip
(.exit 0))
(.seq (.block 1
(.seq (.reg [oI 31 5 27 29,oN 32 31 5,op 8 (.alloc taF_ 5 (.agg [.str [],.int .i64 0,.int .i64 0,.str [],.bool false])),
⟨none,.store (.t 8) (.t 32) 5,none⟩]
[2,3,6,8,27,28,29])
(.reg [oM 33 6,oF 34 8 1,oN 35 34 4,op 36 (.mkrow taV_ 4 1 (.agg [.int .i64 0,.int .i64 0,.str [],.bool false]) [(0,.t 35)]),op 37 (.app taV_ 4 40 (.t 33) (.t 36)),oM 6 37]
[2,3,6,27,28,29])))
(.reg [oK 38 .add 29 1,oM 29 38]
[2,3,6,27,28,29])))))))
(.seq (.reg [oN 40 2 9,oF 41 3 3,oL 42 41,oM 43 6,op 44 (.call neV_ [.t 40,.t 42,.k (.nils),.t 43]),oM 39 44,oE 45 39 0,oE 46 39 1,op 9 (.alloc taV_ 4 (.agg [.int .i64 0,.int .i64 0,.str [],.bool false])),
⟨none,.store (.t 9) (.t 45) 4,none⟩,oM 10 46]
[9,10])
(.seq (.reg [oM 47 10,oK 48 .neq 47 0,oM 49 48,qF 50 9 3 49 false,qL 51 50 49 false,oG 52 (.un .not (.t 51)) 49 false,oO 53 49 52,oM 4 53]
[4])
.ret))))))))⟩
abbrev pln_:=@pcR nln_ Tryz.f96 cln_ Tryz.func96 (by kernel_rfl)
def cln1_:AFun:=⟨11,1,[.t 2],
 (.seq (.reg [op 1 (.box taN_ 7 (.t 0)),oV 2 false]
[1])
(.seq (.reg [oF 3 1 0,oL 4 3,oK 5 .eql 4 2,oM 6 5,qF 7 1 0 6 false,qL 8 7 6 false,qK 9 .eql 8 3 6 false,oO 10 6 9,oM 2 10]
[2])
.ret))⟩
abbrev pln1_:=@pcR nln1_ Tryz.f159 cln1_ Tryz.func159 (by kernel_rfl)
def clr_:AFun:=⟨44,1,[.t 2],
 (.seq (.reg [op 1 (.box taQ_ 9 (.t 0)),op 2 (.nilrow ti_ 1)]
[1])
(.seq (.reg [oF 7 1 5,oL 8 7,op 9 (.mkrow ti_ 1 1 (.int .i64 0) [(0,.t 8)]),oM 3 9]
[1,3])
(.seq (.seq (.reg [oC 4 0]
[1,3,4])
(.block 0
(.loop [1,3,4] [1,2,9,41]
 (.seq (.seq (.reg [oM 10 4,oM 11 3,oZ 12 11,oB 13 .lss 10 12]
[1,3,4,13])
(.cond (.t 13)
.skip
(.exit 0)))
(.seq (.block 1
(.seq (.reg [oF 16 1 8,oL 17 16,oZ 18 17,oC 19 0]
[1,3,4,17,18,19])
(.block 2
(.loop [1,3,4,17,18,19] [1,2,9,12,18,41]
 (.seq (.reg [oB 20 .lss 19 18]
[1,3,4,17,18,19,20])
(.seq (.cond (.t 20)
.skip
(.exit 2))
(.seq (.block 3
(.seq (.reg [oI 21 5 17 19,oN 22 21 5,op 6 (.alloc taT_ 5 (.agg [.int .i64 0,.int .i64 0,.int .i64 0,.int .i64 0,.nils])),
⟨none,.store (.t 6) (.t 22) 5,none⟩]
[1,3,4,6,17,18,19])
(.seq (.dreg [oF 23 6 0,oL 24 23,oM 25 3,oM 26 4,oI 27 1 25 26,oL 28 27,oB 29 .eql 24 28,oM 30 29,qM 31 3 30 true,qF 32 6 2 30 true,qL 33 32 30 true,oG 34 (.call nsCii_ [.t 31,.t 33]) 30 true,oG 35 (.un .not (.t 34)) 30 true,oA 36 30 35]
[1,3,4,6,17,18,19,36])
(.cond (.t 36)
(.reg [oM 37 3,oF 38 6 2,oL 39 38,op 40 (.mkrow ti_ 1 1 (.int .i64 0) [(0,.t 39)]),op 41 (.app ti_ 1 8 (.t 37) (.t 40)),oM 3 41]
[1,3,4,17,18,19])
.skip))))
(.reg [oK 42 .add 19 1,oM 19 42]
[1,3,4,17,18,19]))))))))
(.reg [oM 14 4,oK 15 .add 14 1,oM 4 15]
[1,3,4]))))))
(.seq (.reg [oM 43 3,oM 2 43]
[2])
.ret))))⟩
abbrev plr_:=@pcR nlr_ Tryz.f82 clr_ Tryz.func82 (by kernel_rfl)
def cnA_:AFun:=⟨17,2,[.t 4,.t 5],
 (.seq (.reg [oC 4 0,oC 5 0]
[0,1])
(.seq (.seq (.reg [oM 7 0,oM 8 1,oB 9 .add 7 8,oM 6 9]
[0,1,6])
(.seq (.reg [oM 10 6,oM 11 0,oB 12 .lss 10 11,oM 13 1,oK 14 .lss 13 0,op 15 (.eqB false (.t 12) (.t 14))]
[6,15])
(.cond (.t 15)
(.seq (.reg [oM 16 6,oM 4 16,oC 5 0]
[4,5])
.ret)
.skip)))
(.seq (.reg [oC 4 0,oC 5 6]
[4,5])
.ret)))⟩
abbrev pnA_:=@pcR nnA_ Tryz.f306 cnA_ Tryz.func306 (by kernel_rfl)
def cnD_:AFun:=⟨19,2,[.t 4,.t 5],
 (.seq (.reg [oC 4 0,oC 5 0]
[0,1])
(.seq (.block 0
(.seq (.reg [oM 7 1,oK 8 .eql 7 0,oM 6 8]
[0,1,6])
(.cond (.t 6)
(.seq (.reg [oC 4 0,oC 5 7]
[4,5])
.ret)
(.seq (.reg [oM 10 1,op 11 (.bin .eql (.t 10) (.k (.int .i64 (-1)))),oM 9 11]
[0,1,9])
(.cond (.t 9)
(.seq (.reg [oM 12 0,op 13 (.call nnN_ [.t 12]),oE 14 13 0,oE 15 13 1,oM 4 14,oM 5 15]
[4,5])
.ret)
.skip)))))
(.seq (.reg [oM 16 0,oM 17 1,oB 18 .quo 16 17,oM 4 18,oC 5 0]
[4,5])
.ret)))⟩
abbrev pnD_:=@pcR nnD_ Tryz.f308 cnD_ Tryz.func308 (by kernel_rfl)
def cn10:AFun:=⟨15,2,[.t 4,.t 5],
 (.seq (.reg [oC 4 0,oC 5 0]
[0,1])
(.seq (.block 0
(.seq (.reg [oM 7 1,oK 8 .eql 7 0,oM 6 8]
[0,1,6])
(.cond (.t 6)
(.seq (.reg [oC 4 0,oC 5 7]
[4,5])
.ret)
(.seq (.reg [oM 10 1,op 11 (.bin .eql (.t 10) (.k (.int .i64 (-1)))),oM 9 11]
[0,1,9])
(.cond (.t 9)
(.seq (.reg [oC 4 0,oC 5 0]
[4,5])
.ret)
.skip)))))
(.seq (.reg [oM 12 0,oM 13 1,oB 14 .rem 12 13,oM 4 14,oC 5 0]
[4,5])
.ret)))⟩
abbrev pn10:=@pcR nn10 Tryz.f309 cn10 Tryz.func309 (by kernel_rfl)
def cnM_:AFun:=⟨42,2,[.t 4,.t 5],
 (.seq (.reg [oC 4 0,oC 5 0]
[0,1])
(.seq (.reg [oM 10 0,op 11 (.call nns_ [.t 10]),oM 12 1,op 13 (.call nns_ [.t 12]),op 14 (.call nmbM_ [.t 11,.t 13]),oM 9 14,oE 15 9 0,oE 16 9 1,oM 6 15,oM 7 16]
[0,1,6,7])
(.seq (.reg [oM 17 0,oK 18 .lss 17 0,oM 19 1,oK 20 .lss 19 0,op 21 (.eqB true (.t 18) (.t 20)),oM 8 21]
[6,7,8])
(.seq (.block 0
(.seq (.reg [oM 23 6,op 24 (.bin .gtr (.t 23) (.k (.int .u64 0))),oM 22 24]
[7,8,22])
(.cond (.t 22)
(.seq (.reg [oC 4 0,oC 5 6]
[4,5])
.ret)
(.seq (.reg [oM 26 8,oM 27 26,qM 28 7 27 true,oG 29 (.bin .leq (.t 28) (.k (.int .u64 9223372036854775808))) 27 true,oA 30 27 29,oM 25 30]
[7,8,25])
(.cond (.t 25)
(.seq (.reg [oM 31 7,op 32 (.conv .i64 (.t 31)),op 33 (.un .neg (.t 32)),oM 4 33,oC 5 0]
[4,5])
.ret)
(.seq (.reg [oM 35 8,oM 36 35,qM 37 7 36 false,oG 38 (.bin .gtr (.t 37) (.k (.int .u64 9223372036854775807))) 36 false,oO 39 36 38,oM 34 39]
[7,34])
(.cond (.t 34)
(.seq (.reg [oC 4 0,oC 5 6]
[4,5])
.ret)
.skip)))))))
(.seq (.reg [oM 40 7,op 41 (.conv .i64 (.t 40)),oM 4 41,oC 5 0]
[4,5])
.ret)))))⟩
abbrev pnM_:=@pcR nnM_ Tryz.f307 cnM_ Tryz.func307 (by kernel_rfl)
def cnN_:AFun:=⟨8,1,[.t 2,.t 3],
 (.seq (.reg [oC 2 0,oC 3 0]
[0])
(.seq (.reg [oM 4 0,op 5 (.call nnS_ [.k (.int .i64 0),.t 4]),oE 6 5 0,oE 7 5 1,oM 2 6,oM 3 7]
[2,3])
.ret))⟩
abbrev pnN_:=@pcR nnN_ Tryz.f312 cnN_ Tryz.func312 (by kernel_rfl)
def cnO_:AFun:=⟨47,3,[.t 6,.t 7],
 (.seq (.reg [oC 6 0,oC 7 0]
[0,1,2])
(.seq (.seq (.reg [oM 8 0]
[1,2,8])
(.block 0
(.seq (.block 6
(.seq (.block 5
(.seq (.block 4
(.seq (.block 3
(.seq (.block 2
(.seq (.block 1
(.seq (.seq (.seq (.reg [oK 10 .eql 8 5,oM 9 10]
[1,2,8,9])
(.cond (.t 9)
(.exit 1)
.skip))
(.seq (.seq (.reg [oK 12 .eql 8 9,oM 11 12]
[1,2,8,11])
(.cond (.t 11)
(.exit 2)
.skip))
(.seq (.seq (.reg [oK 14 .eql 8 8,oM 13 14]
[1,2,8,13])
(.cond (.t 13)
(.exit 3)
.skip))
(.seq (.seq (.reg [oK 16 .eql 8 10,oM 15 16]
[1,2,8,15])
(.cond (.t 15)
(.exit 4)
.skip))
(.seq (.seq (.reg [oK 18 .eql 8 11,oM 17 18]
[1,2,8,17])
(.cond (.t 17)
(.exit 5)
.skip))
(.seq (.reg [oK 20 .eql 8 12,oM 19 20]
[1,2,19])
(.cond (.t 19)
(.exit 6)
.skip)))))))
(.exit 0)))
(.reg [oM 21 1,oC 1 0,oM 2 21]
[1,2])))
(.seq (.seq (.reg [oM 22 1,oM 23 2,op 24 (.call nnS_ [.t 22,.t 23]),oE 25 24 0,oE 26 24 1,oM 6 25,oM 7 26]
[6,7])
.ret)
(.exit 0))))
(.seq (.seq (.reg [oM 27 1,oM 28 2,op 29 (.call nnA_ [.t 27,.t 28]),oE 30 29 0,oE 31 29 1,oM 6 30,oM 7 31]
[6,7])
.ret)
(.exit 0))))
(.seq (.seq (.reg [oM 32 1,oM 33 2,op 34 (.call nnM_ [.t 32,.t 33]),oE 35 34 0,oE 36 34 1,oM 6 35,oM 7 36]
[6,7])
.ret)
(.exit 0))))
(.seq (.seq (.reg [oM 37 1,oM 38 2,op 39 (.call nnD_ [.t 37,.t 38]),oE 40 39 0,oE 41 39 1,oM 6 40,oM 7 41]
[6,7])
.ret)
(.exit 0))))
(.seq (.seq (.reg [oM 42 1,oM 43 2,op 44 (.call nn10 [.t 42,.t 43]),oE 45 44 0,oE 46 44 1,oM 6 45,oM 7 46]
[6,7])
.ret)
(.exit 0)))))
(.seq (.reg [oC 6 0,oC 7 1]
[6,7])
.ret)))⟩
abbrev pnO_:=@pcR nnO_ Tryz.f300 cnO_ Tryz.func300 (by kernel_rfl)
def cnS_:AFun:=⟨17,2,[.t 4,.t 5],
 (.seq (.reg [oC 4 0,oC 5 0]
[0,1])
(.seq (.seq (.reg [oM 7 0,oM 8 1,oB 9 .sub 7 8,oM 6 9]
[0,1,6])
(.seq (.reg [oM 10 6,oM 11 0,oB 12 .gtr 10 11,oM 13 1,oK 14 .lss 13 0,op 15 (.eqB false (.t 12) (.t 14))]
[6,15])
(.cond (.t 15)
(.seq (.reg [oM 16 6,oM 4 16,oC 5 0]
[4,5])
.ret)
.skip)))
(.seq (.reg [oC 4 0,oC 5 6]
[4,5])
.ret)))⟩
abbrev pnS_:=@pcR nnS_ Tryz.f305 cnS_ Tryz.func305 (by kernel_rfl)
def cnT_:AFun:=⟨5,1,[.t 2],
 (.seq (.reg [op 2 (.mov (.k (.str [])))]
[0])
(.seq (.reg [oM 3 0,op 4 (.call nsF_ [.t 3,.k (.int .i64 10)]),oM 2 4]
[2])
.ret))⟩
abbrev pnT_:=@pcR nnT_ Tryz.f121 cnT_ Tryz.func121 (by kernel_rfl)
def cns_:AFun:=⟨10,1,[.t 2],
 (.seq (.reg [op 2 (.mov (.k (.int .u64 0)))]
[0])
(.seq (.seq (.reg [oM 3 0,oK 4 .lss 3 0]
[0,4])
(.cond (.t 4)
(.seq (.reg [oM 5 0,op 6 (.conv .u64 (.t 5)),op 7 (.un .neg (.t 6)),oM 2 7]
[2])
.ret)
.skip))
(.seq (.reg [oM 8 0,op 9 (.conv .u64 (.t 8)),oM 2 9]
[2])
.ret)))⟩
abbrev pns_:=@pcR nns_ Tryz.f311 cns_ Tryz.func311 (by kernel_rfl)
def cp11:AFun:=⟨174,3,[.t 6],
 (.seq (.reg [op 3 (.box taQ_ 9 (.t 0)),oV 6 false]
[1,2,3])
(.seq (.seq (.reg [oN 19 3 9,op 20 (.call np37 [.t 19]),oK 21 .eql 20 0,oM 22 21,qM 23 2 22 false,oG 24 (.len false (.t 23)) 22 false,qK 25 .gtr 24 12 22 false,oO 26 22 25,oM 27 26,qM 28 1 27 false,oG 29 (.len false (.t 28)) 27 false,qK 30 .gtr 29 8 27 false,oO 31 27 30,oM 32 31,qN 33 3 9 32 false,oG 34 (.call np24 [.t 33]) 32 false,oG 35 (.un .not (.t 34)) 32 false,oO 36 32 35]
[1,2,3,36])
(.cond (.t 36)
(.seq (.reg [op 37 (.call npa_ []),oM 6 37]
[6])
.ret)
.skip))
(.seq (.seq (.reg [oC 7 0]
[1,2,3,7])
(.block 0
(.loop [1,2,3,7] [3,20,24,29,34,37]
 (.seq (.seq (.reg [oM 38 7,oM 39 1,oZ 40 39,oB 41 .lss 38 40]
[1,2,3,7,41])
(.cond (.t 41)
.skip
(.exit 0)))
(.seq (.block 1
(.seq (.dreg [oM 44 1,oM 45 7,oI 46 5 44 45,oF 47 46 0,oL 48 47,oM 49 7,oB 50 .neq 48 49,oM 51 50,qM 52 7 51 false,qF 53 3 2 51 false,qL 54 53 51 false,oG 55 (.len false (.t 54)) 51 false,qB 56 .geq 52 55 51 false,oO 57 51 56,oM 58 57,qM 59 1 58 false,qM 60 7 58 false,qI 61 5 59 60 58 false,qF 62 61 1 58 false,qF 63 62 0 58 false,qL 64 63 58 false,qF 65 3 2 58 false,qL 66 65 58 false,qM 67 7 58 false,qI 68 3 66 67 58 false,qF 69 68 2 58 false,qL 70 69 58 false,qB 71 .neq 64 70 58 false,oO 72 58 71]
[1,2,3,7,72])
(.cond (.t 72)
(.seq (.reg [op 73 (.call npa_ []),oM 6 73]
[6])
.ret)
.skip)))
(.reg [oM 42 7,oK 43 .add 42 1,oM 7 43]
[1,2,3,7]))))))
(.seq (.reg [oN 74 3 9,op 75 (.call nlA_ [.t 74]),oM 8 75]
[1,2,3,8])
(.seq (.reg [oN 76 3 9,oM 77 8,op 78 (.call np17 [.t 76,.t 77]),op 9 (.alloc taQ_ 9 (.agg [.str [],.nils,.nils,.nils,.nils,.int .i64 0,.nils,.nils,.nils])),
⟨none,.store (.t 9) (.t 78) 9,none⟩]
[1,2,3,8,9])
(.seq (.reg [oN 79 3 9,op 80 (.call np11 [.t 79]),oM 10 80]
[1,2,3,8,9,10])
(.seq (.reg [oN 81 3 9,op 82 (.call np11 [.t 81]),oM 11 82]
[1,2,3,8,9,10,11])
(.seq (.seq (.reg [oC 12 0]
[1,2,3,8,9,10,11,12])
(.block 2
(.loop [1,2,3,8,9,10,11,12] [3,20,24,29,34,37,40,55,73,75,78,9,80,82]
 (.seq (.seq (.reg [oM 83 12,oM 84 2,oZ 85 84,oB 86 .lss 83 85]
[1,2,3,8,9,10,11,12,86])
(.cond (.t 86)
.skip
(.exit 2)))
(.seq (.block 3
(.seq (.seq (.dreg [oM 89 2,oM 90 12,oI 91 2 89 90,oF 92 91 1,oL 93 92,oZ 94 93,oK 95 .gtr 94 12,oM 96 95,qF 97 3 1 96 false,qL 98 97 96 false,qM 99 2 96 false,qM 100 12 96 false,qI 101 2 99 100 96 false,qN 102 101 2 96 false,oG 103 (.call np25 [.t 98,.t 102]) 96 false,oG 104 (.un .not (.t 103)) 96 false,oO 105 96 104]
[1,2,3,8,9,10,11,12,105])
(.cond (.t 105)
(.seq (.reg [op 106 (.call npa_ []),oM 6 106]
[6])
.ret)
.skip))
(.seq (.dreg [oN 108 3 9,oM 109 1,oM 110 10,oM 111 2,oM 112 12,oI 113 2 111 112,oN 114 113 2,op 115 (.call npE_ [.t 108,.t 109,.t 110,.t 114]),oM 107 115,oE 116 107 0,oE 117 107 1,oM 13 116,oM 14 117]
[1,2,3,8,9,11,12,13,14])
(.seq (.seq (.reg [oM 118 14,oK 119 .neq 118 0]
[1,2,3,8,9,11,12,13,119])
(.cond (.t 119)
(.seq (.reg [op 120 (.call npa_ []),oM 6 120]
[6])
.ret)
.skip))
(.seq (.dreg [oN 122 9 9,oM 123 1,oM 124 11,oM 125 2,oM 126 12,oI 127 2 125 126,oN 128 127 2,op 129 (.call npE_ [.t 122,.t 123,.t 124,.t 128]),oM 121 129,oE 130 121 0,oE 131 121 1,oM 15 130,oM 16 131]
[1,2,3,8,9,12,13,15,16])
(.seq (.seq (.reg [oM 132 16,oK 133 .neq 132 0,oM 134 133,qM 135 13 134 false,qM 136 15 134 false,oG 137 (.call np16 [.t 135,.t 136]) 134 false,oG 138 (.un .not (.t 137)) 134 false,oO 139 134 138]
[1,2,3,8,9,12,13,15,139])
(.cond (.t 139)
(.seq (.reg [oV 6 false]
[6])
.ret)
.skip))
(.seq (.seq (.reg [oC 17 0]
[1,2,3,8,9,12,13,15,17])
(.block 4
(.loop [1,2,3,8,9,12,13,15,17] [3,20,24,29,34,37,40,55,73,75,78,9,80,82,85,94,103,106,115,120,129,137]
 (.seq (.seq (.reg [oM 140 17,oM 141 13,oZ 142 141,oB 143 .lss 140 142]
[1,2,3,8,9,12,13,15,17,143])
(.cond (.t 143)
.skip
(.exit 4)))
(.seq (.block 5
(.seq (.reg [oC 18 0]
[1,2,3,8,9,12,13,15,17,18])
(.block 6
(.loop [1,2,3,8,9,12,13,15,17,18] [3,20,24,29,34,37,40,55,73,75,78,9,80,82,85,94,103,106,115,120,129,137,142]
 (.seq (.seq (.reg [oM 146 18,oM 147 8,oZ 148 147,oB 149 .lss 146 148]
[1,2,3,8,9,12,13,15,17,18,149])
(.cond (.t 149)
.skip
(.exit 6)))
(.seq (.block 7
(.seq (.dreg [oM 152 8,oM 153 18,oI 154 2 152 153,oF 155 154 0,oL 156 155,oK 157 .eql 156 1,oM 158 157,qM 159 8 158 true,qM 160 18 158 true,qI 161 2 159 160 158 true,qF 162 161 1 158 true,qL 163 162 158 true,qM 164 13 158 true,qM 165 17 158 true,qI 166 2 164 165 158 true,qF 167 166 0 158 true,qL 168 167 158 true,qB 169 .eql 163 168 158 true,oA 170 158 169]
[1,2,3,8,9,12,13,15,17,18,170])
(.cond (.t 170)
(.seq (.reg [oV 6 false]
[6])
.ret)
.skip)))
(.reg [oM 150 18,oK 151 .add 150 1,oM 18 151]
[1,2,3,8,9,12,13,15,17,18])))))))
(.reg [oM 144 17,oK 145 .add 144 1,oM 17 145]
[1,2,3,8,9,12,13,15,17]))))))
(.seq (.reg [oM 171 13,oM 10 171]
[1,2,3,8,9,10,12,15])
(.reg [oM 172 15,oM 11 172]
[1,2,3,8,9,10,11,12])))))))))
(.reg [oM 87 12,oK 88 .add 87 1,oM 12 88]
[1,2,3,8,9,10,11,12]))))))
(.seq (.reg [op 173 (.call npa_ []),oM 6 173]
[6])
.ret)))))))))⟩
abbrev pp11:=@pcR np32 Tryz.f7 cp11 Tryz.func7 (by kernel_rfl)
def cpa_:AFun:=⟨8,0,[.t 0],
 (.seq (.reg [oV 0 false]
[])
(.seq (.reg [op 1 (.build [.str [],.bool false,.bool false] [(0,1,.k (.str [115]))]),op 2 (.mkrow ta14 3 1 (.agg [.str [],.bool false,.bool false]) [(0,.t 1)]),op 3 (.build [.str [],.nils,.nils,.nils,.nils,.int .i64 0,.nils,.nils,.nils] [(0,1,.k (.str [113])),(4,1,.t 2)]),op 4 (.call nlT_ [.t 3]),op 5 (.bin .eql (.t 4) (.k (.str [100,101,97,100,32,115,10]))),oM 6 5,op 7 (.pick (.t 6) (.k (.bool true)) (.k (.bool false))),oM 0 7]
[0])
.ret))⟩
theorem kpa_:chkF Tryz.prog Tryz.f46 cpa_=true:=by kernel_rfl
theorem pp24 {G:Nat→Option AV} {args:List AV} {r:AV} (h:∀c,c=cpa_→Runs Tryz.prog G c args r) (hk:args.length=cpa_.k:=by rfl):P_ Tryz.prog G npa_ args r:=by
 generalize hc:cpa_=c at*
 have k:=kpa_
 rw[hc] at k
 generalize hf:Tryz.f46=f at*
 have h:=h _ rfl
 exact P_.of_runs (fn:=f) (A:=c) (hf ▸ Tryz.func46) k hk h
def cpw_:AFun:=⟨53,2,[.cells 4 9],
 (.seq (.reg [op 2 (.box taQ_ 9 (.t 0)),op 4 (.alloc taQ_ 9 (.agg [.str [],.nils,.nils,.nils,.nils,.int .i64 0,.nils,.nils,.nils]))]
[1,2,4])
(.seq (.reg [op 5 (.nilrow taT_ 5)]
[1,2,4,5])
(.seq (.seq (.reg [oC 6 0]
[1,2,4,5,6])
(.block 0
(.loop [1,2,4,5,6] [2,4,5,49]
 (.seq (.seq (.reg [oM 9 6,oF 10 2 8,oL 11 10,oZ 12 11,oB 13 .lss 9 12]
[1,2,4,5,6,13])
(.cond (.t 13)
.skip
(.exit 0)))
(.seq (.block 1
(.seq (.reg [oV 7 false]
[1,2,4,5,6,7])
(.seq (.seq (.reg [oC 8 0]
[1,2,4,5,6,7,8])
(.block 2
(.loop [1,2,4,5,6,7,8] [2,4,5,12]
 (.seq (.seq (.reg [oM 16 8,oM 17 1,oZ 18 17,oB 19 .lss 16 18]
[1,2,4,5,6,7,8,19])
(.cond (.t 19)
.skip
(.exit 2)))
(.seq (.block 3
(.reg [oM 22 7,oM 23 22,qM 24 1 23 false,qM 25 8 23 false,qI 26 2 24 25 23 false,qF 27 26 0 23 false,qL 28 27 23 false,qK 29 .eql 28 5 23 false,qM 30 29 23 false,qM 31 1 30 true,qM 32 8 30 true,qI 33 2 31 32 30 true,qF 34 33 1 30 true,qL 35 34 30 true,qM 36 6 30 true,qB 37 .eql 35 36 30 true,qA 38 30 37 23 false,oO 39 23 38,oM 7 39]
[1,2,4,5,6,7,8]))
(.reg [oM 20 8,oK 21 .add 20 1,oM 8 21]
[1,2,4,5,6,7,8]))))))
(.seq (.reg [oM 40 7,oU 41 40]
[1,2,4,5,6,41])
(.cond (.t 41)
(.reg [oM 42 5,oF 43 2 8,oL 44 43,oM 45 6,oI 46 5 44 45,oN 47 46 5,op 48 (.mkrow taT_ 5 1 (.agg [.int .i64 0,.int .i64 0,.int .i64 0,.int .i64 0,.nils]) [(0,.t 47)]),op 49 (.app taT_ 5 56 (.t 42) (.t 48)),oM 5 49]
[1,2,4,5,6])
.skip)))))
(.reg [oM 14 6,oK 15 .add 14 1,oM 6 15]
[1,2,4,5,6]))))))
(.seq (.reg [oM 50 5,oF 51 2 8,
⟨none,.store (.t 51) (.t 50) 1,none⟩]
[2,4])
(.seq (.reg [oN 52 2 9,
⟨none,.store (.t 4) (.t 52) 9,none⟩]
[4])
.ret)))))⟩
abbrev ppw_:=@pcR np17 Tryz.f52 cpw_ Tryz.func52 (by kernel_rfl)
def cpA_:AFun:=⟨27,2,[.t 4,.t 5],
 (.seq (.reg [oC 4 0,oV 5 false]
[0,1])
(.seq (.seq (.reg [oM 6 1,oK 7 .gtr 6 0,oM 8 7,qM 9 0 8 true,qM 10 1 8 true,oG 11 (.bin .sub (.k (.int .i64 9223372036854775807)) (.t 10)) 8 true,qB 12 .gtr 9 11 8 true,oA 13 8 12,oM 14 13,qM 15 1 14 false,qK 16 .lss 15 0 14 false,qM 17 16 14 false,qM 18 0 17 true,qM 19 1 17 true,oG 20 (.bin .sub (.k (.int .i64 (-9223372036854775808))) (.t 19)) 17 true,qB 21 .lss 18 20 17 true,qA 22 17 21 14 false,oO 23 14 22]
[0,1,23])
(.cond (.t 23)
(.seq (.reg [oC 4 0,oV 5 false]
[4,5])
.ret)
.skip))
(.seq (.reg [oM 24 0,oM 25 1,oB 26 .add 24 25,oM 4 26,oV 5 true]
[4,5])
.ret)))⟩
abbrev ppA_:=@pcR npA_ Tryz.f285 cpA_ Tryz.func285 (by kernel_rfl)
def cpD_:AFun:=⟨27,2,[.t 4,.t 5,.t 6],
 (.seq (.reg [oC 4 0,oC 5 0,oC 6 0]
[0,1])
(.seq (.seq (.reg [oM 9 1,oK 10 .eql 9 0]
[0,1,10])
(.cond (.t 10)
(.seq (.reg [oC 4 0,oC 5 0,oC 6 7]
[4,5,6])
.ret)
.skip))
(.seq (.seq (.reg [oM 11 1,op 12 (.bin .eql (.t 11) (.k (.int .i64 (-1))))]
[0,1,12])
(.cond (.t 12)
(.seq (.reg [oM 14 0,op 15 (.call npS_ [.k (.int .i64 0),.t 14]),oM 13 15,oE 16 13 0,oE 17 13 1,oM 7 16,oM 8 17]
[7,8])
(.seq (.seq (.reg [oM 18 8,oU 19 18]
[7,19])
(.cond (.t 19)
(.seq (.reg [oC 4 0,oC 5 0,oC 6 6]
[4,5,6])
.ret)
.skip))
(.seq (.reg [oM 20 7,oM 4 20,oC 5 0,oC 6 0]
[4,5,6])
.ret)))
.skip))
(.seq (.dreg [oM 21 0,oM 22 1,oB 23 .quo 21 22,oM 24 0,oM 25 1,oB 26 .rem 24 25,oM 4 23,oM 5 26,oC 6 0]
[4,5,6])
.ret))))⟩
abbrev ppD_:=@pcR npD_ Tryz.f289 cpD_ Tryz.func289 (by kernel_rfl)
def cpM_:AFun:=⟨81,2,[.t 4,.t 5],
 (.seq (.reg [oC 4 0,oV 5 false]
[0,1])
(.seq (.seq (.reg [oM 6 0,oK 7 .eql 6 0,oM 8 7,qM 9 1 8 false,qK 10 .eql 9 0 8 false,oO 11 8 10]
[0,1,11])
(.cond (.t 11)
(.seq (.reg [oC 4 0,oV 5 true]
[4,5])
.ret)
.skip))
(.seq (.seq (.reg [oM 12 0,op 13 (.bin .eql (.t 12) (.k (.int .i64 (-1))))]
[0,1,13])
(.cond (.t 13)
(.seq (.reg [oM 14 1,op 15 (.call npS_ [.k (.int .i64 0),.t 14]),oE 16 15 0,oE 17 15 1,oM 4 16,oM 5 17]
[4,5])
.ret)
.skip))
(.seq (.seq (.reg [oM 18 1,op 19 (.bin .eql (.t 18) (.k (.int .i64 (-1))))]
[0,1,19])
(.cond (.t 19)
(.seq (.reg [oM 20 0,op 21 (.call npS_ [.k (.int .i64 0),.t 20]),oE 22 21 0,oE 23 21 1,oM 4 22,oM 5 23]
[4,5])
.ret)
.skip))
(.seq (.seq (.reg [oM 24 0,oK 25 .gtr 24 0,oM 26 25,qM 27 1 26 true,qK 28 .gtr 27 0 26 true,oA 29 26 28,oM 30 29,qM 31 0 30 true,qM 32 1 30 true,oG 33 (.bin .quo (.k (.int .i64 9223372036854775807)) (.t 32)) 30 true,qB 34 .gtr 31 33 30 true,oA 35 30 34,oM 36 35,qM 37 0 36 false,qK 38 .gtr 37 0 36 false,qM 39 38 36 false,qM 40 1 39 true,qK 41 .lss 40 0 39 true,qA 42 39 41 36 false,qM 43 42 36 false,qM 44 1 43 true,qM 45 0 43 true,oG 46 (.bin .quo (.k (.int .i64 (-9223372036854775808))) (.t 45)) 43 true,qB 47 .lss 44 46 43 true,qA 48 43 47 36 false,oO 49 36 48,oM 50 49,qM 51 0 50 false,qK 52 .lss 51 0 50 false,qM 53 52 50 false,qM 54 1 53 true,qK 55 .gtr 54 0 53 true,qA 56 53 55 50 false,qM 57 56 50 false,qM 58 0 57 true,qM 59 1 57 true,oG 60 (.bin .quo (.k (.int .i64 (-9223372036854775808))) (.t 59)) 57 true,qB 61 .lss 58 60 57 true,qA 62 57 61 50 false,oO 63 50 62,oM 64 63,qM 65 0 64 false,qK 66 .lss 65 0 64 false,qM 67 66 64 false,qM 68 1 67 true,qK 69 .lss 68 0 67 true,qA 70 67 69 64 false,qM 71 70 64 false,qM 72 0 71 true,qM 73 1 71 true,oG 74 (.bin .quo (.k (.int .i64 9223372036854775807)) (.t 73)) 71 true,qB 75 .lss 72 74 71 true,qA 76 71 75 64 false,oO 77 64 76]
[0,1,77])
(.cond (.t 77)
(.seq (.reg [oC 4 0,oV 5 false]
[4,5])
.ret)
.skip))
(.seq (.reg [oM 78 0,oM 79 1,oB 80 .mul 78 79,oM 4 80,oV 5 true]
[4,5])
.ret))))))⟩
abbrev ppM_:=@pcR npM_ Tryz.f288 cpM_ Tryz.func288 (by kernel_rfl)
def cp12:AFun:=⟨27,2,[.t 4,.t 5],
 (.seq (.reg [oC 4 0,oV 5 false]
[0,1])
(.seq (.seq (.reg [oM 6 1,oK 7 .lss 6 0,oM 8 7,qM 9 0 8 true,qM 10 1 8 true,oG 11 (.bin .add (.k (.int .i64 9223372036854775807)) (.t 10)) 8 true,qB 12 .gtr 9 11 8 true,oA 13 8 12,oM 14 13,qM 15 1 14 false,qK 16 .gtr 15 0 14 false,qM 17 16 14 false,qM 18 0 17 true,qM 19 1 17 true,oG 20 (.bin .add (.k (.int .i64 (-9223372036854775808))) (.t 19)) 17 true,qB 21 .lss 18 20 17 true,qA 22 17 21 14 false,oO 23 14 22]
[0,1,23])
(.cond (.t 23)
(.seq (.reg [oC 4 0,oV 5 false]
[4,5])
.ret)
.skip))
(.seq (.reg [oM 24 0,oM 25 1,oB 26 .sub 24 25,oM 4 26,oV 5 true]
[4,5])
.ret)))⟩
abbrev ppS_:=@pcR npS_ Tryz.f287 cp12 Tryz.func287 (by kernel_rfl)
def cpB_:AFun:=⟨37,2,[.t 4],
 (.seq (.reg [oV 4 false]
[0,1])
(.seq (.seq (.reg [oC 5 0]
[0,1,5])
(.block 0
(.loop [0,1,5] []
 (.seq (.seq (.reg [oM 6 5,oM 7 0,op 8 (.len true (.t 7)),oB 9 .lss 6 8,oM 10 9,qM 11 5 10 true,qM 12 1 10 true,oG 13 (.len true (.t 12)) 10 true,qB 14 .lss 11 13 10 true,oA 15 10 14]
[0,1,5,15])
(.cond (.t 15)
.skip
(.exit 0)))
(.seq (.block 1
(.seq (.dreg [oM 18 0,oM 19 5,op 20 (.idx (.t 18) (.t 19)),oM 21 1,oM 22 5,op 23 (.idx (.t 21) (.t 22)),oB 24 .neq 20 23]
[0,1,5,24])
(.cond (.t 24)
(.seq (.dreg [oM 25 0,oM 26 5,op 27 (.idx (.t 25) (.t 26)),oM 28 1,oM 29 5,op 30 (.idx (.t 28) (.t 29)),oB 31 .lss 27 30,oM 4 31]
[4])
.ret)
.skip)))
(.reg [oM 16 5,oK 17 .add 16 1,oM 5 17]
[0,1,5]))))))
(.seq (.reg [oM 32 0,op 33 (.len true (.t 32)),oM 34 1,op 35 (.len true (.t 34)),oB 36 .lss 33 35,oM 4 36]
[4])
.ret)))⟩
abbrev ppB_:=@pcR npB_ Tryz.f233 cpB_ Tryz.func233 (by kernel_rfl)
def cpL_:AFun:=⟨38,2,[.t 4],
 (.seq (.reg [op 2 (.box taV_ 4 (.t 0)),op 3 (.box taV_ 4 (.t 1)),oV 4 false]
[2,3])
(.seq (.seq (.reg [oF 5 2 0,oL 6 5,oF 7 3 0,oL 8 7,oB 9 .neq 6 8]
[2,3,9])
(.cond (.t 9)
(.seq (.reg [oF 10 2 0,oL 11 10,oF 12 3 0,oL 13 12,oB 14 .lss 11 13,oM 4 14]
[4])
.ret)
.skip))
(.seq (.seq (.reg [oF 15 2 0,oL 16 15,oK 17 .eql 16 1]
[2,3,17])
(.cond (.t 17)
(.seq (.reg [oF 18 2 1,oL 19 18,oF 20 3 1,oL 21 20,oB 22 .lss 19 21,oM 4 22]
[4])
.ret)
.skip))
(.seq (.seq (.reg [oF 23 2 0,oL 24 23,oK 25 .eql 24 2]
[2,3,25])
(.cond (.t 25)
(.seq (.reg [oF 26 2 2,oL 27 26,oF 28 3 2,oL 29 28,op 30 (.call npB_ [.t 27,.t 29]),oM 4 30]
[4])
.ret)
.skip))
(.seq (.reg [oF 31 2 3,oL 32 31,oU 33 32,oM 34 33,qF 35 3 3 34 true,qL 36 35 34 true,oA 37 34 36,oM 4 37]
[4])
.ret)))))⟩
abbrev ppL_:=@pcR npL_ Tryz.f167 cpL_ Tryz.func167 (by kernel_rfl)
def cpO_:AFun:=⟨145,3,[.cells 6 4,.t 7],
 (.seq (.reg [op 4 (.box taV_ 4 (.t 1)),op 5 (.box taV_ 4 (.t 2)),op 6 (.alloc taV_ 4 (.agg [.int .i64 0,.int .i64 0,.str [],.bool false])),oC 7 0]
[0,4,5,6])
(.seq (.seq (.reg [oM 8 0,oK 9 .lss 8 4,oM 10 9,qM 11 0 10 false,qK 12 .gtr 11 16 10 false,oO 13 10 12]
[0,4,5,6,13])
(.cond (.t 13)
(.seq (.reg [op 14 (.build [.int .i64 0,.int .i64 0,.str [],.bool false] []),
⟨none,.store (.t 6) (.t 14) 4,none⟩,oC 7 1]
[6,7])
.ret)
.skip))
(.seq (.seq (.reg [oM 15 0,oK 16 .eql 15 4]
[0,4,5,6,16])
(.cond (.t 16)
(.seq (.seq (.reg [oF 17 4 0,oL 18 17,oK 19 .neq 18 3]
[4,6,19])
(.cond (.t 19)
(.seq (.reg [op 20 (.build [.int .i64 0,.int .i64 0,.str [],.bool false] []),
⟨none,.store (.t 6) (.t 20) 4,none⟩,oC 7 8]
[6,7])
.ret)
.skip))
(.seq (.reg [oF 21 4 3,oL 22 21,oU 23 22,op 24 (.call npt_ [.t 23]),oE 25 24 0,oE 26 24 1,
⟨none,.store (.t 6) (.t 25) 4,none⟩,oM 7 26]
[6,7])
.ret))
.skip))
(.seq (.seq (.reg [oM 27 0,oK 28 .eql 27 5]
[0,4,5,6,28])
(.cond (.t 28)
(.seq (.seq (.reg [oF 29 4 0,oL 30 29,oK 31 .neq 30 1]
[4,6,31])
(.cond (.t 31)
(.seq (.reg [op 32 (.build [.int .i64 0,.int .i64 0,.str [],.bool false] []),
⟨none,.store (.t 6) (.t 32) 4,none⟩,oC 7 8]
[6,7])
.ret)
.skip))
(.seq (.reg [oF 33 4 1,oL 34 33,op 35 (.call np10 [.k (.int .i64 9),.k (.int .i64 0),.t 34]),oE 36 35 0,oE 37 35 1,
⟨none,.store (.t 6) (.t 36) 4,none⟩,oM 7 37]
[6,7])
.ret))
.skip))
(.seq (.seq (.reg [oF 38 4 0,oL 39 38,oF 40 5 0,oL 41 40,oB 42 .neq 39 41]
[0,4,5,6,42])
(.cond (.t 42)
(.seq (.reg [op 43 (.build [.int .i64 0,.int .i64 0,.str [],.bool false] []),
⟨none,.store (.t 6) (.t 43) 4,none⟩,oC 7 8]
[6,7])
.ret)
.skip))
(.seq (.seq (.reg [oM 44 0,oK 45 .eql 44 13]
[0,4,5,6,45])
(.cond (.t 45)
(.seq (.reg [oN 46 4 4,oN 47 5 4,op 48 (.eqA false [0,0,1,2] (.t 46) (.t 47)),op 49 (.call npt_ [.t 48]),oE 50 49 0,oE 51 49 1,
⟨none,.store (.t 6) (.t 50) 4,none⟩,oM 7 51]
[6,7])
.ret)
.skip))
(.seq (.seq (.reg [oM 52 0,oK 53 .eql 52 14]
[0,4,5,6,53])
(.cond (.t 53)
(.seq (.reg [oN 54 4 4,oN 55 5 4,op 56 (.eqA true [0,0,1,2] (.t 54) (.t 55)),op 57 (.call npt_ [.t 56]),oE 58 57 0,oE 59 57 1,
⟨none,.store (.t 6) (.t 58) 4,none⟩,oM 7 59]
[6,7])
.ret)
.skip))
(.seq (.seq (.reg [oF 60 4 0,oL 61 60,oK 62 .eql 61 3]
[0,4,5,6,62])
(.cond (.t 62)
(.seq (.seq (.reg [oM 63 0,oK 64 .eql 63 6]
[0,4,5,6,64])
(.cond (.t 64)
(.seq (.reg [oF 65 4 3,oL 66 65,oM 67 66,qF 68 5 3 67 true,qL 69 68 67 true,oA 70 67 69,op 71 (.call npt_ [.t 70]),oE 72 71 0,oE 73 71 1,
⟨none,.store (.t 6) (.t 72) 4,none⟩,oM 7 73]
[6,7])
.ret)
.skip))
(.seq (.seq (.reg [oM 74 0,oK 75 .eql 74 7]
[4,5,6,75])
(.cond (.t 75)
(.seq (.reg [oF 76 4 3,oL 77 76,oM 78 77,qF 79 5 3 78 false,qL 80 79 78 false,oO 81 78 80,op 82 (.call npt_ [.t 81]),oE 83 82 0,oE 84 82 1,
⟨none,.store (.t 6) (.t 83) 4,none⟩,oM 7 84]
[6,7])
.ret)
.skip))
(.seq (.reg [op 85 (.build [.int .i64 0,.int .i64 0,.str [],.bool false] []),
⟨none,.store (.t 6) (.t 85) 4,none⟩,oC 7 8]
[6,7])
.ret)))
.skip))
(.seq (.seq (.reg [oM 86 0,oK 87 .eql 86 15]
[0,4,5,6,87])
(.cond (.t 87)
(.seq (.reg [oN 88 4 4,oN 89 5 4,op 90 (.call npL_ [.t 88,.t 89]),op 91 (.call npt_ [.t 90]),oE 92 91 0,oE 93 91 1,
⟨none,.store (.t 6) (.t 92) 4,none⟩,oM 7 93]
[6,7])
.ret)
.skip))
(.seq (.seq (.reg [oM 94 0,oK 95 .eql 94 16]
[0,4,5,6,95])
(.cond (.t 95)
(.seq (.reg [oN 96 5 4,oN 97 4 4,op 98 (.call npL_ [.t 96,.t 97]),oU 99 98,op 100 (.call npt_ [.t 99]),oE 101 100 0,oE 102 100 1,
⟨none,.store (.t 6) (.t 101) 4,none⟩,oM 7 102]
[6,7])
.ret)
.skip))
(.seq (.seq (.reg [oF 103 4 0,oL 104 103,oK 105 .eql 104 1,oM 106 105,qM 107 0 106 true,qK 108 .geq 107 8 106 true,oA 109 106 108,oM 110 109,qM 111 0 110 true,qK 112 .leq 111 12 110 true,oA 113 110 112]
[0,4,5,6,113])
(.cond (.t 113)
(.seq (.reg [oM 114 0,oF 115 4 1,oL 116 115,oF 117 5 1,oL 118 117,op 119 (.call np10 [.t 114,.t 116,.t 118]),oE 120 119 0,oE 121 119 1,
⟨none,.store (.t 6) (.t 120) 4,none⟩,oM 7 121]
[6,7])
.ret)
.skip))
(.seq (.seq (.reg [oF 122 4 0,oL 123 122,oK 124 .eql 123 2,oM 125 124,qM 126 0 125 true,qK 127 .eql 126 8 125 true,oA 128 125 127]
[4,5,6,128])
(.cond (.t 128)
(.seq (.seq (.reg [oF 129 4 2,oL 130 129,op 131 (.len true (.t 130)),oF 132 5 2,oL 133 132,op 134 (.len true (.t 133)),oB 135 .add 131 134,oK 136 .gtr 135 4096]
[4,5,6,136])
(.cond (.t 136)
(.seq (.reg [op 137 (.build [.int .i64 0,.int .i64 0,.str [],.bool false] []),
⟨none,.store (.t 6) (.t 137) 4,none⟩,oC 7 3]
[6,7])
.ret)
.skip))
(.seq (.reg [oF 138 4 2,oL 139 138,oF 140 5 2,oL 141 140,oB 142 .add 139 141,op 143 (.build [.int .i64 0,.int .i64 0,.str [],.bool false] [(0,1,.k (.int .i64 2)),(2,1,.t 142)]),
⟨none,.store (.t 6) (.t 143) 4,none⟩,oC 7 0]
[6,7])
.ret))
.skip))
(.seq (.reg [op 144 (.build [.int .i64 0,.int .i64 0,.str [],.bool false] []),
⟨none,.store (.t 6) (.t 144) 4,none⟩,oC 7 8]
[6,7])
.ret)))))))))))))⟩
abbrev ppO_:=@pcR npO_ Tryz.f231 cpO_ Tryz.func231 (by kernel_rfl)
def cp24:AFun:=⟨44,1,[.t 2],
 (.seq (.reg [op 1 (.box taV_ 4 (.t 0)),oV 2 false]
[1])
(.seq (.seq (.reg [oF 3 1 0,oL 4 3,oK 5 .eql 4 1]
[1,5])
(.cond (.t 5)
(.seq (.reg [oF 6 1 2,oL 7 6,op 8 (.bin .eql (.t 7) (.k (.str []))),oM 9 8,qF 10 1 3 9 true,qL 11 10 9 true,oG 12 (.un .not (.t 11)) 9 true,oA 13 9 12,oM 2 13]
[2])
.ret)
.skip))
(.seq (.seq (.reg [oF 14 1 0,oL 15 14,oK 16 .eql 15 2]
[1,16])
(.cond (.t 16)
(.seq (.reg [oF 17 1 1,oL 18 17,oK 19 .eql 18 0,oM 20 19,qF 21 1 3 20 true,qL 22 21 20 true,oG 23 (.un .not (.t 22)) 20 true,oA 24 20 23,oM 25 24,qF 26 1 2 25 true,qL 27 26 25 true,oG 28 (.len true (.t 27)) 25 true,qK 29 .leq 28 4096 25 true,oA 30 25 29,oM 2 30]
[2])
.ret)
.skip))
(.seq (.reg [oF 31 1 0,oL 32 31,oK 33 .eql 32 3,oM 34 33,qF 35 1 1 34 true,qL 36 35 34 true,qK 37 .eql 36 0 34 true,oA 38 34 37,oM 39 38,qF 40 1 2 39 true,qL 41 40 39 true,oG 42 (.bin .eql (.t 41) (.k (.str []))) 39 true,oA 43 39 42,oM 2 43]
[2])
.ret))))⟩
abbrev pp23:=@pcR npR_ Tryz.f76 cp24 Tryz.func76 (by kernel_rfl)
def cp10:AFun:=⟨76,3,[.cells 6 4,.t 7],
 (.seq (.reg [op 6 (.alloc taV_ 4 (.agg [.int .i64 0,.int .i64 0,.str [],.bool false])),oC 7 0]
[0,1,2,6])
(.seq (.seq (.reg [oM 17 0,oK 18 .eql 17 8]
[0,1,2,6,18])
(.cond (.t 18)
(.seq (.reg [oM 20 1,oM 21 2,op 22 (.call npA_ [.t 20,.t 21]),oM 19 22,oE 23 19 0,oE 24 19 1,oM 8 23,oM 9 24]
[6,8,9])
(.seq (.reg [oM 25 8,oM 26 9,op 27 (.call npn_ [.t 25,.t 26]),oE 28 27 0,oE 29 27 1,
⟨none,.store (.t 6) (.t 28) 4,none⟩,oM 7 29]
[6,7])
.ret))
.skip))
(.seq (.seq (.reg [oM 30 0,oK 31 .eql 30 9]
[0,1,2,6,31])
(.cond (.t 31)
(.seq (.reg [oM 33 1,oM 34 2,op 35 (.call npS_ [.t 33,.t 34]),oM 32 35,oE 36 32 0,oE 37 32 1,oM 10 36,oM 11 37]
[6,10,11])
(.seq (.reg [oM 38 10,oM 39 11,op 40 (.call npn_ [.t 38,.t 39]),oE 41 40 0,oE 42 40 1,
⟨none,.store (.t 6) (.t 41) 4,none⟩,oM 7 42]
[6,7])
.ret))
.skip))
(.seq (.seq (.reg [oM 43 0,oK 44 .eql 43 10]
[0,1,2,6,44])
(.cond (.t 44)
(.seq (.reg [oM 46 1,oM 47 2,op 48 (.call npM_ [.t 46,.t 47]),oM 45 48,oE 49 45 0,oE 50 45 1,oM 12 49,oM 13 50]
[6,12,13])
(.seq (.reg [oM 51 12,oM 52 13,op 53 (.call npn_ [.t 51,.t 52]),oE 54 53 0,oE 55 53 1,
⟨none,.store (.t 6) (.t 54) 4,none⟩,oM 7 55]
[6,7])
.ret))
.skip))
(.seq (.reg [oM 57 1,oM 58 2,op 59 (.call npD_ [.t 57,.t 58]),oM 56 59,oE 60 56 0,oE 61 56 1,oE 62 56 2,oM 14 60,oM 15 61,oM 16 62]
[0,6,14,15,16])
(.seq (.seq (.reg [oM 63 16,oK 64 .eql 63 7]
[0,6,14,15,16,64])
(.cond (.t 64)
(.seq (.reg [op 65 (.build [.int .i64 0,.int .i64 0,.str [],.bool false] []),
⟨none,.store (.t 6) (.t 65) 4,none⟩,oC 7 7]
[6,7])
.ret)
.skip))
(.seq (.seq (.reg [oM 66 0,oK 67 .eql 66 12]
[6,14,15,16,67])
(.cond (.t 67)
(.seq (.reg [oM 68 15,op 69 (.build [.int .i64 0,.int .i64 0,.str [],.bool false] [(0,1,.k (.int .i64 1)),(1,1,.t 68)]),
⟨none,.store (.t 6) (.t 69) 4,none⟩,oC 7 0]
[6,7])
.ret)
.skip))
(.seq (.reg [oM 70 14,oM 71 16,oK 72 .eql 71 0,op 73 (.call npn_ [.t 70,.t 72]),oE 74 73 0,oE 75 73 1,
⟨none,.store (.t 6) (.t 74) 4,none⟩,oM 7 75]
[6,7])
.ret))))))))⟩
abbrev ppa_:=@pcR np10 Tryz.f262 cp10 Tryz.func262 (by kernel_rfl)
def cpn_:AFun:=⟨11,2,[.cells 4 4,.t 5],
 (.seq (.reg [op 4 (.alloc taV_ 4 (.agg [.int .i64 0,.int .i64 0,.str [],.bool false])),oC 5 0]
[0,1,4])
(.seq (.seq (.reg [oM 6 1,oU 7 6]
[0,4,7])
(.cond (.t 7)
(.seq (.reg [op 8 (.build [.int .i64 0,.int .i64 0,.str [],.bool false] []),
⟨none,.store (.t 4) (.t 8) 4,none⟩,oC 5 6]
[4,5])
.ret)
.skip))
(.seq (.reg [oM 9 0,op 10 (.build [.int .i64 0,.int .i64 0,.str [],.bool false] [(0,1,.k (.int .i64 1)),(1,1,.t 9)]),
⟨none,.store (.t 4) (.t 10) 4,none⟩,oC 5 0]
[4,5])
.ret)))⟩
abbrev ppn_:=@pcR npn_ Tryz.f286 cpn_ Tryz.func286 (by kernel_rfl)
def cpt_:AFun:=⟨6,1,[.cells 2 4,.t 3],
 (.seq (.reg [op 2 (.alloc taV_ 4 (.agg [.int .i64 0,.int .i64 0,.str [],.bool false])),oC 3 0]
[0,2])
(.seq (.reg [oM 4 0,op 5 (.build [.int .i64 0,.int .i64 0,.str [],.bool false] [(0,1,.k (.int .i64 3)),(3,1,.t 4)]),
⟨none,.store (.t 2) (.t 5) 4,none⟩,oC 3 0]
[2,3])
.ret))⟩
abbrev ppt_:=@pcR npt_ Tryz.f261 cpt_ Tryz.func261 (by kernel_rfl)
def cp30:AFun:=⟨34,2,[.t 4],
 (.seq (.reg [oV 4 false]
[0,1])
(.seq (.seq (.reg [oC 5 0]
[0,1,5])
(.block 0
(.loop [0,1,5] []
 (.seq (.seq (.reg [oM 8 5,oM 9 0,oZ 10 9,oB 11 .lss 8 10]
[0,1,5,11])
(.cond (.t 11)
.skip
(.exit 0)))
(.seq (.block 1
(.seq (.reg [oM 15 1,oM 16 0,oM 17 5,oI 18 5 16 17,oF 19 18 0,oL 20 19,op 21 (.call npG_ [.t 15,.t 20]),oM 14 21,oE 22 14 0,oE 23 14 1,op 6 (.alloc taV_ 4 (.agg [.int .i64 0,.int .i64 0,.str [],.bool false])),
⟨none,.store (.t 6) (.t 22) 4,none⟩,oM 7 23]
[0,1,5,6,7])
(.seq (.dreg [oM 24 7,oM 25 24,qN 26 6 4 25 true,qM 27 0 25 true,qM 28 5 25 true,qI 29 5 27 28 25 true,qF 30 29 1 25 true,qN 31 30 4 25 true,oG 32 (.eqA true [0,0,1,2] (.t 26) (.t 31)) 25 true,oA 33 25 32]
[0,1,5,33])
(.cond (.t 33)
(.seq (.reg [oV 4 false]
[4])
.ret)
.skip))))
(.reg [oM 12 5,oK 13 .add 12 1,oM 5 13]
[0,1,5]))))))
(.seq (.reg [oV 4 true]
[4])
.ret)))⟩
abbrev pp30:=@pcR np31 Tryz.f142 cp30 Tryz.func142 (by kernel_rfl)
def cp37:AFun:=⟨26,2,[.cells 4 4,.t 5],
 (.seq (.reg [op 4 (.alloc taV_ 4 (.agg [.int .i64 0,.int .i64 0,.str [],.bool false])),oV 5 false]
[0,1,4])
(.seq (.seq (.reg [oC 6 0]
[0,1,4,6])
(.block 0
(.loop [0,1,4,6] [4]
 (.seq (.seq (.reg [oM 7 6,oM 8 0,oZ 9 8,oB 10 .lss 7 9]
[0,1,4,6,10])
(.cond (.t 10)
.skip
(.exit 0)))
(.seq (.block 1
(.seq (.reg [oM 13 0,oM 14 6,oI 15 5 13 14,oF 16 15 0,oL 17 16,oM 18 1,oB 19 .eql 17 18]
[0,1,4,6,19])
(.cond (.t 19)
(.seq (.reg [oM 20 0,oM 21 6,oI 22 5 20 21,oF 23 22 1,oN 24 23 4,
⟨none,.store (.t 4) (.t 24) 4,none⟩,oV 5 true]
[4,5])
.ret)
.skip)))
(.reg [oM 11 6,oK 12 .add 11 1,oM 6 12]
[0,1,4,6]))))))
(.seq (.reg [op 25 (.build [.int .i64 0,.int .i64 0,.str [],.bool false] []),
⟨none,.store (.t 4) (.t 25) 4,none⟩,oV 5 false]
[4,5])
.ret)))⟩
abbrev pp37:=@pcR npG_ Tryz.f141 cp37 Tryz.func141 (by kernel_rfl)
def cp23:AFun:=⟨35,2,[.t 4],
 (.seq (.reg [oV 4 false]
[0,1])
(.seq (.seq (.reg [oC 5 0]
[0,1,5])
(.block 0
(.loop [0,1,5] []
 (.seq (.seq (.reg [oM 8 5,oM 9 0,oZ 10 9,oB 11 .lss 8 10]
[0,1,5,11])
(.cond (.t 11)
.skip
(.exit 0)))
(.seq (.block 1
(.seq (.reg [oM 15 1,oM 16 0,oM 17 5,oI 18 5 16 17,oF 19 18 0,oL 20 19,op 21 (.call npG_ [.t 15,.t 20]),oM 14 21,oE 22 14 0,oE 23 14 1,op 6 (.alloc taV_ 4 (.agg [.int .i64 0,.int .i64 0,.str [],.bool false])),
⟨none,.store (.t 6) (.t 22) 4,none⟩,oM 7 23]
[0,1,5,6,7])
(.seq (.dreg [oM 24 7,oU 25 24,oM 26 25,qN 27 6 4 26 false,qM 28 0 26 false,qM 29 5 26 false,qI 30 5 28 29 26 false,qF 31 30 1 26 false,qN 32 31 4 26 false,oG 33 (.eqA true [0,0,1,2] (.t 27) (.t 32)) 26 false,oO 34 26 33]
[0,1,5,34])
(.cond (.t 34)
(.seq (.reg [oV 4 false]
[4])
.ret)
.skip))))
(.reg [oM 12 5,oK 13 .add 12 1,oM 5 13]
[0,1,5]))))))
(.seq (.reg [oV 4 true]
[4])
.ret)))⟩
abbrev pp22:=@pcR np28 Tryz.f78 cp23 Tryz.func78 (by kernel_rfl)
def cp22:AFun:=⟨42,2,[.t 4],
 (.seq (.reg [op 4 (.nilrow ta10 5)]
[0,1])
(.seq (.reg [op 5 (.nilrow ta10 5)]
[0,1,5])
(.seq (.seq (.reg [oC 6 0]
[0,1,5,6])
(.block 0
(.loop [0,1,5,6] [4,5,33,40]
 (.seq (.seq (.reg [oM 11 6,oK 12 .lss 11 8]
[0,1,5,6,12])
(.cond (.t 12)
.skip
(.exit 0)))
(.seq (.block 1
(.seq (.reg [oM 16 0,oM 17 6,op 18 (.call npG_ [.t 16,.t 17]),oM 15 18,oE 19 15 0,oE 20 15 1,op 7 (.alloc taV_ 4 (.agg [.int .i64 0,.int .i64 0,.str [],.bool false])),
⟨none,.store (.t 7) (.t 19) 4,none⟩,oM 8 20]
[0,1,5,6,7,8])
(.seq (.reg [oM 22 1,oM 23 6,op 24 (.call npG_ [.t 22,.t 23]),oM 21 24,oE 25 21 0,oE 26 21 1,op 9 (.alloc taV_ 4 (.agg [.int .i64 0,.int .i64 0,.str [],.bool false])),
⟨none,.store (.t 9) (.t 25) 4,none⟩,oM 10 26]
[0,1,5,6,7,8,9,10])
(.seq (.reg [oM 27 8]
[0,1,5,6,7,9,10,27])
(.cond (.t 27)
(.reg [oM 28 5,oM 29 6,oN 30 7 4,op 31 (.build [.int .i64 0,.int .i64 0,.int .i64 0,.str [],.bool false] [(0,1,.t 29),(1,4,.t 30)]),op 32 (.mkrow ta10 5 1 (.agg [.int .i64 0,.int .i64 0,.int .i64 0,.str [],.bool false]) [(0,.t 31)]),op 33 (.app ta10 5 48 (.t 28) (.t 32)),oM 5 33]
[0,1,5,6])
(.seq (.reg [oM 34 10]
[0,1,5,6,9,34])
(.cond (.t 34)
(.reg [oM 35 5,oM 36 6,oN 37 9 4,op 38 (.build [.int .i64 0,.int .i64 0,.int .i64 0,.str [],.bool false] [(0,1,.t 36),(1,4,.t 37)]),op 39 (.mkrow ta10 5 1 (.agg [.int .i64 0,.int .i64 0,.int .i64 0,.str [],.bool false]) [(0,.t 38)]),op 40 (.app ta10 5 48 (.t 35) (.t 39)),oM 5 40]
[0,1,5,6])
.skip)))))))
(.reg [oM 13 6,oK 14 .add 13 1,oM 6 14]
[0,1,5,6]))))))
(.seq (.reg [oM 41 5,oM 4 41]
[4])
.ret))))⟩
abbrev pp21:=@pcR np27 Tryz.f143 cp22 Tryz.func143 (by kernel_rfl)
def cpC_:AFun:=⟨72,1,[.t 2,.t 3],
 (.seq (.reg [oC 2 0,oC 3 0]
[0])
(.seq (.seq (.reg [oM 6 0,oZ 7 6,oK 8 .gtr 7 32]
[0,8])
(.cond (.t 8)
(.seq (.reg [oC 2 14,oC 3 32]
[2,3])
.ret)
.skip))
(.seq (.seq (.reg [oC 4 0]
[0,4])
(.block 0
(.loop [0,4] [7]
 (.seq (.seq (.reg [oM 9 4,oM 10 0,oZ 11 10,oB 12 .lss 9 11]
[0,4,12])
(.cond (.t 12)
.skip
(.exit 0)))
(.seq (.block 1
(.seq (.seq (.reg [oM 15 0,oM 16 4,oI 17 2 15 16,oF 18 17 0,oL 19 18,op 20 (.call npN_ [.t 19]),oU 21 20]
[0,4,21])
(.cond (.t 21)
(.seq (.reg [oM 22 4,oC 2 11,oM 3 22]
[2,3])
.ret)
.skip))
(.seq (.seq (.reg [oM 23 0,oM 24 0,oM 25 4,oI 26 2 24 25,oF 27 26 0,oL 28 27,op 29 (.call npF_ [.t 23,.t 28]),oM 30 4,oB 31 .lss 29 30]
[0,4,31])
(.cond (.t 31)
(.seq (.reg [oM 32 4,oC 2 10,oM 3 32]
[2,3])
.ret)
.skip))
(.seq (.seq (.reg [oM 33 0,oM 34 4,oI 35 2 33 34,oF 36 35 1,oL 37 36,oZ 38 37,oK 39 .gtr 38 8]
[0,4,39])
(.cond (.t 39)
(.seq (.reg [oM 40 4,oC 2 14,oM 3 40]
[2,3])
.ret)
.skip))
(.seq (.reg [oC 5 0]
[0,4,5])
(.block 2
(.loop [0,4,5] [7,11,20,29,38]
 (.seq (.seq (.reg [oM 41 5,oM 42 0,oM 43 4,oI 44 2 42 43,oF 45 44 1,oL 46 45,oZ 47 46,oB 48 .lss 41 47]
[0,4,5,48])
(.cond (.t 48)
.skip
(.exit 2)))
(.seq (.block 3
(.seq (.reg [oM 51 0,oM 52 4,oI 53 2 51 52,oF 54 53 1,oL 55 54,oM 56 5,oI 57 1 55 56,oL 58 57,oK 59 .lss 58 1,oM 60 59,qM 61 0 60 false,qM 62 4 60 false,qI 63 2 61 62 60 false,qF 64 63 1 60 false,qL 65 64 60 false,qM 66 5 60 false,qI 67 1 65 66 60 false,qL 68 67 60 false,qK 69 .gtr 68 3 60 false,oO 70 60 69]
[0,4,5,70])
(.cond (.t 70)
(.seq (.reg [oM 71 4,oC 2 8,oM 3 71]
[2,3])
.ret)
.skip)))
(.reg [oM 49 5,oK 50 .add 49 1,oM 5 50]
[0,4,5]))))))))))
(.reg [oM 13 4,oK 14 .add 13 1,oM 4 14]
[0,4]))))))
(.seq (.reg [oC 2 0,op 3 (.mov (.k (.int .i64 (-1))))]
[2,3])
.ret))))⟩
abbrev ppC_:=@pcR npC_ Tryz.f71 cpC_ Tryz.func71 (by kernel_rfl)
def cpF_:AFun:=⟨20,2,[.t 4],
 (.seq (.reg [oC 4 0]
[0,1])
(.seq (.seq (.reg [oC 5 0]
[0,1,5])
(.block 0
(.loop [0,1,5] []
 (.seq (.seq (.reg [oM 6 5,oM 7 0,oZ 8 7,oB 9 .lss 6 8]
[0,1,5,9])
(.cond (.t 9)
.skip
(.exit 0)))
(.seq (.block 1
(.seq (.reg [oM 12 0,oM 13 5,oI 14 2 12 13,oF 15 14 0,oL 16 15,oM 17 1,oB 18 .eql 16 17]
[0,1,5,18])
(.cond (.t 18)
(.seq (.reg [oM 19 5,oM 4 19]
[4])
.ret)
.skip)))
(.reg [oM 10 5,oK 11 .add 10 1,oM 5 11]
[0,1,5]))))))
(.seq (.reg [op 4 (.mov (.k (.int .i64 (-1))))]
[4])
.ret)))⟩
abbrev ppF_:=@pcR npF_ Tryz.f77 cpF_ Tryz.func77 (by kernel_rfl)
end Go.Proofs.YtjbcfpkibnhodaaGreatDoor.Ab
