/-
  The functions' abstract code, by program (acgen.py), and that the model's code is it, reckoned by the kernel. No claim is proved here.
-/
import Derived.Test.YtjbcfpkibnhodaaGreatDoorYAcR0
namespace Go.Proofs.YtjbcfpkibnhodaaGreatDoor.Ab
open Go
def crK_:AFun:=⟨28,2,[.t 4],
 (.seq (.reg [op 2 (.box taQ_ 9 (.t 0)),oC 4 0]
[1,2])
(.seq (.seq (.reg [oM 6 1,oK 7 .lss 6 0,oM 8 7,qM 9 1 8 false,qF 10 2 4 8 false,qL 11 10 8 false,oG 12 (.len false (.t 11)) 8 false,qB 13 .geq 9 12 8 false,oO 14 8 13]
[1,2,14])
(.cond (.t 14)
(.seq (.reg [oC 4 0]
[4])
.ret)
.skip))
(.seq (.reg [oN 15 2 9,oM 16 1,op 17 (.call nrt_ [.t 15,.t 16]),oM 5 17]
[2,5])
(.seq (.block 0
(.seq (.reg [oM 19 5,op 20 (.mkfn nrK1_ [.t 2]),op 21 (.call ns11 [.t 19,.t 20]),oU 22 21,oM 18 22]
[2,5,18])
(.cond (.t 18)
(.seq (.reg [oC 4 1]
[4])
.ret)
(.seq (.reg [oM 24 5,op 25 (.mkfn nrK2_ [.t 2]),op 26 (.call ns11 [.t 24,.t 25]),oU 27 26,oM 23 27]
[23])
(.cond (.t 23)
(.seq (.reg [oC 4 2]
[4])
.ret)
.skip)))))
(.seq (.reg [oC 4 0]
[4])
.ret)))))⟩
abbrev prK_:=@pcR nrK_ Tryz.f88 crK_ Tryz.func88 (by kernel_rfl)
def crK1_:AFun:=⟨19,2,[.t 3],
 (.seq (.reg [oV 3 false]
[0,1])
(.seq (.reg [oF 4 1 4,oL 5 4,oM 6 0,oI 7 3 5 6,oF 8 7 2,oL 9 8,oU 10 9,oM 11 10,qF 12 1 4 11 false,qL 13 12 11 false,qM 14 0 11 false,qI 15 3 13 14 11 false,qF 16 15 1 11 false,qL 17 16 11 false,oO 18 11 17,oM 3 18]
[3])
.ret))⟩
abbrev prK1_:=@pcR nrK1_ Tryz.f150 crK1_ Tryz.func150 (by kernel_rfl)
def crK2_:AFun:=⟨10,2,[.t 3],
 (.seq (.reg [oV 3 false]
[0,1])
(.seq (.reg [oF 4 1 4,oL 5 4,oM 6 0,oI 7 3 5 6,oF 8 7 2,oL 9 8,oM 3 9]
[3])
.ret))⟩
abbrev prK2_:=@pcR nrK2_ Tryz.f151 crK2_ Tryz.func151 (by kernel_rfl)
def crt_:AFun:=⟨45,2,[.t 4],
 (.seq (.reg [op 2 (.box taQ_ 9 (.t 0)),op 4 (.nilrow ti_ 1)]
[1,2])
(.seq (.reg [oM 9 1,op 10 (.mkrow ti_ 1 1 (.int .i64 0) [(0,.t 9)]),oM 5 10]
[2,5])
(.seq (.seq (.reg [oC 6 0]
[2,5,6])
(.block 0
(.loop [2,5,6] [2,4,10,42]
 (.seq (.seq (.reg [oM 11 6,oM 12 5,oZ 13 12,oB 14 .lss 11 13]
[2,5,6,14])
(.cond (.t 14)
.skip
(.exit 0)))
(.seq (.block 1
(.seq (.reg [oF 17 2 8,oL 18 17,oZ 19 18,oC 20 0]
[2,5,6,18,19,20])
(.block 2
(.loop [2,5,6,18,19,20] [2,4,10,13,19,42]
 (.seq (.reg [oB 21 .lss 20 19]
[2,5,6,18,19,20,21])
(.seq (.cond (.t 21)
.skip
(.exit 2))
(.seq (.block 3
(.seq (.reg [oI 22 5 18 20,oN 23 22 5,op 8 (.alloc taT_ 5 (.agg [.int .i64 0,.int .i64 0,.int .i64 0,.int .i64 0,.nils])),
⟨none,.store (.t 8) (.t 23) 5,none⟩]
[2,5,6,8,18,19,20])
(.seq (.dreg [oF 24 8 0,oL 25 24,oM 26 5,oM 27 6,oI 28 1 26 27,oL 29 28,oB 30 .eql 25 29,oM 31 30,qM 32 5 31 true,qF 33 8 2 31 true,qL 34 33 31 true,oG 35 (.call nsCii_ [.t 32,.t 34]) 31 true,oG 36 (.un .not (.t 35)) 31 true,oA 37 31 36]
[2,5,6,8,18,19,20,37])
(.cond (.t 37)
(.reg [oM 38 5,oF 39 8 2,oL 40 39,op 41 (.mkrow ti_ 1 1 (.int .i64 0) [(0,.t 40)]),op 42 (.app ti_ 1 8 (.t 38) (.t 41)),oM 5 42]
[2,5,6,18,19,20])
.skip))))
(.reg [oK 43 .add 20 1,oM 20 43]
[2,5,6,18,19,20]))))))))
(.reg [oM 15 6,oK 16 .add 15 1,oM 6 16]
[2,5,6]))))))
(.seq (.reg [oM 44 5,oM 4 44]
[4])
.ret))))⟩
abbrev prt_:=@pcR nrt_ Tryz.f148 crt_ Tryz.func148 (by kernel_rfl)
def csC_:AFun:=⟨22,1,[.t 2,.t 3],
 (.seq (.reg [oC 2 0,oC 3 0]
[0])
(.seq (.seq (.reg [oM 6 0,oZ 7 6,oK 8 .gtr 7 32]
[0,8])
(.cond (.t 8)
(.seq (.reg [oC 2 32,oC 3 14]
[2,3])
.ret)
.skip))
(.seq (.seq (.reg [oM 9 0,oZ 10 9,oC 11 0]
[0,10,11])
(.block 0
(.loop [0,10,11] [7,10]
 (.seq (.reg [oB 12 .lss 11 10]
[0,10,11,12])
(.seq (.cond (.t 12)
.skip
(.exit 0))
(.seq (.block 1
(.seq (.reg [oM 13 11,oM 4 13]
[0,4,10,11])
(.seq (.reg [oM 14 0,oM 15 4,op 16 (.call nso_ [.t 14,.t 15]),oM 5 16]
[0,4,5,10,11])
(.seq (.reg [oM 17 5,oK 18 .neq 17 0]
[0,4,5,10,11,18])
(.cond (.t 18)
(.seq (.reg [oM 19 4,oM 20 5,oM 2 19,oM 3 20]
[2,3])
.ret)
.skip)))))
(.reg [oK 21 .add 11 1,oM 11 21]
[0,10,11])))))))
(.seq (.reg [op 2 (.mov (.k (.int .i64 (-1)))),oC 3 0]
[2,3])
.ret))))⟩
abbrev psC_:=@pcR nsC_ Tryz.f188 csC_ Tryz.func188 (by kernel_rfl)
def csF_:AFun:=⟨14,2,[.t 4,.t 5],
 (.seq (.reg [op 3 (.box ts_ 1 (.t 1)),oC 4 0,oV 5 false]
[0,3])
(.seq (.reg [oM 7 0,op 8 (.mkfn nsF1_ [.t 3]),op 9 (.call nsIaDaD_ [.t 7,.t 8]),oM 6 9]
[6])
(.seq (.reg [oM 10 6,op 11 (.mx false (.t 10) (.k (.int .i64 0))),oM 12 6,oK 13 .geq 12 0,oM 4 11,oM 5 13]
[4,5])
.ret)))⟩
abbrev psF_:=@pcR ns17 Tryz.f270 csF_ Tryz.func270 (by kernel_rfl)
def csF1_:AFun:=⟨8,2,[.t 3],
 (.seq (.reg [op 2 (.box taD_ 2 (.t 0)),oV 3 false]
[1,2])
(.seq (.reg [oF 4 2 0,oL 5 4,oL 6 1,oB 7 .eql 5 6,oM 3 7]
[3])
.ret))⟩
abbrev psF1_:=@pcR nsF1_ Tryz.f295 csF1_ Tryz.func295 (by kernel_rfl)
def csN_:AFun:=⟨14,1,[.t 2],
 (.seq (.reg [oV 2 false]
[0])
(.seq (.reg [oM 3 0,op 4 (.call nsS_ [.t 3]),oM 5 4,qM 6 0 5 true,oG 7 (.call nsW_ [.t 6]) 5 true,oG 8 (.un .not (.t 7)) 5 true,oA 9 5 8,oM 10 9,qM 11 0 10 true,oG 12 (.bin .neq (.t 11) (.k (.str [95]))) 10 true,oA 13 10 12,oM 2 13]
[2])
.ret))⟩
abbrev psN_:=@pcR nsN_ Tryz.f189 csN_ Tryz.func189 (by kernel_rfl)
def csS_:AFun:=⟨25,1,[.t 2],
 (.seq (.reg [oV 2 false]
[0])
(.seq (.seq (.reg [oM 4 0,op 5 (.bin .eql (.t 4) (.k (.str []))),oM 6 5,qM 7 0 6 false,oG 8 (.len true (.t 7)) 6 false,qK 9 .gtr 8 32 6 false,oO 10 6 9,oM 11 10,qM 12 0 11 false,oG 13 (.idx (.t 12) (.k (.int .i64 0))) 11 false,oG 14 (.bin .geq (.t 13) (.k (.int .u8 48))) 11 false,qM 15 14 11 false,qM 16 0 15 true,oG 17 (.idx (.t 16) (.k (.int .i64 0))) 15 true,oG 18 (.bin .leq (.t 17) (.k (.int .u8 57))) 15 true,qA 19 15 18 11 false,oO 20 11 19]
[0,20])
(.cond (.t 20)
(.seq (.reg [oV 2 false]
[2])
.ret)
.skip))
(.seq (.reg [op 3 (.mov (.f nsS1_))]
[0,3])
(.seq (.reg [oM 21 0,oM 22 3,op 23 (.call nsI_ [.t 21,.t 22]),oK 24 .lss 23 0,oM 2 24]
[2])
.ret))))⟩
abbrev psS_:=@pcR nsS_ Tryz.f245 csS_ Tryz.func245 (by kernel_rfl)
def csS1_:AFun:=⟨29,1,[.t 2],
 (.seq (.reg [oV 2 false]
[0])
(.seq (.reg [oM 3 0,op 4 (.bin .neq (.t 3) (.k (.int .i32 95))),oM 5 4,qM 6 0 5 true,oG 7 (.bin .lss (.t 6) (.k (.int .i32 48))) 5 true,qM 8 7 5 true,qM 9 0 8 false,oG 10 (.bin .gtr (.t 9) (.k (.int .i32 57))) 8 false,qO 11 8 10 5 true,oA 12 5 11,oM 13 12,qM 14 0 13 true,oG 15 (.bin .lss (.t 14) (.k (.int .i32 65))) 13 true,qM 16 15 13 true,qM 17 0 16 false,oG 18 (.bin .gtr (.t 17) (.k (.int .i32 90))) 16 false,qO 19 16 18 13 true,oA 20 13 19,oM 21 20,qM 22 0 21 true,oG 23 (.bin .lss (.t 22) (.k (.int .i32 97))) 21 true,qM 24 23 21 true,qM 25 0 24 false,oG 26 (.bin .gtr (.t 25) (.k (.int .i32 122))) 24 false,qO 27 24 26 21 true,oA 28 21 27,oM 2 28]
[2])
.ret))⟩
abbrev psS1_:=@pcR nsS1_ Tryz.f272 csS1_ Tryz.func272 (by kernel_rfl)
def csW_:AFun:=⟨10,1,[.t 2],
 (.seq (.reg [oV 2 false]
[0])
(.seq (.reg [oM 3 0,op 4 (.call nsS_ [.t 3]),oM 5 4,oG 6 (.slcG 22 (.g 5)) 5 true,qM 7 0 5 true,oG 8 (.call nsCss_ [.t 6,.t 7]) 5 true,oA 9 5 8,oM 2 9]
[2])
.ret))⟩
abbrev psW_:=@pcR nsW_ Tryz.f246 csW_ Tryz.func246 (by kernel_rfl)
def cso_:AFun:=⟨37,2,[.t 4],
 (.seq (.reg [oC 4 0]
[0,1])
(.seq (.reg [oM 8 0,oM 9 1,oI 10 2 8 9,oN 11 10 2,op 5 (.alloc taD_ 2 (.agg [.str [],.nils])),
⟨none,.store (.t 5) (.t 11) 2,none⟩]
[0,1,5])
(.seq (.reg [oM 13 0,oF 14 5 0,oL 15 14,op 16 (.call ns17 [.t 13,.t 15]),oM 12 16,oE 17 12 0,oE 18 12 1,oM 6 17,oM 7 18]
[1,5,6])
(.seq (.block 0
(.seq (.reg [oF 20 5 0,oL 21 20,op 22 (.call nsN_ [.t 21]),oU 23 22,oM 19 23]
[1,5,6,19])
(.cond (.t 19)
(.seq (.reg [oC 4 11]
[4])
.ret)
(.seq (.reg [oM 25 6,oM 26 1,oB 27 .lss 25 26,oM 24 27]
[5,24])
(.cond (.t 24)
(.seq (.reg [oC 4 10]
[4])
.ret)
(.seq (.reg [oF 29 5 1,oL 30 29,oZ 31 30,oK 32 .gtr 31 8,oM 28 32]
[5,28])
(.cond (.t 28)
(.seq (.reg [oC 4 14]
[4])
.ret)
(.seq (.reg [oF 34 5 1,oL 35 34,op 36 (.call ns11 [.t 35,.f nso1_]),oM 33 36]
[33])
(.cond (.t 33)
(.seq (.reg [oC 4 8]
[4])
.ret)
.skip)))))))))
(.seq (.reg [oC 4 0]
[4])
.ret)))))⟩
abbrev pso_:=@pcR nso_ Tryz.f244 cso_ Tryz.func244 (by kernel_rfl)
def cso1_:AFun:=⟨6,1,[.t 2],
 (.seq (.reg [oV 2 false]
[0])
(.seq (.reg [oM 3 0,op 4 (.call nvN_ [.t 3]),op 5 (.bin .eql (.t 4) (.k (.str []))),oM 2 5]
[2])
.ret))⟩
abbrev pso1_:=@pcR nso1_ Tryz.f271 cso1_ Tryz.func271 (by kernel_rfl)
def cvB_:AFun:=⟨5,1,[.cells 2 4],
 (.seq (.reg [op 2 (.alloc taV_ 4 (.agg [.int .i64 0,.int .i64 0,.str [],.bool false]))]
[0,2])
(.seq (.reg [oM 3 0,op 4 (.build [.int .i64 0,.int .i64 0,.str [],.bool false] [(0,1,.k (.int .i64 3)),(3,1,.t 3)]),
⟨none,.store (.t 2) (.t 4) 4,none⟩]
[2])
.ret))⟩
abbrev pvB_:=@pcR nvB_ Tryz.f180 cvB_ Tryz.func180 (by kernel_rfl)
def cvI_:AFun:=⟨5,1,[.cells 2 4],
 (.seq (.reg [op 2 (.alloc taV_ 4 (.agg [.int .i64 0,.int .i64 0,.str [],.bool false]))]
[0,2])
(.seq (.reg [oM 3 0,op 4 (.build [.int .i64 0,.int .i64 0,.str [],.bool false] [(0,1,.k (.int .i64 1)),(1,1,.t 3)]),
⟨none,.store (.t 2) (.t 4) 4,none⟩]
[2])
.ret))⟩
abbrev pvI_:=@pcR nvI_ Tryz.f178 cvI_ Tryz.func178 (by kernel_rfl)
def cvL_:AFun:=⟨41,2,[.t 4],
 (.seq (.reg [op 2 (.box taV_ 4 (.t 0)),op 3 (.box taV_ 4 (.t 1)),oV 4 false]
[2,3])
(.seq (.block 0
(.seq (.reg [oF 6 2 0,oL 7 6,oF 8 3 0,oL 9 8,oB 10 .neq 7 9,oM 5 10]
[2,3,5])
(.cond (.t 5)
(.seq (.reg [oF 11 2 0,oL 12 11,oF 13 3 0,oL 14 13,oB 15 .lss 12 14,oM 4 15]
[4])
.ret)
(.seq (.reg [oF 17 2 0,oL 18 17,oK 19 .eql 18 1,oM 16 19]
[2,3,16])
(.cond (.t 16)
(.seq (.reg [oF 20 2 1,oL 21 20,oF 22 3 1,oL 23 22,oB 24 .lss 21 23,oM 4 24]
[4])
.ret)
(.seq (.reg [oF 26 2 0,oL 27 26,oK 28 .eql 27 2,oM 25 28]
[2,3,25])
(.cond (.t 25)
(.seq (.reg [oF 29 2 2,oL 30 29,oF 31 3 2,oL 32 31,oB 33 .lss 30 32,oM 4 33]
[4])
.ret)
.skip)))))))
(.seq (.reg [oF 34 2 3,oL 35 34,oU 36 35,oM 37 36,qF 38 3 3 37 true,qL 39 38 37 true,oA 40 37 39,oM 4 40]
[4])
.ret)))⟩
abbrev pvL_:=@pcR nvL_ Tryz.f117 cvL_ Tryz.func117 (by kernel_rfl)
def cvN_:AFun:=⟨10,1,[.t 2],
 (.seq (.reg [op 2 (.mov (.k (.str [])))]
[0])
(.seq (.seq (.reg [oM 3 0]
[3])
(.block 0
(.seq (.reg [oK 5 .eql 3 1,oM 4 5]
[3,4])
(.cond (.t 4)
(.seq (.reg [op 2 (.mov (.k (.str [105,110,116])))]
[2])
.ret)
(.seq (.reg [oK 7 .eql 3 2,oM 6 7]
[3,6])
(.cond (.t 6)
(.seq (.reg [op 2 (.mov (.k (.str [115,116,114,105,110,103])))]
[2])
.ret)
(.seq (.reg [oK 9 .eql 3 3,oM 8 9]
[8])
(.cond (.t 8)
(.seq (.reg [op 2 (.mov (.k (.str [98,111,111,108])))]
[2])
.ret)
.skip))))))))
(.seq (.reg [op 2 (.mov (.k (.str [])))]
[2])
.ret)))⟩
abbrev pvN_:=@pcR nvN_ Tryz.f193 cvN_ Tryz.func193 (by kernel_rfl)
def cvO_:AFun:=⟨117,3,[.cells 6 4,.t 7],
 (.seq (.reg [op 4 (.box taV_ 4 (.t 1)),op 5 (.box taV_ 4 (.t 2)),op 6 (.alloc taV_ 4 (.agg [.int .i64 0,.int .i64 0,.str [],.bool false])),oC 7 0]
[0,4,5,6])
(.seq (.block 0
(.seq (.reg [oM 11 0,oK 12 .lss 11 4,oM 13 12,qM 14 0 13 false,qK 15 .gtr 14 16 13 false,oO 16 13 15,oM 10 16]
[0,4,5,6,10])
(.cond (.t 10)
(.seq (.reg [op 17 (.build [.int .i64 0,.int .i64 0,.str [],.bool false] []),
⟨none,.store (.t 6) (.t 17) 4,none⟩,oC 7 1]
[6,7])
.ret)
(.seq (.reg [oM 19 0,oF 20 4 0,oL 21 20,oF 22 5 0,oL 23 22,op 24 (.call nvT_ [.t 19,.t 21,.t 23]),oK 25 .eql 24 0,oM 18 25]
[0,4,5,6,18])
(.cond (.t 18)
(.seq (.reg [op 26 (.build [.int .i64 0,.int .i64 0,.str [],.bool false] []),
⟨none,.store (.t 6) (.t 26) 4,none⟩,oC 7 8]
[6,7])
.ret)
.skip)))))
(.seq (.seq (.reg [oM 27 0]
[0,4,5,6,27])
(.block 1
(.seq (.reg [oK 29 .eql 27 4,oM 28 29]
[0,4,5,6,27,28])
(.cond (.t 28)
(.seq (.reg [oF 30 4 3,oL 31 30,oU 32 31,op 33 (.call nvt_ [.t 32]),oE 34 33 0,oE 35 33 1,
⟨none,.store (.t 6) (.t 34) 4,none⟩,oM 7 35]
[6,7])
.ret)
(.seq (.reg [oK 37 .eql 27 6,oM 36 37]
[0,4,5,6,27,36])
(.cond (.t 36)
(.seq (.reg [oF 38 4 3,oL 39 38,oM 40 39,qF 41 5 3 40 true,qL 42 41 40 true,oA 43 40 42,op 44 (.call nvt_ [.t 43]),oE 45 44 0,oE 46 44 1,
⟨none,.store (.t 6) (.t 45) 4,none⟩,oM 7 46]
[6,7])
.ret)
(.seq (.reg [oK 48 .eql 27 7,oM 47 48]
[0,4,5,6,27,47])
(.cond (.t 47)
(.seq (.reg [oF 49 4 3,oL 50 49,oM 51 50,qF 52 5 3 51 false,qL 53 52 51 false,oO 54 51 53,op 55 (.call nvt_ [.t 54]),oE 56 55 0,oE 57 55 1,
⟨none,.store (.t 6) (.t 56) 4,none⟩,oM 7 57]
[6,7])
.ret)
(.seq (.reg [oK 59 .eql 27 13,oM 58 59]
[0,4,5,6,27,58])
(.cond (.t 58)
(.seq (.reg [oN 60 4 4,oN 61 5 4,op 62 (.eqA false [0,0,1,2] (.t 60) (.t 61)),op 63 (.call nvt_ [.t 62]),oE 64 63 0,oE 65 63 1,
⟨none,.store (.t 6) (.t 64) 4,none⟩,oM 7 65]
[6,7])
.ret)
(.seq (.reg [oK 67 .eql 27 14,oM 66 67]
[0,4,5,6,27,66])
(.cond (.t 66)
(.seq (.reg [oN 68 4 4,oN 69 5 4,op 70 (.eqA true [0,0,1,2] (.t 68) (.t 69)),op 71 (.call nvt_ [.t 70]),oE 72 71 0,oE 73 71 1,
⟨none,.store (.t 6) (.t 72) 4,none⟩,oM 7 73]
[6,7])
.ret)
(.seq (.reg [oK 75 .eql 27 15,oM 74 75]
[0,4,5,6,27,74])
(.cond (.t 74)
(.seq (.reg [oN 76 4 4,oN 77 5 4,op 78 (.call nvL_ [.t 76,.t 77]),op 79 (.call nvt_ [.t 78]),oE 80 79 0,oE 81 79 1,
⟨none,.store (.t 6) (.t 80) 4,none⟩,oM 7 81]
[6,7])
.ret)
(.seq (.reg [oK 83 .eql 27 16,oM 82 83]
[0,4,5,6,82])
(.cond (.t 82)
(.seq (.reg [oN 84 5 4,oN 85 4 4,op 86 (.call nvL_ [.t 84,.t 85]),oU 87 86,op 88 (.call nvt_ [.t 87]),oE 89 88 0,oE 90 88 1,
⟨none,.store (.t 6) (.t 89) 4,none⟩,oM 7 90]
[6,7])
.ret)
.skip))))))))))))))))
(.seq (.seq (.reg [oF 91 4 0,oL 92 91,oK 93 .eql 92 2]
[0,4,5,6,93])
(.cond (.t 93)
(.seq (.reg [oF 94 4 2,oL 95 94,oF 96 5 2,oL 97 96,oB 98 .add 95 97,op 99 (.call nv10 [.t 98]),oE 100 99 0,oE 101 99 1,
⟨none,.store (.t 6) (.t 100) 4,none⟩,oM 7 101]
[6,7])
.ret)
.skip))
(.seq (.reg [oM 103 0,oF 104 4 1,oL 105 104,oF 106 5 1,oL 107 106,op 108 (.call nnO_ [.t 103,.t 105,.t 107]),oM 102 108,oE 109 102 0,oE 110 102 1,oM 8 109,oM 9 110]
[6,8,9])
(.seq (.seq (.reg [oM 111 9,oK 112 .neq 111 0]
[6,8,9,112])
(.cond (.t 112)
(.seq (.reg [op 113 (.build [.int .i64 0,.int .i64 0,.str [],.bool false] []),oM 114 9,
⟨none,.store (.t 6) (.t 113) 4,none⟩,oM 7 114]
[6,7])
.ret)
.skip))
(.seq (.reg [oM 115 8,op 116 (.call nvI_ [.t 115]),
⟨none,.store (.t 6) (.t 116) 4,none⟩,oC 7 0]
[6,7])
.ret)))))))⟩
abbrev pvO_:=@pcR nvO_ Tryz.f278 cvO_ Tryz.func278 (by kernel_rfl)
def cvR_:AFun:=⟨32,1,[.t 2],
 (.seq (.reg [op 1 (.box taV_ 4 (.t 0)),oV 2 false]
[1])
(.seq (.seq (.reg [oF 3 1 0,oL 4 3]
[1,4])
(.block 0
(.seq (.reg [oK 6 .eql 4 1,oM 5 6]
[1,4,5])
(.cond (.t 5)
(.seq (.dreg [oN 7 1 4,oF 8 1 1,oL 9 8,op 10 (.call nvI_ [.t 9]),op 11 (.eqA false [0,0,1,2] (.t 7) (.t 10)),oM 2 11]
[2])
.ret)
(.seq (.reg [oK 13 .eql 4 2,oM 12 13]
[1,4,12])
(.cond (.t 12)
(.seq (.dreg [oN 14 1 4,oF 15 1 2,oL 16 15,op 17 (.call nvS_ [.t 16]),op 18 (.eqA false [0,0,1,2] (.t 14) (.t 17)),oM 19 18,qF 20 1 2 19 true,qL 21 20 19 true,oG 22 (.len true (.t 21)) 19 true,qK 23 .leq 22 4096 19 true,oA 24 19 23,oM 2 24]
[2])
.ret)
(.seq (.reg [oK 26 .eql 4 3,oM 25 26]
[1,25])
(.cond (.t 25)
(.seq (.dreg [oN 27 1 4,oF 28 1 3,oL 29 28,op 30 (.call nvB_ [.t 29]),op 31 (.eqA false [0,0,1,2] (.t 27) (.t 30)),oM 2 31]
[2])
.ret)
.skip))))))))
(.seq (.reg [oV 2 false]
[2])
.ret)))⟩
abbrev pvR_:=@pcR nvR_ Tryz.f120 cvR_ Tryz.func120 (by kernel_rfl)
def cvS_:AFun:=⟨5,1,[.cells 2 4],
 (.seq (.reg [op 2 (.alloc taV_ 4 (.agg [.int .i64 0,.int .i64 0,.str [],.bool false]))]
[0,2])
(.seq (.reg [oM 3 0,op 4 (.build [.int .i64 0,.int .i64 0,.str [],.bool false] [(0,1,.k (.int .i64 2)),(2,1,.t 3)]),
⟨none,.store (.t 2) (.t 4) 4,none⟩]
[2])
.ret))⟩
abbrev pvS_:=@pcR nvS_ Tryz.f179 cvS_ Tryz.func179 (by kernel_rfl)
def cvT_:AFun:=⟨81,3,[.t 6],
 (.seq (.reg [oC 6 0]
[0,1,2])
(.seq (.seq (.reg [oM 7 0]
[1,2,7])
(.block 0
(.seq (.block 7
(.seq (.block 6
(.seq (.block 5
(.seq (.block 4
(.seq (.block 3
(.seq (.block 2
(.seq (.block 1
(.seq (.seq (.seq (.reg [oK 9 .eql 7 4,oM 8 9]
[1,2,7,8])
(.cond (.t 8)
(.exit 1)
.skip))
(.seq (.seq (.seq (.reg [oK 11 .eql 7 6,oM 10 11]
[1,2,7,10])
(.cond (.t 10)
.skip
(.reg [oK 12 .eql 7 7,oM 10 12]
[1,2,7,10])))
(.cond (.t 10)
(.exit 2)
.skip))
(.seq (.seq (.reg [oK 14 .eql 7 5,oM 13 14]
[1,2,7,13])
(.cond (.t 13)
(.exit 3)
.skip))
(.seq (.seq (.seq (.reg [oK 16 .eql 7 9,oM 15 16]
[1,2,7,15])
(.cond (.t 15)
.skip
(.seq (.reg [oK 17 .eql 7 10,oM 15 17]
[1,2,7,15])
(.cond (.t 15)
.skip
(.seq (.reg [oK 18 .eql 7 11,oM 15 18]
[1,2,7,15])
(.cond (.t 15)
.skip
(.reg [oK 19 .eql 7 12,oM 15 19]
[1,2,7,15])))))))
(.cond (.t 15)
(.exit 4)
.skip))
(.seq (.seq (.reg [oK 21 .eql 7 8,oM 20 21]
[1,2,7,20])
(.cond (.t 20)
(.exit 5)
.skip))
(.seq (.seq (.seq (.reg [oK 23 .eql 7 13,oM 22 23]
[1,2,7,22])
(.cond (.t 22)
.skip
(.reg [oK 24 .eql 7 14,oM 22 24]
[1,2,7,22])))
(.cond (.t 22)
(.exit 6)
.skip))
(.seq (.seq (.reg [oK 26 .eql 7 15,oM 25 26]
[1,2,7,25])
(.cond (.t 25)
.skip
(.reg [oK 27 .eql 7 16,oM 25 27]
[1,2,25])))
(.cond (.t 25)
(.exit 7)
.skip))))))))
(.exit 0)))
(.reg [oM 28 1,oM 2 28]
[1,2])))
(.seq (.seq (.reg [oM 29 1,oK 30 .eql 29 3,oM 31 30,qM 32 2 31 true,qM 33 1 31 true,qB 34 .eql 32 33 31 true,oA 35 31 34,op 36 (.call nvw_ [.t 35,.k (.int .i64 3)]),oM 6 36]
[6])
.ret)
(.exit 0))))
(.reg [oM 37 1,oM 2 37]
[1,2])))
(.seq (.seq (.reg [oM 38 1,oK 39 .eql 38 1,oM 40 39,qM 41 2 40 true,qM 42 1 40 true,qB 43 .eql 41 42 40 true,oA 44 40 43,oM 45 1,op 46 (.call nvw_ [.t 44,.t 45]),oM 6 46]
[6])
.ret)
(.exit 0))))
(.seq (.seq (.reg [oM 47 1,oK 48 .eql 47 1,oM 49 48,qM 50 1 49 false,qK 51 .eql 50 2 49 false,oO 52 49 51,oM 53 52,qM 54 2 53 true,qM 55 1 53 true,qB 56 .eql 54 55 53 true,oA 57 53 56,oM 58 1,op 59 (.call nvw_ [.t 57,.t 58]),oM 6 59]
[6])
.ret)
(.exit 0))))
(.seq (.seq (.reg [oM 60 1,op 61 (.call nvN_ [.t 60]),op 62 (.bin .neq (.t 61) (.k (.str []))),oM 63 62,qM 64 2 63 true,qM 65 1 63 true,qB 66 .eql 64 65 63 true,oA 67 63 66,op 68 (.call nvw_ [.t 67,.k (.int .i64 3)]),oM 6 68]
[6])
.ret)
(.exit 0))))
(.seq (.seq (.reg [oM 69 1,oK 70 .eql 69 1,oM 71 70,qM 72 1 71 false,qK 73 .eql 72 2 71 false,oO 74 71 73,oM 75 74,qM 76 2 75 true,qM 77 1 75 true,qB 78 .eql 76 77 75 true,oA 79 75 78,op 80 (.call nvw_ [.t 79,.k (.int .i64 3)]),oM 6 80]
[6])
.ret)
(.exit 0)))))
(.seq (.reg [oC 6 0]
[6])
.ret)))⟩
abbrev pvT_:=@pcR nvT_ Tryz.f251 cvT_ Tryz.func251 (by kernel_rfl)
def cv10:AFun:=⟨10,1,[.cells 2 4,.t 3],
 (.seq (.reg [op 2 (.alloc taV_ 4 (.agg [.int .i64 0,.int .i64 0,.str [],.bool false])),oC 3 0]
[0,2])
(.seq (.seq (.reg [oM 4 0,op 5 (.len true (.t 4)),oK 6 .gtr 5 4096]
[0,2,6])
(.cond (.t 6)
(.seq (.reg [op 7 (.build [.int .i64 0,.int .i64 0,.str [],.bool false] []),
⟨none,.store (.t 2) (.t 7) 4,none⟩,oC 3 3]
[2,3])
.ret)
.skip))
(.seq (.reg [oM 8 0,op 9 (.call nvS_ [.t 8]),
⟨none,.store (.t 2) (.t 9) 4,none⟩,oC 3 0]
[2,3])
.ret)))⟩
abbrev pv10:=@pcR nv10 Tryz.f299 cv10 Tryz.func299 (by kernel_rfl)
def cvt_:AFun:=⟨6,1,[.cells 2 4,.t 3],
 (.seq (.reg [op 2 (.alloc taV_ 4 (.agg [.int .i64 0,.int .i64 0,.str [],.bool false])),oC 3 0]
[0,2])
(.seq (.reg [oM 4 0,op 5 (.call nvB_ [.t 4]),
⟨none,.store (.t 2) (.t 5) 4,none⟩,oC 3 0]
[2,3])
.ret))⟩
abbrev pvt_:=@pcR nvt_ Tryz.f298 cvt_ Tryz.func298 (by kernel_rfl)
def cvw_:AFun:=⟨8,2,[.t 4],
 (.seq (.reg [oC 4 0]
[0,1])
(.seq (.seq (.reg [oM 5 0,oU 6 5]
[1,6])
(.cond (.t 6)
(.seq (.reg [oC 4 0]
[4])
.ret)
.skip))
(.seq (.reg [oM 7 1,oM 4 7]
[4])
.ret)))⟩
abbrev pvw_:=@pcR nvw_ Tryz.f275 cvw_ Tryz.func275 (by kernel_rfl)
def csCii_:AFun:=⟨9,2,[.t 4],
 (.seq (.reg [oV 4 false]
[0,1])
(.seq (.reg [oM 5 0,oM 6 1,op 7 (.call nsIii_ [.t 5,.t 6]),oK 8 .geq 7 0,oM 4 8]
[4])
.ret))⟩
abbrev psCii_:=@pcR ns11 Tryz.f149 csCii_ Tryz.func149 (by kernel_rfl)
def csCaNaN_:AFun:=⟨9,2,[.t 4],
 (.seq (.reg [oV 4 false]
[0,1])
(.seq (.reg [oM 5 0,oM 6 1,op 7 (.call nsIaNaN_ [.t 5,.t 6]),oK 8 .geq 7 0,oM 4 8]
[4])
.ret))⟩
abbrev psCaNaN_:=@pcR nsCaNaN_ Tryz.f158 csCaNaN_ Tryz.func158 (by kernel_rfl)
def cs10:AFun:=⟨9,2,[.t 4],
 (.seq (.reg [oV 4 false]
[0,1])
(.seq (.reg [oM 5 0,oM 6 1,op 7 (.call ns13 [.t 5,.t 6]),oK 8 .geq 7 0,oM 4 8]
[4])
.ret))⟩
abbrev ps10:=@pcR ns10 Tryz.f155 cs10 Tryz.func155 (by kernel_rfl)
def csCaSaS_:AFun:=⟨9,2,[.t 4],
 (.seq (.reg [oV 4 false]
[0,1])
(.seq (.reg [oM 5 0,oM 6 1,op 7 (.call nsIaSaS_ [.t 5,.t 6]),oK 8 .geq 7 0,oM 4 8]
[4])
.ret))⟩
abbrev psCaSaS_:=@pcR nsCaSaS_ Tryz.f99 csCaSaS_ Tryz.func99 (by kernel_rfl)
def csCaTaT_:AFun:=⟨9,2,[.t 4],
 (.seq (.reg [oV 4 false]
[0,1])
(.seq (.reg [oM 5 0,oM 6 1,op 7 (.call nsIaTaT_ [.t 5,.t 6]),oK 8 .geq 7 0,oM 4 8]
[4])
.ret))⟩
abbrev psCaTaT_:=@pcR nsCaTaT_ Tryz.f132 csCaTaT_ Tryz.func132 (by kernel_rfl)
def cs14:AFun:=⟨9,2,[.t 4],
 (.seq (.reg [oV 4 false]
[0,1])
(.seq (.reg [oM 5 0,oM 6 1,op 7 (.call ns15 [.t 5,.t 6]),oK 8 .geq 7 0,oM 4 8]
[4])
.ret))⟩
abbrev ps14:=@pcR nsCii_ Tryz.f86 cs14 Tryz.func86 (by kernel_rfl)
def csCaAaA_:AFun:=⟨9,2,[.t 4],
 (.seq (.reg [op 3 (.box taA_ 6 (.t 1)),oV 4 false]
[0,3])
(.seq (.reg [oM 5 0,oN 6 3 6,op 7 (.call nsIaAaA_ [.t 5,.t 6]),oK 8 .geq 7 0,oM 4 8]
[4])
.ret))⟩
abbrev psCaAaA_:=@pcR nsCaAaA_ Tryz.f154 csCaAaA_ Tryz.func154 (by kernel_rfl)
def cs11:AFun:=⟨9,2,[.t 4],
 (.seq (.reg [op 3 (.box taN_ 7 (.t 1)),oV 4 false]
[0,3])
(.seq (.reg [oM 5 0,oN 6 3 7,op 7 (.call ns14 [.t 5,.t 6]),oK 8 .geq 7 0,oM 4 8]
[4])
.ret))⟩
abbrev ps11:=@pcR ns12 Tryz.f91 cs11 Tryz.func91 (by kernel_rfl)
def csCss_:AFun:=⟨9,2,[.t 4],
 (.seq (.reg [oV 4 false]
[0,1])
(.seq (.reg [oM 5 0,oM 6 1,op 7 (.call nsIss_ [.t 5,.t 6]),oK 8 .geq 7 0,oM 4 8]
[4])
.ret))⟩
abbrev psCss_:=@pcR nsCss_ Tryz.f274 csCss_ Tryz.func274 (by kernel_rfl)
def csEaAiaAi_:AFun:=⟨32,3,[.t 6],
 (.seq (.reg [oV 6 false]
[0,1,2])
(.seq (.seq (.reg [oM 10 0,oZ 11 10,oM 12 1,oZ 13 12,oB 14 .neq 11 13]
[0,1,2,14])
(.cond (.t 14)
(.seq (.reg [oV 6 false]
[6])
.ret)
.skip))
(.seq (.seq (.reg [oM 15 0,oZ 16 15,oC 17 0]
[1,2,15,16,17])
(.block 0
(.loop [1,2,15,16,17] [11,13,16]
 (.seq (.reg [oB 18 .lss 17 16]
[1,2,15,16,17,18])
(.seq (.cond (.t 18)
.skip
(.exit 0))
(.seq (.block 1
(.seq (.reg [oM 19 17,oI 20 6 15 17,oN 21 20 6,op 8 (.alloc taA_ 6 (.agg [.int .i64 0,.int .i64 0,.int .i64 0,.int .i64 0,.str [],.bool false])),oM 7 19,
⟨none,.store (.t 8) (.t 21) 6,none⟩]
[1,2,7,8,15,16,17])
(.seq (.reg [oM 22 1,oM 23 7,oI 24 1 22 23,oL 25 24,oM 9 25]
[1,2,8,9,15,16,17])
(.seq (.reg [oM 26 2,oN 27 8 6,oM 28 9,op 29 (.callv (.t 26) [.t 27,.t 28]),oU 30 29]
[1,2,15,16,17,30])
(.cond (.t 30)
(.seq (.reg [oV 6 false]
[6])
.ret)
.skip)))))
(.reg [oK 31 .add 17 1,oM 17 31]
[1,2,15,16,17])))))))
(.seq (.reg [oV 6 true]
[6])
.ret))))⟩
abbrev psEaAiaAi_:=@pcR nsEaAiaAi_ Tryz.f252 csEaAiaAi_ Tryz.func252 (by kernel_rfl)
def csEaVaFaVaF_:AFun:=⟨32,3,[.t 6],
 (.seq (.reg [oV 6 false]
[0,1,2])
(.seq (.seq (.reg [oM 10 0,oZ 11 10,oM 12 1,oZ 13 12,oB 14 .neq 11 13]
[0,1,2,14])
(.cond (.t 14)
(.seq (.reg [oV 6 false]
[6])
.ret)
.skip))
(.seq (.seq (.reg [oM 15 0,oZ 16 15,oC 17 0]
[1,2,15,16,17])
(.block 0
(.loop [1,2,15,16,17] [11,13,16]
 (.seq (.reg [oB 18 .lss 17 16]
[1,2,15,16,17,18])
(.seq (.cond (.t 18)
.skip
(.exit 0))
(.seq (.block 1
(.seq (.reg [oM 19 17,oI 20 4 15 17,oN 21 20 4,op 8 (.alloc taV_ 4 (.agg [.int .i64 0,.int .i64 0,.str [],.bool false])),oM 7 19,
⟨none,.store (.t 8) (.t 21) 4,none⟩]
[1,2,7,8,15,16,17])
(.seq (.reg [oM 22 1,oM 23 7,oI 24 5 22 23,oN 25 24 5,op 9 (.alloc taF_ 5 (.agg [.str [],.int .i64 0,.int .i64 0,.str [],.bool false])),
⟨none,.store (.t 9) (.t 25) 5,none⟩]
[1,2,8,9,15,16,17])
(.seq (.reg [oM 26 2,oN 27 8 4,oN 28 9 5,op 29 (.callv (.t 26) [.t 27,.t 28]),oU 30 29]
[1,2,15,16,17,30])
(.cond (.t 30)
(.seq (.reg [oV 6 false]
[6])
.ret)
.skip)))))
(.reg [oK 31 .add 17 1,oM 17 31]
[1,2,15,16,17])))))))
(.seq (.reg [oV 6 true]
[6])
.ret))))⟩
abbrev psEaVaFaVaF_:=@pcR nsEaVaFaVaF_ Tryz.f125 csEaVaFaVaF_ Tryz.func125 (by kernel_rfl)
def csEaAaA_:AFun:=⟨26,2,[.t 4],
 (.seq (.reg [oV 4 false]
[0,1])
(.seq (.seq (.reg [oM 6 0,oZ 7 6,oM 8 1,oZ 9 8,oB 10 .neq 7 9]
[0,1,10])
(.cond (.t 10)
(.seq (.reg [oV 4 false]
[4])
.ret)
.skip))
(.seq (.seq (.reg [oM 11 0,oZ 12 11,oC 13 0]
[0,1,12,13])
(.block 0
(.loop [0,1,12,13] [7,9,12]
 (.seq (.reg [oB 14 .lss 13 12]
[0,1,12,13,14])
(.seq (.cond (.t 14)
.skip
(.exit 0))
(.seq (.block 1
(.seq (.reg [oM 15 13,oM 5 15]
[0,1,5,12,13])
(.seq (.dreg [oM 16 0,oM 17 5,oI 18 6 16 17,oN 19 18 6,oM 20 1,oM 21 5,oI 22 6 20 21,oN 23 22 6,op 24 (.eqA true [0,0,0,0,1,2] (.t 19) (.t 23))]
[0,1,12,13,24])
(.cond (.t 24)
(.seq (.reg [oV 4 false]
[4])
.ret)
.skip))))
(.reg [oK 25 .add 13 1,oM 13 25]
[0,1,12,13])))))))
(.seq (.reg [oV 4 true]
[4])
.ret))))⟩
abbrev psEaAaA_:=@pcR nsEaAaA_ Tryz.f255 csEaAaA_ Tryz.func255 (by kernel_rfl)
def csIii_:AFun:=⟨19,2,[.t 4],
 (.seq (.reg [oC 4 0]
[0,1])
(.seq (.seq (.reg [oM 6 0,oZ 7 6,oC 8 0]
[0,1,7,8])
(.block 0
(.loop [0,1,7,8] [7]
 (.seq (.reg [oB 9 .lss 8 7]
[0,1,7,8,9])
(.seq (.cond (.t 9)
.skip
(.exit 0))
(.seq (.block 1
(.seq (.reg [oM 10 8,oM 5 10]
[0,1,5,7,8])
(.seq (.reg [oM 11 1,oM 12 0,oM 13 5,oI 14 1 12 13,oL 15 14,op 16 (.callv (.t 11) [.t 15])]
[0,1,5,7,8,16])
(.cond (.t 16)
(.seq (.reg [oM 17 5,oM 4 17]
[4])
.ret)
.skip))))
(.reg [oK 18 .add 8 1,oM 8 18]
[0,1,7,8])))))))
(.seq (.reg [op 4 (.mov (.k (.int .i64 (-1))))]
[4])
.ret)))⟩
abbrev psIii_:=@pcR nsIii_ Tryz.f223 csIii_ Tryz.func223 (by kernel_rfl)
def csIaDaD_:AFun:=⟨19,2,[.t 4],
 (.seq (.reg [oC 4 0]
[0,1])
(.seq (.seq (.reg [oM 6 0,oZ 7 6,oC 8 0]
[0,1,7,8])
(.block 0
(.loop [0,1,7,8] [7]
 (.seq (.reg [oB 9 .lss 8 7]
[0,1,7,8,9])
(.seq (.cond (.t 9)
.skip
(.exit 0))
(.seq (.block 1
(.seq (.reg [oM 10 8,oM 5 10]
[0,1,5,7,8])
(.seq (.reg [oM 11 1,oM 12 0,oM 13 5,oI 14 2 12 13,oN 15 14 2,op 16 (.callv (.t 11) [.t 15])]
[0,1,5,7,8,16])
(.cond (.t 16)
(.seq (.reg [oM 17 5,oM 4 17]
[4])
.ret)
.skip))))
(.reg [oK 18 .add 8 1,oM 8 18]
[0,1,7,8])))))))
(.seq (.reg [op 4 (.mov (.k (.int .i64 (-1))))]
[4])
.ret)))⟩
abbrev psIaDaD_:=@pcR nsIaDaD_ Tryz.f294 csIaDaD_ Tryz.func294 (by kernel_rfl)
def csIaNaN_:AFun:=⟨19,2,[.t 4],
 (.seq (.reg [oC 4 0]
[0,1])
(.seq (.seq (.reg [oM 6 0,oZ 7 6,oC 8 0]
[0,1,7,8])
(.block 0
(.loop [0,1,7,8] [7]
 (.seq (.reg [oB 9 .lss 8 7]
[0,1,7,8,9])
(.seq (.cond (.t 9)
.skip
(.exit 0))
(.seq (.block 1
(.seq (.reg [oM 10 8,oM 5 10]
[0,1,5,7,8])
(.seq (.reg [oM 11 1,oM 12 0,oM 13 5,oI 14 7 12 13,oN 15 14 7,op 16 (.callv (.t 11) [.t 15])]
[0,1,5,7,8,16])
(.cond (.t 16)
(.seq (.reg [oM 17 5,oM 4 17]
[4])
.ret)
.skip))))
(.reg [oK 18 .add 8 1,oM 8 18]
[0,1,7,8])))))))
(.seq (.reg [op 4 (.mov (.k (.int .i64 (-1))))]
[4])
.ret)))⟩
abbrev psIaNaN_:=@pcR nsIaNaN_ Tryz.f226 csIaNaN_ Tryz.func226 (by kernel_rfl)
def cs12:AFun:=⟨19,2,[.t 4],
 (.seq (.reg [oC 4 0]
[0,1])
(.seq (.seq (.reg [oM 6 0,oZ 7 6,oC 8 0]
[0,1,7,8])
(.block 0
(.loop [0,1,7,8] [7]
 (.seq (.reg [oB 9 .lss 8 7]
[0,1,7,8,9])
(.seq (.cond (.t 9)
.skip
(.exit 0))
(.seq (.block 1
(.seq (.reg [oM 10 8,oM 5 10]
[0,1,5,7,8])
(.seq (.reg [oM 11 1,oM 12 0,oM 13 5,oI 14 2 12 13,oN 15 14 2,op 16 (.callv (.t 11) [.t 15])]
[0,1,5,7,8,16])
(.cond (.t 16)
(.seq (.reg [oM 17 5,oM 4 17]
[4])
.ret)
.skip))))
(.reg [oK 18 .add 8 1,oM 8 18]
[0,1,7,8])))))))
(.seq (.reg [op 4 (.mov (.k (.int .i64 (-1))))]
[4])
.ret)))⟩
abbrev ps12:=@pcR ns13 Tryz.f225 cs12 Tryz.func225 (by kernel_rfl)
def csIaSaS_:AFun:=⟨19,2,[.t 4],
 (.seq (.reg [oC 4 0]
[0,1])
(.seq (.seq (.reg [oM 6 0,oZ 7 6,oC 8 0]
[0,1,7,8])
(.block 0
(.loop [0,1,7,8] [7]
 (.seq (.reg [oB 9 .lss 8 7]
[0,1,7,8,9])
(.seq (.cond (.t 9)
.skip
(.exit 0))
(.seq (.block 1
(.seq (.reg [oM 10 8,oM 5 10]
[0,1,5,7,8])
(.seq (.reg [oM 11 1,oM 12 0,oM 13 5,oI 14 2 12 13,oN 15 14 2,op 16 (.callv (.t 11) [.t 15])]
[0,1,5,7,8,16])
(.cond (.t 16)
(.seq (.reg [oM 17 5,oM 4 17]
[4])
.ret)
.skip))))
(.reg [oK 18 .add 8 1,oM 8 18]
[0,1,7,8])))))))
(.seq (.reg [op 4 (.mov (.k (.int .i64 (-1))))]
[4])
.ret)))⟩
abbrev psIaSaS_:=@pcR nsIaSaS_ Tryz.f161 csIaSaS_ Tryz.func161 (by kernel_rfl)
def csIaTaT_:AFun:=⟨19,2,[.t 4],
 (.seq (.reg [oC 4 0]
[0,1])
(.seq (.seq (.reg [oM 6 0,oZ 7 6,oC 8 0]
[0,1,7,8])
(.block 0
(.loop [0,1,7,8] [7]
 (.seq (.reg [oB 9 .lss 8 7]
[0,1,7,8,9])
(.seq (.cond (.t 9)
.skip
(.exit 0))
(.seq (.block 1
(.seq (.reg [oM 10 8,oM 5 10]
[0,1,5,7,8])
(.seq (.reg [oM 11 1,oM 12 0,oM 13 5,oI 14 5 12 13,oN 15 14 5,op 16 (.callv (.t 11) [.t 15])]
[0,1,5,7,8,16])
(.cond (.t 16)
(.seq (.reg [oM 17 5,oM 4 17]
[4])
.ret)
.skip))))
(.reg [oK 18 .add 8 1,oM 8 18]
[0,1,7,8])))))))
(.seq (.reg [op 4 (.mov (.k (.int .i64 (-1))))]
[4])
.ret)))⟩
abbrev psIaTaT_:=@pcR nsIaTaT_ Tryz.f215 csIaTaT_ Tryz.func215 (by kernel_rfl)
def cs15:AFun:=⟨19,2,[.t 4],
 (.seq (.reg [oC 4 0]
[0,1])
(.seq (.seq (.reg [oM 6 0,oZ 7 6,oC 8 0]
[0,1,7,8])
(.block 0
(.loop [0,1,7,8] [7]
 (.seq (.reg [oB 9 .lss 8 7]
[0,1,7,8,9])
(.seq (.cond (.t 9)
.skip
(.exit 0))
(.seq (.block 1
(.seq (.reg [oM 10 8,oM 5 10]
[0,1,5,7,8])
(.seq (.reg [oM 11 1,oM 12 0,oM 13 5,oI 14 1 12 13,oL 15 14,oB 16 .eql 11 15]
[0,1,5,7,8,16])
(.cond (.t 16)
(.seq (.reg [oM 17 5,oM 4 17]
[4])
.ret)
.skip))))
(.reg [oK 18 .add 8 1,oM 8 18]
[0,1,7,8])))))))
(.seq (.reg [op 4 (.mov (.k (.int .i64 (-1))))]
[4])
.ret)))⟩
abbrev ps15:=@pcR ns15 Tryz.f147 cs15 Tryz.func147 (by kernel_rfl)
def csIaAaA_:AFun:=⟨19,2,[.t 4],
 (.seq (.reg [op 3 (.box taA_ 6 (.t 1)),oC 4 0]
[0,3])
(.seq (.seq (.reg [oM 6 0,oZ 7 6,oC 8 0]
[0,3,7,8])
(.block 0
(.loop [0,3,7,8] [3,7]
 (.seq (.reg [oB 9 .lss 8 7]
[0,3,7,8,9])
(.seq (.cond (.t 9)
.skip
(.exit 0))
(.seq (.block 1
(.seq (.reg [oM 10 8,oM 5 10]
[0,3,5,7,8])
(.seq (.dreg [oN 11 3 6,oM 12 0,oM 13 5,oI 14 6 12 13,oN 15 14 6,op 16 (.eqA false [0,0,0,0,1,2] (.t 11) (.t 15))]
[0,3,5,7,8,16])
(.cond (.t 16)
(.seq (.reg [oM 17 5,oM 4 17]
[4])
.ret)
.skip))))
(.reg [oK 18 .add 8 1,oM 8 18]
[0,3,7,8])))))))
(.seq (.reg [op 4 (.mov (.k (.int .i64 (-1))))]
[4])
.ret)))⟩
abbrev psIaAaA_:=@pcR nsIaAaA_ Tryz.f224 csIaAaA_ Tryz.func224 (by kernel_rfl)
def cs13:AFun:=⟨19,2,[.t 4],
 (.seq (.reg [op 3 (.box taN_ 7 (.t 1)),oC 4 0]
[0,3])
(.seq (.seq (.reg [oM 6 0,oZ 7 6,oC 8 0]
[0,3,7,8])
(.block 0
(.loop [0,3,7,8] [3,7]
 (.seq (.reg [oB 9 .lss 8 7]
[0,3,7,8,9])
(.seq (.cond (.t 9)
.skip
(.exit 0))
(.seq (.block 1
(.seq (.reg [oM 10 8,oM 5 10]
[0,3,5,7,8])
(.seq (.dreg [oN 11 3 7,oM 12 0,oM 13 5,oI 14 7 12 13,oN 15 14 7,op 16 (.eqA false [0,0,0,0,0,1,2] (.t 11) (.t 15))]
[0,3,5,7,8,16])
(.cond (.t 16)
(.seq (.reg [oM 17 5,oM 4 17]
[4])
.ret)
.skip))))
(.reg [oK 18 .add 8 1,oM 8 18]
[0,3,7,8])))))))
(.seq (.reg [op 4 (.mov (.k (.int .i64 (-1))))]
[4])
.ret)))⟩
abbrev ps13:=@pcR ns14 Tryz.f152 cs13 Tryz.func152 (by kernel_rfl)
def csIss_:AFun:=⟨19,2,[.t 4],
 (.seq (.reg [oC 4 0]
[0,1])
(.seq (.seq (.reg [oM 6 0,oZ 7 6,oC 8 0]
[0,1,7,8])
(.block 0
(.loop [0,1,7,8] [7]
 (.seq (.reg [oB 9 .lss 8 7]
[0,1,7,8,9])
(.seq (.cond (.t 9)
.skip
(.exit 0))
(.seq (.block 1
(.seq (.reg [oM 10 8,oM 5 10]
[0,1,5,7,8])
(.seq (.reg [oM 11 1,oM 12 0,oM 13 5,oI 14 1 12 13,oL 15 14,oB 16 .eql 11 15]
[0,1,5,7,8,16])
(.cond (.t 16)
(.seq (.reg [oM 17 5,oM 4 17]
[4])
.ret)
.skip))))
(.reg [oK 18 .add 8 1,oM 8 18]
[0,1,7,8])))))))
(.seq (.reg [op 4 (.mov (.k (.int .i64 (-1))))]
[4])
.ret)))⟩
abbrev psIss_:=@pcR nsIss_ Tryz.f249 csIss_ Tryz.func249 (by kernel_rfl)
def csI_:AFun:=⟨8,2,[.t 4],
 (.seq (.reg [oC 4 0]
[0,1])
(.seq (.reg [oM 5 0,oM 6 1,op 7 (.call nsi_ [.t 5,.t 6,.k (.bool true)]),oM 4 7]
[4])
.ret))⟩
abbrev psI_:=@pcR nsI_ Tryz.f273 csI_ Tryz.func273 (by kernel_rfl)
def csi_:AFun:=⟨21,3,[.t 6],
 (.seq (.reg [oC 6 0]
[0,1,2])
(.seq (.seq (.reg [oM 9 0,op 10 (.rng (.t 9))]
[1,2,10])
(.block 0
(.loop [1,2,10] [10]
 (.seq (.reg [op 11 (.nxt (.t 10)),oE 12 11 0]
[1,2,10,11,12])
(.seq (.cond (.t 12)
.skip
(.exit 0))
(.block 1
(.seq (.reg [oE 13 11 1,oE 14 11 2,oM 7 13,oM 8 14]
[1,2,7,8,10])
(.seq (.reg [oM 15 1,oM 16 8,op 17 (.callv (.t 15) [.t 16]),oM 18 2,op 19 (.eqB false (.t 17) (.t 18))]
[1,2,7,10,19])
(.cond (.t 19)
(.seq (.reg [oM 20 7,oM 6 20]
[6])
.ret)
.skip)))))))))
(.seq (.reg [op 6 (.mov (.k (.int .i64 (-1))))]
[6])
.ret)))⟩
abbrev psi_:=@pcR nsi_ Tryz.f296 csi_ Tryz.func296 (by kernel_rfl)
end Go.Proofs.YtjbcfpkibnhodaaGreatDoor.Ab
