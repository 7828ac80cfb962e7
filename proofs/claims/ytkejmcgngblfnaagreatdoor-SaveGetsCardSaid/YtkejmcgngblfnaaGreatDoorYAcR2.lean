/-
  The functions' abstract code, by program (acgen.py), and that the model's code is it, reckoned by the kernel. No claim is proved here.
-/
import Derived.Test.YtkejmcgngblfnaaGreatDoorYAcR0
namespace Go.Proofs.YtkejmcgngblfnaaGreatDoor.Ab
open Go
def cpB_:AFun:=⟨70,1,[.t 2],
 (.seq (.reg [op 1 (.box taS_ 6 (.t 0)),op 2 (.nilrow tu_ 1)]
[1])
(.seq (.reg [op 6 (.mkrow tu_ 1 1 (.int .u8 0) [(0,.k (.int .u8 81))]),oM 3 6]
[1,3])
(.seq (.reg [oM 7 3,oF 8 1 0,oL 9 8,op 10 (.call npf_ [.t 9]),op 11 (.app tu_ 1 1 (.t 7) (.t 10)),oM 3 11]
[1,3])
(.seq (.reg [oM 12 3,oF 13 1 1,oL 14 13,op 15 (.call npf_ [.t 14]),op 16 (.app tu_ 1 1 (.t 12) (.t 15)),oM 3 16]
[1,3])
(.seq (.reg [oM 17 3,oF 18 1 2,oL 19 18,op 20 (.call npf_ [.t 19]),op 21 (.app tu_ 1 1 (.t 17) (.t 20)),oM 3 21]
[1,3])
(.seq (.reg [oM 22 3,oF 23 1 3,oL 24 23,op 25 (.call npf_ [.t 24]),op 26 (.app tu_ 1 1 (.t 22) (.t 25)),oM 3 26]
[1,3])
(.seq (.reg [oM 27 3,oF 28 1 4,oL 29 28,oZ 30 29,op 31 (.call npf_ [.t 30]),op 32 (.app tu_ 1 1 (.t 27) (.t 31)),oM 3 32]
[1,3])
(.seq (.seq (.reg [oC 4 0]
[1,3,4])
(.block 0
(.loop [1,3,4] [1,2,6,10,11,15,16,20,21,25,26,30,31,32,47]
 (.seq (.seq (.reg [oM 33 4,oF 34 1 4,oL 35 34,oZ 36 35,oB 37 .lss 33 36]
[1,3,4,37])
(.cond (.t 37)
.skip
(.exit 0)))
(.seq (.block 1
(.reg [oM 40 3,oF 41 1 4,oL 42 41,oM 43 4,oI 44 1 42 43,oL 45 44,op 46 (.call npv_ [.t 45]),op 47 (.app tu_ 1 1 (.t 40) (.t 46)),oM 3 47]
[1,3,4]))
(.reg [oM 38 4,oK 39 .add 38 1,oM 4 39]
[1,3,4]))))))
(.seq (.reg [oM 48 3,oF 49 1 5,oL 50 49,oZ 51 50,op 52 (.call npf_ [.t 51]),op 53 (.app tu_ 1 1 (.t 48) (.t 52)),oM 3 53]
[1,3])
(.seq (.seq (.reg [oC 5 0]
[1,3,5])
(.block 2
(.loop [1,3,5] [1,2,6,10,11,15,16,20,21,25,26,30,31,32,36,46,47,51,52,53,68]
 (.seq (.seq (.reg [oM 54 5,oF 55 1 5,oL 56 55,oZ 57 56,oB 58 .lss 54 57]
[1,3,5,58])
(.cond (.t 58)
.skip
(.exit 2)))
(.seq (.block 3
(.reg [oM 61 3,oF 62 1 5,oL 63 62,oM 64 5,oI 65 2 63 64,oN 66 65 2,op 67 (.call npr_ [.t 66]),op 68 (.app tu_ 1 1 (.t 61) (.t 67)),oM 3 68]
[1,3,5]))
(.reg [oM 59 5,oK 60 .add 59 1,oM 5 60]
[1,3,5]))))))
(.seq (.reg [oM 69 3,oM 2 69]
[2])
.ret)))))))))))⟩
abbrev ppB_:=@pcR npB_ Tryz.f12 cpB_ Tryz.func12 (by kernel_rfl)
def cpf_:AFun:=⟨18,1,[.t 2],
 (.seq (.reg [op 2 (.nilrow tu_ 1)]
[0])
(.seq (.reg [oM 3 0,oK 4 .quo 3 16777216,op 5 (.conv .u8 (.t 4)),oM 6 0,oK 7 .quo 6 65536,oK 8 .rem 7 256,op 9 (.conv .u8 (.t 8)),oM 10 0,oK 11 .quo 10 256,oK 12 .rem 11 256,op 13 (.conv .u8 (.t 12)),oM 14 0,oK 15 .rem 14 256,op 16 (.conv .u8 (.t 15)),op 17 (.mkrow tu_ 1 4 (.int .u8 0) [(0,.t 5),(1,.t 9),(2,.t 13),(3,.t 16)]),oM 2 17]
[2])
.ret))⟩
theorem kpf_:chkF Tryz.prog Tryz.f32 cpf_=true:=by kernel_rfl
abbrev ppf_:=@pcR npf_ _ _ Tryz.func32 kpf_
theorem hpf_ {G:Nat→Option AV} {args:List AV} {r:AV} {H H1:List (Nat×Box)} (h:R_ Tryz.prog G cpf_ args H r H1) (hk:args.length=cpf_.k:=by rfl) (hh:h12 cpf_.N H=true:=by rfl):H_ Tryz.prog G npf_ args H r H1:=H_.of_runs (fn:=Tryz.f32) (A:=cpf_) Tryz.func32 kpf_ hk hh h
def cpv_:AFun:=⟨9,1,[.t 2],
 (.seq (.reg [op 2 (.nilrow tu_ 1)]
[0])
(.seq (.reg [oM 3 0,oZ 4 3,op 5 (.call npf_ [.t 4]),oM 6 0,op 7 (.call np10 [.t 6]),op 8 (.app tu_ 1 1 (.t 5) (.t 7)),oM 2 8]
[2])
.ret))⟩
abbrev ppv_:=@pcR npv_ Tryz.f33 cpv_ Tryz.func33 (by kernel_rfl)
def cpr_:AFun:=⟨67,1,[.t 2],
 (.seq (.reg [op 1 (.box taR_ 2 (.t 0)),op 2 (.nilrow tu_ 1)]
[1])
(.seq (.reg [oF 6 1 0,oL 7 6,oZ 8 7,op 9 (.call npf_ [.t 8]),oM 3 9]
[1,3])
(.seq (.seq (.reg [oC 4 0]
[1,3,4])
(.block 0
(.loop [1,3,4] [1,2,8,9,25,34]
 (.seq (.seq (.reg [oM 10 4,oF 11 1 0,oL 12 11,oZ 13 12,oB 14 .lss 10 13]
[1,3,4,14])
(.cond (.t 14)
.skip
(.exit 0)))
(.seq (.block 1
(.seq (.reg [oM 17 3,oF 18 1 0,oL 19 18,oM 20 4,oI 21 5 19 20,oF 22 21 0,oL 23 22,op 24 (.call npf_ [.t 23]),op 25 (.app tu_ 1 1 (.t 17) (.t 24)),oM 3 25]
[1,3,4])
(.reg [oM 26 3,oF 27 1 0,oL 28 27,oM 29 4,oI 30 5 28 29,oF 31 30 1,oN 32 31 4,op 33 (.call npK_ [.t 32]),op 34 (.app tu_ 1 1 (.t 26) (.t 33)),oM 3 34]
[1,3,4])))
(.reg [oM 15 4,oK 16 .add 15 1,oM 4 16]
[1,3,4]))))))
(.seq (.reg [oM 35 3,oF 36 1 1,oL 37 36,oZ 38 37,op 39 (.call npf_ [.t 38]),op 40 (.app tu_ 1 1 (.t 35) (.t 39)),oM 3 40]
[1,3])
(.seq (.seq (.reg [oC 5 0]
[1,3,5])
(.block 2
(.loop [1,3,5] [1,2,8,9,13,24,25,33,34,38,39,40,56,65]
 (.seq (.seq (.reg [oM 41 5,oF 42 1 1,oL 43 42,oZ 44 43,oB 45 .lss 41 44]
[1,3,5,45])
(.cond (.t 45)
.skip
(.exit 2)))
(.seq (.block 3
(.seq (.reg [oM 48 3,oF 49 1 1,oL 50 49,oM 51 5,oI 52 2 50 51,oF 53 52 0,oL 54 53,op 55 (.call npf_ [.t 54]),op 56 (.app tu_ 1 1 (.t 48) (.t 55)),oM 3 56]
[1,3,5])
(.reg [oM 57 3,oF 58 1 1,oL 59 58,oM 60 5,oI 61 2 59 60,oF 62 61 1,oL 63 62,op 64 (.call npv_ [.t 63]),op 65 (.app tu_ 1 1 (.t 57) (.t 64)),oM 3 65]
[1,3,5])))
(.reg [oM 46 5,oK 47 .add 46 1,oM 5 47]
[1,3,5]))))))
(.seq (.reg [oM 66 3,oM 2 66]
[2])
.ret))))))⟩
abbrev ppr_:=@pcR npr_ Tryz.f34 cpr_ Tryz.func34 (by kernel_rfl)
def cp10:AFun:=⟨53,2,[.t 4],
 (.seq (.reg [oV 4 false]
[0,1])
(.seq (.seq (.reg [oM 7 0,oZ 8 7,oM 9 1,oZ 10 9,oB 11 .neq 8 10]
[0,1,11])
(.cond (.t 11)
(.seq (.reg [oV 4 false]
[4])
.ret)
.skip))
(.seq (.seq (.reg [oC 5 0]
[0,1,5])
(.block 0
(.loop [0,1,5] [8,10]
 (.seq (.seq (.reg [oM 12 5,oM 13 0,oZ 14 13,oB 15 .lss 12 14]
[0,1,5,15])
(.cond (.t 15)
.skip
(.exit 0)))
(.seq (.block 1
(.seq (.seq (.dreg [oM 18 0,oM 19 5,oI 20 1 18 19,oL 21 20,oZ 22 21,oM 23 1,oM 24 5,oI 25 1 23 24,oL 26 25,oZ 27 26,oB 28 .neq 22 27]
[0,1,5,28])
(.cond (.t 28)
(.seq (.reg [oV 4 false]
[4])
.ret)
.skip))
(.seq (.reg [oC 6 0]
[0,1,5,6])
(.block 2
(.loop [0,1,5,6] [8,10,14,22,27]
 (.seq (.seq (.reg [oM 29 6,oM 30 0,oM 31 5,oI 32 1 30 31,oL 33 32,oZ 34 33,oB 35 .lss 29 34]
[0,1,5,6,35])
(.cond (.t 35)
.skip
(.exit 2)))
(.seq (.block 3
(.seq (.dreg [oM 38 0,oM 39 5,oI 40 1 38 39,oL 41 40,oM 42 6,oI 43 4 41 42,oN 44 43 4,oM 45 1,oM 46 5,oI 47 1 45 46,oL 48 47,oM 49 6,oI 50 4 48 49,oN 51 50 4,op 52 (.eqA true [0,0,1,2] (.t 44) (.t 51))]
[0,1,5,6,52])
(.cond (.t 52)
(.seq (.reg [oV 4 false]
[4])
.ret)
.skip)))
(.reg [oM 36 6,oK 37 .add 36 1,oM 6 37]
[0,1,5,6]))))))))
(.reg [oM 16 5,oK 17 .add 16 1,oM 5 17]
[0,1,5]))))))
(.seq (.reg [oV 4 true]
[4])
.ret))))⟩
abbrev pp10:=@pcR npS_ Tryz.f35 cp10 Tryz.func35 (by kernel_rfl)
def cpK_:AFun:=⟨19,1,[.t 2],
 (.seq (.reg [op 2 (.nilrow tu_ 1)]
[0])
(.seq (.reg [op 3 (.nilrow tu_ 1)]
[0,3])
(.seq (.seq (.reg [oC 4 0]
[0,3,4])
(.block 0
(.loop [0,3,4] [2,3,17]
 (.seq (.seq (.reg [oM 5 4,oM 6 0,oZ 7 6,oB 8 .lss 5 7]
[0,3,4,8])
(.cond (.t 8)
.skip
(.exit 0)))
(.seq (.block 1
(.reg [oM 11 3,oM 12 0,oM 13 4,oI 14 4 12 13,oN 15 14 4,op 16 (.call npK_ [.t 15]),op 17 (.app tu_ 1 1 (.t 11) (.t 16)),oM 3 17]
[0,3,4]))
(.reg [oM 9 4,oK 10 .add 9 1,oM 4 10]
[0,3,4]))))))
(.seq (.reg [oM 18 3,oM 2 18]
[2])
.ret))))⟩
abbrev ppK_:=@pcR np10 Tryz.f70 cpK_ Tryz.func70 (by kernel_rfl)
def cp11:AFun:=⟨70,1,[.t 2],
 (.seq (.reg [op 1 (.box taV_ 4 (.t 0)),op 2 (.nilrow tu_ 1)]
[1])
(.seq (.reg [oF 8 1 0,oL 9 8,op 10 (.conv .u8 (.t 9)),op 11 (.mkrow tu_ 1 1 (.int .u8 0) [(0,.t 10)]),oM 3 11]
[1,3])
(.seq (.seq (.reg [oF 12 1 0,oL 13 12,oK 14 .eql 13 3]
[1,3,14])
(.cond (.t 14)
(.seq (.seq (.reg [oF 15 1 3,oL 16 15]
[3,16])
(.cond (.t 16)
(.seq (.reg [oM 17 3,op 18 (.mkrow tu_ 1 1 (.int .u8 0) [(0,.k (.int .u8 1))]),op 19 (.app tu_ 1 1 (.t 17) (.t 18)),oM 2 19]
[2])
.ret)
.skip))
(.seq (.reg [oM 20 3,op 21 (.mkrow tu_ 1 1 (.int .u8 0) [(0,.k (.int .u8 0))]),op 22 (.app tu_ 1 1 (.t 20) (.t 21)),oM 2 22]
[2])
.ret))
.skip))
(.seq (.seq (.reg [oF 23 1 0,oL 24 23,oK 25 .eql 24 2]
[1,3,25])
(.cond (.t 25)
(.seq (.seq (.reg [oC 4 0]
[1,3,4])
(.block 0
(.loop [1,3,4] [1,2,11,18,19,21,22,39,47]
 (.seq (.seq (.reg [oM 26 4,oF 27 1 2,oL 28 27,op 29 (.len true (.t 28)),oB 30 .lss 26 29]
[1,3,4,30])
(.cond (.t 30)
.skip
(.exit 0)))
(.seq (.block 1
(.seq (.reg [oM 33 3,oF 34 1 2,oL 35 34,oM 36 4,op 37 (.idx (.t 35) (.t 36)),op 38 (.mkrow tu_ 1 1 (.int .u8 0) [(0,.t 37)]),op 39 (.app tu_ 1 1 (.t 33) (.t 38)),oM 3 39]
[1,3,4])
(.seq (.reg [oF 40 1 2,oL 41 40,oM 42 4,op 43 (.idx (.t 41) (.t 42)),op 44 (.bin .eql (.t 43) (.k (.int .u8 0)))]
[1,3,4,44])
(.cond (.t 44)
(.reg [oM 45 3,op 46 (.mkrow tu_ 1 1 (.int .u8 0) [(0,.k (.int .u8 255))]),op 47 (.app tu_ 1 1 (.t 45) (.t 46)),oM 3 47]
[1,3,4])
.skip))))
(.reg [oM 31 4,oK 32 .add 31 1,oM 4 32]
[1,3,4]))))))
(.seq (.reg [oM 48 3,op 49 (.mkrow tu_ 1 2 (.int .u8 0) [(0,.k (.int .u8 0)),(1,.k (.int .u8 1))]),op 50 (.app tu_ 1 1 (.t 48) (.t 49)),oM 2 50]
[2])
.ret))
.skip))
(.seq (.reg [oF 51 1 1,oL 52 51,op 53 (.conv .u64 (.t 52)),op 54 (.bin .add (.t 53) (.k (.int .u64 9223372036854775808))),oM 5 54]
[3,5])
(.seq (.reg [op 6 (.mov (.k (.int .u64 72057594037927936)))]
[3,5,6])
(.seq (.seq (.reg [oC 7 0]
[3,5,6,7])
(.block 2
(.loop [3,5,6,7] [1,2,11,18,19,21,22,29,38,39,46,47,49,50,66]
 (.seq (.seq (.reg [oM 55 7,oK 56 .lss 55 8]
[3,5,6,7,56])
(.cond (.t 56)
.skip
(.exit 2)))
(.seq (.block 3
(.seq (.reg [oM 59 3,oM 60 5,oM 61 6,oB 62 .quo 60 61,op 63 (.bin .rem (.t 62) (.k (.int .u64 256))),op 64 (.conv .u8 (.t 63)),op 65 (.mkrow tu_ 1 1 (.int .u8 0) [(0,.t 64)]),op 66 (.app tu_ 1 1 (.t 59) (.t 65)),oM 3 66]
[3,5,6,7])
(.reg [oM 67 6,op 68 (.bin .quo (.t 67) (.k (.int .u64 256))),oM 6 68]
[3,5,6,7])))
(.reg [oM 57 7,oK 58 .add 57 1,oM 7 58]
[3,5,6,7]))))))
(.seq (.reg [oM 69 3,oM 2 69]
[2])
.ret))))))))⟩
abbrev pp11:=@pcR npK_ Tryz.f71 cp11 Tryz.func71 (by kernel_rfl)
def cvR_:AFun:=⟨32,1,[.t 2],
 (.seq (.reg [op 1 (.box taV_ 4 (.t 0)),oV 2 false]
[1])
(.seq (.seq (.reg [oF 3 1 0,oL 4 3]
[1,4])
(.block 0
(.seq (.reg [oK 6 .eql 4 1,oM 5 6]
[1,4,5])
(.cond (.t 5)
(.seq (.dreg [oN 7 1 4,oF 8 1 1,oL 9 8,op 10 (.call nvI_ [.t 9]),op 11 (.eqA false [0,0,1,2] (.t 7) (.t 10)),oM 2 11]
[2])
.ret)
(.seq (.reg [oK 13 .eql 4 2,oM 12 13]
[1,4,12])
(.cond (.t 12)
(.seq (.dreg [oN 14 1 4,oF 15 1 2,oL 16 15,op 17 (.call nvS_ [.t 16]),op 18 (.eqA false [0,0,1,2] (.t 14) (.t 17)),oM 19 18,qF 20 1 2 19 true,qL 21 20 19 true,oG 22 (.len true (.t 21)) 19 true,qK 23 .leq 22 4096 19 true,oA 24 19 23,oM 2 24]
[2])
.ret)
(.seq (.reg [oK 26 .eql 4 3,oM 25 26]
[1,25])
(.cond (.t 25)
(.seq (.dreg [oN 27 1 4,oF 28 1 3,oL 29 28,op 30 (.call nvB_ [.t 29]),op 31 (.eqA false [0,0,1,2] (.t 27) (.t 30)),oM 2 31]
[2])
.ret)
.skip))))))))
(.seq (.reg [oV 2 false]
[2])
.ret)))⟩
theorem kvR_:chkF Tryz.prog Tryz.f82 cvR_=true:=by kernel_rfl
abbrev pvR_:=@pcR nvR_ _ _ Tryz.func82 kvR_
def cvI_:AFun:=⟨5,1,[.cells 2 4],
 (.seq (.reg [op 2 (.alloc taV_ 4 (.agg [.int .i64 0,.int .i64 0,.str [],.bool false]))]
[0,2])
(.seq (.reg [oM 3 0,op 4 (.build [.int .i64 0,.int .i64 0,.str [],.bool false] [(0,1,.k (.int .i64 1)),(1,1,.t 3)]),
⟨none,.store (.t 2) (.t 4) 4,none⟩]
[2])
.ret))⟩
theorem kvI_:chkF Tryz.prog Tryz.f119 cvI_=true:=by kernel_rfl
abbrev pvI_:=@pcR nvI_ _ _ Tryz.func119 kvI_
def cvS_:AFun:=⟨5,1,[.cells 2 4],
 (.seq (.reg [op 2 (.alloc taV_ 4 (.agg [.int .i64 0,.int .i64 0,.str [],.bool false]))]
[0,2])
(.seq (.reg [oM 3 0,op 4 (.build [.int .i64 0,.int .i64 0,.str [],.bool false] [(0,1,.k (.int .i64 2)),(2,1,.t 3)]),
⟨none,.store (.t 2) (.t 4) 4,none⟩]
[2])
.ret))⟩
theorem kvS_:chkF Tryz.prog Tryz.f120 cvS_=true:=by kernel_rfl
abbrev pvS_:=@pcR nvS_ _ _ Tryz.func120 kvS_
def cvB_:AFun:=⟨5,1,[.cells 2 4],
 (.seq (.reg [op 2 (.alloc taV_ 4 (.agg [.int .i64 0,.int .i64 0,.str [],.bool false]))]
[0,2])
(.seq (.reg [oM 3 0,op 4 (.build [.int .i64 0,.int .i64 0,.str [],.bool false] [(0,1,.k (.int .i64 3)),(3,1,.t 3)]),
⟨none,.store (.t 2) (.t 4) 4,none⟩]
[2])
.ret))⟩
theorem kvB_:chkF Tryz.prog Tryz.f121 cvB_=true:=by kernel_rfl
abbrev pvB_:=@pcR nvB_ _ _ Tryz.func121 kvB_
def ckO_:AFun:=⟨21,1,[.t 2],
 (.seq (.reg [op 2 (.nilrow tu_ 1)]
[0])
(.seq (.reg [op 3 (.nilrow tu_ 1)]
[0,3])
(.seq (.seq (.reg [oM 6 0,oZ 7 6,oC 8 0]
[3,6,7,8])
(.block 0
(.loop [3,6,7,8] [2,3,7,18]
 (.seq (.reg [oB 9 .lss 8 7]
[3,6,7,8,9])
(.seq (.cond (.t 9)
.skip
(.exit 0))
(.seq (.block 1
(.seq (.reg [oI 10 4 6 8,oN 11 10 4,op 5 (.alloc taV_ 4 (.agg [.int .i64 0,.int .i64 0,.str [],.bool false])),
⟨none,.store (.t 5) (.t 11) 4,none⟩]
[3,5,6,7,8])
(.seq (.seq (.reg [oN 12 5 4,op 13 (.call nvR_ [.t 12]),oU 14 13]
[3,5,6,7,8,14])
(.cond (.t 14)
(.seq (.reg [op 2 (.nilrow tu_ 1)]
[2])
.ret)
.skip))
(.reg [oM 15 3,oN 16 5 4,op 17 (.call nko_ [.t 16]),op 18 (.app tu_ 1 1 (.t 15) (.t 17)),oM 3 18]
[3,6,7,8]))))
(.reg [oK 19 .add 8 1,oM 8 19]
[3,6,7,8])))))))
(.seq (.reg [oM 20 3,oM 2 20]
[2])
.ret))))⟩
abbrev pkO_:=@pcR nkO_ Tryz.f97 ckO_ Tryz.func97 (by kernel_rfl)
def cko_:AFun:=⟨32,1,[.t 2],
 (.seq (.reg [op 1 (.box taV_ 4 (.t 0)),op 2 (.nilrow tu_ 1)]
[1])
(.seq (.reg [oF 4 1 0,oL 5 4,op 6 (.conv .u8 (.t 5)),op 7 (.mkrow tu_ 1 1 (.int .u8 0) [(0,.t 6)]),oM 3 7]
[1,3])
(.seq (.seq (.reg [oF 8 1 0,oL 9 8]
[1,3,9])
(.block 0
(.seq (.reg [oK 11 .eql 9 1,oM 10 11]
[1,3,9,10])
(.cond (.t 10)
(.seq (.reg [oM 12 3,oF 13 1 1,oL 14 13,op 15 (.call nkn_ [.t 14]),op 16 (.app tu_ 1 1 (.t 12) (.t 15)),oM 2 16]
[2])
.ret)
(.seq (.reg [oK 18 .eql 9 2,oM 17 18]
[1,3,17])
(.cond (.t 17)
(.seq (.reg [oM 19 3,oF 20 1 2,oL 21 20,op 22 (.call nkt_ [.t 21]),op 23 (.app tu_ 1 1 (.t 19) (.t 22)),oM 2 23]
[2])
.ret)
.skip))))))
(.seq (.seq (.reg [oF 24 1 3,oL 25 24]
[3,25])
(.cond (.t 25)
(.seq (.reg [oM 26 3,op 27 (.mkrow tu_ 1 1 (.int .u8 0) [(0,.k (.int .u8 1))]),op 28 (.app tu_ 1 1 (.t 26) (.t 27)),oM 2 28]
[2])
.ret)
.skip))
(.seq (.reg [oM 29 3,op 30 (.mkrow tu_ 1 1 (.int .u8 0) [(0,.k (.int .u8 0))]),op 31 (.app tu_ 1 1 (.t 29) (.t 30)),oM 2 31]
[2])
.ret)))))⟩
abbrev pko_:=@pcR nko_ Tryz.f169 cko_ Tryz.func169 (by kernel_rfl)
def ckt_:AFun:=⟨27,1,[.t 2],
 (.seq (.reg [op 2 (.nilrow tu_ 1)]
[0])
(.seq (.reg [op 3 (.nilrow tu_ 1)]
[0,3])
(.seq (.seq (.reg [oM 5 0,op 6 (.len true (.t 5)),oC 7 0]
[0,3,6,7])
(.block 0
(.loop [0,3,6,7] [2,3,6,15,22]
 (.seq (.reg [oB 8 .lss 7 6]
[0,3,6,7,8])
(.seq (.cond (.t 8)
.skip
(.exit 0))
(.seq (.block 1
(.seq (.reg [oM 9 7,oM 4 9]
[0,3,4,6,7])
(.seq (.reg [oM 10 3,oM 11 0,oM 12 4,op 13 (.idx (.t 11) (.t 12)),op 14 (.mkrow tu_ 1 1 (.int .u8 0) [(0,.t 13)]),op 15 (.app tu_ 1 1 (.t 10) (.t 14)),oM 3 15]
[0,3,4,6,7])
(.seq (.reg [oM 16 0,oM 17 4,op 18 (.idx (.t 16) (.t 17)),op 19 (.bin .eql (.t 18) (.k (.int .u8 0)))]
[0,3,6,7,19])
(.cond (.t 19)
(.reg [oM 20 3,op 21 (.mkrow tu_ 1 1 (.int .u8 0) [(0,.k (.int .u8 255))]),op 22 (.app tu_ 1 1 (.t 20) (.t 21)),oM 3 22]
[0,3,6,7])
.skip)))))
(.reg [oK 23 .add 7 1,oM 7 23]
[0,3,6,7])))))))
(.seq (.reg [oM 24 3,op 25 (.mkrow tu_ 1 2 (.int .u8 0) [(0,.k (.int .u8 0)),(1,.k (.int .u8 1))]),op 26 (.app tu_ 1 1 (.t 24) (.t 25)),oM 2 26]
[2])
.ret))))⟩
abbrev pkt_:=@pcR nkt_ Tryz.f210 ckt_ Tryz.func210 (by kernel_rfl)
def ckC_:AFun:=⟨16,1,[.cells 2 4,.t 3,.t 4],
 (.seq (.reg [op 2 (.alloc taV_ 4 (.agg [.int .i64 0,.int .i64 0,.str [],.bool false])),oC 3 0,oV 4 false]
[0,2])
(.seq (.reg [oM 8 0,op 9 (.call nk10 [.t 8]),oM 7 9,oE 10 7 0,oE 11 7 1,op 5 (.alloc taV_ 4 (.agg [.int .i64 0,.int .i64 0,.str [],.bool false])),
⟨none,.store (.t 5) (.t 10) 4,none⟩,oM 6 11]
[2,5,6])
(.seq (.reg [oN 12 5 4,oM 13 6,oM 14 6,oK 15 .gtr 14 0,
⟨none,.store (.t 2) (.t 12) 4,none⟩,oM 3 13,oM 4 15]
[2,3,4])
.ret)))⟩
theorem kkC_:chkF Tryz.prog Tryz.f98 ckC_=true:=by kernel_rfl
abbrev pkC_:=@pcR nkC_ _ _ Tryz.func98 kkC_
def ck11:AFun:=⟨70,1,[.cells 2 4,.t 3],
 (.seq (.reg [op 2 (.alloc taV_ 4 (.agg [.int .i64 0,.int .i64 0,.str [],.bool false])),oC 3 0]
[0,2])
(.seq (.seq (.reg [oM 9 0,oZ 10 9,oK 11 .lss 10 2]
[0,2,11])
(.cond (.t 11)
(.seq (.reg [op 12 (.build [.int .i64 0,.int .i64 0,.str [],.bool false] []),
⟨none,.store (.t 2) (.t 12) 4,none⟩,oC 3 0]
[2,3])
.ret)
.skip))
(.seq (.seq (.reg [oM 13 0,op 14 (.iaddr 1 (.t 13) (.k (.int .i64 0))),oL 15 14,op 16 (.conv .i64 (.t 15))]
[0,2,16])
(.block 0
(.seq (.reg [oK 18 .eql 16 3,oM 17 18]
[0,2,16,17])
(.cond (.t 17)
(.seq (.reg [oM 19 0,op 20 (.iaddr 1 (.t 19) (.k (.int .i64 1))),oL 21 20,op 22 (.bin .leq (.t 21) (.k (.int .u8 1)))]
[0,2,22])
(.cond (.t 22)
(.seq (.reg [oM 23 0,op 24 (.iaddr 1 (.t 23) (.k (.int .i64 1))),oL 25 24,op 26 (.bin .eql (.t 25) (.k (.int .u8 1))),op 27 (.call nvB_ [.t 26]),
⟨none,.store (.t 2) (.t 27) 4,none⟩,oC 3 2]
[2,3])
.ret)
.skip))
(.seq (.reg [oK 29 .eql 16 2,oM 28 29]
[0,2,16,28])
(.cond (.t 28)
(.seq (.reg [oM 31 0,op 32 (.slc 1 (.t 31) (some (.k (.int .i64 1))) none),op 33 (.call nkc_ [.t 32]),oM 30 33,oE 34 30 0,oE 35 30 1,oM 4 34,oM 5 35]
[2,4,5])
(.seq (.reg [oM 36 5,oK 37 .gtr 36 0,oM 38 37,qM 39 4 38 true,oG 40 (.len true (.t 39)) 38 true,qK 41 .leq 40 4096 38 true,oA 42 38 41]
[2,4,5,42])
(.cond (.t 42)
(.seq (.reg [oM 43 4,op 44 (.call nvS_ [.t 43]),oM 45 5,oK 46 .add 45 1,
⟨none,.store (.t 2) (.t 44) 4,none⟩,oM 3 46]
[2,3])
.ret)
.skip)))
(.seq (.reg [oK 48 .eql 16 1,oM 47 48]
[0,2,47])
(.cond (.t 47)
(.seq (.reg [oM 49 0,oZ 50 49,oK 51 .gtr 50 8]
[0,2,51])
(.cond (.t 51)
(.seq (.reg [op 6 (.mov (.k (.int .u64 0)))]
[0,2,6])
(.seq (.seq (.reg [oM 52 0,op 53 (.slc 1 (.t 52) (some (.k (.int .i64 1))) (some (.k (.int .i64 9)))),oZ 54 53,oC 55 0]
[2,6,53,54,55])
(.block 1
(.loop [2,6,53,54,55] [2,10,27,33,40,44,50,54]
 (.seq (.reg [oB 56 .lss 55 54]
[2,6,53,54,55,56])
(.seq (.cond (.t 56)
.skip
(.exit 1))
(.seq (.block 2
(.seq (.reg [oI 57 1 53 55,oL 58 57,oM 8 58]
[2,6,8,53,54,55])
(.reg [oM 59 6,op 60 (.bin .shl (.t 59) (.k (.int .u64 8))),oM 61 8,op 62 (.conv .u64 (.t 61)),oB 63 .or 60 62,oM 6 63]
[2,6,53,54,55])))
(.reg [oK 64 .add 55 1,oM 55 64]
[2,6,53,54,55])))))))
(.seq (.reg [oM 65 6,op 66 (.bin .xor (.t 65) (.k (.int .u64 9223372036854775808))),op 67 (.conv .i64 (.t 66)),op 68 (.call nvI_ [.t 67]),
⟨none,.store (.t 2) (.t 68) 4,none⟩,oC 3 9]
[2,3])
.ret)))
.skip))
.skip))))))))
(.seq (.reg [op 69 (.build [.int .i64 0,.int .i64 0,.str [],.bool false] []),
⟨none,.store (.t 2) (.t 69) 4,none⟩,oC 3 0]
[2,3])
.ret))))⟩
theorem kk10:chkF Tryz.prog Tryz.f170 ck11=true:=by kernel_rfl
abbrev pk10:=@pcR nk10 _ _ Tryz.func170 kk10
def ckc_:AFun:=⟨62,1,[.t 2,.t 3],
 (.seq (.reg [op 2 (.mov (.k (.str []))),oC 3 0]
[0])
(.seq .skip
(.seq (.reg [op 4 (.nilrow tu_ 1)]
[0,4])
(.seq (.reg [oC 5 0]
[0,4,5])
(.seq .skip
(.seq (.block 0
(.loop [0,4,5] [4,22,41]
 (.seq (.seq (.reg [oM 6 5,oM 7 0,oZ 8 7,oB 9 .lss 6 8]
[0,4,5,9])
(.cond (.t 9)
.skip
(.exit 0)))
(.block 1
(.block 2
(.seq (.reg [oM 11 0,oM 12 5,oI 13 1 11 12,oL 14 13,op 15 (.bin .neq (.t 14) (.k (.int .u8 0))),oM 10 15]
[0,4,5,10])
(.cond (.t 10)
(.seq (.reg [oM 16 4,oM 17 0,oM 18 5,oI 19 1 17 18,oL 20 19,op 21 (.mkrow tu_ 1 1 (.int .u8 0) [(0,.t 20)]),op 22 (.app tu_ 1 1 (.t 16) (.t 21)),oM 4 22]
[0,4,5])
(.reg [oM 23 5,oK 24 .add 23 1,oM 5 24]
[0,4,5]))
(.seq (.reg [oM 26 5,oK 27 .add 26 1,oM 28 0,oZ 29 28,oB 30 .lss 27 29,oM 31 30,qM 32 0 31 true,qM 33 5 31 true,qK 34 .add 33 1 31 true,qI 35 1 32 34 31 true,qL 36 35 31 true,oG 37 (.bin .eql (.t 36) (.k (.int .u8 255))) 31 true,oA 38 31 37,oM 25 38]
[0,4,5,25])
(.cond (.t 25)
(.seq (.reg [oM 39 4,op 40 (.mkrow tu_ 1 1 (.int .u8 0) [(0,.k (.int .u8 0))]),op 41 (.app tu_ 1 1 (.t 39) (.t 40)),oM 4 41]
[0,4,5])
(.reg [oM 42 5,oK 43 .add 42 2,oM 5 43]
[0,4,5]))
(.seq (.reg [oM 45 5,oK 46 .add 45 1,oM 47 0,oZ 48 47,oB 49 .lss 46 48,oM 50 49,qM 51 0 50 true,qM 52 5 50 true,qK 53 .add 52 1 50 true,qI 54 1 51 53 50 true,qL 55 54 50 true,oG 56 (.bin .eql (.t 55) (.k (.int .u8 1))) 50 true,oA 57 50 56,oM 44 57]
[4,5,44])
(.cond (.t 44)
(.seq (.reg [oM 58 4,op 59 (.b2s (.t 58)),oM 60 5,oK 61 .add 60 2,oM 2 59,oM 3 61]
[2,3])
.ret)
(.exit 0))))))))))))
(.seq (.reg [op 2 (.mov (.k (.str []))),oC 3 0]
[2,3])
.ret)))))))⟩
theorem kkc_:chkF Tryz.prog Tryz.f211 ckc_=true:=by kernel_rfl
abbrev pkc_:=@pcR nkc_ _ _ Tryz.func211 kkc_
def ceN_:AFun:=⟨60,2,[.t 4],
 (.seq (.reg [op 2 (.box taQ_ 9 (.t 0)),op 3 (.box teO_ 4 (.t 1)),op 4 (.mov (.k (.nilp)))]
[2,3])
(.seq (.seq (.reg [oN 7 2 9,op 8 (.call ncR_ [.t 7]),oU 9 8]
[2,3,9])
(.cond (.t 9)
(.seq (.reg [op 4 (.mov (.k (.nilp)))]
[4])
.ret)
.skip))
(.seq (.dregT [op 10 (.build [.int .i64 0,.int .i64 0,.int .i64 0] [(1,1,.k (.int .i64 1))]),op 11 (.box teC_ 3 (.t 10)),oN 12 2 9,oN 13 3 4,oF 14 3 3,oL 15 14,op 16 (.callB ntN_ [.t 15]),oN 17 2 9,op 18 (.callB ndO_ [.t 17,.k (.nils)]),oN 19 2 9,op 20 (.build [.str [],.nils,.nils,.nils,.nils,.int .i64 0,.nils,.nils,.nils] [(0,9,.t 19)]),op 21 (.mki tep_ (.t 20)),op 22 (.build [.nilp,.str [],.nils,.nils,.nils,.nils,.int .i64 0,.nils,.nils,.nils,.bool false,.bool false,.bool false,.int .i64 0,.nilp,.nilp,.nils,.nili,.int .i64 0] [(0,1,.t 11),(1,9,.t 12),(10,4,.t 13),(14,1,.t 16),(16,1,.t 18),(17,1,.t 21)]),op 23 (.box teM_ 19 (.t 22)),oM 5 23]
[1,6,8,13] [[],[],[],[],[],[],[],[],[6],[],[],[],[1,6,8],[1,6,8],[1,6,8,13]] [[1,13],[],[13],[13],[6,8,13],[6,8,13],[],[8,13],[],[13],[13],[13],[13],[],[]] [0,2,3,4,5,7,9,10,11]
(.next 1 [] [2,3,4,5,7,9,10,11] (.next 6 [] [2,3,7,9,10,11] (.next 8 [12] [2,3,9,10,11] (.next 13 [14] [] .fin .nil) .nil) .nil) (.next 6 [] [0,2,3,7,9,10,11] (.next 1 [] [2,3,7,9,10,11] (.next 8 [12] [2,3,9,10,11] (.next 13 [14] [] .fin .nil) .nil) (.next 8 [] [0,2,3,9,10,11] (.next 1 [12] [2,3,9,10,11] (.next 13 [14] [] .fin .nil) .nil) .nil)) .nil))
[2,3,5,10,11,12,13,14,15,16,17,18,19,20,21,22,23] [2,3,5])
(.seq (.reg [oM 24 5,oM 25 5,op 26 (.nchk (.t 25)),oF 27 26 14,oL 28 27,op 29 (.call nt10 [.t 28]),op 30 (.nchk (.t 24)),oF 31 30 10,oF 32 31 3,
⟨none,.store (.t 32) (.t 29) 1,none⟩]
[2,3,5])
(.seq (.seq (.reg [oN 33 2 9,op 34 (.call ns17 [.t 33]),oM 6 34]
[2,3,5,6])
(.seq (.reg [oF 35 3 0,oL 36 35,oM 37 36,qM 38 6 37 true,oG 39 (.eqP true (.t 38) (.k (.nilp))) 37 true,oA 40 37 39]
[2,3,5,6,40])
(.cond (.t 40)
(.reg [oM 41 5,oM 42 6,op 43 (.build [.nilp] [(0,1,.t 42)]),op 44 (.mki teb_ (.t 43)),op 45 (.nchk (.t 41)),oF 46 45 17,
⟨none,.store (.t 46) (.t 44) 1,none⟩]
[2,3,5])
.skip)))
(.seq (.seq (.reg [oF 47 3 1,oL 48 47]
[2,5,48])
(.cond (.t 48)
(.reg [oM 49 5,oN 50 2 9,op 51 (.call niN_ [.t 50]),op 52 (.nchk (.t 49)),oF 53 52 15,
⟨none,.store (.t 53) (.t 51) 1,none⟩]
[2,5])
.skip))
(.seq (.reg [oM 54 5,oN 55 2 9,op 56 (.call ncS_ [.t 55]),op 57 (.build [.nils,.nils] [(1,1,.t 56)]),op 58 (.call neMp_ [.t 54,.t 57])]
[5])
(.seq (.reg [oM 59 5,oM 4 59]
[4])
.ret))))))))⟩
theorem keN_:chkF Tryz.prog Tryz.f24 ceN_=true:=by kernel_rfl
def ceMp_:AFun:=⟨26,2,[],
 (.seq (.reg [op 3 (.box taR_ 2 (.t 1))]
[0,3])
(.seq (.dregT [oM 7 0,op 8 (.nchk (.t 7)),oF 9 8 14,oL 10 9,oF 11 3 0,oL 12 11,oF 13 3 1,oL 14 13,op 15 (.callB ntTP_ [.t 10,.t 12,.t 14]),oM 6 15,oE 16 6 0,oE 17 6 1,oM 4 16,oM 5 17]
[8] [[],[],[],[],[],[],[],[],[],[8],[8],[8],[8],[8]] [[8],[8],[8],[8],[8],[8],[8],[8],[],[],[],[],[],[]] [0,1,2,3,4,5,6,7]
(.next 8 [9,10,11,12,13] [] .fin .nil)
[0,3,4,5,6,7,8,9,10,11,12,13,14,15,16,17] [0,3,4])
(.dregT [oM 18 0,op 19 (.nchk (.t 18)),oF 20 19 15,oL 21 20,oM 22 4,oF 23 3 0,oL 24 23,op 25 (.callB niIA_ [.t 21,.t 22,.t 24])]
[7] [[],[],[],[],[],[],[],[]] [[7],[7],[7],[7],[7],[7],[7],[]] [0,1,2,3,4,5,6]
(.next 7 [] [] .fin .nil)
[0,3,4,18,19,20,21,22,23,24,25] [])))⟩
theorem keMp_:chkF Tryz.prog Tryz.f46 ceMp_=true:=by kernel_rfl
def ceMS_:AFun:=⟨36,1,[.cells 2 6],
 (.seq (.reg [op 2 (.alloc taS_ 6 (.agg [.int .i64 0,.int .i64 0,.int .i64 0,.int .i64 0,.nils,.nils]))]
[0,2])
(.seq (.seq (.reg [oM 3 0,op 4 (.eqP false (.t 3) (.k (.nilp)))]
[0,2,4])
(.cond (.t 4)
(.seq (.reg [op 5 (.build [.int .i64 0,.int .i64 0,.int .i64 0,.int .i64 0,.nils,.nils] []),
⟨none,.store (.t 2) (.t 5) 6,none⟩]
[2])
.ret)
.skip))
(.seq (.dregT [oM 6 0,op 7 (.nchk (.t 6)),oF 8 7 0,oL 9 8,op 10 (.nchk (.t 9)),oF 11 10 0,oL 12 11,oM 13 0,op 14 (.nchk (.t 13)),oF 15 14 0,oL 16 15,op 17 (.nchk (.t 16)),oF 18 17 1,oL 19 18,oM 20 0,op 21 (.nchk (.t 20)),oF 22 21 0,oL 23 22,op 24 (.nchk (.t 23)),oF 25 24 2,oL 26 25,oM 27 0,op 28 (.nchk (.t 27)),oF 29 28 18,oL 30 29,oM 31 0,op 32 (.callB neMD_ [.t 31]),oM 33 0,op 34 (.callB neMR_ [.t 33]),op 35 (.build [.int .i64 0,.int .i64 0,.int .i64 0,.int .i64 0,.nils,.nils] [(0,1,.t 12),(1,1,.t 19),(2,1,.t 26),(3,1,.t 30),(4,1,.t 32),(5,1,.t 34)]),
⟨none,.store (.t 2) (.t 35) 6,none⟩]
[26,28,30] [[],[],[],[],[],[],[],[],[],[],[],[],[],[],[],[],[],[],[],[],[],[],[],[],[],[],[],[],[26],[26,28],[26,28]] [[30],[30],[30],[30],[30],[30],[30],[30],[30],[30],[30],[30],[30],[30],[30],[30],[30],[30],[30],[30],[30],[30],[30],[30],[30],[26,28,30],[],[28,30],[],[30],[]] [0,1,2,3,4,5,6,7,8,9,10,11,12,13,14,15,16,17,18,19,20,21,22,23,24,25,27]
(.next 26 [] [0,1,2,3,4,5,6,7,8,9,10,11,12,13,14,15,16,17,18,19,20,21,22,23,24,27] (.next 28 [29] [0,1,2,3,4,5,6,7,8,9,10,11,12,13,14,15,16,17,18,19,20,21,22,23,24] (.next 30 [] [] .fin .nil) .nil) .nil)
[0,2,6,7,8,9,10,11,12,13,14,15,16,17,18,19,20,21,22,23,24,25,26,27,28,29,30,31,32,33,34,35] [2])
.ret)))⟩
theorem keMS_:chkF Tryz.prog Tryz.f19 ceMS_=true:=by kernel_rfl
def ceMD_:AFun:=⟨24,1,[.t 2],
 (.seq (.reg [op 2 (.nilrow tSV_ 1)]
[0])
(.seq (.seq (.reg [oM 6 0,op 7 (.eqP false (.t 6) (.k (.nilp)))]
[0,7])
(.cond (.t 7)
(.seq (.reg [op 2 (.nilrow tSV_ 1)]
[2])
.ret)
.skip))
(.seq (.reg [op 3 (.nilrow tSV_ 1)]
[0,3])
(.seq (.seq (.reg [oM 8 0,op 9 (.nchk (.t 8)),oF 10 9 16,oL 11 10,oZ 12 11,oC 13 0]
[3,11,12,13])
(.block 0
(.loop [3,11,12,13] [2,3,12,21,23,22,19,18,17,16,15,14,13,11,10]
 (.seq (.reg [oB 14 .lss 13 12]
[3,11,12,13,14])
(.seq (.cond (.t 14)
.skip
(.exit 0))
(.seq (.block 1
(.seq (.reg [oI 15 1 11 13,oL 16 15,oM 5 16]
[3,5,11,12,13])
(.reg [oM 17 3,oM 18 5,op 19 (.call nsCaVaV_ [.t 18]),op 20 (.mkrow tSV_ 1 1 (.nils) [(0,.t 19)]),op 21 (.app tSV_ 1 24 (.t 17) (.t 20)),oM 3 21]
[3,11,12,13])))
(.reg [oK 22 .add 13 1,oM 13 22]
[3,11,12,13])))))))
(.seq (.reg [oM 23 3,oM 2 23]
[2])
.ret)))))⟩
theorem keMD_:chkF Tryz.prog Tryz.f48 ceMD_=true:=by kernel_rfl
def ceMR_:AFun:=⟨10,1,[.t 2],
 (.seq (.reg [op 2 (.nilrow taR_ 2)]
[0])
(.seq (.seq (.reg [oM 3 0,op 4 (.eqP false (.t 3) (.k (.nilp)))]
[0,4])
(.cond (.t 4)
(.seq (.reg [op 2 (.nilrow taR_ 2)]
[2])
.ret)
.skip))
(.seq (.reg [oM 5 0,op 6 (.nchk (.t 5)),oF 7 6 14,oL 8 7,op 9 (.call ntTR_ [.t 8]),oM 2 9]
[2])
.ret)))⟩
theorem keMR_:chkF Tryz.prog Tryz.f49 ceMR_=true:=by kernel_rfl
def ctN_:AFun:=⟨10,1,[.t 2],
 (.seq (.reg [op 2 (.mov (.k (.nilp)))]
[0])
(.seq (.reg [op 3 .mkmapS,op 4 .mkmapS,oM 5 0,op 6 (.mx false (.t 5) (.k (.int .i64 1))),op 7 (.mx true (.t 6) (.k (.int .i64 4096))),op 8 (.build [.nilm,.nilm,.int .i64 0,.int .i64 0] [(0,1,.t 3),(1,1,.t 4),(2,1,.t 7)]),op 9 (.box ttT_ 4 (.t 8)),oM 2 9]
[2])
.ret))⟩
theorem ktN_:chkF Tryz.prog Tryz.f53 ctN_=true:=by kernel_rfl
def ctTP_:AFun:=⟨70,3,[.t 6,.t 7],
 (.seq (.reg [oC 6 0,oC 7 0]
[0,1,2])
(.seq (.seq (.reg [oM 11 0,op 12 (.eqP false (.t 11) (.k (.nilp)))]
[0,1,2,12])
(.cond (.t 12)
(.seq (.reg [oC 6 0,oC 7 19]
[6,7])
.ret)
.skip))
(.seq (.reg [oM 13 1,op 14 (.call nbK_ [.t 13]),oM 8 14]
[0,1,2,8])
(.seq (.seq (.reg [oM 16 0,op 17 (.nchk (.t 16)),oF 18 17 1,oL 19 18,oM 20 8,op 21 (.mget true false [1] (.int .i64 0) (.t 19) (.t 20)),oM 15 21,oE 22 15 0,oE 23 15 1,oM 9 22,oM 10 23]
[0,1,2,8,10])
(.seq (.reg [oM 24 10]
[0,1,2,8,24])
(.cond (.t 24)
(.seq (.reg [oC 6 0,oC 7 10]
[6,7])
.ret)
.skip)))
(.seq (.seq (.dreg [oM 25 0,op 26 (.nchk (.t 25)),oF 27 26 0,oL 28 27,op 29 (.mlen (.t 28)),oM 30 0,op 31 (.nchk (.t 30)),oF 32 31 2,oL 33 32,oB 34 .eql 29 33]
[0,1,2,8,34])
(.cond (.t 34)
(.seq (.reg [oC 6 0,oC 7 19]
[6,7])
.ret)
.skip))
(.seq (.reg [oM 35 0,op 36 (.nchk (.t 35)),oF 37 36 3,oL 38 37,oK 39 .add 38 1,op 40 (.nchk (.t 35)),oF 41 40 3,
⟨none,.store (.t 41) (.t 39) 1,none⟩]
[0,1,2,8])
(.seq (.dregC [oM 42 0,op 43 (.nchk (.t 42)),oF 44 43 0,oL 45 44,oM 46 0,op 47 (.nchk (.t 46)),oF 48 47 3,oL 49 48,oM 50 0,op 51 (.nchk (.t 50)),oF 52 51 1,oL 53 52,oM 54 8,oM 55 1,oM 56 2,op 57 (.call ntc_ [.t 55,.t 56]),oM 58 0,op 59 (.nchk (.t 58)),oF 60 59 3,oL 61 60,op 62 (.mentry false [0] (.agg [.nils,.nils]) (.t 45) (.t 49)),oE 63 62 1,
⟨none,.estore (.t 45) (.t 63) (.t 57),none⟩,op 64 (.mentry false [1] (.int .i64 0) (.t 53) (.t 54)),oE 65 64 1,
⟨none,.estore (.t 53) (.t 65) (.t 61),none⟩]
[20,22,23,25] [0,0,0,0,0,0,0,0,0,0,0,0,0,0,0,0,0,0,0,0,1,1,2,3,3,4] [0,0,0,0,0,0,0,0,0,0,0,0,2,0,0,0,0,0,0,0,4,1,4,4,3,4] [([0,1,2,3,4,5,6,7,8,9,10,11,12,13,14,15,16,17,18,19],[]),([21],[12]),([],[12]),([24],[]),([],[])] [0,1,2,8,42,43,44,45,46,47,48,49,50,51,52,53,54,55,56,57,58,59,60,61,62,63,64,65]
[0])
(.seq (.reg [oM 66 0,op 67 (.nchk (.t 66)),oF 68 67 3,oL 69 68,oM 6 69,oC 7 0]
[6,7])
.ret))))))))⟩
theorem ktTP_:chkF Tryz.prog Tryz.f87 ctTP_=true:=by kernel_rfl
def ctTR_:AFun:=⟨28,1,[.t 2],
 (.seq (.reg [op 2 (.nilrow taR_ 2)]
[0])
(.seq (.seq (.reg [oM 6 0,op 7 (.eqP false (.t 6) (.k (.nilp)))]
[0,7])
(.cond (.t 7)
(.seq (.reg [op 2 (.nilrow taR_ 2)]
[2])
.ret)
.skip))
(.seq (.reg [op 3 (.nilrow taR_ 2)]
[0,3])
(.seq (.seq (.reg [oM 8 0,op 9 (.nchk (.t 8)),oF 10 9 0,oL 11 10,op 12 (.mrng (.t 11))]
[3,12])
(.block 0
(.loop [3,12] [2,3,12,24,27,26,25,22,21,20,19,18,17,16,15,14]
 (.seq (.reg [op 13 (.mnxt (.t 12)),oE 14 13 0]
[3,12,14])
(.seq (.cond (.t 14)
.skip
(.exit 0))
(.block 1
(.seq (.reg [op 15 (.ment (.t 12)),oE 16 15 1,op 5 (.alloc taR_ 2 (.agg [.nils,.nils])),
⟨none,.store (.t 5) (.t 16) 2,none⟩]
[3,5,12])
(.reg [oM 17 3,oF 18 5 0,oL 19 18,oF 20 5 1,oL 21 20,op 22 (.call ntc_ [.t 19,.t 21]),op 23 (.mkrow taR_ 2 1 (.agg [.nils,.nils]) [(0,.t 22)]),op 24 (.app taR_ 2 48 (.t 17) (.t 23)),oM 3 24]
[3,12]))))))))
(.seq (.reg [oM 25 3,op 26 (.call nsSaRaR_ [.t 25,.f ntTR1_])]
[3])
(.seq (.reg [oM 27 3,oM 2 27]
[2])
.ret))))))⟩
theorem ktTR_:chkF Tryz.prog Tryz.f89 ctTR_=true:=by kernel_rfl
def ctTR1_:AFun:=⟨17,2,[.t 4],
 (.seq (.reg [op 2 (.box taR_ 2 (.t 0)),op 3 (.box taR_ 2 (.t 1)),oC 4 0]
[2,3])
(.seq (.block 0
(.seq (.reg [oF 6 2 0,oL 7 6,oF 8 3 0,oL 9 8,op 10 (.call nbL_ [.t 7,.t 9]),oM 5 10]
[2,3,5])
(.cond (.t 5)
(.seq (.reg [op 4 (.mov (.k (.int .i64 (-1))))]
[4])
.ret)
(.seq (.reg [oF 12 3 0,oL 13 12,oF 14 2 0,oL 15 14,op 16 (.call nbL_ [.t 13,.t 15]),oM 11 16]
[11])
(.cond (.t 11)
(.seq (.reg [oC 4 1]
[4])
.ret)
.skip)))))
(.seq (.reg [oC 4 0]
[4])
.ret)))⟩
theorem ktTR1_:chkF Tryz.prog Tryz.f131 ctTR1_=true:=by kernel_rfl
def ct10:AFun:=⟨9,1,[.t 2],
 (.seq (.reg [oC 2 0]
[0])
(.seq (.seq (.reg [oM 3 0,op 4 (.eqP false (.t 3) (.k (.nilp)))]
[0,4])
(.cond (.t 4)
(.seq (.reg [oC 2 0]
[2])
.ret)
.skip))
(.seq (.reg [oM 5 0,op 6 (.nchk (.t 5)),oF 7 6 2,oL 8 7,oM 2 8]
[2])
.ret)))⟩
theorem kt10:chkF Tryz.prog Tryz.f44 ct10=true:=by kernel_rfl
def ctc_:AFun:=⟨10,2,[.cells 4 2],
 (.seq (.reg [op 4 (.alloc taR_ 2 (.agg [.nils,.nils]))]
[0,1,4])
(.seq (.reg [oM 5 0,op 6 (.call nsCaSaS_ [.t 5]),oM 7 1,op 8 (.call nsCaCaC_ [.t 7]),op 9 (.build [.nils,.nils] [(0,1,.t 6),(1,1,.t 8)]),
⟨none,.store (.t 4) (.t 9) 2,none⟩]
[4])
.ret))⟩
theorem ktc_:chkF Tryz.prog Tryz.f126 ctc_=true:=by kernel_rfl
def csCaVaV_:AFun:=⟨8,1,[.t 2],
 (.seq (.reg [op 2 (.mov (.k (.nils)))]
[0])
(.seq (.seq (.reg [oM 3 0,op 4 (.eqN false (.t 3))]
[0,4])
(.cond (.t 4)
(.seq (.reg [op 2 (.mov (.k (.nils)))]
[2])
.ret)
.skip))
(.seq (.reg [op 5 (.mkrow taV_ 4 0 (.agg [.int .i64 0,.int .i64 0,.str [],.bool false]) []),oM 6 0,op 7 (.app taV_ 4 40 (.t 5) (.t 6)),oM 2 7]
[2])
.ret)))⟩
theorem ksCaVaV_:chkF Tryz.prog Tryz.f47 csCaVaV_=true:=by kernel_rfl
def csCaSaS_:AFun:=⟨8,1,[.t 2],
 (.seq (.reg [op 2 (.mov (.k (.nils)))]
[0])
(.seq (.seq (.reg [oM 3 0,op 4 (.eqN false (.t 3))]
[0,4])
(.cond (.t 4)
(.seq (.reg [op 2 (.mov (.k (.nils)))]
[2])
.ret)
.skip))
(.seq (.reg [op 5 (.mkrow ta10 5 0 (.agg [.int .i64 0,.int .i64 0,.int .i64 0,.str [],.bool false]) []),oM 6 0,op 7 (.app ta10 5 48 (.t 5) (.t 6)),oM 2 7]
[2])
.ret)))⟩
theorem ksCaSaS_:chkF Tryz.prog Tryz.f127 csCaSaS_=true:=by kernel_rfl
def csCaCaC_:AFun:=⟨8,1,[.t 2],
 (.seq (.reg [op 2 (.mov (.k (.nils)))]
[0])
(.seq (.seq (.reg [oM 3 0,op 4 (.eqN false (.t 3))]
[0,4])
(.cond (.t 4)
(.seq (.reg [op 2 (.mov (.k (.nils)))]
[2])
.ret)
.skip))
(.seq (.reg [op 5 (.mkrow taC_ 2 0 (.agg [.int .i64 0,.nils]) []),oM 6 0,op 7 (.app taC_ 2 32 (.t 5) (.t 6)),oM 2 7]
[2])
.ret)))⟩
theorem ksCaCaC_:chkF Tryz.prog Tryz.f185 csCaCaC_=true:=by kernel_rfl
def csSaRaR_:AFun:=⟨14,2,[],
 (.seq (.reg [oM 5 0,oZ 6 5,oM 4 6]
[0,1,4])
(.reg [oM 7 0,oM 8 4,oM 9 4,op 10 (.conv .u64 (.t 9)),op 11 (.call nm11 [.t 10]),oM 12 1,op 13 (.call nspaR_ [.t 7,.k (.int .i64 0),.t 8,.t 11,.t 12])]
[]))⟩
theorem ksSaRaR_:chkF Tryz.prog Tryz.f130 csSaRaR_=true:=by kernel_rfl
def cspaR_:AFun:=⟨148,5,[],
 (.seq (.reg [oV 10 true]
[0,1,2,3,4,10])
(.seq (.reg [oV 11 true]
[0,1,2,3,4,10,11])
(.block 0
(.loop [0,1,2,3,4,10,11] [147,146,145,144,143,142,141,140,139,138,137,136]
 (.block 1
(.seq (.reg [oM 21 2,oM 22 1,oB 23 .sub 21 22,oM 12 23]
[0,1,2,3,4,10,11,12])
(.seq (.seq (.reg [oM 24 12,oK 25 .leq 24 12]
[0,1,2,3,4,10,11,12,25])
(.cond (.t 25)
(.seq (.reg [oM 26 0,oM 27 1,oM 28 2,oM 29 4,op 30 (.call nsiaR_ [.t 26,.t 27,.t 28,.t 29])]
[])
.ret)
.skip))
(.seq (.seq (.reg [oM 31 3,oK 32 .eql 31 0]
[0,1,2,3,4,10,11,12,32])
(.cond (.t 32)
(.seq (.reg [oM 33 0,oM 34 1,oM 35 2,oM 36 4,op 37 (.call nshaR_ [.t 33,.t 34,.t 35,.t 36])]
[])
.ret)
.skip))
(.seq (.seq (.reg [oM 38 10,oU 39 38]
[0,1,2,3,4,10,11,12,39])
(.cond (.t 39)
(.seq (.reg [oM 40 0,oM 41 1,oM 42 2,oM 43 4,op 44 (.call nsbaR_ [.t 40,.t 41,.t 42,.t 43])]
[0,1,2,3,4,10,11,12])
(.reg [oM 45 3,oK 46 .sub 45 1,oM 3 46]
[0,1,2,3,4,10,11,12]))
.skip))
(.seq (.reg [oM 48 0,oM 49 1,oM 50 2,oM 51 4,op 52 (.call nscaR_ [.t 48,.t 49,.t 50,.t 51]),oM 47 52,oE 53 47 0,oE 54 47 1,oM 13 53,oM 14 54]
[0,1,2,3,4,10,11,12,13,14])
(.seq (.seq (.reg [oM 55 14,oK 56 .eql 55 2]
[0,1,2,3,4,10,11,12,13,14,56])
(.cond (.t 56)
(.seq (.reg [oM 57 0,oM 58 1,oM 59 2,oM 60 4,op 61 (.call nsraR_ [.t 57,.t 58,.t 59,.t 60])]
[0,1,2,3,4,10,11,12,13])
(.seq (.reg [oM 62 2,oK 63 .sub 62 1,oM 64 13,oM 65 1,oB 66 .sub 64 65,oB 67 .sub 63 66,oM 13 67]
[0,1,2,3,4,10,11,12,13])
(.reg [oC 14 1]
[0,1,2,3,4,10,11,12,13,14])))
.skip))
(.seq (.seq (.reg [oM 68 10,oM 69 68,qM 70 11 69 true,oA 71 69 70,oM 72 71,qM 73 14 72 true,qK 74 .eql 73 1 72 true,oA 75 72 74]
[0,1,2,3,4,10,11,12,13,75])
(.cond (.t 75)
(.seq (.reg [oM 76 0,oM 77 1,oM 78 2,oM 79 4,op 80 (.call ns13 [.t 76,.t 77,.t 78,.t 79])]
[0,1,2,3,4,10,11,12,13,80])
(.cond (.t 80)
.ret
.skip))
.skip))
(.seq (.seq (.dreg [oM 81 1,oK 82 .gtr 81 0,oM 83 82,qM 84 4 83 true,qM 85 0 83 true,qM 86 1 83 true,qK 87 .sub 86 1 83 true,qI 88 2 85 87 83 true,qN 89 88 2 83 true,qM 90 0 83 true,qM 91 13 83 true,qI 92 2 90 91 83 true,qN 93 92 2 83 true,oG 94 (.callv (.t 84) [.t 89,.t 93]) 83 true,qK 95 .lss 94 0 83 true,oG 96 (.un .not (.t 95)) 83 true,oA 97 83 96]
[0,1,2,3,4,10,11,12,13,97])
(.cond (.t 97)
(.seq (.reg [oM 98 0,oM 99 1,oM 100 2,oM 101 13,oM 102 4,op 103 (.call ns14 [.t 98,.t 99,.t 100,.t 101,.t 102]),oM 15 103]
[0,2,3,4,10,11,15])
(.seq (.reg [oM 104 15,oM 1 104]
[0,1,2,3,4,10,11])
(.exit 1)))
.skip))
(.seq (.reg [oM 106 0,oM 107 1,oM 108 2,oM 109 13,oM 110 4,op 111 (.call ns15 [.t 106,.t 107,.t 108,.t 109,.t 110]),oM 105 111,oE 112 105 0,oE 113 105 1,oM 16 112,oM 17 113]
[0,1,2,3,4,12,16,17])
(.seq (.reg [oM 114 17,oM 11 114]
[0,1,2,3,4,11,12,16])
(.seq (.reg [oM 115 16,oM 116 1,oB 117 .sub 115 116,oM 118 2,oM 119 16,oB 120 .sub 118 119,oM 18 117,oM 19 120]
[0,1,2,3,4,11,12,16,18,19])
(.seq (.reg [oM 121 12,oK 122 .quo 121 8,oM 20 122]
[0,1,2,3,4,11,16,18,19,20])
(.seq (.reg [oM 123 18,oM 124 19,oB 125 .lss 123 124]
[0,1,2,3,4,11,16,18,19,20,125])
(.cond (.t 125)
(.seq (.reg [oM 126 18,oM 127 20,oB 128 .geq 126 127,oM 10 128]
[0,1,2,3,4,10,11,16])
(.seq (.reg [oM 129 0,oM 130 1,oM 131 16,oM 132 3,oM 133 4,op 134 (.call nspaR_ [.t 129,.t 130,.t 131,.t 132,.t 133])]
[0,2,3,4,10,11,16])
(.reg [oM 135 16,oK 136 .add 135 1,oM 1 136]
[0,1,2,3,4,10,11])))
(.seq (.reg [oM 137 19,oM 138 20,oB 139 .geq 137 138,oM 10 139]
[0,1,2,3,4,10,11,16])
(.seq (.reg [oM 140 0,oM 141 16,oK 142 .add 141 1,oM 143 2,oM 144 3,oM 145 4,op 146 (.call nspaR_ [.t 140,.t 142,.t 143,.t 144,.t 145])]
[0,1,3,4,10,11,16])
(.reg [oM 147 16,oM 2 147]
[0,1,2,3,4,10,11]))))))))))))))))))))))⟩
theorem kspaR_:chkF Tryz.prog Tryz.f187 cspaR_=true:=by kernel_rfl
end Go.Proofs.YtkejmcgngblfnaaGreatDoor.Ab
