/-
  The functions' abstract code, by program (acgen.py), and that the model's code is it, reckoned by the kernel. No claim is proved here.
-/
import Derived.Test.YtkejmcgngblfnaaGreatDoorYAcR0
namespace Go.Proofs.YtkejmcgngblfnaaGreatDoor.Ab
open Go
def cpS_:AFun:=⟨53,1,[.t 2],
 (.seq (.reg [oV 2 false]
[0])
(.seq (.seq (.reg [oM 7 0,oZ 8 7,oK 9 .gtr 8 5000]
[0,9])
(.cond (.t 9)
(.seq (.reg [op 10 (.call npa_ []),oM 2 10]
[2])
.ret)
.skip))
(.seq (.reg [oM 12 0,op 13 (.call nsG_ [.t 12]),oM 11 13,oE 14 11 0,oE 15 11 1,op 3 (.alloc taS_ 6 (.agg [.int .i64 0,.int .i64 0,.int .i64 0,.int .i64 0,.nils,.nils])),
⟨none,.store (.t 3) (.t 14) 6,none⟩,oM 4 15]
[0,3,4])
(.seq (.seq (.reg [oM 16 4,oK 17 .neq 16 0]
[0,3,4,17])
(.cond (.t 17)
(.seq (.reg [oM 18 4,oK 19 .eql 18 4,oM 20 19,qN 21 3 6 20 true,oG 22 (.build [.int .i64 0,.int .i64 0,.int .i64 0,.int .i64 0,.nils,.nils] []) 20 true,oG 23 (.call nps_ [.t 21,.t 22]) 20 true,oA 24 20 23,oM 25 24,oG 26 (.call npa_ []) 25 true,oA 27 25 26,oM 2 27]
[2])
.ret)
.skip))
(.seq (.reg [oN 29 3 6,op 30 (.call nsP_ [.t 29]),oM 28 30,oE 31 28 0,oE 32 28 1,oM 5 31,oM 6 32]
[0,3,5,6])
(.seq (.dreg [oM 33 6,oK 34 .eql 33 0,oM 35 34,qM 36 5 35 true,oG 37 (.b2s (.t 36)) 35 true,qM 38 0 35 true,oG 39 (.b2s (.t 38)) 35 true,qB 40 .eql 37 39 35 true,oA 41 35 40,oM 42 41,qN 43 3 6 42 true,oG 44 (.call npB_ [.t 43]) 42 true,oG 45 (.b2s (.t 44)) 42 true,qM 46 0 42 true,oG 47 (.b2s (.t 46)) 42 true,qB 48 .eql 45 47 42 true,oA 49 42 48,oM 50 49,oG 51 (.call npa_ []) 50 true,oA 52 50 51,oM 2 52]
[2])
.ret))))))⟩
abbrev ppS_:=@pcR np11 Tryz.f4 cpS_ Tryz.func4 (by kernel_rfl)
def cps_:AFun:=⟨54,2,[.t 4],
 (.seq (.reg [op 2 (.box taS_ 6 (.t 0)),op 3 (.box taS_ 6 (.t 1)),oV 4 false]
[2,3])
(.seq (.seq (.reg [oF 5 2 0,oL 6 5,oF 7 3 0,oL 8 7,oB 9 .neq 6 8,oM 10 9,qF 11 2 1 10 false,qL 12 11 10 false,qF 13 3 1 10 false,qL 14 13 10 false,qB 15 .neq 12 14 10 false,oO 16 10 15,oM 17 16,qF 18 2 2 17 false,qL 19 18 17 false,qF 20 3 2 17 false,qL 21 20 17 false,qB 22 .neq 19 21 17 false,oO 23 17 22,oM 24 23,qF 25 2 3 24 false,qL 26 25 24 false,qF 27 3 3 24 false,qL 28 27 24 false,qB 29 .neq 26 28 24 false,oO 30 24 29,oM 31 30,qF 32 2 5 31 false,qL 33 32 31 false,oG 34 (.len false (.t 33)) 31 false,qF 35 3 5 31 false,qL 36 35 31 false,oG 37 (.len false (.t 36)) 31 false,qB 38 .neq 34 37 31 false,oO 39 31 38]
[2,3,39])
(.cond (.t 39)
(.seq (.reg [oV 4 false]
[4])
.ret)
.skip))
(.seq (.dreg [oF 40 2 4,oL 41 40,oF 42 3 4,oL 43 42,op 44 (.call npS_ [.t 41,.t 43]),oM 45 44,qN 46 2 6 45 true,oG 47 (.call npB_ [.t 46]) 45 true,oG 48 (.b2s (.t 47)) 45 true,qN 49 3 6 45 true,oG 50 (.call npB_ [.t 49]) 45 true,oG 51 (.b2s (.t 50)) 45 true,qB 52 .eql 48 51 45 true,oA 53 45 52,oM 4 53]
[4])
.ret)))⟩
abbrev pps_:=@pcR nps_ Tryz.f13 cps_ Tryz.func13 (by kernel_rfl)
def cpa_:AFun:=⟨47,0,[.t 0],
 (.seq (.reg [oV 0 false]
[])
(.seq (.reg [op 5 (.build [.str [],.bool false,.bool false] [(0,1,.k (.str [115]))]),op 6 (.mkrow ta11 3 1 (.agg [.str [],.bool false,.bool false]) [(0,.t 5)]),op 7 (.build [.str [],.nils,.nils,.nils,.nils,.int .i64 0,.nils,.nils,.nils] [(0,1,.k (.str [113])),(4,1,.t 6)]),op 1 (.alloc taQ_ 9 (.agg [.str [],.nils,.nils,.nils,.nils,.int .i64 0,.nils,.nils,.nils])),
⟨none,.store (.t 1) (.t 7) 9,none⟩]
[1])
(.seq (.reg [oN 8 1 9,op 9 (.build [.bool false,.bool false,.bool false,.int .i64 0] [(3,1,.k (.int .i64 3))]),op 10 (.call neN_ [.t 8,.t 9]),op 11 (.call ns18 [.t 10]),oM 2 11]
[2])
(.seq (.reg [oM 13 2,op 14 (.call nsG_ [.t 13]),oM 12 14,oE 15 12 0,oE 16 12 1,op 3 (.alloc taS_ 6 (.agg [.int .i64 0,.int .i64 0,.int .i64 0,.int .i64 0,.nils,.nils])),
⟨none,.store (.t 3) (.t 15) 6,none⟩,oM 4 16]
[2,3,4])
(.seq (.reg [oM 17 2,oZ 18 17,oK 19 .eql 18 41,oM 20 19,qM 21 2 20 true,oG 22 (.iaddr 1 (.t 21) (.k (.int .i64 0))) 20 true,qL 23 22 20 true,oG 24 (.bin .eql (.t 23) (.k (.int .u8 81))) 20 true,oA 25 20 24,oM 26 25,qM 27 2 26 true,oG 28 (.iaddr 1 (.t 27) (.k (.int .i64 8))) 26 true,qL 29 28 26 true,oG 30 (.bin .eql (.t 29) (.k (.int .u8 1))) 26 true,oA 31 26 30,oM 32 31,qM 33 4 32 true,qK 34 .eql 33 0 32 true,oA 35 32 34,oM 36 35,qF 37 3 1 36 true,qL 38 37 36 true,qK 39 .eql 38 1 36 true,oA 40 36 39,oM 41 40,qF 42 3 5 41 true,qL 43 42 41 true,oG 44 (.len false (.t 43)) 41 true,qK 45 .eql 44 1 41 true,oA 46 41 45,oM 0 46]
[0])
.ret)))))⟩
theorem kpa_:chkF Tryz.prog Tryz.f8 cpa_=true:=by kernel_rfl
def csP_:AFun:=⟨77,1,[.t 2,.t 3],
 (.seq (.reg [op 1 (.box taS_ 6 (.t 0)),op 2 (.nilrow tu_ 1),oC 3 0]
[1])
(.seq (.reg [op 11 (.mkrow tu_ 1 1 (.int .u8 0) [(0,.k (.int .u8 81))]),op 12 (.build [.nils,.int .i64 0] [(0,1,.t 11)]),op 13 (.box tsw_ 2 (.t 12)),oM 4 13]
[1,4])
(.seq (.seq (.reg [oF 14 1 0,oL 15 14,oF 16 1 1,oL 17 16,oF 18 1 2,oL 19 18,oF 20 1 3,oL 21 20,op 22 (.mkrow ti_ 1 4 (.int .i64 0) [(0,.t 15),(1,.t 17),(2,.t 19),(3,.t 21)]),oZ 23 22,oC 24 0]
[1,4,22,23,24])
(.block 0
(.loop [1,4,22,23,24] [1,2,11,13,22,23]
 (.seq (.reg [oB 25 .lss 24 23]
[1,4,22,23,24,25])
(.seq (.cond (.t 25)
.skip
(.exit 0))
(.seq (.block 1
(.seq (.reg [oI 26 1 22 24,oL 27 26,oM 6 27]
[1,4,6,22,23,24])
(.reg [oM 28 4,oM 29 6,op 30 (.call nswn_ [.t 28,.t 29])]
[1,4,22,23,24])))
(.reg [oK 31 .add 24 1,oM 24 31]
[1,4,22,23,24])))))))
(.seq (.reg [oM 32 4,oF 33 1 4,oL 34 33,oZ 35 34,op 36 (.call nswn_ [.t 32,.t 35])]
[1,4])
(.seq (.seq (.reg [oF 37 1 4,oL 38 37,oZ 39 38,oC 40 0]
[1,4,38,39,40])
(.block 2
(.loop [1,4,38,39,40] [1,2,11,13,22,23,30,35,36,39]
 (.seq (.reg [oB 41 .lss 40 39]
[1,4,38,39,40,41])
(.seq (.cond (.t 41)
.skip
(.exit 2))
(.seq (.block 3
(.seq (.reg [oI 42 1 38 40,oL 43 42,oM 8 43]
[1,4,8,38,39,40])
(.reg [oM 44 4,oM 45 8,op 46 (.call nswv_ [.t 44,.t 45])]
[1,4,38,39,40])))
(.reg [oK 47 .add 40 1,oM 40 47]
[1,4,38,39,40])))))))
(.seq (.reg [oM 48 4,oF 49 1 5,oL 50 49,oZ 51 50,op 52 (.call nswn_ [.t 48,.t 51])]
[1,4])
(.seq (.seq (.reg [oF 53 1 5,oL 54 53,oZ 55 54,oC 56 0]
[4,54,55,56])
(.block 4
(.loop [4,54,55,56] [1,2,11,13,22,23,30,35,36,39,46,51,52,55]
 (.seq (.reg [oB 57 .lss 56 55]
[4,54,55,56,57])
(.seq (.cond (.t 57)
.skip
(.exit 4))
(.seq (.block 5
(.seq (.reg [oI 58 2 54 56,oN 59 58 2,op 10 (.alloc taR_ 2 (.agg [.nils,.nils])),
⟨none,.store (.t 10) (.t 59) 2,none⟩]
[4,10,54,55,56])
(.reg [oM 60 4,oN 61 10 2,op 62 (.call nswr_ [.t 60,.t 61])]
[4,54,55,56])))
(.reg [oK 63 .add 56 1,oM 56 63]
[4,54,55,56])))))))
(.seq (.seq (.reg [oM 64 4,op 65 (.nchk (.t 64)),oF 66 65 1,oL 67 66,oK 68 .neq 67 0]
[4,68])
(.cond (.t 68)
(.seq (.dregC [oM 69 4,op 70 (.nchk (.t 69)),oF 71 70 1,oL 72 71,op 2 (.nilrow tu_ 1),oM 3 72]
[4] [0,0,0,0,1,1] [1,1,1,1,1,1] [([0,1,2,3],[]),([5],[0,1,2,3])] [2,3,4,69,70,71,72]
[2,3])
.ret)
.skip))
(.seq (.reg [oM 73 4,op 74 (.nchk (.t 73)),oF 75 74 0,oL 76 75,oM 2 76,oC 3 0]
[2,3])
.ret)))))))))⟩
theorem ksP_:chkF Tryz.prog Tryz.f9 csP_=true:=by kernel_rfl
abbrev psP_:=@pcR nsP_ _ _ Tryz.func9 ksP_
def csG_:AFun:=⟨19,1,[.cells 2 6,.t 3],
 (.seq (.reg [op 2 (.alloc taS_ 6 (.agg [.int .i64 0,.int .i64 0,.int .i64 0,.int .i64 0,.nils,.nils])),oC 3 0]
[0,2])
(.seq (.reg [oM 7 0,op 8 (.build [.nils,.int .i64 0] [(0,1,.t 7)]),op 9 (.box tsp_ 2 (.t 8)),op 10 (.build [.nilp] [(0,1,.t 9)]),op 11 (.call ns12 [.t 10]),oM 6 11,oE 12 6 0,oE 13 6 1,op 4 (.alloc taS_ 6 (.agg [.int .i64 0,.int .i64 0,.int .i64 0,.int .i64 0,.nils,.nils])),
⟨none,.store (.t 4) (.t 12) 6,none⟩,oM 5 13]
[2,4,5])
(.seq (.seq (.reg [oM 14 5,op 15 (.load (.g 0)),op 16 (.call neI_ [.t 14,.t 15])]
[2,4,16])
(.cond (.t 16)
(.seq (.reg [op 17 (.build [.int .i64 0,.int .i64 0,.int .i64 0,.int .i64 0,.nils,.nils] []),
⟨none,.store (.t 2) (.t 17) 6,none⟩,oC 3 4]
[2,3])
.ret)
.skip))
(.seq (.reg [oN 18 4 6,
⟨none,.store (.t 2) (.t 18) 6,none⟩,oC 3 0]
[2,3])
.ret))))⟩
theorem ksG_:chkF Tryz.prog Tryz.f11 csG_=true:=by kernel_rfl
abbrev psG_:=@pcR nsG_ _ _ Tryz.func11 ksG_
def cs15:AFun:=⟨14,1,[.t 2],
 (.seq (.reg [op 2 (.nilrow tu_ 1)]
[0])
(.seq (.seq (.reg [oM 5 0,op 6 (.eqP false (.t 5) (.k (.nilp)))]
[0,6])
(.cond (.t 6)
(.seq (.reg [op 2 (.nilrow tu_ 1)]
[2])
.ret)
.skip))
(.seq (.reg [oM 8 0,op 9 (.call neMS_ [.t 8]),op 10 (.call nsP_ [.t 9]),oM 7 10,oE 11 7 0,oE 12 7 1,oM 3 11,oM 4 12]
[3])
(.seq (.reg [oM 13 3,oM 2 13]
[2])
.ret))))⟩
theorem ks18:chkF Tryz.prog Tryz.f17 cs15=true:=by kernel_rfl
def cswn_:AFun:=⟨32,2,[],
 (.seq (.seq (.reg [oM 4 1,oK 5 .lss 4 0,oM 6 5,qM 7 1 6 false,qK 8 .gtr 7 2147483647 6 false,oO 9 6 8]
[0,1,9])
(.cond (.t 9)
(.seq (.reg [oM 10 0,op 11 (.call nsww_ [.t 10,.k (.int .i64 5)])]
[])
.ret)
.skip))
(.reg [oM 12 0,oM 13 0,op 14 (.nchk (.t 13)),oF 15 14 0,oL 16 15,oM 17 1,op 18 (.bin .shr (.t 17) (.k (.int .u64 24))),op 19 (.conv .u8 (.t 18)),oM 20 1,op 21 (.bin .shr (.t 20) (.k (.int .u64 16))),op 22 (.conv .u8 (.t 21)),oM 23 1,op 24 (.bin .shr (.t 23) (.k (.int .u64 8))),op 25 (.conv .u8 (.t 24)),oM 26 1,op 27 (.conv .u8 (.t 26)),op 28 (.mkrow tu_ 1 4 (.int .u8 0) [(0,.t 19),(1,.t 22),(2,.t 25),(3,.t 27)]),op 29 (.app tu_ 1 1 (.t 16) (.t 28)),op 30 (.nchk (.t 12)),oF 31 30 0,
⟨none,.store (.t 31) (.t 29) 1,none⟩]
[]))⟩
theorem kswn_:chkF Tryz.prog Tryz.f25 cswn_=true:=by kernel_rfl
theorem hswn_ {G:Nat→Option AV} {args:List AV} {r:AV} {H H1:List (Nat×Box)} (h:R_ Tryz.prog G cswn_ args H r H1) (hk:args.length=cswn_.k:=by rfl) (hh:h12 cswn_.N H=true:=by rfl):H_ Tryz.prog G nswn_ args H r H1:=H_.of_runs (fn:=Tryz.f25) (A:=cswn_) Tryz.func25 kswn_ hk hh h
def cswv_:AFun:=⟨20,2,[],
 (.seq (.reg [oM 6 0,oM 7 1,oZ 8 7,op 9 (.call nswn_ [.t 6,.t 8])]
[0,1])
(.seq (.reg [oM 10 1,oZ 11 10,oC 12 0]
[0,10,11,12])
(.block 0
(.loop [0,10,11,12] [8,9,11]
 (.seq (.reg [oB 13 .lss 12 11]
[0,10,11,12,13])
(.seq (.cond (.t 13)
.skip
(.exit 0))
(.seq (.block 1
(.seq (.reg [oI 14 4 10 12,oN 15 14 4,op 5 (.alloc taV_ 4 (.agg [.int .i64 0,.int .i64 0,.str [],.bool false])),
⟨none,.store (.t 5) (.t 15) 4,none⟩]
[0,5,10,11,12])
(.reg [oM 16 0,oN 17 5 4,op 18 (.call ns11 [.t 16,.t 17])]
[0,10,11,12])))
(.reg [oK 19 .add 12 1,oM 12 19]
[0,10,11,12]))))))))⟩
theorem kswv_:chkF Tryz.prog Tryz.f26 cswv_=true:=by kernel_rfl
theorem hswv_ {G:Nat→Option AV} {args:List AV} {r:AV} {H H1:List (Nat×Box)} (h:R_ Tryz.prog G cswv_ args H r H1) (hk:args.length=cswv_.k:=by rfl) (hh:h12 cswv_.N H=true:=by rfl):H_ Tryz.prog G nswv_ args H r H1:=H_.of_runs (fn:=Tryz.f26) (A:=cswv_) Tryz.func26 kswv_ hk hh h
def cswr_:AFun:=⟨50,2,[],
 (.seq (.reg [op 3 (.box taR_ 2 (.t 1))]
[0,3])
(.seq (.reg [oM 8 0,oF 9 3 0,oL 10 9,oZ 11 10,op 12 (.call nswn_ [.t 8,.t 11])]
[0,3])
(.seq (.seq (.reg [oF 13 3 0,oL 14 13,oZ 15 14,oC 16 0]
[0,3,14,15,16])
(.block 0
(.loop [0,3,14,15,16] [3,11,12,15]
 (.seq (.reg [oB 17 .lss 16 15]
[0,3,14,15,16,17])
(.seq (.cond (.t 17)
.skip
(.exit 0))
(.seq (.block 1
(.seq (.reg [oI 18 5 14 16,oN 19 18 5,op 5 (.alloc ta10 5 (.agg [.int .i64 0,.int .i64 0,.int .i64 0,.str [],.bool false])),
⟨none,.store (.t 5) (.t 19) 5,none⟩]
[0,3,5,14,15,16])
(.seq (.reg [oM 20 0,oF 21 5 0,oL 22 21,op 23 (.call nswn_ [.t 20,.t 22])]
[0,3,5,14,15,16])
(.reg [oM 24 0,oF 25 5 1,oN 26 25 4,op 27 (.call ns11 [.t 24,.t 26])]
[0,3,14,15,16]))))
(.reg [oK 28 .add 16 1,oM 16 28]
[0,3,14,15,16])))))))
(.seq (.reg [oM 29 0,oF 30 3 1,oL 31 30,oZ 32 31,op 33 (.call nswn_ [.t 29,.t 32])]
[0,3])
(.seq (.reg [oF 34 3 1,oL 35 34,oZ 36 35,oC 37 0]
[0,35,36,37])
(.block 2
(.loop [0,35,36,37] [3,11,12,15,5,23,27,32,33,36]
 (.seq (.reg [oB 38 .lss 37 36]
[0,35,36,37,38])
(.seq (.cond (.t 38)
.skip
(.exit 2))
(.seq (.block 3
(.seq (.reg [oI 39 2 35 37,oN 40 39 2,op 7 (.alloc taC_ 2 (.agg [.int .i64 0,.nils])),
⟨none,.store (.t 7) (.t 40) 2,none⟩]
[0,7,35,36,37])
(.seq (.reg [oM 41 0,oF 42 7 0,oL 43 42,op 44 (.call nswn_ [.t 41,.t 43])]
[0,7,35,36,37])
(.reg [oM 45 0,oF 46 7 1,oL 47 46,op 48 (.call nswv_ [.t 45,.t 47])]
[0,35,36,37]))))
(.reg [oK 49 .add 37 1,oM 37 49]
[0,35,36,37])))))))))))⟩
theorem kswr_:chkF Tryz.prog Tryz.f27 cswr_=true:=by kernel_rfl
theorem hswr_ {G:Nat→Option AV} {args:List AV} {r:AV} {H H1:List (Nat×Box)} (h:R_ Tryz.prog G cswr_ args H r H1) (hk:args.length=cswr_.k:=by rfl) (hh:h12 cswr_.N H=true:=by rfl):H_ Tryz.prog G nswr_ args H r H1:=H_.of_runs (fn:=Tryz.f27) (A:=cswr_) Tryz.func27 kswr_ hk hh h
def csww_:AFun:=⟨17,2,[],
 (.seq (.reg [oM 4 0,op 5 (.nchk (.t 4)),oF 6 5 1,oL 7 6,oK 8 .eql 7 0,oM 9 8,qM 10 1 9 false,qK 11 .eql 10 5 9 false,oO 12 9 11]
[0,1,12])
(.cond (.t 12)
(.reg [oM 13 0,oM 14 1,op 15 (.nchk (.t 13)),oF 16 15 1,
⟨none,.store (.t 16) (.t 14) 1,none⟩]
[])
.skip))⟩
theorem ksww_:chkF Tryz.prog Tryz.f58 csww_=true:=by kernel_rfl
theorem hsww_ {G:Nat→Option AV} {args:List AV} {r:AV} {H H1:List (Nat×Box)} (h:R_ Tryz.prog G csww_ args H r H1) (hk:args.length=csww_.k:=by rfl) (hh:h12 csww_.N H=true:=by rfl):H_ Tryz.prog G nsww_ args H r H1:=H_.of_runs (fn:=Tryz.f58) (A:=csww_) Tryz.func58 ksww_ hk hh h
def cs12:AFun:=⟨20,2,[],
 (.seq (.reg [op 3 (.box taV_ 4 (.t 1))]
[0,3])
(.seq (.seq (.reg [oN 4 3 4,op 5 (.call nvR_ [.t 4]),oU 6 5]
[0,3,6])
(.cond (.t 6)
(.seq (.reg [oM 7 0,op 8 (.call nsww_ [.t 7,.k (.int .i64 8)])]
[])
.ret)
.skip))
(.dregT [oM 9 0,oM 10 0,op 11 (.nchk (.t 10)),oF 12 11 0,oL 13 12,oN 14 3 4,op 15 (.mkrow taV_ 4 1 (.agg [.int .i64 0,.int .i64 0,.str [],.bool false]) [(0,.t 14)]),op 16 (.callB nkO_ [.t 15]),op 17 (.app tu_ 1 1 (.t 13) (.t 16)),op 18 (.nchk (.t 9)),oF 19 18 0,
⟨none,.store (.t 19) (.t 17) 1,none⟩]
[6,7,8,11] [[],[],[],[],[],[],[],[6],[6,7],[6,7,8],[6,7,8],[6,7,8]] [[11],[8,11],[8,11],[8,11],[8,11],[6,7,8,11],[],[],[],[11],[11],[]] [0,1,2,3,4,5]
(.next 6 [] [0,1,2,3,4] (.next 7 [] [0,1,2,3,4] (.next 8 [9,10] [0] (.next 11 [] [] .fin .nil) .nil) .nil) .nil)
[0,3,9,10,11,12,13,14,15,16,17,18,19] [])))⟩
theorem ks12:chkF Tryz.prog Tryz.f59 cs12=true:=by kernel_rfl
theorem hs13 {G:Nat→Option AV} {args:List AV} {r:AV} {H H1:List (Nat×Box)} (h:R_ Tryz.prog G cs12 args H r H1) (hk:args.length=cs12.k:=by rfl) (hh:h12 cs12.N H=true:=by rfl):H_ Tryz.prog G ns11 args H r H1:=H_.of_runs (fn:=Tryz.f59) (A:=cs12) Tryz.func59 ks12 hk hh h
def cspr_:AFun:=⟨12,1,[.t 2],
 (.seq (.reg [op 2 (.nilrow tu_ 1)]
[0])
(.seq (.dreg [oM 3 0,op 4 (.nchk (.t 3)),oF 5 4 0,oL 6 5,oM 7 0,op 8 (.nchk (.t 7)),oF 9 8 1,oL 10 9,op 11 (.slc 1 (.t 6) (some (.t 10)) none),oM 2 11]
[2])
.ret))⟩
theorem kspr_:chkF Tryz.prog Tryz.f60 cspr_=true:=by kernel_rfl
theorem hspr_ {G:Nat→Option AV} {args:List AV} {r:AV} {H H1:List (Nat×Box)} (h:R_ Tryz.prog G cspr_ args H r H1) (hk:args.length=cspr_.k:=by rfl) (hh:h12 cspr_.N H=true:=by rfl):H_ Tryz.prog G nspr_ args H r H1:=H_.of_runs (fn:=Tryz.f60) (A:=cspr_) Tryz.func60 kspr_ hk hh h
def csrn_:AFun:=⟨48,1,[.t 2,.t 3],
 (.seq (.reg [op 1 (.box tsr_ 1 (.t 0)),oC 2 0,op 3 (.mov (.k (.nili)))]
[1])
(.seq (.reg [oF 5 1 0,oL 6 5,op 7 (.call nspr_ [.t 6]),oM 4 7]
[1,4])
(.seq (.seq (.reg [oM 8 4,oZ 9 8,oK 10 .lss 9 4,oM 11 10,qM 12 4 11 false,oG 13 (.iaddr 1 (.t 12) (.k (.int .i64 0))) 11 false,qL 14 13 11 false,oG 15 (.bin .gtr (.t 14) (.k (.int .u8 127))) 11 false,oO 16 11 15]
[1,4,16])
(.cond (.t 16)
(.seq (.dreg [op 17 (.load (.g 0)),oC 2 0,oM 3 17]
[2,3])
.ret)
.skip))
(.seq (.reg [oF 18 1 0,oL 19 18,op 20 (.nchk (.t 19)),oF 21 20 1,oL 22 21,oK 23 .add 22 4,op 24 (.nchk (.t 19)),oF 25 24 1,
⟨none,.store (.t 25) (.t 23) 1,none⟩]
[4])
(.seq (.dreg [oM 26 4,op 27 (.iaddr 1 (.t 26) (.k (.int .i64 0))),oL 28 27,op 29 (.conv .i64 (.t 28)),op 30 (.bin .shl (.t 29) (.k (.int .u64 24))),oM 31 4,op 32 (.iaddr 1 (.t 31) (.k (.int .i64 1))),oL 33 32,op 34 (.conv .i64 (.t 33)),op 35 (.bin .shl (.t 34) (.k (.int .u64 16))),oB 36 .or 30 35,oM 37 4,op 38 (.iaddr 1 (.t 37) (.k (.int .i64 2))),oL 39 38,op 40 (.conv .i64 (.t 39)),op 41 (.bin .shl (.t 40) (.k (.int .u64 8))),oB 42 .or 36 41,oM 43 4,op 44 (.iaddr 1 (.t 43) (.k (.int .i64 3))),oL 45 44,op 46 (.conv .i64 (.t 45)),oB 47 .or 42 46,oM 2 47,op 3 (.mov (.k (.nili)))]
[2,3])
.ret)))))⟩
theorem ksrn_:chkF Tryz.prog Tryz.f61 csrn_=true:=by kernel_rfl
theorem hsrn_ {G:Nat→Option AV} {args:List AV} {r:AV} {H H1:List (Nat×Box)} (h:R_ Tryz.prog G csrn_ args H r H1) (hk:args.length=csrn_.k:=by rfl) (hh:h12 csrn_.N H=true:=by rfl):H_ Tryz.prog G nsrn_ args H r H1:=H_.of_runs (fn:=Tryz.f61) (A:=csrn_) Tryz.func61 ksrn_ hk hh h
def csrv_:AFun:=⟨29,1,[.cells 2 4,.t 3],
 (.seq (.reg [op 1 (.box tsr_ 1 (.t 0)),op 2 (.alloc taV_ 4 (.agg [.int .i64 0,.int .i64 0,.str [],.bool false])),op 3 (.mov (.k (.nili)))]
[1,2])
(.seq (.reg [oF 8 1 0,oL 9 8,op 10 (.call nspr_ [.t 9]),op 11 (.call nkC_ [.t 10]),oM 7 11,oE 12 7 0,oE 13 7 1,oE 14 7 2,op 4 (.alloc taV_ 4 (.agg [.int .i64 0,.int .i64 0,.str [],.bool false])),
⟨none,.store (.t 4) (.t 12) 4,none⟩,oM 5 13,oM 6 14]
[1,2,4,5,6])
(.seq (.seq (.reg [oM 15 6,oU 16 15]
[1,2,4,5,16])
(.cond (.t 16)
(.seq (.dregC [oN 17 4 4,op 18 (.load (.g 0)),
⟨none,.store (.t 2) (.t 17) 4,none⟩,oM 3 18]
[2] [0,0,1,1] [0,1,1,1] [([0,1],[]),([3],[1])] [2,3,4,17,18]
[2,3])
.ret)
.skip))
(.seq (.reg [oF 19 1 0,oL 20 19,op 21 (.nchk (.t 20)),oF 22 21 1,oL 23 22,oM 24 5,oB 25 .add 23 24,op 26 (.nchk (.t 20)),oF 27 26 1,
⟨none,.store (.t 27) (.t 25) 1,none⟩]
[2,4])
(.seq (.reg [oN 28 4 4,
⟨none,.store (.t 2) (.t 28) 4,none⟩,op 3 (.mov (.k (.nili)))]
[2,3])
.ret)))))⟩
theorem ksrv_:chkF Tryz.prog Tryz.f65 csrv_=true:=by kernel_rfl
theorem hsrv_ {G:Nat→Option AV} {args:List AV} {r:AV} {H H1:List (Nat×Box)} (h:R_ Tryz.prog G csrv_ args H r H1) (hk:args.length=csrv_.k:=by rfl) (hh:h12 csrv_.N H=true:=by rfl):H_ Tryz.prog G nsrv_ args H r H1:=H_.of_runs (fn:=Tryz.f65) (A:=csrv_) Tryz.func65 ksrv_ hk hh h
def cs11:AFun:=⟨25,1,[.cells 2 5,.t 3],
 (.seq (.reg [op 1 (.box tsr_ 1 (.t 0)),op 2 (.alloc ta10 5 (.agg [.int .i64 0,.int .i64 0,.int .i64 0,.str [],.bool false])),op 3 (.mov (.k (.nili)))]
[1,2])
(.seq (.reg [oN 8 1 1,op 9 (.call nsrn_ [.t 8]),oM 7 9,oE 10 7 0,oE 11 7 1,oM 4 10,oM 5 11]
[1,2,4,5])
(.seq (.seq (.reg [oM 12 5,op 13 (.eqI true (.t 12) (.k (.nili)))]
[1,2,4,5,13])
(.cond (.t 13)
(.seq (.reg [op 14 (.build [.int .i64 0,.int .i64 0,.int .i64 0,.str [],.bool false] []),oM 15 5,
⟨none,.store (.t 2) (.t 14) 5,none⟩,oM 3 15]
[2,3])
.ret)
.skip))
(.seq (.reg [oN 17 1 1,op 18 (.call nsrv_ [.t 17]),oM 16 18,oE 19 16 0,oE 20 16 1,op 6 (.alloc taV_ 4 (.agg [.int .i64 0,.int .i64 0,.str [],.bool false])),
⟨none,.store (.t 6) (.t 19) 4,none⟩,oM 5 20]
[2,4,5,6])
(.seq (.reg [oM 21 4,oN 22 6 4,op 23 (.build [.int .i64 0,.int .i64 0,.int .i64 0,.str [],.bool false] [(0,1,.t 21),(1,4,.t 22)]),oM 24 5,
⟨none,.store (.t 2) (.t 23) 5,none⟩,oM 3 24]
[2,3])
.ret)))))⟩
theorem ks11:chkF Tryz.prog Tryz.f100 cs11=true:=by kernel_rfl
theorem hs12 {G:Nat→Option AV} {args:List AV} {r:AV} {H H1:List (Nat×Box)} (h:R_ Tryz.prog G cs11 args H r H1) (hk:args.length=cs11.k:=by rfl) (hh:h12 cs11.N H=true:=by rfl):H_ Tryz.prog G nsrs_ args H r H1:=H_.of_runs (fn:=Tryz.f100) (A:=cs11) Tryz.func100 ks11 hk hh h
def csrc_:AFun:=⟨27,1,[.cells 2 2,.t 3],
 (.seq (.reg [op 1 (.box tsr_ 1 (.t 0)),op 2 (.alloc taC_ 2 (.agg [.int .i64 0,.nils])),op 3 (.mov (.k (.nili)))]
[1,2])
(.seq (.reg [oN 8 1 1,op 9 (.call nsrn_ [.t 8]),oM 7 9,oE 10 7 0,oE 11 7 1,oM 4 10,oM 5 11]
[1,2,4,5])
(.seq (.seq (.reg [oM 12 5,op 13 (.eqI true (.t 12) (.k (.nili)))]
[1,2,4,5,13])
(.cond (.t 13)
(.seq (.reg [op 14 (.build [.int .i64 0,.nils] []),oM 15 5,
⟨none,.store (.t 2) (.t 14) 2,none⟩,oM 3 15]
[2,3])
.ret)
.skip))
(.seq (.reg [oN 17 1 1,oN 18 1 1,op 19 (.mkfn (nsrv_+1000000) [.t 18]),op 20 (.call nslaV_ [.t 17,.t 19]),oM 16 20,oE 21 16 0,oE 22 16 1,oM 6 21,oM 5 22]
[2,4,5,6])
(.seq (.reg [oM 23 4,oM 24 6,op 25 (.build [.int .i64 0,.nils] [(0,1,.t 23),(1,1,.t 24)]),oM 26 5,
⟨none,.store (.t 2) (.t 25) 2,none⟩,oM 3 26]
[2,3])
.ret)))))⟩
theorem ksrc_:chkF Tryz.prog Tryz.f102 csrc_=true:=by kernel_rfl
theorem hsrc_ {G:Nat→Option AV} {args:List AV} {r:AV} {H H1:List (Nat×Box)} (h:R_ Tryz.prog G csrc_ args H r H1) (hk:args.length=csrc_.k:=by rfl) (hh:h12 csrc_.N H=true:=by rfl):H_ Tryz.prog G nsrc_ args H r H1:=H_.of_runs (fn:=Tryz.f102) (A:=csrc_) Tryz.func102 ksrc_ hk hh h
def csrr_:AFun:=⟨29,1,[.cells 2 2,.t 3],
 (.seq (.reg [op 1 (.box tsr_ 1 (.t 0)),op 2 (.alloc taR_ 2 (.agg [.nils,.nils])),op 3 (.mov (.k (.nili)))]
[1,2])
(.seq (.reg [oN 8 1 1,oN 9 1 1,op 10 (.mkfn (nsrs_+1000000) [.t 9]),op 11 (.call nslaS_ [.t 8,.t 10]),oM 7 11,oE 12 7 0,oE 13 7 1,oM 4 12,oM 5 13]
[1,2,4,5])
(.seq (.seq (.reg [oM 14 5,op 15 (.eqI true (.t 14) (.k (.nili)))]
[1,2,4,5,15])
(.cond (.t 15)
(.seq (.reg [op 16 (.build [.nils,.nils] []),oM 17 5,
⟨none,.store (.t 2) (.t 16) 2,none⟩,oM 3 17]
[2,3])
.ret)
.skip))
(.seq (.reg [oN 19 1 1,oN 20 1 1,op 21 (.mkfn (nsrc_+1000000) [.t 20]),op 22 (.call nslaC_ [.t 19,.t 21]),oM 18 22,oE 23 18 0,oE 24 18 1,oM 6 23,oM 5 24]
[2,4,5,6])
(.seq (.reg [oM 25 4,oM 26 6,op 27 (.build [.nils,.nils] [(0,1,.t 25),(1,1,.t 26)]),oM 28 5,
⟨none,.store (.t 2) (.t 27) 2,none⟩,oM 3 28]
[2,3])
.ret)))))⟩
theorem ksrr_:chkF Tryz.prog Tryz.f67 csrr_=true:=by kernel_rfl
theorem hsrr_ {G:Nat→Option AV} {args:List AV} {r:AV} {H H1:List (Nat×Box)} (h:R_ Tryz.prog G csrr_ args H r H1) (hk:args.length=csrr_.k:=by rfl) (hh:h12 csrr_.N H=true:=by rfl):H_ Tryz.prog G nsrr_ args H r H1:=H_.of_runs (fn:=Tryz.f67) (A:=csrr_) Tryz.func67 ksrr_ hk hh h
def csrs_:AFun:=⟨84,1,[.cells 2 6,.t 3],
 (.seq (.reg [op 1 (.box tsr_ 1 (.t 0)),op 2 (.alloc taS_ 6 (.agg [.int .i64 0,.int .i64 0,.int .i64 0,.int .i64 0,.nils,.nils])),op 3 (.mov (.k (.nili)))]
[1,2])
(.seq (.seq (.reg [oF 7 1 0,oL 8 7,op 9 (.call nspr_ [.t 8]),oZ 10 9,oK 11 .eql 10 0,oM 12 11,qF 13 1 0 12 false,qL 14 13 12 false,oG 15 (.call nspr_ [.t 14]) 12 false,oG 16 (.iaddr 1 (.t 15) (.k (.int .i64 0))) 12 false,qL 17 16 12 false,oG 18 (.bin .neq (.t 17) (.k (.int .u8 81))) 12 false,oO 19 12 18]
[1,2,19])
(.cond (.t 19)
(.seq (.reg [oN 20 2 6,op 21 (.load (.g 0)),
⟨none,.store (.t 2) (.t 20) 6,none⟩,oM 3 21]
[2,3])
.ret)
.skip))
(.seq (.reg [oF 22 1 0,oL 23 22,op 24 (.nchk (.t 23)),oF 25 24 1,oL 26 25,oK 27 .add 26 1,op 28 (.nchk (.t 23)),oF 29 28 1,
⟨none,.store (.t 29) (.t 27) 1,none⟩]
[1,2])
(.seq (.reg [op 4 (.alloc ti_ 1 (.int .i64 0))]
[1,2,4])
(.seq (.seq (.reg [oF 30 2 0,oF 31 2 1,oF 32 2 2,op 33 (.mkrow tP_ 1 4 (.tup [.nilp]) [(0,.t 30),(1,.t 31),(2,.t 32),(3,.t 4)]),oZ 34 33,oC 35 0]
[1,2,4,33,34,35])
(.block 0
(.loop [1,2,4,33,34,35] [1,2,9,10,15,4,33,34]
 (.seq (.reg [oB 36 .lss 35 34]
[1,2,4,33,34,35,36])
(.seq (.cond (.t 36)
.skip
(.exit 0))
(.seq (.block 1
(.seq (.reg [oI 37 1 33 35,oL 38 37,oM 6 38]
[1,2,4,6,33,34,35])
(.seq (.reg [oM 40 6,oN 41 1 1,op 42 (.call nsrn_ [.t 41]),oM 39 42,oE 43 39 0,oE 44 39 1,op 45 (.nchk (.t 40)),
⟨none,.store (.t 45) (.t 43) 1,none⟩,oM 3 44]
[1,2,3,4,33,34,35])
(.seq (.reg [oM 46 3,op 47 (.eqI true (.t 46) (.k (.nili)))]
[1,2,3,4,33,34,35,47])
(.cond (.t 47)
(.seq (.reg [oN 48 2 6,oM 49 3,
⟨none,.store (.t 2) (.t 48) 6,none⟩,oM 3 49]
[2,3])
.ret)
.skip)))))
(.reg [oK 50 .add 35 1,oM 35 50]
[1,2,4,33,34,35])))))))
(.seq (.reg [oL 51 4,oF 52 2 3,
⟨none,.store (.t 52) (.t 51) 1,none⟩]
[1,2])
(.seq (.seq (.reg [oN 54 1 1,op 55 (.mkfn nsrs1_ [.t 1]),op 56 (.call ns10 [.t 54,.t 55]),oM 53 56,oE 57 53 0,oE 58 53 1,oF 59 2 4,
⟨none,.store (.t 59) (.t 57) 1,none⟩,oM 3 58]
[1,2,3])
(.seq (.reg [oM 60 3,op 61 (.eqI true (.t 60) (.k (.nili)))]
[1,2,3,61])
(.cond (.t 61)
(.seq (.reg [oN 62 2 6,oM 63 3,
⟨none,.store (.t 2) (.t 62) 6,none⟩,oM 3 63]
[2,3])
.ret)
.skip)))
(.seq (.seq (.reg [oN 65 1 1,oN 66 1 1,op 67 (.mkfn (nsrr_+1000000) [.t 66]),op 68 (.call nslaR_ [.t 65,.t 67]),oM 64 68,oE 69 64 0,oE 70 64 1,oF 71 2 5,
⟨none,.store (.t 71) (.t 69) 1,none⟩,oM 3 70]
[1,2,3])
(.seq (.reg [oM 72 3,op 73 (.eqI true (.t 72) (.k (.nili)))]
[1,2,3,73])
(.cond (.t 73)
(.seq (.reg [oN 74 2 6,oM 75 3,
⟨none,.store (.t 2) (.t 74) 6,none⟩,oM 3 75]
[2,3])
.ret)
.skip)))
(.seq (.seq (.reg [oF 76 1 0,oL 77 76,op 78 (.call nspr_ [.t 77]),oZ 79 78,oK 80 .gtr 79 0]
[2,80])
(.cond (.t 80)
(.seq (.reg [oN 81 2 6,op 82 (.load (.g 0)),
⟨none,.store (.t 2) (.t 81) 6,none⟩,oM 3 82]
[2,3])
.ret)
.skip))
(.seq (.reg [oN 83 2 6,
⟨none,.store (.t 2) (.t 83) 6,none⟩,op 3 (.mov (.k (.nili)))]
[2,3])
.ret))))))))))⟩
theorem ksrs_:chkF Tryz.prog Tryz.f30 csrs_=true:=by kernel_rfl
theorem hsrs_ {G:Nat→Option AV} {args:List AV} {r:AV} {H H1:List (Nat×Box)} (h:R_ Tryz.prog G csrs_ args H r H1) (hk:args.length=csrs_.k:=by rfl) (hh:h12 csrs_.N H=true:=by rfl):H_ Tryz.prog G ns12 args H r H1:=H_.of_runs (fn:=Tryz.f30) (A:=csrs_) Tryz.func30 ksrs_ hk hh h
def csrs1_:AFun:=⟨9,1,[.t 1,.t 2],
 (.seq (.reg [op 1 (.nilrow taV_ 4),op 2 (.mov (.k (.nili)))]
[0])
(.seq (.reg [oN 3 0 1,oN 4 0 1,op 5 (.mkfn (nsrv_+1000000) [.t 4]),op 6 (.call nslaV_ [.t 3,.t 5]),oE 7 6 0,oE 8 6 1,oM 1 7,oM 2 8]
[1,2])
.ret))⟩
theorem ksrs1_:chkF Tryz.prog Tryz.f63 csrs1_=true:=by kernel_rfl
theorem hsrs1_ {G:Nat→Option AV} {args:List AV} {r:AV} {H H1:List (Nat×Box)} (h:R_ Tryz.prog G csrs1_ args H r H1) (hk:args.length=csrs1_.k:=by rfl) (hh:h12 csrs1_.N H=true:=by rfl):H_ Tryz.prog G nsrs1_ args H r H1:=H_.of_runs (fn:=Tryz.f63) (A:=csrs1_) Tryz.func63 ksrs1_ hk hh h
def cs10:AFun:=⟨44,2,[.t 4,.t 5],
 (.seq (.reg [op 2 (.box tsr_ 1 (.t 0)),op 4 (.nilrow taV_ 4),op 5 (.mov (.k (.nili)))]
[1,2])
(.seq (.reg [oN 12 2 1,op 13 (.call nsrn_ [.t 12]),oM 11 13,oE 14 11 0,oE 15 11 1,oM 6 14,oM 7 15]
[1,2,6,7])
(.seq (.seq (.reg [oM 16 7,op 17 (.eqI true (.t 16) (.k (.nili))),oM 18 17,qM 19 6 18 false,qF 20 2 0 18 false,qL 21 20 18 false,oG 22 (.call nspr_ [.t 21]) 18 false,oG 23 (.len false (.t 22)) 18 false,qB 24 .gtr 19 23 18 false,oO 25 18 24]
[1,6,25])
(.cond (.t 25)
(.seq (.dregC [op 26 (.load (.g 0)),op 4 (.nilrow taV_ 4),oM 5 26]
[1] [0,1,1] [1,1,1] [([0],[]),([2],[0])] [4,5,26]
[4,5])
.ret)
.skip))
(.seq (.reg [op 8 (.nilrow taV_ 4)]
[1,6,8])
(.seq (.seq (.reg [oM 27 6,oC 28 0]
[1,8,27,28])
(.block 0
(.loop [1,8,27,28] [2,4,13,22,23,8,41]
 (.seq (.reg [oB 29 .lss 28 27]
[1,8,27,28,29])
(.seq (.cond (.t 29)
.skip
(.exit 0))
(.seq (.block 1
(.seq (.reg [oM 31 1,op 32 (.callvB (.t 31) []),oM 30 32,oE 33 30 0,oE 34 30 1,op 9 (.alloc taV_ 4 (.agg [.int .i64 0,.int .i64 0,.str [],.bool false])),
⟨none,.store (.t 9) (.t 33) 4,none⟩,oM 10 34]
[1,8,9,10,27,28])
(.seq (.seq (.reg [oM 35 10,op 36 (.eqI true (.t 35) (.k (.nili)))]
[1,8,9,10,27,28,36])
(.cond (.t 36)
(.seq (.reg [oM 37 10,op 4 (.nilrow taV_ 4),oM 5 37]
[4,5])
.ret)
.skip))
(.reg [oM 38 8,oN 39 9 4,op 40 (.mkrow taV_ 4 1 (.agg [.int .i64 0,.int .i64 0,.str [],.bool false]) [(0,.t 39)]),op 41 (.app taV_ 4 40 (.t 38) (.t 40)),oM 8 41]
[1,8,27,28]))))
(.reg [oK 42 .add 28 1,oM 28 42]
[1,8,27,28])))))))
(.seq (.reg [oM 43 8,oM 4 43,op 5 (.mov (.k (.nili)))]
[4,5])
.ret))))))⟩
theorem ks10:chkF Tryz.prog Tryz.f64 cs10=true:=by kernel_rfl
theorem hs11 {G:Nat→Option AV} {args:List AV} {r:AV} {H H1:List (Nat×Box)} (h:R_ Tryz.prog G cs10 args H r H1) (hk:args.length=cs10.k:=by rfl) (hh:h12 cs10.N H=true:=by rfl):H_ Tryz.prog G nslaV_ args H r H1:=H_.of_runs (fn:=Tryz.f64) (A:=cs10) Tryz.func64 ks10 hk hh h
def cslaS_:AFun:=⟨44,2,[.t 4,.t 5],
 (.seq (.reg [op 2 (.box tsr_ 1 (.t 0)),op 4 (.nilrow ta10 5),op 5 (.mov (.k (.nili)))]
[1,2])
(.seq (.reg [oN 12 2 1,op 13 (.call nsrn_ [.t 12]),oM 11 13,oE 14 11 0,oE 15 11 1,oM 6 14,oM 7 15]
[1,2,6,7])
(.seq (.seq (.reg [oM 16 7,op 17 (.eqI true (.t 16) (.k (.nili))),oM 18 17,qM 19 6 18 false,qF 20 2 0 18 false,qL 21 20 18 false,oG 22 (.call nspr_ [.t 21]) 18 false,oG 23 (.len false (.t 22)) 18 false,qB 24 .gtr 19 23 18 false,oO 25 18 24]
[1,6,25])
(.cond (.t 25)
(.seq (.dregC [op 26 (.load (.g 0)),op 4 (.nilrow ta10 5),oM 5 26]
[1] [0,1,1] [1,1,1] [([0],[]),([2],[0])] [4,5,26]
[4,5])
.ret)
.skip))
(.seq (.reg [op 8 (.nilrow ta10 5)]
[1,6,8])
(.seq (.seq (.reg [oM 27 6,oC 28 0]
[1,8,27,28])
(.block 0
(.loop [1,8,27,28] [2,4,13,22,23,8,41]
 (.seq (.reg [oB 29 .lss 28 27]
[1,8,27,28,29])
(.seq (.cond (.t 29)
.skip
(.exit 0))
(.seq (.block 1
(.seq (.reg [oM 31 1,op 32 (.callvB (.t 31) []),oM 30 32,oE 33 30 0,oE 34 30 1,op 9 (.alloc ta10 5 (.agg [.int .i64 0,.int .i64 0,.int .i64 0,.str [],.bool false])),
⟨none,.store (.t 9) (.t 33) 5,none⟩,oM 10 34]
[1,8,9,10,27,28])
(.seq (.seq (.reg [oM 35 10,op 36 (.eqI true (.t 35) (.k (.nili)))]
[1,8,9,10,27,28,36])
(.cond (.t 36)
(.seq (.reg [oM 37 10,op 4 (.nilrow ta10 5),oM 5 37]
[4,5])
.ret)
.skip))
(.reg [oM 38 8,oN 39 9 5,op 40 (.mkrow ta10 5 1 (.agg [.int .i64 0,.int .i64 0,.int .i64 0,.str [],.bool false]) [(0,.t 39)]),op 41 (.app ta10 5 48 (.t 38) (.t 40)),oM 8 41]
[1,8,27,28]))))
(.reg [oK 42 .add 28 1,oM 28 42]
[1,8,27,28])))))))
(.seq (.reg [oM 43 8,oM 4 43,op 5 (.mov (.k (.nili)))]
[4,5])
.ret))))))⟩
theorem kslaS_:chkF Tryz.prog Tryz.f99 cslaS_=true:=by kernel_rfl
theorem hslaS_ {G:Nat→Option AV} {args:List AV} {r:AV} {H H1:List (Nat×Box)} (h:R_ Tryz.prog G cslaS_ args H r H1) (hk:args.length=cslaS_.k:=by rfl) (hh:h12 cslaS_.N H=true:=by rfl):H_ Tryz.prog G nslaS_ args H r H1:=H_.of_runs (fn:=Tryz.f99) (A:=cslaS_) Tryz.func99 kslaS_ hk hh h
def cslaC_:AFun:=⟨44,2,[.t 4,.t 5],
 (.seq (.reg [op 2 (.box tsr_ 1 (.t 0)),op 4 (.nilrow taC_ 2),op 5 (.mov (.k (.nili)))]
[1,2])
(.seq (.reg [oN 12 2 1,op 13 (.call nsrn_ [.t 12]),oM 11 13,oE 14 11 0,oE 15 11 1,oM 6 14,oM 7 15]
[1,2,6,7])
(.seq (.seq (.reg [oM 16 7,op 17 (.eqI true (.t 16) (.k (.nili))),oM 18 17,qM 19 6 18 false,qF 20 2 0 18 false,qL 21 20 18 false,oG 22 (.call nspr_ [.t 21]) 18 false,oG 23 (.len false (.t 22)) 18 false,qB 24 .gtr 19 23 18 false,oO 25 18 24]
[1,6,25])
(.cond (.t 25)
(.seq (.dregC [op 26 (.load (.g 0)),op 4 (.nilrow taC_ 2),oM 5 26]
[1] [0,1,1] [1,1,1] [([0],[]),([2],[0])] [4,5,26]
[4,5])
.ret)
.skip))
(.seq (.reg [op 8 (.nilrow taC_ 2)]
[1,6,8])
(.seq (.seq (.reg [oM 27 6,oC 28 0]
[1,8,27,28])
(.block 0
(.loop [1,8,27,28] [2,4,13,22,23,8,41]
 (.seq (.reg [oB 29 .lss 28 27]
[1,8,27,28,29])
(.seq (.cond (.t 29)
.skip
(.exit 0))
(.seq (.block 1
(.seq (.reg [oM 31 1,op 32 (.callvB (.t 31) []),oM 30 32,oE 33 30 0,oE 34 30 1,op 9 (.alloc taC_ 2 (.agg [.int .i64 0,.nils])),
⟨none,.store (.t 9) (.t 33) 2,none⟩,oM 10 34]
[1,8,9,10,27,28])
(.seq (.seq (.reg [oM 35 10,op 36 (.eqI true (.t 35) (.k (.nili)))]
[1,8,9,10,27,28,36])
(.cond (.t 36)
(.seq (.reg [oM 37 10,op 4 (.nilrow taC_ 2),oM 5 37]
[4,5])
.ret)
.skip))
(.reg [oM 38 8,oN 39 9 2,op 40 (.mkrow taC_ 2 1 (.agg [.int .i64 0,.nils]) [(0,.t 39)]),op 41 (.app taC_ 2 32 (.t 38) (.t 40)),oM 8 41]
[1,8,27,28]))))
(.reg [oK 42 .add 28 1,oM 28 42]
[1,8,27,28])))))))
(.seq (.reg [oM 43 8,oM 4 43,op 5 (.mov (.k (.nili)))]
[4,5])
.ret))))))⟩
theorem kslaC_:chkF Tryz.prog Tryz.f101 cslaC_=true:=by kernel_rfl
theorem hslaC_ {G:Nat→Option AV} {args:List AV} {r:AV} {H H1:List (Nat×Box)} (h:R_ Tryz.prog G cslaC_ args H r H1) (hk:args.length=cslaC_.k:=by rfl) (hh:h12 cslaC_.N H=true:=by rfl):H_ Tryz.prog G nslaC_ args H r H1:=H_.of_runs (fn:=Tryz.f101) (A:=cslaC_) Tryz.func101 kslaC_ hk hh h
def cslaR_:AFun:=⟨44,2,[.t 4,.t 5],
 (.seq (.reg [op 2 (.box tsr_ 1 (.t 0)),op 4 (.nilrow taR_ 2),op 5 (.mov (.k (.nili)))]
[1,2])
(.seq (.reg [oN 12 2 1,op 13 (.call nsrn_ [.t 12]),oM 11 13,oE 14 11 0,oE 15 11 1,oM 6 14,oM 7 15]
[1,2,6,7])
(.seq (.seq (.reg [oM 16 7,op 17 (.eqI true (.t 16) (.k (.nili))),oM 18 17,qM 19 6 18 false,qF 20 2 0 18 false,qL 21 20 18 false,oG 22 (.call nspr_ [.t 21]) 18 false,oG 23 (.len false (.t 22)) 18 false,qB 24 .gtr 19 23 18 false,oO 25 18 24]
[1,6,25])
(.cond (.t 25)
(.seq (.dregC [op 26 (.load (.g 0)),op 4 (.nilrow taR_ 2),oM 5 26]
[1] [0,1,1] [1,1,1] [([0],[]),([2],[0])] [4,5,26]
[4,5])
.ret)
.skip))
(.seq (.reg [op 8 (.nilrow taR_ 2)]
[1,6,8])
(.seq (.seq (.reg [oM 27 6,oC 28 0]
[1,8,27,28])
(.block 0
(.loop [1,8,27,28] [2,4,13,22,23,8,41]
 (.seq (.reg [oB 29 .lss 28 27]
[1,8,27,28,29])
(.seq (.cond (.t 29)
.skip
(.exit 0))
(.seq (.block 1
(.seq (.reg [oM 31 1,op 32 (.callvB (.t 31) []),oM 30 32,oE 33 30 0,oE 34 30 1,op 9 (.alloc taR_ 2 (.agg [.nils,.nils])),
⟨none,.store (.t 9) (.t 33) 2,none⟩,oM 10 34]
[1,8,9,10,27,28])
(.seq (.seq (.reg [oM 35 10,op 36 (.eqI true (.t 35) (.k (.nili)))]
[1,8,9,10,27,28,36])
(.cond (.t 36)
(.seq (.reg [oM 37 10,op 4 (.nilrow taR_ 2),oM 5 37]
[4,5])
.ret)
.skip))
(.reg [oM 38 8,oN 39 9 2,op 40 (.mkrow taR_ 2 1 (.agg [.nils,.nils]) [(0,.t 39)]),op 41 (.app taR_ 2 48 (.t 38) (.t 40)),oM 8 41]
[1,8,27,28]))))
(.reg [oK 42 .add 28 1,oM 28 42]
[1,8,27,28])))))))
(.seq (.reg [oM 43 8,oM 4 43,op 5 (.mov (.k (.nili)))]
[4,5])
.ret))))))⟩
theorem kslaR_:chkF Tryz.prog Tryz.f66 cslaR_=true:=by kernel_rfl
theorem hslaR_ {G:Nat→Option AV} {args:List AV} {r:AV} {H H1:List (Nat×Box)} (h:R_ Tryz.prog G cslaR_ args H r H1) (hk:args.length=cslaR_.k:=by rfl) (hh:h12 cslaR_.N H=true:=by rfl):H_ Tryz.prog G nslaR_ args H r H1:=H_.of_runs (fn:=Tryz.f66) (A:=cslaR_) Tryz.func66 kslaR_ hk hh h
def cslaV_:AFun:=⟨44,2,[.t 4,.t 5],
 (.seq (.reg [op 2 (.box tsr_ 1 (.t 0)),op 4 (.nilrow tSV_ 1),op 5 (.mov (.k (.nili)))]
[1,2])
(.seq (.reg [oN 12 2 1,op 13 (.call nsrn_ [.t 12]),oM 11 13,oE 14 11 0,oE 15 11 1,oM 6 14,oM 7 15]
[1,2,6,7])
(.seq (.seq (.reg [oM 16 7,op 17 (.eqI true (.t 16) (.k (.nili))),oM 18 17,qM 19 6 18 false,qF 20 2 0 18 false,qL 21 20 18 false,oG 22 (.call nspr_ [.t 21]) 18 false,oG 23 (.len false (.t 22)) 18 false,qB 24 .gtr 19 23 18 false,oO 25 18 24]
[1,6,25])
(.cond (.t 25)
(.seq (.dregC [op 26 (.load (.g 0)),op 4 (.nilrow tSV_ 1),oM 5 26]
[1] [0,1,1] [1,1,1] [([0],[]),([2],[0])] [4,5,26]
[4,5])
.ret)
.skip))
(.seq (.reg [op 8 (.nilrow tSV_ 1)]
[1,6,8])
(.seq (.seq (.reg [oM 27 6,oC 28 0]
[1,8,27,28])
(.block 0
(.loop [1,8,27,28] [2,4,13,22,23,8,41]
 (.seq (.reg [oB 29 .lss 28 27]
[1,8,27,28,29])
(.seq (.cond (.t 29)
.skip
(.exit 0))
(.seq (.block 1
(.seq (.reg [oM 31 1,op 32 (.callvB (.t 31) []),oM 30 32,oE 33 30 0,oE 34 30 1,oM 9 33,oM 10 34]
[1,8,9,10,27,28])
(.seq (.seq (.reg [oM 35 10,op 36 (.eqI true (.t 35) (.k (.nili)))]
[1,8,9,10,27,28,36])
(.cond (.t 36)
(.seq (.reg [oM 37 10,op 4 (.nilrow tSV_ 1),oM 5 37]
[4,5])
.ret)
.skip))
(.reg [oM 38 8,oM 39 9,op 40 (.mkrow tSV_ 1 1 (.nils) [(0,.t 39)]),op 41 (.app tSV_ 1 24 (.t 38) (.t 40)),oM 8 41]
[1,8,27,28]))))
(.reg [oK 42 .add 28 1,oM 28 42]
[1,8,27,28])))))))
(.seq (.reg [oM 43 8,oM 4 43,op 5 (.mov (.k (.nili)))]
[4,5])
.ret))))))⟩
theorem kslaV_:chkF Tryz.prog Tryz.f62 cslaV_=true:=by kernel_rfl
theorem hslaV_ {G:Nat→Option AV} {args:List AV} {r:AV} {H H1:List (Nat×Box)} (h:R_ Tryz.prog G cslaV_ args H r H1) (hk:args.length=cslaV_.k:=by rfl) (hh:h12 cslaV_.N H=true:=by rfl):H_ Tryz.prog G ns10 args H r H1:=H_.of_runs (fn:=Tryz.f62) (A:=cslaV_) Tryz.func62 kslaV_ hk hh h
end Go.Proofs.YtkejmcgngblfnaaGreatDoor.Ab
