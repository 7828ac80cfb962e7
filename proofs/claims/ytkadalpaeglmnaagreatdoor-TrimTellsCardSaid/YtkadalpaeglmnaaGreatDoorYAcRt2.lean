/-
  Lemmas. No claim is proved here.
-/
import Derived.Test.YtkadalpaeglmnaaGreatDoorYAcR0
set_option linter.unusedSimpArgs false
namespace Go.Proofs.YtkadalpaeglmnaaGreatDoor.Ab
open Go
def cbeaNaE_:AFun:=⟨22,2,[.t 4],
 (.seq (.reg [op 4 (.nilrow taE_ 10)]
[0,1])
(.seq (.reg [op 5 (.nilrow taE_ 10)]
[0,1,5])
(.seq (.seq (.reg [oM 8 0,oZ 9 8,oC 10 0]
[1,5,8,9,10])
(.block 0
(.loop [1,5,8,9,10] [4,5,9,19]
 (.seq (.reg [oB 11 .lss 10 9]
[1,5,8,9,10,11])
(.seq (.cond (.t 11)
.skip
(.exit 0))
(.seq (.block 1
(.seq (.reg [oI 12 7 8 10,oN 13 12 7,op 7 (.alloc taN_ 7 (.agg [iv 0,iv 0,iv 0,iv 0,iv 0,.str [],.bool false])),
⟨none,.store (.t 7) (.t 13) 7,none⟩]
[1,5,7,8,9,10])
(.reg [oM 14 5,oM 15 1,oN 16 7 7,op 17 (.callv (.t 15) [.t 16]),op 18 (.mkrow taE_ 10 1 (.agg [iv 0,iv 0,iv 0,.str [],iv 0,iv 0,.str [],.bool false,iv 0,iv 0]) [(0,.t 17)]),op 19 (.app taE_ 10 96 (.t 14) (.t 18)),oM 5 19]
[1,5,8,9,10])))
(.reg [oK 20 .add 10 1,oM 10 20]
[1,5,8,9,10])))))))
(.seq (.reg [oM 21 5,oM 4 21]
[4])
.ret))))⟩
theorem kbeaNaE_:chkF Tryz.prog Tryz.f79 cbeaNaE_=true:=by kernel_rfl
def cbeaQaT_:AFun:=⟨22,2,[.t 4],
 (.seq (.reg [op 4 (.nilrow ta13 5)]
[0,1])
(.seq (.reg [op 5 (.nilrow ta13 5)]
[0,1,5])
(.seq (.seq (.reg [oM 8 0,oZ 9 8,oC 10 0]
[1,5,8,9,10])
(.block 0
(.loop [1,5,8,9,10] [4,5,9,19]
 (.seq (.reg [oB 11 .lss 10 9]
[1,5,8,9,10,11])
(.seq (.cond (.t 11)
.skip
(.exit 0))
(.seq (.block 1
(.seq (.reg [oI 12 3 8 10,oN 13 12 3,op 7 (.alloc ta21 3 (.agg [.bool false,.str [],iv 0])),
⟨none,.store (.t 7) (.t 13) 3,none⟩]
[1,5,7,8,9,10])
(.reg [oM 14 5,oM 15 1,oN 16 7 3,op 17 (.callv (.t 15) [.t 16]),op 18 (.mkrow ta13 5 1 (.agg [.bool false,.str [],iv 0,iv 0,iv 0]) [(0,.t 17)]),op 19 (.app ta13 5 48 (.t 14) (.t 18)),oM 5 19]
[1,5,8,9,10])))
(.reg [oK 20 .add 10 1,oM 10 20]
[1,5,8,9,10])))))))
(.seq (.reg [oM 21 5,oM 4 21]
[4])
.ret))))⟩
abbrev pbeaQaT_:=pcR nbeaQaT_ cbeaQaT_ Tryz.func41
def cbeaSaT_:AFun:=⟨22,2,[.t 4],
 (.seq (.reg [op 4 (.nilrow ta20 4)]
[0,1])
(.seq (.reg [op 5 (.nilrow ta20 4)]
[0,1,5])
(.seq (.seq (.reg [oM 8 0,oZ 9 8,oC 10 0]
[1,5,8,9,10])
(.block 0
(.loop [1,5,8,9,10] [4,5,9,19]
 (.seq (.reg [oB 11 .lss 10 9]
[1,5,8,9,10,11])
(.seq (.cond (.t 11)
.skip
(.exit 0))
(.seq (.block 1
(.seq (.reg [oI 12 2 8 10,oN 13 12 2,op 7 (.alloc ta19 2 (.agg [iv 0,iv 0])),
⟨none,.store (.t 7) (.t 13) 2,none⟩]
[1,5,7,8,9,10])
(.reg [oM 14 5,oM 15 1,oN 16 7 2,op 17 (.callv (.t 15) [.t 16]),op 18 (.mkrow ta20 4 1 (.agg [.str [],iv 0,iv 0,iv 0]) [(0,.t 17)]),op 19 (.app ta20 4 40 (.t 14) (.t 18)),oM 5 19]
[1,5,8,9,10])))
(.reg [oK 20 .add 10 1,oM 10 20]
[1,5,8,9,10])))))))
(.seq (.reg [oM 21 5,oM 4 21]
[4])
.ret))))⟩
theorem kbeaSaT_:chkF Tryz.prog Tryz.f82 cbeaSaT_=true:=by kernel_rfl
def cb10:AFun:=⟨22,2,[.t 4],
 (.seq (.reg [op 4 (.nilrow ta12 5)]
[0,1])
(.seq (.reg [op 5 (.nilrow ta12 5)]
[0,1,5])
(.seq (.seq (.reg [oM 8 0,oZ 9 8,oC 10 0]
[1,5,8,9,10])
(.block 0
(.loop [1,5,8,9,10] [4,5,9,19]
 (.seq (.reg [oB 11 .lss 10 9]
[1,5,8,9,10,11])
(.seq (.cond (.t 11)
.skip
(.exit 0))
(.seq (.block 1
(.seq (.reg [oI 12 3 8 10,oN 13 12 3,op 7 (.alloc ta15 3 (.agg [.str [],.bool false,.bool false])),
⟨none,.store (.t 7) (.t 13) 3,none⟩]
[1,5,7,8,9,10])
(.reg [oM 14 5,oM 15 1,oN 16 7 3,op 17 (.callv (.t 15) [.t 16]),op 18 (.mkrow ta12 5 1 (.agg [.str [],iv 0,iv 0,.bool false,.bool false]) [(0,.t 17)]),op 19 (.app ta12 5 40 (.t 14) (.t 18)),oM 5 19]
[1,5,8,9,10])))
(.reg [oK 20 .add 10 1,oM 10 20]
[1,5,8,9,10])))))))
(.seq (.reg [oM 21 5,oM 4 21]
[4])
.ret))))⟩
abbrev pbeaSaT_:=pcR nbeaSaT_ cb10 Tryz.func45
def cbeaTaT_:AFun:=⟨22,2,[.t 4],
 (.seq (.reg [op 4 (.nilrow ta10 13)]
[0,1])
(.seq (.reg [op 5 (.nilrow ta10 13)]
[0,1,5])
(.seq (.seq (.reg [oM 8 0,oZ 9 8,oC 10 0]
[1,5,8,9,10])
(.block 0
(.loop [1,5,8,9,10] [4,5,9,19]
 (.seq (.reg [oB 11 .lss 10 9]
[1,5,8,9,10,11])
(.seq (.cond (.t 11)
.skip
(.exit 0))
(.seq (.block 1
(.seq (.reg [oI 12 5 8 10,oN 13 12 5,op 7 (.alloc taT_ 5 (.agg [iv 0,iv 0,iv 0,iv 0,.nils])),
⟨none,.store (.t 7) (.t 13) 5,none⟩]
[1,5,7,8,9,10])
(.reg [oM 14 5,oM 15 1,oN 16 7 5,op 17 (.callv (.t 15) [.t 16]),op 18 (.mkrow ta10 13 1 (.agg [.str [],iv 0,iv 0,.str [],iv 0,iv 0,.str [],.nils,iv 0,iv 0,.nils,iv 0,.nils]) [(0,.t 17)]),op 19 (.app ta10 13 176 (.t 14) (.t 18)),oM 5 19]
[1,5,8,9,10])))
(.reg [oK 20 .add 10 1,oM 10 20]
[1,5,8,9,10])))))))
(.seq (.reg [oM 21 5,oM 4 21]
[4])
.ret))))⟩
abbrev hbeaTaT_:=hcR nbeaTaT_ cbeaTaT_ Tryz.func76
def cbe_:AFun:=⟨28,2,[.t 4],
 (.seq (.reg [op 2 (.box taT_ 5 (.t 0)),oC 4 0]
[1,2])
(.seq (.block 0
(.seq (.reg [oF 6 2 4,oL 7 6,oZ 8 7,oK 9 .gtr 8 0,oM 5 9]
[1,2,5])
(.cond (.t 5)
(.seq (.reg [oF 10 2 4,oL 11 10,oF 12 2 4,oL 13 12,oZ 14 13,oK 15 .sub 14 1,oI 16 2 11 15,oF 17 16 1,oL 18 17,oK 19 .add 18 1,oM 4 19]
[4])
.ret)
(.seq (.reg [oF 21 2 3,oL 22 21,oK 23 .geq 22 0,oM 20 23]
[1,2,20])
(.cond (.t 20)
(.seq (.reg [oF 24 2 3,oL 25 24,oK 26 .add 25 1,oM 4 26]
[4])
.ret)
.skip)))))
(.seq (.reg [oM 27 1,oM 4 27]
[4])
.ret)))⟩
abbrev pbe_:=pcR nbe_ cbe_ Tryz.func78
def cbi_:AFun:=⟨5,1,[.cells 2 3],
 (.seq (.reg [op 2 (.alloc taI_ 3 (.agg [.str [],iv 0,iv 0]))]
[0,2])
(.seq (.reg [oM 3 0,op 4 (.build [.str [],iv 0,iv 0] [(0,1,.t 3)]),
⟨none,.store (.t 2) (.t 4) 3,none⟩]
[2])
.ret))⟩
abbrev pbi_:=pcR nbi_ cbi_ Tryz.func37
def cbn_:AFun:=⟨57,3,[.cells 6 10],
 (.seq (.reg [op 3 (.box taQ_ 9 (.t 0)),op 4 (.box taN_ 7 (.t 1)),op 6 (.alloc taE_ 10 (.agg [iv 0,iv 0,iv 0,.str [],iv 0,iv 0,.str [],.bool false,iv 0,iv 0]))]
[2,3,4,6])
(.seq (.seq (.reg [oF 7 4 0,oL 8 7]
[2,3,4,6,8])
(.block 0
(.seq (.reg [oK 10 .eql 8 1,oM 9 10]
[2,3,4,6,8,9])
(.cond (.t 9)
(.seq (.reg [oF 11 4 0,oL 12 11,oF 13 4 3,oN 14 13 4,op 15 (.build [iv 0,iv 0,iv 0,.str [],iv 0,iv 0,.str [],.bool false,iv 0,iv 0] [(0,1,.t 12),(4,4,.t 14)]),
⟨none,.store (.t 6) (.t 15) 10,none⟩]
[6])
.ret)
(.seq (.reg [oK 17 .eql 8 2,oM 16 17]
[2,3,4,6,8,16])
(.cond (.t 16)
(.seq (.reg [oF 18 3 2,oL 19 18,oF 20 4 1,oL 21 20,oI 22 3 19 21,oF 23 22 1,oL 24 23,op 25 (.build [iv 0,iv 0,iv 0,.str [],iv 0,iv 0,.str [],.bool false,iv 0,iv 0] [(0,1,.k (iv 17)),(3,1,.t 24)]),
⟨none,.store (.t 6) (.t 25) 10,none⟩]
[6])
.ret)
(.seq (.reg [oK 27 .eql 8 3,oM 26 27]
[2,3,4,6,8,26])
(.cond (.t 26)
(.seq (.reg [oF 28 3 3,oL 29 28,oF 30 4 1,oL 31 30,oI 32 5 29 31,oF 33 32 0,oL 34 33,op 35 (.build [iv 0,iv 0,iv 0,.str [],iv 0,iv 0,.str [],.bool false,iv 0,iv 0] [(0,1,.k (iv 17)),(3,1,.t 34)]),
⟨none,.store (.t 6) (.t 35) 10,none⟩]
[6])
.ret)
(.seq (.seq (.reg [oK 37 .eql 8 4,oM 36 37]
[2,4,6,8,36])
(.cond (.t 36)
.skip
(.reg [oK 38 .eql 8 5,oM 36 38]
[2,4,6,36])))
(.cond (.t 36)
(.seq (.reg [oF 39 4 0,oL 40 39,oF 41 4 1,oL 42 41,oM 43 2,oB 44 .sub 42 43,op 45 (.build [iv 0,iv 0,iv 0,.str [],iv 0,iv 0,.str [],.bool false,iv 0,iv 0] [(0,1,.t 40),(1,1,.t 44)]),
⟨none,.store (.t 6) (.t 45) 10,none⟩]
[6])
.ret)
.skip))))))))))
(.seq (.reg [oF 46 4 0,oL 47 46,oF 48 4 1,oL 49 48,oM 50 2,oB 51 .sub 49 50,oF 52 4 2,oL 53 52,oM 54 2,oB 55 .sub 53 54,op 56 (.build [iv 0,iv 0,iv 0,.str [],iv 0,iv 0,.str [],.bool false,iv 0,iv 0] [(0,1,.t 47),(1,1,.t 51),(2,1,.t 55)]),
⟨none,.store (.t 6) (.t 56) 10,none⟩]
[6])
.ret)))⟩
abbrev pbn_:=pcR nbn_ cbn_ Tryz.func81
def cbs_:AFun:=⟨17,2,[.cells 4 4],
 (.seq (.reg [op 2 (.box taQ_ 9 (.t 0)),op 3 (.box taS_ 2 (.t 1)),op 4 (.alloc ta11 4 (.agg [.str [],.nils,iv 0,iv 0]))]
[2,3,4])
(.seq (.dreg [oF 5 2 1,oL 6 5,oF 7 3 0,oL 8 7,oI 9 2 6 8,oF 10 9 0,oL 11 10,oF 12 3 1,oL 13 12,op 14 (.mkfn nbs1_ [.t 2]),op 15 (.call nbeaAaT_ [.t 13,.t 14]),op 16 (.build [.str [],.nils,iv 0,iv 0] [(0,1,.t 11),(1,1,.t 15)]),
⟨none,.store (.t 4) (.t 16) 4,none⟩]
[4])
.ret))⟩
abbrev pbs_:=pcR nbs_ cbs_ Tryz.func48
def cbs1_:AFun:=⟨7,2,[.cells 3 8],
 (.seq (.reg [op 2 (.box taA_ 6 (.t 0)),op 3 (.alloc ta18 8 (.agg [iv 0,.str [],iv 0,iv 0,.str [],.bool false,iv 0,iv 0]))]
[1,2,3])
(.seq (.reg [oN 4 1 9,oN 5 2 6,op 6 (.call nba_ [.t 4,.t 5]),
⟨none,.store (.t 3) (.t 6) 8,none⟩]
[3])
.ret))⟩
abbrev pbs1_:=pcR nbs1_ cbs1_ Tryz.func85
def cbt_:AFun:=⟨8,1,[.t 2],
 (.seq (.reg [op 1 (.box taQ_ 9 (.t 0)),op 2 (.nilrow ta10 13)]
[1])
(.seq (.reg [op 3 (.alloc ti_ 1 (iv 0)),
⟨none,.store (.t 3) (.k (iv 0)) 1,none⟩]
[1,3])
(.seq (.reg [oF 4 1 8,oL 5 4,op 6 (.mkfn nbt1_ [.t 3,.t 1]),op 7 (.call nbeaTaT_ [.t 5,.t 6]),oM 2 7]
[2])
.ret)))⟩
abbrev pbt_:=pcR nbt_ cbt_ Tryz.func47
def cbt1_:AFun:=⟨57,3,[.cells 4 13],
 (.seq (.reg [op 3 (.box taT_ 5 (.t 0)),op 4 (.alloc ta10 13 (.agg [.str [],iv 0,iv 0,.str [],iv 0,iv 0,.str [],.nils,iv 0,iv 0,.nils,iv 0,.nils]))]
[1,2,3,4])
(.seq (.dregA [oL 8 1,oN 9 3 5,oL 10 1,op 11 (.call nbe_ [.t 9,.t 10]),op 5 (.alloc ti_ 1 (iv 0)),
⟨none,.store (.t 5) (.t 8) 1,none⟩,oM 6 11] 4 5 [1,2,3,4,5,6,8,9,10,11]
[1,2,3,4,5,6])
(.seq (.reg [oM 12 6,
⟨none,.store (.t 1) (.t 12) 1,none⟩]
[2,3,4,5,6])
(.seq (.reg [op 7 (.mov (.k (iv (-1))))]
[2,3,4,5,6,7])
(.seq (.seq (.reg [oF 13 3 3,oL 14 13,oK 15 .geq 14 0]
[2,3,4,5,6,7,15])
(.cond (.t 15)
(.reg [oF 16 3 3,oL 17 16,oL 18 5,oB 19 .sub 17 18,oM 7 19]
[2,3,4,5,6,7])
.skip))
(.seq (.dreg [oF 20 2 4,oL 21 20,oF 22 3 0,oL 23 22,oI 24 3 21 23,oF 25 24 0,oL 26 25,op 27 (.call nbi_ [.t 26]),oF 28 2 4,oL 29 28,oF 30 3 2,oL 31 30,oI 32 3 29 31,oF 33 32 0,oL 34 33,op 35 (.call nbi_ [.t 34]),oN 36 2 9,oF 37 2 6,oL 38 37,oF 39 3 1,oL 40 39,oI 41 2 38 40,oN 42 41 2,op 43 (.call nbs_ [.t 36,.t 42]),oM 44 7,oF 45 2 7,oL 46 45,oL 47 5,oM 48 6,op 49 (.slc 7 (.t 46) (some (.t 47)) (some (.t 48))),op 50 (.mkfn nbt11_ [.t 2,.t 5]),op 51 (.call nbeaNaE_ [.t 49,.t 50]),oF 52 3 4,oL 53 52,op 54 (.mkfn nbt12_ [.t 2,.t 5]),op 55 (.call nb10 [.t 53,.t 54]),op 56 (.build [.str [],iv 0,iv 0,.str [],iv 0,iv 0,.str [],.nils,iv 0,iv 0,.nils,iv 0,.nils] [(0,3,.t 27),(3,3,.t 35),(6,4,.t 43),(11,1,.t 44),(10,1,.t 51),(12,1,.t 55)]),
⟨none,.store (.t 4) (.t 56) 13,none⟩]
[4])
.ret))))))⟩
abbrev hbt1_:=hcR nbt1_ cbt1_ Tryz.func77
def cbt11_:AFun:=⟨9,3,[.cells 4 10],
 (.seq (.reg [op 3 (.box taN_ 7 (.t 0)),op 4 (.alloc taE_ 10 (.agg [iv 0,iv 0,iv 0,.str [],iv 0,iv 0,.str [],.bool false,iv 0,iv 0]))]
[1,2,3,4])
(.seq (.reg [oN 5 1 9,oN 6 3 7,oL 7 2,op 8 (.call nbn_ [.t 5,.t 6,.t 7]),
⟨none,.store (.t 4) (.t 8) 10,none⟩]
[4])
.ret))⟩
abbrev pbt11_:=pcR nbt11_ cbt11_ Tryz.func80
def cbt12_:AFun:=⟨18,3,[.cells 4 4],
 (.seq (.reg [op 3 (.box ta19 2 (.t 0)),op 4 (.alloc ta20 4 (.agg [.str [],iv 0,iv 0,iv 0]))]
[1,2,3,4])
(.seq (.dreg [oF 5 1 3,oL 6 5,oF 7 3 0,oL 8 7,oI 9 5 6 8,oF 10 9 0,oL 11 10,op 12 (.call nbi_ [.t 11]),oF 13 3 1,oL 14 13,oL 15 2,oB 16 .sub 14 15,op 17 (.build [.str [],iv 0,iv 0,iv 0] [(0,3,.t 12),(3,1,.t 16)]),
⟨none,.store (.t 4) (.t 17) 4,none⟩]
[4])
.ret))⟩
abbrev pbt12_:=pcR nbt12_ cbt12_ Tryz.func83
def ccL_:AFun:=⟨39,1,[.cells 2 9,.cells 3 3],
 (.seq (.reg [op 1 (.box ta14 12 (.t 0)),op 2 (.alloc taQ_ 9 (.agg [.str [],.nils,.nils,.nils,.nils,iv 0,.nils,.nils,.nils])),op 3 (.alloc ta34 3 (.agg [iv 0,iv 0,iv 0]))]
[1,2,3])
(.seq (.seq (.reg [oN 6 1 12,op 7 (.call ntR_ [.t 6]),oU 8 7]
[1,2,3,8])
(.cond (.t 8)
(.seq (.reg [op 9 (.build [.str [],.nils,.nils,.nils,.nils,iv 0,.nils,.nils,.nils] []),op 10 (.build [iv 0,iv 0,iv 0] [(0,1,.k (iv 1))]),
⟨none,.store (.t 2) (.t 9) 9,none⟩,
⟨none,.store (.t 3) (.t 10) 3,none⟩]
[2,3])
.ret)
.skip))
(.seq (.reg [op 11 .mkmap,op 12 .mkmap,op 13 .mkmap,op 14 (.build [.str [],.nils,.nils,.nils,.nils,iv 0,.nils,.nils,.nils,.nilm,.nilm,.nilm] [(9,1,.t 11),(10,1,.t 12),(11,1,.t 13)]),op 15 (.box tcc_ 12 (.t 14)),oM 4 15]
[1,2,3,4])
(.seq (.reg [op 5 (.alloc tP10 1 (.nilp))]
[1,2,3,4,5])
(.seq (.seq (.reg [oM 16 4,oN 17 1 12,op 18 (.call nccr_ [.t 16,.t 17]),op 19 (.mki tPm_ (.t 5)),op 20 (.call neA_ [.t 18,.t 19])]
[2,3,4,20])
(.cond (.t 20)
.bad
.skip))
(.seq (.reg [oM 34 4,op 35 (.nchk (.t 34)),oF 36 35 0,oN 37 36 9,op 38 (.build [iv 0,iv 0,iv 0] []),
⟨none,.store (.t 2) (.t 37) 9,none⟩,
⟨none,.store (.t 3) (.t 38) 3,none⟩]
[2,3])
.ret))))))⟩
abbrev pcL_:=pcR ncL_ ccL_ Tryz.func23
def cc14:AFun:=⟨21,2,[.t 4],
 (.seq (.reg [op 4 (.mov (.k (.nili)))]
[0,1])
(.seq (.seq (.reg [oM 8 0,oZ 9 8,oC 10 0]
[1,8,9,10])
(.block 0
(.loop [1,8,9,10] [9]
 (.seq (.reg [oB 11 .lss 10 9]
[1,8,9,10,11])
(.seq (.cond (.t 11)
.skip
(.exit 0))
(.seq (.block 1
(.seq (.reg [oI 12 4 8 10,oN 13 12 4,op 6 (.alloc ta17 4 (.agg [.str [],iv 0,iv 0,.nils])),
⟨none,.store (.t 6) (.t 13) 4,none⟩]
[1,6,8,9,10])
(.seq (.reg [oM 14 1,oN 15 6 4,op 16 (.callvB (.t 14) [.t 15]),oM 7 16]
[1,7,8,9,10])
(.seq (.reg [oM 17 7,op 18 (.eqI true (.t 17) (.k (.nili)))]
[1,7,8,9,10,18])
(.cond (.t 18)
(.seq (.reg [oM 19 7,oM 4 19]
[4])
.ret)
.skip)))))
(.reg [oK 20 .add 10 1,oM 10 20]
[1,8,9,10])))))))
(.seq (.reg [op 4 (.mov (.k (.nili)))]
[4])
.ret)))⟩
abbrev hc14:=hcR nc18 cc14 Tryz.func110
def cc13:AFun:=⟨21,2,[.t 4],
 (.seq (.reg [op 4 (.mov (.k (.nili)))]
[0,1])
(.seq (.seq (.reg [oM 8 0,oZ 9 8,oC 10 0]
[1,8,9,10])
(.block 0
(.loop [1,8,9,10] [9]
 (.seq (.reg [oB 11 .lss 10 9]
[1,8,9,10,11])
(.seq (.cond (.t 11)
.skip
(.exit 0))
(.seq (.block 1
(.seq (.reg [oI 12 7 8 10,oN 13 12 7,op 6 (.alloc ta16 7 (.agg [.str [],iv 0,iv 0,iv 0,iv 0,.str [],.bool false])),
⟨none,.store (.t 6) (.t 13) 7,none⟩]
[1,6,8,9,10])
(.seq (.reg [oM 14 1,oN 15 6 7,op 16 (.callvB (.t 14) [.t 15]),oM 7 16]
[1,7,8,9,10])
(.seq (.reg [oM 17 7,op 18 (.eqI true (.t 17) (.k (.nili)))]
[1,7,8,9,10,18])
(.cond (.t 18)
(.seq (.reg [oM 19 7,oM 4 19]
[4])
.ret)
.skip)))))
(.reg [oK 20 .add 10 1,oM 10 20]
[1,8,9,10])))))))
(.seq (.reg [op 4 (.mov (.k (.nili)))]
[4])
.ret)))⟩
abbrev hc13:=hcR nc17 cc13 Tryz.func116
def cc12:AFun:=⟨21,2,[.t 4],
 (.seq (.reg [op 4 (.mov (.k (.nili)))]
[0,1])
(.seq (.seq (.reg [oM 8 0,oZ 9 8,oC 10 0]
[1,8,9,10])
(.block 0
(.loop [1,8,9,10] [9]
 (.seq (.reg [oB 11 .lss 10 9]
[1,8,9,10,11])
(.seq (.cond (.t 11)
.skip
(.exit 0))
(.seq (.block 1
(.seq (.reg [oI 12 5 8 10,oN 13 12 5,op 6 (.alloc ta13 5 (.agg [.bool false,.str [],iv 0,iv 0,iv 0])),
⟨none,.store (.t 6) (.t 13) 5,none⟩]
[1,6,8,9,10])
(.seq (.reg [oM 14 1,oN 15 6 5,op 16 (.callvB (.t 14) [.t 15]),oM 7 16]
[1,7,8,9,10])
(.seq (.reg [oM 17 7,op 18 (.eqI true (.t 17) (.k (.nili)))]
[1,7,8,9,10,18])
(.cond (.t 18)
(.seq (.reg [oM 19 7,oM 4 19]
[4])
.ret)
.skip)))))
(.reg [oK 20 .add 10 1,oM 10 20]
[1,8,9,10])))))))
(.seq (.reg [op 4 (.mov (.k (.nili)))]
[4])
.ret)))⟩
abbrev hc12:=hcR nc16 cc12 Tryz.func113
def cc11:AFun:=⟨21,2,[.t 4],
 (.seq (.reg [op 4 (.mov (.k (.nili)))]
[0,1])
(.seq (.seq (.reg [oM 8 0,oZ 9 8,oC 10 0]
[1,8,9,10])
(.block 0
(.loop [1,8,9,10] [9]
 (.seq (.reg [oB 11 .lss 10 9]
[1,8,9,10,11])
(.seq (.cond (.t 11)
.skip
(.exit 0))
(.seq (.block 1
(.seq (.reg [oI 12 5 8 10,oN 13 12 5,op 6 (.alloc ta12 5 (.agg [.str [],iv 0,iv 0,.bool false,.bool false])),
⟨none,.store (.t 6) (.t 13) 5,none⟩]
[1,6,8,9,10])
(.seq (.reg [oM 14 1,oN 15 6 5,op 16 (.callvB (.t 14) [.t 15]),oM 7 16]
[1,7,8,9,10])
(.seq (.reg [oM 17 7,op 18 (.eqI true (.t 17) (.k (.nili)))]
[1,7,8,9,10,18])
(.cond (.t 18)
(.seq (.reg [oM 19 7,oM 4 19]
[4])
.ret)
.skip)))))
(.reg [oK 20 .add 10 1,oM 10 20]
[1,8,9,10])))))))
(.seq (.reg [op 4 (.mov (.k (.nili)))]
[4])
.ret)))⟩
abbrev hc11:=hcR nc15 cc11 Tryz.func119
def cceaT_:AFun:=⟨21,2,[.t 4],
 (.seq (.reg [op 4 (.mov (.k (.nili)))]
[0,1])
(.seq (.seq (.reg [oM 8 0,oZ 9 8,oC 10 0]
[1,8,9,10])
(.block 0
(.loop [1,8,9,10] [9]
 (.seq (.reg [oB 11 .lss 10 9]
[1,8,9,10,11])
(.seq (.cond (.t 11)
.skip
(.exit 0))
(.seq (.block 1
(.seq (.reg [oI 12 4 8 10,oN 13 12 4,op 6 (.alloc ta11 4 (.agg [.str [],.nils,iv 0,iv 0])),
⟨none,.store (.t 6) (.t 13) 4,none⟩]
[1,6,8,9,10])
(.seq (.reg [oM 14 1,oN 15 6 4,op 16 (.callvB (.t 14) [.t 15]),oM 7 16]
[1,7,8,9,10])
(.seq (.reg [oM 17 7,op 18 (.eqI true (.t 17) (.k (.nili)))]
[1,7,8,9,10,18])
(.cond (.t 18)
(.seq (.reg [oM 19 7,oM 4 19]
[4])
.ret)
.skip)))))
(.reg [oK 20 .add 10 1,oM 10 20]
[1,8,9,10])))))))
(.seq (.reg [op 4 (.mov (.k (.nili)))]
[4])
.ret)))⟩
abbrev hceaT_:=hcR nceaT_ cceaT_ Tryz.func124
def cc10:AFun:=⟨21,2,[.t 4],
 (.seq (.reg [op 4 (.mov (.k (.nili)))]
[0,1])
(.seq (.seq (.reg [oM 8 0,oZ 9 8,oC 10 0]
[1,8,9,10])
(.block 0
(.loop [1,8,9,10] [9]
 (.seq (.reg [oB 11 .lss 10 9]
[1,8,9,10,11])
(.seq (.cond (.t 11)
.skip
(.exit 0))
(.seq (.block 1
(.seq (.reg [oI 12 13 8 10,oN 13 12 13,op 6 (.alloc ta10 13 (.agg [.str [],iv 0,iv 0,.str [],iv 0,iv 0,.str [],.nils,iv 0,iv 0,.nils,iv 0,.nils])),
⟨none,.store (.t 6) (.t 13) 13,none⟩]
[1,6,8,9,10])
(.seq (.reg [oM 14 1,oN 15 6 13,op 16 (.callvB (.t 14) [.t 15]),oM 7 16]
[1,7,8,9,10])
(.seq (.reg [oM 17 7,op 18 (.eqI true (.t 17) (.k (.nili)))]
[1,7,8,9,10,18])
(.cond (.t 18)
(.seq (.reg [oM 19 7,oM 4 19]
[4])
.ret)
.skip)))))
(.reg [oK 20 .add 10 1,oM 10 20]
[1,8,9,10])))))))
(.seq (.reg [op 4 (.mov (.k (.nili)))]
[4])
.ret)))⟩
abbrev hc10:=hcR nc14 cc10 Tryz.func128
def ccfi_:AFun:=⟨32,5,[.t 10],
 (.seq (.reg [op 6 (.box taI_ 3 (.t 1)),op 10 (.mov (.k (.nili)))]
[0,2,3,4,6])
(.seq (.seq (.reg [oM 13 3,oM 14 4,oB 15 .geq 13 14]
[0,2,6,15])
(.cond (.t 15)
.bad
.skip))
(.seq (.seq (.reg [oM 19 0,oF 20 6 0,oL 21 20,op 22 (.mget true false [1] (iv 0) (.t 19) (.t 21)),oM 18 22,oE 23 18 0,oE 24 18 1,oM 11 23,oM 12 24]
[0,2,6,12])
(.seq (.reg [oM 25 12]
[0,2,6,25])
(.cond (.t 25)
.bad
.skip)))
(.seq (.reg [oM 28 0,oF 29 6 0,oL 30 29,oM 31 2,
⟨none,.mput false [1] (.t 28) (.t 30) (.t 31),none⟩]
[])
(.seq (.reg [op 10 (.mov (.k (.nili)))]
[10])
.ret)))))⟩
abbrev hcfi_:=hcR ncfi_ ccfi_ Tryz.func196
def ccfaN_:AFun:=⟨32,5,[.t 10],
 (.seq (.reg [op 6 (.box taI_ 3 (.t 1)),op 7 (.box taN_ 7 (.t 2)),op 10 (.mov (.k (.nili)))]
[0,3,4,6,7])
(.seq (.seq (.reg [oM 13 3,oM 14 4,oB 15 .geq 13 14]
[0,6,7,15])
(.cond (.t 15)
.bad
.skip))
(.seq (.seq (.reg [oM 19 0,oF 20 6 0,oL 21 20,op 22 (.mget true false [1] (.agg [iv 0,iv 0,iv 0,iv 0,iv 0,.str [],.bool false]) (.t 19) (.t 21)),oM 18 22,oE 23 18 0,oE 24 18 1,op 11 (.alloc taN_ 7 (.agg [iv 0,iv 0,iv 0,iv 0,iv 0,.str [],.bool false])),
⟨none,.store (.t 11) (.t 23) 7,none⟩,oM 12 24]
[0,6,7,12])
(.seq (.reg [oM 25 12]
[0,6,7,25])
(.cond (.t 25)
.bad
.skip)))
(.seq (.reg [oM 28 0,oF 29 6 0,oL 30 29,oN 31 7 7,
⟨none,.mput false [1] (.t 28) (.t 30) (.t 31),none⟩]
[])
(.seq (.reg [op 10 (.mov (.k (.nili)))]
[10])
.ret)))))⟩
abbrev hcfaN_:=hcR ncfaN_ ccfaN_ Tryz.func197
def cpT_:AFun:=⟨126,1,[.t 2],
 (.seq (.reg [op 1 (.box taQ_ 9 (.t 0)),oV 2 false]
[1])
(.seq (.seq (.reg [oN 12 1 9,op 13 (.call npF_ [.t 12]),oK 14 .eql 13 0]
[1,14])
(.cond (.t 14)
(.seq (.reg [op 15 (.call npa_ []),oM 2 15]
[2])
.ret)
.skip))
(.seq (.reg [oN 17 1 9,op 18 (.call nt17 [.t 17]),oM 16 18,oE 19 16 0,oE 20 16 1,op 3 (.alloc taQ_ 9 (.agg [.str [],.nils,.nils,.nils,.nils,iv 0,.nils,.nils,.nils])),
⟨none,.store (.t 3) (.t 19) 9,none⟩,oM 4 20]
[1,3,4])
(.seq (.reg [oN 21 1 9,op 22 (.call ntS_ [.t 21]),oM 5 22]
[1,3,4,5])
(.seq (.seq (.reg [oN 23 1 9,op 24 (.call npR_ [.t 23]),oU 25 24]
[1,3,4,5,25])
(.cond (.t 25)
(.seq (.reg [oM 26 4,oU 27 26,oM 28 27,qN 29 3 9 28 true,oG 30 (.build [.str [],.nils,.nils,.nils,.nils,iv 0,.nils,.nils,.nils] []) 28 true,oG 31 (.call npS_ [.t 29,.t 30]) 28 true,oA 32 28 31,oM 33 32,qM 34 5 33 true,oG 35 (.len false (.t 34)) 33 true,qK 36 .eql 35 0 33 true,oA 37 33 36,oM 38 37,qN 39 1 9 38 true,oG 40 (.call ntT_ [.t 39]) 38 true,oG 41 (.un .not (.t 40)) 38 true,oA 42 38 41,oM 43 42,oG 44 (.call npa_ []) 43 true,oA 45 43 44,oM 2 45]
[2])
.ret)
.skip))
(.seq (.reg [oN 46 1 9,oF 47 1 5,oL 48 47,op 49 (.call np13 [.t 46,.t 48]),oM 6 49]
[1,3,4,5,6])
(.seq (.reg [op 7 (.nilrow ti_ 1)]
[1,3,4,5,6,7])
(.seq (.seq (.reg [oC 8 0]
[1,3,4,5,6,7,8])
(.block 0
(.loop [1,3,4,5,6,7,8] [1,13,15,18,3,22,24,31,35,40,44,49,7,63]
 (.seq (.seq (.reg [oM 50 8,oM 51 6,oZ 52 51,oB 53 .lss 50 52]
[1,3,4,5,6,7,8,53])
(.cond (.t 53)
.skip
(.exit 0)))
(.seq (.block 1
(.seq (.reg [oM 56 6,oM 57 8,oI 58 1 56 57,oL 59 58]
[1,3,4,5,6,7,8,59])
(.cond (.t 59)
(.reg [oM 60 7,oM 61 8,op 62 (.mkrow ti_ 1 1 (iv 0) [(0,.t 61)]),op 63 (.app ti_ 1 8 (.t 60) (.t 62)),oM 7 63]
[1,3,4,5,6,7,8])
.skip)))
(.reg [oM 54 8,oK 55 .add 54 1,oM 8 55]
[1,3,4,5,6,7,8]))))))
(.seq (.seq (.dreg [oM 64 5,oZ 65 64,oM 66 7,oZ 67 66,oB 68 .neq 65 67,oM 69 68,qN 70 1 9 69 false,oG 71 (.call ntT_ [.t 70]) 69 false,qM 72 7 69 false,oG 73 (.len false (.t 72)) 69 false,qF 74 1 4 69 false,qL 75 74 69 false,oG 76 (.len false (.t 75)) 69 false,qB 77 .eql 73 76 69 false,oG 78 (.eqB true (.t 71) (.t 77)) 69 false,oO 79 69 78]
[1,3,4,5,7,79])
(.cond (.t 79)
(.seq (.reg [oV 2 false]
[2])
.ret)
.skip))
(.seq (.seq (.reg [oC 9 0]
[1,3,4,5,7,9])
(.block 2
(.loop [1,3,4,5,7,9] [1,13,15,18,3,22,24,31,35,40,44,49,7,52,62,63,65,67,71,73,76]
 (.seq (.seq (.reg [oM 80 9,oM 81 5,oZ 82 81,oB 83 .lss 80 82]
[1,3,4,5,7,9,83])
(.cond (.t 83)
.skip
(.exit 2)))
(.seq (.block 3
(.seq (.dreg [oM 86 5,oM 87 9,oI 88 1 86 87,oL 89 88,oM 90 7,oM 91 9,oI 92 1 90 91,oL 93 92,oB 94 .neq 89 93]
[1,3,4,5,7,9,94])
(.cond (.t 94)
(.seq (.reg [oV 2 false]
[2])
.ret)
.skip)))
(.reg [oM 84 9,oK 85 .add 84 1,oM 9 85]
[1,3,4,5,7,9]))))))
(.seq (.reg [oN 96 3 9,op 97 (.call nt17 [.t 96]),oM 95 97,oE 98 95 0,oE 99 95 1,op 10 (.alloc taQ_ 9 (.agg [.str [],.nils,.nils,.nils,.nils,iv 0,.nils,.nils,.nils])),
⟨none,.store (.t 10) (.t 98) 9,none⟩,oM 11 99]
[1,3,4,10,11])
(.seq (.dreg [oM 100 4,oM 101 100,qM 102 11 101 true,oA 103 101 102,oM 104 103,qN 105 3 9 104 true,qN 106 1 9 104 true,oG 107 (.call np17 [.t 106]) 104 true,oG 108 (.call npS_ [.t 105,.t 107]) 104 true,oA 109 104 108,oM 110 109,qN 111 3 9 110 true,oG 112 (.call npR_ [.t 111]) 110 true,oA 113 110 112,oM 114 113,qN 115 3 9 114 true,oG 116 (.call ntT_ [.t 115]) 114 true,oA 117 114 116,oM 118 117,qN 119 10 9 118 true,qN 120 3 9 118 true,oG 121 (.call npS_ [.t 119,.t 120]) 118 true,oA 122 118 121,oM 123 122,oG 124 (.call npa_ []) 123 true,oA 125 123 124,oM 2 125]
[2])
.ret))))))))))))⟩
abbrev ppT_:=pcR npT_ cpT_ Tryz.func3
def cp20:AFun:=⟨26,0,[.t 0],
 (.seq (.reg [oV 0 false]
[])
(.seq (.reg [op 4 (.build [.str [],.bool false,.bool false] [(0,1,.k (.str [115]))]),op 5 (.build [.str [],.bool false,.bool false] [(0,1,.k (.str [116]))]),op 6 (.mkrow ta15 3 2 (.agg [.str [],.bool false,.bool false]) [(0,.t 4),(1,.t 5)]),op 7 (.build [.str [],.nils,.nils,.nils,.nils,iv 0,.nils,.nils,.nils] [(0,1,.k (.str [113])),(4,1,.t 6)]),op 8 (.call nt17 [.t 7]),oM 3 8,oE 9 3 0,oE 10 3 1,op 1 (.alloc taQ_ 9 (.agg [.str [],.nils,.nils,.nils,.nils,iv 0,.nils,.nils,.nils])),
⟨none,.store (.t 1) (.t 9) 9,none⟩,oM 2 10]
[1,2])
(.seq (.reg [oM 11 2,oM 12 11,qF 13 1 4 12 true,qL 14 13 12 true,oG 15 (.len false (.t 14)) 12 true,qK 16 .eql 15 1 12 true,oA 17 12 16,oM 18 17,qF 19 1 4 18 true,qL 20 19 18 true,oG 21 (.iaddr 3 (.t 20) (.k (iv 0))) 18 true,qF 22 21 0 18 true,qL 23 22 18 true,oG 24 (.bin .eql (.t 23) (.k (.str [115]))) 18 true,oA 25 18 24,oM 0 25]
[0])
.ret)))⟩
abbrev pp20:=pcR npa_ cp20 Tryz.func5
def cp29:AFun:=⟨47,2,[.t 4],
 (.seq (.reg [op 2 (.box taQ_ 9 (.t 0)),op 4 (.nilrow tb_ 1)]
[1,2])
(.seq (.reg [oF 8 2 4,oL 9 8,oZ 10 9,op 11 (.mks tb_ 1 1 (.bool false) (.t 10) (.t 10)),oM 5 11]
[1,2,5])
(.seq (.reg [oM 12 5,oM 13 1,oI 14 1 12 13,
⟨none,.store (.t 14) (.k (.bool true)) 1,none⟩]
[2,5])
(.seq (.seq (.reg [oC 6 0]
[2,5,6])
(.block 0
(.loop [2,5,6] [2,4,10,11]
 (.seq (.seq (.reg [oM 15 6,oF 16 2 4,oL 17 16,oZ 18 17,oB 19 .lss 15 18]
[2,5,6,19])
(.cond (.t 19)
.skip
(.exit 0)))
(.seq (.block 1
(.seq (.reg [oC 7 0]
[2,5,6,7])
(.block 2
(.loop [2,5,6,7] [2,4,10,11,18]
 (.seq (.seq (.reg [oM 22 7,oF 23 2 8,oL 24 23,oZ 25 24,oB 26 .lss 22 25]
[2,5,6,7,26])
(.cond (.t 26)
.skip
(.exit 2)))
(.seq (.block 3
(.seq (.reg [oM 29 5,oF 30 2 8,oL 31 30,oM 32 7,oI 33 5 31 32,oF 34 33 0,oL 35 34,oI 36 1 29 35,oL 37 36]
[2,5,6,7,37])
(.cond (.t 37)
(.reg [oM 38 5,oF 39 2 8,oL 40 39,oM 41 7,oI 42 5 40 41,oF 43 42 2,oL 44 43,oI 45 1 38 44,
⟨none,.store (.t 45) (.k (.bool true)) 1,none⟩]
[2,5,6,7])
.skip)))
(.reg [oM 27 7,oK 28 .add 27 1,oM 7 28]
[2,5,6,7])))))))
(.reg [oM 20 6,oK 21 .add 20 1,oM 6 21]
[2,5,6]))))))
(.seq (.reg [oM 46 5,oM 4 46]
[4])
.ret)))))⟩
abbrev pp29:=pcR np13 cp29 Tryz.func11
def cpF_:AFun:=⟨49,2,[.t 4],
 (.seq (.reg [op 2 (.box taQ_ 9 (.t 0)),oC 4 0]
[1,2])
(.seq (.reg [oC 5 0]
[1,2,5])
(.seq (.seq (.reg [oC 6 0]
[1,2,5,6])
(.block 0
(.loop [1,2,5,6] [2]
 (.seq (.seq (.reg [oM 8 6,oM 9 1,oB 10 .lss 8 9]
[1,2,5,6,10])
(.cond (.t 10)
.skip
(.exit 0)))
(.seq (.block 1
(.seq (.seq (.reg [oF 13 2 8,oL 14 13,oM 15 6,oI 16 5 14 15,oF 17 16 3,oL 18 17,oK 19 .geq 18 0]
[1,2,5,6,19])
(.cond (.t 19)
(.reg [oF 20 2 8,oL 21 20,oM 22 6,oI 23 5 21 22,oF 24 23 3,oL 25 24,oK 26 .add 25 1,oM 5 26]
[1,2,5,6])
.skip))
(.seq (.reg [oF 27 2 8,oL 28 27,oM 29 6,oI 30 5 28 29,oF 31 30 4,oL 32 31,oZ 33 32,oM 7 33]
[1,2,5,6,7])
(.seq (.reg [oM 34 7,oK 35 .gtr 34 0]
[1,2,5,6,7,35])
(.cond (.t 35)
(.reg [oF 36 2 8,oL 37 36,oM 38 6,oI 39 5 37 38,oF 40 39 4,oL 41 40,oM 42 7,oK 43 .sub 42 1,oI 44 2 41 43,oF 45 44 1,oL 46 45,oK 47 .add 46 1,oM 5 47]
[1,2,5,6])
.skip)))))
(.reg [oM 11 6,oK 12 .add 11 1,oM 6 12]
[1,2,5,6]))))))
(.seq (.reg [oM 48 5,oM 4 48]
[4])
.ret))))⟩
abbrev ppF_:=pcR np27 cpF_ Tryz.func33
def cpe_:AFun:=⟨26,2,[.t 4],
 (.seq (.reg [op 2 (.box taT_ 5 (.t 0)),oC 4 0]
[1,2])
(.seq (.seq (.reg [oF 5 2 4,oL 6 5,oZ 7 6,oK 8 .gtr 7 0]
[1,2,8])
(.cond (.t 8)
(.seq (.reg [oF 9 2 4,oL 10 9,oF 11 2 4,oL 12 11,oZ 13 12,oK 14 .sub 13 1,oI 15 2 10 14,oF 16 15 1,oL 17 16,oK 18 .add 17 1,oM 4 18]
[4])
.ret)
.skip))
(.seq (.seq (.reg [oF 19 2 3,oL 20 19,oK 21 .geq 20 0]
[1,2,21])
(.cond (.t 21)
(.seq (.reg [oF 22 2 3,oL 23 22,oK 24 .add 23 1,oM 4 24]
[4])
.ret)
.skip))
(.seq (.reg [oM 25 1,oM 4 25]
[4])
.ret))))⟩
abbrev ppe_:=pcR npe_ cpe_ Tryz.func34
def cpm_:AFun:=⟨22,2,[.cells 4 7],
 (.seq (.reg [op 2 (.box taN_ 7 (.t 0)),op 4 (.alloc taN_ 7 (.agg [iv 0,iv 0,iv 0,iv 0,iv 0,.str [],.bool false]))]
[1,2,4])
(.seq (.seq (.reg [oF 5 2 0,oL 6 5,oK 7 .gtr 6 3]
[1,2,4,7])
(.cond (.t 7)
(.seq (.reg [oF 8 2 1,oL 9 8,oM 10 1,oB 11 .sub 9 10,oF 12 2 1,
⟨none,.store (.t 12) (.t 11) 1,none⟩]
[1,2,4])
(.seq (.reg [oF 13 2 0,oL 14 13,oK 15 .gtr 14 5]
[1,2,4,15])
(.cond (.t 15)
(.reg [oF 16 2 2,oL 17 16,oM 18 1,oB 19 .sub 17 18,oF 20 2 2,
⟨none,.store (.t 20) (.t 19) 1,none⟩]
[2,4])
.skip)))
.skip))
(.seq (.reg [oN 21 2 7,
⟨none,.store (.t 4) (.t 21) 7,none⟩]
[4])
.ret)))⟩
abbrev ppm_:=pcR npm_ cpm_ Tryz.func35
def cpo_:AFun:=⟨108,1,[.cells 2 9],
 (.seq (.reg [op 1 (.box taQ_ 9 (.t 0)),op 2 (.alloc taQ_ 9 (.agg [.str [],.nils,.nils,.nils,.nils,iv 0,.nils,.nils,.nils]))]
[1,2])
(.seq (.reg [oF 12 1 6,oL 13 12,oZ 14 13,op 15 (.mks tb_ 1 1 (.bool false) (.t 14) (.t 14)),oM 3 15]
[1,2,3])
(.seq (.seq (.reg [oC 4 0]
[1,2,3,4])
(.block 0
(.loop [1,2,3,4] [1,2,14,15]
 (.seq (.seq (.reg [oM 16 4,oF 17 1 8,oL 18 17,oZ 19 18,oB 20 .lss 16 19]
[1,2,3,4,20])
(.cond (.t 20)
.skip
(.exit 0)))
(.seq (.block 1
(.reg [oM 23 3,oF 24 1 8,oL 25 24,oM 26 4,oI 27 5 25 26,oF 28 27 1,oL 29 28,oI 30 1 23 29,
⟨none,.store (.t 30) (.k (.bool true)) 1,none⟩]
[1,2,3,4]))
(.reg [oM 21 4,oK 22 .add 21 1,oM 4 22]
[1,2,3,4]))))))
(.seq (.reg [oF 31 1 6,oL 32 31,oZ 33 32,op 34 (.mks ti_ 1 8 (iv 0) (.t 33) (.t 33)),oM 5 34]
[1,2,3,5])
(.seq (.reg [op 6 (.nilrow taS_ 2)]
[1,2,3,5,6])
(.seq (.seq (.reg [oC 7 0]
[1,2,3,5,6,7])
(.block 2
(.loop [1,2,3,5,6,7] [1,2,14,15,19,33,34,6,59]
 (.seq (.seq (.reg [oM 35 7,oF 36 1 6,oL 37 36,oZ 38 37,oB 39 .lss 35 38]
[1,2,3,5,6,7,39])
(.cond (.t 39)
.skip
(.exit 2)))
(.seq (.block 3
(.seq (.reg [oM 42 3,oM 43 7,oI 44 1 42 43,oL 45 44,oU 46 45]
[1,2,3,5,6,7,46])
(.cond (.t 46)
(.seq (.reg [oM 47 5,oM 48 7,oM 49 6,oZ 50 49,oI 51 1 47 48,
⟨none,.store (.t 51) (.t 50) 1,none⟩]
[1,2,3,5,6,7])
(.reg [oM 52 6,oF 53 1 6,oL 54 53,oM 55 7,oI 56 2 54 55,oN 57 56 2,op 58 (.mkrow taS_ 2 1 (.agg [iv 0,.nils]) [(0,.t 57)]),op 59 (.app taS_ 2 32 (.t 52) (.t 58)),oM 6 59]
[1,2,3,5,6,7]))
.skip)))
(.reg [oM 40 7,oK 41 .add 40 1,oM 7 41]
[1,2,3,5,6,7]))))))
(.seq (.reg [op 8 (.nilrow taT_ 5)]
[1,2,3,5,6,8])
(.seq (.seq (.reg [oC 9 0]
[1,2,3,5,6,8,9])
(.block 4
(.loop [1,2,3,5,6,8,9] [1,2,14,15,19,33,34,6,38,50,58,59,8,93,102]
 (.seq (.seq (.reg [oM 60 9,oF 61 1 8,oL 62 61,oZ 63 62,oB 64 .lss 60 63]
[1,2,3,5,6,8,9,64])
(.cond (.t 64)
.skip
(.exit 4)))
(.seq (.block 5
(.seq (.reg [oF 67 1 8,oL 68 67,oM 69 9,oI 70 5 68 69,oN 71 70 5,op 10 (.alloc taT_ 5 (.agg [iv 0,iv 0,iv 0,iv 0,.nils])),
⟨none,.store (.t 10) (.t 71) 5,none⟩]
[1,2,3,5,6,8,9,10])
(.seq (.reg [oF 72 10 1,oL 73 72,oM 11 73]
[1,2,3,5,6,8,9,10,11])
(.seq (.seq (.reg [oM 74 3,oM 75 11,oI 76 1 74 75,oL 77 76]
[1,2,3,5,6,8,9,10,11,77])
(.cond (.t 77)
(.seq (.reg [oM 78 3,oM 79 11,oI 80 1 78 79,
⟨none,.store (.t 80) (.k (.bool false)) 1,none⟩]
[1,2,3,5,6,8,9,10,11])
(.seq (.reg [oM 81 5,oM 82 11,oM 83 6,oZ 84 83,oI 85 1 81 82,
⟨none,.store (.t 85) (.t 84) 1,none⟩]
[1,2,3,5,6,8,9,10,11])
(.reg [oM 86 6,oF 87 1 6,oL 88 87,oM 89 11,oI 90 2 88 89,oN 91 90 2,op 92 (.mkrow taS_ 2 1 (.agg [iv 0,.nils]) [(0,.t 91)]),op 93 (.app taS_ 2 32 (.t 86) (.t 92)),oM 6 93]
[1,2,3,5,6,8,9,10,11])))
.skip))
(.seq (.reg [oM 94 5,oM 95 11,oI 96 1 94 95,oL 97 96,oF 98 10 1,
⟨none,.store (.t 98) (.t 97) 1,none⟩]
[1,2,3,5,6,8,9,10])
(.reg [oM 99 8,oN 100 10 5,op 101 (.mkrow taT_ 5 1 (.agg [iv 0,iv 0,iv 0,iv 0,.nils]) [(0,.t 100)]),op 102 (.app taT_ 5 56 (.t 99) (.t 101)),oM 8 102]
[1,2,3,5,6,8,9]))))))
(.reg [oM 65 9,oK 66 .add 65 1,oM 9 66]
[1,2,3,5,6,8,9]))))))
(.seq (.reg [oM 103 6,oF 104 1 6,
⟨none,.store (.t 104) (.t 103) 1,none⟩]
[1,2,8])
(.seq (.reg [oM 105 8,oF 106 1 8,
⟨none,.store (.t 106) (.t 105) 1,none⟩]
[1,2])
(.seq (.reg [oN 107 1 9,
⟨none,.store (.t 2) (.t 107) 9,none⟩]
[2])
.ret)))))))))))⟩
abbrev ppo_:=pcR npo_ cpo_ Tryz.func36
def cp12:AFun:=⟨36,1,[.t 2],
 (.seq (.reg [op 1 (.box taQ_ 9 (.t 0)),op 2 (.nilrow ti_ 1)]
[1])
(.seq (.reg [oN 7 1 9,oF 8 1 5,oL 9 8,op 10 (.call np13 [.t 7,.t 9]),oM 3 10]
[1,3])
(.seq (.reg [oF 11 1 4,oL 12 11,oZ 13 12,op 14 (.mks ti_ 1 8 (iv 0) (.t 13) (.t 13)),oM 4 14]
[1,3,4])
(.seq (.reg [oC 5 0]
[1,3,4,5])
(.seq (.seq (.reg [oC 6 0]
[1,3,4,5,6])
(.block 0
(.loop [1,3,4,5,6] [1,2,10,13,14]
 (.seq (.seq (.reg [oM 15 6,oF 16 1 4,oL 17 16,oZ 18 17,oB 19 .lss 15 18]
[1,3,4,5,6,19])
(.cond (.t 19)
.skip
(.exit 0)))
(.seq (.block 1
(.seq (.reg [oM 22 4,oM 23 6,oI 24 1 22 23,
⟨none,.store (.t 24) (.k (iv (-1))) 1,none⟩]
[1,3,4,5,6])
(.seq (.reg [oM 25 3,oM 26 6,oI 27 1 25 26,oL 28 27]
[1,3,4,5,6,28])
(.cond (.t 28)
(.seq (.reg [oM 29 4,oM 30 6,oM 31 5,oI 32 1 29 30,
⟨none,.store (.t 32) (.t 31) 1,none⟩]
[1,3,4,5,6])
(.reg [oM 33 5,oK 34 .add 33 1,oM 5 34]
[1,3,4,5,6]))
.skip))))
(.reg [oM 20 6,oK 21 .add 20 1,oM 6 21]
[1,3,4,5,6]))))))
(.seq (.reg [oM 35 4,oM 2 35]
[2])
.ret))))))⟩
abbrev pp11:=pcR np21 cp12 Tryz.func32
def ctR_:AFun:=⟨41,1,[.t 2],
 (.seq (.reg [op 1 (.box ta14 12 (.t 0)),oV 2 false]
[1])
(.seq (.reg [oF 3 1 0,oN 4 3 3,op 5 (.call ntn_ [.t 4]),oM 6 5,qF 7 1 7 6 true,qN 8 7 3 6 true,oG 9 (.call ntn_ [.t 8]) 6 true,oA 10 6 9,oM 11 10,qF 12 1 3 11 true,qL 13 12 11 true,oG 14 (.call nt22 [.t 13,.f ntR1_]) 11 true,oA 15 11 14,oM 16 15,qF 17 1 4 16 true,qL 18 17 16 true,oG 19 (.call nt20 [.t 18,.f ntR2_]) 16 true,oA 20 16 19,oM 21 20,qF 22 1 5 21 true,qL 23 22 21 true,oG 24 (.call nt21 [.t 23,.f ntR3_]) 21 true,oA 25 21 24,oM 26 25,qF 27 1 6 26 true,qL 28 27 26 true,oG 29 (.call nt19 [.t 28,.f ntR4_]) 26 true,oA 30 26 29,oM 31 30,qF 32 1 10 31 true,qL 33 32 31 true,oG 34 (.call ntaaT_ [.t 33,.f nts_]) 31 true,oA 35 31 34,oM 36 35,qF 37 1 11 36 true,qL 38 37 36 true,oG 39 (.call nt18 [.t 38,.f ntt_]) 36 true,oA 40 36 39,oM 2 40]
[2])
.ret))⟩
abbrev ptR_:=pcR ntR_ ctR_ Tryz.func57
def ctR1_:AFun:=⟨11,1,[.t 2],
 (.seq (.reg [op 1 (.box ta17 4 (.t 0)),oV 2 false]
[1])
(.seq (.reg [oF 3 1 0,oN 4 3 3,op 5 (.call ntn_ [.t 4]),oM 6 5,qF 7 1 3 6 true,qL 8 7 6 true,oG 9 (.call ntai_ [.t 8,.f ntk_]) 6 true,oA 10 6 9,oM 2 10]
[2])
.ret))⟩
abbrev ptR1_:=pcR ntR1_ ctR1_ Tryz.func91
def ctR2_:AFun:=⟨11,1,[.t 2],
 (.seq (.reg [op 1 (.box ta13 5 (.t 0)),oV 2 false]
[1])
(.seq (.reg [oF 3 1 1,oN 4 3 3,op 5 (.call ntn_ [.t 4]),oM 6 5,qF 7 1 4 6 true,qL 8 7 6 true,oG 9 (.call ntk_ [.t 8]) 6 true,oA 10 6 9,oM 2 10]
[2])
.ret))⟩
abbrev ptR2_:=pcR ntR2_ ctR2_ Tryz.func95
def ctR3_:AFun:=⟨11,1,[.t 2],
 (.seq (.reg [op 1 (.box ta16 7 (.t 0)),oV 2 false]
[1])
(.seq (.reg [oF 3 1 0,oN 4 3 3,op 5 (.call ntn_ [.t 4]),oM 6 5,qF 7 1 3 6 true,qN 8 7 4 6 true,oG 9 (.call nvR_ [.t 8]) 6 true,oA 10 6 9,oM 2 10]
[2])
.ret))⟩
abbrev ptR3_:=pcR ntR3_ ctR3_ Tryz.func97
def ctR4_:AFun:=⟨6,1,[.t 2],
 (.seq (.reg [op 1 (.box ta12 5 (.t 0)),oV 2 false]
[1])
(.seq (.reg [oF 3 1 0,oN 4 3 3,op 5 (.call ntn_ [.t 4]),oM 2 5]
[2])
.ret))⟩
abbrev ptR4_:=pcR ntR4_ ctR4_ Tryz.func100
def ctai_:AFun:=⟨9,2,[.t 4],
 (.seq (.reg [op 3 (.box tfib_ 1 (.t 1)),oV 4 false]
[0,3])
(.seq (.reg [oM 5 0,op 6 (.mkfn ntai1_ [.t 3]),op 7 (.call ns25 [.t 5,.t 6]),oU 8 7,oM 4 8]
[4])
.ret))⟩
abbrev ptai_:=pcR ntai_ ctai_ Tryz.func92
def ctai1_:AFun:=⟨8,2,[.t 3],
 (.seq (.reg [oV 3 false]
[0,1])
(.seq (.reg [oL 4 1,oM 5 0,op 6 (.callv (.t 4) [.t 5]),oU 7 6,oM 3 7]
[3])
.ret))⟩
abbrev ptai1_:=pcR ntai1_ ctai1_ Tryz.func174
def ct24:AFun:=⟨9,2,[.t 4],
 (.seq (.reg [op 3 (.box tf16 1 (.t 1)),oV 4 false]
[0,3])
(.seq (.reg [oM 5 0,op 6 (.mkfn nt16 [.t 3]),op 7 (.call ns20 [.t 5,.t 6]),oU 8 7,oM 4 8]
[4])
.ret))⟩
abbrev pt21:=pcR nt24 ct24 Tryz.func185
def ct20:AFun:=⟨8,2,[.t 3],
 (.seq (.reg [op 2 (.box ta18 8 (.t 0)),oV 3 false]
[1,2])
(.seq (.reg [oL 4 1,oN 5 2 8,op 6 (.callv (.t 4) [.t 5]),oU 7 6,oM 3 7]
[3])
.ret))⟩
abbrev pt18:=pcR nt16 ct20 Tryz.func236
def ct22:AFun:=⟨9,2,[.t 4],
 (.seq (.reg [op 3 (.box tf15 1 (.t 1)),oV 4 false]
[0,3])
(.seq (.reg [oM 5 0,op 6 (.mkfn nt15 [.t 3]),op 7 (.call ns14 [.t 5,.t 6]),oU 8 7,oM 4 8]
[4])
.ret))⟩
abbrev pt20:=pcR nt22 ct22 Tryz.func90
def ct15:AFun:=⟨8,2,[.t 3],
 (.seq (.reg [op 2 (.box ta17 4 (.t 0)),oV 3 false]
[1,2])
(.seq (.reg [oL 4 1,oN 5 2 4,op 6 (.callv (.t 4) [.t 5]),oU 7 6,oM 3 7]
[3])
.ret))⟩
abbrev pt14:=pcR nt15 ct15 Tryz.func172
def ct21:AFun:=⟨9,2,[.t 4],
 (.seq (.reg [op 3 (.box tf14 1 (.t 1)),oV 4 false]
[0,3])
(.seq (.reg [oM 5 0,op 6 (.mkfn nt14 [.t 3]),op 7 (.call ns13 [.t 5,.t 6]),oU 8 7,oM 4 8]
[4])
.ret))⟩
abbrev pt19:=pcR nt21 ct21 Tryz.func96
def ct14:AFun:=⟨8,2,[.t 3],
 (.seq (.reg [op 2 (.box ta16 7 (.t 0)),oV 3 false]
[1,2])
(.seq (.reg [oL 4 1,oN 5 2 7,op 6 (.callv (.t 4) [.t 5]),oU 7 6,oM 3 7]
[3])
.ret))⟩
abbrev pt13:=pcR nt14 ct14 Tryz.func178
def ct19:AFun:=⟨9,2,[.t 4],
 (.seq (.reg [op 3 (.box tf13 1 (.t 1)),oV 4 false]
[0,3])
(.seq (.reg [oM 5 0,op 6 (.mkfn nt13 [.t 3]),op 7 (.call ns12 [.t 5,.t 6]),oU 8 7,oM 4 8]
[4])
.ret))⟩
abbrev pt17:=pcR nt20 ct19 Tryz.func94
def ct12:AFun:=⟨8,2,[.t 3],
 (.seq (.reg [op 2 (.box ta13 5 (.t 0)),oV 3 false]
[1,2])
(.seq (.reg [oL 4 1,oN 5 2 5,op 6 (.callv (.t 4) [.t 5]),oU 7 6,oM 3 7]
[3])
.ret))⟩
abbrev pt12:=pcR nt13 ct12 Tryz.func176
