/-
  Odd things: slices.Grow, Concat, lint.gather. DERIVED: THE SHELF's CONTRACTS AT THIS DUMP, IN PLAIN WORDS (tools/lay-plain.mjs out of 'TryzHomeShelfF.lean', which tools/lay-shelf.mjs wrote): THE SAME DECLARATIONS UNDER THE SAME NAMES: 'import', 'namespace', 'open', 'def', 'theorem' AND NOTHING ELSE: no command of the shelf's: FOR A HAND-IN. Each laying: the table of numbers ('.._ren') and one theorem, a field a fact of the dump's own or the kernel's comparison; each contract: ONE APPLICATION. No claim is proved here.
-/
import Derived.Test.YtjbcfpkibnhodaaGreatDoorYLi6
import Derived.Shelf.Strings.SplitShaped
import Derived.Lib.AppendZeros
namespace Go.Proofs.YtjbcfpkibnhodaaGreatDoor.Ab
open Go Go.RowKit Go.Lib
set_option linter.unusedSimpArgs false
set_option maxHeartbeats 4000000
set_option maxRecDepth 100000
variable {G:Nat→Option AV}
structure OddT where
 kind:Int
 n:Int
deriving DecidableEq
def oddV (o:OddT):AV:=.agg [iv o.kind,iv o.n]
def o14 (l:List OddT):AV:=.seq 2 (l.map oddV)
def zOdd:Value:=.agg #[.int .i64 0,.int .i64 0]
theorem oi_:(Tryz.prog.info? tlO_).map (fun i=>(i.zero,i.size,i.bytes))=some (some zOdd,2,16):=by kernel_rfl
theorem gn_ (w:World):Calls Tryz.prog 146 #[.slice none 0 0,.int .i64 0] w fun e w'=>e= .returned (.slice none 0 0)∧w'=w:=by
 go_enter Tryz.func146,Tryz.ntmps146
 go_wp2
 go_ret
 exact⟨rfl,rfl⟩
theorem gs10 (n:Nat) (w:World) (hn:0<n) (hbig:n≤1000000):Calls Tryz.prog 146 #[.slice none 0 0,.int .i64 n] w fun e w'=>
  e= .returned (.slice (some ⟨w.heap.size,0,none⟩) 0 (grownCap w n 0 tlO_))∧w'=w.drew.alloc (.cells (Builtin.zeroCells zOdd.cells n++Builtin.zeroCells zOdd.cells (grownCap w n 0 tlO_ - n)) tlO_):=by
 have mixed:Tryz.prog.follows Departure.mixedOrders=true:=by kernel_rfl
 obtain⟨i0,hi0,hz0,hzs,hzb⟩:=info_parts oi_
 obtain⟨ROW,hROW⟩:∃ROW:Array Value,Builtin.zeroCells zOdd.cells n++Builtin.zeroCells zOdd.cells (grownCap w n 0 tlO_ - n)=ROW:=⟨_,rfl⟩
 rw[hROW]
 obtain⟨C,hC⟩:∃C,grownCap w n 0 tlO_=C:=⟨_,rfl⟩
 have hrun:∀ty,(Builtin.append_ #[82,3] ty #[.slice none 0 0,.int .i64 (n:Int)]).run Tryz.prog w= .ok (.slice (some ⟨w.heap.size,0,none⟩) n C) (w.drew.alloc (.cells ROW tlO_)):=fun ty=>by
  rw[←hROW,←hC]
  exact run_append_nil_zeros w 82 3 ty tlO_ i0 zOdd .i64 .i64 Tryz.underlying82 Tryz.underlying3 hi0 hz0 n hn (by omega) (by omega) (by rw[hzb];omega)
 rw[hC]
 have hw1:IntKind.i64.wrap (n:Int)=n:=by rw[IntKind.wrap_i64];omega
 have h1:¬((n:Int)<0):=by omega
 have h2:(0:Int)<(n:Int):=by omega
 clear hROW hC
 go_enter Tryz.func146,Tryz.ntmps146
 go_wp2_with (at_builtin;refine Lib.wpList_append_run _ rfl _ _ _ _ rfl _ _ rfl rfl _ _ (hrun _) ?_)
 go_ret
 exact⟨rfl,rfl⟩
theorem gh_ (n:Nat) (hbig:n≤1000000):H_ Tryz.prog G nsGlOlO_ [.nils,iv n] [] (.arr 1000 0 0) [(1000,⟨true,tlO_,2,[]⟩)]:=by
 intro w F nm vs hg ha hB
 obtain⟨hs,hr⟩:=ha
 obtain⟨vl⟩:=vs
 match vl,hs with
 | [v0,v1],_ =>
  have h0:=hr 0 _ v0 rfl rfl
  have h1:=hr 1 _ v1 rfl rfl
  clear hr
  cases h0
  cases h1
  have hget1:∀i b,hget [(1000,(⟨true,tlO_,2,[]⟩:Box))] i=some b→i=1000∧b=⟨true,tlO_,2,[]⟩:=fun i b hi=>by
   simp only[hget] at hi
   split at hi
   ·rename_i e
    cases hi
    exact⟨e.symm,rfl⟩
   ·cases hi
  by_cases h0:n=0
  ·subst h0
   refine (gn_ w).mono ?_
   rintro e w' ⟨rfl,rfl⟩
   refine⟨_,F,fun _ =>none,rfl,fun _ h=>h,fun _ h=>.inl h,hg.1,.arrN _ _,⟨fun i b hi=>?_,fun i j b c m m' _ _ h1=>(by cases h1),fun i b m _ h1=>(by cases h1)⟩,fun i b hi=>(by simp [hget] at hi),fun k hk=>?_,⟨rfl,rfl,rfl,Nat.le_refl _⟩,fun _ _ _ =>rfl⟩
   ·obtain⟨rfl,rfl⟩:=hget1 i b hi
    exact .inl ⟨rfl,rfl,rfl,by show 0<2;decide⟩
   ·obtain⟨i,b,m,_,h1,_⟩:=hk
    cases h1
  ·refine (gs10 n w (by omega) hbig).mono ?_
   rintro e w' ⟨rfl,rfl⟩
   have hG:=grownCap_ge w n 0 tlO_
   have hGm:=grownCap_le_maxLen w n 0 tlO_ (by unfold maxLen;omega)
   generalize grownCap w n 0 tlO_=C at*
   refine⟨_,F,fun i=>if i=1000 then some ⟨w.heap.size,2,C,tlO_⟩ else none,rfl,fun _ h=>h,fun _ h=>.inl h,fun b hb=>Nat.lt_of_lt_of_le (hg.1 b hb) (by simp),?_,⟨fun i b hi=>?_,fun i j b c m m' hi hj _ _ _ =>?_,fun i b m hi hm=>?_⟩,fun i b hi=>(by simp [hget] at hi),fun k hk=>?_,⟨rfl,rfl,rfl,by simp⟩,fun k hk _ =>Below.heap_alloc w _ k hk⟩
   ·have key:=Rd.arr (w:=w.drew.alloc (.cells (Builtin.zeroCells zOdd.cells n++Builtin.zeroCells zOdd.cells (C - n)) tlO_)) (F:=F) (fun i=>if i=1000 then some (⟨w.heap.size,2,C,tlO_⟩:Nm) else none) 1000 0 0 ⟨w.heap.size,2,C,tlO_⟩ (by simp) (by simp) (.inr rfl)
    simpa using key
   ·obtain⟨rfl,rfl⟩:=hget1 i b hi
    refine .inr ⟨_,by simp;rfl,.inl ⟨rfl,rfl,by show 0<2;decide,Builtin.zeroCells zOdd.cells n++Builtin.zeroCells zOdd.cells (C - n),?_,?_,by simp,hGm,fun e he=>(by cases he),fun k e j c he hc=>(by simp at he)⟩⟩
    ·show (w.heap.push _)[w.heap.size]? =_
     simp
    ·simp [Builtin.zeroCells,zOdd,Value.cells]
     omega
   ·rw[(hget1 i b hi).1,(hget1 j c hj).1]
   ·obtain⟨rfl,rfl⟩:=hget1 i b hi
    simp only[if_true,Option.some.injEq] at hm
    subst hm
    exact fun h=>absurd (hg.1 _ h) (by simp)
   ·obtain⟨i,b,m,hi,hm,rfl⟩:=hk
    obtain⟨rfl,rfl⟩:=hget1 i b hi
    simp only[if_true,Option.some.injEq] at hm
    subst hm
    exact .inl (Nat.le_refl _)
theorem fs14 {L:List (List OddT)} {i:Nat} {x:List OddT} (h:L[i]? =some x):(L.take (i+1)).flatten=(L.take i).flatten++x:=by
 rw[List.take_add_one,h]
 simp
theorem fl_ {L:List (List OddT)} (i:Nat):(L.take i).flatten.length≤L.flatten.length:=by
 have h:L.flatten=(L.take i).flatten++(L.drop i).flatten:=by rw[←List.flatten_append,List.take_append_drop]
 rw[h,List.length_append]
 omega
theorem cp38 (L:List (List OddT)) (hL:L.length≤1000) (hT:L.flatten.length≤100000):P11 Tryz.prog G nsClOlO_ [.seq 1 (L.map o14)] (o14 L.flatten):=by
 refine P11.of_runs (fn:=Tryz.f83) (A:=csClOlO_) Tryz.func83 ksClOlO_ rfl (R10.of fun Φ h=>?_)
 unfold csClOlO_
 simp -implicitDefEqProofs only[go_sem,List.length_map]
 refine al_ (fun n st=>∃i:Nat,i+n=L.length∧st=⟨36,[(0,.seq 1 (L.map o14)),(3,iv (L.take i).flatten.length),(9,.seq 1 (L.map o14)),(10,iv L.length),(11,iv i)],[(2,⟨true,tlO_,2,[]⟩)]⟩) L.length ⟨0,by simp,rfl⟩ ?_
 rintro I hI n st ⟨i,hi,rfl⟩
 by_cases hlt':i<L.length
 ·obtain⟨x,hx,_⟩:=as10 hlt'
  have hw:=ws_ hlt' (by omega)
  have hlt:((i:Int)<(L.length:Int))=True:=by simp;exact hlt'
  have hfs:=fs14 hx
  have hle:=fl_ (L:=L) (i+1)
  rw[hfs,List.length_append] at hle
  have hnx:=hI (n - 1) _ ⟨i+1,by omega,rfl⟩
  rw[hfs,List.length_append] at hnx
  clear hI
  generalize (L.take i).flatten.length=s at*
  have hws:IntKind.i64.wrap ((s:Int)+(x.length:Int))=((s+x.length:Nat):Int):=by rw[wrap_i64 (by omega) (by omega)];omega
  have hn0:(((s+x.length:Nat):Int)<0)=False:=by simp;omega
  repeat' (first|simp -implicitDefEqProofs only[go_sem,hlt,decide_true,am_ hx,o14,List.length_map,hws,hn0,decide_false,hw]|refine ag_ (fun hb=>?_) (fun hb=>?_)|refine⟨fun hb=>?_,fun hb=>?_⟩|fail)
  exact aa_ (n - 1) (by omega) hnx
 ·have hlt:((i:Int)<(L.length:Int))=False:=by simp;omega
  rw[List.take_of_length_le (show L.length≤i by omega)]
  have hgr:=gh_ (G:=G) L.flatten.length (by omega)
  clear hI
  repeat' (first|simp -implicitDefEqProofs only[go_sem,hlt,decide_false,List.length_map]|refine ag_ (fun hb=>?_) (fun hb=>?_)|refine⟨fun hb=>?_,fun hb=>?_⟩|(refine ac11 [(1000,24)] hgr rfl trivial rfl rfl rfl ?_)|fail)
  refine al_ (fun n st=>∃(i:Nat) (m:List OddT),i+n=L.length∧m=(L.take i).flatten∧st=⟨36,[(6,.arr 24 0 m.length),(25,.seq 1 (L.map o14)),(26,iv L.length),(27,iv i)],[(2,⟨true,tlO_,2,[]⟩),(24,⟨true,tlO_,2,m.map oddV⟩)]⟩) L.length ⟨0,[],by simp,by simp,rfl⟩ ?_
  rintro I hI n st ⟨i,m,hi,hm,rfl⟩
  by_cases hlt':i<L.length
  ·obtain⟨x,hx,_⟩:=as10 hlt'
   have hw:=ws_ hlt' (by omega)
   have hlt:((i:Int)<(L.length:Int))=True:=by simp;exact hlt'
   have hfs:=fs14 hx
   have hle:=fl_ (L:=L) (i+1)
   rw[hfs,←hm,List.length_append] at hle
   rw[←hm] at hfs
   have hnx:=hI (n - 1) _ ⟨i+1,m++x,by omega,hfs.symm,rfl⟩
   have hb1:(m.length+x.length)*16≤140737488355328:=by omega
   have hlk:(m.map oddV).length=m.length:=by simp
   have hlx:(x.map oddV).length=x.length:=by simp
   rw[List.length_append,List.map_append] at hnx
   clear hI hfs
   repeat' (first|simp -implicitDefEqProofs only[go_sem,hlt,decide_true,am_ hx,o14,hlk,hlx,hb1,hw]|refine ag_ (fun hb=>?_) (fun hb=>?_)|refine⟨fun hb=>?_,fun hb=>?_⟩|fail)
   exact aa_ (n - 1) (by omega) hnx
  ·have hlt:((i:Int)<(L.length:Int))=False:=by simp;omega
   rw[List.take_of_length_le (show L.length≤i by omega)] at hm
   subst hm
   clear hI
   repeat' (first|simp -implicitDefEqProofs only[go_sem,hlt,decide_false]|refine ag_ (fun hb=>?_) (fun hb=>?_)|refine⟨fun hb=>?_,fun hb=>?_⟩|fail)
   refine h _ ⟨24,_,⟨true,tlO_,2,L.flatten.map oddV⟩,rfl,by simp [hget],rfl,Nat.succ_pos 1,Nat.le_of_eq (List.length_map _).symm,fun e he=>?_,?_⟩
   ·obtain⟨i,_,rfl⟩:=List.mem_map.1 he
    rfl
   ·simp only[o14]
    rw[List.take_of_length_le (Nat.le_of_eq (List.length_map _))]
def g_ (k:Int) (p:Nat→Bool) (n:Nat):List OddT:=((List.range n).filter p).map fun (i:Nat)=>(⟨k,(i:Int)⟩:OddT)
theorem gs_ (k:Int) (p:Nat→Bool) (n:Nat):g_ k p (n+1)=g_ k p n++if p n=true then [⟨k,(n:Int)⟩] else []:=by
 unfold g_
 rw[List.range_succ,List.filter_append,List.map_append]
 cases h:p n <;> simp [h]
theorem gl_ (k:Int) (p:Nat→Bool) (n:Nat):(g_ k p n).length≤n:=by
 unfold g_
 rw[List.length_map]
 have:=List.length_filter_le p (List.range n)
 rw[List.length_range] at this
 exact this
theorem lgaSp_ (k:Int) (f:Nat) (caps:List AV) (hf:b_ Tryz.prog f=true) (hcap:OkC caps) (p:Nat→Bool) (l:List StateT) (hl:l.length≤1000) (hp:∀i,i<l.length→P_ Tryz.prog G f (iv i::caps) (.bool (p i))):
  P11 Tryz.prog G nlgaS_ [iv k,.seq 3 (l.map s22),.fn f caps] (o14 (g_ k p l.length)):=by
 refine P11.of_runs (fn:=Tryz.f84) (A:=clgaS_) Tryz.func84 klgaS_ rfl (R10.of fun Φ h=>?_)
 unfold clgaS_
 simp -implicitDefEqProofs only[go_sem,List.length_map,hcap.purge]
 refine al_ (fun n st=>∃(i:Nat) (m:List OddT),i+n=l.length∧m=g_ k p i∧st=⟨25,[(0,iv k),(2,.fn f caps),(7,.arr 7 0 m.length),(10,iv l.length),(11,iv i)],[(6,⟨true,tlO_,2,[]⟩),(7,⟨true,tlO_,2,m.map oddV⟩)]⟩) l.length ⟨0,[],by simp,rfl,rfl⟩ ?_
 rintro I hI n st ⟨i,m,hi,hm,rfl⟩
 by_cases hlt':i<l.length
 ·have hw:=ws_ hlt' (by omega)
  have hlt:((i:Int)<(l.length:Int))=True:=by simp;exact hlt'
  have hc:=hp i hlt'
  have hs:=gs_ k p i
  have hml:=gl_ k p i
  rw[←hm] at hs hml
  have hb1:(m.length+1)*16≤140737488355328:=by omega
  have hlk:(m.map oddV).length=m.length:=by simp
  generalize p i=z at*
  cases z
  ·rw[if_neg (by simp),List.append_nil] at hs
   have hnx:=hI (n - 1) _ ⟨i+1,m,by omega,hs.symm,rfl⟩
   clear hI hs
   repeat' (first|simp -implicitDefEqProofs only[go_sem,hlt,decide_true,hw,hcap.purge]|refine ag_ (fun hb=>?_) (fun hb=>?_)|refine⟨fun hb=>?_,fun hb=>?_⟩|(refine⟨hf,ac_ hc ?_ rfl ?_⟩;(focus (simp [v10,flat,viewBs,viewB,viewK,viewK.go,hcap.viewBs];done)))|fail)
   exact aa_ (n - 1) (by omega) hnx
  ·rw[if_pos rfl] at hs
   have hnx:=hI (n - 1) _ ⟨i+1,m++[⟨k,(i:Int)⟩],by omega,hs.symm,rfl⟩
   rw[List.length_append,List.map_append,List.length_cons,List.length_nil,Nat.zero_add,List.map_cons,List.map_nil,oddV] at hnx
   clear hI hs
   repeat' (first|simp -implicitDefEqProofs only[go_sem,hlt,decide_true,hw,hlk,hb1,hcap.purge]|refine ag_ (fun hb=>?_) (fun hb=>?_)|refine⟨fun hb=>?_,fun hb=>?_⟩|(refine⟨hf,ac_ hc ?_ rfl ?_⟩;(focus (simp [v10,flat,viewBs,viewB,viewK,viewK.go,hcap.viewBs];done)))|fail)
   exact aa_ (n - 1) (by omega) hnx
 ·have hlt:((i:Int)<(l.length:Int))=False:=by simp;omega
  have hin:i=l.length:=by omega
  subst hin
  rw[←hm] at h
  clear hI hm
  repeat' (first|simp -implicitDefEqProofs only[go_sem,hlt,decide_false]|refine ag_ (fun hb=>?_) (fun hb=>?_)|refine⟨fun hb=>?_,fun hb=>?_⟩|fail)
  refine h _ ⟨7,_,⟨true,tlO_,2,m.map oddV⟩,rfl,by simp [hget],rfl,Nat.succ_pos 1,Nat.le_of_eq (List.length_map _).symm,fun e he=>?_,?_⟩
  ·obtain⟨i,_,rfl⟩:=List.mem_map.1 he
   rfl
  ·simp only[o14]
   rw[List.take_of_length_le (Nat.le_of_eq (List.length_map _))]
theorem lgaFp_ (k:Int) (f:Nat) (caps:List AV) (hf:b_ Tryz.prog f=true) (hcap:OkC caps) (p:Nat→Bool) (l:List FreeT) (hl:l.length≤1000) (hp:∀i,i<l.length→P_ Tryz.prog G f (iv i::caps) (.bool (p i))):
  P11 Tryz.prog G nlgaF_ [iv k,.seq 5 (l.map f11),.fn f caps] (o14 (g_ k p l.length)):=by
 refine P11.of_runs (fn:=Tryz.f89) (A:=clgaF_) Tryz.func89 klgaF_ rfl (R10.of fun Φ h=>?_)
 unfold clgaF_
 simp -implicitDefEqProofs only[go_sem,List.length_map,hcap.purge]
 refine al_ (fun n st=>∃(i:Nat) (m:List OddT),i+n=l.length∧m=g_ k p i∧st=⟨25,[(0,iv k),(2,.fn f caps),(7,.arr 7 0 m.length),(10,iv l.length),(11,iv i)],[(6,⟨true,tlO_,2,[]⟩),(7,⟨true,tlO_,2,m.map oddV⟩)]⟩) l.length ⟨0,[],by simp,rfl,rfl⟩ ?_
 rintro I hI n st ⟨i,m,hi,hm,rfl⟩
 by_cases hlt':i<l.length
 ·have hw:=ws_ hlt' (by omega)
  have hlt:((i:Int)<(l.length:Int))=True:=by simp;exact hlt'
  have hc:=hp i hlt'
  have hs:=gs_ k p i
  have hml:=gl_ k p i
  rw[←hm] at hs hml
  have hb1:(m.length+1)*16≤140737488355328:=by omega
  have hlk:(m.map oddV).length=m.length:=by simp
  generalize p i=z at*
  cases z
  ·rw[if_neg (by simp),List.append_nil] at hs
   have hnx:=hI (n - 1) _ ⟨i+1,m,by omega,hs.symm,rfl⟩
   clear hI hs
   repeat' (first|simp -implicitDefEqProofs only[go_sem,hlt,decide_true,hw,hcap.purge]|refine ag_ (fun hb=>?_) (fun hb=>?_)|refine⟨fun hb=>?_,fun hb=>?_⟩|(refine⟨hf,ac_ hc ?_ rfl ?_⟩;(focus (simp [v10,flat,viewBs,viewB,viewK,viewK.go,hcap.viewBs];done)))|fail)
   exact aa_ (n - 1) (by omega) hnx
  ·rw[if_pos rfl] at hs
   have hnx:=hI (n - 1) _ ⟨i+1,m++[⟨k,(i:Int)⟩],by omega,hs.symm,rfl⟩
   rw[List.length_append,List.map_append,List.length_cons,List.length_nil,Nat.zero_add,List.map_cons,List.map_nil,oddV] at hnx
   clear hI hs
   repeat' (first|simp -implicitDefEqProofs only[go_sem,hlt,decide_true,hw,hlk,hb1,hcap.purge]|refine ag_ (fun hb=>?_) (fun hb=>?_)|refine⟨fun hb=>?_,fun hb=>?_⟩|(refine⟨hf,ac_ hc ?_ rfl ?_⟩;(focus (simp [v10,flat,viewBs,viewB,viewK,viewK.go,hcap.viewBs];done)))|fail)
   exact aa_ (n - 1) (by omega) hnx
 ·have hlt:((i:Int)<(l.length:Int))=False:=by simp;omega
  have hin:i=l.length:=by omega
  subst hin
  rw[←hm] at h
  clear hI hm
  repeat' (first|simp -implicitDefEqProofs only[go_sem,hlt,decide_false]|refine ag_ (fun hb=>?_) (fun hb=>?_)|refine⟨fun hb=>?_,fun hb=>?_⟩|fail)
  refine h _ ⟨7,_,⟨true,tlO_,2,m.map oddV⟩,rfl,by simp [hget],rfl,Nat.succ_pos 1,Nat.le_of_eq (List.length_map _).symm,fun e he=>?_,?_⟩
  ·obtain⟨i,_,rfl⟩:=List.mem_map.1 he
   rfl
  ·simp only[o14]
   rw[List.take_of_length_le (Nat.le_of_eq (List.length_map _))]
theorem lgaTp_ (k:Int) (f:Nat) (caps:List AV) (hf:b_ Tryz.prog f=true) (hcap:OkC caps) (p:Nat→Bool) (l:List TransT) (hl:l.length≤1000) (hp:∀i,i<l.length→P_ Tryz.prog G f (iv i::caps) (.bool (p i))):
  P11 Tryz.prog G nlgaT_ [iv k,.seq 5 (l.map t11),.fn f caps] (o14 (g_ k p l.length)):=by
 refine P11.of_runs (fn:=Tryz.f94) (A:=clgaT_) Tryz.func94 klgaT_ rfl (R10.of fun Φ h=>?_)
 unfold clgaT_
 simp -implicitDefEqProofs only[go_sem,List.length_map,hcap.purge]
 refine al_ (fun n st=>∃(i:Nat) (m:List OddT),i+n=l.length∧m=g_ k p i∧st=⟨25,[(0,iv k),(2,.fn f caps),(7,.arr 7 0 m.length),(10,iv l.length),(11,iv i)],[(6,⟨true,tlO_,2,[]⟩),(7,⟨true,tlO_,2,m.map oddV⟩)]⟩) l.length ⟨0,[],by simp,rfl,rfl⟩ ?_
 rintro I hI n st ⟨i,m,hi,hm,rfl⟩
 by_cases hlt':i<l.length
 ·have hw:=ws_ hlt' (by omega)
  have hlt:((i:Int)<(l.length:Int))=True:=by simp;exact hlt'
  have hc:=hp i hlt'
  have hs:=gs_ k p i
  have hml:=gl_ k p i
  rw[←hm] at hs hml
  have hb1:(m.length+1)*16≤140737488355328:=by omega
  have hlk:(m.map oddV).length=m.length:=by simp
  generalize p i=z at*
  cases z
  ·rw[if_neg (by simp),List.append_nil] at hs
   have hnx:=hI (n - 1) _ ⟨i+1,m,by omega,hs.symm,rfl⟩
   clear hI hs
   repeat' (first|simp -implicitDefEqProofs only[go_sem,hlt,decide_true,hw,hcap.purge]|refine ag_ (fun hb=>?_) (fun hb=>?_)|refine⟨fun hb=>?_,fun hb=>?_⟩|(refine⟨hf,ac_ hc ?_ rfl ?_⟩;(focus (simp [v10,flat,viewBs,viewB,viewK,viewK.go,hcap.viewBs];done)))|fail)
   exact aa_ (n - 1) (by omega) hnx
  ·rw[if_pos rfl] at hs
   have hnx:=hI (n - 1) _ ⟨i+1,m++[⟨k,(i:Int)⟩],by omega,hs.symm,rfl⟩
   rw[List.length_append,List.map_append,List.length_cons,List.length_nil,Nat.zero_add,List.map_cons,List.map_nil,oddV] at hnx
   clear hI hs
   repeat' (first|simp -implicitDefEqProofs only[go_sem,hlt,decide_true,hw,hlk,hb1,hcap.purge]|refine ag_ (fun hb=>?_) (fun hb=>?_)|refine⟨fun hb=>?_,fun hb=>?_⟩|(refine⟨hf,ac_ hc ?_ rfl ?_⟩;(focus (simp [v10,flat,viewBs,viewB,viewK,viewK.go,hcap.viewBs];done)))|fail)
   exact aa_ (n - 1) (by omega) hnx
 ·have hlt:((i:Int)<(l.length:Int))=False:=by simp;omega
  have hin:i=l.length:=by omega
  subst hin
  rw[←hm] at h
  clear hI hm
  repeat' (first|simp -implicitDefEqProofs only[go_sem,hlt,decide_false]|refine ag_ (fun hb=>?_) (fun hb=>?_)|refine⟨fun hb=>?_,fun hb=>?_⟩|fail)
  refine h _ ⟨7,_,⟨true,tlO_,2,m.map oddV⟩,rfl,by simp [hget],rfl,Nat.succ_pos 1,Nat.le_of_eq (List.length_map _).symm,fun e he=>?_,?_⟩
  ·obtain⟨i,_,rfl⟩:=List.mem_map.1 he
   rfl
  ·simp only[o14]
   rw[List.take_of_length_le (Nat.le_of_eq (List.length_map _))]
theorem lgaDp_ (k:Int) (f:Nat) (caps:List AV) (hf:b_ Tryz.prog f=true) (hcap:OkC caps) (p:Nat→Bool) (l:List DeclT) (hl:l.length≤1000) (hp:∀i,i<l.length→P_ Tryz.prog G f (iv i::caps) (.bool (p i))):
  P11 Tryz.prog G nlgaD_ [iv k,.seq 2 (l.map d12),.fn f caps] (o14 (g_ k p l.length)):=by
 refine P11.of_runs (fn:=Tryz.f97) (A:=clgaD_) Tryz.func97 klgaD_ rfl (R10.of fun Φ h=>?_)
 unfold clgaD_
 simp -implicitDefEqProofs only[go_sem,List.length_map,hcap.purge]
 refine al_ (fun n st=>∃(i:Nat) (m:List OddT),i+n=l.length∧m=g_ k p i∧st=⟨25,[(0,iv k),(2,.fn f caps),(7,.arr 7 0 m.length),(10,iv l.length),(11,iv i)],[(6,⟨true,tlO_,2,[]⟩),(7,⟨true,tlO_,2,m.map oddV⟩)]⟩) l.length ⟨0,[],by simp,rfl,rfl⟩ ?_
 rintro I hI n st ⟨i,m,hi,hm,rfl⟩
 by_cases hlt':i<l.length
 ·have hw:=ws_ hlt' (by omega)
  have hlt:((i:Int)<(l.length:Int))=True:=by simp;exact hlt'
  have hc:=hp i hlt'
  have hs:=gs_ k p i
  have hml:=gl_ k p i
  rw[←hm] at hs hml
  have hb1:(m.length+1)*16≤140737488355328:=by omega
  have hlk:(m.map oddV).length=m.length:=by simp
  generalize p i=z at*
  cases z
  ·rw[if_neg (by simp),List.append_nil] at hs
   have hnx:=hI (n - 1) _ ⟨i+1,m,by omega,hs.symm,rfl⟩
   clear hI hs
   repeat' (first|simp -implicitDefEqProofs only[go_sem,hlt,decide_true,hw,hcap.purge]|refine ag_ (fun hb=>?_) (fun hb=>?_)|refine⟨fun hb=>?_,fun hb=>?_⟩|(refine⟨hf,ac_ hc ?_ rfl ?_⟩;(focus (simp [v10,flat,viewBs,viewB,viewK,viewK.go,hcap.viewBs];done)))|fail)
   exact aa_ (n - 1) (by omega) hnx
  ·rw[if_pos rfl] at hs
   have hnx:=hI (n - 1) _ ⟨i+1,m++[⟨k,(i:Int)⟩],by omega,hs.symm,rfl⟩
   rw[List.length_append,List.map_append,List.length_cons,List.length_nil,Nat.zero_add,List.map_cons,List.map_nil,oddV] at hnx
   clear hI hs
   repeat' (first|simp -implicitDefEqProofs only[go_sem,hlt,decide_true,hw,hlk,hb1,hcap.purge]|refine ag_ (fun hb=>?_) (fun hb=>?_)|refine⟨fun hb=>?_,fun hb=>?_⟩|(refine⟨hf,ac_ hc ?_ rfl ?_⟩;(focus (simp [v10,flat,viewBs,viewB,viewK,viewK.go,hcap.viewBs];done)))|fail)
   exact aa_ (n - 1) (by omega) hnx
 ·have hlt:((i:Int)<(l.length:Int))=False:=by simp;omega
  have hin:i=l.length:=by omega
  subst hin
  rw[←hm] at h
  clear hI hm
  repeat' (first|simp -implicitDefEqProofs only[go_sem,hlt,decide_false]|refine ag_ (fun hb=>?_) (fun hb=>?_)|refine⟨fun hb=>?_,fun hb=>?_⟩|fail)
  refine h _ ⟨7,_,⟨true,tlO_,2,m.map oddV⟩,rfl,by simp [hget],rfl,Nat.succ_pos 1,Nat.le_of_eq (List.length_map _).symm,fun e he=>?_,?_⟩
  ·obtain⟨i,_,rfl⟩:=List.mem_map.1 he
   rfl
  ·simp only[o14]
   rw[List.take_of_length_le (Nat.le_of_eq (List.length_map _))]
end Go.Proofs.YtjbcfpkibnhodaaGreatDoor.Ab
namespace Go.Proofs
open Go.Shelf
def Tryz.laysM157_ren:Go.Shelf.Ren:=⟨fun | 157=>110 | 229=>165 | 199=>166 | 261=>232 | 311=>263 | 312=>264 | n=>n,fun | 9=>9 | 31=>115 | 3=>3 | 5=>5 | 4=>4 | 119=>224 | 0=>0 | 40=>226 | 152=>288 | 21=>21 | 154=>290 | 51=>40 | 141=>292 | 196=>329 | 193=>326 | 198=>332 | 49=>330 | 194=>327 | 201=>335 | 226=>369 | 46=>45 | 227=>370 | n=>n,fun | 0=>0 | 6=>1 | n=>n⟩
theorem Tryz.laysM157:Go.Proofs.LaysM.n157 Tryz.prog Tryz.laysM157_ren:={
 mixed:=by kernel_rfl
 f157:=Tryz.func110.trans (congrArg some (by kernel_rfl))
 f199:=Tryz.func166.trans (congrArg some (by kernel_rfl))
 f229:=Tryz.func165.trans (congrArg some (by kernel_rfl))
 f261:=Tryz.func232.trans (congrArg some (by kernel_rfl))
 f311:=Tryz.func263.trans (congrArg some (by kernel_rfl))
 f312:=Tryz.func264.trans (congrArg some (by kernel_rfl))
 t0:=Tryz.underlying0
 a0:=Tryz.isAgg0
 z0:=Tryz.sizeOf0
 v0:=Tryz.zeroValue0
 t3:=Tryz.underlying3
 a3:=Tryz.isAgg3
 z3:=Tryz.sizeOf3
 v3:=Tryz.zeroValue3
 t4:=Tryz.underlying4
 a4:=Tryz.isAgg4
 z4:=Tryz.sizeOf4
 v4:=Tryz.zeroValue4
 t5:=Tryz.underlying5
 a5:=Tryz.isAgg5
 z5:=Tryz.sizeOf5
 v5:=Tryz.zeroValue5
 t9:=Tryz.underlying9
 a9:=Tryz.isAgg9
 z9:=Tryz.sizeOf9
 v9:=Tryz.zeroValue9
 t21:=Tryz.underlying21
 a21:=Tryz.isAgg21
 z21:=Tryz.sizeOf21
 v21:=Tryz.zeroValue21
 t31:=Tryz.underlying115
 a31:=Tryz.isAgg115
 z31:=Tryz.sizeOf115
 v31:=Tryz.zeroValue115
 t40:=Tryz.underlying226
 a40:=Tryz.isAgg226
 z40:=Tryz.sizeOf226
 v40:=Tryz.zeroValue226
 t46:=Tryz.underlying45
 a46:=Tryz.isAgg45
 z46:=Tryz.sizeOf45
 v46:=Tryz.zeroValue45
 t49:=Tryz.underlying330
 a49:=Tryz.isAgg330
 z49:=Tryz.sizeOf330
 v49:=Tryz.zeroValue330
 t51:=Tryz.underlying40
 a51:=Tryz.isAgg40
 z51:=Tryz.sizeOf40
 v51:=Tryz.zeroValue40
 t119:=Tryz.underlying224
 a119:=Tryz.isAgg224
 z119:=Tryz.sizeOf224
 t141:=Tryz.underlying292
 a141:=Tryz.isAgg292
 z141:=Tryz.sizeOf292
 v141:=Tryz.zeroValue292
 t152:=Tryz.underlying288
 a152:=Tryz.isAgg288
 z152:=Tryz.sizeOf288
 v152:=Tryz.zeroValue288
 t154:=Tryz.underlying290
 a154:=Tryz.isAgg290
 z154:=Tryz.sizeOf290
 v154:=Tryz.zeroValue290
 t193:=Tryz.underlying326
 a193:=Tryz.isAgg326
 z193:=Tryz.sizeOf326
 v193:=Tryz.zeroValue326
 t194:=Tryz.underlying327
 a194:=Tryz.isAgg327
 z194:=Tryz.sizeOf327
 v194:=Tryz.zeroValue327
 t196:=Tryz.underlying329
 a196:=Tryz.isAgg329
 z196:=Tryz.sizeOf329
 v196:=Tryz.zeroValue329
 t198:=Tryz.underlying332
 a198:=Tryz.isAgg332
 z198:=Tryz.sizeOf332
 v198:=Tryz.zeroValue332
 t201:=Tryz.underlying335
 a201:=Tryz.isAgg335
 z201:=Tryz.sizeOf335
 v201:=Tryz.zeroValue335
 t226:=Tryz.underlying369
 a226:=Tryz.isAgg369
 z226:=Tryz.sizeOf369
 v226:=Tryz.zeroValue369
 t227:=Tryz.underlying370
 a227:=Tryz.isAgg370
 z227:=Tryz.sizeOf370
 v227:=Tryz.zeroValue370
 g0:=by kernel_rfl
 g6:=by kernel_rfl
 i0:=by kernel_rfl
 i3:=by kernel_rfl
 i4:=by kernel_rfl
 i5:=by kernel_rfl
 i9:=by kernel_rfl
 i21:=by kernel_rfl
 i31:=by kernel_rfl
 i40:=by kernel_rfl
 i46:=by kernel_rfl
 i49:=by kernel_rfl
 i51:=by kernel_rfl
 i141:=by kernel_rfl
 i152:=by kernel_rfl
 i154:=by kernel_rfl
 i193:=by kernel_rfl
 i194:=by kernel_rfl
 i196:=by kernel_rfl
 i198:=by kernel_rfl
 i201:=by kernel_rfl
 i226:=by kernel_rfl
 i227:=by kernel_rfl
 m0:=by kernel_rfl
 m6:=by kernel_rfl}
open Go.RowKit Go.Lib in
theorem Tryz.strings_Fields_laid (s:ByteArray) (w:World) (hs:s.size<4294967281) (hascii:∀(j:Nat) b,s.data.toList[j]? =some b→b.toNat<128) (htab:Lib.TabIs Tryz.prog w "strings.asciiSpace" .u8 Lib.asciiSpaceTab):
  Calls Tryz.prog 110 #[.string s] w fun e w'=>
   e= .returned (.slice (some ⟨w.heap.size,0,none⟩) (Lib.fields s.data.toList).length (Lib.fields s.data.toList).length)∧w'=w.alloc (.cells ((Lib.fields s.data.toList).map fun l=>Value.string ⟨l.toArray⟩).toArray 9):=Any.strings_Fields_laid Tryz.laysM157 s w hs hascii htab
end Go.Proofs
