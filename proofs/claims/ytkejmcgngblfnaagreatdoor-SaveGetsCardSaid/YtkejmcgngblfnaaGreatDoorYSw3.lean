/-
  save.Put: the bytes of what a monitor has, or what is wrong. No claim is proved here.
-/
import Derived.Test.YtkejmcgngblfnaaGreatDoorYSw2
namespace Go.Proofs.YtkejmcgngblfnaaGreatDoor.Ab
open Go Go.RowKit
set_option linter.unusedSimpArgs false
set_option maxHeartbeats 4000000
set_option maxRecDepth 100000
variable {G:Nat→Option AV}
def szD (l:List (List Val)):Nat:=(l.flatMap (l10 k_)).length
def szRs (l:List VRow):Nat:=(l.flatMap rowB).length
theorem sc15 (x:List Val) (l:List (List Val)):szD (x::l)=4+szV x+szD l:=by
 simp only[szD,szV,List.flatMap_cons,List.length_append,l10,fl10]
theorem sc13 (x:VRow) (l:List VRow):szRs (x::l)=szR x+szRs l:=by
 simp only[szRs,szR,szS,szC,List.flatMap_cons,List.length_append,rowB,l10,fl10]
 omega
theorem rl11 (w:WS) (r:VRow):(rowW w r).1.length≤w.1.length+szR r:=by
 unfold rowW szR
 have h0:=nl_ w r.1.length
 generalize numW w r.1.length=u at*
 have g1:∀(l:List (Int×Val)) (u:WS),(l.foldl s23 u).1.length≤u.1.length+szS l:=by
  intro l
  induction l with
  | nil=>intro u;simp
  | cons v l ih=>
   intro u
   rw[List.foldl_cons,sc11]
   have:=ih (s23 u v)
   have h1:=nl_ u v.1
   have h2:=vl10 (numW u v.1) v.2
   unfold s23 at*
   omega
 have g2:∀(l:List (Int×List Val)) (u:WS),(l.foldl cfgW u).1.length≤u.1.length+szC l:=by
  intro l
  induction l with
  | nil=>intro u;simp
  | cons v l ih=>
   intro u
   rw[List.foldl_cons,sc12]
   have:=ih (cfgW u v)
   have h1:=nl_ u v.1
   have h2:=vl_ (numW u v.1) v.2
   unfold cfgW at*
   omega
 have h1:=g1 r.1 u
 generalize r.1.foldl s23 u=u1 at*
 have h2:=nl_ u1 r.2.length
 generalize numW u1 r.2.length=u2 at*
 have h3:=g2 r.2 u2
 omega
def SWOk (s:V_):Prop:=s.doms.length≤1000000∧s.rows.length≤1000000∧(∀l∈s.doms,l.length≤1000000∧∀v∈l,WOk v)∧∀r∈s.rows,RWOk r
def p14 (s:V_):Str:=if (s21 s).2=0 then (s21 s).1 else []
theorem vt_ {H:List (Nat×Box)} {x y a b:AV} (h1:view H x=some a) (h2:view H y=some b):view H (.tup [x,y])=some (.tup [a,b]):=by simp [view,view.go,h1,h2]
theorem fa11 {a b c d:Int} {i:Nat} {x:Int} (h:[a,b,c,d][i]? =some x):[iv a,iv b,iv c,iv d][i]? =some (iv x):=by
 have:([a,b,c,d].map iv)[i]? =some (iv x):=by rw[List.getElem?_map,h];rfl
 exact this
theorem sPp_ (s:V_) (hok:SWOk s) (hb:25+szD s.doms+szRs s.rows≤maxB):P_ Tryz.prog G nsP_ [s15 s] (.tup [b_ (p14 s),iv (s21 s).2]):=by
 obtain⟨t,m,d,p,ds,rs⟩:=s
 obtain⟨hd,hr,hod,hor⟩:=hok
 simp only at hd hr hod hor hb
 refine psP_ (Runs.of fun Φ h=>?_)
 unfold csP_
 unfold p14 s21 at h
 simp only at h
 have e4:numW (numW (numW (numW ([81],0) t) m) d) p=[t,m,d,p].foldl numW ([81],0):=rfl
 rw[e4] at h
 repeat' (first|simp -implicitDefEqProofs only[go_sem,s15]|refine ag_ (fun hb=>?_) (fun hb=>?_)|refine⟨fun hb=>?_,fun hb=>?_⟩|fail)
 refine al10 (fun n st=>∃(i:Nat) (u:WS),i+n=4∧st=⟨77,[(1,.ref 1 0 0),(4,.ref 13 0 0),(22,.arr 22 0 4),(23,iv 4),(24,iv i)],[(1,⟨false,taS_,6,[.agg [iv t,iv m,iv d,iv p,.seq 1 (ds.map v_),.seq 2 (rs.map rowE)]]⟩),(2,⟨true,tu_,1,[]⟩),(11,⟨true,tu_,1,u.1.map byV⟩),(13,⟨false,tsw_,2,[.agg [.arr 11 0 u.1.length,iv u.2]]⟩),(22,⟨true,ti_,1,[iv t,iv m,iv d,iv p]⟩)]⟩∧
  ([t,m,d,p].drop i).foldl numW u=[t,m,d,p].foldl numW ([81],0)∧u.1.length≤1+4*i) 4 ⟨0,([81],0),by simp,rfl,rfl,by simp⟩ ?_
 rintro I hI n st ⟨i,u,hi,rfl,hu,hs⟩
 simp -implicitDefEqProofs only[go_sem]
 refine⟨fun hlt=>?_,fun hge=>?_⟩
 ·have hlt':i<[t,m,d,p].length:=by simp only[List.length_cons,List.length_nil];omega
  obtain⟨x,hx,_⟩:=as10 hlt'
  have hw:=ws_ (i:=i) (n:=4) (by omega) (by omega)
  rw[d10 hx,List.foldl_cons] at hu
  have hc:=wnh_ (G:=G) u x (by simp only[maxB];omega)
  have hl:=nl_ u x
  generalize numW u x=u1 at*
  have hnx:=hI (n - 1) _ ⟨i+1,u1,by omega,rfl,hu,by omega⟩
  have ad:∀(H:List (Nat×Box)),hget H 22=some ⟨true,ti_,1,[iv t,iv m,iv d,iv p]⟩→a10 H 1 (.arr 22 0 4) (.int .i64 (i:Int))=some (.ref 22 i 0):=fun H h1=>by
   show (match hget H 22 with | some b=>if b.sz=1∧0≤(i:Int)∧(i:Int)<(4:Nat) then some (AV.ref 22 (0+(i:Int).toNat) 0) else none | none=>none)=_
   rw[h1]
   simp
   omega
  have ge:=fa11 hx
  clear hI hlt'
  simp only[wH,wrB,byB] at hc
  repeat' (first|simp -implicitDefEqProofs only[go_sem,ad,ge,hw,List.length_map]|refine ag_ (fun hb=>?_) (fun hb=>?_)|refine⟨fun hb=>?_,fun hb=>?_⟩|(refine ac_ [(1001,13),(1002,11)] hc rfl ⟨⟨_,_,rfl,rfl,rfl⟩,⟨_,_,rfl,rfl,rfl⟩,trivial⟩ rfl rfl rfl ?_)|fail)
  exact aa_ (n - 1) (by omega) hnx
 ·have hi4:i=4:=by omega
  subst hi4
  have hu:u=[t,m,d,p].foldl numW ([81],0):=hu
  rw[←hu] at h
  clear hu hI e4
  have hn:=wnh_ (G:=G) u ds.length (by simp only[maxB];omega)
  have hnl:=nl_ u ds.length
  generalize numW u ds.length=w2 at*
  simp only[wH,wrB,byB] at hn
  repeat' (first|simp -implicitDefEqProofs only[go_sem,List.length_map]|refine ag_ (fun hb=>?_) (fun hb=>?_)|refine⟨fun hb=>?_,fun hb=>?_⟩|(refine ac_ [(1001,13),(1002,11)] hn rfl ⟨⟨_,_,rfl,rfl,rfl⟩,⟨_,_,rfl,rfl,rfl⟩,trivial⟩ rfl rfl rfl ?_)|fail)
  refine al10 (fun n st=>∃(i:Nat) (u:WS),i+n=ds.length∧st=⟨77,[(1,.ref 1 0 0),(4,.ref 13 0 0),(38,.seq 1 (ds.map v_)),(39,iv ds.length),(40,iv i)],[(1,⟨false,taS_,6,[.agg [iv t,iv m,iv d,iv p,.seq 1 (ds.map v_),.seq 2 (rs.map rowE)]]⟩),(2,⟨true,tu_,1,[]⟩),(11,⟨true,tu_,1,u.1.map byV⟩),(13,⟨false,tsw_,2,[.agg [.arr 11 0 u.1.length,iv u.2]]⟩),(22,⟨true,ti_,1,[iv t,iv m,iv d,iv p]⟩)]⟩∧
   (ds.drop i).foldl v12 u=ds.foldl v12 w2∧u.1.length+szD (ds.drop i)+4+szRs rs≤maxB) ds.length ⟨0,w2,by simp,rfl,rfl,by rw[List.drop_zero];omega⟩ ?_
  rintro I hI n st ⟨i,u,hi,rfl,hu,hs⟩
  simp -implicitDefEqProofs only[go_sem,List.length_map]
  refine⟨fun hlt=>?_,fun hge=>?_⟩
  ·have hlt':i<ds.length:=by omega
   obtain⟨x,hx,hm⟩:=as10 hlt'
   have hw:=ws_ hlt' (by omega)
   obtain⟨o1,o2⟩:=hod x hm
   rw[d10 hx,List.foldl_cons] at hu
   rw[d10 hx,sc15] at hs
   have hc:=wvh_ (G:=G) u x o1 o2 (by omega)
   have hl2:=vl_ u x
   generalize v12 u x=u2 at*
   have hnx:=hI (n - 1) _ ⟨i+1,u2,by omega,rfl,hu,by omega⟩
   clear hI hn
   simp only[wH,wrB,byB] at hc
   repeat' (first|simp -implicitDefEqProofs only[go_sem,am_ hx,v_,hw,List.length_map]|refine ag_ (fun hb=>?_) (fun hb=>?_)|refine⟨fun hb=>?_,fun hb=>?_⟩|(refine ac_ [(1001,13),(1002,11)] hc rfl ⟨⟨_,_,rfl,rfl,rfl⟩,⟨_,_,rfl,rfl,rfl⟩,trivial⟩ rfl rfl rfl ?_)|fail)
   exact aa_ (n - 1) (by omega) hnx
  ·rw[List.drop_eq_nil_of_le (by omega),List.foldl_nil] at hu
   rw[List.drop_eq_nil_of_le (by omega)] at hs
   have hs:u.1.length+4+szRs rs≤maxB:=by have:szD []=0:=rfl;omega
   rw[←hu] at h
   clear hu hI hn hnl
   have hn:=wnh_ (G:=G) u rs.length (by omega)
   have hnl:=nl_ u rs.length
   generalize numW u rs.length=w3 at*
   simp only[wH,wrB,byB] at hn
   repeat' (first|simp -implicitDefEqProofs only[go_sem,List.length_map]|refine ag_ (fun hb=>?_) (fun hb=>?_)|refine⟨fun hb=>?_,fun hb=>?_⟩|(refine ac_ [(1001,13),(1002,11)] hn rfl ⟨⟨_,_,rfl,rfl,rfl⟩,⟨_,_,rfl,rfl,rfl⟩,trivial⟩ rfl rfl rfl ?_)|fail)
   refine al10 (fun n st=>∃(i:Nat) (u:WS),i+n=rs.length∧st=⟨77,[(4,.ref 13 0 0),(54,.seq 2 (rs.map rowE)),(55,iv rs.length),(56,iv i)],[(1,⟨false,taS_,6,[.agg [iv t,iv m,iv d,iv p,.seq 1 (ds.map v_),.seq 2 (rs.map rowE)]]⟩),(2,⟨true,tu_,1,[]⟩),(11,⟨true,tu_,1,u.1.map byV⟩),(13,⟨false,tsw_,2,[.agg [.arr 11 0 u.1.length,iv u.2]]⟩),(22,⟨true,ti_,1,[iv t,iv m,iv d,iv p]⟩)]⟩∧
    (rs.drop i).foldl rowW u=rs.foldl rowW w3∧u.1.length+szRs (rs.drop i)≤maxB) rs.length ⟨0,w3,by simp,rfl,rfl,by rw[List.drop_zero];omega⟩ ?_
   rintro I hI n st ⟨i,u,hi,rfl,hu,hs⟩
   simp -implicitDefEqProofs only[go_sem,List.length_map]
   refine⟨fun hlt=>?_,fun hge=>?_⟩
   ·have hlt':i<rs.length:=by omega
    obtain⟨x,hx,hm⟩:=as10 hlt'
    have hw:=ws_ hlt' (by omega)
    have o1:=hor x hm
    rw[d10 hx,List.foldl_cons] at hu
    rw[d10 hx,sc13] at hs
    have hc:=wrh_ (G:=G) u x o1 (by omega)
    have hl2:=rl11 u x
    generalize rowW u x=u2 at*
    have hnx:=hI (n - 1) _ ⟨i+1,u2,by omega,rfl,hu,by omega⟩
    clear hI hn
    simp only[wH,wrB,byB,rowE] at hc
    repeat' (first|simp -implicitDefEqProofs only[go_sem,am_ hx,rowE,hw,List.length_map]|refine ag_ (fun hb=>?_) (fun hb=>?_)|refine⟨fun hb=>?_,fun hb=>?_⟩|(refine ac_ [(1001,13),(1002,11)] hc rfl ⟨⟨_,_,rfl,rfl,rfl⟩,⟨_,_,rfl,rfl,rfl⟩,trivial⟩ rfl rfl rfl ?_)|fail)
    exact aa_ (n - 1) (by omega) hnx
   ·rw[List.drop_eq_nil_of_le (by omega),List.foldl_nil] at hu
    rw[←hu] at h
    clear hu hI hn hnl
    obtain⟨b,e⟩:=u
    by_cases h0:e=0
    ·subst h0
     repeat' (first|simp -implicitDefEqProofs only[go_sem]|refine ag_ (fun hb=>?_) (fun hb=>?_)|refine⟨fun hb=>?_,fun hb=>?_⟩|fail)
     exact h _ ⟨_,_,rfl,vt_ (vb_ (ty:=tu_) (out:=b) rfl rfl) rfl,fe_ (by rw[if_pos rfl])⟩
    ·have e0:(e != 0)=true:=by simpa using h0
     repeat' (first|simp -implicitDefEqProofs only[go_sem,e0]|refine ag_ (fun hb=>?_) (fun hb=>?_)|refine⟨fun hb=>?_,fun hb=>?_⟩|fail)
     exact h _ ⟨_,_,rfl,vt_ (vb_ (ty:=tu_) (out:=[]) rfl rfl) rfl,fe_ (by rw[if_neg h0])⟩
end Go.Proofs.YtkejmcgngblfnaaGreatDoor.Ab
