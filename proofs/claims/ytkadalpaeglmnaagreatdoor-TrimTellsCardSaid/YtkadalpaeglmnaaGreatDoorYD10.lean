/-
  Lemmas. No claim is proved here.
-/
import Derived.Test.YtkadalpaeglmnaaGreatDoorYD8
set_option linter.unusedSimpArgs false
set_option maxHeartbeats 4000000
namespace Go.Proofs.YtkadalpaeglmnaaGreatDoor.Ab
open Go
variable {G:Nat→Option AV}
def bAt (out:List ExT) (n:Int):ExT:=(at? out n).getD e0
def b11 (q:QeaT) (out:List ExT) (i:Nat) (x:NodeT):ExT:=
 if x.op=1 then (if x.a=0∧x.b=0∧x.value.ok=true then ⟨x.value.kind,1,i⟩ else e0)
 else if ¬x.value=v0 then e0
 else if x.op=2 then (if x.b=0 then match at? q.quants x.a with | none=>e0 | some y=>⟨y.type,1,i⟩ else e0)
 else if x.op=3 then (if x.b=0 then match at? q.frees x.a with | none=>e0 | some y=>⟨y.init.kind,1,i⟩ else e0)
 else if x.op<4∨16<x.op then e0
 else if x.op≤5 then (if (bAt out ((i:Int) - 1)).kind=0∨¬x.a=(i:Int) - 1∨¬x.b=0 then e0 else ⟨t44 x.op (bAt out ((i:Int) - 1)).kind (bAt out ((i:Int) - 1)).kind,(bAt out ((i:Int) - 1)).depth+1,(bAt out ((i:Int) - 1)).from_⟩)
 else if (bAt out ((i:Int) - 1)).kind=0∨¬x.b=(i:Int) - 1∨¬x.a=(bAt out ((i:Int) - 1)).from_ - 1 then e0
 else ⟨t44 x.op (bAt out ((bAt out ((i:Int) - 1)).from_ - 1)).kind (bAt out ((i:Int) - 1)).kind,max (bAt out ((i:Int) - 1)).depth (bAt out ((bAt out ((i:Int) - 1)).from_ - 1)).depth+1,(bAt out ((bAt out ((i:Int) - 1)).from_ - 1)).from_⟩
def beL (q:QeaT):Nat→List ExT
 | 0=>[]
 | n+1=>match q.nodes[n]? with
  | some x=>beL q n++[b11 q (beL q n) n x]
  | none=>beL q n
theorem bs10 {q:QeaT} {n:Nat} {x:NodeT} (h:q.nodes[n]? =some x):beL q (n+1)=beL q n++[b11 q (beL q n) n x]:=by rw[beL,h]
theorem bl_ (q:QeaT):∀n,n≤q.nodes.length→(beL q n).length=n
 | 0,_ =>rfl
 | n+1,h=>by obtain⟨x,hx,_⟩:=as10 (l:=q.nodes) (i:=n) (by omega);rw[bs10 hx,zB,bl_ q n (by omega)];rfl
theorem bo11 {out:List ExT} (ho:exOk out) (n:Int):0≤(bAt out n).from_∧((bAt out n).from_≤n∨(bAt out n).from_=0)∧0≤(bAt out n).depth∧((bAt out n).depth≤n+1∨(bAt out n).depth=0)∧(bAt out n).depth≤out.length:=by
 unfold bAt;cases h:at? out n with
 | none=>simp
 | some b=>
  obtain⟨j,rfl,hj⟩:=at?_some h;have:=ho j b hj;have:=(zZ.1 hj).1;simp only[yR];omega
theorem bo10 {q:QeaT} {out:List ExT} {i:Nat} {x:NodeT} (ho:exOk out) (hl:out.length=i):0≤(b11 q out i x).from_∧(b11 q out i x).from_≤i∧0≤(b11 q out i x).depth∧(b11 q out i x).depth≤i+1:=by
 have hz:0≤e0.from_∧e0.from_≤(i:Int)∧0≤e0.depth∧e0.depth≤(i:Int)+1:=by simp;omega
 have h1:=bo11 ho ((i:Int) - 1);have h2:=bo11 ho ((bAt out ((i:Int) - 1)).from_ - 1);unfold b11
 repeat' split
 all_goals first | exact hz | (dsimp only;omega)
theorem bo12 (q:QeaT):∀n,n≤q.nodes.length→exOk (beL q n)
 | 0,_ =>fun j e h=>by simp [beL] at h
 | n+1,h=>by
  obtain⟨x,hx,_⟩:=as10 (l:=q.nodes) (i:=n) (by omega);have hn:=bl_ q n (by omega);rw[bs10 hx];intro j e hj;rw[wM] at hj;split at hj
  ·exact bo12 q n (by omega) j e hj
  ·rename_i hlt;rw[hn] at hj;rw[List.getElem?_cons] at hj;split at hj
   ·cases hj;have:=bo10 (q:=q) (x:=x) (bo12 q n (by omega)) hn;have:j=n:=by omega
    subst this;assumption
   ·simp at hj
theorem bs12 (q:QeaT) {i:Nat} (hi:i≤q.nodes.length):∀d,i+d≤q.nodes.length→∀j:Nat,j<i→(beL q (i+d))[j]? =(beL q i)[j]?
 | 0,_,_,_ =>rfl
 | d+1,h,j,hj=>by obtain⟨x,hx,_⟩:=as10 (l:=q.nodes) (i:=i+d) (by omega);rw[show i+(d+1)=i+d+1 by omega,bs10 hx,xJ (by rw[bl_ q _ (by omega)];omega)];exact bs12 q hi d (by omega) j hj
theorem bs11 (q:QeaT) {i:Nat} (hi:i≤q.nodes.length) {n:Int} (hn:n<i):bAt (beL q q.nodes.length) n=bAt (beL q i) n:=by
 unfold bAt at?;split
 ·rw[show q.nodes.length=i+(q.nodes.length - i) by omega,bs12 q hi _ (by omega) _ (by omega)]
 ·rfl
theorem bh_ (q:QeaT) {i:Nat} {x:NodeT} (hx:q.nodes[i]? =some x):bAt (beL q q.nodes.length) i=b11 q (beL q i) i x:=by have hi:=(zZ.1 hx).1;rw[bs11 q (i:=i+1) (by omega) (by omega),bs10 hx];have:=bl_ q i (by omega);unfold bAt;rw[at?_nat (y:=b11 q (beL q i) i x) (by rw[xV (by omega)];simp [this])];rfl
def ex3 (e:ExT):AV:=.tup [iv e.kind,iv e.depth,iv e.from_]
theorem rbp_ (q:QeaT) (hl:q.nodes.length≤1000000):∀(n:Nat) (i:Int),i<n→PQ G npb_ [qeaV q,iv i] (ex3 (bAt (beL q q.nodes.length) i))
 | 0,i,hi=>by
  refine ppb_ fun Φ h=>?_;unfold cpb_;have hz:bAt (beL q q.nodes.length) i=e0:=by unfold bAt at?;rw[zF (by omega)];rfl
  repeat' (first|simp -implicitDefEqProofs only[go_sem,qeaV,d_,q_,f_,s_,s10,n_,t_,zX]|refine ag_ (fun hb=>?_) (fun hb=>?_)|refine⟨fun hb=>?_,fun hb=>?_⟩|fail)
  all_goals first | exact h _ ⟨_,_,rfl,rfl,fe_ (by rw[hz];rfl)⟩ | (exfalso;simp at*;omega)
 | n+1,i,hi=>by
  have ih:=rbp_ q hl n;cases hx:at? q.nodes i with
  | none=>
   have hi:=at?_none hx;refine ppb_ fun Φ h=>?_;unfold cpb_;have hz:bAt (beL q q.nodes.length) i=e0:=by
    have:=bl_ q q.nodes.length (by omega);unfold bAt at?;split
    ·rw[wF (by omega)];rfl
    ·rfl
   repeat' (first|simp -implicitDefEqProofs only[go_sem,qeaV,d_,q_,f_,s_,s10,n_,t_,zX]|refine ag_ (fun hb=>?_) (fun hb=>?_)|refine⟨fun hb=>?_,fun hb=>?_⟩|fail)
   all_goals first | exact h _ ⟨_,_,rfl,rfl,fe_ (by rw[hz];rfl)⟩ | (exfalso;simp at*;omega)
  | some x=>
   obtain⟨i,rfl,hxi⟩:=at?_some hx;clear hx;have hlt:=(zZ.1 hxi).1;have hex:=bo12 q i (by omega);have hln:=bl_ q i (by omega);have hkb:=bo11 hex ((i:Int) - 1);have hka:=bo11 hex ((bAt (beL q i) ((i:Int) - 1)).from_ - 1);have ihb:=ih ((i:Int) - 1) (by omega);have iha:=ih ((bAt (beL q i) ((i:Int) - 1)).from_ - 1) (by omega);rw[bs11 q (i:=i) (by omega) (by omega)] at ihb;rw[bs11 q (i:=i) (by omega) (by omega)] at iha;have hv:bAt (beL q q.nodes.length) i=b11 q (beL q i) i x:=bh_ q hxi;rw[hv];unfold b11 at hv;rw[b11];generalize bAt (beL q i) ((i:Int) - 1)=b at*;generalize bAt (beL q i) (b.from_ - 1)=a at*;clear hv ih;obtain⟨op,na,mb,⟨vk,vn,vs,vb⟩⟩:=x;have hok:=rRp_ (G:=G) ⟨vk,vn,vs,vb⟩;have hwi:IntKind.i64.wrap ((i:Int) - 1)=(i:Int) - 1:=wi_ (by omega) (by omega);have hwf:IntKind.i64.wrap (b.from_ - 1)=b.from_ - 1:=wi_ (by omega) (by omega);have hwd:IntKind.i64.wrap (b.depth+1)=b.depth+1:=wi_ (by omega) (by omega);have hwm:IntKind.i64.wrap ((if a.depth>b.depth then a.depth else b.depth)+1)=max b.depth a.depth+1:=by rw[wi_ (by split <;> omega) (by split <;> omega)];split <;> omega
   simp only[valV] at hok;simp only[qeaV,d_,q_,f_,s_,s10,n_,t_,ex3] at ihb iha;refine ppb_ fun Φ h=>?_;unfold cpb_;dsimp only at h;generalize hv:(if op=1 then _ else _ :ExT)=v at h;have hvz:=vz_ ⟨vk,vn,vs,vb⟩;dsimp only at hvz;have fin:∀k d f,⟨k,d,f⟩=v→Fit (.tup [iv k,iv d,iv f]) (ex3 v):=fun k d f e=>by subst e;exact .refl _
   have hno:∀w,w=v→w=e0→Fit (ex3 e0) (ex3 v):=fun w e1 e2=>by rw[←e1,e2];exact .refl _
   by_cases h1:op=1
   ·subst h1;rw[zG rfl] at hv
    repeat' (first|simp -implicitDefEqProofs only[go_sem,am_ hxi,n11,qeaV,d_,q_,f_,s_,s10,n_,t_,zX]|refine ag_ (fun hb=>?_) (fun hb=>?_)|refine⟨fun hb=>?_,fun hb=>?_⟩|refine ac_ hok rfl rfl ?_|fail)
    all_goals
     try (exfalso;simp at*;omega)
    all_goals
     refine h _ ⟨_,_,rfl,rfl,fin _ _ _ ?_⟩;rw[←hv];clear hv fin hno h ihb iha hok;simp_all
   rw[zF h1] at hv;by_cases hvv:(⟨vk,vn,vs,vb⟩:Val)=v0
   ·cases hvv;rw[zF (by simp)] at hv;by_cases h2:op=2
    ·subst h2;rw[zG rfl] at hv;cases hq:at? q.quants na with
     | none=>
      rw[hq] at hv;have ha:=at?_none hq
      repeat' (first|simp -implicitDefEqProofs only[go_sem,am_ hxi,n11,qeaV,d_,q_,f_,s_,s10,n_,t_,zX]|refine ag_ (fun hb=>?_) (fun hb=>?_)|refine⟨fun hb=>?_,fun hb=>?_⟩|fail)
      all_goals try (exfalso;simp at*;omega)
      all_goals
       refine h _ ⟨_,_,rfl,rfl,fin _ _ _ ?_⟩;rw[←hv];simp
     | some y=>
      obtain⟨j,rfl,hy⟩:=at?_some hq;have hj:=(zZ.1 hy).1;rw[hq] at hv
      repeat' (first|simp -implicitDefEqProofs only[go_sem,am_ hxi,n11,qeaV,d_,q_,f_,s_,s10,n_,t_,zX,am_ hy,q11]|refine ag_ (fun hb=>?_) (fun hb=>?_)|refine⟨fun hb=>?_,fun hb=>?_⟩|fail)
      all_goals try (exfalso;simp at*;omega)
      all_goals
       refine h _ ⟨_,_,rfl,rfl,fin _ _ _ ?_⟩;rw[←hv];clear hv fin hno h ihb iha hok;simp_all
    rw[zF h2] at hv;by_cases h3:op=3
    ·subst h3;rw[zG rfl] at hv;cases hq:at? q.frees na with
     | none=>
      rw[hq] at hv;have ha:=at?_none hq
      repeat' (first|simp -implicitDefEqProofs only[go_sem,am_ hxi,n11,qeaV,d_,q_,f_,s_,s10,n_,t_,zX]|refine ag_ (fun hb=>?_) (fun hb=>?_)|refine⟨fun hb=>?_,fun hb=>?_⟩|fail)
      all_goals try (exfalso;simp at*;omega)
      all_goals
       refine h _ ⟨_,_,rfl,rfl,fin _ _ _ ?_⟩;rw[←hv];simp
     | some y=>
      obtain⟨j,rfl,hy⟩:=at?_some hq;have hj:=(zZ.1 hy).1;rw[hq] at hv
      repeat' (first|simp -implicitDefEqProofs only[go_sem,am_ hxi,n11,qeaV,d_,q_,f_,s_,s10,n_,t_,zX,am_ hy,f10]|refine ag_ (fun hb=>?_) (fun hb=>?_)|refine⟨fun hb=>?_,fun hb=>?_⟩|fail)
      all_goals try (exfalso;simp at*;omega)
      all_goals
       refine h _ ⟨_,_,rfl,rfl,fin _ _ _ ?_⟩;rw[←hv];clear hv fin hno h ihb iha hok;simp_all
    rw[zF h3] at hv
    repeat' (first|simp -implicitDefEqProofs only[go_sem,am_ hxi,n11,qeaV,d_,q_,f_,s_,s10,n_,t_,zX,hwi,hwf,hwd,hwm]|refine ag_ (fun hb=>?_) (fun hb=>?_)|refine⟨fun hb=>?_,fun hb=>?_⟩|refine ac_ ihb rfl rfl ?_|refine ac_ iha rfl rfl ?_|refine ac_ (rT12 _ _ _) rfl rfl ?_|fail)
    all_goals first | refine h _ ⟨_,_,rfl,rfl,fin _ _ _ ?_⟩ | exfalso
    all_goals
     try rw[←hv]
     clear hv fin hno h ihb iha hok hwi hwf hwd hwm hex hxi hvz;simp only[yQ,vX,vC,zU,zO,zC,xC,tB,tY,sY,tU] at*
     first | omega | (simp [*];done) | (exfalso;omega)
   ·rw[zG hvv] at hv
    repeat' (first|simp -implicitDefEqProofs only[go_sem,am_ hxi,n11,qeaV,d_,q_,f_,s_,s10,n_,t_,zX,hvz,hvv]|refine ag_ (fun hb=>?_) (fun hb=>?_)|refine⟨fun hb=>?_,fun hb=>?_⟩|fail)
    all_goals try (exfalso;simp at*;omega)
    all_goals
     refine h _ ⟨_,_,rfl,rfl,fin _ _ _ hv⟩
def subH (heap:List (Nat×Box)):List (Nat×Box)→Prop
 | []=>True
 | (i,b)::r=>hget heap i=some b∧subH heap r
theorem subH.at {heap:List (Nat×Box)}:∀{H:List (Nat×Box)},subH heap H→∀i b,hget H i=some b→hget heap i=some b
 | [],_,i,b,h=>by simp [hget] at h
 | (j,c)::r,hs,i,b,h=>by
  simp only[hget] at h;split at h
  ·rename_i e;subst e;cases h;exact hs.1
  ·exact hs.2.at i b h
def k16 (q:QeaT) (at_ root:Int):Int×Int:=
 if (bAt (beL q q.nodes.length) root).kind=0∨¬(bAt (beL q q.nodes.length) root).from_=at_ then (0,0) else ((bAt (beL q q.nodes.length) root).kind,(bAt (beL q q.nodes.length) root).depth)
theorem rKp_ (q:QeaT) (hl:q.nodes.length≤1000000) (at_ root:Int):PQ G npK_ [qeaV q,iv at_,iv root] (.tup [iv (k16 q at_ root).1,iv (k16 q at_ root).2]):=by
 have hb:=rbp_ (G:=G) q hl (root.toNat+1) root (by omega);unfold k16;generalize bAt (beL q q.nodes.length) root=b at*;refine ppK_ fun Φ h=>?_;unfold cpK_;simp only[ex3,qeaV,d_,q_,f_,s_,s10,n_,t_] at hb
 repeat' (first|simp -implicitDefEqProofs only[go_sem,qeaV,d_,q_,f_,s_,s10,n_,t_]|refine ag_ (fun hb=>?_) (fun hb=>?_)|refine⟨fun hb=>?_,fun hb=>?_⟩|refine ac_ hb rfl rfl ?_|fail)
 all_goals (refine h _ ⟨_,_,rfl,rfl,fe_ ?_⟩;clear h;simp_all)
def w_ (l:List ExT) (at_ root kind:Int):Bool:=
 match at? l root with
 | none=>false
 | some e=>decide (at_≤root)&&(e.kind==kind&&(!(kind==0)&&(e.from_==at_&&decide (e.depth≤64))))
def a12 (n:Int):Nat×Box:=(1004,⟨false,ti_,1,[iv n]⟩)
def e13 (l:List ExT):Nat×Box:=(1003,⟨false,tSe_,1,[.seq 3 (l.map exV)]⟩)
theorem ct1h_ (l:List ExT) (hl:l.length≤1000000) (at_ root kind:Int) (ha:0≤at_):
  HQ G nct1_ [iv root,iv kind,.ref 1004 0 0,.ref 1003 0 0] [a12 at_,e13 l] (.bool (w_ l at_ root kind)) [a12 (if w_ l at_ root kind=true then root+1 else at_),e13 l]:=by
 refine H_.of_runs Tryz.func143 kct1_ rfl (by rfl) (R_.of fun Φ h=>?_);unfold cct1_;have fin0:w_ l at_ root kind=false→Φ ⟨48,[(6,.bool false)],[a12 at_,e13 l]⟩:=fun hw=>h _ ⟨_,_,Weak.refl _,rfl,fitB hw.symm,fun i b hb=>by rw[hw] at hb;exact hb⟩;have fin1:w_ l at_ root kind=true→Φ ⟨48,[(6,.bool true)],[a12 (root+1),e13 l]⟩:=fun hw=>h _ ⟨_,_,Weak.refl _,rfl,fitB hw.symm,fun i b hb=>by rw[hw] at hb;exact hb⟩;clear h;cases hr:at? l root with
 | none=>
  have hw:w_ l at_ root kind=false:=by simp [w_,hr]
  have hn:=at?_none hr
  repeat' (first|simp -implicitDefEqProofs only[go_sem,a12,e13,zX]|refine ag_ (fun hb=>?_) (fun hb=>?_)|refine⟨fun hb=>?_,fun hb=>?_⟩|fail)
  all_goals first | exact fin0 hw | (exfalso;simp at*;omega)
 | some e=>
  obtain⟨i,rfl,hi⟩:=at?_some hr;have hlt:=(zZ.1 hi).1;have hww:=ws_ hlt (by omega);unfold w_ at fin0 fin1;rw[hr] at fin0 fin1
  repeat' (first|simp -implicitDefEqProofs only[go_sem,a12,e13,zX,am_ hi,exV,hww]|refine ag_ (fun hb=>?_) (fun hb=>?_)|refine⟨fun hb=>?_,fun hb=>?_⟩|fail)
  all_goals first | refine fin0 ?_ | refine fin1 ?_
  all_goals
   clear fin0 fin1 hww
   try rw[yY]
   simp at*
   try omega
def s12 (s:SymT) (v:Int):Bool:=s.args.any fun x=>(⟨2,v,v0⟩:ArgT)==x
theorem cSp_ (s:SymT) (hs:s.args.length<9223372036854775807) (v:Int):PQ G ncS_ [symV s,iv v] (.bool (s12 s v)):=by
 refine pcS_ fun Φ h=>?_;unfold ccS_;have hc:=sCaAaAp_ (G:=G) s.args ⟨2,v,v0⟩ hs;simp only[argV] at hc
 repeat' (first|simp -implicitDefEqProofs only[go_sem,symV,a_]|refine ag_ (fun hb=>?_) (fun hb=>?_)|refine⟨fun hb=>?_,fun hb=>?_⟩|refine ac_ hc rfl rfl ?_|fail)
 all_goals (refine h _ ⟨_,_,rfl,rfl,fe_ ?_⟩;clear h;first | rfl | simp_all [s12])
theorem ct22p_ (q:QeaT) (t:TransT) (s:SymT) (hs:at? q.symbols t.symbol=some s) (hl:s.args.length<9223372036854775807) (i:Int) (x:NodeT):PQ G nct22_ [iv i,n11 x,.eptr (qeaV q) 0,.eptr (t11 t) 0] (.bool (!(x.op==2)||s12 s x.a)):=by
 obtain⟨j,hj,hsj⟩:=at?_some hs;obtain⟨t1,t2,t3,t4,t5⟩:=t;dsimp only at hj;subst hj;refine pct22_ fun Φ h=>?_;unfold cct22_;have hc:=cSp_ (G:=G) s hl x.a;simp only[symV,a_] at hc
 repeat' (first|simp -implicitDefEqProofs only[go_sem,n11,t11,s14,symV,a_,qeaV,d_,q_,f_,s_,s10,n_,t_,am_ hsj]|refine ag_ (fun hb=>?_) (fun hb=>?_)|refine⟨fun hb=>?_,fun hb=>?_⟩|refine ac_ hc rfl rfl ?_|fail)
 all_goals (refine h _ ⟨_,_,rfl,rfl,fe_ ?_⟩;clear h;first | rfl | simp_all)
theorem ct211p_ (x s:SetT):PQ G nct211_ [setV x,.eptr (setV s) 0] (.bool (x.free==s.free)):=by
 refine pct211_ fun Φ h=>?_;unfold cct211_
 repeat' (first|simp -implicitDefEqProofs only[go_sem,setV]|refine ag_ (fun hb=>?_) (fun hb=>?_)|refine⟨fun hb=>?_,fun hb=>?_⟩|fail)
 all_goals (refine h _ ⟨_,_,rfl,rfl,fe_ ?_⟩;clear h;first | rfl | simp_all)
theorem os15 (s:SetT):OkC [.eptr (setV s) 0]:=⟨fun _ =>rfl,fun _ _ =>rfl,fun _ =>rfl,fun _ _ =>rfl,fun _ =>rfl,fun _ =>rfl⟩
