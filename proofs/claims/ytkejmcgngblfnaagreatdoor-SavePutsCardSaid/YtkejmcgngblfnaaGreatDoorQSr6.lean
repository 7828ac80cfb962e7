/-
  Variables that are laid, as the reading of known variables has them. How the arguments of SavePuts and SaveGets are read, and the sentinel. No claim is proved here.
-/
import Derived.Test.YtkejmcgngblfnaaGreatDoorQAbTrod
import Derived.Test.YtkejmcgngblfnaaGreatDoorQSr5
import Derived.Stop.LaidErr
namespace Go.Proofs.YtkejmcgngblfnaaGreatDoor.Ab
open Go Go.RowKit Go.ChangeShapes Go.WideShapes
theorem al12 {P:Program} {W:World} {t e g:Nat} {zs:List AV} {cs:Array Value} (_h0:0<zs.length) (_hone:∀a∈zs,a.cells=[a]) (_ht:P.underlying t=some (.array zs.length e)) (hc:P.cellsOf t=zs.length)
  (hcell:∀i,W.cell? ⟨g,i,none⟩=cs[i]?) (hw:∃t fz,W.heap[g]? =some (.cells cs t fz)) (hsz:cs.toList.length=P.cellsOf t)
  (each:∀(i:Nat) a,zs[i]? =some a→∃v,cs[i]? =some v∧v.oneCell'=true∧Rd W (oldF W) n_ a v):Rd W (oldF W) n_ (.eptr (.agg zs) 0) (.pointer (some ⟨g,0,none⟩))∧W_ W g (.agg zs):=by
 have hg:g<W.heap.size:=by
  obtain⟨_,_,h⟩:=hw
  exact (Array.getElem?_eq_some_iff.1 h).1
 refine⟨?_,?_⟩
 ·have key:=Rd.eptr (w:=W) (F:=oldF W) n_ (.agg zs) 0 g 0 (fun p=>(cs[p]?).getD Go.undef) hg
   (fun p hp=>by
    have hp':p<zs.length:=by simpa [AV.cells] using hp
    obtain⟨v,hv,_⟩:=each p zs[p] (List.getElem?_eq_getElem hp')
    rw[Nat.zero_add,hcell,hv];rfl)
   (fun p hp=>by
    have hp':p<zs.length:=by simpa [AV.cells] using hp
    obtain⟨v,hv,h1,_⟩:=each p zs[p] (List.getElem?_eq_getElem hp')
    rw[hv];exact h1)
   (fun j c hj=>by
    obtain⟨v,hv,_,h2⟩:=each j c (by simpa [AV.cells] using hj)
    rw[hv];exact h2)
  simpa using key
 ·obtain⟨t',fz,h⟩:=hw
  exact⟨cs,t',fz,h,by simpa [AV.cells,hc] using hsz⟩
theorem sl10 {H:Type} {enc:TypeId×Value→H} {P:Program} {W:World} {t e g:Nat} {sp:Nat→Bool} {held:Bool} {l:List (List UInt8)} {cs:Array Value} {fuel:Nat} {p:List MemPlace} (hl:0<l.length)
  (ht:P.underlying t=some (.array l.length e)) (he:P.underlying e=some .string) (hc:P.cellsOf e=1) (hct:P.cellsOf t=l.length) (hcell:∀i,W.cell? ⟨g,i,none⟩=cs[i]?) (hw:∃t fz,W.heap[g]? =some (.cells cs t fz))
  (hd:DataW.trod enc P W 0 sp held fuel t cs.toList=some (.agg (l.map fun s=>.lit (.string s)),p)):Rd W (oldF W) n_ (.eptr (.agg (l.map AV.str)) 0) (.pointer (some ⟨g,0,none⟩))∧W_ W g (.agg (l.map AV.str)):=by
 obtain⟨xs,m,_,hx,hsz,hn,hel⟩:=DataW.trod_array ht hd
 simp only[Prod.mk.injEq,DataW.agg.injEq] at hx
 have each:∀(i:Nat) (s:List UInt8),l[i]? =some s→cs[i]? =some (Value.string ⟨s.toArray⟩):=fun i s hs=>by
  have hi:=(List.getElem?_eq_some_iff.1 hs).1
  have h1:=hel i hi
  rw[hc,Nat.mul_one,List.getElem?_eq_getElem (by omega)] at h1
  obtain⟨b,e1,e2,_⟩:=DataW.trod_string he h1
  have h2:(l.map fun s=>(DataW.lit (Lit.string s):DataW H))[i]? =(xs.map (·.1))[i]? :=by rw[hx.1]
  rw[List.getElem?_map,List.getElem?_map,hs,List.getElem?_eq_getElem (by omega),e2] at h2
  simp only[Option.map_some,Option.some.injEq,DataW.lit.injEq,Lit.string.injEq] at h2
  have h3:(cs.toList.drop i)[0]? =some (.string b):=by
   have:=congrArg (·[0]?) e1
   simpa [List.getElem?_take] using this
  rw[List.getElem?_drop,Nat.add_zero,Array.getElem?_toList] at h3
  rw[h3,h2]
 refine al12 (by simpa using hl) (fun a ha=>?_) (by simpa using ht) (by simpa using hct) hcell hw hsz fun i a ha=>?_
 ·obtain⟨s,_,rfl⟩:=List.mem_map.1 ha
  rfl
 ·rw[List.getElem?_map] at ha
  obtain⟨s,hs,rfl⟩:=Option.map_eq_some_iff.1 ha
  exact⟨_,each i s hs,rfl,Rd.str _ _⟩
theorem vh_ {P:Program} {w:World} {n:String} {g:Nat} {cs:Array Value} (hg:P.globalNamed n=some g) (h:w.var? P n=some cs):∃t fz,w.heap[g]? =some (.cells cs t fz):=by
 simp only[World.var?,hg,Option.bind_some] at h
 split at h
 ·rename_i c t fz hh
  cases h
  exact⟨t,fz,hh⟩
 ·cases h
theorem la_ {P:Program} {W:World}:∀{l:List (String×DataW Unit)} {ps:List MemPlace} (i:Nat) {n:String} {d:DataW Unit},DataW.LaidVars P W l ps→l[i]? =some (n,d)→
  ∃(g t:Nat) (cs:Array Value) (fuel:Nat) (p:List MemPlace),P.globalNamed n=some g∧(P.globals[g]?).map (·.type)=some t∧(∀i,W.cell? ⟨g,i,none⟩=cs[i]?)∧(∃t fz,W.heap[g]? =some (.cells cs t fz))∧DataW.trod (fun _ =>()) P W 0 (fun _ =>true) false fuel t cs.toList=some (d,p)
 | [],_,i,_,_,_,h=>by simp at h
 | (m,e)::r,ps,0,n,d,h,hi=>by
  simp only[List.getElem?_cons_zero,Option.some.injEq,Prod.mk.injEq] at hi
  obtain⟨rfl,rfl⟩:=hi
  obtain⟨g,t,cs,fuel,p,q,hg,ht,hv,hd,_⟩:=h
  exact⟨g,t,cs,fuel,p,hg,ht,fun i=>World.var?_cell hg hv i,vh_ hg hv,hd⟩
 | (m,e)::r,ps,i+1,n,d,h,hi=>by
  obtain⟨_,_,_,_,_,q,_,_,_,_,h,_⟩:=h
  exact la_ i h (by simpa using hi)
theorem la12 {P:Program} {W:World} {l:List (String×DataW Unit)} (i:Nat) {n:String} {d:DataW Unit} (h:laidMet P l W) (hi:l[i]? =some (n,d)):
  ∃(g t:Nat) (cs:Array Value) (fuel:Nat) (p:List MemPlace),P.globalNamed n=some g∧(P.globals[g]?).map (·.type)=some t∧(∀i,W.cell? ⟨g,i,none⟩=cs[i]?)∧(∃t fz,W.heap[g]? =some (.cells cs t fz))∧DataW.trod (fun _ =>()) P W 0 (fun _ =>true) false fuel t cs.toList=some (d,p):=by
 obtain⟨ps,h,_⟩:=h
 exact la_ i h hi
theorem P_.calls_trueG {P:Program} {G:Nat→Option AV} {f:Nat} {args:List AV} (h:P_ P G f args (.bool true)) {w:World} {F:Nat→Prop} {vs:Array Value} (hg:Good w F G) (ha:A10 w F args vs):
  Calls P f vs w fun e w'=>e= .returned (.bool true)∧Below w.heap.size w w':=by
 refine (h w F vs hg ha).mono ?_
 rintro e w' ⟨v,F',rfl,_,_,_,hr,hb⟩
 cases hr
 exact⟨rfl,hb⟩
end Go.Proofs.YtkejmcgngblfnaaGreatDoor.Ab
namespace Go.Proofs.YtkejmcgngblfnaaGreatDoor.Ab
open Go Go.ChangeShapes Go.WideShapes Go.RowKit
set_option linter.unusedSimpArgs false
set_option maxRecDepth 100000
theorem iw_ {n:Int} (h:(Lit.int .i64 n).wf=true):i64 n:=by
 simp [Lit.wf,IntKind.min,IntKind.max,IntKind.signed,IntKind.bits] at h
 exact⟨h.1,by omega⟩
theorem r18 {t:Nat} (ht:Tryz.prog.underlying t=some (.int .i64)) (hs:Tryz.prog.cellsOf t=1):RdT Tryz.prog t 1 fun cs=>∃n:Int,cs=[iv n]:=
 (ri_ ht hs).mono (by rintro _ ⟨n,rfl,_⟩;exact⟨n,rfl⟩)
theorem rl10 {α:Type} {f:α→AV} {Q:α→Prop} {t e sz:Nat} (ht:Tryz.prog.underlying t=some (.slice e)) (hs:Tryz.prog.cellsOf t=1) (h:RdT Tryz.prog e sz fun cs=>∃a:α,.agg cs=f a∧Q a) (h0:0<sz):
  RdT Tryz.prog t 1 fun cs=>∃l:List α,cs=[.seq sz (l.map f)]∧∀a∈l,Q a:=
 (rs15 true ht hs h h0 (by intro h;cases h)).mono (by
  rintro _ ⟨es,rfl,hl,h⟩
  obtain⟨l,rfl,hq⟩:=lo_ (f:=f) (Q:=Q) (fun x hx=>by obtain⟨_,⟨o,e,q⟩,rfl⟩:=h x hx;exact⟨o,e,q⟩)
  exact⟨l,rfl,hq⟩)
theorem r25:RdT Tryz.prog 69 4 fun cs=>∃v:Val,cs=[iv v.kind,iv v.int,.str v.str,.bool v.bool]∧i64 v.int:=
 (rs12 (t:=69) (fs:=(Tryz.prog.fieldsOf 69)) (by kernel_rfl) (by kernel_rfl) (rc_ (f:=(Tryz.prog.fieldsOf 69)[0]!) (r18 (by kernel_rfl) (by kernel_rfl)) (by kernel_rfl) rfl (rc_ (f:=(Tryz.prog.fieldsOf 69)[1]!) (ri_ (by kernel_rfl) (by kernel_rfl)) (by kernel_rfl) rfl (rc_ (f:=(Tryz.prog.fieldsOf 69)[2]!) (rs19 (by kernel_rfl) (by kernel_rfl)) (by kernel_rfl) rfl (rc_ (f:=(Tryz.prog.fieldsOf 69)[3]!) (rb10 (by kernel_rfl) (by kernel_rfl)) (by kernel_rfl) rfl (rn_ _)))))).mono (by
  rintro _ ⟨_,_,rfl,⟨a,rfl⟩,_,_,rfl,⟨b,rfl,hb⟩,_,_,rfl,⟨c,rfl,_⟩,_,_,rfl,⟨d,rfl⟩,rfl⟩
  exact⟨⟨a,b,c,d⟩,rfl,iw_ hb⟩)
theorem r21:RdT Tryz.prog 69 4 fun cs=>∃v:Val,.agg cs=valV v∧i64 v.int:=r25.mono (by
 rintro _ ⟨v,rfl,h⟩
 exact⟨v,rfl,h⟩)
theorem r19:RdT Tryz.prog 62 1 fun cs=>∃l:List Val,cs=[v_ l]∧∀v∈l,i64 v.int:=
 (rl10 (t:=62) (by kernel_rfl) (by kernel_rfl) r21 (by decide)).mono (by
  rintro _ ⟨l,rfl,h⟩
  exact⟨l,rfl,h⟩)
theorem r24:RdT Tryz.prog 23 1 fun cs=>∃l:List (List Val),cs=[.seq 1 (l.map v_)]∧∀x∈l,∀v∈x,i64 v.int:=
 (rs15 false (t:=23) (by kernel_rfl) (by kernel_rfl) r19 (by decide) (by rintro _ _ ⟨l,rfl,_⟩;exact⟨_,rfl,rfl⟩)).mono (by
  rintro _ ⟨es,rfl,hl,h⟩
  obtain⟨l,rfl,hq⟩:=lo_ (f:=v_) (Q:=fun x=>∀v∈x,i64 v.int) (fun x hx=>by obtain⟨_,⟨o,rfl,q⟩,rfl⟩:=h x hx;exact⟨o,rfl,q⟩)
  exact⟨l,rfl,hq⟩)
theorem r23:RdT Tryz.prog 71 5 fun cs=>∃a:Int×Val,.agg cs=s12 a∧i64 a.2.int:=
 (rs12 (t:=71) (fs:=(Tryz.prog.fieldsOf 71)) (by kernel_rfl) (by kernel_rfl) (rc_ (f:=(Tryz.prog.fieldsOf 71)[0]!) (r18 (by kernel_rfl) (by kernel_rfl)) (by kernel_rfl) rfl (rc_ (f:=(Tryz.prog.fieldsOf 71)[1]!) r25 (by kernel_rfl) rfl (rn_ _)))).mono (by
  rintro _ ⟨_,_,rfl,⟨a,rfl⟩,_,_,rfl,⟨v,rfl,hv⟩,rfl⟩
  exact⟨(a,v),rfl,hv⟩)
theorem r28:RdT Tryz.prog 73 2 fun cs=>∃c:Int×List Val,.agg cs=cfgE c∧∀v∈c.2,i64 v.int:=
 (rs12 (t:=73) (fs:=(Tryz.prog.fieldsOf 73)) (by kernel_rfl) (by kernel_rfl) (rc_ (f:=(Tryz.prog.fieldsOf 73)[0]!) (r18 (by kernel_rfl) (by kernel_rfl)) (by kernel_rfl) rfl (rc_ (f:=(Tryz.prog.fieldsOf 73)[1]!) r19 (by kernel_rfl) rfl (rn_ _)))).mono (by
  rintro _ ⟨_,_,rfl,⟨a,rfl⟩,_,_,rfl,⟨l,rfl,hl⟩,rfl⟩
  exact⟨(a,l),rfl,hl⟩)
def rowI (r:VRow):Prop:=(∀x∈r.1,i64 x.2.int)∧∀c∈r.2,∀v∈c.2,i64 v.int
theorem r27:RdT Tryz.prog 67 2 fun cs=>∃r:VRow,.agg cs=rowE r∧rowI r:=
 (rs12 (t:=67) (fs:=(Tryz.prog.fieldsOf 67)) (by kernel_rfl) (by kernel_rfl) (rc_ (f:=(Tryz.prog.fieldsOf 67)[0]!) (rl10 (t:=64) (by kernel_rfl) (by kernel_rfl) r23 (by decide)) (by kernel_rfl) rfl (rc_ (f:=(Tryz.prog.fieldsOf 67)[1]!) (rl10 (t:=65) (by kernel_rfl) (by kernel_rfl) r28 (by decide)) (by kernel_rfl) rfl (rn_ _)))).mono (by
  rintro _ ⟨_,_,rfl,⟨a,rfl,ha⟩,_,_,rfl,⟨c,rfl,hc⟩,rfl⟩
  exact⟨(a,c),rfl,ha,hc⟩)
theorem r22:RdT Tryz.prog 26 6 fun cs=>∃s:{s:V_ // i16 s},.agg cs=s14 s.1:=
 (rs12 (t:=26) (fs:=(Tryz.prog.fieldsOf 26)) (by kernel_rfl) (by kernel_rfl) (rc_ (f:=(Tryz.prog.fieldsOf 26)[0]!) (r18 (by kernel_rfl) (by kernel_rfl)) (by kernel_rfl) rfl (rc_ (f:=(Tryz.prog.fieldsOf 26)[1]!) (r18 (by kernel_rfl) (by kernel_rfl)) (by kernel_rfl) rfl (rc_ (f:=(Tryz.prog.fieldsOf 26)[2]!) (r18 (by kernel_rfl) (by kernel_rfl)) (by kernel_rfl) rfl (rc_ (f:=(Tryz.prog.fieldsOf 26)[3]!) (r18 (by kernel_rfl) (by kernel_rfl)) (by kernel_rfl) rfl (rc_ (f:=(Tryz.prog.fieldsOf 26)[4]!) r24 (by kernel_rfl) rfl (rc_ (f:=(Tryz.prog.fieldsOf 26)[5]!) (rl10 (t:=24) (by kernel_rfl) (by kernel_rfl) r27 (by decide)) (by kernel_rfl) rfl (rn_ _)))))))).mono (by
  rintro _ ⟨_,_,rfl,⟨a,rfl⟩,_,_,rfl,⟨b,rfl⟩,_,_,rfl,⟨c,rfl⟩,_,_,rfl,⟨d,rfl⟩,_,_,rfl,⟨ds,rfl,hd⟩,_,_,rfl,⟨rs,rfl,hr⟩,rfl⟩
  exact⟨⟨⟨a,b,c,d,ds,rs⟩,hd,hr⟩,rfl⟩)
theorem sn10 {W:World} {a:Addr} {v:Value} (h:W.cell? a=some v):a.spot=none:=by
 unfold World.cell? at h
 split at h
 ·split at h
  ·cases h
  ·rename_i hs
   simpa using hs
 ·cases h
theorem ea10 {W:World} {a:Addr} (h:W.var? Tryz.prog "proctor/save.errShort" =some #[.iface tP (.pointer (some a))]) (hs:a.spot=none):Rd W (oldF W) n_ (.eptr (errA (a.block,a.off)) 0) (.pointer (some ⟨0,0,none⟩))∧W_ W 0 (errA (a.block,a.off)):=by
 have hg:Tryz.prog.globalNamed "proctor/save.errShort" =some 0:=by kernel_rfl
 obtain⟨ab,ao,sp⟩:=a
 simp only at hs
 subst hs
 simp only[World.var?,hg,Option.bind_some] at h
 split at h
 ·rename_i cs t fz hb
  simp only[Option.some.injEq] at h
  subst h
  refine⟨?_,_,t,fz,hb,rfl⟩
  have key:=Rd.eptr (w:=W) (F:=oldF W) n_ (errA (ab,ao)) 0 0 0 (fun _ =>.iface tP (.pointer (some ⟨ab,ao,none⟩))) (Array.getElem?_eq_some_iff.1 hb).1
   (fun p hp=>by
    have:p=0:=by simp [AV.cells,errA] at hp;omega
    subst this
    simp [World.cell?,hb])
   (fun p hp=>rfl)
   (fun j c hj=>by
    match j,hj with
    | 0,hj=>cases hj;exact .iface _ _ _ _ (.rawp _ _ _))
  simpa using key
 ·cases h
theorem e13 (u:Nat) (h:Tryz.prog.typeName? 3 u=some "*errors.errorString"):u=tP:=
 typeName_ptr_named (nm:= "errors.errorString") (by rw[show "*" ++ "errors.errorString" = "*errors.errorString" by decide];kernel_rfl) (by kernel_rfl) (by decide) u (by rw[show "*" ++ "errors.errorString" = "*errors.errorString" by decide];exact h)
end Go.Proofs.YtkejmcgngblfnaaGreatDoor.Ab
