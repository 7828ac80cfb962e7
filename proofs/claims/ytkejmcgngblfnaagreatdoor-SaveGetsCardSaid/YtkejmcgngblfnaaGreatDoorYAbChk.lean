/-
  Whether an operation of the model's code is the one that an abstract one says: reckoned by the kernel. No claim is proved here.
-/
import Derived.Stop.IfaceNil
import Derived.Test.YtkejmcgngblfnaaGreatDoorYAbHeap2
namespace Go.Proofs.YtkejmcgngblfnaaGreatDoor.Ab
open Go Go.RowKit
def repV:AV→Value→Bool
 | .bool a,.bool b=>a==b
 | .int k a,.int k' b=>decide (k=k')&&a==b
 | .str s,.string b=>s==b.data.toList
 | .agg cs,.agg us=>go cs us.toList
 | .nils,.slice a n c=>a.isNone&&n==0&&c==0
 | .nilp,.pointer a=>a.isNone
 | .nilfn,.nilFunc=>true
 | .nili,.nilIface=>true
 | .nilm,.map a=>a.isNone
 | _,_ =>false
where
 go:List AV→List Value→Bool
 | [],[]=>true
 | c::cs,u::us=>repV c u&&go cs us
 | _,_ =>false
theorem rr_ {w:World} {F:Nat→Prop} {nm:N_}:∀{c:AV} {v:Value},repV c v=true→Rd w F nm c v:=by
 suffices h:∀(n:Nat) (c:AV),SizeOf.sizeOf c<n→∀{v:Value},repV c v=true→Rd w F nm c v from fun {c _} hv=>h (SizeOf.sizeOf c+1) c (by omega) hv
 intro n
 induction n with
 | zero=>intro c h;omega
 | succ n ih=>
  intro c hs v h
  cases c <;> cases v <;> simp only[repV,Bool.and_eq_true,decide_eq_true_eq,beq_iff_eq,Bool.false_eq_true] at h
  case bool.bool=>subst h;exact .bool _ _
  case int.int=>obtain⟨rfl,rfl⟩:=h;exact .int _ _ _
  case str.string s b=>subst h;exact .str _ _
  case agg.agg cs us=>
   have go:∀(cs:List AV) (us:List Value),SizeOf.sizeOf cs<n+1→repV.go cs us=true→cs.length=us.length∧∀(j:Nat) c u,cs[j]? =some c→us[j]? =some u→Rd w F nm c u:=by
    intro cs
    induction cs with
    | nil=>intro us _ h;cases us with
     | nil=>simp
     | cons u us=>simp [repV.go] at h
    | cons x xs ihx=>
     intro us hs h
     cases us with
     | nil=>simp [repV.go] at h
     | cons u us=>
      simp only[repV.go,Bool.and_eq_true] at h
      simp at hs
      obtain⟨h1,h2⟩:=ihx us (by omega) h.2
      refine⟨by simp [h1],fun j c u' hc hu=>?_⟩
      cases j with
      | zero=>simp at hc hu;subst hc;subst hu;exact ih x (by omega) h.1
      | succ j=>simp at hc hu;exact h2 j c u' hc hu
   obtain⟨h1,h2⟩:=go cs us.toList (by simp at hs;omega) h
   exact .agg _ _ _ h1 h2
  case nils.slice a n c=>
   obtain⟨⟨h1,rfl⟩,rfl⟩:=h
   cases a with
   | none=>exact .nils _
   | some a=>simp at h1
  case nilp.pointer a=>
   cases a with
   | none=>exact .nilp _
   | some a=>simp at h
  case nilfn.nilFunc=>exact .nilfn _
  case nili.nilIface=>exact .nili _
  case nilm.map a=>
   cases a with
   | none=>exact .nilm _
   | some a=>simp at h
def c_:Operand→Opd→Bool
 | .tmp t,.t n=>t==n
 | .const v,.k c=>repV c v
 | .func f,.f n=>f==n&&decide (n<fnB)
 | .global g,.g n=>g==n
 | _,_ =>false
def c13:List Operand→List Opd→Bool
 | [],[]=>true
 | x::xs,y::ys=>c_ x y&&c13 xs ys
 | _,_ =>false
def c18:Option Operand→Option Opd→Bool
 | none,none=>true
 | some x,some y=>c_ x y
 | _,_ =>false
section
variable {P:Program} {G:Nat→Option AV} {C:Ctx} {nm:N_} {F:Nat→Prop} {st:St} {a:Act} {w:World}
theorem RelX.opd (h:RelX G C nm F st a w) {x:Operand} {y:Opd} (hx:c_ x y=true):Rd w F nm (st.ev G y) (a.eval x):=by
 refine h.ev ?_
 cases x <;> cases y <;> simp only[c_,beq_iff_eq,Bool.false_eq_true,Bool.and_eq_true,decide_eq_true_eq] at hx ⊢
 ·exact hx
 ·exact fun w F nm=>rr_ hx
 ·exact hx
 ·exact hx
theorem RelX.opds (h:RelX G C nm F st a w) {xs:List Operand} {ys:List Opd} (hx:c13 xs ys=true):
  (evs G st ys).length=(xs.map a.eval).length∧∀(j:Nat) c u,(evs G st ys)[j]? =some c→(xs.map a.eval)[j]? =some u→Rd w F nm c u:=by
 induction xs generalizing ys with
 | nil=>cases ys with
  | nil=>simp [evs]
  | cons y ys=>simp [c13] at hx
 | cons x xs ih=>
  cases ys with
  | nil=>simp [c13] at hx
  | cons y ys=>
   simp only[c13,Bool.and_eq_true] at hx
   obtain⟨h1,h2⟩:=ih hx.2
   refine⟨by simp [evs,h1],fun j c u hc hu=>?_⟩
   cases j with
   | zero=>simp [evs] at hc hu;subst hc;subst hu;exact h.opd hx.1
   | succ j=>simp [evs] at hc hu;exact h2 j c u hc (by simpa using hu)
end
def i10 (P:Program) (t:Nat):Bool:=match P.underlying t with
 | some (.struct _) | some (.array ..) | none=>false
 | _ =>true
def i_ (P:Program) (t:Nat):Bool:=match P.underlying t with
 | some (.struct _) | some (.array ..)=>true
 | _ =>false
def szIs (P:Program) (t n:Nat):Bool:=match P.info? t with | some i=>i.size==n | none=>false
def z_ (P:Program) (t:Nat) (z:AV):Bool:=match P.info? t with
 | some i=>match i.zero with | some v=>repV z v | none=>false
 | none=>false
def b12 (P:Program) (t n:Nat):Bool:=match P.info? t with | some i=>i.bytes==n | none=>false
def s14 (P:Program) (t:Nat) (e:Nat):Bool:=match P.underlying t with | some (.slice x)=>x==e | _ =>false
def c15 (place:Nat→Option (Nat×Nat)):List (Nat×Operand)→List (Nat×Nat×Opd)→Bool
 | [],[]=>true
 | (i,x)::xs,(off,n,y)::ys=>(match place i with | some (f,m)=>f==off&&m==n | none=>false)&&c_ x y&&c15 place xs ys
 | _,_ =>false
def c17 (P:Program) (t:Nat) (zs:List AV) (ps:List (Nat×Operand)) (qs:List (Nat×Nat×Opd)):Bool:=
 match P.info? t,P.underlying t with
 | some it,some (.array _ e)=>match it.zero,P.info? e with
  | some z,some ie=>repV (.agg zs) z&&c15 (fun i=>some (i*ie.size,ie.size)) ps qs
  | _,_ =>false
 | some it,some (.struct fields)=>match it.zero,fields.toList.mapM (fun f=>(P.info? f.type).map fun i=>(f.offset,i.size)) with
  | some z,some places=>repV (.agg zs) z&&c15 (places.toArray[·]?) ps qs
  | _,_ =>false
 | _,_ =>false
def c16:List (Nat×Operand)→List (Nat×Opd)→Bool
 | [],[]=>true
 | (i,x)::xs,(j,y)::ys=>i==j&&c_ x y&&c16 xs ys
 | _,_ =>false
def k13 (P:Program) (rec:Nat→Option (List Nat)):List Field→Nat→Option (List Nat)
 | [],_ =>some []
 | f::fs,off=>if f.name≠ "_" ∧f.offset=off then match rec f.type with
    | some k=>if szIs P f.type k.length then (k13 P rec fs (off+k.length)).map (k++·) else none
    | none=>none
  else none
def k10 (P:Program):Nat→Nat→Option (List Nat)
 | 0,_ =>none
 | d+1,t=>match P.underlying t with
  | some (.int _)=>some [0]
  | some .string=>some [1]
  | some .bool=>some [2]
  | some (.struct fs)=>if P.stoodInHeld t then none else k13 P (k10 P d) fs.toList 0
  | _ =>none
def b10 (P:Program) (f:Nat):Bool:=decide (f<fnB)&&match P.funcs[f]? with | some fn=>fn.body.isSome&& !(fn.name== "runtime.NumGoroutine") | none=>false
def c10 (P:Program) (o:Op) (c:AOp):Bool:=
 match o,c with
 | .move x,.mov y | .assign x,.mov y=>c_ x y
 | .move (.const (.slice none 0 0)),.nilrow _ sz | .assign (.const (.slice none 0 0)),.nilrow _ sz=>decide (0<sz)
 | .pick c a b,.pick c' a' b'=>c_ c c'&&c_ a a'&&c_ b b'
 | .alloc e,.alloc ty sz z=>e==ty&&z_ P e z&&fits z sz&&decide (0<sz)
 | .box e x,.box ty sz y=>e==ty&&c_ x y&&decide (0<sz)
 | .build t ps,.build zs qs=>c17 P t zs ps.toList qs
 | .buildSlice t n ps,.mkrow ty sz n' z qs=>s14 P t ty&&szIs P ty sz&&decide (0<sz)&&n==n'&&decide (n*sz≤16777216)&&z_ P ty (zV z)&&fits (zV z) sz&&c16 ps.toList qs
 | .load t p,.load q=>c_ p q&&i10 P t
 | .load t p,.loadN q n=>c_ p q&&i_ P t&&szIs P t n
 | .store t p x,.store q y n=>c_ p q&&c_ x y&&szIs P t n
 | .binOp op _ x y _,.bin op' x' y'=>decide (op=op')&&c_ x x'&&c_ y y'
 | .binOp op t x y _,.eqA neg ks x' y'=>decide (op=if neg then .neq else .eql)&&c_ x x'&&c_ y y'&&i_ P t&&decide (k10 P 20 t=some ks)&& !P.eqGuardType P.depth t
 | .binOp op t x y _,.eqB neg x' y'=>decide (op=if neg then .neq else .eql)&&c_ x x'&&c_ y y'&&(match P.underlying t with | some .bool=>true | _ =>false)
 | .binOp op t x y _,.eqP neg x' y'=>decide (op=if neg then .neq else .eql)&&c_ x x'&&c_ y y'&&(match P.underlying t with | some (.pointer _)=>true | _ =>false)
 | .binOp op t x y _,.eqI neg x' y'=>decide (op=if neg then .neq else .eql)&&c_ x x'&&c_ y y'&&(match y with | .const _ =>true | _ =>false)&&P.isIface t
 | .makeInterface t x,.mki t' y=>t==t'&&c_ x y&&(match P.underlying t with | some (.interface _)=>false | some _ =>true | none=>false)
 | .unOp op _ x,.un op' y=>decide (op=op')&&c_ x y
 | .convert src dst x,.conv k y=>(P.underlying src).isSome&&(match P.underlying dst with | some (.int k')=>decide (k=k') | _ =>false)&&c_ x y
 | .field t x i,.fld y off=>(match P.underlying t with | some (.struct fs)=>(match fs[i]? with | some f=>f.offset==off&&i10 P f.type | none=>false) | _ =>false)&&c_ x y
 | .field t x i,.fldN y off n=>(match P.underlying t with | some (.struct fs)=>(match fs[i]? with | some f=>f.offset==off&&i_ P f.type&&szIs P f.type n | none=>false) | _ =>false)&&c_ x y
 | .fieldAddr t x i,.faddr y off=>(match P.underlying t with | some (.struct fs)=>(match fs[i]? with | some f=>f.offset==off&&(match P.info? f.type with | some i=>decide (0<i.size) | none=>false) | none=>false) | _ =>false)&&c_ x y
 | .indexAddr t x i,.iaddr sz y j=>(match P.underlying t with | some (.slice e)=>szIs P e sz&&decide (0<sz) | _ =>false)&&c_ x y&&c_ i j
 | .index t x i,.idx y j=>(match P.underlying t with | some .string=>true | _ =>false)&&c_ x y&&c_ i j
 | .slice t x lo hi none,.slc z y lo' hi'=>(match P.underlying t with | some .string=>z==0 | some (.slice e)=>szIs P e z&&decide (0<z) | _ =>false)&&c_ x y&&c18 lo lo'&&c18 hi hi'
 | .call {callee:=.builtin .len,args,argTypes},.len b y=>(match args.toList,argTypes.toList with | [x],[t]=>c_ x y&&(match P.underlying t with | some .string=>b | some (.slice _)=>!b | _ =>false) | _,_ =>false)
 | .call {callee:=.builtin .append,args,argTypes},.app e sz bytes y z=>(match args.toList,argTypes.toList with
  | [x,u],[t,t']=>t==t'&&c_ x y&&c_ u z&&s14 P t e&&szIs P e sz&&decide (0<sz)&&b12 P e bytes&&decide (0<bytes)&&(match P.info? e with | some i=>(match i.zero with | some z=>z.cells.size==sz | none=>false) | none=>false)
  | _,_ =>false)
 | .call {callee:=.value x,args,argTypes:=_},.call f ys=>(match x with | .func g=>g==f | _ =>false)&&c13 args.toList ys&&b10 P f
 | .call {callee:=.value x,args,argTypes:=_},.callv y ys=>c_ x y&&c13 args.toList ys
 | .call {callee:=.value x,args,argTypes:=_},.callB f ys=>(match x with | .func g=>g==f | _ =>false)&&c13 args.toList ys&&b10 P f
 | .call {callee:=.value x,args,argTypes:=_},.callvB y ys=>c_ x y&&c13 args.toList ys
 | _,.bad=>true
 | .makeSlice t n c,.mks e sz bytes z n' c'=>s14 P t e&&szIs P e sz&&decide (0<sz)&&b12 P e bytes&&decide (0<bytes)&&z_ P e z&&fits z sz&&c_ n n'&&c_ c c'
 | .slice t x none none none,.slcG n y=>(match P.underlying t with | some (.array m e)=>m==n&&szIs P e 1&&decide (n≤1048576) | _ =>false)&&c_ x y
 | .call {callee:=.builtin .max,args,argTypes:=_},.mx mn y z=>(match args.toList with | [u,v]=>!mn&&c_ u y&&c_ v z | _ =>false)
 | .call {callee:=.builtin .min,args,argTypes:=_},.mx mn y z=>(match args.toList with | [u,v]=>mn&&c_ u y&&c_ v z | _ =>false)
 | .range t x,.rng y=>(match P.underlying t with | some .string=>true | _ =>false)&&c_ x y
 | .next x is,.nxt y=>is&&c_ x y
 | .range t x,.mrng y=>(match P.underlying t with | some (.map ..)=>true | _ =>false)&&c_ x y
 | .next x is,.mnxt y=>!is&&c_ x y
 | .entry x,.ment y=>c_ x y
 | .convert src dst x,.b2s y=>(match P.underlying src with | some (.slice e)=>(match P.underlying e with | some (.int .u8)=>true | _ =>false) | _ =>false)&&(match P.underlying dst with | some .string=>true | _ =>false)&&c_ x y
 | .indexAddr t x i,.iaddrA sz n y j=>(match P.underlying t with | some (.array m e)=>m==n&&szIs P e sz&&decide (0<sz) | _ =>false)&&c_ x y&&c_ i j
 | .index t x i,.idxA sz n y j=>(match P.underlying t with | some (.array m e)=>m==n&&szIs P e sz&&i10 P e | _ =>false)&&c_ x y&&c_ i j
 | .call {callee:=.builtin .clear,args,argTypes},.clr sz z y=>(match args.toList,argTypes.toList with
  | [x],[t]=>c_ x y&&(match P.underlying t with | some (.slice e)=>szIs P e sz&&decide (0<sz)&&z_ P e z&&fits z sz | _ =>false)
  | _,_ =>false)
 | .makeMap t none,.mkmap=>(match P.underlying t with | some (.map ..)=>true | _ =>false)
 | .call {callee:=.builtin .len,args,argTypes},.mlen y=>(match args.toList,argTypes.toList with | [x],[t]=>c_ x y&&(match P.underlying t with | some (.map ..)=>true | _ =>false) | _,_ =>false)
 | .lookup t x k ok,.mget ok' ag ks z y j=>ok==ok'&&c_ x y&&c_ k j&&(match P.underlying t with | some (.map kt et)=>i_ P kt==ag&&decide (k10 P 20 kt=some ks)&&z_ P et z | _ =>false)
 | .mapUpdate t x k v,.mput ag ks y j u=>c_ x y&&c_ k j&&c_ v u&&(match P.underlying t with | some (.map kt _)=>i_ P kt==ag&&decide (k10 P 20 kt=some ks) | _ =>false)
 | .insert t x k v,.mput ag ks y j u=>c_ x y&&c_ k j&&c_ v u&&(match P.underlying t with | some (.map kt _)=>i_ P kt==ag&&decide (k10 P 20 kt=some ks) | _ =>false)
 | .makeMap t none,.mkmapS=>(match P.underlying t with | some (.map ..)=>true | _ =>false)
 | .mapEntry t x k,.mentry ag ks z y j=>c_ x y&&c_ k j&&(match P.underlying t with | some (.map kt et)=>i_ P kt==ag&&decide (k10 P 20 kt=some ks)&&z_ P et z | _ =>false)
 | .entryStore _ x s v,.estore y j u=>c_ x y&&c_ s j&&c_ v u
 | .call {callee:=.builtin .delete,args,argTypes},.mdel ag ks y j=>(match args.toList,argTypes.toList with | [x,k],t::_ =>c_ x y&&c_ k j&&(match P.underlying t with | some (.map kt _)=>i_ P kt==ag&&decide (k10 P 20 kt=some ks) | _ =>false) | _,_ =>false)
 | .binOp op t x y _,.eqN neg x'=>decide (op=if neg then .neq else .eql)&&c_ x x'&&(match y with | .const (.slice none 0 0)=>true | _ =>false)&&(match P.underlying t with | some (.slice _)=>true | _ =>false)
 | .extract x i,.ext y j=>c_ x y&&i==j
 | .nilCheck x,.nchk y=>c_ x y
 | .makeFunc (.func f) first caps,.mkfn f' ys=>f'==f+fnB*first.size&&decide (f<fnB)&&c13 (first.toList++caps.toList) ys
 | _,_ =>false
end Go.Proofs.YtkejmcgngblfnaaGreatDoor.Ab
