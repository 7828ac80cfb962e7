/-
  Rows made whole, stores, appends: what the model's run gives is what the abstract operation says. No claim is proved here.
-/
import Derived.Test.YtkejmcgngblfnaaGreatDoorYAbStep4
import Derived.Maps.AppendAt
namespace Go.Proofs.YtkejmcgngblfnaaGreatDoor.Ab
open Go Go.RowKit
section
variable {P:Program} {G:Nat→Option AV} {C:Ctx} {nm:N_} {F:Nat→Prop} {st st':St} {a:Act} {w:World} {o:Oper}
theorem ns20 (h:RelX G C nm F st a w) {ty sz:Nat} (hsz:0<sz) (hr:(execOp a.eval o).run P w= .ok (.value (.slice none 0 0)) w) (he:e_ G o.dst (.nilrow ty sz) st=some st'):S_ P G C o a w st':=by
 simp only[e_] at he
 split at he
 ·rename_i d hd
  refine .inl ⟨_,_,hr,upd nm d none,F,?_⟩
  rw[hd]
  refine h.new (m:=none) he h.keep (fun _ _ =>rfl) (Nat.le_refl _) (fun _ hm=>by cases hm) (.arrN _ _) (.inl ⟨if_pos rfl,rfl,rfl,hsz⟩)
 ·cases he
theorem sa11 (cur:Array Value) (vs:List Value) (o p:Nat) (h:o+vs.length≤cur.size):
  (cur.toList.take o++vs++cur.toList.drop (o+vs.length)).toArray[p]? =if o≤p∧p<o+vs.length then vs[p - o]? else cur[p]? :=by
 have ho:(cur.toList.take o).length=o:=by simp;omega
 simp only[List.getElem?_toArray,List.getElem?_append,List.length_append,ho]
 by_cases h1:p<o+vs.length
 ·rw[if_pos h1]
  by_cases h2:p<o
  ·rw[if_pos h2,if_neg (by omega),List.getElem?_take,if_pos h2];simp
  ·rw[if_neg h2,if_pos (by omega)]
 ·rw[if_neg h1,if_neg (by omega),List.getElem?_drop,show o+vs.length+(p - (o+vs.length))=p from by omega]
  simp
theorem clean.go_at:∀{cs:List AV},Ab.clean.go cs=true→∀(j:Nat) c,cs[j]? =some c→Ab.clean c=true
 | [],_,j,c,hc=>by simp at hc
 | x::xs,h,j,c,hc=>by
  simp only[Ab.clean.go,Bool.and_eq_true] at h
  cases j with
  | zero=>simp at hc;subst hc;exact h.1
  | succ j=>simp at hc;exact clean.go_at h.2 j c hc
theorem Rd.clean {nm':N_} {c:AV} {v:Value} (h:Rd w F nm c v) (hf:Ab.clean c=true):Rd w F nm' c v:=by
 induction h with
 | top nm v=>exact .top _ _
 | undef nm=>exact .undef _
 | bool nm b=>exact .bool _ _
 | int nm k n=>exact .int _ _ _
 | str nm s=>exact .str _ _
 | agg nm cs us hl h ih=>exact .agg _ _ _ hl fun j c u hc hu=>ih j c u hc hu (clean.go_at hf j c hc)
 | tup nm cs us hl h ih=>exact .tup _ _ _ hl fun j c u hc hu=>ih j c u hc hu (clean.go_at hf j c hc)
 | seq0 nm sz a cap=>exact .seq0 _ _ _ _
 | seq nm sz es g o cap u h0 hFg hc hm hs hw' h1 h ih=>exact .seq _ _ _ _ _ _ u h0 hFg hc hm hs hw' h1 h
 | full nm sz es g o u h0 hFg hm hs hw' h1 h ih=>exact .full _ _ _ _ _ u h0 hFg hm hs hw' h1 h
 | nils nm=>exact .nils _
 | arr nm j k n m hi hk hp=>simp [Ab.clean] at hf
 | arrE nm j k a cap hk=>simp [Ab.clean] at hf
 | arrN nm j=>simp [Ab.clean] at hf
 | ref nm i k off m hi=>simp [Ab.clean] at hf
 | eptr nm e off g o u hFg hw' h1 h ih=>exact .eptr _ _ _ _ _ u hFg hw' h1 h
 | nilp nm=>exact .nilp _
 | fn nm f cs us hl h ih=>exact .fn _ _ _ _ hl fun j c u hc hu=>ih j c u hc hu (clean.go_at hf j c hc)
 | nilfn nm=>exact .nilfn _
 | nili nm=>exact .nili _
 | iface nm t c u h ih=>exact .iface _ _ _ _ (ih hf)
 | mapv nm i m hi=>simp [Ab.clean] at hf
 | nilm nm=>exact .nilm _
 | rawp nm b o=>exact .rawp _ _ _
 | mapc nm es g ents clock hFg hh hbn hl ht hk hv ihk ihv=>exact .mapc _ _ _ ents clock hFg hh hbn hl ht hk hv
theorem cc11 {c:AV} (h:Ab.clean c=true):∀x∈c.cells,Ab.clean x=true:=by
 intro x hx
 cases c <;> simp only[AV.cells,List.mem_singleton] at hx <;> first | (subst hx;exact h) | skip
 case agg cs=>
  obtain⟨j,hj⟩:=List.getElem?_of_mem hx
  exact clean.go_at h j x hj
theorem ss14 (h:RelX G C nm F st a w) {t:Nat} {x y:Operand} {p q:Opd} {n:Nat} (ho:o.op= .store t x y) (hx:c_ x p=true) (hy:c_ y q=true) (hs:szIs P t n=true)
  (hd:o.dst=none) (he:a18 st (st.ev G p) (st.ev G q) n=some st'):S_ P G C o a w st':=by
 have hp:=h.opd hx
 have hv:=h.opd hy
 generalize st.ev G p=pv at*
 generalize st.ev G q=qv at*
 generalize hev:a.eval x=xv at*
 generalize hew:a.eval y=yv at*
 cases pv <;> simp only[a18,reduceCtorEq] at he
 case ref i k off=>
  cases hp with
  | ref _ _ _ _ m hi=>
   split at he
   ·rename_i b hb
    split at he
    ·cases he
    ·rename_i hrow
     split at he
     ·rename_i e hek
      split at he
      ·rename_i hf
       split at he
       ·rename_i e' hre
        simp only[Option.some.injEq] at he
        subst he
        obtain⟨hf,hle⟩:=hf
        obtain⟨hvs,hvc⟩:=ck_ hv hf
        obtain⟨_,hqn,_⟩:=fs_ hf
        rcases h.box i b hb with ⟨hn,_⟩ | ⟨m',hm',hl⟩
        ·rw[hi] at hn;cases hn
        rw[hi] at hm';cases hm'
        obtain⟨h1,h2,h3,cs,h4,h5,h6,h7,h8,h9⟩:=(if hr:b.row=true then hl.c (by have:¬b.sz=0:=fun e=>hrow ⟨hr,.inr e⟩;omega) else hl.v hr:L_ w F nm m b)
        have hklt:k<b.es.length:=(List.getElem?_eq_some_iff.1 hek).1
        have hesz:e.cells.length=m.sz:=by rw[h1];exact h8 e (List.mem_of_getElem? hek)
        have hroom:k*m.sz+off+n≤cs.size:=by
         rw[h5]
         have:(k+1)*m.sz≤m.cap*m.sz:=Nat.mul_le_mul_right _ (by omega)
         rw[Nat.add_mul] at this
         omega
        have hone:∀u∈yv.cells.toList,u.oneCell'=true:=fun u hu=>by
         obtain⟨j,hj⟩:=List.getElem?_of_mem hu
         have hjn:j<qv.cells.length:=by
          rw[hqn,←hvs]
          have:=(List.getElem?_eq_some_iff.1 hj).1
          simpa using this
         obtain⟨u',hu',h1',_⟩:=hvc j _ (List.getElem?_eq_getElem hjn)
         have:yv.cells.toList[j]? =some u':=by simpa using hu'
         rw[this] at hj
         cases hj
         exact h1'
        have hlen:yv.cells.toList.length=n:=by simpa using hvs
        have hst:=run_storeCells_at P m.g (k*m.sz+off) m.ty yv.cells.toList 0 cs w h4 (by simp only[Nat.add_zero,hlen];exact hroom) hone
        simp only[Nat.add_zero,hlen] at hst
        have hrun:(execOp a.eval o).run P w= .ok .skip (w.setRow m.g (cs.toList.take (k*m.sz+off)++yv.cells.toList++cs.toList.drop (k*m.sz+off+n)).toArray):=by
         simp only[execOp,ho,hev,hew,Instr.storeAt,Instr.sureAddr,storeVar,Sem.run_bind,Sem.run_pure,Result.andThen_ok,sr_ hs,hvs,ne_eq,not_true_eq_false,if_false,hst]
        refine .inr ⟨_,hrun,nm,F,?_⟩
        rw[hd]
        have e1:a.put none undef=a:=rfl
        rw[e1]
        have hFw:∀bl,F bl→(w.setRow m.g (cs.toList.take (k*m.sz+off)++yv.cells.toList++cs.toList.drop (k*m.sz+off+n)).toArray).heap[bl]? =w.heap[bl]? :=
         fun bl hbl=>setRow_other w m.g bl _ (fun e=>h.fr i b m hb hi (e ▸ hbl))
        refine h.setBox hb hi rfl rfl rfl (by simp [World.setRow]) rfl (fun j hj=>setRow_other w m.g j _ hj) ?_
        have hec:e'.cells=s_ e.cells off qv.cells:=rc10 hre
        refine .inl ⟨h1,h2,h3,_,setRow_heap w m.g cs _ m.ty (0,0) h4,?_,by simpa using h6,h7,fun x hx=>?_,fun k' x j c hx hc=>?_⟩
        ·simp only[List.size_toArray,List.length_append,List.length_take,List.length_drop,Array.length_toList,hvs]
         omega
        ·rcases List.mem_or_eq_of_mem_set hx with hx | rfl
         ·exact h8 x hx
         ·rw[hec,sl_,hesz,h1]
        ·have hat:=sa11 cs yv.cells.toList (k*m.sz+off) (k'*m.sz+j) (by rw[hlen];exact hroom)
         rw[hlen] at hat
         simp only[hat]
         simp only[List.getElem?_set,hklt,if_true] at hx
         split at hx
         ·rename_i hkk
          subst hkk
          simp only[Option.some.injEq] at hx
          subst hx
          rw[hec,sa10 _ _ _ _ (by rw[hqn];exact hle),hqn] at hc
          split at hc
          ·rename_i hj
           rw[if_pos (by omega),show k*m.sz+j - (k*m.sz+off)=j - off from by omega]
           obtain⟨u,hu,hu1,hr⟩:=hvc _ c hc
           refine⟨u,by simpa using hu,hu1,?_⟩
           by_cases hbr:b.row=true
           ·have hcl:Ab.clean qv=true:=by cases hq:Ab.clean qv with | true=>rfl | false=>exact absurd ⟨hbr,.inl hq⟩ hrow
            rw[if_pos hbr]
            exact (hr.clean (cc11 hcl c (List.mem_of_getElem? hc))).mono hFw fun _ h=>h
           ·rw[if_neg hbr]
            exact hr.mono hFw fun _ h=>h
          ·rename_i hj
           rw[if_neg (by omega)]
           obtain⟨u,hu,hu1,hr⟩:=h9 k e j c hek hc
           exact⟨u,hu,hu1,hr.mono hFw fun _ h=>h⟩
         ·rename_i hkk
          have hjlt:j<m.sz:=by
           rw[h1,←h8 x (List.mem_of_getElem? hx)]
           exact (List.getElem?_eq_some_iff.1 hc).1
          have hout:¬(k*m.sz+off≤k'*m.sz+j∧k'*m.sz+j<k*m.sz+off+n):=by
           rw[hesz] at hle
           rcases Nat.lt_or_gt_of_ne hkk with hlt | hgt
           ·have:(k+1)*m.sz≤k'*m.sz:=Nat.mul_le_mul_right _ hlt
            rw[Nat.add_mul] at this
            omega
           ·have:(k'+1)*m.sz≤k*m.sz:=Nat.mul_le_mul_right _ hgt
            rw[Nat.add_mul] at this
            omega
          rw[if_neg hout]
          obtain⟨u,hu,hu1,hr⟩:=h9 k' x j c hx hc
          exact⟨u,hu,hu1,hr.mono hFw fun _ h=>h⟩
       ·cases he
      ·cases he
     ·cases he
   ·cases he
def RowR (w:World) (F:Nat→Prop) (N:N_) (sz:Nat) (es:List AV) (us:Array Value):Prop:=
 us.size=es.length*sz∧(∀e∈es,e.cells.length=sz)∧
 ∀(k:Nat) e (j:Nat) c,es[k]? =some e→e.cells[j]? =some c→∃u,us[k*sz+j]? =some u∧u.oneCell'=true∧Rd w F N c u
theorem RowR.set {N:N_} {sz:Nat} {es:List AV} {us:Array Value} (h:RowR w F N sz es us) {x:AV} {v:Value} {i:Nat} (hx:Rd w F N x v) (hf:fits x sz=true) (hi:i<es.length):
  RowR w F N sz (es.set i x) (v.cells.zipIdx.foldl (fun (cs:Array Value) (x:Value×Nat)=>cs.setIfInBounds (i*sz+x.2) x.1) us):=by
 obtain⟨hs,hc⟩:=ck_ hx hf
 obtain⟨_,hlen,_⟩:=fs_ hf
 have hroom:i*sz+sz≤us.size:=by
  rw[h.1]
  have:(i+1)*sz≤es.length*sz:=Nat.mul_le_mul_right _ hi
  rw[Nat.add_mul] at this
  omega
 refine⟨by rw[fs15,h.1,List.length_set],fun e he=>?_,fun k e j c he hcj=>?_⟩
 ·rcases List.mem_or_eq_of_mem_set he with he | rfl
  ·exact h.2.1 e he
  ·exact hlen
 ·rw[fa_ _ _ _ (by rw[hs];exact hroom),hs]
  simp only[List.getElem?_set] at he
  split at he
  ·rename_i hk
   subst hk
   simp only[Option.some.injEq] at he
   subst he
   have hj:j<sz:=by rw[←hlen];exact (List.getElem?_eq_some_iff.1 hcj).1
   obtain⟨u,hu,hu1,hr⟩:=hc j c hcj
   exact⟨u,by rw[if_pos (by omega),show i*sz+j - i*sz=j from by omega];exact hu,hu1,hr⟩
  ·rename_i hk
   have hj:j<sz:=by rw[←h.2.1 e (List.mem_of_getElem? he)];exact (List.getElem?_eq_some_iff.1 hcj).1
   have hout:¬(i*sz≤k*sz+j∧k*sz+j<i*sz+sz):=by
    rcases Nat.lt_or_gt_of_ne hk with hlt | hgt
    ·have:(i+1)*sz≤k*sz:=Nat.mul_le_mul_right _ hlt
     rw[Nat.add_mul] at this
     omega
    ·have:(k+1)*sz≤i*sz:=Nat.mul_le_mul_right _ hgt
     rw[Nat.add_mul] at this
     omega
   rw[if_neg hout]
   exact h.2.2 k e j c he hcj
theorem rs_ {N:N_} {sz:Nat}:∀(idx:List Nat) (vs:List AV) (us:List Value) (es es':List AV) (cur:Array Value),idx.length=us.length→vs.length=us.length→
  (∀(j:Nat) c u,vs[j]? =some c→us[j]? =some u→Rd w F N c u)→RowR w F N sz es cur→r11 sz es (idx.zip vs)=some es'→
  ∃cells,Instr.fill (fun i=>some (i*sz,sz)) cur (idx.zip us)=some cells∧RowR w F N sz es' cells
 | [],_,_,es,es',cur,_,_,_,hr,h=>by
  simp only[List.zip_nil_left,r11,Option.some.injEq] at h
  subst h
  exact⟨cur,rfl,hr⟩
 | i::idx,[],[],es,es',cur,hl,_,_,_,_ =>by simp at hl
 | i::idx,[],_ ::_,es,es',cur,_,hl,_,_,_ =>by simp at hl
 | i::idx,_ ::_,[],es,es',cur,_,hl,_,_,_ =>by simp at hl
 | i::idx,v::vs,u::us,es,es',cur,hl,hl',hrd,hr,h=>by
  simp only[List.zip_cons_cons,r11] at h
  split at h
  ·rename_i hf
   have hv:=hrd 0 v u (by simp) (by simp)
   obtain⟨cells,h1,h2⟩:=rs_ idx vs us _ es' _ (by simpa using hl) (by simpa using hl') (fun j c u hc hu=>hrd (j+1) c u (by simpa using hc) (by simpa using hu)) (hr.set hv hf.1 hf.2) h
   refine⟨cells,?_,h2⟩
   simp only[List.zip_cons_cons,Instr.fill]
   obtain⟨hs,_⟩:=ck_ hv hf.1
   rw[hs,if_neg]
   ·exact h1
   ·have:(i+1)*sz≤es.length*sz:=Nat.mul_le_mul_right _ hf.2
    rw[Nat.add_mul] at this
    have:=hr.1
    simp
    omega
  ·cases h
theorem cs16 {a:Act} {st:St} (h:RelX G C nm F st a w):∀{ps:List (Nat×Operand)} {qs:List (Nat×Opd)},c16 ps qs=true→
  ps.map (·.1)=qs.map (·.1)∧(evs G st (qs.map (·.2))).length=(ps.map fun x=>a.eval x.2).length∧∀(j:Nat) c u,(evs G st (qs.map (·.2)))[j]? =some c→(ps.map fun x=>a.eval x.2)[j]? =some u→Rd w F nm c u
 | [],[],_ =>⟨rfl,rfl,by simp [evs]⟩
 | (i,x)::ps,(k,y)::qs,hc=>by
  simp only[c16,Bool.and_eq_true,beq_iff_eq] at hc
  obtain⟨⟨rfl,hx⟩,hr⟩:=hc
  obtain⟨h1,h2,h3⟩:=cs16 h hr
  refine⟨by simp [h1],by simpa [evs] using h2,fun j c u hcj huj=>?_⟩
  cases j with
  | zero=>simp [evs] at hcj huj;subst hcj;subst huj;exact h.opd hx
  | succ j=>simp [evs] at hcj huj;exact h3 j c u hcj (by simpa using huj)
 | [],_ ::_,hc=>by simp [c16] at hc
 | _ ::_,[],hc=>by simp [c16] at hc
theorem ss_ {t e:Nat} (h:s14 P t e=true):P.underlying t=some (.slice e):=by
 unfold s14 at h
 split at h
 ·rename_i x hx;simp only[beq_iff_eq] at h;subst h;exact hx
 ·cases h
theorem zr_ {F1:Nat→Prop} {N:N_} {z:AV} {zv:Value} {n sz:Nat} (hzr:Rd w F1 n_ z zv) (hfz:fits z sz=true):
  RowR w F1 N sz (List.replicate n z) ((Array.range (n*sz)).map (fun i=>(zv.cells)[i % zv.cells.size]!)):=by
 obtain⟨hzs,hzc⟩:=ck_ hzr hfz
 obtain⟨_,hzl,_⟩:=fs_ hfz
 refine⟨by simp,fun e he=>by rw[List.eq_of_mem_replicate he];exact hzl,fun k e j c hk hj=>?_⟩
 have hkn:k<n:=by have:=(List.getElem?_eq_some_iff.1 hk).1;simpa using this
 have hez:e=z:=List.eq_of_mem_replicate (List.mem_of_getElem? hk)
 subst hez
 have hjs:j<sz:=by rw[←hzl];exact (List.getElem?_eq_some_iff.1 hj).1
 obtain⟨u,hu,hu1,hr⟩:=hzc j c hj
 have hlt:k*sz+j<n*sz:=by
  have:(k+1)*sz≤n*sz:=Nat.mul_le_mul_right _ hkn
  rw[Nat.add_mul] at this
  omega
 refine⟨u,?_,hu1,hr.any N⟩
 have hmod:(k*sz+j) % sz=j:=by rw[Nat.add_comm,Nat.add_mul_mod_self_right,Nat.mod_eq_of_lt hjs]
 simp only[Array.getElem?_map,Array.getElem?_range,hlt,if_true,Option.map_some,hzs,hmod]
 rw[getElem!_pos zv.cells j (by rw[hzs];exact hjs)]
 rw[Array.getElem?_eq_getElem (by rw[hzs];exact hjs)] at hu
 exact hu
theorem rl_ {sz:Nat}:∀(l:List (Nat×AV)) (es es':List AV),r11 sz es l=some es'→es'.length=es.length:=by
 intro l
 induction l with
 | nil=>intro es es' h;simp only[r11,Option.some.injEq] at h;subst h;rfl
 | cons x l ih=>
  intro es es' h
  obtain⟨i,v⟩:=x
  simp only[r11] at h
  split at h
  ·rw[ih _ _ h,List.length_set]
  ·cases h
theorem ms11 (h:RelX G C nm F st a w) {t n:Nat} {ps:Array (Nat×Operand)} {ty sz n':Nat} {z:AV} {qs:List (Nat×Opd)} (ho:o.op= .buildSlice t n ps)
  (hc:c10 P (.buildSlice t n ps) (.mkrow ty sz n' z qs)=true) (he:e_ G o.dst (.mkrow ty sz n' z qs) st=some st'):S_ P G C o a w st':=by
 simp only[c10,Bool.and_eq_true,beq_iff_eq,decide_eq_true_eq] at hc
 obtain⟨⟨⟨⟨⟨⟨⟨hsl,hsz⟩,h0⟩,rfl⟩,hbig⟩,hz⟩,hfz⟩,hel⟩:=hc
 have ht:=ss_ hsl
 obtain⟨zv,hzrun,hzrep,_⟩:=zs_ hz
 obtain⟨hidx,hlen,hrd⟩:=cs16 h hel
 have mkrun:∀{cells:Array Value},Instr.fill (fun i=>some (i*sz,sz)) ((Array.range (n*sz)).map (fun i=>(zv.cells)[i % zv.cells.size]!)) ((qs.map (·.1)).zip (ps.toList.map fun x=>a.eval x.2))=some cells→
   (execOp a.eval o).run P w= .ok (.value (.slice (some ⟨w.heap.size,0,none⟩) n n)) (w.alloc (.cells cells ty)):=by
  intro cells hfill
  have hzip:(ps.map fun x=>(x.1,a.eval x.2)).toList=(qs.map (·.1)).zip (ps.toList.map fun x=>a.eval x.2):=by
   rw[←hidx]
   simp [List.zip_map']
  have harr:n*sz=0→(Array.range (n*sz)).map (fun i=>(#[]:Array Value)[i % (#[]:Array Value).size]!)=(Array.range (n*sz)).map (fun i=>(zv.cells)[i % zv.cells.size]!):=by
   intro e;rw[e];apply Array.ext <;> simp
  simp only[execOp,ho,Instr.buildSlice,Sem.run_bind,run_underlying ht,Result.andThen_ok,sr_ hsz]
  rw[if_neg (by omega)]
  by_cases e:n*sz=0
  ·rw[if_pos e]
   simp only[Sem.run_bind,Sem.run_pure,Result.andThen_ok,harr e,hzip,hfill,newRow,run_newObj]
   rfl
  ·rw[if_neg e]
   simp only[hzrun,Result.andThen_ok,hzip,hfill,Sem.run_bind,newRow,run_newObj,Sem.run_pure]
   rfl
 have hcapn:n≤maxLen:=by simp only[maxLen];have:n*1≤n*sz:=Nat.mul_le_mul_left _ h0;omega
 simp only[e_] at he
 split at he
 ·rename_i d hd
  split at he
  ·rename_i z0
   simp only[zV] at hzrep hfz
   split at he
   ·rename_i es hes
    have hpl:((evs G st (qs.map (·.2))).map (purge d)).length=(ps.toList.map fun x=>a.eval x.2).length:=by rw[List.length_map];exact hlen
    have key:∀m,∃cells,Instr.fill (fun i=>some (i*sz,sz)) ((Array.range (n*sz)).map (fun i=>(zv.cells)[i % zv.cells.size]!)) ((qs.map (·.1)).zip (ps.toList.map fun x=>a.eval x.2))=some cells∧RowR w F (upd nm d m) sz es cells:=fun m=>
     rs_ (N:=upd nm d m) (qs.map (·.1)) _ (ps.toList.map fun x=>a.eval x.2) (List.replicate n z0) es _ (by rw[←hidx];simp) hpl (fun j c u hc hu=>by
      rw[List.getElem?_map] at hc
      obtain⟨c',hc',rfl⟩:=Option.map_eq_some_iff.1 hc
      exact (hrd j c' u hc' hu).purge fun j hj=>if_neg hj) (zr_ (rr_ hzrep) hfz) hes
    obtain⟨cells,hfill,hrow⟩:=key none
    have hall:∀m,RowR w F (upd nm d m) sz es cells:=fun m=>by
     obtain⟨c2,h2,h3⟩:=key m
     rw[hfill] at h2
     cases h2
     exact h3
    have hesl:es.length=n:=by rw[rl_ _ _ _ hes,List.length_replicate]
    refine ns19 (v:=.slice (some ⟨w.heap.size,0,none⟩) n n) (cap:=n) h hd h0 (by rw[hrow.1,hesl]) hcapn (by rw[hesl];exact Nat.le_refl _) hrow.2.1 (fun k e j x hk hx=>?_) ?_ (mkrun hfill) he
    ·obtain⟨u,hu,hu1,_⟩:=hrow.2.2 k e j x hk hx
     refine⟨u,hu,hu1,fun m=>?_⟩
     obtain⟨u2,hu2,_,hr2⟩:=(hall m).2.2 k e j x hk hx
     rw[hu] at hu2
     cases hu2
     exact hr2
    ·have:=Rd.arr (w:=w.alloc (.cells cells ty)) (F:=F) (upd nm d (some ⟨w.heap.size,sz,n,ty⟩)) d 0 n ⟨w.heap.size,sz,n,ty⟩ (if_pos rfl) (by simp) (.inr rfl)
     simpa using this
   ·cases he
  ·rename_i z0 z1
   simp only[zV] at hzrep hfz
   split at he
   ·rename_i vs hvs
    split at he
    ·rename_i es hes
     split at he
     ·rename_i hemp
      have hemp':r10 (evs G st (qs.map (·.2)))=[]:=by simpa using hemp
      obtain⟨hvl,hvr⟩:=vr10 (F':=F) h.box (fun _ h=>h) hvs (fun i hi m hm=>by rw[hemp'] at hi;cases hi) hlen hrd
      obtain⟨cells,hfill,hrow⟩:=rs_ (N:=n_) (qs.map (·.1)) vs (ps.toList.map fun x=>a.eval x.2) (List.replicate n z0) es _ (by rw[←hidx];simp) hvl hvr (zr_ (rr_ hzrep) hfz) hes
      have hesl:es.length=n:=by rw[rl_ _ _ _ hes,List.length_replicate]
      have hsize:cells.size=n*sz:=by rw[hrow.1,hesl]
      refine .inl ⟨_,_,mkrun hfill,nm,fun k=>F k∨k=w.heap.size,?_⟩
      rw[hd]
      have hup:∀k,k<w.heap.size→(w.alloc (.cells cells ty)).heap[k]? =w.heap[k]? :=fun k hk=>Below.heap_alloc w _ k hk
      have hFup:∀k,F k→(w.alloc (.cells cells ty)).heap[k]? =w.heap[k]? :=fun k hk=>hup k (h.good.1 k hk)
      have h2:RelX G C nm (fun k=>F k∨k=w.heap.size) st a (w.alloc (.cells cells ty)):=h.world (h.keep.alloc _) (fun _ h=>.inl h) (fun k hk=>hk.elim .inl fun e=>.inr (by omega))
       (fun k hk=>hk.elim (fun hk=>Nat.lt_of_lt_of_le (h.good.1 k hk) (by simp)) (fun hk=>by subst hk;simp)) hup
      refine h2.put ?_ he
      have hcellE:∀(k:Nat) e (j:Nat) c,es[k]? =some e→e.cells[j]? =some c→k*sz+j<n*sz:=fun k e j c hk hj=>by
       obtain⟨u,hu,_⟩:=hrow.2.2 k e j c hk hj
       rw[←hsize]
       exact (Array.getElem?_eq_some_iff.1 hu).1
      have full:=Rd.full (w:=w.alloc (.cells cells ty)) (F:=fun k=>F k∨k=w.heap.size) nm sz es w.heap.size 0 (fun p=>cells.getD p undef) h0 (.inr rfl) (by rw[hesl];exact hcapn) hrow.2.1 (fun p hp=>by
        rw[hesl,←hsize] at hp
        simp only[World.cell?,heap_alloc_new,Nat.zero_add,Array.getD_eq_getD_getElem?,Array.getElem?_eq_getElem hp,Option.getD_some];rfl) (fun p hp=>by
        rw[hesl] at hp
        have hk:p / sz<es.length:=by rw[hesl];exact (Nat.div_lt_iff_lt_mul h0).2 hp
        have hj:p % sz<(es[p / sz]).cells.length:=by rw[hrow.2.1 _ (List.getElem_mem hk)];exact Nat.mod_lt _ h0
        obtain⟨u,hu,hu1,_⟩:=hrow.2.2 _ _ _ _ (List.getElem?_eq_getElem hk) (List.getElem?_eq_getElem hj)
        have e:p / sz*sz+p % sz=p:=by rw[Nat.mul_comm];exact Nat.div_add_mod p sz
        rw[e] at hu
        simp only[Array.getD_eq_getD_getElem?,hu,Option.getD_some]
        exact hu1) (fun k e j c hk hj=>by
        obtain⟨u,hu,_,hr⟩:=hrow.2.2 k e j c hk hj
        simp only[Array.getD_eq_getD_getElem?,hu,Option.getD_some]
        exact hr.mono hFup fun _ h=>.inl h)
      rw[hesl] at full
      exact full
     ·cases he
    ·cases he
   ·cases he
  ·rename_i z0 hzne hzne2
   have hzz:zV z=z:=by
    unfold zV
    split
    ·exact (hzne _ rfl).elim
    ·exact (hzne2 _ _ rfl).elim
    ·rfl
   rw[hzz] at hzrep hfz
   split at he
   ·rename_i vs hvs
    split at he
    ·rename_i es hes
     obtain⟨F1,hF1,hrows,h1⟩:=RelX.thaws (G:=G) (C:=C) (nm:=nm) (a:=a) (w:=w) (r10 (evs G st (qs.map (·.2)))) h (fun i hi b hb=>by
      obtain⟨b',hb',hrow⟩:=vr_ hvs i hi
      rw[hb] at hb';cases hb';exact hrow)
     obtain⟨hvl,hvr⟩:=vr10 h.box hF1 hvs (fun i hi m hm=>by
      obtain⟨b,hb,_⟩:=vr_ hvs i hi
      exact hrows i hi b m hb hm) hlen hrd
     obtain⟨cells,hfill,hrow⟩:=rs_ (N:=n_) (qs.map (·.1)) vs (ps.toList.map fun x=>a.eval x.2) (List.replicate n z) es _ (by rw[←hidx];simp) hvl hvr (zr_ (rr_ hzrep) hfz) hes
     have hesl:es.length=n:=by rw[rl_ _ _ _ hes,List.length_replicate]
     refine ns19 (v:=.slice (some ⟨w.heap.size,0,none⟩) n n) (cap:=n) h1 hd h0 (by rw[hrow.1,hesl]) hcapn (by rw[hesl];exact Nat.le_refl _) hrow.2.1 (fun k e j x hk hx=>?_) ?_ (mkrun hfill) he
     ·obtain⟨u,hu,hu1,hr⟩:=hrow.2.2 k e j x hk hx
      exact⟨u,hu,hu1,fun _ =>by simpa using hr⟩
     ·have:=Rd.arr (w:=w.alloc (.cells cells ty)) (F:=F1) (upd nm d (some ⟨w.heap.size,sz,n,ty⟩)) d 0 n ⟨w.heap.size,sz,n,ty⟩ (if_pos rfl) (by simp) (.inr rfl)
      simpa using this
    ·cases he
   ·cases he
 ·cases he
end
end Go.Proofs.YtkejmcgngblfnaaGreatDoor.Ab
