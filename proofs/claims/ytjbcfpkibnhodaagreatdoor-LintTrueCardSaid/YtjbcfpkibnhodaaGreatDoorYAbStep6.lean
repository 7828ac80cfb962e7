/-
  Rows made whole, stores, appends: what the model's run gives is what the abstract operation says. Appends: what the model's run gives is what the abstract operation says. No claim is proved here.
-/
import Derived.Test.YtjbcfpkibnhodaaGreatDoorYAbStep4
import Derived.Maps.AppendAt
namespace Go.Proofs.YtjbcfpkibnhodaaGreatDoor.Ab
open Go Go.RowKit
section
variable {P:Program} {G:Nat→Option AV} {C:Ctx} {nm:N_} {F:Nat→Prop} {st st':St} {a:Act} {w:World} {o:Oper}
theorem ns19 (h:RelX G C nm F st a w) {ty sz:Nat} (hsz:0<sz) (hr:(execOp a.eval o).run P w= .ok (.value (.slice none 0 0)) w) (he:e_ G o.dst (.nilrow ty sz) st=some st'):S_ P G C o a w st':=by
 simp only[e_] at he
 split at he
 ·rename_i d hd
  refine .inl ⟨_,_,hr,upd nm d none,F,?_⟩
  rw[hd]
  refine h.new (m:=none) he h.keep (fun _ _ =>rfl) (Nat.le_refl _) (fun _ hm=>by cases hm) (.arrN _ _) (.inl ⟨if_pos rfl,rfl,rfl,hsz⟩)
 ·cases he
theorem sa12 (cur:Array Value) (vs:List Value) (o p:Nat) (h:o+vs.length≤cur.size):
  (cur.toList.take o++vs++cur.toList.drop (o+vs.length)).toArray[p]? =if o≤p∧p<o+vs.length then vs[p - o]? else cur[p]? :=by
 have ho:(cur.toList.take o).length=o:=by simp;omega
 simp only[List.getElem?_toArray,List.getElem?_append,List.length_append,ho]
 by_cases h1:p<o+vs.length
 ·rw[if_pos h1]
  by_cases h2:p<o
  ·rw[if_pos h2,if_neg (by omega),List.getElem?_take,if_pos h2];simp
  ·rw[if_neg h2,if_pos (by omega)]
 ·rw[if_neg h1,if_neg (by omega),List.getElem?_drop,show o+vs.length+(p - (o+vs.length))=p from by omega]
  simp
theorem clean.go_at:∀{cs:List AV},Ab.clean.go cs=true→∀(j:Nat) c,cs[j]? =some c→Ab.clean c=true
 | [],_,j,c,hc=>by simp at hc
 | x::xs,h,j,c,hc=>by
  simp only[Ab.clean.go,Bool.and_eq_true] at h
  cases j with
  | zero=>simp at hc;subst hc;exact h.1
  | succ j=>simp at hc;exact clean.go_at h.2 j c hc
theorem Rd.clean {nm':N_} {c:AV} {v:Value} (h:Rd w F nm c v) (hf:Ab.clean c=true):Rd w F nm' c v:=by
 induction h with
 | top nm v=>exact .top _ _
 | undef nm=>exact .undef _
 | bool nm b=>exact .bool _ _
 | int nm k n=>exact .int _ _ _
 | str nm s=>exact .str _ _
 | agg nm cs us hl h ih=>exact .agg _ _ _ hl fun j c u hc hu=>ih j c u hc hu (clean.go_at hf j c hc)
 | tup nm cs us hl h ih=>exact .tup _ _ _ hl fun j c u hc hu=>ih j c u hc hu (clean.go_at hf j c hc)
 | seq0 nm sz a cap=>exact .seq0 _ _ _ _
 | seq nm sz es g o cap u h0 hFg hc hm hs hw' h1 h ih=>exact .seq _ _ _ _ _ _ u h0 hFg hc hm hs hw' h1 h
 | nils nm=>exact .nils _
 | arr nm j k n m hi hk hp=>simp [Ab.clean] at hf
 | arrE nm j k a cap hk=>simp [Ab.clean] at hf
 | arrN nm j=>simp [Ab.clean] at hf
 | ref nm i k off m hi=>simp [Ab.clean] at hf
 | eptr nm e off g o u hFg hw' h1 h ih=>exact .eptr _ _ _ _ _ u hFg hw' h1 h
 | nilp nm=>exact .nilp _
 | fn nm f cs us hl h ih=>exact .fn _ _ _ _ hl fun j c u hc hu=>ih j c u hc hu (clean.go_at hf j c hc)
 | nilfn nm=>exact .nilfn _
 | nili nm=>exact .nili _
 | iface nm t c u h ih=>exact .iface _ _ _ _ (ih hf)
 | mapv nm i m hi=>simp [Ab.clean] at hf
 | nilm nm=>exact .nilm _
 | rawp nm b o=>exact .rawp _ _ _
 | mapc nm es g ents clock hFg hh hl ht hk hv ihk ihv=>exact .mapc _ _ _ ents clock hFg hh hl ht hk hv
theorem cc14 {c:AV} (h:Ab.clean c=true):∀x∈c.cells,Ab.clean x=true:=by
 intro x hx
 cases c <;> simp only[AV.cells,List.mem_singleton] at hx <;> first | (subst hx;exact h) | skip
 case agg cs=>
  obtain⟨j,hj⟩:=List.getElem?_of_mem hx
  exact clean.go_at h j x hj
theorem ss14 (h:RelX G C nm F st a w) {t:Nat} {x y:Operand} {p q:Opd} {n:Nat} (ho:o.op= .store t x y) (hx:c_ x p=true) (hy:c_ y q=true) (hs:szIs P t n=true)
  (hd:o.dst=none) (he:a23 st (st.ev G p) (st.ev G q) n=some st'):S_ P G C o a w st':=by
 have hp:=h.opd hx
 have hv:=h.opd hy
 generalize st.ev G p=pv at*
 generalize st.ev G q=qv at*
 generalize hev:a.eval x=xv at*
 generalize hew:a.eval y=yv at*
 cases pv <;> simp only[a23,reduceCtorEq] at he
 case ref i k off=>
  cases hp with
  | ref _ _ _ _ m hi=>
   split at he
   ·rename_i b hb
    split at he
    ·cases he
    ·rename_i hrow
     split at he
     ·rename_i e hek
      split at he
      ·rename_i hf
       split at he
       ·rename_i e' hre
        simp only[Option.some.injEq] at he
        subst he
        obtain⟨hf,hle⟩:=hf
        obtain⟨hvs,hvc⟩:=ck_ hv hf
        obtain⟨_,hqn,_⟩:=fs_ hf
        rcases h.box i b hb with ⟨hn,_⟩ | ⟨m',hm',hl⟩
        ·rw[hi] at hn;cases hn
        rw[hi] at hm';cases hm'
        obtain⟨h1,h2,h3,cs,h4,h5,h6,h7,h8,h9⟩:=(if hr:b.row=true then hl.c (by have:¬b.sz=0:=fun e=>hrow ⟨hr,.inr e⟩;omega) else hl.v hr:L_ w F nm m b)
        have hklt:k<b.es.length:=(List.getElem?_eq_some_iff.1 hek).1
        have hesz:e.cells.length=m.sz:=by rw[h1];exact h8 e (List.mem_of_getElem? hek)
        have hroom:k*m.sz+off+n≤cs.size:=by
         rw[h5]
         have:(k+1)*m.sz≤m.cap*m.sz:=Nat.mul_le_mul_right _ (by omega)
         rw[Nat.add_mul] at this
         omega
        have hone:∀u∈yv.cells.toList,u.oneCell'=true:=fun u hu=>by
         obtain⟨j,hj⟩:=List.getElem?_of_mem hu
         have hjn:j<qv.cells.length:=by
          rw[hqn,←hvs]
          have:=(List.getElem?_eq_some_iff.1 hj).1
          simpa using this
         obtain⟨u',hu',h1',_⟩:=hvc j _ (List.getElem?_eq_getElem hjn)
         have:yv.cells.toList[j]? =some u':=by simpa using hu'
         rw[this] at hj
         cases hj
         exact h1'
        have hlen:yv.cells.toList.length=n:=by simpa using hvs
        have hst:=run_storeCells_at P m.g (k*m.sz+off) m.ty yv.cells.toList 0 cs w h4 (by simp only[Nat.add_zero,hlen];exact hroom) hone
        simp only[Nat.add_zero,hlen] at hst
        have hrun:(execOp a.eval o).run P w= .ok .skip (w.setRow m.g (cs.toList.take (k*m.sz+off)++yv.cells.toList++cs.toList.drop (k*m.sz+off+n)).toArray):=by
         simp only[execOp,ho,hev,hew,Instr.storeAt,Instr.sureAddr,storeVar,Sem.run_bind,Sem.run_pure,Result.andThen_ok,sr_ hs,hvs,ne_eq,not_true_eq_false,if_false,hst]
        refine .inr ⟨_,hrun,nm,F,?_⟩
        rw[hd]
        have e1:a.put none undef=a:=rfl
        rw[e1]
        have hFw:∀bl,F bl→(w.setRow m.g (cs.toList.take (k*m.sz+off)++yv.cells.toList++cs.toList.drop (k*m.sz+off+n)).toArray).heap[bl]? =w.heap[bl]? :=
         fun bl hbl=>setRow_other w m.g bl _ (fun e=>h.fr i b m hb hi (e ▸ hbl))
        refine h.setBox hb hi rfl rfl rfl (by simp [World.setRow]) rfl (fun j hj=>setRow_other w m.g j _ hj) ?_
        have hec:e'.cells=s18 e.cells off qv.cells:=rc11 hre
        refine .inl ⟨h1,h2,h3,_,setRow_heap w m.g cs _ m.ty (0,0) h4,?_,by simpa using h6,h7,fun x hx=>?_,fun k' x j c hx hc=>?_⟩
        ·simp only[List.size_toArray,List.length_append,List.length_take,List.length_drop,Array.length_toList,hvs]
         omega
        ·rcases List.mem_or_eq_of_mem_set hx with hx | rfl
         ·exact h8 x hx
         ·rw[hec,sl_,hesz,h1]
        ·have hat:=sa12 cs yv.cells.toList (k*m.sz+off) (k'*m.sz+j) (by rw[hlen];exact hroom)
         rw[hlen] at hat
         simp only[hat]
         simp only[List.getElem?_set,hklt,if_true] at hx
         split at hx
         ·rename_i hkk
          subst hkk
          simp only[Option.some.injEq] at hx
          subst hx
          rw[hec,sa11 _ _ _ _ (by rw[hqn];exact hle),hqn] at hc
          split at hc
          ·rename_i hj
           rw[if_pos (by omega),show k*m.sz+j - (k*m.sz+off)=j - off from by omega]
           obtain⟨u,hu,hu1,hr⟩:=hvc _ c hc
           refine⟨u,by simpa using hu,hu1,?_⟩
           by_cases hbr:b.row=true
           ·have hcl:Ab.clean qv=true:=by cases hq:Ab.clean qv with | true=>rfl | false=>exact absurd ⟨hbr,.inl hq⟩ hrow
            rw[if_pos hbr]
            exact (hr.clean (cc14 hcl c (List.mem_of_getElem? hc))).mono hFw fun _ h=>h
           ·rw[if_neg hbr]
            exact hr.mono hFw fun _ h=>h
          ·rename_i hj
           rw[if_neg (by omega)]
           obtain⟨u,hu,hu1,hr⟩:=h9 k e j c hek hc
           exact⟨u,hu,hu1,hr.mono hFw fun _ h=>h⟩
         ·rename_i hkk
          have hjlt:j<m.sz:=by
           rw[h1,←h8 x (List.mem_of_getElem? hx)]
           exact (List.getElem?_eq_some_iff.1 hc).1
          have hout:¬(k*m.sz+off≤k'*m.sz+j∧k'*m.sz+j<k*m.sz+off+n):=by
           rw[hesz] at hle
           rcases Nat.lt_or_gt_of_ne hkk with hlt | hgt
           ·have:(k+1)*m.sz≤k'*m.sz:=Nat.mul_le_mul_right _ hlt
            rw[Nat.add_mul] at this
            omega
           ·have:(k'+1)*m.sz≤k*m.sz:=Nat.mul_le_mul_right _ hgt
            rw[Nat.add_mul] at this
            omega
          rw[if_neg hout]
          obtain⟨u,hu,hu1,hr⟩:=h9 k' x j c hx hc
          exact⟨u,hu,hu1,hr.mono hFw fun _ h=>h⟩
       ·cases he
      ·cases he
     ·cases he
   ·cases he
def RowR (w:World) (F:Nat→Prop) (sz:Nat) (es:List AV) (us:Array Value):Prop:=
 us.size=es.length*sz∧(∀e∈es,e.cells.length=sz)∧
 ∀(k:Nat) e (j:Nat) c,es[k]? =some e→e.cells[j]? =some c→∃u,us[k*sz+j]? =some u∧u.oneCell'=true∧Rd w F n10 c u
theorem RowR.set {sz:Nat} {es:List AV} {us:Array Value} (h:RowR w F sz es us) {x:AV} {v:Value} {i:Nat} (hx:Rd w F n10 x v) (hf:fits x sz=true) (hi:i<es.length):
  RowR w F sz (es.set i x) (v.cells.zipIdx.foldl (fun (cs:Array Value) (x:Value×Nat)=>cs.setIfInBounds (i*sz+x.2) x.1) us):=by
 obtain⟨hs,hc⟩:=ck_ hx hf
 obtain⟨_,hlen,_⟩:=fs_ hf
 have hroom:i*sz+sz≤us.size:=by
  rw[h.1]
  have:(i+1)*sz≤es.length*sz:=Nat.mul_le_mul_right _ hi
  rw[Nat.add_mul] at this
  omega
 refine⟨by rw[fs18,h.1,List.length_set],fun e he=>?_,fun k e j c he hcj=>?_⟩
 ·rcases List.mem_or_eq_of_mem_set he with he | rfl
  ·exact h.2.1 e he
  ·exact hlen
 ·rw[fa10 _ _ _ (by rw[hs];exact hroom),hs]
  simp only[List.getElem?_set] at he
  split at he
  ·rename_i hk
   subst hk
   simp only[Option.some.injEq] at he
   subst he
   have hj:j<sz:=by rw[←hlen];exact (List.getElem?_eq_some_iff.1 hcj).1
   obtain⟨u,hu,hu1,hr⟩:=hc j c hcj
   exact⟨u,by rw[if_pos (by omega),show i*sz+j - i*sz=j from by omega];exact hu,hu1,hr⟩
  ·rename_i hk
   have hj:j<sz:=by rw[←h.2.1 e (List.mem_of_getElem? he)];exact (List.getElem?_eq_some_iff.1 hcj).1
   have hout:¬(i*sz≤k*sz+j∧k*sz+j<i*sz+sz):=by
    rcases Nat.lt_or_gt_of_ne hk with hlt | hgt
    ·have:(i+1)*sz≤k*sz:=Nat.mul_le_mul_right _ hlt
     rw[Nat.add_mul] at this
     omega
    ·have:(k+1)*sz≤i*sz:=Nat.mul_le_mul_right _ hgt
     rw[Nat.add_mul] at this
     omega
   rw[if_neg hout]
   exact h.2.2 k e j c he hcj
theorem rs12 {sz:Nat}:∀(idx:List Nat) (vs:List AV) (us:List Value) (es es':List AV) (cur:Array Value),idx.length=us.length→vs.length=us.length→
  (∀(j:Nat) c u,vs[j]? =some c→us[j]? =some u→Rd w F n10 c u)→RowR w F sz es cur→r12 sz es (idx.zip vs)=some es'→
  ∃cells,Instr.fill (fun i=>some (i*sz,sz)) cur (idx.zip us)=some cells∧RowR w F sz es' cells
 | [],_,_,es,es',cur,_,_,_,hr,h=>by
  simp only[List.zip_nil_left,r12,Option.some.injEq] at h
  subst h
  exact⟨cur,rfl,hr⟩
 | i::idx,[],[],es,es',cur,hl,_,_,_,_ =>by simp at hl
 | i::idx,[],_ ::_,es,es',cur,_,hl,_,_,_ =>by simp at hl
 | i::idx,_ ::_,[],es,es',cur,_,hl,_,_,_ =>by simp at hl
 | i::idx,v::vs,u::us,es,es',cur,hl,hl',hrd,hr,h=>by
  simp only[List.zip_cons_cons,r12] at h
  split at h
  ·rename_i hf
   have hv:=hrd 0 v u (by simp) (by simp)
   obtain⟨cells,h1,h2⟩:=rs12 idx vs us _ es' _ (by simpa using hl) (by simpa using hl') (fun j c u hc hu=>hrd (j+1) c u (by simpa using hc) (by simpa using hu)) (hr.set hv hf.1 hf.2) h
   refine⟨cells,?_,h2⟩
   simp only[List.zip_cons_cons,Instr.fill]
   obtain⟨hs,_⟩:=ck_ hv hf.1
   rw[hs,if_neg]
   ·exact h1
   ·have:(i+1)*sz≤es.length*sz:=Nat.mul_le_mul_right _ hf.2
    rw[Nat.add_mul] at this
    have:=hr.1
    simp
    omega
  ·cases h
theorem cs16 {a:Act} {st:St} (h:RelX G C nm F st a w):∀{ps:List (Nat×Operand)} {qs:List (Nat×Opd)},c17 ps qs=true→
  ps.map (·.1)=qs.map (·.1)∧(evs G st (qs.map (·.2))).length=(ps.map fun x=>a.eval x.2).length∧∀(j:Nat) c u,(evs G st (qs.map (·.2)))[j]? =some c→(ps.map fun x=>a.eval x.2)[j]? =some u→Rd w F nm c u
 | [],[],_ =>⟨rfl,rfl,by simp [evs]⟩
 | (i,x)::ps,(k,y)::qs,hc=>by
  simp only[c17,Bool.and_eq_true,beq_iff_eq] at hc
  obtain⟨⟨rfl,hx⟩,hr⟩:=hc
  obtain⟨h1,h2,h3⟩:=cs16 h hr
  refine⟨by simp [h1],by simpa [evs] using h2,fun j c u hcj huj=>?_⟩
  cases j with
  | zero=>simp [evs] at hcj huj;subst hcj;subst huj;exact h.opd hx
  | succ j=>simp [evs] at hcj huj;exact h3 j c u hcj (by simpa using huj)
 | [],_ ::_,hc=>by simp [c17] at hc
 | _ ::_,[],hc=>by simp [c17] at hc
theorem ss_ {t e:Nat} (h:s25 P t e=true):P.underlying t=some (.slice e):=by
 unfold s25 at h
 split at h
 ·rename_i x hx;simp only[beq_iff_eq] at h;subst h;exact hx
 ·cases h
theorem ms_ (h:RelX G C nm F st a w) {t n:Nat} {ps:Array (Nat×Operand)} {ty sz n':Nat} {z:AV} {qs:List (Nat×Opd)} (ho:o.op= .buildSlice t n ps)
  (hc:c10 P (.buildSlice t n ps) (.mkrow ty sz n' z qs)=true) (he:e_ G o.dst (.mkrow ty sz n' z qs) st=some st'):S_ P G C o a w st':=by
 simp only[c10,Bool.and_eq_true,beq_iff_eq,decide_eq_true_eq] at hc
 obtain⟨⟨⟨⟨⟨⟨⟨hsl,hsz⟩,h0⟩,rfl⟩,hbig⟩,hz⟩,hfz⟩,hel⟩:=hc
 have ht:=ss_ hsl
 obtain⟨zv,hzrun,hzrep,_⟩:=zs_ hz
 obtain⟨hidx,hlen,hrd⟩:=cs16 h hel
 simp only[e_] at he
 split at he
 ·rename_i d hd
  split at he
  ·rename_i vs hvs
   split at he
   ·rename_i es hes
    obtain⟨F1,hF1,hrows,h1⟩:=RelX.thaws (G:=G) (C:=C) (nm:=nm) (a:=a) (w:=w) (r11 (evs G st (qs.map (·.2)))) h (fun i hi b hb=>by
     obtain⟨b',hb',hrow⟩:=vr_ hvs i hi
     rw[hb] at hb';cases hb';exact hrow)
    obtain⟨hvl,hvr⟩:=vr11 h.box hF1 hvs (fun i hi m hm=>by
     obtain⟨b,hb,_⟩:=vr_ hvs i hi
     exact hrows i hi b m hb hm) hlen hrd
    have hzr:Rd w F1 n10 z zv:=rr_ hzrep
    obtain⟨hzs,hzc⟩:=ck_ hzr hfz
    obtain⟨_,hzl,_⟩:=fs_ hfz
    have hrow0:RowR w F1 sz (List.replicate n z) ((Array.range (n*sz)).map (fun i=>(zv.cells)[i % zv.cells.size]!)):=by
     refine⟨by simp,fun e he=>by rw[List.eq_of_mem_replicate he];exact hzl,fun k e j c hk hj=>?_⟩
     have hkn:k<n:=by have:=(List.getElem?_eq_some_iff.1 hk).1;simpa using this
     have hez:e=z:=List.eq_of_mem_replicate (List.mem_of_getElem? hk)
     subst hez
     have hjs:j<sz:=by rw[←hzl];exact (List.getElem?_eq_some_iff.1 hj).1
     obtain⟨u,hu,hu1,hr⟩:=hzc j c hj
     have hlt:k*sz+j<n*sz:=by
      have:(k+1)*sz≤n*sz:=Nat.mul_le_mul_right _ hkn
      rw[Nat.add_mul] at this
      omega
     refine⟨u,?_,hu1,hr⟩
     have hmod:(k*sz+j) % sz=j:=by rw[Nat.add_comm,Nat.add_mul_mod_self_right,Nat.mod_eq_of_lt hjs]
     simp only[Array.getElem?_map,Array.getElem?_range,hlt,if_true,Option.map_some,hzs,hmod]
     rw[getElem!_pos zv.cells j (by rw[hzs];exact hjs)]
     rw[Array.getElem?_eq_getElem (by rw[hzs];exact hjs)] at hu
     exact hu
    obtain⟨cells,hfill,hrow⟩:=rs12 (qs.map (·.1)) vs (ps.toList.map fun x=>a.eval x.2) (List.replicate n z) es _ (by rw[←hidx];simp) hvl hvr hrow0 hes
    have hesl:es.length=n:=by
     have h2:=hrow.1
     have key:∀(l:List (Nat×AV)) (es es':List AV),r12 sz es l=some es'→es'.length=es.length:=by
      intro l
      induction l with
      | nil=>intro es es' h;simp only[r12,Option.some.injEq] at h;subst h;rfl
      | cons x l ih=>
       intro es es' h
       obtain⟨i,v⟩:=x
       simp only[r12] at h
       split at h
       ·rw[ih _ _ h,List.length_set]
       ·cases h
     rw[key _ _ _ hes,List.length_replicate]
    refine ns18 (v:=.slice (some ⟨w.heap.size,0,none⟩) n n) (cap:=n) h1 hd h0 (by rw[hrow.1,hesl]) (by simp only[maxLen];have:n*1≤n*sz:=Nat.mul_le_mul_left _ h0;omega) (by rw[hesl];exact Nat.le_refl _) hrow.2.1 (fun k e j x hk hx=>?_) ?_ ?_ he
    ·obtain⟨u,hu,hu1,hr⟩:=hrow.2.2 k e j x hk hx
     exact⟨u,hu,hu1,fun _ =>by simpa using hr⟩
    ·have:=Rd.arr (w:=w.alloc (.cells cells ty)) (F:=F1) (upd nm d (some ⟨w.heap.size,sz,n,ty⟩)) d 0 n ⟨w.heap.size,sz,n,ty⟩ (if_pos rfl) (by simp) (.inr rfl)
     simpa using this
    ·have hzip:(ps.map fun x=>(x.1,a.eval x.2)).toList=(qs.map (·.1)).zip (ps.toList.map fun x=>a.eval x.2):=by
      rw[←hidx]
      simp [List.zip_map']
     have harr:n*sz=0→(Array.range (n*sz)).map (fun i=>(#[]:Array Value)[i % (#[]:Array Value).size]!)=(Array.range (n*sz)).map (fun i=>(zv.cells)[i % zv.cells.size]!):=by
      intro e;rw[e];apply Array.ext <;> simp
     simp only[execOp,ho,Instr.buildSlice,Sem.run_bind,run_underlying ht,Result.andThen_ok,sr_ hsz]
     rw[if_neg (by omega)]
     by_cases e:n*sz=0
     ·rw[if_pos e]
      simp only[Sem.run_bind,Sem.run_pure,Result.andThen_ok,harr e,hzip,hfill,newRow,run_newObj]
      rfl
     ·rw[if_neg e]
      simp only[hzrun,Result.andThen_ok,hzip,hfill,Sem.run_bind,newRow,run_newObj,Sem.run_pure]
      rfl
   ·cases he
  ·cases he
 ·cases he
end
end Go.Proofs.YtjbcfpkibnhodaaGreatDoor.Ab
namespace Go.Proofs.YtjbcfpkibnhodaaGreatDoor.Ab
open Go Go.RowKit
section
variable {P:Program} {G:Nat→Option AV} {C:Ctx} {nm:N_} {F:Nat→Prop} {st st':St} {a:Act} {w:World} {o:Oper}
theorem RelX.renew (h:RelX G C nm F st a w) {i d:Nat} {b:Box} {c:AV} {v:Value} {H:List (Nat×Box)} (hd:d<st.N) (hV:¬C.V i) (hH:∀j,hget H j=if j=i then some b else (hget st.heap j).map (p11 i))
  {w':World} {m:Option Nm} (hk:Kept C w') (hw:∀k,k<w.heap.size→(∀b m,hget st.heap i=some b→nm i=some m→k≠m.g)→w'.heap[k]? =w.heap[k]?) (hs:w.heap.size≤w'.heap.size)
  (hm:∀m',m=some m'→w.heap.size≤m'.g∨∃b m,hget st.heap i=some b∧nm i=some m∧m'.g=m.g)
  (hv:Rd w' F (upd nm i m) c v) (hb:BoxR w' F (upd nm i m) i b):
  RelX G C (upd nm i m) F {st with env:=(d,c)::p_ i st.env,heap:=H} (a.put (some d) v) w':=by
 have hn:∀j,j≠i→upd nm i m j=nm j:=fun j hj=>if_neg hj
 have hFw:∀k,F k→w'.heap[k]? =w.heap[k]? :=fun k hk=>hw k (h.good.1 k hk) fun b m hi hmi e=>h.fr i b m hi hmi (e ▸ hk)
 have get:∀j e,hget H j=some e→(j=i∧e=b)∨(j≠i∧∃c',hget st.heap j=some c'∧e=p11 i c'):=by
  intro j e hj
  rw[hH] at hj
  split at hj
  ·rename_i e;subst e;simp only[Option.some.injEq] at hj;exact .inl ⟨rfl,hj.symm⟩
  ·rename_i e
   obtain⟨c',hc',rfl⟩:=Option.map_eq_some_iff.1 hj
   exact .inr ⟨e,c',hc',rfl⟩
 have far:∀j c' m1,j≠i→hget st.heap j=some c'→nm j=some m1→∀m',m=some m'→m'.g≠m1.g:=by
  intro j c' m1 hne hc' h1 m' hm' e
  rcases hm m' hm' with hge | ⟨b0,m0,hb0,hm0,e0⟩
  ·have:=h.lt hc' h1;omega
  ·exact hne (h.inj j i c' b0 m1 m0 hc' hb0 h1 hm0 (e.symm.trans e0))
 refine⟨by simp [Act.put,h.N],h.df,fun t=>?_,fun j e hj=>?_,fun j k e f m1 m2 hj hk' h1 h2 hg=>?_,fun j e m1 hj h1 hf=>?_,fun j e m1 hj h1=>?_,
  h.good.mono hFw (fun _ h=>h) (fun k hk=>Nat.lt_of_lt_of_le (h.good.1 k hk) hs),h.f0,h.fb,hk,fun j hj=>?_⟩
 ·simp only[Act.put,St.get,eget]
  rw[gp_ _ _ _ _ (by rw[h.N];exact hd)]
  split
  ·exact hv
  ·rw[ep_];exact ((h.env t).mono hFw fun _ h=>h).purge hn
 ·rcases get j e hj with ⟨rfl,rfl⟩ | ⟨hne,c',hc',rfl⟩
  ·exact hb
  ·rcases h.box j c' hc' with ⟨e1,e2,e3,e4⟩ | ⟨m1,e1,hl⟩
   ·left
    refine⟨by simp [upd,hne,e1],?_,?_,?_⟩ <;> simp [p11,e2,e3,e4]
   ·exact .inr ⟨m1,by simp [upd,hne,e1],(hl.mono (hw _ (h.lt hc' e1) fun b m hi hmi e=>hne (h.inj j i c' b m1 m hc' hi e1 hmi e)) hFw fun _ h=>h).purge hn⟩
 ·rcases get j e hj with ⟨rfl,rfl⟩ | ⟨hne,c',hc',rfl⟩ <;> rcases get k f hk' with ⟨rfl,rfl⟩ | ⟨hne2,e',he',rfl⟩
  ·rfl
  ·simp only[upd,hne2,if_true,if_false] at h1 h2
   exact absurd hg (far k e' m2 hne2 he' h2 m1 h1)
  ·simp only[upd,hne,if_true,if_false] at h1 h2
   exact absurd hg.symm (far j c' m1 hne hc' h1 m2 h2)
  ·simp only[upd,hne,hne2,if_false] at h1 h2
   exact h.inj j k c' e' m1 m2 hc' he' h1 h2 hg
 ·rcases get j e hj with ⟨rfl,rfl⟩ | ⟨hne,c',hc',rfl⟩
  ·simp only[upd,if_true] at h1
   rcases hm m1 h1 with hge | ⟨b0,m0,hb0,hm0,e0⟩
   ·have:=h.good.1 _ hf;omega
   ·exact h.fr _ b0 m0 hb0 hm0 (e0 ▸ hf)
  ·simp only[upd,hne,if_false] at h1
   exact h.fr j c' m1 hc' h1 hf
 ·rcases get j e hj with ⟨rfl,rfl⟩ | ⟨hne,c',hc',rfl⟩
  ·simp only[upd,if_true] at h1
   rcases hm m1 h1 with hge | ⟨b0,m0,hb0,hm0,e0⟩
   ·left;have:=h.keep.size;omega
   ·rw[e0];exact h.own _ b0 m0 hb0 hm0
  ·simp only[upd,hne,if_false] at h1
   exact h.own j c' m1 hc' h1
 ·obtain⟨v1,v2,v3⟩:=h.vn j hj
  have hne:j≠i:=fun e=>hV (e ▸ hj)
  refine⟨v1,by simp only[upd,hne,if_false];exact v2,fun e he=>?_⟩
  rcases get j e he with ⟨e1,_⟩ | ⟨_,c',hc',rfl⟩
  ·exact absurd e1 hne
  ·have:=v3 c' hc'
   simp [p11,this]
def f26 (w:World) (F:Nat→Prop) (sz:Nat) (es:List AV) (us:List Value):Prop:=
 us.length=es.length*sz∧(∀e∈es,e.cells.length=sz)∧(∀u∈us,u.oneCell'=true)∧
 ∀(k:Nat) e (j:Nat) c,es[k]? =some e→e.cells[j]? =some c→∃u,us[k*sz+j]? =some u∧Rd w F n10 c u
theorem f26.append {sz:Nat} {es fs:List AV} {us vs:List Value} (h:f26 w F sz es us) (k:f26 w F sz fs vs):f26 w F sz (es++fs) (us++vs):=by
 refine⟨by rw[List.length_append,List.length_append,h.1,k.1,Nat.add_mul],fun e he=>?_,fun u hu=>?_,fun i e j c he hc=>?_⟩
 ·rcases List.mem_append.1 he with he | he
  ·exact h.2.1 e he
  ·exact k.2.1 e he
 ·rcases List.mem_append.1 hu with hu | hu
  ·exact h.2.2.1 u hu
  ·exact k.2.2.1 u hu
 ·rw[List.getElem?_append] at he
  split at he
  ·rename_i hi
   obtain⟨u,hu,hr⟩:=h.2.2.2 i e j c he hc
   exact⟨u,by rw[List.getElem?_append_left (List.getElem?_eq_some_iff.1 hu).1];exact hu,hr⟩
  ·rename_i hi
   obtain⟨u,hu,hr⟩:=k.2.2.2 (i - es.length) e j c he hc
   refine⟨u,?_,hr⟩
   have e1:i*sz+j=us.length+((i - es.length)*sz+j):=by
    rw[h.1,Nat.sub_mul]
    have:es.length*sz≤i*sz:=Nat.mul_le_mul_right _ (by omega)
    omega
   rw[e1,List.getElem?_append_right (by omega),Nat.add_sub_cancel_left]
   exact hu
theorem f26.mono {w':World} {sz:Nat} {es:List AV} {us:List Value} (h:f26 w F sz es us) (hw:∀k,F k→w'.heap[k]? =w.heap[k]?):f26 w' F sz es us:=
 ⟨h.1,h.2.1,h.2.2.1,fun k e j c he hc=>let ⟨u,hu,hr⟩:=h.2.2.2 k e j c he hc;⟨u,hu,hr.mono hw fun _ h=>h⟩⟩
theorem L_.flat {m:Nm} {b:Box} (h:L_ w F nm m b) (hrow:b.row=true) {k n:Nat} (hk:k+n≤b.es.length):
  ∃cs:Array Value,w.heap[m.g]? =some (.cells cs m.ty (0,0))∧cs.size=m.cap*m.sz∧f26 w F b.sz ((b.es.drop k).take n) ((cs.toList.drop (k*m.sz)).take (n*m.sz)):=by
 obtain⟨h1,h2,h3,cs,h4,h5,h6,h7,h8,h9⟩:=h
 have hl:((b.es.drop k).take n).length=n:=by simp;omega
 have hroom:k*m.sz+n*m.sz≤cs.size:=by
  rw[h5,←Nat.add_mul]
  exact Nat.mul_le_mul_right _ (by omega)
 have hsz:0<m.sz:=by rw[h1];exact h3
 have hat:∀p,p<n*m.sz→((cs.toList.drop (k*m.sz)).take (n*m.sz))[p]? =cs[k*m.sz+p]? :=fun p hp=>by
  rw[List.getElem?_take,if_pos hp,List.getElem?_drop]
  simp
 have hcell:∀p,p<n*m.sz→∃u,cs[k*m.sz+p]? =some u∧u.oneCell'=true:=fun p hp'=>by
  have hi:p / m.sz<n:=Nat.div_lt_of_lt_mul (by rw[Nat.mul_comm];exact hp')
  have hj:p % m.sz<m.sz:=Nat.mod_lt _ hsz
  have he:b.es[k+p / m.sz]? =some (b.es[k+p / m.sz]'(by omega)):=List.getElem?_eq_getElem (by omega)
  have hcl:=h8 _ (List.mem_of_getElem? he)
  have hc:(b.es[k+p / m.sz]'(by omega)).cells[p % m.sz]? =some ((b.es[k+p / m.sz]'(by omega)).cells[p % m.sz]'(by rw[hcl,←h1];exact hj)):=List.getElem?_eq_getElem _
  obtain⟨u,hu,hu1,_⟩:=h9 _ _ _ _ he hc
  refine⟨u,?_,hu1⟩
  rw[←hu]
  congr 1
  rw[Nat.add_mul,Nat.add_assoc,Nat.mul_comm (p / m.sz),Nat.div_add_mod]
 refine⟨cs,h4,h5,?_,fun e he=>h8 e (List.mem_of_mem_drop (List.mem_of_mem_take he)),fun u hu=>?_,fun i e j c he hc=>?_⟩
 ·rw[hl,List.length_take,List.length_drop,Array.length_toList,←h1];omega
 ·obtain⟨p,hp⟩:=List.getElem?_of_mem hu
  have hlt:p<n*m.sz:=by have:=(List.getElem?_eq_some_iff.1 hp).1;simp at this;omega
  rw[hat p hlt] at hp
  obtain⟨u',hu',h1'⟩:=hcell p hlt
  rw[hp] at hu'
  cases hu'
  exact h1'
 ·rw[List.getElem?_take] at he
  split at he
  ·rename_i hi
   rw[List.getElem?_drop] at he
   have hjs:j<m.sz:=by rw[h1,←h8 e (List.mem_of_getElem? he)];exact (List.getElem?_eq_some_iff.1 hc).1
   obtain⟨u,hu,_,hr⟩:=h9 _ e j c he hc
   rw[if_pos hrow] at hr
   refine⟨u,?_,hr⟩
   have hlt:i*b.sz+j<n*m.sz:=by
    rw[h1] at hjs ⊢
    have:(i+1)*b.sz≤n*b.sz:=Nat.mul_le_mul_right _ hi
    rw[Nat.add_mul] at this
    omega
   rw[hat _ hlt,←hu]
   congr 1
   rw[Nat.add_mul,h1,Nat.add_assoc]
  ·cases he
theorem ra13 (w:World) {t e sz bytes:Nat} (ht:P.underlying t=some (.slice e)) {i:TypeInfo} (hi:P.info? e=some i) {z:Value} (hz:i.zero=some z) (hsize:i.size=sz) (hby:i.bytes=bytes) (hzs:z.cells.size=sz) (hsz:0<sz) (ty:Nat)
  {v:Value} {n:Nat} {xs:List Value} (hown:w.ownsRow 0 e sz v n xs) {A:Option Addr} {m c:Nat} {news:List Value} (hA:A=none→m=0) (hl:news.length=m*sz) (hnews:∀a,A=some a→∀j u,news[j]? =some u→w.cell? (a.add j)=some u)
  (h1:∀u∈news,u.oneCell'=true) (h63:n+m≤maxLen) (hbytes:(n+m)*bytes≤140737488355328):
  ∃v' w',(Builtin.append_ #[t,t] ty #[v,.slice A m c]).run P w= .ok v' w'∧w'.ownsRow 0 e sz v' (n+m) (xs++news)∧w.grownBy w' v.ownBlock∧(v'.ownBlock=v.ownBlock∨v'.ownBlock=some w.heap.size):=by
 cases A with
 | some ad=>
  obtain⟨v',w',h2,h3,h4,_,h5⟩:=run_append_own_at (P:=P) w 0 t ty e i z sz bytes ht hi hz hsize hby hzs hsz v n xs hown ad m c news hl (hnews ad rfl) h1 h63 hbytes (Nat.zero_le _)
  exact⟨v',w',h2,h3,h4,h5⟩
 | none=>
  obtain rfl:=hA rfl
  have hn:news=[]:=List.eq_nil_of_length_eq_zero (by simpa using hl)
  subst hn
  refine⟨v,w,?_,by simpa using hown,⟨rfl,rfl,rfl,Nat.le_refl _,fun _ _ _ =>rfl⟩,.inl rfl⟩
  rcases hown.2 with ⟨rfl,rfl⟩ | ⟨g,cap,cur,rfl,_,_,hnc,_⟩
  ·simp [Builtin.append_,run_underlying ht,sizeOf,typeInfo,hi,Builtin.lenOf,Builtin.firstCells]
  ·simp [Builtin.append_,run_underlying ht,sizeOf,typeInfo,hi,Builtin.lenOf,Builtin.firstCells,hnc,storeCells]
theorem ns_ (h:RelX G C nm F st a w) {sz i:Nat} {y:AV} {v:Value} {es:List AV} (hy:Rd w F nm y v) (hn:news st.heap sz i y=some es) (hsz:0<sz):
  ∃A c us,v= .slice A es.length c∧(A=none→es.length=0)∧f26 w F sz es us∧∀a,A=some a→∀j u,us[j]? =some u→w.cell? (a.add j)=some u:=by
 have empty:f26 w F sz [] []:=⟨by simp,by simp,by simp,by simp⟩
 cases y <;> simp only[news,reduceCtorEq] at hn
 case nils=>simp only[Option.some.injEq] at hn;subst hn;cases hy;exact⟨none,0,[],rfl,fun _ =>rfl,empty,by simp⟩
 case seq z fs=>
  split at hn
  ·rename_i hz
   subst hz
   simp only[Option.some.injEq] at hn
   subst hn
   cases hy with
   | seq0 _ _ A cap=>exact⟨A,cap,[],rfl,fun _ =>rfl,empty,by simp⟩
   | seq _ _ _ g o cap u h0 hF hc hm hs hw h1 hr=>
    refine⟨some ⟨g,o,none⟩,cap,(List.range (fs.length*z)).map u,rfl,by simp,⟨by simp,hs,fun x hx=>?_,fun k e j c he hc=>?_⟩,fun ad ha j x hx=>?_⟩
    ·simp only[List.mem_map,List.mem_range] at hx
     obtain⟨p,hp,rfl⟩:=hx
     exact h1 p hp
    ·have hj:j<z:=by rw[←hs e (List.mem_of_getElem? he)];exact (List.getElem?_eq_some_iff.1 hc).1
     have hk:k<fs.length:=(List.getElem?_eq_some_iff.1 he).1
     have hlt:k*z+j<fs.length*z:=by
      have:(k+1)*z≤fs.length*z:=Nat.mul_le_mul_right _ hk
      rw[Nat.add_mul] at this
      omega
     exact⟨u (k*z+j),by simp [hlt],hr k e j c he hc⟩
    ·cases ha
     have hlt:j<fs.length*z:=by have:=(List.getElem?_eq_some_iff.1 hx).1;simpa using this
     simp only[List.getElem?_map,List.getElem?_range hlt,Option.map_some,Option.some.injEq] at hx
     subst hx
     rw[add_at]
     exact hw j hlt
  ·cases hn
 case arr j k m=>
  split at hn
  ·cases hn
  ·split at hn
   ·rename_i b hb
    split at hn
    ·rename_i hc
     obtain⟨hrow,hbs,hkm⟩:=hc
     simp only[Option.some.injEq] at hn
     subst hn
     have hlen:((b.es.drop k).take m).length=m:=by simp;omega
     by_cases h0:m=0
     ·subst h0
      simp only[List.take_zero]
      cases hy with
      | arr _ _ _ _ m' hi hn' hp=>exact⟨_,_,[],rfl,fun _ =>rfl,empty,by simp⟩
      | arrE _ _ _ A cap hk=>exact⟨A,cap,[],rfl,fun _ =>rfl,empty,by simp⟩
      | arrN=>exact⟨none,0,[],rfl,fun _ =>rfl,empty,by simp⟩
     ·cases hy with
      | arr _ _ _ _ m' hi hn' hp=>
       rcases h.box j b hb with ⟨hno,_⟩ | ⟨m1,hm1,hl⟩
       ·rw[hi] at hno;cases hno
       rw[hi] at hm1;cases hm1
       obtain⟨cs,h4,h5,hf⟩:=(hl.c (by omega)).flat hrow hkm
       rw[hbs] at hf
       refine⟨some ⟨m'.g,k*m'.sz,none⟩,m'.cap - k,_,by rw[hlen],by simp,hf,fun ad ha p u hu=>?_⟩
       cases ha
       rw[add_at]
       have hlt:p<m*m'.sz:=by have:=(List.getElem?_eq_some_iff.1 hu).1;simp at this;omega
       rw[List.getElem?_take,if_pos hlt,List.getElem?_drop] at hu
       simp only[World.cell?,h4,Option.isSome_none,Bool.false_eq_true,if_false]
       simpa using hu
      | arrE=>exact absurd rfl h0
      | arrN=>exact absurd rfl h0
    ·cases hn
   ·cases hn
theorem Kept.grown (h:RelX G C nm F st a w) {w':World} {row:Option Nat} (hg:w.grownBy w' row) (hr:∀k,row=some k→C.w0.heap.size≤k∨C.L k):Kept C w':=
 ⟨hg.os.trans h.keep.os,hg.tape.trans h.keep.tape,hg.output.trans h.keep.output,Nat.le_trans h.keep.size hg.size,fun b hb hL=>
  (hg.block b (Nat.lt_of_lt_of_le hb h.keep.size) (fun e=>(hr b e.symm).elim (fun h1=>by omega) hL)).trans (h.keep.block b hb hL)⟩
theorem gr_ {e sz:Nat} {v':Value} {n:Nat} {us:List Value} {w':World} (hown:w'.ownsRow 0 e sz v' n us) (hsz:0<sz) {es:List AV} (hf:f26 w' F sz es us) (hl:es.length=n) (nm:N_) (i:Nat):
  ∃m,(∀m',m=some m'→v'.ownBlock=some m'.g)∧Rd w' F (upd nm i m) (.arr i 0 n) v'∧BoxR w' F (upd nm i m) i ⟨true,e,sz,es⟩:=by
 rcases hown.2 with ⟨rfl,rfl⟩ | ⟨g,cap,cur,rfl,_,hh,hn,hm,hs,ht⟩
 ·exact⟨none,(fun _ h=>by cases h),.arrN _ _,.inl ⟨if_pos rfl,List.eq_nil_of_length_eq_zero hl,rfl,hsz⟩⟩
 ·refine⟨some ⟨g,sz,cap,e⟩,(fun m' h=>by cases h;rfl),?_,.inr ⟨⟨g,sz,cap,e⟩,if_pos rfl,.inl ⟨rfl,rfl,hsz,cur,hh,hs,by simp only[hl];exact hn,hm,hf.2.1,fun k x j c hx hc=>?_⟩⟩⟩
  ·have:=Rd.arr (w:=w') (F:=F) (upd nm i (some ⟨g,sz,cap,e⟩)) i 0 n ⟨g,sz,cap,e⟩ (if_pos rfl) (by simpa using hn) (.inr rfl)
   simpa using this
  ·obtain⟨u,hu,hr⟩:=hf.2.2.2 k x j c hx hc
   refine⟨u,?_,hf.2.2.1 u (List.mem_of_getElem? hu),by simpa using hr⟩
   rw[←ht,List.getElem?_take] at hu
   split at hu
   ·simpa using hu
   ·cases hu
theorem bs_ {t n:Nat} (h:b12 P t n=true) {i:TypeInfo} (hi:P.info? t=some i):i.bytes=n:=by
 unfold b12 at h;rw[hi] at h;simpa using h
theorem ss13 {t n:Nat} (h:szIs P t n=true) {i:TypeInfo} (hi:P.info? t=some i):i.size=n:=by
 unfold szIs at h;rw[hi] at h;simpa using h
theorem as58 (h:RelX G C nm F st a w) {args:Array Operand} {argTypes:Array Nat} {e sz bytes:Nat} {p q:Opd} (ho:o.op= .call {callee:=.builtin .append,args,argTypes})
  (hc:c10 P (.call {callee:=.builtin .append,args,argTypes}) (.app e sz bytes p q)=true) (he:aapp st o.dst e sz bytes (st.ev G p) (st.ev G q)=some st'):S_ P G C o a w st':=by
 simp only[c10] at hc
 split at hc
 ·rename_i x u t t' hargs htys
  simp only[Bool.and_eq_true,beq_iff_eq,decide_eq_true_eq] at hc
  obtain⟨⟨⟨⟨⟨⟨⟨⟨rfl,hx⟩,hu⟩,hsl⟩,hsz⟩,h0⟩,hby⟩,hb0⟩,hzero⟩:=hc
  have ht:=ss_ hsl
  split at hzero
  ·rename_i i hi
   split at hzero
   ·rename_i z hz
    simp only[beq_iff_eq] at hzero
    have hisz:=ss13 hsz hi
    have hiby:=bs_ hby hi
    have hargs':args=#[x,u]:=by rw[←Array.toArray_toList (xs:=args),hargs]
    have htys':argTypes=#[t,t]:=by rw[←Array.toArray_toList (xs:=argTypes),htys]
    have hxr:=h.opd hx
    have hur:=h.opd hu
    have run:∀v' w',(Builtin.append_ #[t,t] o.type #[a.eval x,a.eval u]).run P w= .ok v' w'→(execOp a.eval o).run P w= .ok (.value v') w':=fun v' w' hr=>by
     simp only[execOp,ho,hargs',htys',resolve,invoke,builtin,Sem.run_bind,Sem.run_pure,Result.andThen_ok,List.map_toArray,List.map_cons,List.map_nil,hr]
    generalize st.ev G p=pv at*
    generalize st.ev G q=qv at*
    cases pv <;> simp only[aapp,reduceCtorEq] at he
    case nils=>
     cases hd:o.dst with
     | none=>rw[hd] at he;cases he
     | some d=>
      rw[hd] at he
      simp only at he
      split at he
      ·rename_i es hes
       split at he
       ·rename_i hbytes
        obtain⟨A,c,us,hv,hA,hf,hcell⟩:=ns_ h hur hes h0
        cases hxr':a.eval x <;> rw[hxr'] at hxr <;> cases hxr
        have hml:es.length≤maxLen:=by simp only[maxLen];have:es.length*1≤es.length*bytes:=Nat.mul_le_mul_left _ hb0;omega
        obtain⟨v',w',hr,hown,hgr,hob⟩:=ra13 w ht hi hz hisz hiby hzero h0 o.type (World.ownsRow_nil w 0 e sz) (c:=c) hA hf.1 hcell hf.2.2.1 (by simpa using hml) (by simpa using hbytes)
        have hw:∀k,k<w.heap.size→w'.heap[k]? =w.heap[k]? :=fun k hk=>hgr.block k hk (by simp [Value.ownBlock])
        have hFw:∀k,F k→w'.heap[k]? =w.heap[k]? :=fun k hk=>hw k (h.good.1 k hk)
        simp only[Nat.zero_add,List.nil_append] at hown
        obtain⟨m,hm,hrd,hbx⟩:=gr_ (F:=F) hown h0 (hf.mono hFw) rfl nm d
        refine .inl ⟨v',w',run v' w' (by rw[hxr',hv];exact hr),upd nm d m,F,?_⟩
        rw[hd]
        refine h.new he (Kept.grown h hgr (by simp [Value.ownBlock])) hw hgr.size (fun m' hm'=>?_) hrd hbx
        have e1:=hm m' hm'
        rcases hob with e2 | e2
        ·rw[e1] at e2;simp [Value.ownBlock] at e2
        ·rw[e1] at e2;simp only[Option.some.injEq] at e2;omega
       ·cases he
      ·cases he
    case arr i' k n=>
     cases k with
     | succ k=>simp at he
     | zero=>
      simp only at he
      split at he
      ·rename_i d b es hd hb hes
       split at he
       ·rename_i hcond
        obtain⟨hrow,hty,hbs,hbl,hbytes,hdN⟩:=hcond
        simp only[Option.some.injEq] at he
        subst he
        obtain⟨A,c,us,hv,hA,hf,hcell⟩:=ns_ h hur hes h0
        -- the row as it is
        have hold:∃xs,w.ownsRow 0 e sz (a.eval x) n xs∧f26 w F sz b.es xs∧(∀g,(a.eval x).ownBlock=some g→∃m,nm i'=some m∧m.g=g):=by
         have empty:f26 w F sz [] []:=⟨by simp,by simp,by simp,by simp⟩
         generalize a.eval x=xv at hxr
         cases hxr with
         | arr _ _ _ _ m hmi hn hp=>
          rcases h.box i' b hb with ⟨hno,_⟩ | ⟨m1,hm1,hl⟩
          ·rw[hmi] at hno;cases hno
          rw[hmi] at hm1;cases hm1
          obtain⟨cs,h4,h5,hfl⟩:=(hl.c (by omega)).flat hrow (k:=0) (n:=n) (by omega)
          obtain⟨h1,h2,h3,_,_,_,_,h7,_,_⟩:=hl.c (by omega)
          have e1:(b.es.drop 0).take n=b.es:=by rw[List.drop_zero,←hbl,List.take_length]
          rw[e1,hbs] at hfl
          refine⟨_,⟨?_,.inr ⟨m.g,m.cap,cs,by simp,Nat.zero_le _,by rw[←hty,←h2];exact h4,by simpa using hn,h7,by rw[h5,h1,hbs],rfl⟩⟩,?_,fun g hg=>⟨m,hmi,by simpa [Value.ownBlock] using hg⟩⟩
          ·have:=hfl.1
           rw[hbl,h1,hbs] at this
           simpa using this
          ·simp only[Nat.zero_mul,List.drop_zero,h1,hbs] at hfl
           exact hfl
         | arrE _ _ _ _ _ hk=>omega
         | arrN _ _ =>
          have e1:b.es=[]:=List.eq_nil_of_length_eq_zero hbl
          refine⟨[],World.ownsRow_nil w 0 e sz,by rw[e1];exact empty,fun g hg=>by simp [Value.ownBlock] at hg⟩
        obtain⟨xs,hown0,hfl,hblk⟩:=hold
        have hml:n+es.length≤maxLen:=by simp only[maxLen];have:(n+es.length)*1≤(n+es.length)*bytes:=Nat.mul_le_mul_left _ hb0;omega
        obtain⟨v',w',hr,hown,hgr,hob⟩:=ra13 w ht hi hz hisz hiby hzero h0 o.type hown0 (c:=c) hA hf.1 hcell hf.2.2.1 hml hbytes
        have hw:∀k,k<w.heap.size→(∀b m,hget st.heap i'=some b→nm i'=some m→k≠m.g)→w'.heap[k]? =w.heap[k]? :=fun k hk hne=>hgr.block k hk (fun e=>by
         obtain⟨m,hm,rfl⟩:=hblk k e.symm
         exact hne b m hb hm rfl)
        have hFw:∀k,F k→w'.heap[k]? =w.heap[k]? :=fun k hk=>hw k (h.good.1 k hk) (fun b m hb hm e=>h.fr i' b m hb hm (e ▸ hk))
        obtain⟨m,hm,hrd,hbx⟩:=gr_ (F:=F) hown h0 ((hfl.append hf).mono hFw) (by rw[List.length_append,hbl]) nm i'
        refine .inl ⟨v',w',run v' w' (by rw[hv];exact hr),upd nm i' m,F,?_⟩
        rw[hd]
        refine h.renew (b:=⟨true,e,sz,b.es++es⟩) hdN (fun hv=>by have:=(h.vn _ hv).2.2 b hb;rw[hrow] at this;cases this) (fun j=>?_) (Kept.grown h hgr (fun k hk=>?_)) hw hgr.size (fun m' hm'=>?_) hrd hbx
        ·rw[hh_]
         by_cases hj:i'=j
         ·subst hj
          rw[if_pos rfl,if_pos rfl]
          cases b
          simp only at hrow hty hbs
          subst hrow;subst hty;subst hbs
          rfl
         ·rw[if_neg hj,if_neg (fun e=>hj e.symm),hp_,if_neg (fun e=>hj e.symm)]
        ·obtain⟨m1,hm1,rfl⟩:=hblk k hk
         exact h.own i' b m1 hb hm1
        ·have e1:=hm m' hm'
         rcases hob with e2 | e2
         ·rw[e1] at e2
          obtain⟨m1,hm1,e3⟩:=hblk _ e2.symm
          exact .inr ⟨b,m1,hb,hm1,e3.symm⟩
         ·rw[e1] at e2
          simp only[Option.some.injEq] at e2
          exact .inl (by omega)
       ·cases he
      ·cases he
   ·cases hzero
  ·cases hzero
 ·cases hc
end
end Go.Proofs.YtjbcfpkibnhodaaGreatDoor.Ab
