/-
  clear: what the model's run gives is what the abstract operation says. No claim is proved here.
-/
import Derived.Test.YtkejmcgngblfnaaGreatDoorYAbStep7
namespace Go.Proofs.YtkejmcgngblfnaaGreatDoor.Ab
open Go Go.RowKit
section
variable {P:Program} {G:Nat→Option AV} {C:Ctx} {nm:N_} {F:Nat→Prop} {st st':St} {a:Act} {w:World} {o:Oper}
theorem zr10 {z:AV} {zv:Value} {n sz:Nat} (hzr:Rd w F n_ z zv) (hfz:fits z sz=true):RowR w F n_ sz (List.replicate n z) (Builtin.zeroCells zv.cells n):=by
 obtain⟨hzs,hzc⟩:=ck_ hzr hfz
 obtain⟨_,hzl,_⟩:=fs_ hfz
 refine⟨by simp [Builtin.zeroCells,hzs],fun e he=>by rw[List.eq_of_mem_replicate he];exact hzl,fun k e j c hk hj=>?_⟩
 have hkn:k<n:=by have:=(List.getElem?_eq_some_iff.1 hk).1;simpa using this
 have hez:e=z:=List.eq_of_mem_replicate (List.mem_of_getElem? hk)
 subst hez
 have hjs:j<sz:=by rw[←hzl];exact (List.getElem?_eq_some_iff.1 hj).1
 obtain⟨u,hu,hu1,hr⟩:=hzc j c hj
 have hlt:k*sz+j<n*sz:=by
  have:(k+1)*sz≤n*sz:=Nat.mul_le_mul_right _ hkn
  rw[Nat.add_mul] at this
  omega
 refine⟨u,?_,hu1,hr⟩
 have hmod:(k*sz+j) % sz=j:=by rw[Nat.add_comm,Nat.add_mul_mod_self_right,Nat.mod_eq_of_lt hjs]
 simp only[Builtin.zeroCells,Array.getElem?_map,Array.getElem?_range,hzs,hlt,if_true,Option.map_some,hmod]
 rw[getElem!_pos zv.cells j (by rw[hzs];exact hjs)]
 rw[Array.getElem?_eq_getElem (by rw[hzs];exact hjs)] at hu
 exact hu
theorem cs25 (h:RelX G C nm F st a w) {args:Array Operand} {argTypes:Array Nat} {sz:Nat} {z:AV} {p:Opd} (ho:o.op= .call {callee:=.builtin .clear,args,argTypes})
  (hc:c10 P (.call {callee:=.builtin .clear,args,argTypes}) (.clr sz z p)=true) (he:aclr st o.dst sz z (st.ev G p)=some st'):S_ P G C o a w st':=by
 simp only[c10] at hc
 split at hc
 ·rename_i x t hargs htys
  simp only[Bool.and_eq_true] at hc
  obtain⟨hx,hc⟩:=hc
  split at hc
  ·rename_i e ht
   simp only[Bool.and_eq_true,decide_eq_true_eq] at hc
   obtain⟨⟨⟨hsz,h0⟩,hz⟩,hfz⟩:=hc
   obtain⟨zv,hzrun,hzrep,_⟩:=zs_ hz
   have hargs':args=#[x]:=by rw[←Array.toArray_toList (xs:=args),hargs]
   have htys':argTypes=#[t]:=by rw[←Array.toArray_toList (xs:=argTypes),htys]
   have hp:=h.opd hx
   have run:∀v' w',(Builtin.clear_ #[t] o.type #[a.eval x]).run P w= .ok v' w'→(execOp a.eval o).run P w= .ok (.value v') w':=fun v' w' hr=>by
    simp only[execOp,ho,hargs',htys',resolve,invoke,builtin,Sem.run_bind,Sem.run_pure,Result.andThen_ok,List.map_toArray,List.map_cons,List.map_nil,hr]
   generalize st.ev G p=pv at*
   generalize hev:a.eval x=xv at*
   cases pv <;> simp only[aclr,reduceCtorEq] at he
   case arr i k n=>
    split at he
    ·rename_i b hb
     split at he
     ·rename_i hcond
      obtain⟨hn,hrow,hb0,hbsz,hkn⟩:=hcond
      cases hp with
      | arr _ _ _ _ m hi hmn hpos=>
       rcases h.box i b hb with ⟨hnn,_⟩ | ⟨m',hm',hl⟩
       ·rw[hi] at hnn;cases hnn
       rw[hi] at hm';cases hm'
       obtain⟨h1,h2,h3,cs,h4,h5,h6,h7,h8,h9⟩:=hl.c hb0
       have hmsz:m.sz=sz:=h1.trans hbsz
       have hFw:∀(l:List Value) bl,F bl→(w.setRow m.g l.toArray).heap[bl]? =w.heap[bl]? :=
        fun l bl hbl=>setRow_other w m.g bl _ (fun e=>h.fr i b m hb hi (e ▸ hbl))
       have hZ:=zr10 (w:=w) (F:=F) (n:=n) (rr_ hzrep) hfz
       obtain⟨hzs,hzc⟩:=ck_ (w:=w) (F:=F) (nm:=n_) (rr_ hzrep) hfz
       have hlen:(Builtin.zeroCells zv.cells n).toList.length=n*sz:=by simpa using hZ.1
       have hroom:k*m.sz+n*sz≤cs.size:=by
        rw[h5,hmsz]
        have:(k+n)*sz≤m.cap*sz:=Nat.mul_le_mul_right _ (by omega)
        rw[Nat.add_mul] at this
        omega
       have hone:∀u∈(Builtin.zeroCells zv.cells n).toList,u.oneCell'=true:=fun u hu=>by
        obtain⟨q,hq⟩:=List.getElem?_of_mem hu
        have hqn:q<n*sz:=by rw[←hlen];exact (List.getElem?_eq_some_iff.1 hq).1
        obtain⟨_,hzl,_⟩:=fs_ hfz
        have hdiv:q / sz<n:=(Nat.div_lt_iff_lt_mul h0).2 hqn
        have hmod:q % sz<sz:=Nat.mod_lt _ h0
        obtain⟨u',hu',hu1,_⟩:=hZ.2.2 (q / sz) z (q % sz) _ (by rw[List.getElem?_replicate,if_pos hdiv]) (List.getElem?_eq_getElem (by rw[hzl];exact hmod))
        rw[Nat.div_add_mod' q sz] at hu'
        have:(Builtin.zeroCells zv.cells n).toList[q]? =some u':=by simpa using hu'
        rw[this] at hq;cases hq
        exact hu1
       have hst:=run_storeCells_at P m.g (k*m.sz) m.ty (Builtin.zeroCells zv.cells n).toList 0 cs w h4 (by simp only[Nat.add_zero,hlen];exact hroom) hone
       simp only[Nat.add_zero,hlen] at hst
       obtain⟨n',rfl⟩:∃n',n=n'+1:=⟨n - 1,by omega⟩
       have hrun:(Builtin.clear_ #[t] o.type #[.slice (some ⟨m.g,k*m.sz,none⟩) (n'+1) (m.cap - k)]).run P w= .ok (.tuple #[]) (w.setRow m.g (cs.toList.take (k*m.sz)++(Builtin.zeroCells zv.cells (n'+1)).toList++cs.toList.drop (k*m.sz+(n'+1)*sz)).toArray):=by
        simp [Builtin.clear_,run_underlying ht,hzrun,hst]
       refine .inl ⟨_,_,run _ _ hrun,nm,F,?_⟩
       refine RelX.put (st:={st with heap:=hset st.heap i {b with es:=b.es.take k++List.replicate (n'+1) z++b.es.drop (k+(n'+1))}}) ?_ (.tup _ [] [] rfl fun j c u hj=>by simp at hj) he
       refine h.setBox hb hi rfl rfl rfl (by simp [World.setRow]) rfl (fun j hj=>setRow_other w m.g j _ hj) ?_
       refine .inl ⟨h1,h2,h3,_,setRow_heap w m.g cs _ m.ty (0,0) h4,?_,?_,h7,fun x hx=>?_,fun k' x j c hx hc=>?_⟩
       ·simp only[List.size_toArray,List.length_append,List.length_take,List.length_drop,Array.length_toList,hlen]
        omega
       ·simp only[List.length_append,List.length_take,List.length_drop,List.length_replicate]
        omega
       ·simp only[List.mem_append] at hx
        rcases hx with (hx | hx) | hx
        ·exact h8 x (List.mem_of_mem_take hx)
        ·rw[List.eq_of_mem_replicate hx,hbsz]
         exact (fs_ hfz).2.1
        ·exact h8 x (List.mem_of_mem_drop hx)
       ·have hat:=sa11 cs (Builtin.zeroCells zv.cells (n'+1)).toList (k*m.sz) (k'*m.sz+j) (by rw[hlen];exact hroom)
        rw[hlen] at hat
        simp only[hat]
        have hjlt:j<m.sz:=by
         have hx':x.cells.length=b.sz:=by
          have hm:=List.mem_of_getElem? hx
          simp only[List.mem_append] at hm
          rcases hm with (hm | hm) | hm
          ·exact h8 x (List.mem_of_mem_take hm)
          ·rw[List.eq_of_mem_replicate hm,hbsz]
           exact (fs_ hfz).2.1
          ·exact h8 x (List.mem_of_mem_drop hm)
         rw[h1,←hx']
         exact (List.getElem?_eq_some_iff.1 hc).1
        have e1:(b.es.take k).length=k:=by rw[List.length_take];omega
        have e2:(List.replicate (n'+1) z).length=n'+1:=by simp
        rcases Nat.lt_or_ge k' k with hk | hk
        ·rw[List.append_assoc,List.getElem?_append_left (by omega),List.getElem?_take,if_pos hk] at hx
         have:(k'+1)*m.sz≤k*m.sz:=Nat.mul_le_mul_right _ hk
         rw[Nat.add_mul] at this
         rw[if_neg (by omega)]
         obtain⟨u,hu,hu1,hr⟩:=h9 k' x j c hx hc
         exact⟨u,hu,hu1,hr.mono (hFw _) fun _ h=>h⟩
        ·rcases Nat.lt_or_ge k' (k+(n'+1)) with hk2 | hk2
         ·rw[List.append_assoc,List.getElem?_append_right (by omega),List.getElem?_append_left (by omega),e1] at hx
          obtain⟨u,hu,hu1,hr⟩:=hZ.2.2 (k' - k) x j c hx hc
          have a1:(k' - k)*sz=k'*sz - k*sz:=Nat.sub_mul _ _ _
          have a2:k*sz≤k'*sz:=Nat.mul_le_mul_right _ hk
          have a3:(k'+1)*sz≤(k+(n'+1))*sz:=Nat.mul_le_mul_right _ hk2
          rw[Nat.add_mul,Nat.add_mul] at a3
          rw[hmsz] at hjlt ⊢
          rw[if_pos (by omega),show k'*sz+j - k*sz=(k' - k)*sz+j by omega]
          refine⟨u,by simpa using hu,hu1,?_⟩
          rw[if_pos hrow]
          exact hr.mono (hFw _) fun _ h=>h
         ·rw[List.getElem?_append_right (by simp only[List.length_append,e1,e2];omega),List.length_append,e1,e2,List.getElem?_drop,show k+(n'+1)+(k' - (k+(n'+1)))=k' by omega] at hx
          have:(k+(n'+1))*sz≤k'*sz:=Nat.mul_le_mul_right _ hk2
          rw[Nat.add_mul] at this
          rw[if_neg (by rw[hmsz];omega)]
          obtain⟨u,hu,hu1,hr⟩:=h9 k' x j c hx hc
          exact⟨u,hu,hu1,hr.mono (hFw _) fun _ h=>h⟩
      | arrE=>omega
      | arrN=>omega
     ·cases he
    ·cases he
  ·cases hc
 ·cases hc
end
end Go.Proofs.YtkejmcgngblfnaaGreatDoor.Ab
