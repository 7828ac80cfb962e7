/-
  What a monitor has as bytes and back, plainly (for chapter 38). The writer of chapter 38, plainly: what it has written, and what is wrong. No claim is proved here.
-/
import Derived.Test.YtkejmcgngblfnaaGreatDoorYSv1
namespace Go.Proofs.YtkejmcgngblfnaaGreatDoor.Ab
open Go
def in31 (n:Int):Prop:=0≤n∧n<2147483648
instance (n:Int):Decidable (in31 n):=inferInstanceAs (Decidable (_ ∧_))
def intB (n:Int):List UInt8:=f10 n.toNat
def intP (b:List UInt8):Option (Int×List UInt8):=(numP b).map fun x=>((x.1:Int),x.2)
theorem ip_:PP in31 intB intP where
 fwd:=by
  intro n r hn
  unfold in31 at hn
  unfold intP intB
  rw[np12.fwd n.toNat r (by omega),Option.map_some]
  simp only[Option.some.injEq,Prod.mk.injEq,and_true]
  omega
 bwd:=by
  intro b n r h
  obtain⟨⟨m,q⟩,hq,e⟩:=Option.map_eq_some_iff.1 h
  simp only[Prod.mk.injEq] at e
  obtain⟨rfl,rfl⟩:=e
  obtain⟨h1,h2⟩:=np12.bwd _ _ _ hq
  exact⟨⟨by omega,by omega⟩,by rw[h2];rfl⟩
theorem in10 (n:Int):intB n≠[]:=by simp [intB,f10]
abbrev VRow:=List (Int×Val)×List (Int×List Val)
def s20 (s:Int×Val):List UInt8:=intB s.1++k_ s.2
def cfgB (c:Int×List Val):List UInt8:=intB c.1++l10 k_ c.2
def rowB (r:VRow):List UInt8:=l10 s20 r.1++l10 cfgB r.2
def g11 (v:Val):Prop:=v.ok=true∧i64 v.int
def g_ (l:List Val):Prop:=l.length<2147483648∧∀v∈l,g11 v
def g13 (r:VRow):Prop:=(r.1.length<2147483648∧∀s∈r.1,in31 s.1∧g11 s.2)∧(r.2.length<2147483648∧∀c∈r.2,in31 c.1∧g_ c.2)
def s34:=seqP intP valP
def cfgP:=seqP intP (l17 valP)
def rowP:=seqP (l17 s34) (l17 cfgP)
theorem sp11:PP (fun s:Int×Val=>in31 s.1∧g11 s.2) s20 s34:=sp_ ip_ vp10
theorem vp_:PP g_ (l10 k_) (l17 valP):=lp_ vp10 kn_
theorem cp12:PP (fun c:Int×List Val=>in31 c.1∧g_ c.2) cfgB cfgP:=sp_ ip_ vp_
theorem an_ {a b:List UInt8} (h:a≠[]):a++b≠[]:=fun e=>h (List.append_eq_nil_iff.1 e).1
theorem rp_:PP g13 rowB rowP:=sp_ (lp_ sp11 fun s=>an_ (in10 s.1)) (lp_ cp12 fun c=>an_ (in10 c.1))
theorem rn_ (r:VRow):rowB r≠[]:=an_ (ln_ _)
structure V_ where
 taken:Int
 most:Int
 made:Int
 stopped:Int
 doms:List (List Val)
 rows:List VRow
def V_.none:V_:=⟨0,0,0,0,[],[]⟩
def s19 (s:V_):List UInt8:=81::(intB s.taken++(intB s.most++(intB s.made++(intB s.stopped++(l10 (l10 k_) s.doms++l10 rowB s.rows)))))
def s27:=seqP intP (seqP intP (seqP intP (seqP intP (seqP (l17 (l17 valP)) (l17 rowP)))))
def g10 (s:V_):Prop:=in31 s.taken∧in31 s.most∧in31 s.made∧in31 s.stopped∧(s.doms.length<2147483648∧∀l∈s.doms,g_ l)∧s.rows.length<2147483648∧∀r∈s.rows,g13 r
theorem sp10:PP (fun x:Int×Int×Int×Int×List (List Val)×List VRow=>in31 x.1∧in31 x.2.1∧in31 x.2.2.1∧in31 x.2.2.2.1∧(x.2.2.2.2.1.length<2147483648∧∀l∈x.2.2.2.2.1,g_ l)∧x.2.2.2.2.2.length<2147483648∧∀r∈x.2.2.2.2.2,g13 r)
  (fun x=>intB x.1++(intB x.2.1++(intB x.2.2.1++(intB x.2.2.2.1++(l10 (l10 k_) x.2.2.2.2.1++l10 rowB x.2.2.2.2.2))))) s27:=
 sp_ ip_ (sp_ ip_ (sp_ ip_ (sp_ ip_ (sp_ (lp_ vp_ ln_) (lp_ rp_ rn_)))))
def s35:Option ((Int×Int×Int×Int×List (List Val)×List VRow)×List UInt8)→Option V_
 | some (x,[])=>some ⟨x.1,x.2.1,x.2.2.1,x.2.2.2.1,x.2.2.2.2.1,x.2.2.2.2.2⟩
 | _ =>Option.none
def s30:List UInt8→Option V_
 | []=>Option.none
 | c::r=>if c=81 then s35 (s27 r) else Option.none
theorem sc_ (c:UInt8) (r:List UInt8):s30 (c::r)=if c=81 then s35 (s27 r) else Option.none:=rfl
theorem sb10 (b:List UInt8) (s:V_) (h:s30 b=some s):g10 s∧b=s19 s:=by
 match b,h with
 | c::r,h=>
  rw[sc_] at h
  split at h
  ·rename_i hc
   subst hc
   generalize hq:s27 r=o at h
   match o,h with
   | some (x,[]),h=>
    cases h
    obtain⟨g,e⟩:=sp10.bwd _ _ _ hq
    refine⟨g,?_⟩
    rw[e,List.append_nil]
    rfl
  ·cases h
def o_ (n:Int):Bool:=!decide (in31 n)
def o10 (l:List Val):Bool:=l.any fun v=>!v.ok
def farR (r:VRow):Bool:=r.1.any (fun s=>o_ s.1)||r.2.any fun c=>o_ c.1
def o11 (r:VRow):Bool:=r.1.any (fun s=>!s.2.ok)||r.2.any fun c=>o10 c.2
def farS (s:V_):Bool:=o_ s.taken||o_ s.most||o_ s.made||o_ s.stopped||s.rows.any farR
def oddS (s:V_):Bool:=s.doms.any o10||s.rows.any o11
def badS (s:V_):Int:=if farS s then 5 else if oddS s then 8 else 0
def s28 (s:V_):Prop:=(s.doms.length<2147483648∧∀l∈s.doms,l.length<2147483648∧∀v∈l,i64 v.int)∧
 s.rows.length<2147483648∧∀r∈s.rows,(r.1.length<2147483648∧∀x∈r.1,i64 x.2.int)∧r.2.length<2147483648∧∀c∈r.2,c.2.length<2147483648∧∀v∈c.2,i64 v.int
theorem on_ {n:Int} (h:o_ n=false):in31 n:=by simpa [o_] using h
theorem oo_ {n:Int} (h:in31 n):o_ n=false:=by simpa [o_] using h
theorem gob_ {s:V_} (hz:s28 s) (hb:badS s=0):g10 s:=by
 unfold badS at hb
 split at hb
 ·omega
 split at hb
 ·omega
 rename_i h1 h2
 simp only[farS,Bool.or_eq_true,not_or,Bool.not_eq_true,List.any_eq_false] at h1
 simp only[oddS,Bool.or_eq_true,not_or,Bool.not_eq_true,List.any_eq_false] at h2
 obtain⟨⟨⟨⟨a1,a2⟩,a3⟩,a4⟩,a5⟩:=h1
 obtain⟨c1,c2⟩:=h2
 obtain⟨⟨z1,z2⟩,z3,z4⟩:=hz
 have vs:∀l:List Val,o10 l=false→l.length<2147483648→(∀v∈l,i64 v.int)→g_ l:=fun l ho hl hi=>
  ⟨hl,fun v hv=>⟨by have:=(List.any_eq_false.1 ho) v hv;simpa using this,hi v hv⟩⟩
 refine⟨on_ a1,on_ a2,on_ a3,on_ a4,⟨z1,fun l hl=>vs l (c1 l hl) (z2 l hl).1 (z2 l hl).2⟩,z3,fun r hr=>?_⟩
 have f:=a5 r hr
 have o:=c2 r hr
 have z:=z4 r hr
 simp only[farR,Bool.or_eq_false_iff,List.any_eq_false] at f
 simp only[o11,Bool.or_eq_false_iff,List.any_eq_false] at o
 refine⟨⟨z.1.1,fun x hx=>⟨on_ (by simpa using f.1 x hx),by simpa using o.1 x hx,z.1.2 x hx⟩⟩,z.2.1,fun c hc=>⟨on_ (by simpa using f.2 c hc),vs _ (by simpa using o.2 c hc) (z.2.2 c hc).1 (z.2.2 c hc).2⟩⟩
theorem bog_ {s:V_} (h:g10 s):badS s=0:=by
 obtain⟨h1,h2,h3,h4,h5,h6,h7⟩:=h
 have vs:∀l:List Val,g_ l→o10 l=false:=fun l hl=>List.any_eq_false.2 fun v hv=>by simp [(hl.2 v hv).1]
 have f:farS s=false:=by
  unfold farS
  rw[oo_ h1,oo_ h2,oo_ h3,oo_ h4]
  simp only[Bool.false_or]
  refine List.any_eq_false.2 fun r hr=>?_
  have g:=h7 r hr
  simp only[farR,Bool.or_eq_true,not_or,Bool.not_eq_true,List.any_eq_false]
  exact⟨fun x hx=>by simp [oo_ (g.1.2 x hx).1],fun c hc=>by simp [oo_ (g.2.2 c hc).1]⟩
 have o:oddS s=false:=by
  unfold oddS
  rw[Bool.or_eq_false_iff]
  refine⟨List.any_eq_false.2 fun l hl=>by simp [vs l (h5.2 l hl)],List.any_eq_false.2 fun r hr=>?_⟩
  have g:=h7 r hr
  simp only[o11,Bool.or_eq_true,not_or,Bool.not_eq_true,List.any_eq_false]
  exact⟨fun x hx=>by simp [(g.1.2 x hx).2.1],fun c hc=>by simp [vs c.2 (g.2.2 c hc).2]⟩
 unfold badS
 rw[f,o]
 rfl
end Go.Proofs.YtkejmcgngblfnaaGreatDoor.Ab
namespace Go.Proofs.YtkejmcgngblfnaaGreatDoor.Ab
open Go
abbrev WS:=List UInt8×Int
def w_ (w:WS) (e:Int):WS:=if w.2=0∨e=5 then (w.1,e) else w
def numW (w:WS) (n:Int):WS:=if n<0∨2147483647<n then w_ w 5 else (w.1++intB n,w.2)
def valW (w:WS) (v:Val):WS:=if v.ok=true then (w.1++k_ v,w.2) else w_ w 8
def v12 (w:WS) (l:List Val):WS:=l.foldl valW (numW w l.length)
def s23 (w:WS) (s:Int×Val):WS:=valW (numW w s.1) s.2
def cfgW (w:WS) (c:Int×List Val):WS:=v12 (numW w c.1) c.2
def rowW (w:WS) (r:VRow):WS:=r.2.foldl cfgW (numW (r.1.foldl s23 (numW w r.1.length)) r.2.length)
def s21 (s:V_):WS:=
 s.rows.foldl rowW (numW (s.doms.foldl v12 (numW (numW (numW (numW (numW ([81],0) s.taken) s.most) s.made) s.stopped) s.doms.length)) s.rows.length)
def c33 (f o:Bool):Int:=if f then 5 else if o then 8 else 0
def Wr (w:WS) (f o:Bool) (b:List UInt8):Prop:=w.2=c33 f o∧(f=false→o=false→w.1=b)
theorem Wr.num {w:WS} {f o:Bool} {b:List UInt8} (h:Wr w f o b) (n:Int):Wr (numW w n) (f||o_ n) o (b++intB n):=by
 obtain⟨h1,h2⟩:=h
 unfold numW
 split
 ·rename_i hn
  have ho:o_ n=true:=by
   have:¬in31 n:=fun h=>by unfold in31 at h;omega
   simpa [o_] using this
  rw[ho,Bool.or_true]
  refine⟨?_,fun e=>by cases e⟩
  unfold w_
  rw[if_pos (Or.inr rfl)]
  rfl
 ·rename_i hn
  have ho:o_ n=false:=oo_ ⟨by omega,by omega⟩
  rw[ho,Bool.or_false]
  exact⟨h1,fun e1 e2=>by rw[h2 e1 e2]⟩
theorem Wr.val {w:WS} {f o:Bool} {b:List UInt8} (h:Wr w f o b) (v:Val):Wr (valW w v) f (o|| !v.ok) (b++k_ v):=by
 obtain⟨h1,h2⟩:=h
 unfold valW
 split
 ·rename_i hv
  rw[hv]
  simp only[Bool.not_true,Bool.or_false]
  exact⟨h1,fun e1 e2=>by rw[h2 e1 e2]⟩
 ·rename_i hv
  have hv:v.ok=false:=by simpa using hv
  rw[hv]
  simp only[Bool.not_false,Bool.or_true]
  refine⟨?_,fun _ e=>by cases e⟩
  unfold w_
  cases f
  ·cases o
   ·have h1:w.2=0:=h1
    rw[if_pos (Or.inl h1)]
    rfl
   ·rw[if_neg (by rw[h1];decide),h1]
  ·rw[if_neg (by rw[h1];cases o <;> decide),h1]
   rfl
theorem Wr.each {α:Type} {st:WS→α→WS} {far odd:α→Bool} {pr:α→List UInt8} (hst:∀w f o b a,Wr w f o b→Wr (st w a) (f||far a) (o||odd a) (b++pr a)):
  ∀(l:List α) (w:WS) (f o:Bool) (b:List UInt8),Wr w f o b→Wr (l.foldl st w) (f||l.any far) (o||l.any odd) (b++l.flatMap pr)
 | [],w,f,o,b,h=>by simpa using h
 | a::l,w,f,o,b,h=>by
  have:=Wr.each hst l _ _ _ _ (hst w f o b a h)
  simpa [Bool.or_assoc,List.append_assoc] using this
theorem ln12 {n:Nat} (h:n<2147483648):o_ n=false:=oo_ ⟨by omega,by omega⟩
theorem Wr.vals {w:WS} {f o:Bool} {b:List UInt8} (h:Wr w f o b) (l:List Val) (hl:l.length<2147483648):Wr (v12 w l) f (o||o10 l) (b++l10 k_ l):=by
 have:=Wr.each (st:=valW) (far:=fun _ =>false) (odd:=fun v=>!v.ok) (pr:=k_) (fun w f o b a h=>by simpa using h.val a) l _ _ _ _ (h.num l.length)
 rw[ln12 hl] at this
 have e:intB (l.length:Int)=f10 l.length:=rfl
 have z:∀l:List Val,l.any (fun _ =>false)=false:=fun l=>List.any_eq_false.2 fun _ _ =>by decide
 rw[z,e,List.append_assoc] at this
 simpa [v12,o10,l10] using this
theorem Wr.list {α:Type} {st:WS→α→WS} {far odd:α→Bool} {pr:α→List UInt8} {ok:α→Prop} (hst:∀w f o b a,ok a→Wr w f o b→Wr (st w a) (f||far a) (o||odd a) (b++pr a)):
  ∀(l:List α) (w:WS) (f o:Bool) (b:List UInt8),(∀a∈l,ok a)→Wr w f o b→Wr (l.foldl st w) (f||l.any far) (o||l.any odd) (b++l.flatMap pr)
 | [],w,f,o,b,_,h=>by simpa using h
 | a::l,w,f,o,b,hl,h=>by
  have:=Wr.list hst l _ _ _ _ (fun x hx=>hl x (List.mem_cons_of_mem _ hx)) (hst w f o b a (hl a List.mem_cons_self) h)
  simpa [Bool.or_assoc,List.append_assoc] using this
theorem Wr.lists {α:Type} {st:WS→α→WS} {far odd:α→Bool} {pr:α→List UInt8} {ok:α→Prop} (hst:∀w f o b a,ok a→Wr w f o b→Wr (st w a) (f||far a) (o||odd a) (b++pr a))
  (l:List α) (w:WS) (f o:Bool) (b:List UInt8) (hn:l.length<2147483648) (hl:∀a∈l,ok a) (h:Wr w f o b):Wr (l.foldl st (numW w l.length)) (f||l.any far) (o||l.any odd) (b++l10 pr l):=by
 have:=Wr.list hst l _ _ _ _ hl (h.num l.length)
 rw[ln12 hn,Bool.or_false,List.append_assoc] at this
 exact this
theorem Wr.row {w:WS} {f o:Bool} {b:List UInt8} (h:Wr w f o b) (r:VRow) (h1:r.1.length<2147483648) (h2:r.2.length<2147483648) (h3:∀c∈r.2,c.2.length<2147483648):Wr (rowW w r) (f||farR r) (o||o11 r) (b++rowB r):=by
 have a:=Wr.lists (st:=s23) (far:=fun s=>o_ s.1) (odd:=fun s=>!s.2.ok) (pr:=s20) (ok:=fun _ =>True) (fun w f o b s _ h=>by
  have:=(h.num s.1).val s.2
  rw[List.append_assoc] at this
  exact this) r.1 w f o b h1 (fun _ _ =>trivial) h
 have c:=Wr.lists (st:=cfgW) (far:=fun c=>o_ c.1) (odd:=fun c=>o10 c.2) (pr:=cfgB) (ok:=fun c=>c.2.length<2147483648) (fun w f o b c hc h=>by
  have:=(h.num c.1).vals c.2 hc
  rw[List.append_assoc] at this
  exact this) r.2 _ _ _ _ h2 h3 a
 rw[Bool.or_assoc,Bool.or_assoc,List.append_assoc] at c
 exact c
theorem sw_ (s:V_) (hz:s28 s):Wr (s21 s) (farS s) (oddS s) (s19 s):=by
 have h0:Wr ([81],0) false false [81]:=⟨rfl,fun _ _ =>rfl⟩
 obtain⟨⟨z1,z2⟩,z3,z4⟩:=hz
 have h1:=(((h0.num s.taken).num s.most).num s.made).num s.stopped
 have h2:=Wr.lists (st:=v12) (far:=fun _ =>false) (odd:=o10) (pr:=l10 k_) (ok:=fun l=>l.length<2147483648) (fun w f o b l hl h=>by simpa using h.vals l hl) s.doms _ _ _ _ z1 (fun l hl=>(z2 l hl).1) h1
 have h3:=Wr.lists (st:=rowW) (far:=farR) (odd:=o11) (pr:=rowB) (ok:=fun r=>r.1.length<2147483648∧r.2.length<2147483648∧∀c∈r.2,c.2.length<2147483648) (fun w f o b r hr h=>h.row r hr.1 hr.2.1 hr.2.2) s.rows _ _ _ _ z3 (fun r hr=>⟨(z4 r hr).1.1,(z4 r hr).2.1,fun c hc=>((z4 r hr).2.2 c hc).1⟩) h2
 have z:∀l:List (List Val),l.any (fun _ =>false)=false:=fun l=>List.any_eq_false.2 fun _ _ =>by decide
 rw[z] at h3
 unfold s21
 simpa [farS,oddS,s19,List.append_assoc] using h3
theorem pi_ (s:V_) (hz:s28 s):(s21 s).2=badS s∧(badS s=0→(s21 s).1=s19 s):=by
 obtain⟨h1,h2⟩:=sw_ s hz
 refine⟨h1,fun hb=>?_⟩
 unfold badS at hb
 split at hb
 ·omega
 split at hb
 ·omega
 rename_i a c
 exact h2 (by simpa using a) (by simpa using c)
end Go.Proofs.YtkejmcgngblfnaaGreatDoor.Ab
