/- Rows of operations whose order is open: the proof. -/
import Derived.Test.YtameldglfobjkaaGreatL6P8
set_option linter.unusedSimpArgs false
set_option linter.unusedVariables false
namespace Go.Ab
theorem vK{l:List Oper}{log:List Rec} :∀ {q:List (Nat × Oper × Rec)},vG l log q=true->∀t∈q,
 (∀i r,log[i]? =some r->i<t.1->lS r t.2.2=true->∃n,NW l n t.2.1 i=true)/\∀e∈t.2.1.after.toList,Region.binds .any e=true->e.on<t.1
 | [],_,t,ht=>by cases ht
 |(j,o,r)::rest,h,t,ht=>by
  simp only[vG,adf]at h
  obtain⟨⟨h1,h2⟩,h3⟩:=h
  rcases adv.1 ht with rfl|ht
  ·refine⟨fun i q hq hi hc=> ?_,fun e he hb=> ?_⟩
   ·rw[ad7]at h1
    have:=h1 (q,i) (by
     rw[aei]
     exact⟨i,by simp[List.getElem?_zipIdx,hq]⟩)
    simp only[adK,adb,adJ]at this
    rcases this with ((h|h)|h)|h
    ·simp only at hi;omega
    ·exact⟨4,h⟩
    ·rw[hc]at h;cases h
    ·exact⟨9,h⟩
   ·rw[ad7]at h2
    have:=h2 e he
    simp only[hb,aet,aeK,adb]at this
    exact this
  ·exact vK h3 t ht
theorem FX{l:List Oper}{log:List Rec}(h:AA l log=true):log.length=l.length/\
 (∀(i j:Nat) ri rj o,log[i]? =some ri->log[j]? =some rj->l[j]? =some o->i<j->lS ri rj=true->∃n,NW l n o i=true)/\
 ∀(j:Nat) o,l[j]? =some o->∀e∈o.after.toList,Region.binds .any e=true->e.on<j:=by
 simp only[AA,adf,beq_iff_eq]at h
 obtain⟨h1,h2⟩:=h
 have hs:=vK h2
 have mem:∀(j:Nat) o r,l[j]? =some o->log[j]? =some r->(j,o,r)∈((l.zip log).zipIdx.map fun p=>(p.2,p.1.1,p.1.2)):=by
  intro j o r ho hr
  rw[ada]
  refine⟨((o,r),j), ?_,rfl⟩
  rw[aei]
  exact⟨j,by simp[List.getElem?_zipIdx,List.getElem?_zip_eq_some,ho,hr]⟩
 refine⟨h1,fun i j ri rj o hi hj ho hij hc=>(hs _ (mem j o rj ho hj)).1 i ri hi hij hc,fun j o ho e he hb=> ?_⟩
 have hjl:j<log.length:=by rw[h1];exact(adh.1 ho).1
 exact(hs _ (mem j o log[j] ho (acF hjl))).2 e he hb
theorem vH.states:∀ {log:List Rec} {s e:ASt},vH log s e->∃st:Nat->ASt,st 0=s/\st log.length=e/\∀i r,log[i]? =some r->
 (∀p∈r.rs,bf (st i) p.1=p.2)/\(∀k,bf (st (i+1)) k=bf (r.la.app (st i)) k)/\∀k,k∉r.wr->bf (st (i+1)) k=bf (st i) k/\∀x∈(bf (st i) k).ids,x∉r.fm
 | [],s,e,h=>by cases h;exact⟨fun _=>s,rfl,rfl,fun i r h=>by simp at h⟩
 |r::log,s,e,h=>by
  cases h with
  |cons jI hs hw h=>
   rename_i s'
   obtain⟨st,h0,h1,h2⟩:=h.states
   refine⟨fun i=>match i with|0=>s|i+1=>st i,rfl,h1,fun i q hq=> ?_⟩
   cases i with
   |zero=>
    simp only[List.getElem?_cons_zero,ady]at hq
    subst hq
    simp only[h0]
    exact⟨jI,hs,hw⟩
   |succ i=>exact h2 i q (by simpa using hq)
theorem Ea{r:Rec}{s:ASt}(h:∀p∈r.rs,bf s p.1=p.2){k:Key}(hk:k∈r.xW){x:Nat}(hx:x∈(bf (r.la.app s) k).ids):x∈r.names:=by
 have Xx:∀p∈r.rs,∀x∈p.2.ids,x∈r.names:=by
  intro p hp x hx
  simp only[Rec.names,ac8,afq]
  exact .inl (.inl ⟨p,hp,hx⟩)
 cases k with
 |cell l q=>
  exfalso
  simp only[Rec.xW,ac8,ada]at hk
  rcases hk with (((hk|⟨p,_,e⟩)|⟨p,_,e⟩)|⟨p,_,e⟩)|⟨p,_,e⟩
  ·split at hk<;>simp at hk
  ·cases e
  ·cases e
  ·cases e
  ·cases e
 |slot t=>
  by_cases hd:r.la.dst=some t
  ·have:bf (r.la.app s) (.slot t)= .av r.la.v:=by
    simp only[bf]
    unfold LA.app ASt.put
    simp[hd,get]
   rw[this]at hx
   simp only[Rec.names,ac8]
   exact .inl (.inr hx)
  ·have hin:∃v,(Key.slot t,KV.av v)∈r.rs:=by
    simp only[Rec.xW,ac8,ada]at hk
    rcases hk with (((hk|⟨p,hp,hpt⟩)|⟨p,hp,hpt⟩)|⟨p,hp,hpt⟩)|⟨p,hp,hpt⟩
    ·split at hk
     ·rename_i d hd'
      simp only[adu,Key.slot.injEq]at hk
      subst hk;exact absurd hd' hd
     ·simp at hk
    ·simp only[Key.slot.injEq]at hpt
     refine⟨p.2, ?_⟩
     simp only[Rec.rs,ac8,ada]
     exact .inl (.inl ⟨p, .inr hp,by rw[hpt]⟩)
    ·cases hpt
    ·cases hpt
    ·cases hpt
   obtain⟨v,hv⟩:=hin
   refine Xx _ hv x ?_
   have hsame:=h _ hv
   simp only[bf,KV.av.injEq]at hsame
   have:bf (r.la.app s) (.slot t)= .av ((get s.t t).sub r.la.kill):=by
    simp only[bf]
    unfold LA.app ASt.put
    cases hq:r.la.dst with
    |none=>simp only[fO]
    |some d=>
     have hdt:d≠t:=fun e=>hd (by rw[hq,e])
     simp only[get,hdt,if_false,fO]
   rw[this,hsame]at hx
   exact AV.o8 hx
 |obj l=>
  have hm:(r.la.app s).m=putM r.la.iw (s.kill r.la.kill).m:=by unfold LA.app ASt.put;split<;>rfl
  have hval:bf (r.la.app s) (.obj l)= .ob (match look r.la.iw l with|some o=>some o|none=>if kl r.la.kill l=none then(look s.m l).map (AObj.sub r.la.kill) else none):=by
   simp only[bf];rw[hm,eY,gy];cases look r.la.iw l<;>rfl
  rw[hval]at hx
  cases hu:look r.la.iw l with
  |some o=>
   simp only[hu,KV.ids]at hx
   simp only[Rec.names,ac8,afq]
   exact .inr ⟨(l,o),bn hu,hx⟩
  |none=>
   by_cases cM:kl r.la.kill l=none
   ·simp only[hu,cM,if_true]at hx
    have hin:∃o,(Key.obj l,KV.ob (some o))∈r.rs:=by
     simp only[Rec.xW,ac8,ada]at hk
     rcases hk with (((hk|⟨p,hp,hpt⟩)|⟨p,hp,hpt⟩)|⟨p,hp,hpt⟩)|⟨p,hp,hpt⟩
     ·split at hk<;>simp at hk
     ·cases hpt
     ·exfalso
      simp only[Key.obj.injEq]at hpt
      subst hpt
      have:∀(m:List (Nat × AObj)),p∈m->look m p.1≠none:=by
       intro m
       induction m with
       |nil=>intro h;cases h
       |cons q m ih=>
        intro h
        obtain⟨i,o⟩:=q
        simp only[look]
        rcases adv.1 h with rfl|h
        ·simp
        ·split
         ·simp
         ·exact ih h
      exact this _ hp hu
     ·exfalso
      simp only[Key.obj.injEq]at hpt
      subst hpt
      have:∀(m:List (Nat × Option D)),p∈m->kl m p.1≠none:=by
       intro m
       induction m with
       |nil=>intro h;cases h
       |cons q m ih=>
        intro h
        obtain⟨i,o⟩:=q
        simp only[kl]
        rcases adv.1 h with rfl|h
        ·simp
        ·split
         ·simp
         ·exact ih h
      exact this _ hp cM
     ·simp only[Key.obj.injEq]at hpt
      refine⟨p.2, ?_⟩
      simp only[Rec.rs,ac8,ada]
      exact .inl (.inr ⟨p, .inr hp,by rw[hpt]⟩)
    obtain⟨o,ho⟩:=hin
    have hsame:=h _ ho
    simp only[bf,KV.ob.injEq]at hsame
    simp only[hsame,Option.map_some,KV.ids]at hx
    exact Xx _ ho x (AObj.o8 hx)
   ·simp[hu,cM,KV.ids]at hx
theorem UU{r:Rec}{s:ASt}(h:∀p∈r.rs,bf s p.1=p.2){k:Key}(hk:k∈r.wr){x:Nat}(hx:x∈(bf (r.la.app s) k).ids):x∈r.names:=by
 cases k with
 |slot t=>exact Ea h (vJ hk) hx
 |obj l=>exact Ea h (AJ hk) hx
 |cell l q=>
  refine Ea h (zO hk) ?_
  simp only[bf]at hx ⊢
  split at hx
  ·obtain⟨o,ho,pE⟩:=AL hx
   rw[ho];exact pE
  ·simp[KV.ids]at hx
section
variable {l:List Oper} {log:List Rec} {st:Nat->ASt}
def Inv(log:List Rec)(st:Nat->ASt)(done:Nat->Prop)(s:ASt):Prop:=∀k,k<=log.length->¬done k->∀(key:Key) (v:KV),
 ((∃r,log[k]? =some r/\(key,v)∈r.rs)\/(k=log.length/\v=bf (st k) key))->(∀j,j<k->¬done j->∀r,log[j]? =some r->key∉r.wr)->bf s key=v
theorem OP{l:List Oper}{n:Nat}{o:Oper}{j:Nat}(h:nP o j=true):NW l n o j=true:=by
 cases n<;>simp[NW,h]
theorem AO{l:List Oper}{done:Nat->Prop}(hD:∀i j o,done j->l[j]? =some o->nP o i=true->done i):∀ {n:Nat} {o:Oper} {j:Nat},NW l n o j=true->(∀k,nP o k=true->done k)->done j
 |0,o,j,h,hr=>hr j h
 |n+1,o,j,h,hr=>by
  simp only[NW,adK]at h
  rcases h with h|h
  ·exact hr j h
  ·obtain⟨e,he,h⟩:=adQ.1 h
   simp only[adf]at h
   obtain⟨⟨hb,_⟩,h⟩:=h
   have hd:done e.on:=hr e.on (by unfold nP;rw[adQ];exact⟨e,he,by simp[hb]⟩)
   cases ho:l[e.on]? with
   |none=>rw[ho]at h;cases h
   |some o'=>rw[ho]at h;exact AO hD h fun k hk=>hD k _ _ hd ho hk
theorem OQ(Sq:AA l log=true)
 (hst:∀i r,log[i]? =some r->(∀p∈r.rs,bf (st i) p.1=p.2)/\(∀k,bf (st (i+1)) k=bf (r.la.app (st i)) k)/\∀k,k∉r.wr->bf (st (i+1)) k=bf (st i) k/\∀x∈(bf (st i) k).ids,x∉r.fm)
 {done:Nat->Prop} {s:ASt} (hinv:Inv log st done s) (hD:∀i j o,done j->l[j]? =some o->nP o i=true->done i) {i:Nat} {r:Rec} {o:Oper} (hi:log[i]? =some r) (ho:l[i]? =some o) (bR:¬done i)
 (lU:∀j,nP o j=true->done j):(∀p∈r.rs,bf s p.1=p.2)/\Inv log st (fun k=>done k\/k=i) (r.la.app s):=by
 obtain⟨hlen,hcl,_⟩:=FX Sq
 have hD:∀i j o,done j->l[j]? =some o->(∃n,NW l n o i=true)->done i:=fun i j o hj ho ⟨_,hp⟩=>AO hD hp fun k hk=>hD k j o hj ho hk
 have lU:∀j,(∃n,NW l n o j=true)->done j:=fun j ⟨_,hp⟩=>AO (fun i j o h1 h2 h3=>hD i j o h1 h2 ⟨4,OP h3⟩) hp lU
 have hil:i<log.length:=(adh.1 hi).1
 have oper:∀j,j<log.length->∃o,l[j]? =some o:=fun j hj=>⟨l[j]'(by omega),acF (by omega)⟩
 have jI:∀p∈r.rs,bf s p.1=p.2:=by
  intro p hp
  refine hinv i (aga hil) bR p.1 p.2 (.inl ⟨r,hi,hp⟩) (fun j hj UW rj CV hw=>UW (lU j (hcl j i rj r o CV hi ho hj (OK hw hp))))
 refine⟨jI, ?_⟩
 intro k hk Xy key v yO hC
 have OR:¬done k:=fun h=>Xy (.inl h)
 have hki:k≠i:=fun h=>Xy (.inr h)
 have T0:v=bf (st k) key:=by
  rcases yO with ⟨rk,Ib,hin⟩|⟨_,hv⟩
  ·exact((hst k rk Ib).1 _ hin).symm
  ·exact hv
 have FY:∀j,i<j->j<k->∀rj,log[j]? =some rj->key∈rj.wr->lS r rj=true->False:=by
  intro j hij hjk rj CV hw hc
  obtain⟨oj,Wv⟩:=oper j (by omega)
  have Xz:=hcl i j r rj oj hi CV Wv hij hc
  by_cases hdj:done j
  ·exact bR (hD i j oj hdj Wv Xz)
  ·exact hC j hjk (fun h=>by rcases h with h|h;exact hdj h;omega) rj CV hw
 by_cases hwi:key∈r.wr
 ·
  rcases adj k i with hlt|hge
  ·exfalso
   rcases yO with ⟨rk,Ib,hin⟩|⟨hkn,_⟩
   ·exact OR (lU k (hcl k i rk r o Ib hi ho hlt (OL hin hwi)))
   ·omega
  ·have hik:i<k:=by omega
   rw[FW jI (hst i r hi).1 hwi, <- (hst i r hi).2.1 key,T0]
   have:∀d,i+1+d<=k->bf (st (i+1+d)) key=bf (st (i+1)) key:=by
    intro d
    induction d with
    |zero=>intro _;rfl
    |succ d ih=>
     intro hd
     rw[<- ih (by omega)]
     have hjl:i+1+d<log.length:=by omega
     have CV:log[i+1+d]? =some log[i+1+d]:=acF hjl
     have hnw:key∉log[i+1+d].wr:=fun hw=>FY (i+1+d) (by omega) (by omega) _ CV hw (OM hwi hw)
     exact((hst _ _ CV).2.2 key hnw).1
   have:=this (k - (i+1)) (by omega)
   rw[show i+1+(k - (i+1))=k from by omega]at this
   exact this.symm
 ·rw[AM hwi]
  have hsv:bf s key=v:=hinv k hk OR key v yO (fun j hj UW rj CV=>by
   by_cases hji:j=i
   ·subst hji;rw[hi]at CV;cases CV;exact hwi
   ·exact hC j hj (fun h=>by rcases h with h|h;exact UW h;exact hji h) rj CV)
  rw[hsv]
  refine KV.mT fun x hx hkx=> ?_
  rcases adj k i with hlt|hge
  ·rcases yO with ⟨rk,Ib,hin⟩|⟨hkn,_⟩
   ·refine OR (lU k (hcl k i rk r o Ib hi ho hlt (OO hkx ?_)))
    simp only[Rec.names,ac8,afq]
    exact .inl (.inl ⟨_,hin,hx⟩)
   ·omega
  ·have hik:i<k:=by omega
   have:∀d,i+1+d<=k->∀x∈(bf (st (i+1+d)) key).ids,x∉r.fm:=by
    intro d
    induction d with
    |zero=>
     intro _ x hx
     rw[Nat.add_zero,((hst i r hi).2.2 key hwi).1]at hx
     exact((hst i r hi).2.2 key hwi).2 x hx
    |succ d ih=>
     intro hd x hx
     have hjl:i+1+d<log.length:=by omega
     have CV:log[i+1+d]? =some log[i+1+d]:=acF hjl
     by_cases hw:key∈log[i+1+d].wr
     ·intro hkx
      rw[show i+1+(d+1)=i+1+d+1 from by omega,(hst _ _ CV).2.1 key]at hx
      have hn:=UU (hst _ _ CV).1 hw hx
      exact FY (i+1+d) (by omega) (by omega) _ CV hw (ON hkx hn)
     ·rw[show i+1+(d+1)=i+1+d+1 from by omega,((hst _ _ CV).2.2 key hw).1]at hx
      exact ih (by omega) x hx
   have:=this (k - (i+1)) (by omega)
   rw[show i+1+(k - (i+1))=k from by omega, <- T0]at this
   exact this x hx hkx
end
end Go.Ab
