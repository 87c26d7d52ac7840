/- What each operation asks is enough: stores; slices that are made. -/
import Derived.Laws.OwnMore
import Derived.Test.YtameldglfobjkaaGreatL6P2
set_option linter.unusedSimpArgs false
set_option linter.unusedVariables false
namespace Go.Ab
theorem bh.write{X:Ctx}{E:Env}{s:ASt}{a:Act}{w:World}(h:bh X E s a w){l b:Nat}{old ob:AObj}(hl:look s.m l=some old)(hro:old.ro=false)(hb:E.ρ l=some b)(hz:E.z b=0)
 {rs:List (Nat × AV)} {ms:List (Nat × AObj)} {w':World} {Im:AV} {dst:Option Nat} {v':Value}
 (hsize:w'.heap.size=w.heap.size) (hh:∀k,k≠b->w'.heap[k]? =w.heap[k]?) (hos:w'.os=w.os) (nN:w'.tape=w.tape) (hout:w'.output=w.output)
 (oV:bF w' E l ob) (hv:cG w' E Im v') (bV:∀k,dst=some k->k<X.n) (Cs:ob.isNest=false:=by rfl):
 bh X E ((⟨rs,ms, [], [(l,ob)],dst,Im⟩:LA).app s) (a.put dst v') w':=by
 have dx:∀k,look [(l,ob)] k=if l=k then some ob else none:=fun k=>by simp[look]
 refine h.app ⟨rs,ms, [], [(l,ob)],dst,Im⟩ E w' v' (fun k=>⟨adg _,fun o ho=> ?_⟩) hos nN hout (by omega) (fun k _=>⟨rfl,rfl⟩) (fun k x hk=>by simp[kl]at hk) (fun k _=>⟨rfl,rfl⟩) (fun k hk=>absurd rfl hk) (fun k o hk=> ?_) (fun k hk=> ?_) (fun k o hk=> ?_) (fun k k' hk hk'=> ?_) (fun k b' hk hb'=> ?_) (fun k hk=>h.good.fresh k (by omega)) hv bV
 ·by_cases hkb:k=b
  ·subst hkb;omega
  ·exact cell?_of_heap (hh k hkb) o
 ·simp only[dx]at hk
  split at hk
  ·rename_i hlk;subst hlk;cases hk;exact⟨h.good.low l (by simp[hl]),Cs⟩
  ·cases hk
 ·by_cases hkb:k=b
  ·subst hkb;exact .inr ⟨l,old,h.good.bM hl,hro,hb, .inr (by simp[look])⟩
  ·exact .inl ⟨hh k hkb,rfl⟩
 ·simp only[dx]at hk
  split at hk
  ·rename_i hlk;subst hlk;cases hk;exact oV
  ·cases hk
 ·simp only[dx]at hk hk'
  split at hk
  ·split at hk'
   ·omega
   ·simp at hk'
  ·simp at hk
 ·simp only[dx]at hk
  split at hk
  ·rename_i hlk;subst hlk
   exact .inr ⟨l,old,h.good.bM hl,hro,hb', .inr rfl⟩
  ·simp at hk
theorem size_setRow(w:World)(g:Nat)(cs:Array Value):(w.setRow g cs).heap.size=w.heap.size:=by simp[World.setRow]
theorem vp{C:Cfg}{s:ASt}{w:World}{E:Env} :∀ {as:List AV} {ds:List D} {us:List Value},toDs C s as=some ds->AVrs w E as us->(∀p∈msOf s as,bF w E p.1 p.2)->
 us.length=ds.length/\∀(j:Nat) x u,ds[j]? =some x->us[j]? =some u->Rd w E.z u x
 | [],ds,us,h,hr,_=>by
   simp only[toDs,ady]at h
   simp only[AVrs]at hr
   subst h;subst hr
   simp
 |a::as,ds,us,h,hr,CP=>by
  obtain⟨u,us',rfl,h1,h2⟩:=hr
  unfold toDs at h
  cases hx:toD C s a with
  |none=>simp[hx]at h
  |some x=>
   cases hxs:toDs C s as with
   |none=>simp[hx,hxs]at h
   |some xs=>
    simp only[hx,hxs,ady]at h
    subst h
    obtain⟨i1,i2⟩:=vp hxs h2 (fun p hp=>CP p (by
     cases a<;>simp only[msOf]<;>first|exact hp|skip
     split
     ·exact adz _ hp
     ·exact hp))
    refine⟨by simp[i1],fun j y v hj hv=> ?_⟩
    cases j with
    |succ j=>exact i2 j y v (by simpa using hj) (by simpa using hv)
    |zero=>
     simp only[List.getElem?_cons_zero,ady]at hj hv
     subst hj;subst hv
     unfold toD at hx
     split at hx
     ·cases hx;exact h1
     ·cases hx
      simp only[cG]at h1
      subst h1
      exact .nil _ _
     ·cases hx
      obtain⟨p,rfl⟩:=h1
      exact .nil _ _
     ·rename_i l
      split at hx
      ·rename_i e sz rows hl
       cases hx
       rw[h1.1]
       exact qA (CP (l, .tip e sz rows) (by simp[msOf,hl]))
      ·cases hx
     ·cases hx
theorem Ar{C:Cfg}{s:ASt}{a:AV}{ds:List D}(h:toDs C s (avCells a)=some ds):a.fit=true:=by
 cases a<;>first|rfl|(simp[avCells,toDs,toD]at h)
theorem jG{w:World}{g:Nat}{cur cs:Array Value}{e:Nat}(h:w.heap[g]? =some (.cells cur e (0,0))):(w.setRow g cs).heap[g]? =some (.cells cs e (0,0)):=setRow_heap w g cur cs e (0,0) h
theorem As{w:World}{E:Env}{b off e sz cap i q:Nat}{cur:Array Value}{rows:List (List D)}{ds:List D}{us:List Value}{dflt:List D}(k1:∀r∈rows,r.length=sz)(g2:w.heap[b]? =some (.cells cur e (0,0)))
 (g4:rows.length<=cap) (g5:off+cap*sz<=cur.size) (g7:E.z b=0)
 (g8:∀(i j:Nat) (r:List D) (x:D),rows[i]? =some r->r[j]? =some x->∃v,cur[off+(i*sz+j)]? =some v/\Rd w E.z v x) (h1:i<rows.length) (h2:q+ds.length<=sz)
 (c1:us.length=ds.length) (c2:∀(j:Nat) x u,ds[j]? =some x->us[j]? =some u->Rd w E.z u x) {new:List Value} (hnew:cur.toList.take (off+(i*sz+q))++us++cur.toList.drop (off+(i*sz+q)+us.length)=new):
 off+(i*sz+q)+us.length<=cur.size/\new.length=cur.size/\(∀r∈rows.set i (overD (rows.getD i dflt) q ds),r.length=sz)/\
  ∀(i' j:Nat) (r:List D) (x:D),(rows.set i (overD (rows.getD i dflt) q ds))[i']? =some r->r[j]? =some x->∃v,new.toArray[off+(i'*sz+j)]? =some v/\Rd (w.setRow b new.toArray) E.z v x:=by
 have hin:(i+1)*sz<=rows.length*sz:=adF _ (by omega)
 rw[ad6]at hin
 have hcap:rows.length*sz<=cap*sz:=adF _ g4
 have TU:aK w E.z (w.setRow b new.toArray) E.z:=fun k=>⟨adg _,fun o ho=>by
  by_cases hkb:k=b
  ·subst hkb;omega
  ·exact cell?_of_heap (setRow_other w b k _ hkb) o⟩
 have Cr:rows[i]? =some rows[i]:=acF h1
 have hrow:rows.getD i dflt=rows[i]:=by rw[aas,Cr];rfl
 have hrl:rows[i].length=sz:=k1 _ (ad2 h1)
 have hlen:new.length=cur.size:=by
  rw[<- hnew];simp only[adi,adG,aeC,Array.length_toList]at c1 ⊢
  omega
 rw[hrow]
 have xO:∀r∈rows.set i (overD rows[i] q ds),r.length=sz:=fun r hr=>by
  rcases agp hr with hr|rfl
  ·exact k1 r hr
  ·simp only[overD,adi,adG,aeC];omega
 refine⟨by omega,hlen,xO,fun i' j r x hi' hj=> ?_⟩
 have hjl:j<sz:=by
  have hr:r.length=sz:=xO r (adM hi')
  have:=(adh.1 hj).1
  omega
 have stay:∀(i':Nat) (r:List D),rows[i']? =some r->r[j]? =some x->(i'≠i\/j<q\/q+ds.length<=j)->∃v,new.toArray[off+(i'*sz+j)]? =some v/\Rd (w.setRow b new.toArray) E.z v x:=by
  intro i' r hr hj hne
  obtain⟨v,hv,hx⟩:=g8 i' j r x hr hj
  refine⟨v, ?_,hx.mono TU⟩
  have hout:i'*sz+j<i*sz+q\/i*sz+q+ds.length<=i'*sz+j:=by
   rcases aew i' i with hlt|heq|hgt
   ·left
    have:(i'+1)*sz<=i*sz:=adF _ hlt
    rw[ad6]at this;omega
   ·subst heq
    rcases hne with hne|hne|hne
    ·omega
    ·left;omega
    ·right;omega
   ·right
    have:(i+1)*sz<=i'*sz:=adF _ hgt
    rw[ad6]at this;omega
  rw[aeq, <- hnew]
  rcases hout with hout|hout
  ·rw[adN,adx (by simp;omega),adD,ac9 (by omega),ael]
   exact hv
  ·rw[adw (by simp only[adi,adG,Array.length_toList]at c1 ⊢;omega),ad3,ael, <- hv]
   congr 1
   simp only[adi,adG,Array.length_toList]at c1 ⊢
   omega
 by_cases hii:i'=i
 ·subst hii
  rw[af7 (by omega)]at hi'
  cases hi'
  simp only[overD]at hj
  rcases adj j q with hjq|hjq
  ·rw[adN,adx (by simp;omega),adD,ac9 hjq]at hj
   exact stay i' _ Cr hj (.inr (.inl hjq))
  ·rcases adj j (q+ds.length) with Wq|Wq
   ·rw[adN,adw (by simp;omega),adx (by simp;omega)]at hj
    have oW:(rows[i'].take q).length=q:=by simp;omega
    rw[oW]at hj
    have hju:j - q<us.length:=by omega
    refine⟨us[j - q], ?_,(c2 (j - q) x _ hj (acF hju)).mono TU⟩
    rw[aeq, <- hnew,adN,adw (by simp;omega),adx (by simp only[adG,Array.length_toList]at hju c1 hlen ⊢;omega)]
    rw[<- List.getElem?_eq_getElem]
    congr 1
    simp only[adG,Array.length_toList];omega
   ·rw[adw (by simp only[adi,adG];omega),ad3]at hj
    have:q+ds.length+(j - (rows[i'].take q++ds).length)=j:=by simp only[adi,adG];omega
    rw[this]at hj
    exact stay i' _ Cr hj (.inr (.inr Wq))
 ·rw[List.getElem?_set_ne (by omega)]at hi'
  exact stay i' r hi' hj (.inl hii)
theorem bh.back{X:Ctx}(hX:X.Ok){E:Env}{s:ASt}{a:Act}{w:World}(h:bh X E s a w){l g i b cap e' e sz:Nat}{rows:List (List (List D))}{r:List (List D)}{cur:Array Value}{rs:List (Nat × AV)}{ms:List (Nat × AObj)}{dst:Option Nat}{v':Value}
 (hl:look s.m l=some (.nest e' e sz rows (some i))) (hg:look s.m g=some (.tip e sz r)) (yJ:g≠l) (hd:l<10000) (hi:i<rows.length)
 (g1:E.ρ l=some b) (g2:w.heap[b]? =some (.cells cur e' (0,0))) (g3:E.σ l= .slice (some ⟨b,0,none⟩) rows.length cap) (g4:rows.length<=cap) (g5:cap=cur.size) (g6:cap<=maxLen) (g7:E.z b=0)
 (g8:∀j,j<rows.length->some i≠some j->cur[j]? =some (E.σ (nn l j))/\kN (E.σ (nn l j))) (CR:kN (E.σ g))
 {new:Array Value} (hsz:new.size=cur.size) (hnew:new[i]? =some (E.σ g)) (UH:∀j,j≠i->new[j]? =cur[j]?) (bV:∀k,dst=some k->k<X.n):
 bh X ⟨fun q=>if q=nn l i then E.ρ g else E.ρ q,fun q=>if q=nn l i then E.σ g else E.σ q,E.z⟩ ((⟨rs,ms, [(g,some (.sl sz r)),(nn l i,none)], [(l, .nest e' e sz (rows.set i r) none)],dst, .jA⟩:LA).app s) (a.put dst v') (w.setRow b new):=by
 have o6:l<20000:=by omega
 have ab5:=h.good.low g (by simp[hg])
 have dx:∀k,look [(l,AObj.nest e' e sz (rows.set i r) none)] k=if l=k then some (AObj.nest e' e sz (rows.set i r) none) else none:=fun k=>by simp[look]
 have R9:bM s.m l=some (.nest e' e sz rows (some i)):=h.good.bM hl
 have Wr:bM s.m g=some (.tip e sz r):=h.good.bM hg
 have Au:∀j (hj:j<rows.length),j≠i->bM s.m (nn l j)=some (.tip e sz rows[j]):=by
  intro j hj hne
  rw[uh o6,hl]
  simp[inner,hj,Ne.symm hne]
 have ur:∀ {j j'},nn l j=nn l j'->j=j':=fun {j j'} hjj=>by unfold nn at hjj;omega
 have nng:∀j,nn l j≠g:=fun j=>by unfold nn;omega
 have Ws:∀j,nn l j≠l:=fun j=>by unfold nn;omega
 have Ct:b<w.heap.size:=(adq.1 g2).1
 have hst:aK w E.z (w.setRow b new) E.z:=fun k=>⟨adg _,fun o ho=>by
  by_cases hkb:k=b
  ·subst hkb;omega
  ·exact cell?_of_heap (setRow_other w b k _ hkb) o⟩
 have H8:∀q o,bM [(l,AObj.nest e' e sz (rows.set i r) none)] q=some o->(q=l/\o= .nest e' e sz (rows.set i r) none)\/∃j,j<rows.length/\q=nn l j/\((j≠i/\rows[j]?.map (AObj.tip e sz)=some o)\/(j=i/\o= .tip e sz r)):=by
  intro q o hq
  unfold bM at hq
  cases bR:nd q with
  |none=>
   rw[bR]at hq
   simp only[dx]at hq
   split at hq
   ·rename_i L0;cases hq;exact .inl ⟨L0.symm,rfl⟩
   ·cases hq
  |some p=>
   obtain⟨b',j⟩:=p
   obtain⟨rfl,hb'⟩:=zJ bR
   rw[bR]at hq
   simp only[dx]at hq
   split at hq
   ·rename_i hlb
    subst hlb
    simp only[inner,reduceCtorEq,if_false]at hq
    right
    by_cases hji:j=i
    ·subst hji
     rw[af7 hi]at hq
     exact⟨j,hi,rfl, .inr ⟨rfl,by simpa using hq.symm⟩⟩
    ·rw[List.getElem?_set_ne (fun e=>hji e.symm)]at hq
     cases hr:rows[j]? with
     |none=>simp[hr]at hq
     |some rr=>
      simp[hr]at hq
      exact⟨j,(adh.1 hr).1,rfl, .inl ⟨hji,by simp[hr,hq]⟩⟩
   ·simp[inner]at hq
 have hown:∀q o,bM [(l,AObj.nest e' e sz (rows.set i r) none)] q=some o->∀ {c},(if q=nn l i then E.ρ g else E.ρ q)=some c->∃q0 o0,bM s.m q0=some o0/\o0.ro=false/\E.ρ q0=some c/\((q=l/\q0=l)\/(q=nn l i/\q0=g)\/∃j,j≠i/\q=nn l j/\q0=nn l j):=by
  intro q o hq c hc
  rcases H8 q o hq with ⟨rfl,rfl⟩|⟨j,hj,rfl,⟨hji,ho⟩|⟨rfl,rfl⟩⟩
  ·rw[ac7 (fun e=>Ws i e.symm)]at hc
   exact⟨q,_,R9,rfl,hc, .inl ⟨rfl,rfl⟩⟩
  ·rw[ac7 (fun e=>hji (ur e))]at hc
   exact⟨nn l j,_,Au j hj hji,rfl,hc, .inr (.inr ⟨j,hji,rfl,rfl⟩)⟩
  ·rw[ac9 rfl]at hc
   exact⟨g,_,Wr,rfl,hc, .inr (.inl ⟨rfl,rfl⟩)⟩
 have RH:∀q,kl [(g,some (D.sl sz r)),(nn l i,none)] q=none->q≠g/\q≠nn l i:=by
  intro q hq
  simp only[kl]at hq
  split at hq
  ·cases hq
  ·rename_i h1
   split at hq
   ·cases hq
   ·rename_i h2;exact⟨fun e=>h1 e.symm,fun e=>h2 e.symm⟩
 refine h.Oe ⟨rs,ms, [(g,some (.sl sz r)),(nn l i,none)], [(l, .nest e' e sz (rows.set i r) none)],dst, .jA⟩ _ (w.setRow b new) v' hst rfl rfl rfl (by rw[size_setRow];exact adg _) (fun q hq=> ?_) (fun q x hq hs=> ?_) (fun q hq=> ?_) (fun q hq=> ?_) (fun q hq=> ?_) (fun c hc=> ?_) (fun q o hq=> ?_) (fun q q' c hq oW hc zq=> ?_) (fun q c hq hc=> ?_) (fun c hc=>h.good.fresh c (by rw[size_setRow]at hc;exact hc)) trivial bV
 ·obtain⟨h1,h2⟩:=RH q hq
  simp only[h2,if_false,and_self]
 ·simp only[kl]at hq
  split at hq
  ·rename_i YZ;subst YZ;cases hq
   exact(qA (h.good.obj g _ hg)).mono hst
  ·split at hq<;>cases hq
 ·have:q≠nn l i:=fun e=>by
   subst e
   obtain⟨o,ho⟩:=ade.1 hq
   rw[uh o6]at ho
   have hlm:look X.m0 l≠none:=fun e=>by rw[e]at ho;simp[inner]at ho
   have:=hX.low l (by rw[bJ (by omega)];exact hlm)
   omega
  simp only[this,if_false,and_self]
 ·simp only[kl]at hq
  split at hq
  ·rename_i YZ;left;exact nd_low (by omega)
  ·split at hq
   ·rename_i Y0;right;subst Y0;unfold hit;rw[nd_nn o6];simp[look]
   ·exact absurd rfl hq
 ·simp only[dx]at hq
  split at hq
  ·omega
  ·exact absurd rfl hq
 ·by_cases hcb:c=b
  ·subst hcb;exact .inr ⟨l,_,R9,rfl,g1, .inr (by rw[zK (by omega)];simp[look])⟩
  ·exact .inl ⟨setRow_other w b c _ hcb,rfl⟩
 ·
  have keep:∀ {q o q0},bF w E q0 o->o.isNest=false->E.ρ q0≠some b->(if q=nn l i then E.ρ g else E.ρ q)=E.ρ q0->(if q=nn l i then E.σ g else E.σ q)=E.σ q0->(o= .tip e sz r\/∃rr,o= .tip e sz rr)->
   bF (w.setRow b new) ⟨fun q=>if q=nn l i then E.ρ g else E.ρ q,fun q=>if q=nn l i then E.σ g else E.σ q,E.z⟩ q o:=by
   intro q o q0 ho hn hb hρ hσ hk
   obtain⟨rr,rfl⟩:∃rr,o= .tip e sz rr:=by rcases hk with rfl|⟨rr,rfl⟩<;>exact⟨_,rfl⟩
   obtain⟨k1,k2,k3⟩:=ho
   refine⟨k1,k2, ?_⟩
   simp only[hρ,hσ]
   rcases k3 with k3|⟨b1,UI,UJ,m1,m2,m3,m4,m5,m6,m7,m8⟩
   ·exact .inl k3
   ·have hne:b1≠b:=fun e=>hb (by rw[m1,e])
    refine .inr ⟨b1,UI,UJ,m1,by rw[setRow_other w b b1 _ hne];exact m2,m3,m4,m5,m6,m7,fun p j r x hp hj=> ?_⟩
    obtain⟨v,hv,hx⟩:=m8 p j r x hp hj
    exact⟨v,hv,hx.mono hst⟩
  rcases H8 q o hq with ⟨rfl,rfl⟩|⟨j,hj,rfl,⟨hji,ho⟩|⟨rfl,rfl⟩⟩
  ·refine⟨b,new,cap,(ac7 (fun e=>Ws i e.symm)).trans g1,jG g2,(ac7 (fun e=>Ws i e.symm)).trans (by rw[adP];exact g3),by rw[adP];exact g4,by rw[g5,hsz],g6,g7,fun j hj _=> ?_⟩
   rw[adP]at hj
   show new[j]? =some (if nn q j=nn q i then E.σ g else E.σ (nn q j))/\kN (if nn q j=nn q i then E.σ g else E.σ (nn q j))
   by_cases hji:j=i
   ·subst hji;simp only[if_true];exact⟨hnew,CR⟩
   ·rw[ac7 (fun e=>hji (ur e)),UH j hji]
    exact g8 j hj (fun e=>hji (aeU e).symm)
  ·have hs:=Au j hj hji
   simp only[acF hj,Option.map_some,ady]at ho
   subst ho
   refine keep (h.good.gw _ _ hs) rfl (fun e=> ?_) (by rw[ac7 (fun e=>hji (ur e))]) (by rw[ac7 (fun e=>hji (ur e))]) (.inr ⟨_,rfl⟩)
   exact Ws j (h.good.inj _ _ b (by simp[hs]) (by simp[R9]) e g1)
  ·refine keep (q0:=g) (h.good.gw _ _ Wr) rfl (fun e=> ?_) (by rw[ac9 rfl]) (by rw[ac9 rfl]) (.inl rfl)
   exact yJ (h.good.inj _ _ b (by simp[Wr]) (by simp[R9]) e g1)
 ·obtain⟨o,ho⟩:=ade.1 hq
  obtain⟨o',ho'⟩:=ade.1 oW
  obtain⟨q0,o0,k1,_,k2,k3⟩:=hown q o ho hc
  obtain⟨q0',o0',RI,_,Xd,UK⟩:=hown q' o' ho' zq
  have:=h.good.inj q0 q0' c (by simp[k1]) (by simp[RI]) k2 Xd
  rcases k3 with ⟨rfl,rfl⟩|⟨rfl,rfl⟩|⟨j,hj,rfl,rfl⟩<;>rcases UK with ⟨rfl,h2⟩|⟨rfl,h2⟩|⟨j',hj',rfl,h2⟩
  ·rfl
  ·exact absurd (h2 ▸ this).symm yJ
  ·exact absurd (h2 ▸ this).symm (Ws j')
  ·exact absurd (this.trans h2) yJ
  ·rfl
  ·exact absurd (this.trans h2).symm (nng j')
  ·exact absurd (this.trans h2) (Ws j)
  ·exact absurd (this.trans h2) (nng j)
  ·exact this.trans h2
 ·obtain⟨o,ho⟩:=ade.1 hq
  obtain⟨q0,o0,k1,k0,k2,k3⟩:=hown q o ho hc
  refine .inr ⟨q0,o0,k1,k0,k2, ?_⟩
  rcases k3 with ⟨rfl,rfl⟩|⟨rfl,rfl⟩|⟨j,hj,rfl,rfl⟩
  ·right;rw[zK (by omega)];simp[look]
  ·left;simp[kl]
  ·right;unfold hit;rw[nd_nn o6];simp[look]
section
variable {X:Ctx} {o:Oper} {s:ASt} {K:LA->Prop}
theorem aN.skip{la:LA}(hd:la.dst=o.dst)
 (h:∀s E a w,(∀d,o.dst=some d->d<X.n)->Sat la s->bh X E s a w->∃w' E',(execOp a.eval o).run X.P w= .ok .skip w'/\bh X E' (la.app s) (a.put o.dst undef) w'):aN X o la:=by
 refine⟨hd, ?_⟩
 rintro s a w hdn hs ⟨E,hE⟩
 obtain⟨w',E',hr,hr'⟩:=h s E a w hdn hs hE
 unfold Oper.wp
 rw[hr]
 exact⟨E',hr'⟩
theorem Ov(hX:X.Ok){t:Nat}{x y:Operand}(ho:o.op= .store t x y)(h:vcOp X X.C o s K):∃la,aN X o la/\Sat la s/\K la:=by
 simp only[vcOp,ho]at h
 have hsz:∀ {n:Nat} (w:World),n=X.C.sz t->0<n->(sizeOf t).run X.P w= .ok n w:=by
  intro n w h1 h2
  unfold Cfg.sz at h1
  split at h1
  ·rename_i ti hT
   obtain⟨⟨i,z,e1,e2,_⟩,_⟩:=hX.C.T _ _ hT
   simp[sizeOf,typeInfo,e1,e2,h1]
  ·omega
 split at h
 ·rename_i l q hx
  split at h
  ·rename_i cells hl
   obtain⟨⟨h1,h2,h3,hpos⟩,hK⟩:=h
   refine⟨_,aN.skip rfl fun s' E a w hdn hs hE=> ?_,⟨aH s _,by simp[hl]⟩,hK⟩
   have hl':=hs.2 (l, .box cells) (by simp)
   obtain⟨b,vs,e,g1,g2,g3,g4,g5⟩:=hE.good.obj l _ hl'
   have ex:=hE.evs hs.1 X.C 0 (x:=x) (by simp)
   have ey:=hE.evs hs.1 X.C t (x:=y) (by simp)
   rw[hx]at ex
   obtain⟨b',hb',ex⟩:=ex
   rw[g1]at hb';cases hb'
   have hfit:(aev X.C t s y).fit=true:=by
    cases hq:aev X.C t s y<;>simp only[hq,avCells,allOne,aeY]at h1<;>first|rfl|exact h1
   have hc:=ey.cells hfit
   have hlen:=hc.length
   have hvl:=g4.length
   have hone:=yI h1 hc
   have hst:=run_storeCells_at X.P b q e (a.eval y).cells.toList 0 vs.toArray w g2 (by simp at hlen ⊢;omega) hone
   simp only[Nat.add_zero]at hst
   have hrun:(execOp a.eval o).run X.P w= .ok .skip (w.setRow b (vs.take q++(a.eval y).cells.toList++vs.drop (q+(a.eval y).cells.toList.length)).toArray):=by
    have hs':=hsz w (n:=(a.eval y).cells.size) (by simp at hlen;omega) (by simp at hlen;omega)
    have:(storeVar t ⟨b,q,none⟩ (a.eval y)).run X.P w= .ok () (w.setRow b (vs.take q++(a.eval y).cells.toList++vs.drop (q+(a.eval y).cells.toList.length)).toArray):=by
     unfold storeVar
     rw[Sem.run_bind,hs']
     simp only[Result.andThen_ok,ne_eq,not_true,if_false,Sem.run_bind,Sem.run_pure]
     simpa using hst
    simp[execOp,ho,ex,Instr.storeAt,Instr.sureAddr,this]
   refine⟨_,E,hrun,hE.write hl' rfl g1 g3 (size_setRow _ _ _) (fun k hk=>setRow_other w b k _ hk) rfl rfl rfl ?_ trivial hdn⟩
   have hmono:∀ {as:List AV} {us:List Value},AVrs w E as us->AVrs (w.setRow b (vs.take q++(a.eval y).cells.toList++vs.drop (q+(a.eval y).cells.toList.length)).toArray) E as us:=by
    intro as us hr
    refine AVrs.mono (live:=fun _=>True) ⟨fun k=>⟨adg _,fun o ho=> ?_⟩,fun _ _=>rfl,fun _ _=>rfl⟩ (fun _ _=>trivial) hr
    by_cases hkb:k=b
    ·subst hkb;omega
    ·exact cell?_of_heap (setRow_other w b k _ hkb) o
   refine⟨b,vs.take q++(a.eval y).cells.toList++vs.drop (q+(a.eval y).cells.toList.length),e,g1,jG g2,g3, ?_, ?_⟩
   ·unfold over
    rw[<- hlen]
    exact((hmono g4).take q |>.append (hmono hc)).append ((hmono g4).drop _)
   ·intro v hv
    simp only[ac8]at hv
    rcases hv with (hv|hv)|hv
    ·exact g5 v (afu hv)
    ·exact hone v hv
    ·exact g5 v (afv hv)
  ·exact h.elim
 ·rename_i l sz i q hx
  split at h
  ·rename_i e sz' rows ds hl hds
   obtain⟨⟨rfl,h1,h2,h3,hpos⟩,hK⟩:=h
   refine⟨_,aN.skip rfl fun s' E a w hdn hs hE=> ?_,⟨aH s _, ?_⟩,hK⟩
   ·have hl':=hs.2 (l, .own e sz rows) (by simp)
    have ex:=hE.evs hs.1 X.C 0 (x:=x) (by simp)
    have ey:=hE.evs hs.1 X.C t (x:=y) (by simp)
    rw[hx]at ex
    obtain⟨b',off',n',cap',hb',ex⟩:=ex
    obtain⟨k1,k2,⟨g1,g2,g3⟩|⟨b,cur,cap,g1,g2,g3,g4,g5,g6,g7,g8⟩⟩:=hE.good.obj l _ hl'
    ·subst g2;simp at h1
    ·rw[g3]at hb'
     simp only[Value.slice.injEq,ady,Addr.mk.injEq]at hb'
     obtain⟨⟨rfl,rfl,_⟩,_,_⟩:=hb'
     have hc:=ey.cells (Ar hds)
     obtain⟨c1,c2⟩:=vp hds hc (fun p hp=>hE.good.obj _ _ (hs.2 p (by simp[hp])))
     have hone:∀v∈(a.eval y).cells.toList,v.oneCell'=true:=by
      intro v hv
      obtain⟨j,hj,ZR⟩:=adr.1 hv
      have Wq:j<ds.length:=by omega
      exact(c2 j ds[j] v (acF Wq) (by rw[<- ZR];exact acF hj)).one
     obtain⟨f1,f2,f3,f4⟩:=As (off:=0) (q:=q) (dflt:=X.C.zrow e) k1 g2 g4 (by omega) g7 (fun i j r x hi hj=>by rw[adT];exact g8 i j r x hi hj) h1 (by omega) c1 c2 rfl
     simp only[adT]at ex f1 f2 f3 f4
     have hst:=run_storeCells_at X.P b (i*sz+q) e (a.eval y).cells.toList 0 cur w g2 (by omega) hone
     simp only[Nat.add_zero]at hst
     have hrun:(execOp a.eval o).run X.P w= .ok .skip (w.setRow b (cur.toList.take (i*sz+q)++(a.eval y).cells.toList++cur.toList.drop (i*sz+q+(a.eval y).cells.toList.length)).toArray):=by
      have hs':=hsz w (n:=(a.eval y).cells.size) (by simp at c1;omega) (by simp at c1;omega)
      have:(storeVar t ⟨b,i*sz+q,none⟩ (a.eval y)).run X.P w= .ok () (w.setRow b (cur.toList.take (i*sz+q)++(a.eval y).cells.toList++cur.toList.drop (i*sz+q+(a.eval y).cells.toList.length)).toArray):=by
       unfold storeVar
       rw[Sem.run_bind,hs']
       simp only[Result.andThen_ok,ne_eq,not_true,if_false,Sem.run_bind,Sem.run_pure]
       exact hst
      simp only[execOp,ho,ex,Instr.storeAt,Instr.sureAddr]
      simp[this]
     refine⟨_,E,hrun,hE.write hl' rfl g1 g7 (size_setRow _ _ _) (fun k hk=>setRow_other w b k _ hk) rfl rfl rfl ?_ trivial hdn⟩
     exact⟨f3,k2, .inr ⟨b,_,cap,g1,jG g2,by rw[adP];exact g3,by rw[adP];exact g4,by rw[aed,f2];exact g5,g6,g7,f4⟩⟩
   ·intro p hp
    rcases adv.1 hp with rfl|hp
    ·exact hl
    ·exact iO s _ p hp
  ·rename_i e sz' rows ds hl hds
   obtain⟨⟨rfl,h1,h2,h3,hpos⟩,hK⟩:=h
   refine⟨_,aN.skip rfl fun s' E a w hdn hs hE=> ?_,⟨aH s _, ?_⟩,hK⟩
   ·have hl':=hs.2 (l, .part e sz rows) (by simp)
    have ex:=hE.evs hs.1 X.C 0 (x:=x) (by simp)
    have ey:=hE.evs hs.1 X.C t (x:=y) (by simp)
    rw[hx]at ex
    obtain⟨b',off',n',cap',hb',ex⟩:=ex
    obtain⟨k1,k2,⟨g1,g2,g3⟩|⟨b,off,cur,cap,g1,g2,g3,g4,g5,g6,g7,g8⟩⟩:=hE.good.obj l _ hl'
    ·subst g2;simp at h1
    ·rw[g3]at hb'
     simp only[Value.slice.injEq,ady,Addr.mk.injEq]at hb'
     obtain⟨⟨rfl,rfl,_⟩,_,_⟩:=hb'
     have hc:=ey.cells (Ar hds)
     obtain⟨c1,c2⟩:=vp hds hc (fun p hp=>hE.good.obj _ _ (hs.2 p (by simp[hp])))
     have hone:∀v∈(a.eval y).cells.toList,v.oneCell'=true:=by
      intro v hv
      obtain⟨j,hj,ZR⟩:=adr.1 hv
      have Wq:j<ds.length:=by omega
      exact(c2 j ds[j] v (acF Wq) (by rw[<- ZR];exact acF hj)).one
     obtain⟨f1,f2,f3,f4⟩:=As (off:=off) (q:=q) (dflt:=X.C.zrow e) k1 g2 g4 g5 g7 g8 h1 (by omega) c1 c2 rfl
     have hst:=run_storeCells_at X.P b (off+(i*sz+q)) e (a.eval y).cells.toList 0 cur w g2 (by omega) hone
     simp only[Nat.add_zero]at hst
     have hrun:(execOp a.eval o).run X.P w= .ok .skip (w.setRow b (cur.toList.take (off+(i*sz+q))++(a.eval y).cells.toList++cur.toList.drop (off+(i*sz+q)+(a.eval y).cells.toList.length)).toArray):=by
      have hs':=hsz w (n:=(a.eval y).cells.size) (by simp at c1;omega) (by simp at c1;omega)
      have:(storeVar t ⟨b,off+(i*sz+q),none⟩ (a.eval y)).run X.P w= .ok () (w.setRow b (cur.toList.take (off+(i*sz+q))++(a.eval y).cells.toList++cur.toList.drop (off+(i*sz+q)+(a.eval y).cells.toList.length)).toArray):=by
       unfold storeVar
       rw[Sem.run_bind,hs']
       simp only[Result.andThen_ok,ne_eq,not_true,if_false,Sem.run_bind,Sem.run_pure]
       exact hst
      simp only[execOp,ho,ex,Instr.storeAt,Instr.sureAddr]
      simp[this]
     refine⟨_,E,hrun,hE.write hl' rfl g1 g7 (size_setRow _ _ _) (fun k hk=>setRow_other w b k _ hk) rfl rfl rfl ?_ trivial hdn⟩
     exact⟨f3,k2, .inr ⟨b,off,_,cap,g1,jG g2,by rw[adP];exact g3,by rw[adP];exact g4,by rw[aed,f2];exact g5,g6,g7,f4⟩⟩
   ·intro p hp
    rcases adv.1 hp with rfl|hp
    ·exact hl
    ·exact iO s _ p hp
  ·rename_i e' e sz' rows hh hl
   split at h
   ·rename_i g hy
    split at h
    ·rename_i e1 Oc r hg
     obtain⟨⟨rfl,rfl,rfl,hi,rfl,rfl,ht,Ow,yJ,hd⟩,hK⟩:=h
     refine⟨_,aN.skip rfl fun s' E a w hdn hs hE=> ?_,⟨aH s _,by simp[hl,hg]⟩,hK⟩
     have hl':=hs.2 (l, .nest e' e1 Oc rows (some i)) (by simp)
     have hg':=hs.2 (g, .tip e1 Oc r) (by simp)
     have ex:=hE.evs hs.1 X.C 0 (x:=x) (by simp)
     have ey:=hE.evs hs.1 X.C t (x:=y) (by simp)
     rw[hx]at ex;rw[hy]at ey
     obtain⟨b',off',n',cap',hb',ex⟩:=ex
     obtain⟨b,cur,cap,g1,g2,g3,g4,g5,g6,g7,g8⟩:=hE.good.obj l _ hl'
     rw[g3]at hb'
     simp only[Value.slice.injEq,ady,Addr.mk.injEq]at hb'
     obtain⟨⟨rfl,rfl,_⟩,_,_⟩:=hb'
     obtain⟨UL,Sa⟩:=ey
     have hone:(E.σ g).oneCell'=true:=by rw[<- UL];unfold kN at Sa;split at Sa;(rename_i hq;rw[hq];rfl);exact Sa.elim
     have hcells:(a.eval y).cells= #[E.σ g]:=by rw[UL];exact cells_one hone
     have hin:i<cur.size:=by omega
     have hst:=run_storeCells_at X.P b i e' [E.σ g] 0 cur w g2 (by simp;omega) (by simpa using hone)
     simp only[Nat.add_zero]at hst
     have hrun:(execOp a.eval o).run X.P w= .ok .skip (w.setRow b (cur.toList.take i++ [E.σ g]++cur.toList.drop (i+1)).toArray):=by
      have hs':=hsz w (n:=1) Ow.symm (by omega)
      have:(storeVar t ⟨b,i,none⟩ (a.eval y)).run X.P w= .ok () (w.setRow b (cur.toList.take i++ [E.σ g]++cur.toList.drop (i+1)).toArray):=by
       unfold storeVar
       rw[Sem.run_bind,hs',hcells]
       simp only[Result.andThen_ok,ne_eq,not_true,if_false,Sem.run_bind,Sem.run_pure,aed,List.length_cons,List.length_nil,adT]
       simpa using hst
      simp[execOp,ho,ex,Instr.storeAt,Instr.sureAddr,this]
     have hlt:(cur.toList.take i).length=i:=by simp;omega
     refine⟨_,_,hrun,hE.back hX hl' hg' yJ hd hi g1 g2 g3 g4 g5 g6 g7 g8 (by rw[<- UL];exact Sa) ?_ ?_ (fun j hj=> ?_) hdn⟩
     ·simp;omega
     ·rw[aeq,adN,adw (by omega),hlt];simp
     ·rw[aeq]
      rcases adj j i with hji|hji
      ·rw[adN,adx (by omega),adD,ac9 hji,ael]
      ·rw[adw (by simp only[adi,hlt,List.length_cons,List.length_nil];omega),ad3,ael]
       congr 1
       simp only[adi,hlt,List.length_cons,List.length_nil];omega
    ·exact h.elim
   ·exact h.elim
  ·rename_i e rows hh g0 hl
   split at h
   ·rename_i g hy
    split at h
    ·rename_i e1 Oc r hg
     obtain⟨⟨rfl,rfl,rfl,Ow⟩,hK⟩:=h
     refine⟨_,aN.skip rfl fun s' E a w hdn hs hE=> ?_,⟨aH s _,by simp[hl,hg]⟩,hK⟩
     have hl':=hs.2 (l, .orh e rows hh g0) (by simp)
     have ex:=hE.evs hs.1 X.C 0 (x:=x) (by simp)
     have ey:=hE.evs hs.1 X.C t (x:=y) (by simp)
     rw[hx]at ex;rw[hy]at ey
     obtain⟨b',off',n',cap',hb',ex⟩:=ex
     obtain⟨k1,k2,b,cur,cap,g1,g2,g3,g4,g5,g6,g7,g8,g9⟩:=hE.good.obj l _ hl'
     rw[g3]at hb'
     simp only[Value.slice.injEq,ady,Addr.mk.injEq]at hb'
     obtain⟨⟨rfl,rfl,_⟩,_,_⟩:=hb'
     obtain⟨UL,Sa⟩:=ey
     have hone:(E.σ g).oneCell'=true:=by rw[<- UL];unfold kN at Sa;split at Sa;(rename_i hq;rw[hq];rfl);exact Sa.elim
     have hcells:(a.eval y).cells= #[E.σ g]:=by rw[UL];exact cells_one hone
     have hin:hh<cur.size:=by omega
     have hst:=run_storeCells_at X.P b hh e [E.σ g] 0 cur w g2 (by simp;omega) (by simpa using hone)
     simp only[Nat.add_zero]at hst
     have hrun:(execOp a.eval o).run X.P w= .ok .skip (w.setRow b (cur.toList.take hh++ [E.σ g]++cur.toList.drop (hh+1)).toArray):=by
      have hs':=hsz w (n:=1) Ow.symm (by omega)
      have:(storeVar t ⟨b,hh,none⟩ (a.eval y)).run X.P w= .ok () (w.setRow b (cur.toList.take hh++ [E.σ g]++cur.toList.drop (hh+1)).toArray):=by
       unfold storeVar
       rw[Sem.run_bind,hs',hcells]
       simp only[Result.andThen_ok,ne_eq,not_true,if_false,Sem.run_bind,Sem.run_pure,aed,List.length_cons,List.length_nil,adT]
       simpa using hst
      simp[execOp,ho,ex,Instr.storeAt,Instr.sureAddr,this]
     have hlt:(cur.toList.take hh).length=hh:=by simp;omega
     have ZS:aK w E.z (w.setRow b (cur.toList.take hh++ [E.σ g]++cur.toList.drop (hh+1)).toArray) E.z:=by
      refine fun k=>⟨adg _,fun o ho=> ?_⟩
      by_cases hkb:k=b
      ·subst hkb;omega
      ·exact cell?_of_heap (setRow_other w b k _ hkb) o
     refine⟨_,E,hrun,hE.write hl' rfl g1 g7 (size_setRow _ _ _) (fun k hk=>setRow_other w b k _ hk) rfl rfl rfl ?_ trivial hdn⟩
     refine⟨k1,k2,b,_,cap,g1,jG g2,g3,g4, ?_,g6,g7,fun p j r x hp hi hj=> ?_,fun g' e=> ?_⟩
     ·simp;omega
     ·have uu:=k2 r (adM hi)
      have hj0:j=0:=by have:=(adh.1 hj).1;omega
      subst hj0
      obtain⟨v,hv,hx⟩:=g8 p 0 r x hp hi hj
      refine⟨v, ?_,hx.mono ZS⟩
      simp only[af6,Nat.add_zero]at hv ⊢
      rw[aeq]
      rcases adj p hh with hji|hji
      ·rw[adN,adx (by omega),adD,ac9 hji,ael];exact hv
      ·rw[adw (by simp only[adi,hlt,List.length_cons,List.length_nil];omega),ad3,ael, <- hv]
       congr 1
       simp only[adi,hlt,List.length_cons,List.length_nil];omega
     ·cases e
      refine⟨?_,by rw[<- UL];exact Sa⟩
      rw[aeq,adN,adw (by omega),hlt];simp
    ·exact h.elim
   ·exact h.elim
  ·exact h.elim
 ·exact h.elim
end
end Go.Ab
