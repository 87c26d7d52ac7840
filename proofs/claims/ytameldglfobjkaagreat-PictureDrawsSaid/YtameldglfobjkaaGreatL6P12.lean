/- A part of the proof. -/
import Derived.Test.YtameldglfobjkaaGreatL6P11
set_option linter.unusedSimpArgs false
set_option linter.unusedVariables false
section
namespace Go.Ab
theorem qI{X:Ctx}{o:Oper}{s:ASt}{K:LA->Prop}{P:Program}{C:Cfg}[hx:Xc X P C]{f:Nat}{first caps as as':List AV}{e0 sz:Nat}{rows:List (List D)}(d:Nat)
 (hs:Spec P f (Args as') [] (.ref 10000) [(10000, .tip e0 sz rows)])
 (oZ:cvts (fun a x=>rdX C (fun _=>false) true (reach s 3 (AV.idss (first++as++caps))) 4 a=some x) (first++as++caps) as')
 (hro:∀r∈rows,∀x∈r,∃v,x=D.sc v) (hd:o.dst=some d) (hdl:d<10000)
 (hK:K ⟨rsO s o,reach s 3 (AV.idss (first++as++caps)), [(d,none)], [(d, .tip e0 sz rows)],some d, .ref d⟩):ACall X o (.fn f first caps) as s K:=by
 obtain⟨hX,hC,hP,_⟩:=hx
 subst hC;subst hP
 refine⟨fun ⟨c,fo,ho,hc,hf,has⟩=> ?_⟩
 rw[o5 ho hc]at hK
 refine⟨_,⟨hd.symm, ?_⟩,⟨aH s _,pF s _ _⟩,hK⟩
 rintro s' a w hdn jI ⟨E,hE⟩
 have hfo:=hE.evs jI.1 X.C 0 (x:=fo) (by simp)
 rw[hf]at hfo
 obtain⟨us,vs,hfo,uu,tQ⟩:=hfo
 have hargs:=sq (s:=s) hE c.args.toList c.argTypes.toList (fun p hp=>jI.1 p (by cases fo<;>simp[rsOf,hp]))
 rw[has]at hargs
 have AH:AVrs w E (first++as++caps) (us++c.args.toList.map a.eval++vs):=(uu.append hargs).append tQ
 obtain⟨fn,cd,hfn,hname,hbody⟩:=hs.can
 have hrun:(execOp a.eval o).run X.P w= .ok (.enter f (us++c.args.toList.map a.eval++vs).toArray) w:=by
  have h1:us.toArray++c.args.map a.eval++vs.toArray=(us++c.args.toList.map a.eval++vs).toArray:=by
   apply adW.1;simp
  have h2:=dG (P:=X.P) hfn hname hbody (us.toArray++c.args.map a.eval++vs.toArray) w
  rw[h1]at h2
  simp only[execOp,ho,resolve,hc,hfo,Deferred.ofValue,Sem.run_bind,Sem.run_pure,Result.andThen_ok,invoke]
  rw[h1];exact h2
 have kF:∀l,bM [] l=none:=fun l=>by unfold bM;split<;>rfl
 have F5:aK w E.z w (fun b=>max (E.z b) (dh w b)):=fun b=>⟨agr _ _,fun _ _=>rfl⟩
 have AW:Good [] ⟨E.ρ,E.σ,fun b=>max (E.z b) (dh w b)⟩ w:=by
  refine⟨fun l h=>by simp[look]at h,fun l l' b h=>by simp[kF]at h,fun l o h=>by simp[kF]at h,fun b hb=> ?_⟩
  simp[hE.good.fresh b hb,dh,aeg hb]
 have hA:AVrs w ⟨E.ρ,E.σ,fun b=>max (E.z b) (dh w b)⟩ as' (us++c.args.toList.map a.eval++vs):=
  gT (E':=⟨E.ρ,E.σ,fun b=>max (E.z b) (dh w b)⟩) ⟨F5,fun _ _=>rfl,fun _ _=>rfl⟩ (fun a x v RM hr=>vC hE.good F5 (fun l o b _ _ _ _=>agj _ _) (AU (fun l o hl=>jI.2 _ (bn hl)) RM) hr) oZ AH
 unfold Oper.wp
 rw[hrun]
 refine(hs.calls _ w _ AW hA).mono ?_
 rintro e w' ⟨v,E',rfl,hst,hg',qg,hres⟩
 have hheap:∀b,b<w.heap.size->w'.heap[b]? =w.heap[b]? :=fun b hb=>(hst.frame b hb (by rintro⟨l,o,hl,_⟩;simp[kF]at hl)).1
 have hfl:=hro
 have O2:bM [(10000,AObj.tip e0 sz rows)] 10000=some (.tip e0 sz rows):=by rw[bJ (by omega)];simp[look]
 have oV:=hg'.gw 10000 _ O2
 have F8:∀b,E'.ρ 10000=some b->w.heap.size<=b:=fun b hb=>by
  rcases qg 10000 _ b O2 rfl hb with h|⟨l,q,hl,_⟩
  ·exact h
  ·simp[kF]at hl
 obtain⟨E2,hρ,hσ,U8,U9,hz1,Md⟩:∃E2:Env,(∀l,l≠d->E2.ρ l=E.ρ l)/\(∀l,l≠d->E2.σ l=E.σ l)/\E2.ρ d=E'.ρ 10000/\E2.σ d=E'.σ 10000/\(∀b,b<w.heap.size->E2.z b=E.z b)/\(∀b,w.heap.size<=b->E2.z b=E'.z b):=
  ⟨⟨fun l=>if l=d then E'.ρ 10000 else E.ρ l,fun l=>if l=d then E'.σ 10000 else E.σ l,fun b=>if b<w.heap.size then E.z b else E'.z b⟩,fun l h=>by simp[h],fun l h=>by simp[h],by simp,by simp,fun b h=>by simp[h],fun b h=>by simp[show ¬b<w.heap.size by omega]⟩
 have cM:∀l,kl [(d,(none:Option D))] l=if d=l then some none else none:=fun l=>by simp only[kl]
 have hlk:∀l,look [(d,AObj.tip e0 sz rows)] l=if d=l then some (.tip e0 sz rows) else none:=fun l=>by simp only[look]
 refine⟨E2,hd ▸ hE.app' ⟨rsOf s (fo::c.args.toList),reach s 3 (AV.idss (first++as++caps)), [(d,none)], [(d, .tip e0 sz rows)],some d, .ref d⟩ E2 w' v (fun b=> ?_) hst.os hst.tape hst.output hst.size (fun l hl=> ?_) (fun l x hl=> ?_) (fun l hl=> ?_) (fun l hl=> ?_) (fun l q hl=> ?_) (fun b hb=> .inl ⟨hheap b hb,hz1 b hb⟩) (fun l q hl=> ?_) (fun l l' b hl hl' _ _=> ?_) (fun l b hl hb=> ?_) (fun b hb=> ?_) ?_ (fun k hk=>hdn k (hd ▸ hk))⟩
 ·by_cases hb:b<w.heap.size
  ·exact⟨by rw[hz1 b hb];exact adg _,fun o _=>cell?_of_heap (hheap b hb) o⟩
  ·have:=hE.good.fresh b (by omega)
   exact⟨by omega,fun o ho=>by omega⟩
 ·have:l≠d:=fun e=>by subst e;simp[kl]at hl
  exact⟨hρ l this,hσ l this⟩
 ·simp only[cM]at hl;split at hl<;>simp at hl
 ·have:l≠d:=fun e=>by
   subst e
   have:=hX.low l hl
   omega
  exact⟨hρ l this,hσ l this⟩
 ·simp only[cM]at hl
  split at hl
  ·omega
  ·exact absurd rfl hl
 ·simp only[hlk]at hl
  split at hl
  ·cases hl;exact⟨by omega,rfl⟩
  ·cases hl
 ·simp only[hlk]at hl
  split at hl
  ·rename_i he;subst he
   cases hl
   obtain⟨g1,g2,g3⟩:=oV
   refine⟨g1,g2, ?_⟩
   rcases g3 with ⟨h1,h2,h3⟩|⟨b,cur,cap,h1,h2,h3,h4,h5,h6,h7,h8⟩
   ·exact .inl ⟨by rw[U8];exact h1,h2,by rw[U9];exact h3⟩
   ·refine .inr ⟨b,cur,cap,by rw[U8];exact h1,h2,by rw[U9];exact h3,h4,h5,h6,by rw[Md b (F8 b h1)];exact h7,fun i j r x hi hj=> ?_⟩
    obtain⟨v,hv,hx⟩:=h8 i j r x hi hj
    obtain⟨u,rfl⟩:=hfl r (adM hi) x (adM hj)
    cases hx with
    |sc _ h=>exact⟨_,hv, .sc _ h⟩
  ·cases hl
 ·simp only[hlk]at hl hl'
  split at hl
  ·rename_i he;split at hl'
   ·rename_i he';rw[<- he, <- he']
   ·exact absurd rfl hl'
  ·exact absurd rfl hl
 ·simp only[hlk]at hl
  split at hl
  ·rename_i he;subst he
   rw[U8]at hb;exact .inl (F8 b hb)
  ·exact absurd rfl hl
 ·rw[Md b (aej hst.size hb)];exact hg'.fresh b hb
 ·exact⟨by rw[U9];exact hres.1,hres.2⟩
theorem Rel.mvB{X:Ctx}(hX:X.Ok){s:ASt}{a:Act}{w:World}(Sb:Rel X s a w)(bx i l l':Nat){o:AObj}{cells:List AV}{e sz:Nat}{rows:List (List D)}(Ef:look s.m bx=some (.box cells))(hi:cells[i]? =some (.ref l))(hl:look s.m l=some o)(ho:o= .own e sz rows\/o= .tip e sz rows)(hd:l'<10000)(Me:l'≠bx):
 Rel X ((⟨[], [], [(l,none),(l',none)], [(l',o),(bx, .box ((AV.subs [(l,none),(l',none)] cells).set i (.ref l')))],none, .jA⟩:LA).app s) a w:=by
 obtain⟨E,hE⟩:=Sb
 have hne:bx≠l:=fun e=>by rw[e,hl]at Ef;cases Ef;rcases ho with h|h<;>cases h
 obtain⟨b,vs,et,g1,g2,g3,g4,g5⟩:=hE.good.obj bx _ Ef
 obtain⟨v,Ky,O0⟩:=g4.get hi
 have o6:l<20000:=hE.good.low l (by rw[hl];simp)
 have hro:o.ro=false:=by rcases ho with rfl|rfl<;>rfl
 have oV:=hE.good.obj l o hl
 obtain⟨E',hρ,hσ,hz,Ee,Ic⟩:∃E':Env,(∀q,q≠l'->E'.ρ q=E.ρ q)/\(∀q,q≠l'->E'.σ q=E.σ q)/\E'.z=E.z/\E'.ρ l'=E.ρ l/\E'.σ l'=E.σ l:=by
  exact⟨⟨fun q=>if q=l' then E.ρ l else E.ρ q,fun q=>if q=l' then E.σ l else E.σ q,E.z⟩,fun q hq=>by simp only;rw[ac7 hq],fun q hq=>by simp only;rw[ac7 hq],rfl,by simp,by simp⟩
 have cM:∀q,kl [(l,(none:Option D)),(l',none)] q=if l=q then some none else if l'=q then some none else none:=fun q=>by simp only[kl]
 have hlk:∀q,look [(l',o),(bx, .box ((AV.subs [(l,none),(l',none)] cells).set i (.ref l')))] q=if l'=q then some o else if bx=q then some (.box ((AV.subs [(l,none),(l',none)] cells).set i (.ref l'))) else none:=fun q=>by simp only[look]
 have hkeep:∀q,kl [(l,(none:Option D)),(l',none)] q=none->E'.ρ q=E.ρ q/\E'.σ q=E.σ q:=fun q hq=>by
  have:q≠l':=fun e=>by subst e;simp[kl]at hq
  exact⟨hρ q this,hσ q this⟩
 have hks:∀q x,kl [(l,(none:Option D)),(l',none)] q=some (some x)->kN (E.σ q)->Rd w E'.z (E.σ q) x:=fun q x hq=>by simp only[cM]at hq;split at hq<;>(try split at hq)<;>simp at hq
 have hst:aK w E.z w E'.z:=by rw[hz];exact aK.refl _ _
 have hc:AVrs w E' ((AV.subs [(l,none),(l',none)] cells).set i (.ref l')) vs:=by
  have h0:AVrs w E' (AV.subs [(l,none),(l',none)] cells) vs:=AVrs.sub hst hkeep hks g4
  rw[dW]at h0 ⊢
  refine⟨by rw[adP];exact h0.1,fun j a' u' ha hu=> ?_⟩
  rw[aea]at ha
  split at ha
  ·rename_i hij;subst hij
   split at ha
   ·cases ha
    rw[Ky]at hu;cases hu
    exact⟨by rw[Ic];exact O0.1,O0.2⟩
   ·cases ha
  ·exact h0.2 j a' u' ha hu
 have hr:=hE.app' ⟨[], [], [(l,none),(l',none)], [(l',o),(bx, .box ((AV.subs [(l,none),(l',none)] cells).set i (.ref l')))],none, .jA⟩ E' w undef hst rfl rfl rfl (adg _)
  hkeep hks
  (fun q hq=>by
    have:q≠l':=fun e=>by
     subst e
     refine hq ?_
     rw[bJ (by omega)]
     by_cases hm:look X.m0 q=none
     ·exact hm
     ·have:=hX.low q (by rw[bJ (by omega)];exact hm)
      omega
    exact⟨hρ q this,hσ q this⟩)
  (fun q hq=>by
    simp only[cM]at hq
    split at hq
    ·omega
    ·split at hq
     ·omega
     ·exact absurd rfl hq)
  (fun q o' hq=>by
    simp only[hlk]at hq
    split at hq
    ·cases hq;exact⟨by omega,by rcases ho with rfl|rfl<;>rfl⟩
    ·split at hq
     ·rename_i e;subst e
      cases hq;exact⟨hE.good.low bx (by rw[Ef];simp),rfl⟩
     ·cases hq)
  (fun b _=> .inl ⟨rfl,by rw[hz]⟩)
  (fun q o' hq=>by
    simp only[hlk]at hq
    split at hq
    ·rename_i e;subst e
     cases hq
     rcases ho with rfl|rfl<;>(simp only[bF]at oV ⊢;rw[Ee,Ic,hz];exact oV)
    ·split at hq
     ·rename_i e;subst e
      cases hq
      exact⟨b,vs,et,by rw[hρ _ Me.symm];exact g1,g2,by rw[hz];exact g3,hc,g5⟩
     ·cases hq)
  (fun q q' b' hq oW hb hb'=>by
    have f:∀q,look [(l',o),(bx, .box ((AV.subs [(l,none),(l',none)] cells).set i (.ref l')))] q≠none->E'.ρ q=some b'->(q=l'/\E.ρ l=some b')\/(q=bx/\E.ρ bx=some b'):=fun q hq hb=>by
     simp only[hlk]at hq
     split at hq
     ·rename_i e;subst e;rw[Ee]at hb;exact .inl ⟨rfl,hb⟩
     ·split at hq
      ·rename_i e;subst e;rw[hρ _ Me.symm]at hb;exact .inr ⟨rfl,hb⟩
      ·exact absurd rfl hq
    rcases f q hq hb with ⟨h1,h2⟩|⟨h1,h2⟩<;>rcases f q' oW hb' with ⟨h3,h4⟩|⟨h3,h4⟩
    ·rw[h1,h3]
    ·exact absurd (hE.good.inj l bx b' (by simp[hE.good.bM hl]) (by simp[hE.good.bM Ef]) h2 h4).symm hne
    ·exact absurd (hE.good.inj l bx b' (by simp[hE.good.bM hl]) (by simp[hE.good.bM Ef]) h4 h2).symm hne
    ·rw[h1,h3])
  (fun q b' hq hb=>by
    simp only[hlk]at hq
    split at hq
    ·rename_i e;subst e;rw[Ee]at hb;exact .inr ⟨l,o,hE.good.bM hl,hro,hb, .inl (by simp[cM])⟩
    ·split at hq
     ·rename_i e;subst e;rw[hρ _ Me.symm]at hb;exact .inr ⟨_,_,hE.good.bM Ef,rfl,hb, .inr (by rw[hlk];simp[Me])⟩
     ·exact absurd rfl hq)
  (fun b hb=>by rw[hz];exact hE.good.fresh b hb) trivial (fun d hd=>by cases hd)
 have ha:a.put none undef=a:=rfl
 rw[ha]at hr
 exact⟨E',hr⟩
theorem dY{X:Ctx}(hX:X.Ok){c:Code}{Q:Exit->ASt->Prop}{s:ASt}(bx i l l':Nat){o:AObj}{cells:List AV}{e sz:Nat}{rows:List (List D)}(Ef:look s.m bx=some (.box cells))(hi:cells[i]? =some (.ref l))(hl:look s.m l=some o)(ho:o= .own e sz rows\/o= .tip e sz rows)(hd:l'<10000)(Me:l'≠bx)
 (h:cR X c Q ((⟨[], [], [(l,none),(l',none)], [(l',o),(bx, .box ((AV.subs [(l,none),(l',none)] cells).set i (.ref l')))],none, .jA⟩:LA).app s)):cR X c Q s:=
 ⟨fun hk' a w hr=>h.run hk' a w (Rel.mvB hX hr bx i l l' Ef hi hl ho hd Me)⟩
theorem F9{X:Ctx}{c:Code}{Q:Exit->ASt->Prop}{s:ASt}(bx i sz:Nat){cells:List AV}{a0:AV}(Ef:look s.m bx=some (.box cells))(hi:cells[i]? =some a0)(ha0:a0.isNo=true)
 (h:cR X c Q ((⟨[], [], [], [(bx, .box (cells.set i (.d (.sl sz []))))],none, .jA⟩:LA).app s)):cR X c Q s:=by
 refine⟨fun hk' a w ⟨E,hE⟩=>h.run hk' a w ⟨E, ?_⟩⟩
 have ha:a.put none undef=a:=rfl
 rw[<- ha]
 obtain⟨b,vs,et,g1,g2,g3,g4,g5⟩:=hE.good.obj bx _ Ef
 obtain⟨v,Ky,O0⟩:=g4.get hi
 obtain⟨p,hp⟩:∃p,v= .slice p 0 0:=by
  cases a0 with
  |nil e=>exact⟨_,O0⟩
  |emp e=>exact O0
  |_=>cases ha0
 subst hp
 refine hE.write Ef rfl g1 g3 rfl (fun _ _=>rfl) rfl rfl rfl ⟨b,vs,et,g1,g2,g3, ?_,g5⟩ trivial (fun d hd=>by cases hd)
 rw[dW]at g4 ⊢
 refine⟨by rw[adP];exact g4.1,fun j a' u' ha hu=> ?_⟩
 rw[aea]at ha
 split at ha
 ·rename_i hij;subst hij
  split at ha
  ·cases ha
   rw[Ky]at hu;cases hu
   exact .nil _ _
  ·cases ha
 ·exact g4.2 j a' u' ha hu
theorem lV{X:Ctx}{o:Oper}{s:ASt}{K:LA->Prop}{P:Program}{C:Cfg}[hx:Xc X P C]{f:Nat}{first caps as as':List AV}{m m':List (Nat × AObj)}{res:AV}(nm:List (Nat × Nat))
 (hs:Spec P f (Args as') m res m')
 (h:(∀p∈m,(asN nm p.1,p.2.ren (asN nm))∈lookAll s (mapN nm m)\/∃cells,p.2= .rob cells/\(asN nm p.1, .box (AV.rens (asN nm) cells))∈lookAll s (mapN nm m))/\(nodupM m)/\(nodupM m')/\(∀p∈m,p.1<20000/\p.2.isNest=false)/\(∀p∈m',p.1<20000/\p.2.isNest=false)/\(∀p∈m++m',∀q∈m++m',asN nm p.1=asN nm q.1->p.1=q.1)/\(∀p∈m',look m p.1=none->asN nm p.1<10000)/\(∀p∈m',p.2.ro=true->look m p.1=some p.2)/\(∀p∈m,p.2.ro=true->look m' p.1=some p.2)/\(∀l∈res.ids,look m' l≠none)/\(∀p∈m',∀l∈p.2.ids,look m' l≠none)/\(cvts (cvtD ⟨[],lookAll s (AV.idss (first++as++caps))⟩) (first++as++caps) (AV.rens (asN nm) as')))
 (hK:K ⟨rsO s o,lookAll s (mapN nm m)++lookAll s (AV.idss (first++as++caps)),killM (asN nm) m m'++killM (asN nm) m' m,renM (asN nm) m',o.dst,res.ren (asN nm)⟩):ACall X o (.fn f first caps) as s K:=by
 obtain⟨hm,hnm,zv,dI,tD,hinj,hnew,hro,Ir,FT,CA,oZ⟩:=h
 obtain⟨hX,hC,hP,_⟩:=hx
 subst hC;subst hP
 refine⟨fun ⟨c,fo,ho,hc,hf,has⟩=> ?_⟩
 rw[o5 ho hc]at hK
 have mem:∀l,(look m l≠none\/look m' l≠none)->∃p∈m++m',p.1=l:=fun l hl=>by
  rcases hl with hl|hl
  ·obtain⟨q,hq⟩:=ade.1 hl
   exact⟨_,adR _ (bn hq),rfl⟩
  ·obtain⟨q,hq⟩:=ade.1 hl
   exact⟨_,adZ _ (bn hq),rfl⟩
 exact CU (K:=K) hX (asN nm) (lookAll s (mapN nm m)++lookAll s (AV.idss (first++as++caps))) hs ho hc hf has
  (fun p hp=>by rcases ac8.1 hp with h|h<;>exact fq s _ p h)
  (fun p hp=>(hm p hp).imp (fun h=>adR _ h) (fun ⟨cells,h1,h2⟩=>⟨cells,h1,adR _ h2⟩)) hnm zv dI tD
  (fun l l' hl hl' h=>by
    obtain⟨p,hp,rfl⟩:=mem l hl
    obtain⟨q,hq,rfl⟩:=mem l' hl'
    exact hinj p hp q hq h) hnew hro Ir FT CA
  (fun s' E a w hmm hE vals hv=>by
    show AVrs w (E.pre (asN nm)) as' vals
    rw[dg]
    exact gT (E':=E) ⟨aK.refl _ _,fun _ _=>rfl,fun _ _=>rfl⟩
     (fun a x v RM hr=>FP (fun l o hl=>hE.good.obj _ _ (hmm (l,o) (adZ _ (bn hl)))) a x v RM hr) oZ hv) hK
theorem fu{X:Ctx}{o:Oper}{s:ASt}{K:LA->Prop}{P:Program}{C:Cfg}[hx:Xc X P C]{f:Nat}{first caps WA Va:List AV}{e0 sz:Nat}{rows:List (List D)}(d:Nat)
 (hs:Spec P f (Args Va) [] (.ref 10000) [(10000, .own e0 sz rows)])
 (oZ:cvts (fun a x=>rdX C (fun _=>false) true (reach s 3 (AV.idss (first++WA++caps))) 4 a=some x) (first++WA++caps) Va)
 (hro:∀r∈rows,∀x∈r,∃v,x=D.sc v) (hd:o.dst=some d) (hdl:d<10000)
 (hK:K ⟨rsO s o,reach s 3 (AV.idss (first++WA++caps)), [(d,none)], [(d, .own e0 sz rows)],some d, .ref d⟩):ACall X o (.fn f first caps) WA s K:=by
 obtain⟨hX,hC,hP,_⟩:=hx
 subst hC;subst hP
 refine⟨fun ⟨c,fo,ho,hc,hf,has⟩=> ?_⟩
 rw[o5 ho hc]at hK
 refine⟨_,⟨hd.symm, ?_⟩,⟨aH s _,pF s _ _⟩,hK⟩
 rintro s' a w hdn jI ⟨E,hE⟩
 have hfo:=hE.evs jI.1 X.C 0 (x:=fo) (by simp)
 rw[hf]at hfo
 obtain⟨us,vs,hfo,uu,tQ⟩:=hfo
 have hargs:=sq (s:=s) hE c.args.toList c.argTypes.toList (fun p hp=>jI.1 p (by cases fo<;>simp[rsOf,hp]))
 rw[has]at hargs
 have AH:AVrs w E (first++WA++caps) (us++c.args.toList.map a.eval++vs):=(uu.append hargs).append tQ
 obtain⟨fn,cd,hfn,hname,hbody⟩:=hs.can
 have hrun:(execOp a.eval o).run X.P w= .ok (.enter f (us++c.args.toList.map a.eval++vs).toArray) w:=by
  have h1:us.toArray++c.args.map a.eval++vs.toArray=(us++c.args.toList.map a.eval++vs).toArray:=by
   apply adW.1;simp
  have h2:=dG (P:=X.P) hfn hname hbody (us.toArray++c.args.map a.eval++vs.toArray) w
  rw[h1]at h2
  simp only[execOp,ho,resolve,hc,hfo,Deferred.ofValue,Sem.run_bind,Sem.run_pure,Result.andThen_ok,invoke]
  rw[h1];exact h2
 have kF:∀l,bM [] l=none:=fun l=>by unfold bM;split<;>rfl
 have F5:aK w E.z w (fun b=>max (E.z b) (dh w b)):=fun b=>⟨agr _ _,fun _ _=>rfl⟩
 have AW:Good [] ⟨E.ρ,E.σ,fun b=>max (E.z b) (dh w b)⟩ w:=by
  refine⟨fun l h=>by simp[look]at h,fun l l' b h=>by simp[kF]at h,fun l o h=>by simp[kF]at h,fun b hb=> ?_⟩
  simp[hE.good.fresh b hb,dh,aeg hb]
 have hA:AVrs w ⟨E.ρ,E.σ,fun b=>max (E.z b) (dh w b)⟩ Va (us++c.args.toList.map a.eval++vs):=
  gT (E':=⟨E.ρ,E.σ,fun b=>max (E.z b) (dh w b)⟩) ⟨F5,fun _ _=>rfl,fun _ _=>rfl⟩ (fun a x v RM hr=>vC hE.good F5 (fun l o b _ _ _ _=>agj _ _) (AU (fun l o hl=>jI.2 _ (bn hl)) RM) hr) oZ AH
 unfold Oper.wp
 rw[hrun]
 refine(hs.calls _ w _ AW hA).mono ?_
 rintro e w' ⟨v,E',rfl,hst,hg',qg,hres⟩
 have hheap:∀b,b<w.heap.size->w'.heap[b]? =w.heap[b]? :=fun b hb=>(hst.frame b hb (by rintro⟨l,o,hl,_⟩;simp[kF]at hl)).1
 have hfl:=hro
 have O2:bM [(10000,AObj.own e0 sz rows)] 10000=some (.own e0 sz rows):=by rw[bJ (by omega)];simp[look]
 have oV:=hg'.gw 10000 _ O2
 have F8:∀b,E'.ρ 10000=some b->w.heap.size<=b:=fun b hb=>by
  rcases qg 10000 _ b O2 rfl hb with h|⟨l,q,hl,_⟩
  ·exact h
  ·simp[kF]at hl
 obtain⟨E2,hρ,hσ,U8,U9,hz1,Md⟩:∃E2:Env,(∀l,l≠d->E2.ρ l=E.ρ l)/\(∀l,l≠d->E2.σ l=E.σ l)/\E2.ρ d=E'.ρ 10000/\E2.σ d=E'.σ 10000/\(∀b,b<w.heap.size->E2.z b=E.z b)/\(∀b,w.heap.size<=b->E2.z b=E'.z b):=
  ⟨⟨fun l=>if l=d then E'.ρ 10000 else E.ρ l,fun l=>if l=d then E'.σ 10000 else E.σ l,fun b=>if b<w.heap.size then E.z b else E'.z b⟩,fun l h=>by simp[h],fun l h=>by simp[h],by simp,by simp,fun b h=>by simp[h],fun b h=>by simp[show ¬b<w.heap.size by omega]⟩
 have cM:∀l,kl [(d,(none:Option D))] l=if d=l then some none else none:=fun l=>by simp only[kl]
 have hlk:∀l,look [(d,AObj.own e0 sz rows)] l=if d=l then some (.own e0 sz rows) else none:=fun l=>by simp only[look]
 refine⟨E2,hd ▸ hE.app' ⟨rsOf s (fo::c.args.toList),reach s 3 (AV.idss (first++WA++caps)), [(d,none)], [(d, .own e0 sz rows)],some d, .ref d⟩ E2 w' v (fun b=> ?_) hst.os hst.tape hst.output hst.size (fun l hl=> ?_) (fun l x hl=> ?_) (fun l hl=> ?_) (fun l hl=> ?_) (fun l q hl=> ?_) (fun b hb=> .inl ⟨hheap b hb,hz1 b hb⟩) (fun l q hl=> ?_) (fun l l' b hl hl' _ _=> ?_) (fun l b hl hb=> ?_) (fun b hb=> ?_) ?_ (fun k hk=>hdn k (hd ▸ hk))⟩
 ·by_cases hb:b<w.heap.size
  ·exact⟨by rw[hz1 b hb];exact adg _,fun o _=>cell?_of_heap (hheap b hb) o⟩
  ·have:=hE.good.fresh b (by omega)
   exact⟨by omega,fun o ho=>by omega⟩
 ·have:l≠d:=fun e=>by subst e;simp[kl]at hl
  exact⟨hρ l this,hσ l this⟩
 ·simp only[cM]at hl;split at hl<;>simp at hl
 ·have:l≠d:=fun e=>by
   subst e
   have:=hX.low l hl
   omega
  exact⟨hρ l this,hσ l this⟩
 ·simp only[cM]at hl
  split at hl
  ·omega
  ·exact absurd rfl hl
 ·simp only[hlk]at hl
  split at hl
  ·cases hl;exact⟨by omega,rfl⟩
  ·cases hl
 ·simp only[hlk]at hl
  split at hl
  ·rename_i he;subst he
   cases hl
   obtain⟨g1,g2,g3⟩:=oV
   refine⟨g1,g2, ?_⟩
   rcases g3 with ⟨h1,h2,h3⟩|⟨b,cur,cap,h1,h2,h3,h4,h5,h6,h7,h8⟩
   ·exact .inl ⟨by rw[U8];exact h1,h2,by rw[U9];exact h3⟩
   ·refine .inr ⟨b,cur,cap,by rw[U8];exact h1,h2,by rw[U9];exact h3,h4,h5,h6,by rw[Md b (F8 b h1)];exact h7,fun i j r x hi hj=> ?_⟩
    obtain⟨v,hv,hx⟩:=h8 i j r x hi hj
    obtain⟨u,rfl⟩:=hfl r (adM hi) x (adM hj)
    cases hx with
    |sc _ h=>exact⟨_,hv, .sc _ h⟩
  ·cases hl
 ·simp only[hlk]at hl hl'
  split at hl
  ·rename_i he;split at hl'
   ·rename_i he';rw[<- he, <- he']
   ·exact absurd rfl hl'
  ·exact absurd rfl hl
 ·simp only[hlk]at hl
  split at hl
  ·rename_i he;subst he
   rw[U8]at hb;exact .inl (F8 b hb)
  ·exact absurd rfl hl
 ·rw[Md b (aej hst.size hb)];exact hg'.fresh b hb
 ·exact⟨by rw[U9];exact hres.1,hres.2⟩
end Go.Ab
end
