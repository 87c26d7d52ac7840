/- What each operation asks is enough: a slice of a slice. -/
import Derived.Test.YtameldglfobjkaaGreatL6P5
set_option linter.unusedSimpArgs false
set_option linter.unusedVariables false
namespace Go.Ab
def BV(ov:Option Value)(d i:Int):Prop:=(ov=none/\i=d)\/∃k,ov=some (.int k i)
theorem eL{P:Program}(w:World)(len cap:Nat){lo hi mx:Option Value}{l h m:Int}(hl:BV lo 0 l)(hh:BV hi len h)(hm:BV mx cap m)(hno:hi=none->mx=none)
 (h0:0<=l) (h1:l<=h) (h2:h<=m) (h3:m<=cap):(Instr.sliceBounds true len cap lo hi mx).run P w= .ok (l.toNat,h.toNat,m.toNat) w:=by
 have hb:∀(k:IntKind) (i:Int) (y:Nat) (c:BoundsCode),0<=i->i<=y->(Instr.sliceBound (.int k i) y c).run P w= .ok i.toNat w:=fun k i y c a b=>run_sliceBound w k i y c a b
 have e1:((m.toNat:Nat):Int)=m:=afj (by omega)
 have e2:((h.toNat:Nat):Int)=h:=afj (by omega)
 rcases hm with ⟨rfl,rfl⟩|⟨km,rfl⟩
 ·rcases hh with ⟨rfl,rfl⟩|⟨kh,rfl⟩
  ·rcases hl with ⟨rfl,rfl⟩|⟨kl,rfl⟩
   ·simp[Instr.sliceBounds]
   ·simp[Instr.sliceBounds,hb kl l len _ h0 h1]
  ·rcases hl with ⟨rfl,rfl⟩|⟨kl,rfl⟩
   ·simp[Instr.sliceBounds,hb kh h cap _ (by omega) h2]
   ·simp[Instr.sliceBounds,hb kh h cap _ (by omega) h2,hb kl l h.toNat _ h0 (by omega)]
 ·rcases hh with ⟨rfl,rfl⟩|⟨kh,rfl⟩
  ·cases hno rfl
  ·rcases hl with ⟨rfl,rfl⟩|⟨kl,rfl⟩
   ·simp[Instr.sliceBounds,hb km m cap _ (by omega) h3,hb kh h m.toNat _ (by omega) (by omega)]
   ·simp[Instr.sliceBounds,hb km m cap _ (by omega) h3,hb kh h m.toNat _ (by omega) (by omega),hb kl l h.toNat _ h0 (by omega)]
theorem L4{w:World}{z:Nat->Nat}{a:Option Addr}{n c sz:Nat}{rows:List (List D)}(h:Rd w z (.slice a n c) (.sl sz rows)){l k m:Nat}(h1:l<=k)(h2:k<=n)(h3:k<=m):
 Rd w z (sliced a l k m sz) (.sl sz ((rows.take k).drop l))\/(c=0/\rows= []):=by
 generalize hv:Value.slice a n c=v at h
 cases h with
 |nil p=>cases hv;exact .inr ⟨rfl,rfl⟩
 |sl b off n' cap _ _ vs hn hsz hz hcap hc hr=>
  cases hv
  left
  unfold sliced
  have hlen:((rows.take k).drop l).length=k - l:=by simp;omega
  by_cases hml:m=l
  ·have cM:k=l:=by omega
   subst hml;subst cM
   simp only[if_true,ags]
   have:(rows.take k).drop k= []:=by simp
   rw[this]
   exact .sl b off 0 0 sz [] vs rfl (by simp) (by omega) (adg _) (fun j hj=>by omega) (fun i j r x hi=>by simp at hi)
  ·simp only[hml,if_false,Option.map_some,Addr.add_mid]
   have hle:k*sz<=n*sz:=adF _ h2
   have cM:(k - l)*sz+l*sz=k*sz:=by rw[<- Nat.add_mul];congr 1;omega
   refine .sl b (off+l*sz) (k - l) (m - l) sz _ (fun j=>vs (l*sz+j)) hlen (fun r hr=>hsz r (afu (afv hr))) (by omega) (by omega) (fun j hj=> ?_) (fun i j r x hi hj=> ?_)
   ·rw[af3];exact hc _ (by omega)
   ·rw[ad3,adD]at hi
    split at hi
    ·have:=hr (l+i) j r x hi hj
     rw[show l*sz+(i*sz+j)=(l+i)*sz+j from by rw[ad6];omega]
     exact this
    ·cases hi
theorem FM{w:World}{E:Env}{d e sz b off cap:Nat}{cur:Array Value}{rows:List (List D)}{p k:Nat}(g1:∀r∈rows,r.length=sz)(g2:0<sz)(h2:w.heap[b]? =some (.cells cur e (0,0)))
 (h4:rows.length<=cap) (h5:off+cap*sz<=cur.size) (h6:cap<=maxLen) (h7:E.z b=0)
 (h8:∀(i j:Nat) (r:List D) (x:D),rows[i]? =some r->r[j]? =some x->∃v,cur[off+(i*sz+j)]? =some v/\Rd w E.z v x) (hpk:p<=k) (hk:k<=rows.length):
 bF w (cL E d b (sliced (some ⟨b,off,none⟩) p k cap sz) 0) d (.part e sz ((rows.take k).drop p)):=by
 have hz:∀x,(cL E d b (sliced (some ⟨b,off,none⟩) p k cap sz) 0).z x=E.z x:=fun x=>by
  simp only[cL];split
  ·rename_i h;subst h;exact h7.symm
  ·rfl
 have hst:aK w E.z w (cL E d b (sliced (some ⟨b,off,none⟩) p k cap sz) 0).z:=fun x=>⟨by rw[hz];exact adg _,fun _ _=>rfl⟩
 have hlen:((rows.take k).drop p).length=k - p:=by simp;omega
 refine⟨fun r hr=>g1 r (afu (afv hr)),g2, .inr ⟨b,if cap=p then off else off+p*sz,cur,cap - p,by simp[cL],h2, ?_,by omega, ?_,by omega,by rw[hz];exact h7,fun i j r x hi hj=> ?_⟩⟩
 ·simp only[cL,if_true,sliced,hlen]
  split<;>simp[Addr.add_mid]
 ·split
  ·rename_i Y1;rw[Y1,ags,ahd];have:=adF sz (show p<=cap by omega);omega
  ·have:p*sz+(cap - p)*sz=cap*sz:=by rw[<- Nat.add_mul];congr 1;omega
   omega
 ·rw[ad3,adD]at hi
  split at hi
  ·rename_i hlt
   obtain⟨v,hv,hx⟩:=h8 (p+i) j r x hi hj
   refine⟨v, ?_,hx.mono hst⟩
   rw[ac7 (by omega), <- hv]
   congr 1
   rw[ad6];omega
  ·cases hi
section
variable {X:Ctx} {o:Oper} {s:ASt} {K:LA->Prop}
theorem OC(hX:X.Ok){t:Nat}{x:Operand}{lo hi mx:Option Operand}(ho:o.op= .slice t x lo hi mx)(h:vcOp X X.C o s K):∃la,aN X o la/\Sat la s/\K la:=by
 simp only[vcOp,ho]at h
 split at h
 ·rename_i e R8 iu zc hT
  have hu:=(hX.C.T _ _ hT).2
  simp only at hu
  have hte:∀sz,sz=X.C.sz e->0<sz->∃te,bG X.P e te/\te.sz=sz:=by
   intro sz h1 h2
   unfold Cfg.sz at h1
   split at h1
   ·rename_i te hte;exact⟨te,hX.C.T _ _ hte,h1.symm⟩
   ·omega
  have core:∀(ms:List (Nat × AObj)) (sz:Nat) (rows:List (List D)),(∀p∈ms,look s.m p.1=some p.2)->sz=X.C.sz e->0<sz->mxOk hi mx->
   (∀(s':ASt) (E:Env) (a:Act) (w:World) (av:AV),Sat ⟨rsOf s (x::(lo.toList++hi.toList++mx.toList)),ms, [], [],o.dst,av⟩ s'->bh X E s' a w->Rd w E.z (a.eval x) (.sl sz rows))->
   (vcSlice (optLo (lo.map (aev X.C 3 s))) (optHi rows.length (hi.map (aev X.C 3 s))) (mx.map fun m=>optHi rows.length (some (aev X.C 3 s m))) rows.length fun a b=>
     K ⟨rsOf s (x::(lo.toList++hi.toList++mx.toList)),ms, [], [],o.dst,if mxLo (optLo (lo.map (aev X.C 3 s))) (mx.map fun m=>optHi rows.length (some (aev X.C 3 s m)))=true then .emp e else .d (.sl sz ((rows.take b).drop a))⟩)->∃la,aN X o la/\Sat la s/\K la:=by
   intro ms sz rows CP hsz hpos H9 hrd qw
   obtain⟨te,nw,j7⟩:=hte sz hsz hpos
   have fin:∀(z0:Bool) (l k m:Int),(z0=true->mx≠none/\l=m)->(∀(s':ASt) (E:Env) (a:Act) (w:World) (av:AV),Sat ⟨rsOf s (x::(lo.toList++hi.toList++mx.toList)),ms, [], [],o.dst,av⟩ s'->bh X E s' a w->
         BV (lo.map a.eval) 0 l/\BV (hi.map a.eval) rows.length k/\∀c:Nat,rows.length<=c->BV (mx.map a.eval) c (if mx=none then c else m))->
    (0<=l/\l<=k/\k<=rows.length/\(mx≠none->k<=m/\m<=rows.length))->K ⟨rsOf s (x::(lo.toList++hi.toList++mx.toList)),ms, [], [],o.dst,if z0=true then .emp e else .d (.sl sz ((rows.take k.toNat).drop l.toNat))⟩->∃la,aN X o la/\Sat la s/\K la:=by
    intro z0 l k m Se ZZ ⟨b1,b2,b3,b4⟩ hK
    refine⟨_,aN.val fun s' E a w hs hE=> ?_,⟨aH s _,CP⟩,hK⟩
    have hr:=hrd s' E a w _ hs hE
    obtain⟨g1,g2,g3⟩:=ZZ s' E a w _ hs hE
    obtain⟨ao,c,hv,hc⟩:=Om hr
    rw[hv]at hr
    have hbd:∃m':Nat,k.toNat<=m'/\(z0=true->m'=l.toNat)/\(Instr.sliceBounds true rows.length c (lo.map a.eval) (hi.map a.eval) (mx.map a.eval)).run X.P w= .ok (l.toNat,k.toNat,m') w:=by
     by_cases hmn:mx=none
     ·subst hmn
      have:=eL (P:=X.P) w rows.length c g1 g2 (g3 c hc) (by simp) b1 b2 (by simp;omega) (by simp)
      exact⟨c,by omega,fun hz=>absurd rfl (Se hz).1,by simpa using this⟩
     ·have TW:=g3 c hc
      simp only[hmn,if_false]at TW
      obtain⟨b5,b6⟩:=b4 hmn
      refine⟨m.toNat,by omega,fun hz=>by rw[(Se hz).2],eL (P:=X.P) w rows.length c g1 g2 TW (fun hh=> ?_) b1 b2 b5 (by omega)⟩
      exfalso
      unfold mxOk at H9
      cases hi<;>cases mx<;>simp_all
    obtain⟨m',hm',hmz,hbd⟩:=hbd
    obtain⟨⟨ie,z,e1,e2,_⟩,_⟩:=nw
    have CR:(Instr.sliceAt t (a.eval x) (lo.map a.eval) (hi.map a.eval) (mx.map a.eval)).run X.P w= .ok (sliced ao l.toNat k.toNat m' sz) w:=by
     rw[hv]
     simp[Instr.sliceAt,Instr.slice,run_underlying hu,hbd,sizeOf,typeInfo,e1,e2,j7,sliced]
    refine⟨sliced ao l.toNat k.toNat m' sz,by simp only[execOp,ho,Sem.run_bind,CR,Result.andThen_ok,Sem.run_pure], ?_⟩
    by_cases hz:z0=true
    ·simp only[hz,if_true]
     have:=hmz hz
     unfold sliced
     exact⟨_,by rw[this,show k.toNat - l.toNat=0 by omega,ags]⟩
    simp only[hz]
    rcases L4 hr (l:=l.toNat) (k:=k.toNat) (m:=m') (by omega) (by omega) hm' with h|h
    ·exact h
    ·obtain⟨rfl,rfl⟩:=h
     simp only[List.length_nil]at b3
     have hl0:l.toNat=0:=by omega
     have Ay:k.toNat=0:=by omega
     have hm0:m'=0:=by
      by_cases hmn:mx=none
      ·subst hmn
       have:=eL (P:=X.P) w 0 0 g1 g2 (g3 0 (by simp)) (by simp) b1 b2 (by simp;omega) (by simp)
       rw[List.length_nil]at hbd
       rw[hbd]at this
       simp only[Result.ok.injEq,afe]at this
       simpa using this.1.2.2
      ·obtain⟨b5,b6⟩:=b4 hmn
       have TW:=g3 0 (by simp)
       simp only[hmn,if_false]at TW
       have:=eL (P:=X.P) w 0 0 g1 g2 TW (fun hh=>by
        exfalso
        unfold mxOk at H9
        cases hi<;>cases mx<;>simp_all) b1 b2 b5 (by simpa using b6)
       rw[List.length_nil]at hbd
       rw[hbd]at this
       simp only[Result.ok.injEq,afe]at this
       have h3:=this.1.2.2
       simp only[List.length_nil]at b6
       omega
     simp only[hl0,Ay,hm0,sliced,cG]
     exact .nil _ sz
   have hlo:∀l,optLo (lo.map (aev X.C 3 s))=some l->∀(s':ASt) (E:Env) (a:Act) (w:World) (av:AV),Sat ⟨rsOf s (x::(lo.toList++hi.toList++mx.toList)),ms, [], [],o.dst,av⟩ s'->bh X E s' a w->BV (lo.map a.eval) 0 l:=by
    intro l hl s' E a w av hs hE
    cases lo with
    |none=>simp only[Option.map_none,optLo,ady]at hl;exact .inl ⟨rfl,hl.symm⟩
    |some q=>
     simp only[Option.map_some]at hl ⊢
     have eq:=hE.evs hs.1 X.C 3 (x:=q) (by simp)
     unfold optLo at hl
     split at hl
     ·rename_i hq;cases hq
     ·rename_i k i hq;cases hl;rw[aeU hq]at eq;exact .inr ⟨k,by rw[bN eq]⟩
     ·cases hl
   have hhi:∀(q0:Option Operand) (l:Int),optHi rows.length (q0.map (aev X.C 3 s))=some l->(∀q,q0=some q->q∈x::(lo.toList++hi.toList++mx.toList))->∀(s':ASt) (E:Env) (a:Act) (w:World) (av:AV),Sat ⟨rsOf s (x::(lo.toList++hi.toList++mx.toList)),ms, [], [],o.dst,av⟩ s'->bh X E s' a w->BV (q0.map a.eval) rows.length l:=by
    intro q0 l hl hmem s' E a w av hs hE
    cases q0 with
    |none=>simp only[Option.map_none,optHi,ady]at hl;exact .inl ⟨rfl,hl.symm⟩
    |some q=>
     simp only[Option.map_some]at hl ⊢
     have eq:=hE.evs hs.1 X.C 3 (x:=q) (hmem q rfl)
     unfold optHi at hl
     split at hl
     ·rename_i hq;cases hq
     ·rename_i k i hq;cases hl;rw[aeU hq]at eq;exact .inr ⟨k,by rw[bN eq]⟩
     ·cases hl
   unfold vcSlice at qw
   split at qw
   ·rename_i l k yL Cu yM
    obtain⟨⟨c1,c2,c3⟩,hK⟩:=qw
    have hmn:mx=none:=by cases mx<;>simp_all
    have Se:mxLo (optLo (lo.map (aev X.C 3 s))) (mx.map fun m=>optHi rows.length (some (aev X.C 3 s m)))=false:=by rw[yM];unfold mxLo;split<;>simp_all
    rw[Se]at hK
    refine fin false l k 0 (by simp) (fun s' E a w av hs hE=>⟨hlo l yL s' E a w av hs hE,hhi hi k Cu (fun q hq=>by simp[hq]) s' E a w av hs hE,fun c _=> ?_⟩) ⟨c1,c2,c3,fun h=>absurd hmn h⟩ hK
    subst hmn
    exact .inl ⟨rfl,by simp⟩
   ·rename_i l k m yL Cu yM
    obtain⟨⟨c1,c2,c3,c4⟩,hK⟩:=qw
    obtain⟨q,hq⟩:∃q,mx=some q:=by cases mx with|none=>simp at yM|some q=>exact⟨q,rfl⟩
    subst hq
    refine fin _ l k m (fun hz=>⟨by simp, ?_⟩) (fun s' E a w av hs hE=>⟨hlo l yL s' E a w av hs hE,hhi hi k Cu (fun q hq=>by simp[hq]) s' E a w av hs hE,fun c _=> ?_⟩) ⟨c1,c2,by omega,fun _=>⟨c3,c4⟩⟩ hK
    ·rw[yL,yM]at hz;simpa[mxLo]using hz
    ·simp only[Option.map_some,ady]at yM
     have eq:=hE.evs hs.1 X.C 3 (x:=q) (by simp)
     unfold optHi at yM
     split at yM
     ·rename_i hq;cases hq
     ·rename_i kk i hq;cases yM;rw[aeU hq]at eq;exact .inr ⟨kk,by simp[bN eq]⟩
     ·cases yM
   ·exact qw.elim
  have Y2:∀l,optLo (lo.map (aev X.C 3 s))=some l->∀(s':ASt) (E:Env) (a:Act) (w:World),(∀p∈rsOf s (x::(lo.toList++hi.toList++mx.toList)),get s'.t p.1=p.2)->bh X E s' a w->BV (lo.map a.eval) 0 l:=by
   intro l hl s' E a w hs hE
   cases lo with
   |none=>simp only[Option.map_none,optLo,ady]at hl;exact .inl ⟨rfl,hl.symm⟩
   |some q=>
    simp only[Option.map_some]at hl ⊢
    have eq:=hE.evs hs X.C 3 (x:=q) (by simp)
    unfold optLo at hl
    split at hl
    ·rename_i hq;cases hq
    ·rename_i k i hq;cases hl;rw[aeU hq]at eq;exact .inr ⟨k,by rw[bN eq]⟩
    ·cases hl
  have Y3:∀(n:Nat) (l:Int),optHi n (hi.map (aev X.C 3 s))=some l->∀(s':ASt) (E:Env) (a:Act) (w:World),(∀p∈rsOf s (x::(lo.toList++hi.toList++mx.toList)),get s'.t p.1=p.2)->bh X E s' a w->BV (hi.map a.eval) n l:=by
   intro n l hl s' E a w hs hE
   cases hi with
   |none=>simp only[Option.map_none,optHi,ady]at hl;exact .inl ⟨rfl,hl.symm⟩
   |some q=>
    simp only[Option.map_some]at hl ⊢
    have eq:=hE.evs hs X.C 3 (x:=q) (by simp)
    unfold optHi at hl
    split at hl
    ·rename_i hq;cases hq
    ·rename_i k i hq;cases hl;rw[aeU hq]at eq;exact .inr ⟨k,by rw[bN eq]⟩
    ·cases hl
  have Xm:∀(e' l sz:Nat) (rows:List (List D)),look s.m l=some (.own e' sz rows)->aev X.C t s x= .ref l->sz=X.C.sz e->0<sz->mx=none->
   (vcSlice (optLo (lo.map (aev X.C 3 s))) (optHi rows.length (hi.map (aev X.C 3 s))) none rows.length fun a b=>(a<rows.length/\b=rows.length)/\
     K ⟨rsOf s (x::(lo.toList++hi.toList++mx.toList)), [(l, .own e' sz rows)], [], [],o.dst, .vw l sz a⟩)->∃la,aN X o la/\Sat la s/\K la:=by
   intro e' l sz rows hl hx hsz hpos H9 qw
   obtain⟨te,nw,j7⟩:=hte sz hsz hpos
   unfold vcSlice at qw
   split at qw
   ·rename_i p k yL Cu yM
    obtain⟨⟨c1,c2,c3⟩,⟨c4,c5⟩,hK⟩:=qw
    refine⟨_,aN.val fun s' E a w hs hE=> ?_,⟨aH s _,by simp[hl]⟩,hK⟩
    have hl':=hs.2 (l, .own e' sz rows) (by simp)
    have ex:=hE.evs hs.1 X.C t (x:=x) (by simp)
    rw[hx]at ex
    simp only[cG]at ex
    have g1:=Y2 p yL s' E a w hs.1 hE
    have g2:=Y3 rows.length k Cu s' E a w hs.1 hE
    obtain⟨⟨ie,z,e1,e2,_⟩,_⟩:=nw
    obtain⟨k1,k2,⟨h1,h2,ad,h3⟩|⟨b,cur,cap,h1,h2,h3,h4,h5,h6,h7,h8⟩⟩:=hE.good.obj l _ hl'
    ·subst h2;simp at c4
    ·have hbd:=eL (P:=X.P) w rows.length cap g1 g2 (mx:=none) (m:=cap) (.inl ⟨rfl,rfl⟩) (by simp) c1 c2 (by omega) (by simp)
     have hrun:(Instr.sliceAt t (a.eval x) (lo.map a.eval) (hi.map a.eval) (mx.map a.eval)).run X.P w= .ok (sliced (some ⟨b,0,none⟩) p.toNat k.toNat cap sz) w:=by
      rw[ex.1,h3,H9]
      simp only[Option.map_none]
      simp[Instr.sliceAt,Instr.slice,run_underlying hu,hbd,sizeOf,typeInfo,e1,e2,j7,sliced]
     refine⟨sliced (some ⟨b,0,none⟩) p.toNat k.toNat cap sz,by simp only[execOp,ho,Sem.run_bind,hrun,Result.andThen_ok,Sem.run_pure],b,0,rows.length,cap,h3,c4, ?_⟩
     unfold sliced
     rw[ac7 (by omega),c5]
     simp[Addr.add_mid]
   ·rename_i yM;simp at yM
   ·exact qw.elim
  have TX:∀(old:AObj) (l d sz:Nat) (rows:List (List D)),look s.m l=some old->old.ro=false->aev X.C t s x= .ref l->o.dst=some d->(∀w E,bF w E l old->bF w E l (.part e sz rows))->sz=X.C.sz e->0<sz->mx=none->dlow d->
   (vcSlice (optLo (lo.map (aev X.C 3 s))) (optHi rows.length (hi.map (aev X.C 3 s))) none rows.length fun a b=>
     K ⟨rsOf s (x::(lo.toList++hi.toList++mx.toList)), [(l,old)], [(l,none),(d,none)], [(d, .part e sz ((rows.take b).drop a))],some d, .ref d⟩)->∃la,aN X o la/\Sat la s/\K la:=by
   intro old l d sz rows hl hro hx bV oV hsz hpos H9 hd qw
   obtain⟨te,nw,j7⟩:=hte sz hsz hpos
   unfold vcSlice at qw
   split at qw
   ·rename_i p k yL Cu yM
    obtain⟨⟨c1,c2,c3⟩,hK⟩:=qw
    refine⟨_,aN.mk bV.symm fun s' E a w hdn hs hE=> ?_,⟨aH s _,by simp[hl]⟩,hK⟩
    have hl':=hs.2 (l,old) (by simp)
    have ex:=hE.evs hs.1 X.C t (x:=x) (by simp)
    rw[hx]at ex
    simp only[cG]at ex
    have g1:=Y2 p yL s' E a w hs.1 hE
    have g2:=Y3 rows.length k Cu s' E a w hs.1 hE
    have o6:l<20000:=hE.good.low l (by simp[hl'])
    have H7:kl [(l,(none:Option D)),(d,none)] d≠none:=by simp only[kl];split<;>simp
    have cM:kl [(l,(none:Option D)),(d,none)] l≠none:=by simp[kl]
    have kJ:∀q,kl [(l,(none:Option D)),(d,none)] q≠none->q<20000:=by
     intro q hq
     unfold dlow at hd
     simp only[kl]at hq;split at hq;omega;split at hq;omega;exact absurd rfl hq
    have hkx:∀q y,kl [(l,(none:Option D)),(d,none)] q≠some (some y):=by
     intro q y hq
     simp only[kl]at hq
     split at hq
     ·cases hq
     ·split at hq<;>cases hq
    have qp:∀k,some d=some k->k<X.n:=fun k hk=>hdn k (by rw[bV];exact hk)
    obtain⟨⟨ie,z,e1,e2,_⟩,_⟩:=nw
    obtain⟨k1,k2,⟨h1,h2,ad,h3⟩|⟨b,off,cur,cap,h1,h2,h3,h4,h5,h6,h7,h8⟩⟩:=oV w E (hE.good.obj l old hl')
    ·subst h2
     simp only[List.length_nil]at c3 g2
     have DZ:p=0:=by omega
     have Ay:k=0:=by omega
     subst DZ;subst Ay
     have hbd:=eL (P:=X.P) w 0 0 g1 g2 (mx:=none) (m:=0) (.inl ⟨rfl,rfl⟩) (by simp) c1 c2 (by simp) (by simp)
     have hrun:(execOp a.eval o).run X.P w= .ok (.value (.slice ad 0 0)) w:=by
      have:(Instr.sliceAt t (a.eval x) (lo.map a.eval) (hi.map a.eval) (mx.map a.eval)).run X.P w= .ok (.slice ad 0 0) w:=by
       rw[ex.1,h3,H9]
       simp only[Option.map_none]
       simp[Instr.sliceAt,Instr.slice,run_underlying hu,hbd,sizeOf,typeInfo,e1,e2,j7]
      simp only[execOp,ho,Sem.run_bind,this,Result.andThen_ok,Sem.run_pure]
     rw[bV]
     refine⟨_,_,j8 E d ad,hrun,hE.D4 hX H7 hd kJ (fun q y hq=>absurd hq (hkx q y)) ?_ ⟨by simp[j8],trivial⟩ qp⟩
     exact⟨by simp,k2, .inl ⟨by simp[j8],by simp,ad,by simp[j8]⟩⟩
    ·have hbd:=eL (P:=X.P) w rows.length cap g1 g2 (mx:=none) (m:=cap) (.inl ⟨rfl,rfl⟩) (by simp) c1 c2 (by omega) (by simp)
     have hrun:(execOp a.eval o).run X.P w= .ok (.value (sliced (some ⟨b,off,none⟩) p.toNat k.toNat cap sz)) w:=by
      have:(Instr.sliceAt t (a.eval x) (lo.map a.eval) (hi.map a.eval) (mx.map a.eval)).run X.P w= .ok (sliced (some ⟨b,off,none⟩) p.toNat k.toNat cap sz) w:=by
       rw[ex.1,h3,H9]
       simp only[Option.map_none]
       simp[Instr.sliceAt,Instr.slice,run_underlying hu,hbd,sizeOf,typeInfo,e1,e2,j7,sliced]
      simp only[execOp,ho,Sem.run_bind,this,Result.andThen_ok,Sem.run_pure]
     rw[bV]
     refine⟨_,_,cL E d b (sliced (some ⟨b,off,none⟩) p.toNat k.toNat cap sz) 0,hrun,hE.move hX hl' hro h1 H7 cM hd kJ rfl (fun _ _ _=>rfl) rfl rfl rfl (by omega) (fun _ _=>rfl) (fun q y hq=>absurd hq (hkx q y)) ?_ ⟨by simp[cL],by unfold sliced;trivial⟩ qp⟩
     exact FM k1 k2 h2 h4 h5 h6 h7 h8 (by omega) (by omega)
   ·rename_i yM;simp at yM
   ·exact qw.elim
  have Xn:lo=none->∀(old:AObj) (l d sz:Nat) (rows:List (List D)),look s.m l=some old->old.ro=false->aev X.C t s x= .ref l->o.dst=some d->(∀w E,bF w E l old->bF w E l (.own e sz rows))->sz=X.C.sz e->0<sz->mx=none->dlow d->
   (vcSlice (optLo (lo.map (aev X.C 3 s))) (optHi rows.length (hi.map (aev X.C 3 s))) none rows.length fun a b=>
     K ⟨rsOf s (x::(lo.toList++hi.toList++mx.toList)), [(l,old)], [(l,none),(d,none)], [(d, .own e sz (rows.take b))],some d, .ref d⟩)->∃la,aN X o la/\Sat la s/\K la:=by
   intro Sf old l d sz rows hl hro hx bV oV hsz hpos H9 hd qw
   obtain⟨te,nw,j7⟩:=hte sz hsz hpos
   unfold vcSlice at qw
   split at qw
   ·rename_i p k yL Cu yM
    obtain⟨⟨c1,c2,c3⟩,hK⟩:=qw
    refine⟨_,aN.mk bV.symm fun s' E a w hdn hs hE=> ?_,⟨aH s _,by simp[hl]⟩,hK⟩
    have hl':=hs.2 (l,old) (by simp)
    have ex:=hE.evs hs.1 X.C t (x:=x) (by simp)
    rw[hx]at ex
    simp only[cG]at ex
    have g1:=Y2 p yL s' E a w hs.1 hE
    have g2:=Y3 rows.length k Cu s' E a w hs.1 hE
    have o6:l<20000:=hE.good.low l (by simp[hl'])
    have H7:kl [(l,(none:Option D)),(d,none)] d≠none:=by simp only[kl];split<;>simp
    have cM:kl [(l,(none:Option D)),(d,none)] l≠none:=by simp[kl]
    have kJ:∀q,kl [(l,(none:Option D)),(d,none)] q≠none->q<20000:=by
     intro q hq
     unfold dlow at hd
     simp only[kl]at hq;split at hq;omega;split at hq;omega;exact absurd rfl hq
    have hkx:∀q y,kl [(l,(none:Option D)),(d,none)] q≠some (some y):=by
     intro q y hq
     simp only[kl]at hq
     split at hq
     ·cases hq
     ·split at hq<;>cases hq
    have qp:∀k,some d=some k->k<X.n:=fun k hk=>hdn k (by rw[bV];exact hk)
    obtain⟨⟨ie,z,e1,e2,_⟩,_⟩:=nw
    obtain⟨k1,k2,⟨h1,h2,ad,h3⟩|⟨b,cur,cap,h1,h2,h3,h4,h5,h6,h7,h8⟩⟩:=oV w E (hE.good.obj l old hl')
    ·subst h2
     simp only[List.length_nil]at c3 g2
     have DZ:p=0:=by omega
     have Ay:k=0:=by omega
     subst DZ;subst Ay
     have hbd:=eL (P:=X.P) w 0 0 g1 g2 (mx:=none) (m:=0) (.inl ⟨rfl,rfl⟩) (by simp) c1 c2 (by simp) (by simp)
     have hrun:(execOp a.eval o).run X.P w= .ok (.value (.slice ad 0 0)) w:=by
      have:(Instr.sliceAt t (a.eval x) (lo.map a.eval) (hi.map a.eval) (mx.map a.eval)).run X.P w= .ok (.slice ad 0 0) w:=by
       rw[ex.1,h3,H9]
       simp only[Option.map_none]
       simp[Instr.sliceAt,Instr.slice,run_underlying hu,hbd,sizeOf,typeInfo,e1,e2,j7]
      simp only[execOp,ho,Sem.run_bind,this,Result.andThen_ok,Sem.run_pure]
     rw[bV]
     refine⟨_,_,j8 E d ad,hrun,hE.D4 hX H7 hd kJ (fun q y hq=>absurd hq (hkx q y)) ?_ ⟨by simp[j8],trivial⟩ qp⟩
     exact⟨by simp,k2, .inl ⟨by simp[j8],by simp,ad,by simp[j8]⟩⟩
    ·have hbd:=eL (P:=X.P) w rows.length cap g1 g2 (mx:=none) (m:=cap) (.inl ⟨rfl,rfl⟩) (by simp) c1 c2 (by omega) (by simp)
     have hrun:(execOp a.eval o).run X.P w= .ok (.value (sliced (some ⟨b,0,none⟩) p.toNat k.toNat cap sz)) w:=by
      have:(Instr.sliceAt t (a.eval x) (lo.map a.eval) (hi.map a.eval) (mx.map a.eval)).run X.P w= .ok (sliced (some ⟨b,0,none⟩) p.toNat k.toNat cap sz) w:=by
       rw[ex.1,h3,H9]
       simp only[Option.map_none]
       simp[Instr.sliceAt,Instr.slice,run_underlying hu,hbd,sizeOf,typeInfo,e1,e2,j7,sliced]
      simp only[execOp,ho,Sem.run_bind,this,Result.andThen_ok,Sem.run_pure]
     rw[bV]
     refine⟨_,_,cL E d b (sliced (some ⟨b,0,none⟩) p.toNat k.toNat cap sz) 0,hrun,hE.move hX hl' hro h1 H7 cM hd kJ rfl (fun _ _ _=>rfl) rfl rfl rfl (by omega) (fun _ _=>rfl) (fun q y hq=>absurd hq (hkx q y)) ?_ ⟨by simp[cL],by unfold sliced;trivial⟩ qp⟩
     have DZ:p=0:=by subst Sf;simp only[Option.map_none,optLo,ady]at yL;exact yL.symm
     subst DZ
     have hzz:∀x,(cL E d b (sliced (some ⟨b,0,none⟩) (0:Int).toNat k.toNat cap sz) 0).z x=E.z x:=fun x=>by
      simp only[cL];split
      ·rename_i h;subst h;exact h7.symm
      ·rfl
     have hst:aK w E.z w (cL E d b (sliced (some ⟨b,0,none⟩) (0:Int).toNat k.toNat cap sz) 0).z:=fun x=>⟨by rw[hzz];exact adg _,fun _ _=>rfl⟩
     refine⟨fun r hr=>k1 r (afu hr),k2, .inr ⟨b,cur,cap,by simp[cL],h2,by simp[cL,sliced,adG,Addr.add_mid];omega,by rw[adG];omega,h5,h6,by simp[cL],fun i j r y hi hj=> ?_⟩⟩
     rw[adD]at hi
     split at hi
     ·obtain⟨v,hv,hr⟩:=h8 i j r y hi hj
      exact⟨v,hv,hr.mono hst⟩
     ·cases hi
   ·rename_i yM;simp at yM
   ·exact qw.elim
  split at h
  ·rename_i e0 hx
   obtain⟨⟨hpos,H9⟩,qw⟩:=h
   obtain⟨te,nw,j7⟩:=hte _ rfl hpos
   unfold vcSlice at qw
   split at qw
   ·rename_i p k yL Cu yM
    obtain⟨⟨c1,c2,c3⟩,hK⟩:=qw
    refine⟨_,aN.val fun s' E a w hs hE=>⟨.slice none 0 0, ?_, ?_⟩,⟨aH s _,by simp⟩,hK⟩
    rotate_left
    ·simp[cG]
    have ex:=hE.evs hs.1 X.C t (x:=x) (by simp)
    rw[hx]at ex
    have ex:a.eval x= .slice none 0 0:=ex
    have g1:=Y2 p yL s' E a w hs.1 hE
    have g2:=Y3 0 k Cu s' E a w hs.1 hE
    have DZ:p=0:=by omega
    have Ay:k=0:=by omega
    subst DZ;subst Ay
    obtain⟨⟨ie,z,e1,e2,_⟩,_⟩:=nw
    have hbd:=eL (P:=X.P) w 0 0 g1 g2 (mx:=none) (m:=0) (.inl ⟨rfl,rfl⟩) (by simp) c1 c2 (by simp) (by simp)
    have:(Instr.sliceAt t (a.eval x) (lo.map a.eval) (hi.map a.eval) (mx.map a.eval)).run X.P w= .ok (.slice none 0 0) w:=by
     rw[ex,H9]
     simp only[Option.map_none]
     simp[Instr.sliceAt,Instr.slice,run_underlying hu,hbd,sizeOf,typeInfo,e1,e2,j7]
    simp only[execOp,ho,Sem.run_bind,this,Result.andThen_ok,Sem.run_pure]
   ·rename_i yM;simp at yM
   ·exact qw.elim
  ·rename_i l hx
   split at h
   ·rename_i e' sz rows hl
    obtain⟨⟨c1,c2,hpos,c3⟩,h⟩:=h
    refine core [(l, .tip e' sz rows)] sz rows (by simp[hl]) c2 hpos c3 (fun s' E a w av hs hE=> ?_) h
    have ex:=hE.evs hs.1 X.C t (x:=x) (by simp)
    rw[hx]at ex
    have:=qA (hE.good.obj l _ (hs.2 (l, .tip e' sz rows) (by simp)))
    rw[ex.1];exact this
   ·rename_i e' sz rows hl
    split at h
    ·rename_i d bV
     split at h
     ·obtain⟨⟨c0,c2,hpos,c3⟩,h⟩:=h
      exact Xm e' l sz rows hl hx c2 hpos c3 h
     obtain⟨⟨rfl,c2,hpos,c3,c4⟩,h⟩:=h
     cases Sf:lo with
     |none=>
      subst Sf
      exact Xn rfl _ l d sz rows hl rfl hx bV (fun w E oV=>oV) c2 hpos c3 c4 h
     |some q0=>
     subst Sf
     refine TX _ l d sz rows hl rfl hx bV (fun w E oV=> ?_) c2 hpos c3 c4 h
     obtain⟨g1,g2,h|⟨b,cur,cap,h1,h2,h3,h4,h5,h6,h7,h8⟩⟩:=oV
     ·exact⟨g1,g2, .inl h⟩
     ·exact⟨g1,g2, .inr ⟨b,0,cur,cap,h1,h2,h3,h4,by omega,h6,h7,fun i j r x hi hj=>by rw[adT];exact h8 i j r x hi hj⟩⟩
    ·exact h.elim
   ·rename_i e' sz rows hl
    split at h
    ·rename_i d bV
     obtain⟨⟨rfl,c2,hpos,c3,c4⟩,h⟩:=h
     exact TX _ l d sz rows hl rfl hx bV (fun w E oV=>oV) c2 hpos c3 c4 h
    ·exact h.elim
   ·exact h.elim
  ·rename_i sz rows hx
   obtain⟨⟨c1,c2,c3⟩,h⟩:=h
   refine core [] sz rows (by simp) c1 c2 c3 (fun s' E a w av hs hE=> ?_) h
   have ex:=hE.evs hs.1 X.C t (x:=x) (by simp)
   rw[hx]at ex
   exact ex
  ·exact h.elim
 ·exact h.elim
end
end Go.Ab
