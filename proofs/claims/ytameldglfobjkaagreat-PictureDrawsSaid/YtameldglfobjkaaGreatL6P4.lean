/- What each operation asks is enough: slices that are laid, made, and grown. -/
import Derived.Great.BuildSlice
import Derived.Test.YtameldglfobjkaaGreatL6P3
set_option linter.unusedSimpArgs false
set_option linter.unusedVariables false
namespace Go.Ab
theorem vq{sz:Nat} :∀ {eC:List (List Value)},(∀l∈eC,l.length=sz)->eC.flatten.length=eC.length*sz
 | [],_=>by simp
 |l::eC,h=>by
  have:=vq (sz:=sz) (eC:=eC) fun q hq=>h q (by simp[hq])
  simp[this,h l (by simp),ad6];omega
theorem flat_get{sz:Nat} :∀ {eC:List (List Value)},(∀l∈eC,l.length=sz)->∀(i j:Nat) (l:List Value) (v:Value),eC[i]? =some l->l[j]? =some v->eC.flatten[i*sz+j]? =some v
 | [],_,i,j,l,v,h,_=>by simp at h
 |q::eC,h,i,j,l,v,hi,hj=>by
  have hq:=h q (by simp)
  cases i with
  |zero=>
   simp only[List.getElem?_cons_zero,ady]at hi
   subst hi
   have:j<q.length:=(adh.1 hj).1
   simp only[List.flatten_cons,ahd,adT]
   rw[adx this];exact hj
  |succ i=>
   simp only[List.getElem?_cons_succ]at hi
   have ih:=flat_get (fun l hl=>h l (by simp[hl])) i j l v hi hj
   simp only[List.flatten_cons]
   rw[adw (by rw[hq,ad6];omega), <- ih]
   congr 1
   rw[hq,ad6];omega
def eZ(w:World)(E:Env)(sz:Nat)(eC:List (List Value))(rows:List (List D)):Prop:=
 eC.length=rows.length/\∀(i:Nat) vs r,eC[i]? =some vs->rows[i]? =some r->vs.length=sz/\r.length=sz/\∀(j:Nat) x v,r[j]? =some x->vs[j]? =some v->Rd w E.z v x
theorem eZ.nil(w:World)(E:Env)(sz:Nat):eZ w E sz [] []:=⟨rfl,fun i vs r h=>by simp at h⟩
theorem eZ.cons{w:World}{E:Env}{sz:Nat}{vs:List Value}{r:List D}{eC:List (List Value)}{rows:List (List D)}(h1:vs.length=sz)(h2:r.length=sz)
 (h3:∀(j:Nat) x v,r[j]? =some x->vs[j]? =some v->Rd w E.z v x) (h:eZ w E sz eC rows):eZ w E sz (vs::eC) (r::rows):=by
 refine⟨by simp[h.1],fun i ws q hi hr=> ?_⟩
 cases i with
 |zero=>simp at hi hr;subst hi;subst hr;exact⟨h1,h2,h3⟩
 |succ i=>simp at hi hr;exact h.2 i ws q hi hr
theorem eZ.lens{w:World}{E:Env}{sz:Nat}{eC:List (List Value)}{rows:List (List D)}(h:eZ w E sz eC rows):(∀l∈eC,l.length=sz)/\∀r∈rows,r.length=sz:=by
 constructor
 ·intro l hl
  obtain⟨i,hi,rfl⟩:=adr.1 hl
  exact(h.2 i _ _ (acF hi) (acF (by rw[<- h.1];exact hi))).1
 ·intro l hl
  obtain⟨i,hi,rfl⟩:=adr.1 hl
  exact(h.2 i _ _ (acF (by rw[h.1];exact hi)) (acF hi)).2.1
theorem eZ.cell{w:World}{E:Env}{sz:Nat}{eC:List (List Value)}{rows:List (List D)}(h:eZ w E sz eC rows){i j:Nat}{r:List D}{x:D}(hi:rows[i]? =some r)(hj:r[j]? =some x):
 ∃v,eC.flatten[i*sz+j]? =some v/\Rd w E.z v x:=by
 have hil:i<eC.length:=by rw[h.1];exact(adh.1 hi).1
 obtain⟨h1,h2,h3⟩:=h.2 i _ r (acF hil) hi
 have hjl:j<eC[i].length:=by rw[h1, <- h2];exact(adh.1 hj).1
 exact⟨eC[i][j],flat_get h.lens.1 i j _ _ (acF hil) (acF hjl),h3 j x _ hj (acF hjl)⟩
theorem eZ.one{w:World}{E:Env}{sz:Nat}{eC:List (List Value)}{rows:List (List D)}(h:eZ w E sz eC rows):∀v∈eC.flatten,v.oneCell'=true:=by
 intro v hv
 obtain⟨l,hl,hvl⟩:=agT.1 hv
 obtain⟨i,hi,rfl⟩:=adr.1 hl
 obtain⟨j,hj,rfl⟩:=adr.1 hvl
 have hir:i<rows.length:=by rw[<- h.1];exact hi
 obtain⟨h1,h2,h3⟩:=h.2 i _ _ (acF hi) (acF hir)
 exact(h3 j _ _ (acF (by omega)) (acF hj)).one
theorem CS{C:Cfg}{e:Nat}{s:ASt}{w:World}{E:Env}{sz:Nat}(hsz:sz=C.sz e):∀ {ps:List (Nat × AV)} {k:Nat} {rows:List (List D)} {vs:List (Nat × Value)} {cs:List Value},
 partRows C e s k ps=some rows->vs.map (·.1)=ps.map (·.1)->AVrs w E (ps.map (·.2)) (vs.map (·.2))->(∀p∈msOf s (partAVs ps),bF w E p.1 p.2)->(k+ps.length)*sz<=cs.length->
 ∃eC:List (List Value),Instr.fill (fun i=>some (i*sz,sz)) cs.toArray vs=some (cs.take (k*sz)++eC.flatten++cs.drop ((k+ps.length)*sz)).toArray/\eZ w E sz eC rows
 | [],k,rows,vs,cs,h,hi,hv,CP,hl=>by
   have:vs= []:=by simpa using hi
   subst this
   simp only[partRows,ady]at h
   subst h
   exact⟨[],by simp[Instr.fill],eZ.nil w E sz⟩
 |(i,a)::ps,k,rows,vs,cs,h,hi,hv,CP,hl=>by
  cases vs with
  |nil=>simp at hi
  |cons p vs=>
   obtain⟨i',v⟩:=p
   simp only[adC,adA]at hi
   obtain⟨rfl,hi⟩:=hi
   obtain⟨v',us',he,h1,h2⟩:=hv
   simp only[adC,adA]at he
   obtain⟨rfl,rfl⟩:=he
   unfold partRows at h
   split at h
   ·rename_i hik
    subst hik
    split at h
    ·rename_i ds rs hds xO
     split at h
     ·rename_i hdl
      cases h
      have hc:=h1.cells (Ar hds)
      have ZT:∀p∈msOf s (avCells a),bF w E p.1 p.2:=by
       intro p hp
       refine CP p ?_
       simp only[partAVs]
       have:∀(l m:List AV),p∈msOf s l->p∈msOf s (l++m):=by
        intro l m
        induction l with
        |nil=>intro h;cases h
        |cons q l ih=>
         intro h
         cases q<;>simp only[List.cons_append,msOf]at h ⊢ <;>first|exact ih h|skip
         split at h
         ·rcases adv.1 h with rfl|h
          ·exact adH
          ·exact adz _ (ih h)
         ·exact ih h
       exact this _ _ hp
      have ZU:∀p∈msOf s (partAVs ps),bF w E p.1 p.2:=by
       intro p hp
       refine CP p ?_
       simp only[partAVs]
       have:∀(l m:List AV),p∈msOf s m->p∈msOf s (l++m):=by
        intro l m hm
        induction l with
        |nil=>exact hm
        |cons q l ih=>
         cases q<;>simp only[List.cons_append,msOf]<;>first|exact ih|skip
         split
         ·exact adz _ ih
         ·exact ih
       exact this _ _ hp
      obtain⟨c1,c2⟩:=vp hds hc ZT
      have hvs:v.cells.size=sz:=by rw[<- Array.length_toList,c1,hdl,hsz]
      simp only[List.length_cons]at hl
      have cM:(i'+1+ps.length)*sz<=cs.length:=by rw[show i'+1+ps.length=i'+(ps.length+1) from by omega];exact hl
      have Ao:(i'+1)*sz<=cs.length:=aej (adF _ (by omega)) cM
      have hk2:(i'+1)*sz=i'*sz+sz:=by rw[ad6];omega
      have Xe:=foldl_set (i'*sz) v.cells.toList 0 cs.toArray (by simp;omega)
      obtain⟨eC,f1,f2⟩:=CS hsz (cs:=cs.take (i'*sz)++v.cells.toList++cs.drop (i'*sz+v.cells.size)) xO hi h2 ZU (by simp;omega)
      refine⟨v.cells.toList::eC, ?_,eZ.cons (by simp[hvs]) (by rw[hdl,hsz]) c2 f2⟩
      unfold Instr.fill
      simp only
      rw[ac7 (by simp[hvs];omega)]
      have hnew:(v.cells.zipIdx.foldl (fun cs (x:Value × Nat)=>cs.setIfInBounds (i'*sz+x.2) x.1) cs.toArray)=(cs.take (i'*sz)++v.cells.toList++cs.drop (i'*sz+v.cells.size)).toArray:=by
       apply adW.1
       rw[<- Array.foldl_toList,Array.toList_zipIdx]
       simpa using Xe
      rw[hnew,f1]
      congr 2
      have ht:(cs.take (i'*sz)++v.cells.toList++cs.drop (i'*sz+v.cells.size)).take ((i'+1)*sz)=cs.take (i'*sz)++v.cells.toList:=by
       rw[aey (by simp;omega),adB (by simp;omega)]
      have hd:(cs.take (i'*sz)++v.cells.toList++cs.drop (i'*sz+v.cells.size)).drop ((i'+1+ps.length)*sz)=cs.drop ((i'+(ps.length+1))*sz):=by
       have e1:(i'+1+ps.length)*sz=i'*sz+sz+ps.length*sz:=by rw[ad6,hk2]
       have e2:(i'+(ps.length+1))*sz=i'*sz+sz+ps.length*sz:=by rw[<- e1];congr 1;omega
       rw[e1,e2,List.drop_append,ag1 (by simp;omega),List.nil_append,List.drop_drop]
       congr 1
       simp;omega
      rw[ht,hd]
      simp
     ·cases h
    ·cases h
   ·cases h
theorem Ox{w:World}{E:Env}{d b e sz cap:Nat}{cur:Array Value}{eC:List (List Value)}{rows:List (List D)}(hpos:0<sz)(hb:E.ρ d=some b)(hh:w.heap[b]? =some (.cells cur e (0,0)))
 (hs:E.σ d= .slice (some ⟨b,0,none⟩) rows.length cap) (hcap:rows.length<=cap) (hsize:cap*sz=cur.size) (hm:cap<=maxLen) (hr:eZ w E sz eC rows)
 (vo:∀(k:Nat) (v:Value),eC.flatten[k]? =some v->cur[k]? =some v):(E.z b=0->bF w E d (.own e sz rows))/\(E.z b=rows.length*sz->bF w E d (.tip e sz rows)):=by
 have key:∀(i j:Nat) (r:List D) (x:D),rows[i]? =some r->r[j]? =some x->∃v,cur[i*sz+j]? =some v/\Rd w E.z v x:=by
  intro i j r x hi hj
  obtain⟨v,hv,hx⟩:=hr.cell hi hj
  exact⟨v,vo _ _ hv,hx⟩
 exact⟨fun hz=>⟨hr.lens.2,hpos, .inr ⟨b,cur,cap,hb,hh,hs,hcap,hsize,hm,hz,key⟩⟩,fun hz=>⟨hr.lens.2,hpos, .inr ⟨b,cur,cap,hb,hh,hs,hcap,hsize,hm,hz,key⟩⟩⟩
theorem eZ.mono{w:World}{E:Env}{w':World}{E':Env}{sz:Nat}{eC:List (List Value)}{rows:List (List D)}(hs:aK w E.z w' E'.z)(h:eZ w E sz eC rows):eZ w' E' sz eC rows:=
 ⟨h.1,fun i vs r hi hr=>⟨(h.2 i vs r hi hr).1,(h.2 i vs r hi hr).2.1,fun j x v hj hv=>((h.2 i vs r hi hr).2.2 j x v hj hv).mono hs⟩⟩
section
variable {X:Ctx} {o:Oper} {s:ASt} {K:LA->Prop}
theorem FI{C:Cfg}{P:Program}(hC:C.Ok P){e:Nat}(h:0<C.sz e):∃te,C.T e=some te/\bG P e te/\te.sz=C.sz e:=by
 unfold Cfg.sz at h ⊢
 split at h
 ·rename_i te hte;exact⟨te,hte,hC.T _ _ hte,rfl⟩
 ·omega
theorem Cy(hX:X.Ok){t n:Nat}{parts:Array (Nat × Operand)}(ho:o.op= .buildSlice t n parts)(h:vcOp X X.C o s K):∃la,aN X o la/\Sat la s/\K la:=by
 simp only[vcOp,ho]at h
 split at h
 ·rename_i d e R8 iu zc bV hT
  obtain⟨hd,h⟩:=h
  split at h
  ·rename_i rows hr
   obtain⟨⟨h1,h2,h3,h4⟩,hK⟩:=h
   have hu:=(hX.C.T _ _ hT).2
   simp only at hu
   obtain⟨te,hte,jB,fk⟩:=FI hX.C h4
   refine⟨_,aN.mk bV.symm fun s' E a w hdn hs hE=> ?_,⟨aH s _,iO s _⟩,hK⟩
   obtain⟨i,z,e1,e2,e3,e4,e5⟩:=lQ jB w E
   have hi2:i.size=X.C.sz e:=by
    obtain⟨⟨i',z',f1,f2,_⟩,_⟩:=jB
    rw[e1]at f1;cases f1;rw[f2,fk]
   have hp:=qz (s:=s) hE ⟨.sl e,R8,iu,zc⟩ parts.toList hs.1
   have hlen:(evParts X.C ⟨.sl e,R8,iu,zc⟩ s parts.toList).length=rows.length:=by
    have:∀(ps:List (Nat × AV)) (k:Nat) (rows:List (List D)),partRows X.C e s k ps=some rows->ps.length=rows.length:=by
     intro ps
     induction ps with
     |nil=>intro k rows h;simp[partRows]at h;subst h;rfl
     |cons p ps ih=>
      intro k rows h
      obtain⟨i,v⟩:=p
      unfold partRows at h
      split at h
      ·split at h
       ·split at h
        ·cases h
         rename_i xO _
         simp[ih _ _ xO]
        ·cases h
       ·cases h
      ·cases h
    exact this _ _ _ hr
   generalize hcs:((Array.range (n*i.size)).map (fun k=>(if n*i.size=0 then(#[]:Array Value) else z.cells)[k % (if n*i.size=0 then(#[]:Array Value) else z.cells).size]!))=cs0
   have ZV:cs0.toList.length=n*i.size:=by rw[<- hcs];simp
   obtain⟨eC,f1,f2⟩:=CS (w:=w) (E:=E) (sz:=X.C.sz e) rfl (cs:=cs0.toList) (vs:=parts.toList.map fun p=>(p.1,a.eval p.2)) hr (by rw[mS];simp[Function.comp_def]) hp (fun p hp=>hE.good.obj _ _ (hs.2 p hp)) (by rw[ZV,hi2,hlen,h1];simp)
   simp only[ahd,List.take_zero,List.nil_append,adT,Array.toArray_toList]at f1
   rw[hlen,h1, <- hi2,ag1 (by omega),ad4]at f1
   have hrun:(execOp a.eval o).run X.P w= .ok (.value (.slice (some ⟨w.heap.size,0,none⟩) n n)) (w.alloc (.cells eC.flatten.toArray e)):=by
    have hsmall:¬(2 ^ 24<n*i.size):=by
     have:n*i.size<=1024*64:=afQ h2 (by omega)
     omega
    have:(Instr.buildSlice t n (parts.map fun (i,x)=>(i,a.eval x))).run X.P w= .ok (.slice (some ⟨w.heap.size,0,none⟩) n n) (w.alloc (.cells eC.flatten.toArray e)):=by
     have hparts:(parts.map fun (i,x)=>(i,a.eval x)).toList=parts.toList.map fun p=>(p.1,a.eval p.2):=by simp
     by_cases hz:n*i.size=0
     ·simp only[hz,if_true]at hcs
      have hn0:n=0:=by
       rcases Nat.mul_eq_zero.1 hz with h|h
       ·exact h
       ·omega
      subst hn0
      have DZ:parts.toList= []:=by
       have:(parts.toList).length=0:=by
        have:=congrArg List.length (mS X.C ⟨.sl e,R8,iu,zc⟩ s parts.toList)
        simp only[adn]at this
        omega
       exact adE this
      have Sb:rows= []:=adE h1
      have TV:eC= []:=adE (by rw[f2.1,Sb];rfl)
      have hpp:parts= #[]:=by apply adW.1;simpa using DZ
      subst hpp
      subst TV
      simp[Instr.buildSlice,run_underlying hu,sizeOf,typeInfo,e1,newRow,Instr.fill,Array.range_zero']
     ·simp only[hz,if_false]at hcs
      refine run_buildSlice w t e n _ _ i z hu e1 e2 hsmall hz ?_
      rw[hparts,hcs]
      exact f1
    simp only[execOp,ho,Sem.run_bind,this,Result.andThen_ok,Sem.run_pure]
   have hmk:∀(zb:Nat) (ob:AObj),ob.isNest=false->bF (w.alloc (.cells eC.flatten.toArray e)) (cL E d w.heap.size (.slice (some ⟨w.heap.size,0,none⟩) n n) zb) d ob->
    bh X (cL E d w.heap.size (.slice (some ⟨w.heap.size,0,none⟩) n n) zb) ((⟨rsOf s (partOps parts.toList),msOf s (partAVs (evParts X.C ⟨.sl e,R8,iu,zc⟩ s parts.toList)), [(d,none)], [(d,ob)],some d, .ref d⟩:LA).app s') (a.put (some d) (.slice (some ⟨w.heap.size,0,none⟩) n n)) (w.alloc (.cells eC.flatten.toArray e)):=by
    intro zb ob Cs oV
    exact hE.create hX hd (kill:= [(d,none)]) (by simp[kl]) (fun l hl=>by have:=qB d l hl;unfold dlow at hd;omega) (by simp) (fun b hb=>heap_alloc_old w _ hb) rfl rfl rfl
     (fun l x hl=>absurd hl (dX d l x)) oV ⟨by simp[cL],trivial⟩ (fun k hk=>hdn k (by rw[bV];exact hk)) Cs
   have hst:∀zb,aK w E.z (w.alloc (.cells eC.flatten.toArray e)) (cL E d w.heap.size (.slice (some ⟨w.heap.size,0,none⟩) n n) zb).z:=fun zb=>fP hE.good.fresh (fun b hb=>heap_alloc_old w _ hb)
   have Xf:eC.flatten.length=n*X.C.sz e:=by rw[vq f2.lens.1,f2.1,h1]
   have oV:∀zb,_:=fun zb=>Ox (w:=w.alloc (.cells eC.flatten.toArray e)) (E:=cL E d w.heap.size (.slice (some ⟨w.heap.size,0,none⟩) n n) zb) (d:=d) (b:=w.heap.size) (e:=e) (cap:=n) (cur:=eC.flatten.toArray) h4
    (by simp[cL]) (heap_alloc_new w _) (by simp[cL,h1]) (by omega) (by simp[Xf]) (by simp only[maxLen];omega) (f2.mono (hst zb)) (fun k v hv=>by simpa using hv)
   refine⟨_,_,cL E d w.heap.size (.slice (some ⟨w.heap.size,0,none⟩) n n) (if d∈X.C.own then 0 else rows.length*X.C.sz e),hrun, ?_⟩
   rw[bV]
   refine hmk _ _ (by split<;>rfl) ?_
   by_cases hown:d∈X.C.own
   ·simp only[hown,if_true]
    exact(oV 0).1 (by simp[cL])
   ·simp only[hown,if_false]
    exact(oV _).2 (by simp[cL])
  ·exact h.elim
 ·exact h.elim
theorem D2{C:Cfg}{w:World}{E:Env} :∀ {zc:List AV} {us:List Value},(∀a∈zc,a.cv.oneCell'=true)->AVrs w E zc us->(zrowOf C zc).length=zc.length/\∀(w':World) (z':Nat->Nat) (j:Nat) x v,(zrowOf C zc)[j]? =some x->us[j]? =some v->Rd w' z' v x
 | [],us,_,_=>⟨rfl,fun w' z' j x v h=>by simp[zrowOf]at h⟩
 |a::zc,us,h1,h2=>by
  obtain⟨u,us',rfl,h3,h4⟩:=h2
  obtain⟨i1,i2⟩:=D2 (C:=C) (fun b hb=>h1 b (by simp[hb])) h4
  have ha:=h1 a (by simp)
  unfold AV.cv at ha
  split at ha
  ·refine⟨by simp[zrowOf,i1],fun w' z' j x v hj hv=> ?_⟩
   cases j with
   |zero=>
    simp[zrowOf]at hj hv
    subst hj;subst hv
    simp only[cG]at h3
    subst h3
    exact .nil _ _
   |succ j=>exact i2 w' z' j x v (by simpa[zrowOf]using hj) (by simpa using hv)
  ·refine⟨by simp[zrowOf,i1],fun w' z' j x v hj hv=> ?_⟩
   cases j with
   |zero=>
    simp[zrowOf]at hj hv
    subst hj;subst hv
    simp only[cG]at h3
    cases h3 with
    |sc _ h=>exact .sc _ h
   |succ j=>exact i2 w' z' j x v (by simpa[zrowOf]using hj) (by simpa using hv)
  ·simp[Value.oneCell']at ha
theorem D3(hX:X.Ok){t:Nat}{x y:Operand}(ho:o.op= .makeSlice t x y)(h:vcOp X X.C o s K):∃la,aN X o la/\Sat la s/\K la:=by
 simp only[vcOp,ho]at h
 split at h
 ·rename_i d e R8 iu zc n k bV hT hx hy
  obtain⟨hd,⟨rfl,h1,h2,h3,h4⟩,hK⟩:=h
  by_cases hns:d∈X.C.tM
  ·rw[ac9 hns]at hK
   split at hK
   ·rename_i e0 Oc by1 en NS
    obtain⟨⟨hs1,hs2⟩,hK⟩:=hK
    have hu:=(hX.C.T _ _ hT).2
    simp only at hu
    obtain⟨te,hte,jB,fk⟩:=FI hX.C h4
    rw[hte]at NS
    simp only[ady]at NS
    subst NS
    refine⟨_,aN.mk bV.symm fun s' E a w hdn hs hE=> ?_,⟨aH s _,by simp⟩,hK⟩
    have ex:=hE.evs hs.1 X.C 3 (x:=x) (by simp)
    have ey:=hE.evs hs.1 X.C 3 (x:=y) (by simp)
    rw[hx]at ex;rw[hy]at ey
    obtain⟨⟨i,z,e1,e2,e3,e4,e5,e6,e7⟩,_⟩:=jB
    simp only[adC,adO,AV.cv]at e5
    have Xg:i.size=1:=by rw[e2];simpa using e7.symm
    have hby:i.bytes=X.C.iu e:=by rw[e3];simp[Cfg.iu,hte]
    have FJ:=run_make (P:=X.P) w t e i z hu e1 e4 .i64 .i64 n n h1 (afP _) (by rw[hby];omega) h2
    have hrun:(execOp a.eval o).run X.P w= .ok (.value (.slice (some ⟨w.heap.size,0,none⟩) n.toNat n.toNat)) (w.alloc (.cells (madeCells z.cells (n.toNat*i.size)) e)):=by
     simp only[execOp,ho,bN ex,bN ey,Sem.run_bind,FJ,Result.andThen_ok,Sem.run_pure]
    refine⟨_,_,cL E d w.heap.size (.slice (some ⟨w.heap.size,0,none⟩) n.toNat n.toNat) 0,hrun, ?_⟩
    rw[bV]
    refine hE.create hX hd (kill:= [(d,none)]) (by simp[kl]) (fun l hl=>by have:=qB d l hl;unfold dlow at hd;omega) (by simp) (fun b hb=>heap_alloc_old w _ hb) rfl rfl rfl
     (fun l x hl=>absurd hl (dX d l x)) ?_ ⟨by simp[cL],trivial⟩ (fun k hk=>hdn k (by rw[bV];exact hk))
    have uv:n.toNat<=maxLen:=by simp only[maxLen];omega
    refine⟨w.heap.size,madeCells z.cells (n.toNat*i.size),n.toNat,by simp[cL],heap_alloc_new w _,by simp[cL],adg _,by rw[size_madeCells,Xg,af6],uv,by simp[cL],hs2,fun q hq=> ?_⟩
    have hz:z.cells= #[.slice none 0 0]:=by apply adW.1;simpa using e5
    unfold madeCells
    rw[agM,agF,ac9 (by rw[Xg];omega),hz]
    simp[Nat.mod_one]
   ·exact hK.elim
  rw[ac7 hns]at hK
  have hu:=(hX.C.T _ _ hT).2
  simp only at hu
  obtain⟨te,hte,jB,fk⟩:=FI hX.C h4
  refine⟨_,aN.mk bV.symm fun s' E a w hdn hs hE=> ?_,⟨aH s _,by simp⟩,hK⟩
  have ex:=hE.evs hs.1 X.C 3 (x:=x) (by simp)
  have ey:=hE.evs hs.1 X.C 3 (x:=y) (by simp)
  rw[hx]at ex;rw[hy]at ey
  obtain⟨i,z,e1,e2,e3,e4,e5⟩:=lQ jB w E
  have hib:i.size=X.C.sz e/\i.bytes=X.C.iu e:=by
   obtain⟨⟨i',z',f1,f2,f3,_⟩,_⟩:=jB
   rw[e1]at f1;cases f1
   exact⟨by rw[f2,fk],by rw[f3];simp[Cfg.iu,hte]⟩
  have ZW:∀a∈te.zc,a.cv.oneCell'=true:=by
   obtain⟨⟨i',z',f1,f2,f3,f4,f5,f6,_⟩,_⟩:=jB;exact f6
  have Xh:X.C.zrow e=zrowOf X.C te.zc:=by simp[Cfg.zrow,hte]
  obtain⟨zl,zr⟩:=D2 (C:=X.C) ZW e4
  have vr:z.cells.size=X.C.sz e:=by rw[e3,fk]
  have hrow:(X.C.zrow e).length=X.C.sz e:=by rw[Xh,zl, <- vr, <- e4.length];simp
  have FJ:=run_make (P:=X.P) w t e i z hu e1 e2 .i64 .i64 n n h1 (afP _) (by rw[hib.2];omega) h2
  have hrun:(execOp a.eval o).run X.P w= .ok (.value (.slice (some ⟨w.heap.size,0,none⟩) n.toNat n.toNat)) (w.alloc (.cells (madeCells z.cells (n.toNat*i.size)) e)):=by
   simp only[execOp,ho,bN ex,bN ey,Sem.run_bind,FJ,Result.andThen_ok,Sem.run_pure]
  refine⟨_,_,cL E d w.heap.size (.slice (some ⟨w.heap.size,0,none⟩) n.toNat n.toNat) 0,hrun, ?_⟩
  rw[bV]
  refine hE.create hX hd (kill:= [(d,none)]) (by simp[kl]) (fun l hl=>by have:=qB d l hl;unfold dlow at hd;omega) (by simp) (fun b hb=>heap_alloc_old w _ hb) rfl rfl rfl
   (fun l x hl=>absurd hl (dX d l x)) ?_ ⟨by simp[cL],trivial⟩ (fun k hk=>hdn k (by rw[bV];exact hk))
  have uv:n.toNat<=maxLen:=by simp only[maxLen];omega
  refine⟨fun r hr=>by rw[(agN.1 hr).2,hrow],h4, .inr ⟨w.heap.size,madeCells z.cells (n.toNat*i.size),n.toNat,by simp[cL],heap_alloc_new w _,by simp[cL],by simp,by rw[size_madeCells,hib.1],uv,by simp[cL],fun q j r x hq hj=> ?_⟩⟩
  have Ki:q<n.toNat:=by have:=(adh.1 hq).1;simpa using this
  rw[afg,ac9 Ki]at hq
  cases hq
  have hjl:j<X.C.sz e:=by rw[<- hrow];exact(adh.1 hj).1
  have Xi:j<z.cells.size:=by rw[vr];exact hjl
  have hidx:q*X.C.sz e+j<n.toNat*i.size:=by
   rw[hib.1]
   have:(q+1)*X.C.sz e<=n.toNat*X.C.sz e:=adF _ Ki
   rw[ad6]at this;omega
  refine⟨z.cells[j], ?_,zr _ _ j x _ (by rw[<- Xh];exact hj) (by simp[Xi])⟩
  have hmod:(q*X.C.sz e+j) % z.cells.size=j:=by rw[vr,Nat.mul_comm,Nat.mul_add_mod,aeB hjl]
  unfold madeCells
  rw[agM,agF,ac9 hidx]
  simp[hmod,Xi]
 ·exact h.elim
end
end Go.Ab
