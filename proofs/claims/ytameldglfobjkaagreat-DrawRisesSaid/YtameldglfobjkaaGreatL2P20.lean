/- A part of the proof. -/
import Derived.Test.YtameldglfobjkaaGreatL2P19
set_option linter.unusedSimpArgs false
set_option linter.unusedVariables false
section
namespace Go.Ab
def nm (names:List Int) (v:Int):Int:=names.getD v.toNat 0
structure jg (g:Gr) (names order:List Int):Prop where
 may:aL g=true
 JU:lI names g.n=true
 ord:lI order (g.es.length:Int)=true
section
variable {g:Gr} {names order:List Int} (h:jg g names order)
include h
theorem jg.len:(gH g names order).es.length=g.es.length:=by
 have:=(cA.1 h.ord).1
 simp only [gH,yR];omega
theorem jg.jm {i:Nat} (hi:i<g.es.length):∃j,j<g.es.length∧order.getD i 0=(j:Int)∧(gH g names order).es.getD i (0,0)=(nm names (tl g j),nm names (hd g j)):=by
 have qP:=(cA.1 h.ord).1
 have:=tu h.ord _ (jK (l:=order) (m:=i) (by omega))
 refine ⟨(order.getD i 0).toNat,by omega,by omega, ?_⟩
 simp only [gH,HH,nm,tl,hd]
 rw [List.getD_eq_getElem?_getD,List.getElem?_map,List.getElem?_range (by omega)]
 rfl
theorem jg.back {j:Nat} (hj:j<g.es.length):∃i,i<g.es.length∧order.getD i 0=(j:Int)∧(gH g names order).es.getD i (0,0)=(nm names (tl g j),nm names (hd g j)):=by
 obtain ⟨qP,hall⟩:=cA.1 h.ord
 obtain ⟨i,hi,hil,he⟩:=iJ (hall (j:Int) (cE.2 (by omega)))
 obtain ⟨j',_,h2,h3⟩:=h.jm (i:=i) (by omega)
 have:j'=j:=by omega
 subst this
 exact ⟨i,by omega,he,h3⟩
theorem jg.inj {a b:Int} (ha:0≤a∧a<g.n) (hb:0≤b∧b<g.n) (e:nm names a=nm names b):a=b:=by
 have hnl:=(cA.1 h.JU).1
 have:=kH h.JU (i:=a.toNat) (j:=b.toNat) (by omega) (by omega) e
 omega
theorem jg.range {a:Int} (ha:0≤a∧a<g.n):0≤nm names a∧nm names a<g.n:=by
 have hnl:=(cA.1 h.JU).1
 exact tu h.JU _ (jK (by omega))
theorem jg.inv {a:Int} (ha:0≤a∧a<g.n):fU names (nm names a)=a:=by
 have hnl:=(cA.1 h.JU).1
 obtain ⟨k,hk,cw,he⟩:=iJ (jK (l:=names) (m:=a.toNat) (by omega))
 have h2:=kH h.JU cw (j:=a.toNat) (by omega) he
 have h3:fU names (nm names a)=k:=hk
 omega
theorem jg.of {v:Int} (hv:0≤v∧v<g.n):∃a,(0≤a∧a<g.n)∧nm names a=v:=by
 obtain ⟨hnl,hall⟩:=cA.1 h.JU
 obtain ⟨k,hk,cw,he⟩:=iJ (hall v (cE.2 (by omega)))
 exact ⟨k,by omega,he⟩
theorem jg.may':aL (gH g names order)=true:=by
 have hn:=aG h.may
 have hlen:=h.len
 have hall:(gH g names order).es.any (qF (gH g names order))=false:=by
  rw [List.any_eq_false]
  intro e he
  obtain ⟨i,hi,rfl⟩:=List.getElem_of_mem he
  obtain ⟨j,hj,_,h3⟩:=h.jm (i:=i) (by omega)
  rw [List.getD_eq_getElem?_getD,List.getElem?_eq_getElem hi,Option.getD_some] at h3
  rw [h3]
  have h4:=h.range (bn h.may hj)
  have h5:=h.range (bw h.may hj)
  have e1:(gH g names order).n=g.n:=rfl
  simp only [qF,wR,e1,Bool.or_eq_true,decide_eq_true_eq]
  omega
 have e1:(gH g names order).n=g.n:=rfl
 simp only [aL,hall,e1,Bool.not_false,Bool.and_true,Bool.and_eq_true,decide_eq_true_eq]
 omega
omit h in
theorem pW {i j:Nat} (e:(gH g names order).es.getD i (0,0)=(nm names (tl g j),nm names (hd g j))):tl (gH g names order) i=nm names (tl g j)∧hd (gH g names order) i=nm names (hd g j):=⟨congrArg Prod.fst e,congrArg Prod.snd e⟩
theorem jg.loop:(0≤lH (gH g names order))↔0≤lH g:=by
 have key:∀g:Gr,(0≤lH g)↔∃i,i<g.es.length∧tl g i=hd g i:=by
  intro g
  have:=eW (fun e:Edge=>decide (e.1=e.2)) g.es
  rw [show (0≤lH g)↔g.es.any (fun e:Edge=>decide (e.1=e.2))=true from by rw [← this];simp [lH],List.any_eq_true]
  constructor
  ·rintro ⟨e,he,h2⟩
   obtain ⟨i,hi,rfl⟩:=List.getElem_of_mem he
   refine ⟨i,hi, ?_⟩
   simpa [tl,hd,List.getD_eq_getElem?_getD,List.getElem?_eq_getElem hi] using h2
  ·rintro ⟨i,hi,h2⟩
   refine ⟨_,List.getElem_mem hi, ?_⟩
   simpa [tl,hd,List.getD_eq_getElem?_getD,List.getElem?_eq_getElem hi] using h2
 rw [key,key,h.len]
 constructor
 ·rintro ⟨i,hi,e⟩
  obtain ⟨j,hj,_,h3⟩:=h.jm hi
  obtain ⟨e1,e2⟩:=pW h3
  exact ⟨j,hj,h.inj (bn h.may hj) (bw h.may hj) (by rw [← e1, ← e2,e])⟩
 ·rintro ⟨j,hj,e⟩
  obtain ⟨i,hi,_,h3⟩:=h.back hj
  obtain ⟨e1,e2⟩:=pW h3
  exact ⟨i,hi,by rw [e1,e2,e]⟩
omit h in
theorem ir (g:Gr):(0≤eH g)↔∃i k,i<g.es.length∧k<g.es.length∧i≠k∧g.es.getD i (0,0)=g.es.getD k (0,0):=by
 have:=eW (tf g) (List.range g.es.length)
 rw [show (0≤eH g)↔(List.range g.es.length).any (tf g)=true from by rw [← this];simp [eH],List.any_eq_true]
 constructor
 ·rintro ⟨i,hi,h2⟩
  have hil:=List.mem_range.1 hi
  have h3:=of_decide_eq_true h2
  rw [List.mem_iff_getElem?] at h3
  obtain ⟨k,hk⟩:=h3
  rw [List.getElem?_take] at hk
  split at hk
  ·rename_i hki
   exact ⟨i,k,hil,by omega,by omega,by rw [List.getD_eq_getElem?_getD (i:=k),hk];rfl⟩
  ·cases hk
 ·rintro ⟨i,k,hi,hk,hne,e⟩
  have main:∀i k,k<i→i<g.es.length→g.es.getD i (0,0)=g.es.getD k (0,0)→tf g i=true:=by
   intro i k hki hi e
   refine decide_eq_true ?_
   rw [e,List.mem_iff_getElem?]
   refine ⟨k, ?_⟩
   rw [List.getElem?_take,if_pos hki,List.getD_eq_getElem?_getD,List.getElem?_eq_getElem (by omega)];rfl
  rcases Nat.lt_or_gt_of_ne hne with hlt|hgt
  ·exact ⟨k,List.mem_range.2 hk,main k i hlt hk e.symm⟩
  ·exact ⟨i,List.mem_range.2 hi,main i k hgt hi e⟩
theorem jg.Ms:(0≤eH (gH g names order))↔0≤eH g:=by
 have qP:=(cA.1 h.ord).1
 rw [ir,ir,h.len]
 constructor
 ·rintro ⟨i,k,hi,hk,hne,e⟩
  obtain ⟨j,hj,ho,h3⟩:=h.jm hi
  obtain ⟨j',hj',ho',Ej⟩:=h.jm hk
  refine ⟨j,j',hj,hj',fun e'=> ?_, ?_⟩
  ·subst e'
   exact hne (kH h.ord (by omega) (by omega) (by rw [ho,ho']))
  ·rw [h3,Ej,Prod.mk.injEq] at e
   have e1:=h.inj (bn h.may hj) (bn h.may hj') e.1
   have e2:=h.inj (bw h.may hj) (bw h.may hj') e.2
   exact Prod.ext e1 e2
 ·rintro ⟨j,j',hj,hj',hne,e⟩
  obtain ⟨i,hi,ho,h3⟩:=h.back hj
  obtain ⟨k,hk,ho',Ej⟩:=h.back hj'
  refine ⟨i,k,hi,hk,fun e'=> ?_, ?_⟩
  ·subst e';omega
  ·have e1:tl g j=tl g j':=congrArg Prod.fst e
   have e2:hd g j=hd g j':=congrArg Prod.snd e
   rw [h3,Ej,e1,e2]
theorem jg.PU:BJ (gH g names order)=BJ g:=by
 rw [Bool.eq_iff_iff,ry h.may',ry h.may]
 constructor
 ·rintro ⟨r,hr⟩
  refine ⟨fun v=>r (nm names v),fun j hj=> ?_⟩
  obtain ⟨i,hi,_,h3⟩:=h.back hj
  obtain ⟨e1,e2⟩:=pW h3
  have:=hr i (by rw [h.len];exact hi)
  rwa [e1,e2] at this
 ·rintro ⟨r,hr⟩
  refine ⟨fun v=>r (fU names v),fun i hi=> ?_⟩
  rw [h.len] at hi
  obtain ⟨j,hj,_,h3⟩:=h.jm hi
  obtain ⟨e1,e2⟩:=pW h3
  have:=hr j hj
  rw [e1,e2];simp only;rw [h.inv (bn h.may hj),h.inv (bw h.may hj)]
  exact this
omit h in
theorem iO {g:Gr} {y:Int} :y∈bQ (·.2) g↔(0≤y∧y<g.n)∧∀i,i<g.es.length→hd g i≠y:=by
 simp only [bQ,jG,List.mem_map,List.mem_filter,List.mem_range,decide_eq_true_eq]
 have he:∀x:Nat,x<g.n.toNat→(((dF (·.2) g).getD x []).length=0↔∀i,i<g.es.length→hd g i≠(x:Int)):=by
  intro x hx
  have e:(dF (·.2) g).getD x []=aO (·.2) g.es g.es.length (x:Int):=by
   simp [dF,List.getD_eq_getElem?_getD,List.getElem?_range hx,ox]
  rw [e,List.length_eq_zero_iff]
  simp only [aO,List.map_eq_nil_iff,List.filter_eq_nil_iff,List.mem_range,decide_eq_true_eq]
  rfl
 constructor
 ·rintro ⟨x,⟨hx,h0⟩,rfl⟩
  refine ⟨by simp;omega,(he x hx).1 h0⟩
 ·rintro ⟨⟨h1,h2⟩,h3⟩
  have e:((y.toNat:Nat):Int)=y:=by omega
  exact ⟨y.toNat,⟨by omega,(he _ (by omega)).2 (by rw [e];exact h3)⟩,e⟩
omit h in
theorem dH {f:Edge→Int} {g:Gr} :(bQ f g).Nodup:=by
 unfold bQ jG
 refine List.Pairwise.map _ (fun a b h e=>h (Int.ofNat.inj e)) (List.Pairwise.filter _ List.nodup_range)
theorem jg.bare:(bQ (·.2) (gH g names order)).length=(bQ (·.2) g).length:=by
 have e1:(gH g names order).n=g.n:=rfl
 have h1:((bQ (·.2) g).map (nm names)).length≤(bQ (·.2) (gH g names order)).length:=by
  refine Nat.le_trans (count_le _ (bQ (·.2) (gH g names order)) ?_ ?_) List.countP_le_length
  ·rw [List.nodup_iff_pairwise_ne]
   refine List.Pairwise.map _ (fun a b h=>h) ?_
   refine List.Pairwise.imp_of_mem ?_ dH
   intro a b ha hb hab e
   exact hab (h.inj (iO.1 ha).1 (iO.1 hb).1 e)
  ·intro v hv
   obtain ⟨y,hy,rfl⟩:=List.mem_map.1 hv
   obtain ⟨hy1,hy2⟩:=iO.1 hy
   refine iO.2 ⟨h.range hy1,fun i hi e=> ?_⟩
   rw [h.len] at hi
   obtain ⟨j,hj,_,h3⟩:=h.jm hi
   rw [(pW h3).2] at e
   exact hy2 j hj (h.inj (bw h.may hj) hy1 e)
 have h2:((bQ (·.2) (gH g names order)).map (fU names)).length≤(bQ (·.2) g).length:=by
  have hsplit:∀v∈bQ (·.2) (gH g names order),∃a,(0≤a∧a<g.n)∧nm names a=v:=fun v hv=>h.of (iO.1 hv).1
  refine Nat.le_trans (count_le _ (bQ (·.2) g) ?_ ?_) List.countP_le_length
  ·rw [List.nodup_iff_pairwise_ne]
   refine List.Pairwise.map _ (fun a b h=>h) ?_
   refine List.Pairwise.imp_of_mem ?_ dH
   intro a b ha hb hab e
   obtain ⟨a',Ir,rfl⟩:=hsplit a ha
   obtain ⟨b',hb',rfl⟩:=hsplit b hb
   rw [h.inv Ir,h.inv hb'] at e
   exact hab (by rw [e])
  ·intro v hv
   obtain ⟨y,hy,rfl⟩:=List.mem_map.1 hv
   obtain ⟨a,ha,rfl⟩:=hsplit y hy
   rw [h.inv ha]
   refine iO.2 ⟨ha,fun j hj e=> ?_⟩
   obtain ⟨i,hi,_,h3⟩:=h.back hj
   refine (iO.1 hy).2 i (by rw [h.len];exact hi) ?_
   rw [(pW h3).2,e]
 simp only [List.length_map] at h1 h2
 omega
theorem jg.kind:(cg (gH g names order)).1=(cg g).1:=by
 have hm:=h.may'
 have hc:(0<(lG (gH g names order)).length)↔0<(lG g).length:=by
  have key:∀g:Gr,aL g=true→((0<(lG g).length)↔BJ g=false):=by
   intro g hm
   cases ho:BJ g with
   |true=>rw [xm hm ho];simp
   |false=>simp [(FV hm ho).1]
  rw [key _ hm,key _ h.may,h.PU]
 have h1:=h.loop
 have h2:=h.Ms
 have h3:=h.bare
 simp only [cg,jH,hm,h.may]
 simp only [Bool.true_eq_false,if_false,h1,h2,hc,h3]
 split
 ·rfl
 split
 ·rfl
 split
 ·rfl
 split<;>rfl
end
end Go.Ab
end
section
namespace Go.Ab
open Go.Proofs
set_option maxRecDepth 10000
def DR:Nat→List Edge→Int→Option (Int × Int)
 |_, [],_=>none
 |m,e::N,v=>if e.1=v then some ((m:Int),e.2) else DR (m+1) N v
theorem yS {v:Int} :∀ {m:Nat} {N:List Edge},(∀e∈N,e.1≠v)→DR m N v=none
 |_, [],_=>rfl
 |m,e::N,h=>by rw [DR,if_neg (h e (List.mem_cons_self ..)),yS fun e' he=>h e' (List.mem_cons_of_mem _ he)]
theorem yT:∀ {m:Nat} {N:List Edge},(N.map (·.1)).Nodup→∀ {j:Nat},j<N.length→DR m N (N.getD j (0,0)).1=some (((m+j:Nat):Int),(N.getD j (0,0)).2)
 |m,e::N,hd,0,_=>by rw [List.getD_cons_zero,DR,if_pos rfl];rfl
 |m,e::N,hd,j+1,hj=>by
  rw [List.map_cons,List.nodup_cons] at hd
  have hj':j<N.length:=by simpa using hj
  rw [List.getD_cons_succ,DR,if_neg (fun h=>hd.1 (List.mem_map.2 ⟨_,aU hj',h.symm⟩)),yT hd.2 hj']
  congr 2
  omega
theorem oS {m:Nat} {N:List Edge} (hd:(N.map (·.1)).Nodup) {v h:Int} (he:(v,h)∈N):∃j:Nat,j<N.length∧DR m N v=some (((m+j:Nat):Int),h)∧N.getD j (0,0)=(v,h):=by
 obtain ⟨j,hj,e⟩:=List.mem_iff_getElem.1 he
 have e2:N.getD j (0,0)=(v,h):=by rw [List.getD_eq_getElem?_getD,List.getElem?_eq_getElem hj,Option.getD_some,e]
 have:=yT (m:=m) hd hj
 rw [e2] at this
 exact ⟨j,hj,this,e2⟩
theorem pY {m:Nat} {N:List Edge} (hd:(N.map (·.1)).Nodup) (v:Int):(DR m N v=none∧∀e∈N,e.1≠v)∨∃h,(v,h)∈N:=by
 by_cases h:∃e∈N,e.1=v
 ·obtain ⟨e,he,rfl⟩:=h
  exact .inr ⟨e.2,he⟩
 ·have h':∀e∈N,e.1≠v:=fun e he h2=>h ⟨e,he,h2⟩
  exact .inl ⟨yS h',h'⟩
def nu (m:Nat) (N:List Edge) (t:It):It:=if 0≤t.1 then t else match DR m N t.2.1 with
 |some (i,h)=>(i,t.2.1,h)
 |none=>t
theorem oT {m:Nat} {N:List Edge} {t:It} (h:0≤t.1):nu m N t=t:=if_pos h
theorem jU {m:Nat} {N:List Edge} {t:It} (h:t.1<0) {i x:Int} (hn:DR m N t.2.1=some (i,x)):nu m N t=(i,t.2.1,x):=by
 unfold nu
 rw [if_neg (by omega),hn]
theorem ua {m:Nat} {N:List Edge} {t:It} (hn:DR m N t.2.1=none):nu m N t=t:=by
 unfold nu
 split
 ·rfl
 ·rw [hn]
structure mN (g:Gr) (p:Pl):Prop where
 run:aX g p
 n:(ah g p).n≤64
 es:(ah g p).es.length≤128
variable {g:Gr} {p:Pl}
theorem uc {v x:Int} :∀ {k:Nat},(v,x)∈cB g p k→∃i,i<k∧x=aE p i∧v∈loose (dg g p i)
 |k+1,h=>by
  rw [cB,List.mem_append] at h
  rcases h with h|h
  ·obtain ⟨i,h1,h2⟩:=uc h
   exact ⟨i,by omega,h2⟩
  ·obtain ⟨w,hw,e⟩:=List.mem_map.1 h
   cases e
   exact ⟨k,by omega,rfl,hw⟩
theorem oU {v:Int} :∀ {k i:Nat},i<k→v∈loose (dg g p i)→(v,aE p i)∈cB g p k
 |k+1,i,hi,h=>by
  rw [cB,List.mem_append]
  by_cases e:i=k
  ·subst e;exact .inr (List.mem_map.2 ⟨v,h,rfl⟩)
  ·exact .inl (oU (by omega) h)
theorem ud {v x:Int} (h:(v,x)∈aZ g p):(∃i,i<g.n.toNat∧x=aE p i∧v∈loose (dg g p i))∨(1<(aV g p).length∧x=g.n∧v∈loose (aV g p)):=by
 rw [aZ,List.mem_append] at h
 rcases h with h|h
 ·exact .inl (uc h)
 ·unfold newL at h
  split at h
  ·obtain ⟨w,hw,e⟩:=List.mem_map.1 h
   cases e
   exact .inr ⟨by assumption,rfl,hw⟩
  ·cases h
theorem mu {l:List It} {t:It} (h:t∈l) (h0:t.1<0):t.2.1∈loose l:=List.mem_map.2 ⟨t,List.mem_filter.2 ⟨h,decide_eq_true h0⟩,rfl⟩
theorem oV (h:mN g p):aL (ah g p)=true:=by
 have hm:=aj h.run.1
 have hn:=aG hm
 have JV:g.n≤(ah g p).n:=by unfold ah;split<;>simp only<;>omega
 have h1:=h.n
 have h2:=h.es
 simp only [aL,Bool.and_eq_true,decide_eq_true_eq,Bool.not_eq_true',List.any_eq_false]
 refine ⟨⟨⟨by omega,h1⟩,by omega⟩,fun e he=> ?_⟩
 have he:e∈g.es++aZ g p:=he
 simp only [qF,wR,Bool.or_eq_true,decide_eq_true_eq,not_or]
 rcases List.mem_append.1 he with he|he
 ·obtain ⟨i,hi,rfl⟩:=List.mem_iff_getElem.1 he
  have:=dw hm hi
  rw [List.getD_eq_getElem?_getD,List.getElem?_eq_getElem hi,Option.getD_some] at this
  omega
 ·have q1:=((fJ h.run).2 e he).1
  rcases ud (v:=e.1) (x:=e.2) he with ⟨i,hi,hx,_⟩|⟨hl,hx,_⟩
  ·have:=bB h.run.2.1 hi
   omega
  ·have:(ah g p).n=g.n+1:=if_pos hl
   omega
theorem oW {v:Int} :cu (ah g p) v=cu g v++(aO (·.1) (aZ g p) (aZ g p).length v).map (· +(g.es.length:Int)):=pU
theorem nv (i:Nat) (hi:i<g.es.length):(ah g p).es.getD i (0,0)=g.es.getD i (0,0):=by
 show (g.es++aZ g p).getD i (0,0)=_
 rw [List.getD_eq_getElem?_getD,List.getElem?_append_left hi, ← List.getD_eq_getElem?_getD]
theorem oX (j:Nat):(ah g p).es.getD (g.es.length+j) (0,0)=(aZ g p).getD j (0,0):=by
 show (g.es++aZ g p).getD _ (0,0)=_
 rw [List.getD_eq_getElem?_getD,List.getElem?_append_right (by omega),Nat.add_sub_cancel_left, ← List.getD_eq_getElem?_getD]
theorem pZ (hr:aX g p) {v:Int} (h0:0≤v∧v<g.n) (hs:cj p v= []):(∀h,(v,h)∈aZ g p→∃j:Nat,DR g.es.length (aZ g p) v=some (((g.es.length+j:Nat):Int),h)∧cu (ah g p) v= [((g.es.length+j:Nat):Int)]∧(ah g p).es.getD (g.es.length+j) (0,0)=(v,h))∧
 ((∀e∈aZ g p,e.1≠v)→cu (ah g p) v= []):=by
 obtain ⟨r8,BU⟩:=fJ hr
 have hz:cu g v= []:=(lJ hr.2.1 h0.1 h0.2).2 hs
 constructor
 ·intro h hm
  obtain ⟨j,hj,h1,h2⟩:=oS (m:=g.es.length) r8 hm
  refine ⟨j,h1, ?_,by rw [oX,h2]⟩
  have e1:=yN r8 hj
  rw [h2] at e1
  rw [oW,hz,e1]
  simp;omega
 ·intro h
  rw [oW,hz,iq h];rfl
theorem ue (hr:aX g p) {v:Int} (h0:0≤v∧v<g.n) (hs:cj p v≠ []):cu (ah g p) v=cu g v:=by
 obtain ⟨r8,BU⟩:=fJ hr
 rw [oW,iq fun e he h=>hs (by rw [← h];exact (BU e he).2)]
 simp
theorem ef:g.n≤(ah g p).n∧(ah g p).n≤g.n+1:=by
 unfold ah;split<;>simp only<;>omega
theorem BY (hr:aX g p) {v:Int} (h0:0≤v∧v<g.n):cj (bH g p) v=if cj p v≠ [] then cj p v else cu (ah g p) v:=by
 have hn:=ef (g:=g) (p:=p)
 unfold cj
 rw [tV hr,AM,List.getD_eq_getElem?_getD,List.getElem?_map,List.getElem?_range (by omega)]
 simp only [Option.map_some,Option.getD_some]
 rw [show ((v.toNat:Nat):Int)=v by omega]
 by_cases h:p.outs.getD v.toNat []= []
 ·rw [h];simp
 ·rw [if_pos (List.length_pos_iff.2 h),if_pos h]
theorem rz (hr:aX g p) (hl:1<(aV g p).length):cj (bH g p) g.n= []∧cu (ah g p) g.n= []:=by
 have hm:=aj hr.1
 have hn:=aG hm
 have hG:(ah g p).n=g.n+1:=if_pos hl
 have hz:cu (ah g p) g.n= []:=by
  rw [oW,iq fun e he h=>by have:=((fJ hr).2 e he).1;omega]
  simp only [List.map_nil,List.append_nil]
  refine iq fun e he h=> ?_
  obtain ⟨i,hi,rfl⟩:=List.mem_iff_getElem.1 he
  have:=(dw hm hi).1
  rw [List.getD_eq_getElem?_getD,List.getElem?_eq_getElem hi,Option.getD_some] at this
  omega
 refine ⟨?_,hz⟩
 unfold cj
 rw [tV hr,AM,List.getD_eq_getElem?_getD,List.getElem?_map,List.getElem?_range (by omega)]
 simp only [Option.map_some,Option.getD_some]
 rw [show ((g.n.toNat:Nat):Int)=g.n by omega,hz]
 have:p.outs.getD g.n.toNat []= []:=by rw [List.getD_eq_getElem?_getD,List.getElem?_eq_none (by rw [hr.2.1.1];exact Nat.le_refl _)];rfl
 rw [this];rfl
theorem oY (hr:aX g p):bg (ah g p) (bH g p):=by
 have h:=hr.2.1
 have hm:=aj hr.1
 have hn:=aG hm
 have ha:=ef (g:=g) (p:=p)
 refine ⟨by rw [tV hr];simp [AM], ?_,fun x hx=> ?_⟩
 ·unfold bH ah
  split
  ·have e:(g.n+1).toNat=g.n.toNat+1:=by omega
   have e2:dx (g.n.toNat+1)=dx g.n.toNat++ [g.n]:=by
    simp only [dx,List.range_succ,List.map_append,List.map_cons,List.map_nil]
    congr 2
    show ((g.n.toNat:Nat):Int)=g.n
    omega
   show (p.ord++ [g.n]).Perm (dx (g.n+1).toNat)
   rw [e,e2]
   exact h.2.1.append_right _
  ·exact h.2.1
 ·have hl:(bH g p).outs.getD x []=cj (bH g p) (x:Int):=by unfold cj;rw [Int.toNat_natCast]
  rw [hl]
  by_cases BF:(x:Int)<g.n
  ·rw [BY hr ⟨by omega,BF⟩]
   split
   ·rename_i h2
    rw [ue hr ⟨by omega,BF⟩ h2]
    exact bK h (by omega) BF
   ·exact List.Perm.refl _
  ·have GH:1<(aV g p).length:=Decidable.byContradiction fun hl=>by
    have:(ah g p).n=g.n:=if_neg hl
    omega
   have e:(x:Int)=g.n:=by omega
   rw [e,(rz hr GH).1,(rz hr GH).2]
theorem HI (hr:aX g p) {k:Nat} (hk:k<g.n.toNat):aE (bH g p) k=aE p k:=by
 have:=aP hr.2.1
 unfold aE bH
 simp only
 split
 ·rw [List.getD_eq_getElem?_getD,List.getElem?_append_left (by omega), ← List.getD_eq_getElem?_getD]
 ·rfl
theorem HJ (hr:aX g p) (hl:1<(aV g p).length):aE (bH g p) g.n.toNat=g.n:=by
 have:=aP hr.2.1
 unfold aE bH
 simp only
 rw [if_pos hl,List.getD_eq_getElem?_getD,List.getElem?_append_right (by omega),this]
 simp
theorem Dk (hr:aX g p) {x:Int} (h0:0≤x∧x<g.n):aJ (ah g p) x (cj (bH g p) x)=(aJ g x (cj p x)).map (nu g.es.length (aZ g p)):=by
 obtain ⟨r8,BU⟩:=fJ hr
 rw [BY hr h0]
 by_cases hs:cj p x= []
 ·obtain ⟨s1,s2⟩:=pZ hr h0 hs
  have ha:aJ g x (cj p x)= [(-1,x, -1)]:=if_pos hs
  rw [if_neg (by simp [hs]),ha]
  rcases pY (m:=g.es.length) r8 x with ⟨h1,h2⟩|⟨h,hm⟩
  ·rw [s2 h2,List.map_cons,List.map_nil,ua h1]
   rfl
  ·obtain ⟨j,h1,h2,h3⟩:=s1 h hm
   rw [h2,List.map_cons,List.map_nil,jU (t:=(-1,x, -1)) (by simp) h1]
   have Ej:((ah g p).es.getD (((g.es.length+j:Nat):Int)).toNat (0,0))=(x,h):=by rw [Int.toNat_natCast];exact h3
   simp only [aJ,fQ,List.cons_ne_nil,if_false,List.map_cons,List.map_nil,Ej]
 ·rw [if_pos hs]
  unfold aJ
  rw [if_neg hs,if_neg hs,List.map_map]
  refine List.map_congr_left fun i hi=> ?_
  obtain ⟨k,rfl,hk,ht⟩:=oK ((bK hr.2.1 h0.1 h0.2).mem_iff.1 hi)
  simp only [Function.comp]
  rw [oT (t:=fQ g x (k:Int)) (by simp [fQ])]
  simp only [fQ,Int.toNat_natCast,nv k hk]
theorem uf {x:Int} :aY (ah g p) x=aY g x+((aZ g p).filter fun e=>decide (e.2=x)).length:=by
 unfold aY
 have:aO (·.2) (ah g p).es (ah g p).es.length x=aO (·.2) g.es g.es.length x++(aO (·.2) (aZ g p) (aZ g p).length x).map (· +(g.es.length:Int)):=pU
 rw [this,List.length_append,List.length_map]
 congr 1
 generalize aZ g p=N
 unfold aO
 rw [List.length_map, ← List.countP_eq_length_filter, ← List.countP_eq_length_filter]
 have e:N=(List.range N.length).map fun i=>N.getD i (0,0):=by
  refine List.ext_getElem (by simp) fun i h1 h2=> ?_
  simp [List.getD_eq_getElem?_getD,List.getElem?_eq_getElem h1]
 conv=>rhs;rw [e]
 rw [List.countP_map]
 rfl
end Go.Ab
end
section
namespace Go.Ab
open Go.Proofs
set_option maxRecDepth 10000
variable {g:Gr} {p:Pl}
theorem qA (h:bg g p) {k:Nat} :∀ {K:Nat},K≤g.n.toNat→k<g.n.toNat→(cB g p K).filter (fun e=>decide (e.2=aE p k))=if k<K then (loose (dg g p k)).map fun v=>(v,aE p k) else []
 |0,_,_=>by simp [cB]
 |K+1,hK,hk=>by
  rw [cB,List.filter_append,qA h (by omega) hk]
  by_cases e:k=K
  ·subst e
   rw [if_neg (by omega),if_pos (by omega),List.nil_append,List.filter_eq_self.2]
   intro e he
   obtain ⟨v,_,rfl⟩:=List.mem_map.1 he
   simp
  ·have:((loose (dg g p K)).map fun v=>(v,aE p K)).filter (fun e=>decide (e.2=aE p k))= []:=List.filter_eq_nil_iff.2 fun e' he=>by
    obtain ⟨v,_,rfl⟩:=List.mem_map.1 he
    simp only [decide_eq_true_eq]
    intro h2
    exact e (kN h hk (by omega) h2.symm)
   rw [this,List.append_nil]
   by_cases h3:k<K
   ·rw [if_pos h3,if_pos (by omega)]
   ·rw [if_neg h3,if_neg (by omega)]
theorem yU (hr:aX g p) {k:Nat} (hk:k<g.n.toNat):((aZ g p).filter fun e=>decide (e.2=aE p k)).length=(loose (dg g p k)).length:=by
 have hx:=bB hr.2.1 hk
 rw [aZ,List.filter_append,qA hr.2.1 (Nat.le_refl _) hk,if_pos hk]
 have:(newL g p).filter (fun e=>decide (e.2=aE p k))= []:=List.filter_eq_nil_iff.2 fun e' he=>by
  unfold newL at he
  split at he
  ·obtain ⟨v,_,rfl⟩:=List.mem_map.1 he
   simp only [decide_eq_true_eq];omega
  ·cases he
 rw [this];simp
theorem yV {l:List Int} (h:l.Nodup) {k:Nat} (hk:k<l.length):l.getD k 0∉l.take k:=by
 intro hm
 obtain ⟨j,hj,e⟩:=List.mem_iff_getElem.1 hm
 simp only [List.length_take] at hj
 have e2:l.getD j 0=l.getD k 0:=by
  rw [← e,List.getD_eq_getElem?_getD,List.getElem?_eq_getElem (by omega)]
  simp
 have:=kG h (by omega) hk e2
 omega
theorem take_at {p:Pl} {k:Nat} {v:Int} (hk:k≤p.ord.length) (h:v∈p.ord.take k):∃j,j<k∧aE p j=v:=by
 obtain ⟨j,hj,e⟩:=List.mem_iff_getElem.1 h
 simp only [List.length_take] at hj
 refine ⟨j,by omega, ?_⟩
 rw [← e,aE,List.getD_eq_getElem?_getD,List.getElem?_eq_getElem (by omega)]
 simp
theorem yW {x:Int} {X:List It} (h:∀t∈X,(t.1<0↔¬t.2.2=x)):X.countP (iW x)+(loose X).length=X.length:=by
 rw [List.length_eq_countP_add_countP (iW x)]
 congr 1
 unfold loose
 rw [List.length_map, ← List.countP_eq_length_filter]
 refine List.countP_congr fun t ht=> ?_
 have:=h t ht
 simp only [iW,decide_eq_true_eq,Bool.not_eq_true,decide_eq_false_iff_not]
 exact this
theorem PV (h:mN g p):∀ {k:Nat},k≤g.n.toNat→(∀j,j<k→qx (ah g p) (bH g p) j=true)∧(fK (ah g p) (bH g p) k).row=(fK g p k).row.map (nu g.es.length (aZ g p))
 |0,_=>⟨fun j hj=>by omega,rfl⟩
 |k+1,hk=>by
  have hr:=h.run
  have uG:=hr.2.1
  have hm:=aj hr.1
  have vA:=oV h
  have hQ:=oY hr
  obtain ⟨r8,BU⟩:=fJ hr
  have UX:=ef (g:=g) (p:=p)
  obtain ⟨Nn,hrow⟩:=PV h (k:=k) (by omega)
  obtain ⟨hi,_,_⟩:=bX hm uG (k:=k) (by omega) fun j hj=>hr.2.2 j (by omega)
  obtain ⟨JW,FW,_⟩:=bX vA hQ (k:=k) (by omega) Nn
  have hR:az g (fK g p k) (aE p k)=true:=hr.2.2 k (by omega)
  have kY:=HI hr (k:=k) (by omega)
  have hx:=bB uG (k:=k) (by omega)
  obtain ⟨GH,Fl⟩:=jT hm uG (k:=k) (by omega) fun j hj=>hr.2.2 j (by omega)
  have hlr:(loose (fK g p k).row).Nodup:=(List.nodup_append.1 GH).2.1
  have hnot:aE p k∉(fK (ah g p) (bH g p) k).pl:=by
   rw [FW, ← kY]
   exact yV (cn hQ) (by rw [aP hQ];omega)
  have JX:=yU hr (k:=k) (by omega)
  have bV:=uf (g:=g) (p:=p) (x:=aE p k)
  have Mt:=Dk hr hx
  have hin:∀v,(v,aE p k)∈aZ g p→v∈loose (dg g p k):=fun v hv=>by
   rcases ud hv with ⟨i,h1,h2,h3⟩|⟨_,h2,_⟩
   ·have:=kN uG (by omega) h1 h2
    subst this;exact h3
   ·omega
  have hout:∀v,v∈loose (dg g p k)→(v,aE p k)∈aZ g p:=fun v hv=>List.mem_append_left _ (oU (by omega) hv)
  suffices hs:qx (ah g p) (bH g p) k=true∧(fK (ah g p) (bH g p) (k+1)).row=(fK g p (k+1)).row.map (nu g.es.length (aZ g p)) by
   refine ⟨fun j hj=> ?_,hs.2⟩
   by_cases e:j=k
   ·subst e;exact hs.1
   ·exact Nn j (by omega)
  have Te:(fK (ah g p) (bH g p) (k+1))=(aA (ah g p) (fK (ah g p) (bH g p) k) (aE p k) (cj (bH g p) (aE p k))).2:=by
   rw [← kY];rfl
  have hfg:(fK g p (k+1))=(aA g (fK g p k) (aE p k) (cj p (aE p k))).2:=rfl
  have hok:qx (ah g p) (bH g p) k=az (ah g p) (fK (ah g p) (bH g p) k) (aE p k):=by unfold qx;rw [kY]
  rw [Te,hfg,hok]
  have Mu:dg g p k=(aA g (fK g p k) (aE p k) (cj p (aE p k))).1.1:=rfl
  generalize aE p k=x at*
  by_cases hn:aY g x=0
  ·have hno:=gj hm hi.tofG hx.1 hn
   rw [gi _ hno] at Mu
   have Mv:aY (ah g p) x=0:=by rw [bV,hn,JX,Mu];rfl
   have PW:=gj vA JW.tofG hx.1 Mv
   refine ⟨?_, ?_⟩
   ·unfold az
    rw [if_neg (by rintro (h|h|h);omega;omega;exact hnot h),if_pos Mv]
   ·rw [gi _ hno,gi _ PW]
    simp only [List.map_append]
    rw [Mt,hrow]
  ·obtain ⟨A,X,C,hrw,nA,nC,hX,cX⟩:=bU hm hi.tofG hR hn
   rw [fH _ hrw nA nC hX] at Mu
   simp only at Mu
   rw [Mu] at hin hout JX
   have Tf:∀t∈X,t∈(fK g p k).row:=fun t ht=>by rw [hrw];simp [ht]
   have UY:∀t∈A,t∈(fK g p k).row:=fun t ht=>by rw [hrw];simp [ht]
   have UZ:∀t∈C,t∈(fK g p k).row:=fun t ht=>by rw [hrw];simp [ht]
   have hit:∀t∈X,(t.1<0↔¬t.2.2=x):=fun t ht=>by
    have h1:=(hi.it t (Tf t ht)).head hm
    have h2:=hX.al t ht
    omega
   rw [hrw,bM,bM,List.nodup_append,List.nodup_append] at hlr
   have QZ:fq x (A.map (nu g.es.length (aZ g p))):=fun t' ht'=>by
    obtain ⟨t,ht,rfl⟩:=List.mem_map.1 ht'
    by_cases h0:0≤t.1
    ·rw [oT h0];exact nA t ht
    ·rcases pY (m:=g.es.length) r8 t.2.1 with ⟨h1,_⟩|⟨y,h1⟩
     ·rw [ua h1];exact nA t ht
     ·obtain ⟨j,_,h2,_⟩:=oS (m:=g.es.length) r8 h1
      rw [jU (by omega) h2]
      intro e
      have e:y=x:=e
      subst e
      exact hlr.1.2.2 _ (mu ht (by omega)) _ (hin _ h1) rfl
   have Q0:fq x (C.map (nu g.es.length (aZ g p))):=fun t' ht'=>by
    obtain ⟨t,ht,rfl⟩:=List.mem_map.1 ht'
    by_cases h0:0≤t.1
    ·rw [oT h0];exact nC t ht
    ·rcases pY (m:=g.es.length) r8 t.2.1 with ⟨h1,_⟩|⟨y,h1⟩
     ·rw [ua h1];exact nC t ht
     ·obtain ⟨j,_,h2,_⟩:=oS (m:=g.es.length) r8 h1
      rw [jU (by omega) h2]
      intro e
      have e:y=x:=e
      subst e
      exact hlr.2.2 _ (List.mem_append_right _ (hin _ h1)) _ (mu ht (by omega)) rfl
   have HK:∀t∈X,(nu g.es.length (aZ g p) t).2.2=x:=fun t ht=>by
    by_cases h0:0≤t.1
    ·rw [oT h0]
     have:=hit t ht
     omega
    ·obtain ⟨j,_,h2,_⟩:=oS (m:=g.es.length) r8 (hout _ (mu ht (by omega)))
     rw [jU (by omega) h2]
   have FF:Mid x (X.map (nu g.es.length (aZ g p))):=by
    obtain ⟨q,X0,e1,_⟩:=hX.fst
    obtain ⟨X1,q',e2,_⟩:=hX.JC
    refine ⟨⟨nu g.es.length (aZ g p) q,X0.map (nu g.es.length (aZ g p)),by rw [e1];rfl,HK q (by rw [e1];simp)⟩,⟨X1.map (nu g.es.length (aZ g p)),nu g.es.length (aZ g p) q',by rw [e2];simp,HK q' (by rw [e2];simp)⟩,fun t' ht'=> ?_⟩
    obtain ⟨t,ht,rfl⟩:=List.mem_map.1 ht'
    exact .inl (HK t ht)
   have uL:(X.map (nu g.es.length (aZ g p))).countP (iW x)=aY (ah g p) x:=by
    have h1:(X.map (nu g.es.length (aZ g p))).countP (iW x)=(X.map (nu g.es.length (aZ g p))).length:=List.countP_eq_length.2 fun t' ht'=>by
     obtain ⟨t,ht,rfl⟩:=List.mem_map.1 ht'
     simp [iW,HK t ht]
    rw [h1,List.length_map,bV,JX, ← cX,yW hit]
   have Mw:(fK (ah g p) (bH g p) k).row=A.map (nu g.es.length (aZ g p))++X.map (nu g.es.length (aZ g p))++C.map (nu g.es.length (aZ g p)):=by rw [hrow,hrw];simp
   refine ⟨kL vA JW.tofG hx.1 (by omega) hnot Mw QZ Q0 FF uL, ?_⟩
   rw [fH _ hrw nA nC hX,fH _ Mw QZ Q0 FF]
   simp only [List.map_append]
   rw [Mt]
theorem BZ (hr:aX g p) {v:Int} {k:Nat} :∀ {K:Nat},k≤K→K≤g.n.toNat→v∈loose (fK g p k).row→(∃i,i<K∧v∈loose (dg g p i))∨v∈loose (fK g p K).row
 |0,h1,_,hv=>by
  obtain rfl:k=0:=by omega
  exact .inr hv
 |K+1,h1,h2,hv=>by
  by_cases e:k=K+1
  ·subst e;exact .inr hv
  ·rcases BZ hr (K:=K) (by omega) (by omega) hv with ⟨i,h3,h4⟩|h3
   ·exact .inl ⟨i,by omega,h4⟩
   ·have hm:=aj hr.1
    obtain ⟨hi,_,_⟩:=bX hm hr.2.1 (k:=K) (by omega) fun j hj=>hr.2.2 j (by omega)
    obtain ⟨A,X,C,hrw,_,_,_,hs⟩:=eO hm hi.tofG (hr.2.2 K (by omega))
    have hg:dg g p K=X:=by unfold dg;rw [hs]
    have hrow:(fK g p (K+1)).row=A++aJ g (aE p K) (cj p (aE p K))++C:=by show (aA _ _ _ _).2.row=_;rw [hs]
    rw [hrw,bM,bM,List.mem_append,List.mem_append] at h3
    rcases h3 with (h3|h3)|h3
    ·refine .inr ?_
     rw [hrow,bM,bM];simp [h3]
    ·exact .inl ⟨K,by omega,by rw [hg];exact h3⟩
    ·refine .inr ?_
     rw [hrow,bM,bM];simp [h3]
end Go.Ab
end
section
namespace Go.Ab
open Go.Proofs
set_option maxRecDepth 10000
variable {g:Gr} {p:Pl}
theorem HL (hr:aX g p):aV g p≠ []:=by
 have hm:=aj hr.1
 have hn:=aG hm
 obtain ⟨k,hk⟩:∃k,g.n.toNat=k+1:=⟨g.n.toNat - 1,by omega⟩
 obtain ⟨hi,_,_⟩:=bX hm hr.2.1 (k:=k) (by omega) fun j hj=>hr.2.2 j (by omega)
 obtain ⟨A,X,C,hrw,_,_,_,hs⟩:=eO hm hi.tofG (hr.2.2 k (by omega))
 unfold aV
 rw [hk]
 show (aA _ _ _ _).2.row≠ []
 rw [hs]
 have:=(nk (g:=g) (x:=aE p k) (outs:=cj p (aE p k))).1
 intro e
 have h2:=congrArg List.length e
 simp at h2
 rw [h2.2.1] at this
 simp at this
theorem qa (hr:aX g p):cj p (aE p (g.n.toNat - 1))= []∧aE p (g.n.toNat - 1)∈loose (aV g p):=by
 have hm:=aj hr.1
 have hn:=aG hm
 obtain ⟨k,hk⟩:∃k,g.n.toNat=k+1:=⟨g.n.toNat - 1,by omega⟩
 obtain ⟨hi,_,_⟩:=bX hm hr.2.1 (k:=k) (by omega) fun j hj=>hr.2.2 j (by omega)
 obtain ⟨A,X,C,hrw,_,_,_,hs⟩:=eO hm hi.tofG (hr.2.2 k (by omega))
 have hL:aV g p=A++aJ g (aE p k) (cj p (aE p k))++C:=by
  unfold aV;rw [hk]
  show (aA _ _ _ _).2.row=_
  rw [hs]
 have zW:g.n.toNat - 1=k:=by omega
 rw [zW]
 have gy:=tX hr
 have hx:=bB hr.2.1 (k:=k) (by omega)
 have h0:cj p (aE p k)= []:=by
  refine Decidable.byContradiction fun h0=> ?_
  have ha:aJ g (aE p k) (cj p (aE p k))=(cj p (aE p k)).map (fQ g (aE p k)):=if_neg h0
  obtain ⟨i,hi'⟩:=List.exists_mem_of_ne_nil _ h0
  have h1:=gy (fQ g (aE p k) i) (by rw [hL,ha];simp;exact .inr (.inl ⟨i,hi',rfl⟩))
  obtain ⟨e,rfl,_⟩:=oK ((bK hr.2.1 hx.1 hx.2).mem_iff.1 hi')
  simp [fQ] at h1
  omega
 refine ⟨h0, ?_⟩
 have ha:aJ g (aE p k) (cj p (aE p k))= [(-1,aE p k, -1)]:=if_pos h0
 rw [hL,ha,bM,bM]
 simp [loose]
theorem FX (hr:aX g p) (hl:¬1<(aV g p).length) {v:Int} (hv:v∈loose (aV g p)):v=aE p (g.n.toNat - 1):=by
 have h1:=(qa hr).2
 have h2:(loose (aV g p)).length≤1:=Nat.le_trans vt (by omega)
 match hL:loose (aV g p),h2 with
 | [],_=>rw [hL] at hv;cases hv
 | [w],_=>
   rw [hL,List.mem_singleton] at hv h1
   rw [hv,h1]
theorem FY (h:mN g p) (hl:1<(aV g p).length):qx (ah g p) (bH g p) g.n.toNat=true∧(fK (ah g p) (bH g p) (g.n.toNat+1)).row= [(-1,g.n, -1)]:=by
 have hr:=h.run
 have hm:=aj hr.1
 have hn:=aG hm
 have vA:=oV h
 have hQ:=oY hr
 obtain ⟨r8,BU⟩:=fJ hr
 obtain ⟨Nn,hrow⟩:=PV h (k:=g.n.toNat) (Nat.le_refl _)
 have hG:(ah g p).n=g.n+1:=if_pos hl
 obtain ⟨JW,FW,_⟩:=bX vA hQ (k:=g.n.toNat) (by omega) Nn
 have hx:=HJ hr hl
 have hnot:g.n∉(fK (ah g p) (bH g p) g.n.toNat).pl:=by
  rw [FW]
  have:=yV (cn hQ) (k:=g.n.toNat) (by rw [aP hQ];omega)
  rw [show (bH g p).ord.getD g.n.toNat 0=g.n from hx] at this
  exact this
 have gy:=tX hr
 have hrow:(fK (ah g p) (bH g p) g.n.toNat).row=(aV g p).map (nu g.es.length (aZ g p)):=hrow
 have hmem:∀v∈loose (aV g p),(v,g.n)∈aZ g p:=fun v hv=>by
  refine List.mem_append_right _ ?_
  unfold newL
  rw [if_pos hl]
  exact List.mem_map.2 ⟨v,hv,rfl⟩
 have HK:∀t∈aV g p,(nu g.es.length (aZ g p) t).2.2=g.n:=fun t ht=>by
  obtain ⟨j,_,h2,_⟩:=oS (m:=g.es.length) r8 (hmem _ (mu ht (gy t ht)))
  rw [jU (gy t ht) h2]
 have FF:Mid g.n ((aV g p).map (nu g.es.length (aZ g p))):=by
  have hne:=HL hr
  refine ⟨?_, ?_,fun t' ht'=> ?_⟩
  ·match hL:aV g p,hne with
   |t::l,_=>exact ⟨_,_,rfl,HK t (by rw [hL];simp)⟩
  ·have e:=List.dropLast_concat_getLast hne
   refine ⟨(aV g p).dropLast.map (nu g.es.length (aZ g p)),nu g.es.length (aZ g p) ((aV g p).getLast hne), ?_,HK _ (List.getLast_mem hne)⟩
   conv=>lhs;rw [← e]
   simp
  ·obtain ⟨t,ht,rfl⟩:=List.mem_map.1 ht'
   exact .inl (HK t ht)
 have hno:aY g g.n=0:=by
  have:¬0<aY g g.n:=fun h0=>by
   obtain ⟨i,hi⟩:=List.exists_mem_of_length_pos h0
   obtain ⟨⟨h1,h2⟩,h3⟩:=ij hi
   have:=(dw hm (k:=i.toNat) (by omega)).2
   have h3:(g.es.getD i.toNat (0,0)).2=g.n:=h3
   omega
  omega
 have uL:((aV g p).map (nu g.es.length (aZ g p))).countP (iW g.n)=aY (ah g p) g.n:=by
  have h1:((aV g p).map (nu g.es.length (aZ g p))).countP (iW g.n)=((aV g p).map (nu g.es.length (aZ g p))).length:=List.countP_eq_length.2 fun t' ht'=>by
   obtain ⟨t,ht,rfl⟩:=List.mem_map.1 ht'
   simp [iW,HK t ht]
  have h2:(cB g p g.n.toNat).filter (fun e=>decide (e.2=g.n))= []:=List.filter_eq_nil_iff.2 fun e he=>by
   obtain ⟨i,hi,hx2,_⟩:=uc (v:=e.1) (x:=e.2) he
   have:=bB hr.2.1 hi
   simp only [decide_eq_true_eq];omega
  have h3:(newL g p).filter (fun e=>decide (e.2=g.n))=newL g p:=List.filter_eq_self.2 fun e he=>by
   unfold newL at he
   rw [if_pos hl] at he
   obtain ⟨v,_,rfl⟩:=List.mem_map.1 he
   simp
  have h4:(loose (aV g p)).length=(aV g p).length:=by
   unfold loose
   rw [List.length_map,List.filter_eq_self.2]
   intro t ht
   exact decide_eq_true (gy t ht)
  rw [h1,List.length_map,uf,hno,aZ,List.filter_append,h2,h3]
  unfold newL
  rw [if_pos hl]
  simp [h4]
 have Mw:(fK (ah g p) (bH g p) g.n.toNat).row= []++(aV g p).map (nu g.es.length (aZ g p))++ []:=by rw [hrow];simp
 have nil:fq g.n ([]:List It):=fun t ht=>by cases ht
 refine ⟨?_, ?_⟩
 ·unfold qx
  rw [hx]
  exact kL vA JW.tofG (by omega) (by omega) hnot Mw nil nil FF uL
 ·show (aA _ _ _ _).2.row=_
  rw [hx,fH _ Mw nil nil FF,(rz hr hl).1]
  rfl
theorem B0 (h:mN g p):∀k,k<(ah g p).n.toNat→qx (ah g p) (bH g p) k=true:=by
 have hn:=aG (aj h.run.1)
 intro k hk
 by_cases hkn:k<g.n.toNat
 ·exact (PV h (k:=g.n.toNat) (Nat.le_refl _)).1 k hkn
 ·by_cases hl:1<(aV g p).length
  ·have hG:(ah g p).n=g.n+1:=if_pos hl
   obtain rfl:k=g.n.toNat:=by omega
   exact (FY h hl).1
  ·have hG:(ah g p).n=g.n:=if_neg hl
   omega
theorem iu {f:Edge→Int} {g:Gr} {y:Int} :y∈bQ f g↔(0≤y∧y<g.n)∧aO f g.es g.es.length y= []:=by
 simp only [bQ,jG,List.mem_map,List.mem_filter,List.mem_range,decide_eq_true_eq]
 have he:∀x:Nat,x<g.n.toNat→(((dF f g).getD x []).length=0↔aO f g.es g.es.length (x:Int)= []):=by
  intro x hx
  have e:(dF f g).getD x []=aO f g.es g.es.length (x:Int):=by
   simp [dF,List.getD_eq_getElem?_getD,List.getElem?_range hx,ox]
  rw [e,List.length_eq_zero_iff]
 constructor
 ·rintro ⟨x,⟨hx,h0⟩,rfl⟩
  exact ⟨by simp;omega,(he x hx).1 h0⟩
 ·rintro ⟨⟨h1,h2⟩,h3⟩
  have e:((y.toNat:Nat):Int)=y:=by omega
  exact ⟨y.toNat,⟨by omega,(he _ (by omega)).2 (by rw [e];exact h3)⟩,e⟩
theorem xo {l:List Int} (hd:l.Nodup) {s:Int} (h:∀y∈l,y=s):l.length≤1:=by
 match l,hd,h with
 | [],_,_=>simp
 | [_],_,_=>simp
 |a::b::l,hd,h=>
  rw [List.nodup_cons] at hd
  exact absurd (by rw [h a (by simp),h b (by simp)];simp) hd.1
theorem yX (h:mN g p):(cg (ah g p)).1=0:=by
 have hr:=h.run
 have hm:=aj hr.1
 have hn:=aG hm
 have vA:=oV h
 have hQ:=oY hr
 have Mx:=B0 h
 have hna:=ef (g:=g) (p:=p)
 obtain ⟨r8,BU⟩:=fJ hr
 have Q1:∀i,i<(ah g p).es.length→∃j k,j<k∧k<(ah g p).n.toNat∧tl (ah g p) i=aE (bH g p) j∧hd (ah g p) i=aE (bH g p) k:=fun i hi=>by
  have hh:=(dw vA hi).2
  obtain ⟨k,hk,e⟩:=fI hQ hh.1 hh.2
  obtain ⟨JW,FW,_⟩:=bX vA hQ (k:=k) (by omega) fun j hj=>Mx j (by omega)
  obtain ⟨t,ht,e1,e2,_⟩:=tL vA JW (Mx k hk) hi e.symm
  have hin:=JW.tail t ht (by omega)
  rw [FW] at hin
  obtain ⟨j,hj,e3⟩:=take_at (by rw [aP hQ];omega) hin
  exact ⟨j,k,hj,hk,by rw [← e2,e3],e.symm⟩
 have FZ:BJ (ah g p)=true:=(ry vA).2 ⟨fun v=>(bP (fun y=>decide (y=v)) (bH g p).ord).toNat,fun i hi=>by
  obtain ⟨j,k,hjk,hk,e1,e2⟩:=Q1 i hi
  have mE:∀q,q<(ah g p).n.toNat→bP (fun y=>decide (y=aE (bH g p) q)) (bH g p).ord=q:=fun q hq=>
   fA (d:=0) (by rw [aP hQ];exact hq) (fun i' hi'=>decide_eq_false fun e=>by
    have:=kN hQ (by omega) hq e
    omega) (decide_eq_true rfl)
  simp only
  rw [e1,e2,mE j (by omega),mE k hk]
  omega⟩
 have F0:¬0≤lH (ah g p):=fun hl=>by
  have h1:=eW (fun e:Edge=>decide (e.1=e.2)) (ah g p).es
  have h0:decide (0≤bP (fun e:Edge=>decide (e.1=e.2)) (ah g p).es)=true:=decide_eq_true hl
  rw [h0] at h1
  obtain ⟨e,he,h2⟩:=List.any_eq_true.1 h1.symm
  obtain ⟨i,hi,rfl⟩:=List.mem_iff_getElem.1 he
  obtain ⟨j,k,hjk,hk,e1,e2⟩:=Q1 i hi
  have h3:tl (ah g p) i=hd (ah g p) i:=by simpa [tl,hd,List.getD_eq_getElem?_getD,List.getElem?_eq_getElem hi] using h2
  have:=kN hQ (by omega) hk (e1.symm.trans (h3.trans e2))
  omega
 have JH:¬0≤eH (ah g p):=fun ht=>by
  obtain ⟨i,k,hi,hk,hik,e⟩:=(ir _).1 ht
  have hgt:¬0≤eH g:=by
   have:=hr.1
   unfold cg jH at this
   intro h2
   split at this
   ·cases this
   split at this
   ·cases this
   cases this
  have hel:(ah g p).es.length=g.es.length+(aZ g p).length:=List.length_append
  have mixed:∀a b,a<g.es.length→b<(aZ g p).length→g.es.getD a (0,0)≠(aZ g p).getD b (0,0):=fun a b ha hb e=>by
   obtain ⟨q0,q1⟩:=BU _ (aU (d:=(0,0)) hb)
   have hz:=(lJ hr.2.1 q0.1 q0.2).2 q1
   have:(a:Int)∈cu g ((aZ g p).getD b (0,0)).1:=FM.2 ⟨⟨by omega,by omega⟩,by rw [Int.toNat_natCast,e]⟩
   rw [hz] at this
   cases this
  by_cases h1:i<g.es.length
  ·by_cases h2:k<g.es.length
   ·rw [nv i h1,nv k h2] at e
    exact hgt ((ir g).2 ⟨i,k,h1,h2,hik,e⟩)
   ·obtain ⟨b,rfl⟩:∃b,k=g.es.length+b:=⟨k - g.es.length,by omega⟩
    rw [nv i h1,oX] at e
    exact mixed i b h1 (by omega) e
  ·obtain ⟨a,rfl⟩:∃a,i=g.es.length+a:=⟨i - g.es.length,by omega⟩
   by_cases h2:k<g.es.length
   ·rw [nv k h2,oX] at e
    exact mixed k a h2 (by omega) e.symm
   ·obtain ⟨b,rfl⟩:∃b,k=g.es.length+b:=⟨k - g.es.length,by omega⟩
    rw [oX,oX] at e
    have e1:∀q,q<(aZ g p).length→((aZ g p).map (·.1)).getD q 0=((aZ g p).getD q (0,0)).1:=fun q hq=>by
     simp [List.getD_eq_getElem?_getD,List.getElem?_eq_getElem hq]
    have:=kG r8 (i:=a) (j:=b) (by simp;omega) (by simp;omega) (by rw [e1 a (by omega),e1 b (by omega),e])
    omega
 have F3:¬1<(bQ (·.2) (ah g p)).length:=fun hb=>by
  obtain ⟨s,hs⟩:∃s,∀y∈bQ (·.2) (ah g p),y=s:=by
   refine ⟨aE p 0,fun y hy=> ?_⟩
   obtain ⟨⟨y0,y1⟩,y2⟩:=mh.1 hy
   rw [uf] at y2
   have yn:y<g.n:=by
    refine Decidable.byContradiction fun JJ=> ?_
    have hl:1<(aV g p).length:=Decidable.byContradiction fun hl=>by
     have hG:(ah g p).n=g.n:=if_neg hl
     omega
    have e:y=g.n:=by have hG:(ah g p).n=g.n+1:=if_pos hl;omega
    have G5:=(qa hr).2
    have:(aE p (g.n.toNat - 1),y)∈(aZ g p).filter fun e=>decide (e.2=y):=List.mem_filter.2 ⟨List.mem_append_right _ (by
     unfold newL
     rw [if_pos hl]
     exact List.mem_map.2 ⟨_,G5,by rw [e]⟩),by simp⟩
    have:=List.length_pos_of_mem this
    omega
   have h0:=bB hr.2.1 (k:=0) (by omega)
   refine kM hr.1 ⟨y0,yn⟩ h0 (by omega) ?_
   refine Decidable.byContradiction fun hnz=> ?_
   obtain ⟨A,X,C,hrw,_,_,hX,_⟩:=bU hm (oJ g).tofG (hr.2.2 0 (by omega)) hnz
   obtain ⟨q,X0,e1,_⟩:=hX.fst
   rw [e1] at hrw
   simp at hrw
  have:=xo dH hs
  omega
 unfold cg jH
 rw [if_neg (by simp [vA]),if_neg F0,if_neg JH,if_neg (by rw [xm vA FZ];simp),if_neg F3]
theorem lM (h:mN g p):aX (ah g p) (bH g p):=⟨yX h,oY h.run,B0 h⟩
theorem F4 (h:mN g p):vu (ah g p)=true:=by
 have hr:=h.run
 have hm:=aj hr.1
 have hn:=aG hm
 have hna:=ef (g:=g) (p:=p)
 obtain ⟨r8,BU⟩:=fJ hr
 unfold vu
 rw [decide_eq_true (yX h),Bool.true_and,decide_eq_true_eq]
 obtain ⟨GH,Fl⟩:=jT hm hr.2.1 (k:=g.n.toNat) (Nat.le_refl _) hr.2.2
 have key:∀y,0≤y∧y<g.n→cu (ah g p) y= []→¬1<(aV g p).length∧y∈loose (aV g p):=fun y hy hz=>by
  have hs:cj p y= []:=by
   refine Decidable.byContradiction fun hs=> ?_
   rw [ue hr hy hs] at hz
   exact hs ((lJ hr.2.1 hy.1 hy.2).1 hz)
  obtain ⟨s1,_⟩:=pZ hr hy hs
  have hno:∀x,(y,x)∉aZ g p:=fun x hx=>by
   obtain ⟨j,_,h2,_⟩:=s1 x hx
   rw [hz] at h2;cases h2
  obtain ⟨k,hk,e⟩:=fI hr.2.1 hy.1 hy.2
  obtain ⟨hi,_,_⟩:=bX hm hr.2.1 (k:=k) (by omega) fun j hj=>hr.2.2 j (by omega)
  obtain ⟨A,X,C,hrw,_,_,_,hs'⟩:=eO hm hi.tofG (hr.2.2 k hk)
  have hin:y∈loose (fK g p (k+1)).row:=by
   have hrow:(fK g p (k+1)).row=A++aJ g (aE p k) (cj p (aE p k))++C:=by show (aA _ _ _ _).2.row=_;rw [hs']
   rw [hrow,e,hs,bM,bM]
   simp [aJ,loose]
  rcases BZ hr (K:=g.n.toNat) (by omega) (Nat.le_refl _) hin with ⟨i,h1,h2⟩|h2
  ·exact absurd (List.mem_append_left _ (oU h1 h2)) (hno _)
  ·refine ⟨fun hl=>hno g.n (List.mem_append_right _ ?_),h2⟩
   unfold newL
   rw [if_pos hl]
   exact List.mem_map.2 ⟨_,h2,rfl⟩
 have U0:(bQ (·.1) (ah g p)).length≤1:=by
  by_cases hl:1<(aV g p).length
  ·refine xo (s:=g.n) dH fun y hy=> ?_
   obtain ⟨hy1,hy2⟩:=iu.1 hy
   refine Decidable.byContradiction fun hne=> ?_
   have hG:(ah g p).n=g.n+1:=if_pos hl
   exact (key y ⟨hy1.1,by omega⟩ hy2).1 hl
  ·refine xo (s:=aE p (g.n.toNat - 1)) dH fun y hy=> ?_
   obtain ⟨hy1,hy2⟩:=iu.1 hy
   have hG:(ah g p).n=g.n:=if_neg hl
   exact FX hr hl (key y ⟨hy1.1,by omega⟩ hy2).2
 have U1:0<(bQ (·.1) (ah g p)).length:=by
  by_cases hl:1<(aV g p).length
  ·have hG:(ah g p).n=g.n+1:=if_pos hl
   exact List.length_pos_of_mem (iu.2 ⟨⟨by omega,by omega⟩,(rz hr hl).2⟩:g.n∈bQ (·.1) (ah g p))
  ·have hw:=bB hr.2.1 (k:=g.n.toNat - 1) (by omega)
   obtain ⟨h1,h2⟩:=qa hr
   refine List.length_pos_of_mem (iu.2 ⟨⟨hw.1,by omega⟩,(pZ hr hw h1).2 fun e he h3=> ?_⟩:aE p (g.n.toNat - 1)∈bQ (·.1) (ah g p))
   rcases ud (v:=e.1) (x:=e.2) he with ⟨i,h4,_,h5⟩|⟨h4,_⟩
   ·exact (List.nodup_append.1 GH).2.2 e.1 (List.mem_map.2 ⟨_,oU h4 h5,rfl⟩) _ h2 h3
   ·exact hl h4
 omega
end Go.Ab
end
section
namespace Go.Ab
open Go.Proofs
set_option maxRecDepth 10000
def fu (l:List It):List It:=l.filter fun t=>decide (0≤t.1)
theorem mw {a b:List It} :fu (a++b)=fu a++fu b:=by simp [fu]
theorem dN {l:List It} {t:It} :t∈fu l↔t∈l∧0≤t.1:=by simp [fu]
theorem rC {x:Int} {l:List It} (h:fq x l):fq x (fu l):=fun t ht=>h t (dN.1 ht).1
def uO (x:Int) (l:List It):Prop:=∀t∈l,t.2.2=x
theorem qb {g:Gr} {x:Int} {o:List Int} (ho:∀i∈o,0≤i):fu (aJ g x o)=o.map (fQ g x):=by
 unfold aJ
 split
 ·rename_i h;subst h;rfl
 ·refine List.filter_eq_self.2 fun t ht=> ?_
  obtain ⟨i,hi,rfl⟩:=List.mem_map.1 ht
  exact decide_eq_true (ho i hi)
theorem vB {x:Int} :∀ {X Y c d:List It},uO x X→uO x Y→fq x c→fq x d→X++c=Y++d→X=Y∧c=d
 | [], [],c,d,_,_,_,_,e=>⟨rfl,e⟩
 | [],u::Y,c,d,_,hY,hc,_,e=>by
   simp only [List.nil_append] at e
   exact absurd (hY u (by simp)) (hc u (by rw [e];simp))
 |t::X, [],c,d,hX,_,_,hd,e=>by
  simp only [List.nil_append] at e
  exact absurd (hX t (by simp)) (hd t (by rw [← e];simp))
 |t::X,u::Y,c,d,hX,hY,hc,hd,e=>by
  simp only [List.cons_append,List.cons.injEq] at e
  obtain ⟨e1,e2⟩:=vB (fun s hs=>hX s (by simp [hs])) (fun s hs=>hY s (by simp [hs])) hc hd e.2
  exact ⟨by rw [e.1,e1],e2⟩
theorem yY {x:Int} :∀ {a b X Y c d:List It},fq x a→fq x b→uO x X→uO x Y→fq x c→fq x d→X≠ []→Y≠ []→a++X++c=b++Y++d→a=b∧X=Y∧c=d
 |t::a, [],X,u::Y,c,d,ha,_,_,hY,_,_,_,_,e=>by
  simp only [List.cons_append,List.nil_append,List.cons.injEq] at e
  exact absurd (by rw [e.1];exact hY u (by simp)) (ha t (by simp))
 | [],t::b,u::X,Y,c,d,_,hb,hX,_,_,_,_,_,e=>by
   simp only [List.cons_append,List.nil_append,List.cons.injEq] at e
   exact absurd (by rw [← e.1];exact hX u (by simp)) (hb t (by simp))
 |t::a,u::b,X,Y,c,d,ha,hb,hX,hY,hc,hd,nX,nY,e=>by
  simp only [List.cons_append,List.cons.injEq] at e
  obtain ⟨e1,e2,e3⟩:=yY (fun s hs=>ha s (by simp [hs])) (fun s hs=>hb s (by simp [hs])) hX hY hc hd nX nY e.2
  exact ⟨by rw [e.1,e1],e2,e3⟩
 | [], [],X,Y,c,d,_,_,hX,hY,hc,hd,_,_,e=>by
   refine ⟨rfl, ?_⟩
   simp only [List.nil_append] at e
   exact vB hX hY hc hd e
 | [],_::_, [],_,_,_,_,_,_,_,_,_,h,_,_=>absurd rfl h
 |_::_, [],_, [],_,_,_,_,_,_,_,_,_,h,_=>absurd rfl h
theorem yZ {g:Gr} (hm:aL g=true) {f:Fr} (hi:fG g f) {x:Int} (hR:az g f x=true) (hn:aY g x≠0):
 ∃a X c,fu f.row=a++X++c∧fq x a∧fq x c∧uO x X∧X.length=aY g x∧∀o,fu (aA g f x o).2.row=a++fu (aJ g x o)++c:=by
 obtain ⟨A,X,C,hr,hA,hC,hX,cX⟩:=bU hm hi hR hn
 have hx:=(aD hR).1
 have hmem:∀t∈X,t∈f.row:=fun t ht=>by rw [hr];simp [ht]
 have hiff:∀t∈X,(0≤t.1↔t.2.2=x):=fun t ht=>by
  have h1:=(hi.it t (hmem t ht)).head hm
  have h2:=hX.al t ht
  omega
 refine ⟨fu A,fu X,fu C,by rw [hr,mw,mw],rC hA,rC hC,fun t ht=> ?_, ?_,fun o=> ?_⟩
 ·obtain ⟨h1,h2⟩:=dN.1 ht
  exact (hiff t h1).1 h2
 ·rw [← cX,fu, ← List.countP_eq_length_filter]
  refine List.countP_congr fun t ht=> ?_
  simp only [iW,decide_eq_true_eq]
  exact hiff t ht
 ·rw [fH o hr hA hC hX]
  simp only [mw]
theorem B1 {g:Gr} (hm:aL g=true) {f:Fr} (hi:fG g f) {x:Int} (hR:az g f x=true) (hn:aY g x≠0) {a X c:List It} (e:fu f.row=a++X++c) (ha:fq x a) (hc:fq x c) (hX:uO x X) (nX:X≠ []) (o:List Int):
 fu (aA g f x o).2.row=a++fu (aJ g x o)++c:=by
 obtain ⟨b,Y,d,e',hb,hd,hY,lY,hs⟩:=yZ hm hi hR hn
 have nY:Y≠ []:=fun h=>hn (by rw [← lY,h];rfl)
 obtain ⟨e1,_,e3⟩:=yY hb ha hY hX hd hc nY nX (e'.symm.trans e)
 rw [hs o,e1,e3]
theorem za {g:Gr} (hm:aL g=true) {f:Fr} (hi:fG g f) {x:Int} (h0:0≤x) (h1:x<g.n) (hp:x∉f.pl) {a X c:List It} (e:fu f.row=a++X++c) (ha:fq x a) (hc:fq x c) (hX:uO x X) (nX:X≠ []) (hl:X.length=aY g x):az g f x=true:=by
 have hmem:∀j,j<f.row.length→Db g (f.row.getD j (0,0,0)):=fun j hj=>hi.it _ (aU hj)
 have uL:f.row.countP (iW x)=X.length:=by
  have h2:f.row.countP (iW x)=(fu f.row).countP (iW x):=by
   rw [fu,List.countP_filter]
   refine List.countP_congr fun t ht=> ?_
   have:=(hi.it t ht).head hm
   simp only [iW,Bool.and_eq_true,decide_eq_true_eq]
   omega
  have c1:a.countP (iW x)=0:=List.countP_eq_zero.2 fun t ht=>by simp [iW,ha t ht]
  have c2:c.countP (iW x)=0:=List.countP_eq_zero.2 fun t ht=>by simp [iW,hc t ht]
  have c3:X.countP (iW x)=X.length:=List.countP_eq_length.2 fun t ht=>by simp [iW,hX t ht]
  rw [h2,e,List.countP_append,List.countP_append,c1,c2,c3]
  omega
 rw [← jO hm hi,eL,if_neg (by rintro (h|h|h);omega;omega;exact hp h),gh h0 h1,Bool.and_eq_true,decide_eq_true_eq]
 have hN:(aO (fun e=>e.2) g.es g.es.length x).length=aY g x:=rfl
 rw [hN]
 refine ⟨?_, ?_⟩
 ·unfold bp
  rw [jM,kK (Nat.le_refl _),List.take_length,uL,hl]
 ·rw [Bool.or_eq_true];right
  rcases dZ (row:=f.row) (x:=x) f.row.length with ⟨hs,hno⟩|⟨p,q,n,hs,hab,nK,hc0,hcl,hpx,PX,hlo,hhi⟩
  ·have hs':bp f.row x=(-1,0,0):=hs
   rw [hs'];simp [qu]
  ·have hs':bp f.row x=((p:Int),(q:Int),(n:Int)):=hs
   rw [hs']
   simp only [Int.toNat_natCast,qu,Bool.not_eq_true']
   rw [← Bool.not_eq_true,vk nK]
   rintro ⟨j,h2,h3,h4⟩
   simp only [kI,Bool.and_eq_true,decide_eq_true_eq] at h4
   have hja:p<j:=by
    refine Nat.lt_of_le_of_ne h2 fun e=> ?_
    subst e;exact h4.1 hpx
   have hjb:j<q - 1:=by
    refine Nat.lt_of_le_of_ne (by omega) fun e=> ?_
    subst e;exact h4.1 PX
   have hsub:=((tM (i:=j+1) (j:=q - 1) (tM (i:=p+1) (j:=j) (tM (i:=0) (j:=p) (List.nil_sublist _) (by omega) (by omega)) (by omega) (by omega)) (by omega) (by omega)).trans (List.take_sublist _ f.row)).filter fun t=>decide (0≤t.1)
   have hp1:=(hmem p (by omega)).head hm
   have PJ:=(hmem j (by omega)).head hm
   have hq1:=(hmem (q - 1) (by omega)).head hm
   generalize f.row.getD p (0,0,0)=s1 at hsub hp1 hpx
   generalize f.row.getD j (0,0,0)=s2 at hsub PJ h4
   generalize f.row.getD (q - 1) (0,0,0)=s3 at hsub hq1 PX
   have hf:([]++ [s1]++ [s2]++ [s3]).filter (fun t=>decide (0≤t.1))= [s1,s2,s3]:=List.filter_eq_self.2 fun t ht=>by
    simp only [List.nil_append,List.cons_append,List.mem_cons,List.not_mem_nil,or_false] at ht
    rcases ht with rfl|rfl|rfl
    ·exact decide_eq_true (hp1.1.2 (by omega))
    ·exact decide_eq_true (PJ.1.2 h4.2)
    ·exact decide_eq_true (hq1.1.2 (by omega))
   rw [hf] at hsub
   have hsub: [s1,s2,s3].Sublist (a++(X++c)):=by rw [← List.append_assoc, ← e];exact hsub
   rw [List.sublist_append_iff] at hsub
   obtain ⟨l1,l',el,k1,k'⟩:=hsub
   rw [List.sublist_append_iff] at k'
   obtain ⟨l2,l3,rfl,k2,k3⟩:=k'
   match l1,el,k1 with
   |t::l1,el,k1=>
    simp only [List.cons_append,List.cons.injEq] at el
    exact ha t (k1.subset (by simp)) (by rw [← el.1];exact hpx)
   | [],el,_=>
     match l2,el,k2 with
     | [],el,_=>
       simp only [List.nil_append] at el
       exact hc s1 (k3.subset (by rw [← el];simp)) hpx
     | [t],el,_=>
       simp only [List.nil_append,List.cons_append,List.cons.injEq] at el
       exact hc s3 (k3.subset (by rw [← el.2];simp)) PX
     |t::u::l2,el,k2=>
      simp only [List.nil_append,List.cons_append,List.cons.injEq] at el
      exact h4.1 (by rw [el.2.1];exact hX u (k2.subset (by simp)))
end Go.Ab
end
section
namespace Go.Ab
open Go.Proofs
set_option maxRecDepth 10000
def My (gone:List Int) (i:Nat):Bool:= !decide ((i:Int)∈gone)
def Kg (gone:List Int) (k:Nat):List Nat:=(List.range k).filter (My gone)
def Th (gone:List Int) (k:Nat):Nat:=(Kg gone k).length
def PY (gone:List Int) (es:List Edge) (k:Nat):List Edge:=(Kg gone k).map fun i=>es.getD i (0,0)
def Ti (g:Gr) (gone:List Int):Gr:=⟨g.n,PY gone g.es g.es.length⟩
def Q2 (gone:List Int) (i:Int):Int:=if i∈gone then -1 else (Th gone i.toNat:Int)
def PZ (gone:List Int) (l:List Int):List Int:=(l.filter fun i=>decide (i∉gone)).map (Q2 gone)
def Tj (p:Pl) (gone:List Int):Pl:=⟨p.ord,p.outs.map (PZ gone)⟩
variable {g:Gr} {p:Pl} {gone:List Int}
def Tk (gone:List Int) (t:It):It:=(Q2 gone t.1,t.2.1,t.2.2)
def Tl (gone:List Int) (l:List It):List It:=(l.filter fun t=>decide (t.1∉gone)).map (Tk gone)
theorem Dl (hr:aX g p):aY g (aE p 0)=0:=by
 have hm:=aj hr.1
 have hn:=aG hm
 refine Decidable.byContradiction fun hnz=> ?_
 obtain ⟨A,X,C,hrw,_,_,hX,_⟩:=bU hm (oJ g).tofG (hr.2.2 0 (by omega)) hnz
 obtain ⟨q,X0,e1,_⟩:=hX.fst
 rw [e1] at hrw
 simp at hrw
end Go.Ab
end
section
namespace Go.Ab
open Go.Proofs
set_option maxRecDepth 10000
theorem B2 {g:Gr} (hm:aL g=true) {f:Fr} (hi:fG g f) {x:Int} (hR:az g f x=true) (hn:aY g x≠0) (o:List Int):
 ∃a c,fu f.row=a++fu (aA g f x o).1.1++c∧fq x a∧fq x c∧uO x (fu (aA g f x o).1.1)∧(fu (aA g f x o).1.1).length=aY g x∧fu (aA g f x o).2.row=a++fu (aJ g x o)++c:=by
 obtain ⟨A,X,C,hr,hA,hC,hX,hc⟩:=bU hm hi hR hn
 have hx:=(aD hR).1
 have hmem:∀t∈X,t∈f.row:=fun t ht=>by rw [hr];simp [ht]
 have hiff:∀t∈X,(0≤t.1↔t.2.2=x):=fun t ht=>by
  have h1:=(hi.it t (hmem t ht)).head hm
  have h2:=hX.al t ht
  constructor
  ·intro h;rcases h2 with h2|h2
   ·exact h2
   ·exact absurd h2 (h1.1.1 h)
  ·intro h;exact h1.1.2 (by omega)
 rw [fH o hr hA hC hX]
 refine ⟨fu A,fu C,by rw [hr,mw,mw],rC hA,rC hC,fun t ht=> ?_, ?_,by simp only [mw]⟩
 ·obtain ⟨h1,h2⟩:=dN.1 ht
  exact (hiff t h1).1 h2
 ·rw [← hc,fu, ← List.countP_eq_length_filter]
  refine List.countP_congr fun t ht=> ?_
  simp only [iW,decide_eq_true_eq]
  exact hiff t ht
def mF (g:Gr) (p:Pl) (x:Int):List Int:=(fu ((gl g p g.n.toNat).getD x.toNat [])).map (·.1)
def oZ (g:Gr) (p:Pl) (f:Fr) (x:Int):List Int:=(fu (aA g f x (cj p x)).1.1).map (·.1)
def ug (g:Gr) (p:Pl):Nat→Fr→Prop
 |0,f=>(f.pl.length:Int)=g.n
 |m+1,f=>∃x,az g f x=true∧oZ g p f x=mF g p x∧ug g p m (qy g p f x)
theorem uh {g:Gr} {p:Pl} :∀ {m:Nat} {f f':Fr},f.row=f'.row→f.pl.Perm f'.pl→ug g p m f→ug g p m f'
 |0,f,f',_,hp,h=>by
  have h:(f.pl.length:Int)=g.n:=h
  show (f'.pl.length:Int)=g.n
  rw [← hp.length_eq];exact h
 |m+1,f,f',hr,hp,⟨x,h1,h3,h2⟩=>by
  refine ⟨x,by rw [← qw hr hp];exact h1, ?_,uh ?_ ?_ h2⟩
  ·simp only [oZ,aA,hr] at h3 ⊢;exact h3
  ·simp only [qy,aA,hr]
  ·exact hp.append_right _
theorem vC {g:Gr} (hc:(cg g).1=0) {p:Pl} (hp:bg g p):∀ {m:Nat} {f:Fr},xe g f→(f.pl.length:Int)+(m+1:Nat)=g.n→ug g p (m+1) f→∀ {x:Int},az g f x=true→oZ g p f x=mF g p x∧ug g p m (qy g p f x)
 |m,f,hi,hl,⟨y,qJ,No,hcan⟩,x,hR=>by
  have hm:=aj hc
  by_cases hxy:x=y
  ·subst hxy;exact ⟨No,hcan⟩
  have py:=bK hp (aD qJ).1 (aD qJ).2.1
  have px:=bK hp (aD hR).1 (aD hR).2.1
  have i2:=gB hm hi qJ py
  match m,hl,hcan with
  |0,hl,hcan=>
   exfalso
   have h1:=jQ i2.tofG (by show ((f.pl++ [y]).length:Int)=g.n;simp;omega) (x:=x) ⟨(aD hR).1,(aD hR).2.1⟩
   have h2:x∈f.pl++ [y]:=h1
   simp [(aD hR).2.2,hxy] at h2
  |m+1,hl,hcan=>
   obtain ⟨h4,h5,h6,h7,h8⟩:=vl hc hi hxy hR qJ px py
   obtain ⟨h9,h3⟩:=vC hc hp i2 (by show (((f.pl++ [y]).length:Nat):Int)+_=_;simp;omega) hcan h5
   refine ⟨?_,y,h4, ?_,uh h6.symm ?_ h3⟩
   ·unfold oZ at h9 ⊢;rw [h7];exact h9
   ·unfold oZ at No ⊢;rw [h8] at No;exact No
   show (f.pl++ [y]++ [x]).Perm (f.pl++ [x]++ [y])
   rw [List.append_assoc,List.append_assoc]
   exact List.Perm.append_left _ (List.Perm.swap ..)
theorem B3 {g:Gr} (hc:(cg g).1=0) {p:Pl} (hp:bg g p):∀ {m:Nat} {f:Fr},xe g f→ug g p m f→∀ {i:Nat},i<g.es.length→tl g i∈f.pl→hd g i∉f.pl→∃t∈f.row,t.1=(i:Int)
 |0,f,hi,h,i,hil,_,hh=>by
  have hr:=bw (aj hc) hil
  exact absurd (jQ hi.tofG h (x:=hd g i) hr) hh
 |m+1,f,hi,⟨x,hR,_,h⟩,i,hil,ht,hh=>by
  have hm:=aj hc
  have px:=bK hp (aD hR).1 (aD hR).2.1
  by_cases hx:hd g i=x
  ·obtain ⟨t,h1,h2,_⟩:=tL hm hi hR hil hx
   exact ⟨t,h1,h2⟩
  ·obtain ⟨t,h1,h2⟩:=B3 hc hp (gB hm hi hR px) h hil (List.mem_append.2 (.inl ht)) (fun h1=>by
    rcases List.mem_append.1 h1 with h1|h1
    ·exact hh h1
    ·exact hx (by simpa using h1))
   obtain ⟨A,X,C,hr,_,_,_,hs⟩:=eO hm hi.tofG hR
   rw [hs] at h1
   simp only [List.mem_append] at h1
   rcases h1 with (h1|h1)|h1
   ·exact ⟨t,by rw [hr];simp [h1],h2⟩
   ·rcases jP (fun i hi=>px.mem_iff.1 hi) h1 with ⟨h3,_⟩|⟨k,h3,h4,h5,_,h6,_⟩
    ·omega
    ·have:k=i:=by omega
     subst this
     exact absurd (h6 ▸ ht) (aD hR).2.2
   ·exact ⟨t,by rw [hr];simp [h1],h2⟩
def dW (g:Gr) (e:Int):Int:=(g.es.getD e.toNat (0,0)).1
def dI (g:Gr) (e:Int):Int:=(g.es.getD e.toNat (0,0)).2
def GJ (g:Gr) (x:Int):Prop:=0≤x∧x<g.n
instance {g:Gr} {x:Int} :Decidable (GJ g x):=inferInstanceAs (Decidable (0≤x∧x<g.n))
def uj (g:Gr) (p:Pl) (k:Nat) (W D:List Int):Prop:=∃f,xe g f∧f.pl=D∧W=(fu f.row).map (·.1)∧ug g p k f∧(D.length:Int)+k=g.n∧aE p 0∈D
def P3 (g:Gr) (p:Pl) (x:Int):Nat:=((zR g.n.toNat p.ord p.ord.length).getD x.toNat 0).toNat
def zf (g:Gr) (p:Pl):PS:=
 {m:=g.es.length,src:=aE p 0,L9:=aE p (g.n.toNat - 1),tl:=dW g,hd:=dI g,ins:=fun x=>if GJ g x then mF g p x else [],outs:=fun x=>if GJ g x then cj p x else [],Pq:=P3 g p,Row:=uj g p,k0:=g.n.toNat - 1}
theorem AO {g:Gr} {p:Pl} {x:Int} (h:GJ g x):(zf g p).ins x=mF g p x:=if_pos h
theorem HM {g:Gr} {p:Pl} {x:Int} (h:¬GJ g x):(zf g p).ins x= []:=if_neg h
theorem HN {g:Gr} {p:Pl} {x:Int} (h:GJ g x):(zf g p).outs x=cj p x:=if_pos h
theorem bE {f:Edge→Int} {es:List Edge} {x e:Int} :e∈aO f es es.length x↔(0≤e∧e<es.length)∧f (es.getD e.toNat (0,0))=x:=by
 refine ⟨ij,fun ⟨h1,h2⟩=> ?_⟩
 simp only [aO,List.mem_map,List.mem_filter,List.mem_range,decide_eq_true_eq]
 exact ⟨e.toNat,⟨by omega,h2⟩,by simp;omega⟩
section
variable {g:Gr} {p:Pl}
theorem xp (hm:aL g=true) {f:Fr} (hi:fG g f) {t:It} (ht:t∈fu f.row):(0≤t.1∧t.1<g.es.length)∧t.2.1=dW g t.1∧t.2.2=dI g t.1:=by
 obtain ⟨h1,h2⟩:=dN.1 ht
 rcases hi.it t h1 with h3|h3
 ·omega
 ·exact ⟨⟨h3.1,h3.2.1⟩,h3.2.2.1,h3.2.2.2⟩
theorem IF {f:Fr} (hi:xe g f):((fu f.row).map (·.1)).Nodup:=by
 refine List.pairwise_map.2 ?_
 have:=hi.once.filter (fun t:It=>decide (0≤t.1))
 refine List.Pairwise.imp_of_mem (fun {s t} hs ht h1=>h1 (dN.1 hs).2) this
theorem HO (hm:aL g=true) {f:Fr} (hi:xe g f) {x:Int} (hR:az g f x=true):(oZ g p f x).Nodup∧∀e,e∈oZ g p f x↔(0≤e∧e<g.es.length)∧dI g e=x:=by
 by_cases hn:aY g x=0
 ·have hno:=gj hm hi.tofG (aD hR).1 hn
  have e0:oZ g p f x= []:=by unfold oZ;rw [gi _ hno];rfl
  rw [e0]
  refine ⟨List.nodup_nil,fun e=>⟨fun h=>by (cases h),fun ⟨h1,h2⟩=> ?_⟩⟩
  have:=bE.2 ⟨h1,h2⟩
  have h3:aO (·.2) g.es g.es.length x= []:=List.eq_nil_of_length_eq_zero hn
  rw [h3] at this;cases this
 ·obtain ⟨a,c,e1,ha,hc,hX,hl,_⟩:=B2 hm hi.tofG hR hn (cj p x)
  have bV:=IF hi
  have hmem:∀t∈fu (aA g f x (cj p x)).1.1,t∈fu f.row:=fun t ht=>by rw [e1];simp [ht]
  rw [e1,List.map_append,List.map_append,List.nodup_append] at bV
  have Np:(oZ g p f x).Nodup:=(List.nodup_append.1 bV.1).2.1
  have hsub:∀e∈oZ g p f x,e∈aO (·.2) g.es g.es.length x:=fun e he=>by
   obtain ⟨t,ht,rfl⟩:=List.mem_map.1 he
   obtain ⟨h1,_,h3⟩:=xp hm hi.tofG (hmem t ht)
   exact bE.2 ⟨h1,by rw [← hX t ht,h3];rfl⟩
  have hlen:(aO (·.2) g.es g.es.length x).length=(oZ g p f x).length:=by
   unfold oZ;rw [List.length_map,hl];rfl
  exact ⟨Np,fun e=>⟨fun he=>bE.1 (hsub e he),fun he=>AL Np hsub hlen e (bE.2 he)⟩⟩
theorem HP (h:aX g p) {k:Nat} (hk:k<g.n.toNat):mF g p (aE p k)=oZ g p (fK g p k) (aE p k):=by
 unfold mF
 rw [xg h.2.1 (Nat.le_refl _) hk];rfl
theorem zg (h:aX g p) {x:Int} (hx:GJ g x):(mF g p x).Nodup∧∀e,e∈mF g p x↔(0≤e∧e<g.es.length)∧dI g e=x:=by
 obtain ⟨k,hk,rfl⟩:=fI h.2.1 hx.1 hx.2
 have hm:=aj h.1
 obtain ⟨hi,_,_⟩:=bX hm h.2.1 (k:=k) (by omega) fun j hj=>h.2.2 j (by omega)
 rw [HP h hk]
 exact HO hm hi (h.2.2 k hk)
theorem zh (h:aX g p) {x:Int} (hx:GJ g x):(mF g p x).length=aY g x:=by
 obtain ⟨h1,h2⟩:=zg h hx
 refine Nat.le_antisymm ?_ ?_
 ·exact l8 h1 fun e he=>bE.2 ((h2 e).1 he)
 ·exact l8 dG fun e he=>(h2 e).2 (bE.1 he)
theorem uj.nd {k:Nat} {W D:List Int} (h:uj g p k W D):W.Nodup:=by
 obtain ⟨f,hi,_,rfl,_⟩:=h;exact IF hi
theorem uj.mem (h:aX g p) {k:Nat} {W D:List Int} (hr:uj g p k W D) (e:Int):e∈W↔(0≤e∧e<g.es.length)∧dW g e∈D∧dI g e∉D:=by
 have hm:=aj h.1
 obtain ⟨f,hi,rfl,rfl,hc,_⟩:=hr
 constructor
 ·intro he
  obtain ⟨t,ht,rfl⟩:=List.mem_map.1 he
  obtain ⟨h1,h2,h3⟩:=xp hm hi.tofG ht
  obtain ⟨h4,h5⟩:=dN.1 ht
  exact ⟨h1,h2 ▸ hi.tail t h4 h5,h3 ▸ hi.head t h4 h5⟩
 ·rintro ⟨h1,h2,h3⟩
  obtain ⟨t,h4,h5⟩:=B3 h.1 h.2.1 hi hc (i:=e.toNat) (by omega) h2 h3
  exact List.mem_map.2 ⟨t,dN.2 ⟨h4,by omega⟩,by omega⟩
theorem uj.next (h:aX g p) {k:Nat} {W D:List Int} (hr:uj g p (k+1) W D):∃x A C,W=A++(zf g p).ins x++C∧(zf g p).ins x≠ []:=by
 have hm:=aj h.1
 obtain ⟨f,hi,rfl,rfl,⟨x,hR,hg,_⟩,_,hs⟩:=hr
 obtain ⟨x0,x1,x2⟩:=aD hR
 have hx:GJ g x:=⟨x0,x1⟩
 have hn:aY g x≠0:=fun h0=>by
  have:=kM h.1 (x:=x) (y:=aE p 0) hx (hi.mM _ hs) h0 (Dl h)
  exact x2 (this ▸ hs)
 obtain ⟨a,c,e1,_,_,_,hl,_⟩:=B2 hm hi.tofG hR hn (cj p x)
 refine ⟨x,a.map (·.1),c.map (·.1), ?_, ?_⟩
 ·rw [AO hx, ← hg,e1,List.map_append,List.map_append];rfl
 ·rw [AO hx]
  intro h0
  have:=zh h hx
  rw [h0] at this
  exact hn this.symm
theorem uj.step (h:aX g p) {k:Nat} {W D A C:List Int} {x:Int} (hr:uj g p k W D) (hW:W=A++(zf g p).ins x++C) (hI:(zf g p).ins x≠ []):∃k',k=k'+1∧uj g p k' (A++(zf g p).outs x++C) (D++ [x]):=by
 have hm:=aj h.1
 have hx:GJ g x:=Decidable.byContradiction fun h0=>hI (HM h0)
 have bV:=hr.nd
 have hmem:=uj.mem h hr
 rw [AO hx] at hW hI
 rw [HN hx]
 obtain ⟨i1,i2⟩:=zg h hx
 obtain ⟨e0,u0,Mb⟩:=wZ hI
 have Q3:x∉D:=by
  have h1:=(i2 e0).1 (by rw [Mb];simp)
  have h2:=(hmem e0).1 (by rw [hW,Mb];simp)
  rw [h1.2] at h2;exact h2.2.2
 obtain ⟨f,hi,rfl,Tm,hc,hD,hs⟩:=hr
 rw [Tm] at hW bV
 obtain ⟨l1,c,e1,e2,e3⟩:=List.map_eq_append_iff.1 hW
 obtain ⟨a,X,e4,e5,e6⟩:=List.map_eq_append_iff.1 e2
 have hrow:fu f.row=a++X++c:=by rw [e1,e4]
 rw [hrow,List.map_append,List.map_append,e5,e6,e3] at bV
 have hit:∀t∈a++X++c,(0≤t.1∧t.1<g.es.length)∧t.2.1=dW g t.1∧t.2.2=dI g t.1:=fun t ht=>xp hm hi.tofG (by rw [hrow];exact ht)
 have hX:uO x X:=fun t ht=>by
  have h1:t.1∈mF g p x:=by rw [← e6];exact List.mem_map_of_mem ht
  rw [(hit t (by simp [ht])).2.2,((i2 _).1 h1).2]
 have hin:∀t∈a++X++c,t.2.2=x→t.1∈mF g p x:=fun t ht e=>by
  obtain ⟨h1,_,h3⟩:=hit t ht
  exact (i2 _).2 ⟨h1,by rw [← h3,e]⟩
 have ha:fq x a:=fun t ht e=>by
  have h1:=hin t (by simp [ht]) e
  have h2:t.1∈A:=by rw [← e5];exact List.mem_map_of_mem ht
  exact (List.nodup_append.1 (List.nodup_append.1 bV).1).2.2 _ h2 _ h1 rfl
 have Q4:fq x c:=fun t ht e=>by
  have h1:=hin t (by simp [ht]) e
  have h2:t.1∈C:=by rw [← e3];exact List.mem_map_of_mem ht
  exact (List.nodup_append.1 bV).2.2 _ (List.mem_append.2 (.inr h1)) _ h2 rfl
 have Pz:X.length=aY g x:=by rw [← zh h hx, ← e6,List.length_map]
 have nX:X≠ []:=fun h0=>hI (by rw [← e6,h0];rfl)
 have hR:=za hm hi.tofG hx.1 hx.2 Q3 hrow ha Q4 hX nX Pz
 have hn:aY g x≠0:=fun h0=>nX (List.eq_nil_of_length_eq_zero (Pz.trans h0))
 have px:=bK h.2.1 hx.1 hx.2
 cases k with
 |zero=>exact absurd (jQ hi.tofG (by omega) hx) Q3
 |succ k=>
  refine ⟨k,rfl,qy g p f x,gB hm hi hR px,rfl, ?_,(vC h.1 h.2.1 hi (by omega) hc hR).2, ?_,List.mem_append.2 (.inl hs)⟩
  ·have:=B1 hm hi.tofG hR hn hrow ha Q4 hX nX (cj p x)
   show _=(fu (aA g f x (cj p x)).2.row).map (·.1)
   rw [this,List.map_append,List.map_append,e5,e3,qb (fun i hi=>by
    have:=bE.1 (px.mem_iff.1 hi);exact this.1.1),List.map_map]
   have e7:((fun t:It=>t.1) ∘ fQ g x)=id:=rfl
   rw [e7,List.map_id]
  ·show (((f.pl++ [x]).length:Nat):Int)+_=_
   rw [List.length_append,List.length_singleton];omega
end
end Go.Ab
end
section
namespace Go.Ab
open Go.Proofs
set_option maxRecDepth 10000
structure jV (g:Gr) (p:Pl) (k:Nat) (e:Int):Prop where
 e0:0≤e
 e1:e<g.es.length
 low:dW g e∈p.ord.take k
 top:dI g e∉p.ord.take k
structure F5 (g:Gr) (p:Pl) (L:Nat→Int→Int→Prop):Prop where
 up:∀e:Int,0≤e→e<g.es.length→∀k,k<g.n.toNat→aE p k=dI g e→dW g e∈p.ord.take k
 Tn:∀k,k<g.n.toNat→∀a b c:Int,jV g p k a→jV g p k b→jV g p k c→dI g a=aE p k→dI g c=aE p k→L k a b→L k b c→dI g b=aE p k
 keep:∀k,k<g.n.toNat→∀a b:Int,jV g p k a→jV g p k b→dI g a≠aE p k→dI g b≠aE p k→L k a b→L (k+1) a b
 left:∀k,k<g.n.toNat→∀a b c:Int,jV g p k a→jV g p k b→dI g a≠aE p k→dI g b=aE p k→c∈cj p (aE p k)→L k a b→L (k+1) a c
 right:∀k,k<g.n.toNat→∀a b c:Int,jV g p k a→jV g p k b→dI g a≠aE p k→dI g b=aE p k→c∈cj p (aE p k)→L k b a→L (k+1) c a
 outs:∀k,k<g.n.toNat→(cj p (aE p k)).Pairwise (L (k+1))
theorem vD {α:Type} (P:α→Prop) [DecidablePred P]:∀l:List α,∃X v,l=X++v∧(∀t∈X,P t)∧(v= []∨∃b v',v=b::v'∧¬P b)
 | []=>⟨[], [],rfl,by simp, .inl rfl⟩
 |a::l=>by
  by_cases h:P a
  ·obtain ⟨X,v,e,h1,h2⟩:=vD P l
   exact ⟨a::X,v,by simp [e],fun t ht=>(List.mem_cons.1 ht).elim (fun e=>e ▸ h) (h1 t),h2⟩
  ·exact ⟨[],a::l,rfl,by simp, .inr ⟨a,l,rfl,h⟩⟩
theorem vE {α:Type} {P:α→Prop} [DecidablePred P] {R:α→α→Prop} :∀ {l:List α},l.Pairwise R→(∀a b c,a∈l→b∈l→c∈l→P a→P c→R a b→R b c→P b)→(∃a∈l,P a)→
 ∃u X v,l=u++X++v∧(∀t∈u,¬P t)∧(∀t∈X,P t)∧X≠ []∧∀t∈v,¬P t
 | [],_,_,⟨a,ha,_⟩=>by cases ha
 |t::l,hp,hb,hex=>by
  obtain ⟨hp1,hp2⟩:=List.pairwise_cons.1 hp
  by_cases h:P t
  ·obtain ⟨X,v,e,h1,h2⟩:=vD P l
   refine ⟨[],t::X,v,by simp [e],by simp,fun s hs=>(List.mem_cons.1 hs).elim (fun e=>e ▸ h) (h1 s),by simp,fun c hc Q5=> ?_⟩
   rcases h2 with rfl|⟨b,v',rfl,hnb⟩
   ·cases hc
   ·have hb1:b∈l:=by rw [e];simp
    rcases List.mem_cons.1 hc with rfl|qC
    ·exact hnb Q5
    ·have hbc:R b c:=by
      rw [e] at hp2
      have:=(List.pairwise_append.1 hp2).2.1
      exact (List.pairwise_cons.1 this).1 c qC
     exact hnb (hb t b c (by simp) (by simp [hb1]) (by rw [e];simp [qC]) h Q5 (hp1 b hb1) hbc)
  ·obtain ⟨a,ha,hPa⟩:=hex
   have Ir:a∈l:=(List.mem_cons.1 ha).elim (fun e=>absurd (e ▸ hPa) h) id
   obtain ⟨u,X,v,e,h1,h2,h3,h4⟩:=vE hp2 (fun a b c ha hb' hc=>hb a b c (by simp [ha]) (by simp [hb']) (by simp [hc])) ⟨a,Ir,hPa⟩
   exact ⟨t::u,X,v,by simp [e],fun s hs=>(List.mem_cons.1 hs).elim (fun e=>e ▸ h) (h1 s),h2,h3,h4⟩
theorem jW {p:Pl} {k:Nat} {y:Int} (h:y∈p.ord.take k):∃j,j<k∧j<p.ord.length∧aE p j=y:=by
 obtain ⟨j,hj,e⟩:=List.mem_iff_getElem.1 h
 simp only [List.length_take] at hj
 refine ⟨j,by omega,by omega, ?_⟩
 rw [aE,List.getD_eq_getElem?_getD,List.getElem?_eq_getElem (by omega),Option.getD_some, ← e,List.getElem_take]
theorem vF {p:Pl} {k j:Nat} (h1:j<k) (h2:j<p.ord.length):aE p j∈p.ord.take k:=by
 rw [aE,List.getD_eq_getElem?_getD,List.getElem?_eq_getElem h2,Option.getD_some]
 exact List.mem_iff_getElem.2 ⟨j,by simp;omega,by simp⟩
theorem vG {g:Gr} {p:Pl} (hp:bg g p) {k:Nat} (hk:k<g.n.toNat):aE p k∉p.ord.take k:=fun h=>by
 obtain ⟨j,h1,h2,h3⟩:=jW h
 have:=kN hp (i:=j) (j:=k) (by omega) hk h3
 omega
theorem gn {g:Gr} {p:Pl} (hp:bg g p) {k:Nat} (hk:k<g.n.toNat):p.ord.take (k+1)=p.ord.take k++ [aE p k]:=by
 rw [List.take_add_one,List.getElem?_eq_getElem (by rw [aP hp];exact hk),aE,List.getD_eq_getElem?_getD,List.getElem?_eq_getElem (by rw [aP hp];exact hk)]
 rfl
section
variable {g:Gr} {p:Pl}
theorem jh (hm:aL g=true) {f:Fr} (hi:xe g f) {k:Nat} (cx:f.pl=p.ord.take k) {t:It} (ht:t∈fu f.row):jV g p k t.1∧dW g t.1=t.2.1∧dI g t.1=t.2.2:=by
 obtain ⟨h1,h2⟩:=dN.1 ht
 rcases hi.it t h1 with h|⟨_,g2,g3,g4⟩
 ·omega
 ·refine ⟨⟨h2,g2, ?_, ?_⟩,g3.symm,g4.symm⟩
  ·rw [← cx];unfold dW;rw [← g3];exact hi.tail t h1 h2
  ·rw [← cx];unfold dI;rw [← g4];exact hi.head t h1 h2
theorem zi (hc:(cg g).1=0) (hp:bg g p) {L:Nat→Int→Int→Prop} (hL:F5 g p L):∀ {k:Nat},k≤g.n.toNat→
 (∀j,j<k→qx g p j=true)∧((fu (fK g p k).row).Pairwise fun s t=>L k s.1 t.1)∧∀e,jV g p k e→∃t∈(fK g p k).row,t.1=e
 |0,_=>⟨fun j hj=>by omega,by simp [fK,fu],fun e he=>by have:=he.low;simp at this⟩
 |k+1,hk=>by
  have hm:=aj hc
  obtain ⟨ih1,ih2,ih3⟩:=zi hc hp hL (k:=k) (by omega)
  obtain ⟨hi,cx,_⟩:=bX hm hp (k:=k) (by omega) ih1
  obtain ⟨x0,x1⟩:=bB hp (k:=k) (by omega)
  have hnew:=vG hp (k:=k) (by omega)
  have hnext:=gn hp (k:=k) (by omega)
  have hpx:=bK hp x0 x1
  have hout:∀i∈cj p (aE p k),(0≤i∧i<g.es.length)∧dW g i=aE p k:=fun i hi=>bE.1 (hpx.mem_iff.1 hi)
  have Ad:=hL.outs k (by omega)
  have zj:fK g p (k+1)=(aA g (fK g p k) (aE p k) (cj p (aE p k))).2:=rfl
  have hab:=qb (g:=g) (x:=aE p k) (o:=cj p (aE p k)) fun i hi=>(hout i hi).1.1
  have fin:∀a X c:List It,qx g p k=true→fu (fK g p k).row=a++X++c→fq (aE p k) a→fq (aE p k) c→uO (aE p k) X→(X≠ []∨a++c= [])→fu (fK g p (k+1)).row=a++fu (aJ g (aE p k) (cj p (aE p k)))++c→
   (∀j,j<k+1→qx g p j=true)∧((fu (fK g p (k+1)).row).Pairwise fun s t=>L (k+1) s.1 t.1)∧∀e,jV g p (k+1) e→∃t∈(fK g p (k+1)).row,t.1=e:=by
   intro a X c hR e ha qC hX Dm hs
   refine ⟨fun j hj=> ?_, ?_,fun q hq=> ?_⟩
   ·by_cases h:j=k
    ·subst h;exact hR
    ·exact ih1 j (by omega)
   ·have hma:∀t∈a,t∈fu (fK g p k).row:=fun t ht=>by rw [e];simp [ht]
    have Nq:∀t∈X,t∈fu (fK g p k).row:=fun t ht=>by rw [e];simp [ht]
    have IE:∀t∈c,t∈fu (fK g p k).row:=fun t ht=>by rw [e];simp [ht]
    have B4:=fun t ht=>jh (p:=p) hm hi cx (t:=t) ht
    rw [e,List.pairwise_append,List.pairwise_append] at ih2
    obtain ⟨⟨pa,pX,Tp⟩,pc,Mz⟩:=ih2
    have hne:∀t,t∈a∨t∈c→dI g t.1≠aE p k:=fun t ht=>by
     rcases ht with ht|ht
     ·rw [(B4 t (hma t ht)).2.2];exact ha t ht
     ·rw [(B4 t (IE t ht)).2.2];exact qC t ht
    rw [hs,hab,List.pairwise_append,List.pairwise_append]
    refine ⟨⟨?_, ?_, ?_⟩, ?_, ?_⟩
    ·exact pa.imp_of_mem fun {s t} hs' ht' h=>hL.keep k (by omega) _ _ (B4 s (hma s hs')).1 (B4 t (hma t ht')).1 (hne s (.inl hs')) (hne t (.inl ht')) h
    ·rw [List.pairwise_map];exact Ad
    ·intro s hs' t ht'
     obtain ⟨i,hi',rfl⟩:=List.mem_map.1 ht'
     rcases Dm with Dm|h0
     ·obtain ⟨y,Y,rfl⟩:∃y Y,X=y::Y:=by
       cases X with
       |nil=>exact absurd rfl Dm
       |cons y Y=>exact ⟨y,Y,rfl⟩
      exact hL.left k (by omega) s.1 y.1 i (B4 s (hma s hs')).1 (B4 y (Nq y (by simp))).1 (hne s (.inl hs')) (by rw [(B4 y (Nq y (by simp))).2.2];exact hX y (by simp)) hi' (Tp s hs' y (by simp))
     ·rw [(List.append_eq_nil_iff.1 h0).1] at hs';cases hs'
    ·exact pc.imp_of_mem fun {s t} hs' ht' h=>hL.keep k (by omega) _ _ (B4 s (IE s hs')).1 (B4 t (IE t ht')).1 (hne s (.inr hs')) (hne t (.inr ht')) h
    ·intro s hs' t ht'
     rcases List.mem_append.1 hs' with hs1|hs1
     ·exact hL.keep k (by omega) _ _ (B4 s (hma s hs1)).1 (B4 t (IE t ht')).1 (hne s (.inl hs1)) (hne t (.inr ht')) (Mz s (by simp [hs1]) t ht')
     ·obtain ⟨i,hi',rfl⟩:=List.mem_map.1 hs1
      rcases Dm with Dm|h0
      ·obtain ⟨y,Y,rfl⟩:∃y Y,X=y::Y:=by
        cases X with
        |nil=>exact absurd rfl Dm
        |cons y Y=>exact ⟨y,Y,rfl⟩
       exact hL.right k (by omega) t.1 y.1 i (B4 t (IE t ht')).1 (B4 y (Nq y (by simp))).1 (hne t (.inr ht')) (by rw [(B4 y (Nq y (by simp))).2.2];exact hX y (by simp)) hi' (Mz y (by simp) t ht')
      ·rw [(List.append_eq_nil_iff.1 h0).2] at ht';cases ht'
   ·have Kk:∃t∈fu (fK g p (k+1)).row,t.1=q:=by
     have hl:=hq.low
     rw [hnext,List.mem_append,List.mem_singleton] at hl
     have ht:=hq.top
     rw [hnext,List.mem_append,List.mem_singleton] at ht
     rw [hs]
     rcases hl with hl|hl
     ·obtain ⟨t,ht1,ht2⟩:=ih3 q ⟨hq.e0,hq.e1,hl,fun h=>ht (.inl h)⟩
      have hte:t∈fu (fK g p k).row:=dN.2 ⟨ht1,by rw [ht2];exact hq.e0⟩
      have hh:=(jh (p:=p) hm hi cx hte).2.2
      have gN:=hte
      rw [e,List.mem_append,List.mem_append] at gN
      rcases gN with (h1|h1)|h1
      ·exact ⟨t,by simp [h1],ht2⟩
      ·exact absurd (by rw [← ht2,hh];exact hX t h1) fun h=>ht (.inr h)
      ·exact ⟨t,by simp [h1],ht2⟩
     ·refine ⟨fQ g (aE p k) q, ?_,rfl⟩
      rw [hab,List.mem_append,List.mem_append]
      exact .inl (.inr (List.mem_map.2 ⟨q,hpx.mem_iff.2 (bE.2 ⟨⟨hq.e0,hq.e1⟩,hl⟩),rfl⟩))
    obtain ⟨t,h1,h2⟩:=Kk
    exact ⟨t,(dN.1 h1).1,h2⟩
  by_cases hn:aY g (aE p k)=0
  ·have hno:=gj hm hi.tofG x0 hn
   have hR:qx g p k=true:=by
    show az g (fK g p k) (aE p k)=true
    unfold az
    rw [if_neg (by rintro (h|h|h);omega;omega;exact hnew (cx ▸ h)),if_pos hn]
   have hrow:(fK g p k).row= []:=by
    rcases hi.src with h|⟨s,hs,hs0⟩
    ·exact h.2
    ·have:=kM hc (hi.mM s hs) ⟨x0,x1⟩ hs0 hn
     exact absurd (by rw [← cx, ← this];exact hs) hnew
   refine fin [] [] [] hR (by rw [hrow];rfl) (fun t ht=>by cases ht) (fun t ht=>by cases ht) (fun t ht=>by cases ht) (.inr rfl) ?_
   rw [zj,gi _ hno,hrow]
   simp
  ·have hex:∃e,e∈aO (·.2) g.es g.es.length (aE p k):=by
    cases h:aO (·.2) g.es g.es.length (aE p k) with
    |nil=>exact absurd (by unfold aY;rw [h];rfl) hn
    |cons e l=>exact ⟨e,by simp⟩
   have MA:∀e,e∈aO (·.2) g.es g.es.length (aE p k)→∃t∈fu (fK g p k).row,t.1=e∧t.2.2=aE p k:=fun e he=>by
    obtain ⟨⟨e0,e1⟩,e2⟩:=bE.1 he
    obtain ⟨t,ht1,ht2⟩:=ih3 e ⟨e0,e1,hL.up e e0 e1 k (by omega) e2.symm,by rw [show dI g e=aE p k from e2];exact hnew⟩
    have hte:t∈fu (fK g p k).row:=dN.2 ⟨ht1,by rw [ht2];exact e0⟩
    exact ⟨t,hte,ht2,by rw [← (jh (p:=p) hm hi cx hte).2.2,ht2];exact e2⟩
   obtain ⟨e,he⟩:=hex
   obtain ⟨t0,HQ,_,P4⟩:=MA e he
   obtain ⟨a,X,c,hE,ha,hX,nX,qC⟩:=vE (P:=fun t:It=>t.2.2=aE p k) ih2 (fun a b c ma mb mc ea ec r1 r2=>by
    have ca:=jh (p:=p) hm hi cx ma
    have cb:=jh (p:=p) hm hi cx mb
    have cc:=jh (p:=p) hm hi cx mc
    rw [← cb.2.2]
    exact hL.Tn k (by omega) a.1 b.1 c.1 ca.1 cb.1 cc.1 (by rw [ca.2.2];exact ea) (by rw [cc.2.2];exact ec) r1 r2) ⟨t0,HQ,P4⟩
   have hlen:X.length=aY g (aE p k):=by
    have bV:((fu (fK g p k).row).map (·.1)).Nodup:=by
     rw [List.Nodup,List.pairwise_map]
     exact (hi.once.filter _).imp_of_mem fun {s t} hs ht h=>h (dN.1 hs).2
    have P5:(X.map (·.1)).Nodup:=by
     rw [hE,List.map_append,List.map_append] at bV
     exact (List.nodup_append.1 (List.nodup_append.1 bV).1).2.1
    have BO:(X.map (·.1)).Perm (aO (·.2) g.es g.es.length (aE p k)):=by
     refine (List.perm_ext_iff_of_nodup P5 dG).2 fun e=>⟨fun h=> ?_,fun h=> ?_⟩
     ·obtain ⟨t,ht,rfl⟩:=List.mem_map.1 h
      have hte:t∈fu (fK g p k).row:=by rw [hE];simp [ht]
      have ct:=jh (p:=p) hm hi cx hte
      exact bE.2 ⟨⟨ct.1.e0,ct.1.e1⟩,(show dI g t.1=_ by rw [ct.2.2];exact hX t ht)⟩
     ·obtain ⟨t,ht,h1,h2⟩:=MA e h
      rw [hE,List.mem_append,List.mem_append] at ht
      rcases ht with (h3|h3)|h3
      ·exact absurd h2 (ha t h3)
      ·exact List.mem_map.2 ⟨t,h3,h1⟩
      ·exact absurd h2 (qC t h3)
    have:=BO.length_eq
    rw [List.length_map] at this
    exact this
   have hR:qx g p k=true:=za hm hi.tofG x0 x1 (by rw [cx];exact hnew) hE ha qC hX nX hlen
   exact fin a X c hR hE ha qC hX (.inl nX) (by rw [zj];exact B1 hm hi.tofG hR hn hE ha qC hX nX _)
theorem Dn (hc:(cg g).1=0) (hp:bg g p) {L:Nat→Int→Int→Prop} (hL:F5 g p L):aX g p:=
 ⟨hc,hp,fun k hk=>(zi hc hp hL (k:=k+1) (by omega)).1 k (by omega)⟩
end
end Go.Ab
end
section
namespace Go.Ab
open Go.Proofs
set_option maxRecDepth 10000
set_option linter.unusedSectionVars false
def B5 (lt:Int→Int→Bool) (us:List Int):Nat→Int
 |0=> -1
 |k+1=>if (!decide ((k:Int)∈us))&&(decide (B5 lt us k<0)||lt k (B5 lt us k)) then k else B5 lt us k
def MB (lt:Int→Int→Bool) (n:Nat):Nat→List Int
 |0=> []
 |j+1=>MB lt n j++ [B5 lt (MB lt n j) n]
def Tq (lt:Int→Int→Bool) (u v:Int):Prop:=lt u v=true∧lt v u=false
section
variable {lt:Int→Int→Bool} {n:Nat} {ord:List Int} (hp:ord.Perm (dx n)) (hs:ord.Pairwise (Tq lt))
include hp hs
end
def IG (sw:Int→Int→Bool):Int→List Int→Int × List Int
 |a, []=>(a, [])
 |a,c::r=>if sw a c then ((IG sw c r).1,a::(IG sw c r).2) else ((IG sw a r).1,c::(IG sw a r).2)
def Q6 (sw:Int→Int→Bool):Nat→List Int→List Int
 |0,l=>l
 |_+1, []=> []
 |n+1,a::r=>(IG sw a r).1::Q6 sw n (IG sw a r).2
section
variable {sw:Int→Int→Bool} {R:Int→Int→Prop} {S:Int→Prop} (htr:∀a b c,S a→S b→S c→R a b→R b c→R a c) (hsw:∀a c,S a→S c→a≠c→if sw a c=true then R c a else R a c)
include htr hsw
end
theorem Dp {R:Int→Int→Prop} {l m:List Int} (hp:l.Perm m) (ha:∀a b,R a b→R b a→False) (h1:l.Pairwise R) (h2:m.Pairwise R):l=m:=by
 induction l generalizing m with
 |nil=>exact hp.symm.eq_nil.symm
 |cons a l ih=>
  cases m with
  |nil=>exact absurd hp.length_eq (by simp)
  |cons b m=>
   obtain ⟨a1,a2⟩:=List.pairwise_cons.1 h1
   obtain ⟨b1,b2⟩:=List.pairwise_cons.1 h2
   have hab:a=b:=by
    refine Decidable.byContradiction fun hne=> ?_
    have ma:a∈b::m:=hp.mem_iff.1 (by simp)
    have mb:b∈a::l:=hp.mem_iff.2 (by simp)
    have ma:a∈m:=(List.mem_cons.1 ma).elim (fun e=>absurd e hne) id
    have mb:b∈l:=(List.mem_cons.1 mb).elim (fun e=>absurd e.symm hne) id
    exact ha a b (a1 b mb) (b1 a ma)
   subst hab
   rw [ih ((List.perm_cons a).1 hp) a2 b2]
def U2 (sw:Int→Int→Bool) (a:Int) (done todo:List Int):List Int:=(IG sw a todo).1::Q6 sw (done.length+todo.length) (done++(IG sw a todo).2)
end Go.Ab
end
section
namespace Go.Ab
open Go.Proofs
set_option maxRecDepth 10000
set_option linter.unusedSectionVars false
theorem eo:∀ {l:List Int} {i:Nat},l.Nodup→i<l.length→l.idxOf (l.getD i 0)=i
 | [],i,_,h=>by simp at h
 |a::l,0,_,_=>by simp
 |a::l,i+1,hn,h=>by
  obtain ⟨h1,h2⟩:=List.nodup_cons.1 hn
  have hi:i<l.length:=by simpa using h
  have e:(a::l).getD (i+1) 0=l.getD i 0:=rfl
  have hm:l.getD i 0∈l:=aU hi
  have hne:(a==l.getD i 0)=false:=by
   rw [beq_eq_false_iff_ne];intro e2;exact h1 (e2 ▸ hm)
  rw [e,List.idxOf_cons,hne,cond_false,eo h2 hi]
theorem kO {l:List Int} {u:Int} (h:u∈l):l.idxOf u<l.length∧l.getD (l.idxOf u) 0=u:=by
 have h1:=List.idxOf_lt_length_iff.2 h
 refine ⟨h1, ?_⟩
 rw [List.getD_eq_getElem?_getD,List.getElem?_eq_getElem h1,Option.getD_some]
 exact List.getElem_idxOf h1
theorem xq {A B:List Int} {u:Int} :(A++B).idxOf u=if u∈A then A.idxOf u else A.length+B.idxOf u:=by
 rw [List.idxOf_append];split<;>omega
section
variable {g:Gr} {p:Pl}
def uk (g:Gr) (p:Pl) (c:Nat):List Int:=(fu (fK g p c).row).map (·.1)
theorem ji (h:aX g p) {c:Nat} (hc:c≤g.n.toNat):(uk g p c).Nodup:=by
 obtain ⟨hi,_,_⟩:=bX (aj h.1) h.2.1 hc fun j hj=>h.2.2 j (by omega)
 rw [uk,List.Nodup,List.pairwise_map]
 exact (hi.once.filter _).imp_of_mem fun {s t} hs ht h=>h (dN.1 hs).2
theorem iw (h:aX g p) {c:Nat} (hc:c<g.n.toNat):∃A X C,uk g p c=A++X++C∧(∀e∈A,dI g e≠aE p c)∧(∀e∈X,dI g e=aE p c)∧(∀e∈C,dI g e≠aE p c)∧uk g p (c+1)=A++cj p (aE p c)++C:=by
 have hm:=aj h.1
 obtain ⟨hi,cx,_⟩:=bX hm h.2.1 (k:=c) (by omega) fun j hj=>h.2.2 j (by omega)
 obtain ⟨x0,x1⟩:=bB h.2.1 hc
 have hR:az g (fK g p c) (aE p c)=true:=h.2.2 c hc
 have hpx:=bK h.2.1 x0 x1
 have hab:=qb (g:=g) (x:=aE p c) (o:=cj p (aE p c)) fun i hi=>(bE.1 (hpx.mem_iff.1 hi)).1.1
 have hmap:(fu (aJ g (aE p c) (cj p (aE p c)))).map (·.1)=cj p (aE p c):=by
  rw [hab,List.map_map]
  have e7:((fun t:It=>t.1) ∘ fQ g (aE p c))=id:=rfl
  rw [e7,List.map_id]
 have hd:∀t∈fu (fK g p c).row,dI g t.1=t.2.2:=fun t ht=>(jh (p:=p) hm hi cx ht).2.2
 have zj:fK g p (c+1)=(aA g (fK g p c) (aE p c) (cj p (aE p c))).2:=rfl
 by_cases hn:aY g (aE p c)=0
 ·have hno:=gj hm hi.tofG x0 hn
  have hrow:(fK g p c).row= []:=by
   rcases hi.src with h|⟨s,hs,hs0⟩
   ·exact h.2
   ·have:=kM h.1 (hi.mM s hs) ⟨x0,x1⟩ hs0 hn
    exact absurd (by rw [← cx, ← this];exact hs) (vG h.2.1 hc)
  refine ⟨[], [], [],by simp [uk,hrow,fu],by simp,by simp,by simp, ?_⟩
  rw [uk,zj,gi _ hno,hrow]
  simpa using hmap
 ·obtain ⟨a,X,b,e,ha,hb,hX,_,hs⟩:=yZ hm hi.tofG hR hn
  refine ⟨a.map (·.1),X.map (·.1),b.map (·.1),by rw [uk,e,List.map_append,List.map_append], ?_, ?_, ?_, ?_⟩
  ·intro q hq
   obtain ⟨t,ht,rfl⟩:=List.mem_map.1 hq
   rw [hd t (by rw [e];simp [ht])];exact ha t ht
  ·intro q hq
   obtain ⟨t,ht,rfl⟩:=List.mem_map.1 hq
   rw [hd t (by rw [e];simp [ht])];exact hX t ht
  ·intro q hq
   obtain ⟨t,ht,rfl⟩:=List.mem_map.1 hq
   rw [hd t (by rw [e];simp [ht])];exact hb t ht
  ·rw [uk,zj,hs,List.map_append,List.map_append,hmap]
theorem zk (h:aX g p):∀ {c:Nat},c≤g.n.toNat→∀e,jV g p c e→e∈uk g p c
 |0,_,e,he=>by have:=he.low;simp at this
 |c+1,hc,e,he=>by
  obtain ⟨A,X,C,e1,hA,hX,hC,e2⟩:=iw h (c:=c) (by omega)
  have hnext:=gn h.2.1 (k:=c) (by omega)
  have hl:=he.low
  have ht:=he.top
  rw [hnext,List.mem_append,List.mem_singleton] at hl ht
  rw [e2]
  rcases hl with hl|hl
  ·have:=zk h (c:=c) (by omega) e ⟨he.e0,he.e1,hl,fun h=>ht (.inl h)⟩
   rw [e1,List.mem_append,List.mem_append] at this
   rcases this with (h1|h1)|h1
   ·simp [h1]
   ·exact absurd (hX e h1) fun h=>ht (.inr h)
   ·simp [h1]
  ·obtain ⟨x0,x1⟩:=bB h.2.1 (k:=c) (by omega)
   have:e∈cj p (aE p c):=(bK h.2.1 x0 x1).mem_iff.2 (bE.2 ⟨⟨he.e0,he.e1⟩,hl⟩)
   simp [this]
end
def uH (g:Gr) (bs:List Int) (i:Int):Int:=g.n+(bs.idxOf i:Nat)
def iX (g:Gr) (bs:List Int):List Edge:=
 ((List.range g.es.length).map fun i:Nat=>(tl g i,if (i:Int)∈bs then uH g bs i else hd g i))++(List.range bs.length).map fun k:Nat=>(g.n+(k:Int),dI g (bs.getD k 0))
def aI (g:Gr) (bs:List Int):Gr:=⟨g.n+bs.length,iX g bs⟩
structure xu (g:Gr) (bs:List Int):Prop where
 nd:bs.Nodup
 mM:∀i∈bs,0≤i∧i<g.es.length
section
variable {g:Gr} {bs:List Int}
theorem ew:(aI g bs).es.length=g.es.length+bs.length:=by simp [aI,iX]
theorem cF {e:Int} (h0:0≤e) (h1:e<g.es.length):dW (aI g bs) e=dW g e∧dI (aI g bs) e=if e∈bs then uH g bs e else dI g e:=by
 have hl:e.toNat<g.es.length:=by omega
 have:(aI g bs).es.getD e.toNat (0,0)=(tl g e.toNat,if ((e.toNat:Nat):Int)∈bs then uH g bs ((e.toNat:Nat):Int) else hd g e.toNat):=by
  simp only [aI,iX]
  rw [List.getD_eq_getElem?_getD,List.getElem?_append_left (by simpa using hl),List.getElem?_map,List.getElem?_range hl]
  rfl
 rw [show ((e.toNat:Nat):Int)=e by omega] at this
 exact ⟨by unfold dW;rw [this];rfl,by unfold dI;rw [this];rfl⟩
theorem gr {k:Nat} (h:k<bs.length):dW (aI g bs) ((g.es.length+k:Nat):Int)=g.n+(k:Int)∧dI (aI g bs) ((g.es.length+k:Nat):Int)=dI g (bs.getD k 0):=by
 have:(aI g bs).es.getD (g.es.length+k) (0,0)=(g.n+(k:Int),dI g (bs.getD k 0)):=by
  simp only [aI,iX]
  rw [List.getD_eq_getElem?_getD,List.getElem?_append_right (by simp),List.length_map,List.length_range,Nat.add_sub_cancel_left,List.getElem?_map,List.getElem?_range h]
  rfl
 exact ⟨by unfold dW;rw [Int.toNat_natCast,this],by unfold dI;rw [Int.toNat_natCast,this];rfl⟩
def AQ (g:Gr) (bs:List Int) (e:Int):Int:=if e<g.es.length then e else bs.getD (e - g.es.length).toNat 0
def Dq (g:Gr) (bs:List Int) (u:Int):Int:=if u<g.n then u else dW g (bs.getD (u - g.n).toNat 0)
theorem c7 (hb:xu g bs) {i:Int} (hi:i∈bs):g.n≤uH g bs i∧uH g bs i<g.n+bs.length∧Dq g bs (uH g bs i)=dW g i∧bs.getD (uH g bs i - g.n).toNat 0=i:=by
 obtain ⟨h1,h2⟩:=kO hi
 have e:(uH g bs i - g.n).toNat=bs.idxOf i:=by unfold uH;omega
 refine ⟨by unfold uH;omega,by unfold uH;omega, ?_,by rw [e,h2]⟩
 unfold Dq
 rw [if_neg (by unfold uH;omega),e,h2]
end
structure F6 (g:Gr) (p:Pl) (bs:List Int) (q:Pl):Prop where
 len:q.outs.length=(g.n+bs.length).toNat
 II:∀x:Nat,x<g.n.toNat→q.outs.getD x []=p.outs.getD x []
 F7:∀k:Nat,k<bs.length→q.outs.getD (g.n.toNat+k) []= [((g.es.length+k:Nat):Int)]
 perm:q.ord.Perm (dx (g.n+bs.length).toNat)
 sort:q.ord.Pairwise fun u v=>p.ord.idxOf (Dq g bs u)<p.ord.idxOf (Dq g bs v)∨Dq g bs u=Dq g bs v∧u<v
theorem qK {A B:List Int} {u:Int} (h:u∈A):(A++B).idxOf u=A.idxOf u∧A.idxOf u<A.length:=⟨by rw [xq,if_pos h],List.idxOf_lt_length_iff.2 h⟩
theorem gS {A B:List Int} {u:Int} (hn:(A++B).Nodup) (h:u∈B):(A++B).idxOf u=A.length+B.idxOf u∧B.idxOf u<B.length:=
 ⟨by rw [xq,if_neg fun ha=>(List.nodup_append.1 hn).2.2 u ha u h rfl],List.idxOf_lt_length_iff.2 h⟩
theorem um {g:Gr} {p:Pl} (h:aX g p) {e:Int} (h0:0≤e) (h1:e<g.es.length):p.ord.idxOf (dW g e)<p.ord.idxOf (dI g e):=by
 have hm:=aj h.1
 have bV:=cn h.2.1
 have hl:=aP h.2.1
 obtain ⟨k,hk,ek⟩:=fI h.2.1 (bw hm (i:=e.toNat) (by omega)).1 (bw hm (i:=e.toNat) (by omega)).2
 obtain ⟨hi,cx,_⟩:=bX hm h.2.1 (k:=k) (by omega) fun j hj=>h.2.2 j (by omega)
 obtain ⟨t,ht,e1,e2,_⟩:=tL hm hi (h.2.2 k hk) (i:=e.toNat) (by omega) ek.symm
 have hin:=hi.tail t ht (by omega)
 rw [cx,e2] at hin
 obtain ⟨j,j1,j2,j3⟩:=jW hin
 have a1:p.ord.idxOf (tl g e.toNat)=j:=by rw [← j3];exact eo bV j2
 have a2:p.ord.idxOf (hd g e.toNat)=k:=by rw [← ek];exact eo bV (by omega)
 show p.ord.idxOf (tl g e.toNat)<p.ord.idxOf (hd g e.toNat)
 omega
def Kx (g:Gr) (p:Pl) (bs:List Int) (u v:Int):Prop:=p.ord.idxOf (Dq g bs u)<p.ord.idxOf (Dq g bs v)∨Dq g bs u=Dq g bs v∧u<v
def fL (g:Gr) (q:Pl) (k:Nat):Nat:=((q.ord.take k).filter fun u=>decide (u<g.n)).length
section
variable {g:Gr} {p:Pl} {bs:List Int} {q:Pl} (h:aX g p) (hb:xu g bs) (hq:F6 g p bs q)
include h hb hq
theorem F8:(aI g bs).n.toNat=g.n.toNat+bs.length:=by
 have hn:=aG (aj h.1)
 show (g.n+(bs.length:Int)).toNat=_
 omega
theorem cI {e:Int} (h0:0≤e) (h1:e<(aI g bs).es.length):(e<g.es.length∧AQ g bs e=e)∨∃k:Nat,k<bs.length∧e=((g.es.length+k:Nat):Int)∧AQ g bs e=bs.getD k 0∧bs.getD k 0∈bs∧dW (aI g bs) e=uH g bs (bs.getD k 0):=by
 rw [ew] at h1
 by_cases hlt:e<g.es.length
 ·exact .inl ⟨hlt,if_pos hlt⟩
 ·refine .inr ⟨(e - g.es.length).toNat,by omega,by omega,by unfold AQ;rw [if_neg hlt],aU (by omega), ?_⟩
  have hk:(e - g.es.length).toNat<bs.length:=by omega
  have:=(gr (g:=g) hk).1
  rw [show ((g.es.length+(e - g.es.length).toNat:Nat):Int)=e by omega] at this
  rw [this]
  unfold uH
  rw [eo hb.nd hk]
theorem gT {u:Int} (hu:u<g.n):Dq g bs u=u:=if_pos hu
theorem iP:bg (aI g bs) q:=by
 have hm:=aj h.1
 have hn:=aG hm
 have hN:=F8 h hb hq
 refine ⟨by rw [hq.len];rfl,hq.perm,fun x hx=> ?_⟩
 rw [hN] at hx
 by_cases BF:x<g.n.toNat
 ·rw [hq.II x BF]
  have hp:=h.2.1.2.2 x BF
  refine (List.perm_ext_iff_of_nodup (hp.nodup_iff.2 dG) dG).2 fun e=> ?_
  rw [hp.mem_iff]
  show e∈aO (·.1) g.es g.es.length (x:Int)↔e∈aO (·.1) (aI g bs).es (aI g bs).es.length (x:Int)
  rw [bE,bE]
  constructor
  ·rintro ⟨⟨h0,h1⟩,h2⟩
   exact ⟨⟨h0,by rw [ew];omega⟩,(cF h0 h1).1.trans h2⟩
  ·rintro ⟨⟨h0,h1⟩,h2⟩
   rcases cI h hb hq h0 h1 with ⟨h3,_⟩|⟨k,h3,_,_,h4,h5⟩
   ·exact ⟨⟨h0,h3⟩,(cF h0 h3).1.symm.trans h2⟩
   ·have:=(c7 hb h4).1
    have h2:dW (aI g bs) e=x:=h2
    omega
 ·obtain ⟨k,rfl⟩:∃k,x=g.n.toNat+k:=⟨x - g.n.toNat,by omega⟩
  have hk:k<bs.length:=by omega
  rw [hq.F7 k hk]
  refine (List.perm_ext_iff_of_nodup (by simp) dG).2 fun e=> ?_
  rw [List.mem_singleton]
  show _↔e∈aO (·.1) (aI g bs).es (aI g bs).es.length ((g.n.toNat+k:Nat):Int)
  rw [bE]
  have hnew:=gr (g:=g) hk
  constructor
  ·rintro rfl
   exact ⟨⟨by omega,by rw [ew];omega⟩,by have:dW (aI g bs) ((g.es.length+k:Nat):Int)=((g.n.toNat+k:Nat):Int):=by {rw [hnew.1];omega};exact this⟩
  ·rintro ⟨⟨h0,h1⟩,h2⟩
   have h2:dW (aI g bs) e=((g.n.toNat+k:Nat):Int):=h2
   rcases cI h hb hq h0 h1 with ⟨h3,_⟩|⟨j,h3,h6,_,h4,h5⟩
   ·have:=(cF (bs:=bs) h0 h3).1
    have:=bn hm (i:=e.toNat) (by omega)
    have e3:dW g e=tl g e.toNat:=rfl
    omega
   ·unfold uH at h5
    rw [eo hb.nd h3] at h5
    have:j=k:=by omega
    rw [h6,this]
theorem IJ {e:Int} (h0:0≤e) (h1:e<(aI g bs).es.length):Kx g p bs (dW (aI g bs) e) (dI (aI g bs) e):=by
 have hm:=aj h.1
 have tr:=fun (i:Int) (a:0≤i) (b:i<g.es.length)=>show 0≤dW g i∧dW g i<g.n from bn hm (i:=i.toNat) (by omega)
 have hr:=fun (i:Int) (a:0≤i) (b:i<g.es.length)=>show 0≤dI g i∧dI g i<g.n from bw hm (i:=i.toNat) (by omega)
 rcases cI h hb hq h0 h1 with ⟨h3,_⟩|⟨k,h3,h6,_,h4,h5⟩
 ·obtain ⟨r1,r2⟩:=cF (g:=g) (bs:=bs) h0 h3
  rw [r1,r2]
  have t0:dW g e<g.n:=(tr e h0 h3).2
  by_cases hin:e∈bs
  ·rw [if_pos hin]
   obtain ⟨n1,_,n3,_⟩:=c7 hb hin
   exact .inr ⟨by rw [n3];exact gT h hb hq t0,by omega⟩
  ·rw [if_neg hin]
   left
   rw [gT h hb hq t0,gT h hb hq (hr e h0 h3).2]
   exact um h h0 h3
 ·rw [h5]
  obtain ⟨b0,b1⟩:=hb.mM _ h4
  obtain ⟨n1,_,n3,_⟩:=c7 hb h4
  have:=(gr (g:=g) h3).2
  rw [← h6] at this
  rw [this]
  left
  rw [n3,gT h hb hq (hr _ b0 b1).2]
  exact um h b0 b1
theorem JY {j k:Nat} (hj:j<k) (hk:k<(aI g bs).n.toNat):Kx g p bs (aE q j) (aE q k):=by
 have hl:=aP (iP h hb hq)
 have:=List.pairwise_iff_getElem.1 hq.sort j k (by omega) (by omega) hj
 rw [aE,aE,List.getD_eq_getElem?_getD,List.getD_eq_getElem?_getD,List.getElem?_eq_getElem (by omega),List.getElem?_eq_getElem (by omega)]
 exact this
theorem o5 {u:Int} (h0:0≤u) (h1:u<(aI g bs).n) {k:Nat} (hk:k<(aI g bs).n.toNat) (hR:Kx g p bs u (aE q k)):u∈q.ord.take k:=by
 obtain ⟨j,hj,rfl⟩:=fI (iP h hb hq) h0 h1
 refine vF (Decidable.byContradiction fun hn=> ?_) (by rw [aP (iP h hb hq)];exact hj)
 by_cases e:j=k
 ·subst e
  unfold Kx at hR;omega
 ·have h8:=JY h hb hq (j:=k) (k:=j) (by omega) hj
  unfold Kx at hR h8
  rcases hR with h9|⟨h9,QS⟩
  ·rcases h8 with Px|⟨Px,_⟩
   ·omega
   ·rw [Px] at h9;omega
  ·rw [h9] at h8;omega
theorem vH {u v:Int} (h0:0≤u) (h1:u<(aI g bs).n) {k:Nat} (hk:k≤(aI g bs).n.toNat) (hv:v∈q.ord.take k) (hR:Kx g p bs u v):u∈q.ord.take k:=by
 obtain ⟨j,j1,j2,rfl⟩:=jW hv
 obtain ⟨i,i1,i2,i3⟩:=jW (o5 h hb hq h0 h1 (k:=j) (by omega) hR)
 rw [← i3]
 exact vF (by omega) i2
theorem AS:(q.ord.filter fun u=>decide (u<g.n))=p.ord:=by
 have hn:=aG (aj h.1)
 have hN:=F8 h hb hq
 have bV:=cn h.2.1
 have hl:=aP h.2.1
 refine Dp (R:=fun u v=>p.ord.idxOf u<p.ord.idxOf v) ?_ (fun a b h1 h2=>by omega) ?_ ?_
 ·refine (List.perm_ext_iff_of_nodup ((cn (iP h hb hq)).filter _) bV).2 fun u=> ?_
  rw [List.mem_filter,hq.perm.mem_iff,h.2.1.2.1.mem_iff,cE,cE,decide_eq_true_eq]
  have e:(g.n+(bs.length:Int)).toNat=g.n.toNat+bs.length:=hN
  omega
 ·refine (hq.sort.filter _).imp_of_mem fun {u v} hu hv hR=> ?_
  have hu:=of_decide_eq_true (List.mem_filter.1 hu).2
  have hv:=of_decide_eq_true (List.mem_filter.1 hv).2
  rw [gT h hb hq hu,gT h hb hq hv] at hR
  omega
 ·rw [List.pairwise_iff_getElem]
  intro i j hi hj hij
  have a1:=eo bV hi
  have a2:=eo bV hj
  rw [List.getD_eq_getElem?_getD,List.getElem?_eq_getElem hi,Option.getD_some] at a1
  rw [List.getD_eq_getElem?_getD,List.getElem?_eq_getElem hj,Option.getD_some] at a2
  omega
theorem rD (k:Nat):((q.ord.take k).filter fun u=>decide (u<g.n))=p.ord.take (fL g q k):=by
 have hpre:((q.ord.take k).filter fun u=>decide (u<g.n))<+:(q.ord.filter fun u=>decide (u<g.n)):=(List.take_prefix k q.ord).filter _
 rw [AS h hb hq] at hpre
 exact List.prefix_iff_eq_take.1 hpre
theorem jj {u:Int} (hu:u<g.n) (k:Nat):u∈q.ord.take k↔u∈p.ord.take (fL g q k):=by
 rw [← rD h hb hq k,List.mem_filter]
 simp [hu]
theorem B6 (k:Nat):fL g q k≤g.n.toNat:=by
 have h1:((q.ord.take k).filter fun u=>decide (u<g.n)).length=(p.ord.take (fL g q k)).length:=by rw [rD h hb hq k]
 have h2:fL g q k=((q.ord.take k).filter fun u=>decide (u<g.n)).length:=rfl
 have hl:=aP h.2.1
 rw [List.length_take] at h1
 omega
theorem uo {k:Nat} (hk:k<(aI g bs).n.toNat) (hx:g.n≤aE q k):fL g q (k+1)=fL g q k:=by
 unfold fL
 rw [gn (iP h hb hq) hk,List.filter_append]
 simp [show ¬aE q k<g.n by omega]
theorem lN {k:Nat} (hk:k<(aI g bs).n.toNat) (hx:aE q k<g.n):fL g q (k+1)=fL g q k+1∧fL g q k<g.n.toNat∧aE p (fL g q k)=aE q k:=by
 have e1:fL g q (k+1)=fL g q k+1:=by
  unfold fL
  rw [gn (iP h hb hq) hk,List.filter_append]
  simp [hx]
 have hc:=B6 h hb hq (k+1)
 refine ⟨e1,by omega, ?_⟩
 have e2:=rD h hb hq (k+1)
 rw [gn (iP h hb hq) hk,List.filter_append,rD h hb hq k,e1,gn h.2.1 (by omega)] at e2
 have:=List.append_cancel_left e2
 simpa [hx] using this.symm
theorem F9 {k:Nat} (hk:k≤(aI g bs).n.toNat) {e:Int} (he:jV (aI g bs) q k e):jV g p (fL g q k) (AQ g bs e):=by
 have hm:=aj h.1
 have hn:=aG hm
 have tr:=fun (i:Int) (a:0≤i) (b:i<g.es.length)=>show 0≤dW g i∧dW g i<g.n from bn hm (i:=i.toNat) (by omega)
 have hr:=fun (i:Int) (a:0≤i) (b:i<g.es.length)=>show 0≤dI g i∧dI g i<g.n from bw hm (i:=i.toNat) (by omega)
 have hGn:(aI g bs).n=g.n+bs.length:=rfl
 have jl:=he.low
 have uP:=he.top
 rcases cI h hb hq he.e0 he.e1 with ⟨h3,h4⟩|⟨j,h3,h6,h7,h4,h5⟩
 ·obtain ⟨r1,r2⟩:=cF (g:=g) (bs:=bs) he.e0 h3
  rw [h4]
  rw [r1] at jl
  rw [r2] at uP
  refine ⟨he.e0,h3,(jj h hb hq (tr e he.e0 h3).2 k).1 jl,fun hc=> ?_⟩
  have hin:=(jj h hb hq (hr e he.e0 h3).2 k).2 hc
  by_cases qI:e∈bs
  ·rw [if_pos qI] at uP
   obtain ⟨n1,n2,n3,_⟩:=c7 hb qI
   refine uP (vH h hb hq (by omega) (by omega) hk hin (.inl ?_))
   rw [n3,gT h hb hq (hr e he.e0 h3).2]
   exact um h he.e0 h3
  ·rw [if_neg qI] at uP
   exact uP hin
 ·rw [h7]
  obtain ⟨b0,b1⟩:=hb.mM _ h4
  obtain ⟨n1,n2,n3,_⟩:=c7 hb h4
  have xw:=(gr (g:=g) h3).2
  rw [← h6] at xw
  rw [xw] at uP
  rw [h5] at jl
  have HQ:=tr _ b0 b1
  refine ⟨b0,b1,(jj h hb hq HQ.2 k).1 (vH h hb hq HQ.1 (by have:=HQ.2;omega) hk jl (.inr ⟨?_, ?_⟩)),fun hc=>uP ((jj h hb hq (hr _ b0 b1).2 k).2 hc)⟩
  ·rw [n3];exact gT h hb hq HQ.2
  ·have:=HQ.2;omega
theorem dO {k:Nat} (hk:k<(aI g bs).n.toNat) (hx:aE q k<g.n) {e:Int} (he:jV (aI g bs) q k e):dI g (AQ g bs e)=aE q k↔dI (aI g bs) e=aE q k:=by
 have hm:=aj h.1
 have hn:=aG hm
 have hr:=fun (i:Int) (a:0≤i) (b:i<g.es.length)=>show 0≤dI g i∧dI g i<g.n from bw hm (i:=i.toNat) (by omega)
 have hGn:(aI g bs).n=g.n+bs.length:=rfl
 rcases cI h hb hq he.e0 he.e1 with ⟨h3,h4⟩|⟨j,h3,h6,h7,h4,h5⟩
 ·obtain ⟨r1,r2⟩:=cF (g:=g) (bs:=bs) he.e0 h3
  rw [h4,r2]
  by_cases qI:e∈bs
  ·rw [if_pos qI]
   obtain ⟨n1,n2,n3,_⟩:=c7 hb qI
   constructor
   ·intro e2
    have uP:=he.top
    rw [r2,if_pos qI] at uP
    refine absurd (o5 h hb hq (by omega) (by omega) hk (.inl ?_)) uP
    rw [n3,gT h hb hq hx, ← e2]
    exact um h he.e0 h3
   ·intro e2;omega
  ·rw [if_neg qI]
 ·have xw:=(gr (g:=g) h3).2
  rw [← h6] at xw
  rw [h7,xw]
theorem Ga:F5 (aI g bs) q fun k a b=>(uk g p (fL g q k)).idxOf (AQ g bs a)<(uk g p (fL g q k)).idxOf (AQ g bs b):=by
 have hm:=aj h.1
 have hn:=aG hm
 have hGn:(aI g bs).n=g.n+bs.length:=rfl
 have qL:=iP h hb hq
 have mem:=fun (k:Nat) (hk:k≤(aI g bs).n.toNat) (e:Int) (he:jV (aI g bs) q k e)=>zk h (B6 h hb hq k) _ (F9 h hb hq hk he)
 have only:=fun (k:Nat) (hk:k<(aI g bs).n.toNat) (hx:g.n≤aE q k) (e:Int) (he:jV (aI g bs) q k e) (hd:dI (aI g bs) e=aE q k)=>show e∈bs∧uH g bs e=aE q k∧AQ g bs e=e by
  rcases cI h hb hq he.e0 he.e1 with ⟨h3,h4⟩|⟨j,h3,h6,h7,h4,h5⟩
  ·have r2:=(cF (g:=g) (bs:=bs) he.e0 h3).2
   rw [hd] at r2
   by_cases qI:e∈bs
   ·rw [if_pos qI] at r2
    exact ⟨qI,r2.symm,h4⟩
   ·rw [if_neg qI] at r2
    have h8:dI g e<g.n:=(bw hm (i:=e.toNat) (by have:=he.e0;omega)).2
    omega
  ·have xw:=(gr (g:=g) h3).2
   rw [← h6,hd] at xw
   obtain ⟨b0,b1⟩:=hb.mM _ h4
   have h8:dI g (bs.getD j 0)<g.n:=(bw hm (i:=(bs.getD j 0).toNat) (by omega)).2
   omega
 have same:=fun (k:Nat) (hk:k<(aI g bs).n.toNat) (hx:g.n≤aE q k) (e e':Int) (he:jV (aI g bs) q k e) (he':jV (aI g bs) q k e') (hd:dI (aI g bs) e=aE q k) (hd':dI (aI g bs) e'=aE q k)=>show e=e' by
  obtain ⟨a1,a2,_⟩:=only k hk hx e he hd
  obtain ⟨b1,b2,_⟩:=only k hk hx e' he' hd'
  have a3:=(c7 hb a1).2.2.2
  have b3:=(c7 hb b1).2.2.2
  rw [a2] at a3
  rw [b2] at b3
  rw [← a3,b3]
 have JZ:=fun (k:Nat) (hk:k<(aI g bs).n.toNat) (hx:aE q k<g.n)=>show cj q (aE q k)=cj p (aE q k) from hq.II _ (by have:=(bB qL hk).1;omega)
 have Nr:=fun (v e:Int) (h0:0≤v) (h1:v<g.n) (he:e∈cj p v)=>show AQ g bs e=e by
  have:=(bE.1 ((bK h.2.1 h0 h1).mem_iff.1 he)).1.2
  exact if_pos this
 have iY:=fun (k:Nat) (hk:k<(aI g bs).n.toNat) (hx:g.n≤aE q k) (c:Int) (hc:c∈cj q (aE q k))=>show AQ g bs c=bs.getD (aE q k - g.n).toNat 0 by
  obtain ⟨x0,x1⟩:=bB qL hk
  have hj:(aE q k - g.n).toNat<bs.length:=by omega
  have:=hq.F7 _ hj
  have e:cj q (aE q k)= [((g.es.length+(aE q k - g.n).toNat:Nat):Int)]:=by
   rw [← this];unfold cj;congr 1;omega
  rw [e,List.mem_singleton] at hc
  subst hc
  unfold AQ
  rw [if_neg (by omega)]
  congr 1;omega
 refine ⟨fun e e0 e1 k hk ek=> ?_,fun k hk a b c ha hb' hc ea ec r1 r2=> ?_,fun k hk a b ha hb' na nb r=> ?_,fun k hk a b c ha hb' na eb hc r=> ?_,fun k hk a b c ha hb' na eb hc r=> ?_,fun k hk=> ?_⟩
 ·have tR:=IJ h hb hq e0 e1
  rw [← ek] at tR
  have vA:0≤dW (aI g bs) e∧dW (aI g bs) e<(aI g bs).n:=by
   rcases cI h hb hq e0 e1 with ⟨h3,h4⟩|⟨j,h3,h6,h7,h4,h5⟩
   ·rw [(cF (g:=g) (bs:=bs) e0 h3).1]
    have h8:0≤dW g e∧dW g e<g.n:=bn hm (i:=e.toNat) (by omega)
    omega
   ·obtain ⟨n1,n2,_⟩:=c7 hb h4
    omega
  exact o5 h hb hq vA.1 vA.2 hk tR
 ·by_cases hx:aE q k<g.n
  ·obtain ⟨c1,c2,c3⟩:=lN h hb hq hk hx
   obtain ⟨A,X,C,e1,hA,hX,hC,_⟩:=iw h c2
   have bV:=ji h (c:=fL g q k) (by omega)
   have ma:=mem k (by omega) a ha
   have mb:=mem k (by omega) b hb'
   have mc:=mem k (by omega) c hc
   have da:=(dO h hb hq hk hx ha).2 ea
   have dc:=(dO h hb hq hk hx hc).2 ec
   refine (dO h hb hq hk hx hb').1 ?_
   rw [c3] at hA hX hC
   rw [e1] at ma mb mc r1 r2 bV
   have PA:AQ g bs a∈X:=by
    rcases List.mem_append.1 ma with h1|h1
    ·rcases List.mem_append.1 h1 with h1|h1
     ·exact absurd da (hA _ h1)
     ·exact h1
    ·exact absurd da (hC _ h1)
   have BH:AQ g bs c∈X:=by
    rcases List.mem_append.1 mc with h1|h1
    ·rcases List.mem_append.1 h1 with h1|h1
     ·exact absurd dc (hA _ h1)
     ·exact h1
    ·exact absurd dc (hC _ h1)
   rw [List.append_assoc] at r1 r2 mb bV
   have Tr:(X++C).Nodup:=(List.nodup_append.1 bV).2.1
   obtain ⟨i1,_⟩:=gS (A:=A) (B:=X++C) bV (List.mem_append_left C PA)
   obtain ⟨i2,_⟩:=gS (A:=A) (B:=X++C) bV (List.mem_append_left C BH)
   obtain ⟨i3,i4⟩:=qK (A:=X) (B:=C) BH
   rcases List.mem_append.1 mb with h1|h1
   ·obtain ⟨i5,i6⟩:=qK (A:=A) (B:=X++C) h1
    omega
   ·rcases List.mem_append.1 h1 with h2|h2
    ·exact hX _ h2
    ·obtain ⟨i5,_⟩:=gS (A:=A) (B:=X++C) bV h1
     obtain ⟨i7,_⟩:=gS (A:=X) (B:=C) Tr h2
     omega
  ·have:=same k hk (by omega) a c ha hc ea ec
   subst this
   omega
 ·by_cases hx:aE q k<g.n
  ·obtain ⟨c1,c2,c3⟩:=lN h hb hq hk hx
   obtain ⟨A,X,C,e1,hA,hX,hC,e2⟩:=iw h c2
   have bV:=ji h (c:=fL g q k) (by omega)
   have fk:=ji h (c:=fL g q k+1) (by omega)
   have ma:=mem k (by omega) a ha
   have mb:=mem k (by omega) b hb'
   have da:=fun e=>na ((dO h hb hq hk hx ha).1 e)
   have db:=fun e=>nb ((dO h hb hq hk hx hb').1 e)
   rw [c1,e2]
   rw [c3] at hA hX hC
   rw [e2] at fk
   rw [e1] at ma mb r bV
   rw [List.append_assoc] at r ma mb bV fk ⊢
   have Ns:(X++C).Nodup:=(List.nodup_append.1 bV).2.1
   have Ky:=(List.nodup_append.1 fk).2.1
   have sp:∀u,u∈A++(X++C)→dI g u≠aE q k→u∈A∨u∈C:=fun u hu hne=>by
    rcases List.mem_append.1 hu with h1|h1
    ·exact .inl h1
    ·rcases List.mem_append.1 h1 with h2|h2
     ·exact absurd (hX _ h2) hne
     ·exact .inr h2
   rcases sp _ ma da with h1|h1<;>rcases sp _ mb db with h2|h2
   ·rw [(qK h1).1,(qK h2).1] at r ⊢
    exact r
   ·have i1:=qK (B:=cj p (aE p (fL g q k))++C) h1
    have i2:=gS fk (List.mem_append_right _ h2)
    omega
   ·have i1:=qK (B:=X++C) h2
    have i2:=gS bV (List.mem_append_right X h1)
    omega
   ·have i1:=gS bV (List.mem_append_right X h1)
    have i2:=gS bV (List.mem_append_right X h2)
    have i3:=gS Ns h1
    have i4:=gS Ns h2
    have j1:=gS fk (List.mem_append_right (cj p (aE p (fL g q k))) h1)
    have j2:=gS fk (List.mem_append_right (cj p (aE p (fL g q k))) h2)
    have j3:=gS Ky h1
    have j4:=gS Ky h2
    omega
  ·rw [uo h hb hq hk (by omega)];exact r
 ·by_cases hx:aE q k<g.n
  ·obtain ⟨c1,c2,c3⟩:=lN h hb hq hk hx
   obtain ⟨A,X,C,e1,hA,hX,hC,e2⟩:=iw h c2
   have bV:=ji h (c:=fL g q k) (by omega)
   have fk:=ji h (c:=fL g q k+1) (by omega)
   have ma:=mem k (by omega) a ha
   have mb:=mem k (by omega) b hb'
   have da:=fun e=>na ((dO h hb hq hk hx ha).1 e)
   have db:=(dO h hb hq hk hx hb').2 eb
   rw [JZ k hk hx] at hc
   rw [Nr _ c (bB qL hk).1 hx hc]
   rw [c1,e2]
   rw [c3] at hA hX hC ⊢
   rw [e2] at fk
   rw [e1] at ma mb r bV
   rw [List.append_assoc] at r ma mb bV fk ⊢
   rw [c3] at fk
   have Ns:(X++C).Nodup:=(List.nodup_append.1 bV).2.1
   have hb2:AQ g bs b∈X:=by
    rcases List.mem_append.1 mb with h1|h1
    ·exact absurd db (hA _ h1)
    ·rcases List.mem_append.1 h1 with h1|h1
     ·exact h1
     ·exact absurd db (hC _ h1)
   have i2:=gS bV (List.mem_append_left C hb2)
   have i3:=qK (B:=C) hb2
   have j2:=gS fk (List.mem_append_left C hc)
   rcases List.mem_append.1 ma with h1|h1
   ·have j1:=qK (B:=cj p (aE q k)++C) h1
    omega
   ·rcases List.mem_append.1 h1 with h2|h2
    ·exact absurd (hX _ h2) da
    ·have i1:=gS bV h1
     have i4:=gS Ns h2
     omega
  ·have hx:g.n≤aE q k:=by omega
   obtain ⟨a1,a2,a3⟩:=only k hk hx b hb' eb
   have a4:=(c7 hb a1).2.2.2
   rw [a2] at a4
   rw [uo h hb hq hk hx,iY k hk hx c hc,a4, ← a3]
   exact r
 ·by_cases hx:aE q k<g.n
  ·obtain ⟨c1,c2,c3⟩:=lN h hb hq hk hx
   obtain ⟨A,X,C,e1,hA,hX,hC,e2⟩:=iw h c2
   have bV:=ji h (c:=fL g q k) (by omega)
   have fk:=ji h (c:=fL g q k+1) (by omega)
   have ma:=mem k (by omega) a ha
   have mb:=mem k (by omega) b hb'
   have da:=fun e=>na ((dO h hb hq hk hx ha).1 e)
   have db:=(dO h hb hq hk hx hb').2 eb
   rw [JZ k hk hx] at hc
   rw [Nr _ c (bB qL hk).1 hx hc]
   rw [c1,e2]
   rw [c3] at hA hX hC ⊢
   rw [e2] at fk
   rw [e1] at ma mb r bV
   rw [List.append_assoc] at r ma mb bV fk ⊢
   rw [c3] at fk
   have Ky:=(List.nodup_append.1 fk).2.1
   have hb2:AQ g bs b∈X:=by
    rcases List.mem_append.1 mb with h1|h1
    ·exact absurd db (hA _ h1)
    ·rcases List.mem_append.1 h1 with h1|h1
     ·exact h1
     ·exact absurd db (hC _ h1)
   have i2:=gS bV (List.mem_append_left C hb2)
   have j2:=gS fk (List.mem_append_left C hc)
   have j3:=qK (B:=C) hc
   rcases List.mem_append.1 ma with h1|h1
   ·have i1:=qK (B:=X++C) h1
    omega
   ·rcases List.mem_append.1 h1 with h2|h2
    ·exact absurd (hX _ h2) da
    ·have j1:=gS fk (List.mem_append_right (cj p (aE q k)) h2)
     have j4:=gS Ky h2
     omega
  ·have hx:g.n≤aE q k:=by omega
   obtain ⟨a1,a2,a3⟩:=only k hk hx b hb' eb
   have a4:=(c7 hb a1).2.2.2
   rw [a2] at a4
   rw [uo h hb hq hk hx,iY k hk hx c hc,a4, ← a3]
   exact r
 ·by_cases hx:aE q k<g.n
  ·obtain ⟨c1,c2,c3⟩:=lN h hb hq hk hx
   obtain ⟨A,X,C,_,_,_,_,e2⟩:=iw h c2
   have fk:=ji h (c:=fL g q k+1) (by omega)
   rw [JZ k hk hx,c1,e2]
   rw [e2,List.append_assoc] at fk
   rw [List.append_assoc]
   rw [c3] at fk ⊢
   have Ky:=(List.nodup_append.1 fk).2.1
   have Q7:=(List.nodup_append.1 Ky).1
   rw [List.pairwise_iff_getElem]
   intro i j hi hj hij
   have m1:(cj p (aE q k))[i]∈cj p (aE q k):=List.getElem_mem hi
   have m2:(cj p (aE q k))[j]∈cj p (aE q k):=List.getElem_mem hj
   rw [Nr _ _ (bB qL hk).1 hx m1,Nr _ _ (bB qL hk).1 hx m2]
   have j1:=gS fk (List.mem_append_left C m1)
   have j2:=gS fk (List.mem_append_left C m2)
   have j3:=qK (B:=C) m1
   have j4:=qK (B:=C) m2
   have a1:=eo Q7 hi
   have a2:=eo Q7 hj
   rw [List.getD_eq_getElem?_getD,List.getElem?_eq_getElem hi,Option.getD_some] at a1
   rw [List.getD_eq_getElem?_getD,List.getElem?_eq_getElem hj,Option.getD_some] at a2
   omega
  ·have hx:g.n≤aE q k:=by omega
   obtain ⟨x0,x1⟩:=bB qL hk
   have hj:(aE q k - g.n).toNat<bs.length:=by omega
   have:=hq.F7 _ hj
   have e:cj q (aE q k)= [((g.es.length+(aE q k - g.n).toNat:Nat):Int)]:=by
    rw [← this];unfold cj;congr 1;omega
   rw [e]
   exact List.pairwise_singleton ..
theorem Gb (hG:(cg (aI g bs)).1=0):aX (aI g bs) q:=Dn hG (iP h hb hq) (Ga h hb hq)
end
end Go.Ab
end
section
namespace Go.Ab
open Go.Proofs
set_option maxRecDepth 10000
set_option linter.unusedSectionVars false
theorem HR {G:Gr} (hm:aL G=true) (φ:Int→Nat) (up:∀i,i<G.es.length→φ (tl G i)<φ (hd G i)) (tw:∀i k,i<G.es.length→k<G.es.length→i≠k→G.es.getD i (0,0)≠G.es.getD k (0,0)) (s:Int)
 (src:∀y,0≤y→y<G.n→(∀i,i<G.es.length→hd G i≠y)→y=s):(cg G).1=0:=by
 have FZ:BJ G=true:=(ry hm).2 ⟨φ,up⟩
 have F0:¬0≤lH G:=fun hl=>by
  have h1:=eW (fun e:Edge=>decide (e.1=e.2)) G.es
  have h0:decide (0≤bP (fun e:Edge=>decide (e.1=e.2)) G.es)=true:=decide_eq_true hl
  rw [h0] at h1
  obtain ⟨e,he,h2⟩:=List.any_eq_true.1 h1.symm
  obtain ⟨i,hi,rfl⟩:=List.mem_iff_getElem.1 he
  have h3:tl G i=hd G i:=by simpa [tl,hd,List.getD_eq_getElem?_getD,List.getElem?_eq_getElem hi] using h2
  have:=up i hi
  rw [h3] at this
  omega
 have JH:¬0≤eH G:=fun ht=>by
  obtain ⟨i,k,hi,hk,hik,e⟩:=(ir _).1 ht
  exact tw i k hi hk hik e
 have F3:¬1<(bQ (·.2) G).length:=fun hb=>by
  have hs:∀y∈bQ (·.2) G,y=s:=fun y hy=>by
   obtain ⟨⟨y0,y1⟩,y2⟩:=mh.1 hy
   refine src y y0 y1 fun i hi e=> ?_
   have:=mg (g:=G) (e:=(i:Int)) (by omega) (by omega)
   rw [Int.toNat_natCast,show (G.es.getD i (0,0)).2=y from e] at this
   omega
  have:=xo dH hs
  omega
 unfold cg jH
 rw [if_neg (by simp [hm]),if_neg F0,if_neg JH,if_neg (by rw [xm hm FZ];simp),if_neg F3]
theorem AT {g:Gr} (h:(cg g).1=0) {i k:Nat} (hi:i<g.es.length) (hk:k<g.es.length) (e:g.es.getD i (0,0)=g.es.getD k (0,0)):i=k:=by
 refine Decidable.byContradiction fun hik=> ?_
 have hgt:¬0≤eH g:=by
  unfold cg jH at h
  intro h2
  split at h
  ·cases h
  split at h
  ·cases h
  cases h
 exact hgt ((ir g).2 ⟨i,k,hi,hk,hik,e⟩)
section
variable {g:Gr} {p:Pl} {bs:List Int} {q:Pl} (h:aX g p) (hb:xu g bs) (hq:F6 g p bs q) (hs1:g.n+bs.length≤64) (DM:g.es.length+bs.length≤128)
include h hb hq hs1 DM
theorem HS:aL (aI g bs)=true:=by
 have hm:=aj h.1
 have hn:=aG hm
 have hGn:(aI g bs).n=g.n+bs.length:=rfl
 simp only [aL,Bool.and_eq_true,decide_eq_true_eq,Bool.not_eq_true',List.any_eq_false]
 refine ⟨⟨⟨by omega,by omega⟩,by rw [ew];omega⟩,fun e he=> ?_⟩
 simp only [qF,wR,Bool.or_eq_true,decide_eq_true_eq,not_or]
 obtain ⟨i,hi,rfl⟩:=List.mem_iff_getElem.1 he
 have e0:(aI g bs).es.getD i (0,0)=(aI g bs).es[i]:=by rw [List.getD_eq_getElem?_getD,List.getElem?_eq_getElem hi];rfl
 have et:((aI g bs).es[i]).1=dW (aI g bs) (i:Int):=by unfold dW;rw [Int.toNat_natCast,e0]
 have eh:((aI g bs).es[i]).2=dI (aI g bs) (i:Int):=by unfold dI;rw [Int.toNat_natCast,e0]
 rw [et,eh]
 rcases cI h hb hq (e:=(i:Int)) (by omega) (by omega) with ⟨h3,h4⟩|⟨j,h3,h6,h7,h4,h5⟩
 ·obtain ⟨r1,r2⟩:=cF (g:=g) (bs:=bs) (e:=(i:Int)) (by omega) h3
  have t0:0≤dW g i∧dW g i<g.n:=bn hm (i:=i) (by omega)
  have d0:0≤dI g i∧dI g i<g.n:=bw hm (i:=i) (by omega)
  rw [r1,r2]
  by_cases qI:(i:Int)∈bs
  ·rw [if_pos qI]
   obtain ⟨n1,n2,_⟩:=c7 hb qI
   omega
  ·rw [if_neg qI];omega
 ·obtain ⟨b0,b1⟩:=hb.mM _ h4
  obtain ⟨n1,n2,_⟩:=c7 hb h4
  have d0:0≤dI g (bs.getD j 0)∧dI g (bs.getD j 0)<g.n:=bw hm (i:=(bs.getD j 0).toNat) (by omega)
  have xw:=(gr (g:=g) h3).2
  rw [← h6] at xw
  rw [h5,xw]
  omega
theorem J0 {i k:Int} (Ko:0≤i) (hi1:i<(aI g bs).es.length) (zM:0≤k) (zW:k<(aI g bs).es.length) (e1:dW (aI g bs) i=dW (aI g bs) k) (e2:dI (aI g bs) i=dI (aI g bs) k):i=k:=by
 have hm:=aj h.1
 have tr:=fun (i:Int) (a:0≤i) (b:i<g.es.length)=>show 0≤dW g i∧dW g i<g.n from bn hm (i:=i.toNat) (by omega)
 have hr:=fun (i:Int) (a:0≤i) (b:i<g.es.length)=>show 0≤dI g i∧dI g i<g.n from bw hm (i:=i.toNat) (by omega)
 rcases cI h hb hq Ko hi1 with ⟨h3,h4⟩|⟨j,h3,h6,h7,h4,h5⟩
 ·obtain ⟨r1,r2⟩:=cF (g:=g) (bs:=bs) Ko h3
  have t0:=tr i Ko h3
  rcases cI h hb hq zM zW with ⟨g3,g4⟩|⟨j',g3,g6,g7,g4,g5⟩
  ·obtain ⟨s1,s2⟩:=cF (g:=g) (bs:=bs) zM g3
   rw [r1,s1] at e1
   rw [r2,s2] at e2
   by_cases GK:i∈bs
   ·by_cases Az:k∈bs
    ·rw [if_pos GK,if_pos Az] at e2
     have a1:=(c7 hb GK).2.2.2
     have a2:=(c7 hb Az).2.2.2
     rw [e2] at a1
     rw [← a1,a2]
    ·rw [if_pos GK,if_neg Az] at e2
     have:=(c7 hb GK).1
     have:=hr k zM g3
     omega
   ·by_cases Az:k∈bs
    ·rw [if_neg GK,if_pos Az] at e2
     have:=(c7 hb Az).1
     have:=hr i Ko h3
     omega
    ·rw [if_neg GK,if_neg Az] at e2
     have:=AT h.1 (i:=i.toNat) (k:=k.toNat) (by omega) (by omega) (Prod.ext e1 e2)
     omega
  ·have:=(c7 hb g4).1
   omega
 ·rcases cI h hb hq zM zW with ⟨g3,g4⟩|⟨j',g3,g6,g7,g4,g5⟩
  ·have:=(c7 hb h4).1
   have:=(cF (g:=g) (bs:=bs) zM g3).1
   have:=tr k zM g3
   omega
  ·rw [h5,g5] at e1
   have a1:=eo hb.nd h3
   have a2:=eo hb.nd g3
   unfold uH at e1
   have:j=j':=by omega
   rw [h6,g6,this]
theorem zm:(cg (aI g bs)).1=0:=by
 have hm:=aj h.1
 have hn:=aG hm
 have vA:=HS h hb hq hs1 DM
 have hGn:(aI g bs).n=g.n+bs.length:=rfl
 have qL:=iP h hb hq
 have MC:=cn qL
 have Cs:=aP qL
 refine HR vA (fun v=>q.ord.idxOf v) (fun i hi=> ?_) (fun i k hi hk hik e=>hik ?_) (aE p 0) (fun y y0 y1 hy=> ?_)
 ·have hR:=IJ h hb hq (e:=(i:Int)) (by omega) (by omega)
  have e1:dW (aI g bs) (i:Int)=tl (aI g bs) i:=rfl
  have e2:dI (aI g bs) (i:Int)=hd (aI g bs) i:=rfl
  rw [e1,e2] at hR
  obtain ⟨t0,t1⟩:=bn vA hi
  obtain ⟨d0,d1⟩:=bw vA hi
  obtain ⟨k,hk,ek⟩:=fI qL d0 d1
  rw [← ek] at hR
  obtain ⟨j,j1,j2,j3⟩:=jW (o5 h hb hq t0 t1 hk hR)
  have a1:q.ord.idxOf (tl (aI g bs) i)=j:=by rw [← j3];exact eo MC j2
  have a2:q.ord.idxOf (hd (aI g bs) i)=k:=by rw [← ek];exact eo MC (by omega)
  omega
 ·have e1:dW (aI g bs) (i:Int)=dW (aI g bs) (k:Int):=by unfold dW;simp only [Int.toNat_natCast];rw [e]
  have e2:dI (aI g bs) (i:Int)=dI (aI g bs) (k:Int):=by unfold dI;simp only [Int.toNat_natCast];rw [e]
  have:=J0 h hb hq hs1 DM (i:=(i:Int)) (k:=(k:Int)) (by omega) (by omega) (by omega) (by omega) e1 e2
  omega
 ·have JJ:y<g.n:=by
   refine Decidable.byContradiction fun JJ=> ?_
   have hj:(y - g.n).toNat<bs.length:=by omega
   have hin:bs.getD (y - g.n).toNat 0∈bs:=aU hj
   obtain ⟨b0,b1⟩:=hb.mM _ hin
   have r2:=(cF (g:=g) (bs:=bs) b0 b1).2
   rw [if_pos hin] at r2
   unfold uH at r2
   rw [eo hb.nd hj] at r2
   refine hy (bs.getD (y - g.n).toNat 0).toNat (by rw [ew];omega) ?_
   have:hd (aI g bs) (bs.getD (y - g.n).toNat 0).toNat=dI (aI g bs) (bs.getD (y - g.n).toNat 0):=rfl
   rw [this,r2];omega
  have h0:=bB h.2.1 (k:=0) (by omega)
  have hz:aY g y=0:=by
   refine Decidable.byContradiction fun hnz=> ?_
   obtain ⟨e,he⟩:∃e,e∈aO (·.2) g.es g.es.length y:=by
    cases hc:aO (·.2) g.es g.es.length y with
    |nil=>exact absurd (by unfold aY;rw [hc];rfl) hnz
    |cons e l=>exact ⟨e,by simp⟩
   obtain ⟨⟨e0,e1⟩,e2⟩:=bE.1 he
   have e2:dI g e=y:=e2
   have r2:=(cF (g:=g) (bs:=bs) e0 e1).2
   by_cases qI:e∈bs
   ·obtain ⟨i1,i2⟩:=kO qI
    have xw:=(gr (g:=g) i1).2
    rw [i2,e2] at xw
    exact hy (g.es.length+bs.idxOf e) (by rw [ew];omega) xw
   ·rw [if_neg qI,e2] at r2
    exact hy e.toNat (by rw [ew];omega) r2
  refine kM h.1 ⟨y0,JJ⟩ h0 hz ?_
  refine Decidable.byContradiction fun hnz=> ?_
  obtain ⟨A,X,C,hrw,_,_,hX,_⟩:=bU hm (oJ g).tofG (h.2.2 0 (by omega)) hnz
  obtain ⟨q,X0,e1,_⟩:=hX.fst
  rw [e1] at hrw
  simp at hrw
theorem HT:aX (aI g bs) q:=Gb h hb hq (zm h hb hq hs1 DM)
theorem J1 (hI:vu g=true):vu (aI g bs)=true:=by
 have hm:=aj h.1
 have hn:=aG hm
 have hGn:(aI g bs).n=g.n+bs.length:=rfl
 have hN:=F8 h hb hq
 have qL:=iP h hb hq
 unfold vu at hI ⊢
 rw [Bool.and_eq_true,decide_eq_true_eq,decide_eq_true_eq] at hI
 rw [decide_eq_true (zm h hb hq hs1 DM),Bool.true_and,decide_eq_true_eq]
 have key:∀y,y∈bQ (·.1) (aI g bs)↔y∈bQ (·.1) g:=fun y=>by
  rw [iu,iu]
  constructor
  ·rintro ⟨⟨y0,y1⟩,y2⟩
   by_cases JJ:y<g.n
   ·refine ⟨⟨y0,JJ⟩,List.eq_nil_iff_forall_not_mem.2 fun e he=> ?_⟩
    obtain ⟨⟨e0,e1⟩,e2⟩:=bE.1 he
    have:e∈aO (·.1) (aI g bs).es (aI g bs).es.length y:=bE.2 ⟨⟨e0,by rw [ew];omega⟩,((cF (g:=g) (bs:=bs) e0 e1).1.trans e2)⟩
    rw [y2] at this;cases this
   ·exfalso
    have hj:(y - g.n).toNat<bs.length:=by omega
    have Np:=(gr (g:=g) hj).1
    have:((g.es.length+(y - g.n).toNat:Nat):Int)∈aO (·.1) (aI g bs).es (aI g bs).es.length y:=bE.2 ⟨⟨by omega,by rw [ew];omega⟩,by have:dW (aI g bs) ((g.es.length+(y - g.n).toNat:Nat):Int)=y:=by {rw [Np];omega};exact this⟩
    rw [y2] at this;cases this
  ·rintro ⟨⟨y0,y1⟩,y2⟩
   refine ⟨⟨y0,by omega⟩,List.eq_nil_iff_forall_not_mem.2 fun e he=> ?_⟩
   obtain ⟨⟨e0,e1⟩,e2⟩:=bE.1 he
   have e2:dW (aI g bs) e=y:=e2
   rcases cI h hb hq e0 e1 with ⟨h3,h4⟩|⟨j,h3,h6,h7,h4,h5⟩
   ·have:e∈aO (·.1) g.es g.es.length y:=bE.2 ⟨⟨e0,h3⟩,((cF (g:=g) (bs:=bs) e0 h3).1.symm.trans e2)⟩
    rw [y2] at this;cases this
   ·have:=(c7 hb h4).1
    omega
 have hp:(bQ (·.1) (aI g bs)).Perm (bQ (·.1) g):=(List.perm_ext_iff_of_nodup dH dH).2 key
 rw [hp.length_eq]
 exact hI.2
end
end Go.Ab
end
section
namespace Go.Ab
open Go.Proofs
set_option maxRecDepth 10000
set_option linter.unusedSectionVars false
def nw (g:Gr) (bs:List Int) (k:Nat) (v:Int):List Int:=((List.range k).filter fun j=>dW g (bs.getD j 0)=v).map fun j:Nat=>g.n+(j:Int)
def dP (g:Gr) (bs:List Int) (k:Nat) (ord:List Int):List Int:=ord.flatMap fun v=>v::nw g bs k v
def iY (g:Gr) (k:Nat):List (List Int):=(List.range k).map fun j:Nat=> [((g.es.length+j:Nat):Int)]
def AU (g:Gr) (p:Pl) (bs:List Int):Pl:=⟨dP g bs bs.length p.ord,p.outs++iY g bs.length⟩
theorem zn {g:Gr} {bs:List Int} {k:Nat} (v:Int):nw g bs (k+1) v=nw g bs k v++if dW g (bs.getD k 0)=v then [g.n+(k:Int)] else []:=by
 unfold nw
 rw [List.range_succ,List.filter_append,List.map_append]
 congr 1
 by_cases h:dW g (bs.getD k 0)=v
 ·rw [if_pos h,List.filter_cons,if_pos (decide_eq_true h)];rfl
 ·rw [if_neg h,List.filter_cons,if_neg (by rw [decide_eq_false h];decide)];rfl
theorem gu {g:Gr} {bs:List Int} {k:Nat} {v u:Int} :u∈nw g bs k v↔∃j:Nat,j<k∧dW g (bs.getD j 0)=v∧u=g.n+(j:Int):=by
 simp only [nw,List.mem_map,List.mem_filter,List.mem_range,decide_eq_true_eq]
 constructor
 ·rintro ⟨j,⟨h1,h2⟩,rfl⟩;exact ⟨j,h1,h2,rfl⟩
 ·rintro ⟨j,h1,h2,rfl⟩;exact ⟨j,⟨h1,h2⟩,rfl⟩
theorem zo {g:Gr} {bs:List Int} {k:Nat} {a b:List Int} :dP g bs k (a++b)=dP g bs k a++dP g bs k b:=by simp [dP]
theorem iy {g:Gr} {bs:List Int} {k:Nat} {v:Int} {b:List Int} :dP g bs k (v::b)=v::(nw g bs k v++dP g bs k b):=by simp [dP]
theorem vJ {g:Gr} {bs:List Int} {a:List Int} :dP g bs 0 a=a:=by
 induction a with
 |nil=>rfl
 |cons v a ih=>rw [iy,ih];rfl
theorem uq {g:Gr} {bs:List Int} {k:Nat} {a:List Int} (h:dW g (bs.getD k 0)∉a):dP g bs (k+1) a=dP g bs k a:=by
 induction a with
 |nil=>rfl
 |cons v a ih=>
  rw [iy,iy,ih fun e=>h (List.mem_cons.2 (.inr e)),zn,if_neg fun e=>h (List.mem_cons.2 (.inl e)),List.append_nil]
theorem zq {g:Gr} {bs:List Int} {k:Nat} {a:List Int} {u:Int} :u∈dP g bs k a↔∃v∈a,u=v∨u∈nw g bs k v:=by simp [dP]
theorem vK {g:Gr} {bs:List Int} {k:Nat} {ord:List Int} (bV:ord.Nodup) (hr:∀u∈ord,u<g.n) (ht:dW g (bs.getD k 0)∈ord):
 ∃A B,dP g bs k ord=A++dW g (bs.getD k 0)::(nw g bs k (dW g (bs.getD k 0))++B)∧dP g bs (k+1) ord=A++dW g (bs.getD k 0)::(nw g bs k (dW g (bs.getD k 0))++(g.n+(k:Int))::B)∧dW g (bs.getD k 0)∉A∧∀u r,B=u::r→u<g.n:=by
 obtain ⟨o1,o2,e⟩:=List.append_of_mem ht
 have fk:=bV
 rw [e,List.nodup_append] at fk
 obtain ⟨_,n2,n3⟩:=fk
 obtain ⟨n4,_⟩:=List.nodup_cons.1 n2
 have n5:dW g (bs.getD k 0)∉o1:=fun h=>n3 _ h _ (by simp) rfl
 refine ⟨dP g bs k o1,dP g bs k o2, ?_, ?_,fun h=> ?_,fun u r hB=> ?_⟩
 ·rw [congrArg (dP g bs k) e,zo,iy]
 ·rw [congrArg (dP g bs (k+1)) e,zo,iy,uq n5,uq n4,zn,if_pos rfl];simp
 ·obtain ⟨v,hv,h1|h1⟩:=zq.1 h
  ·exact n5 (h1 ▸ hv)
  ·obtain ⟨j,_,_,h2⟩:=gu.1 h1
   have:=hr _ ht
   omega
 ·cases o2 with
  |nil=>simp [dP] at hB
  |cons w o2=>
   rw [iy] at hB
   cases hB
   exact hr _ (by rw [e];simp)
theorem ur {bs:List Int} {k j:Nat} (h:j<k):(bs.take k).getD j 0=bs.getD j 0:=by
 rw [List.getD_eq_getElem?_getD,List.getD_eq_getElem?_getD,List.getElem?_take_of_lt h]
theorem rH {bs:List Int} {k:Nat} (h:k<bs.length):bs.take (k+1)=bs.take k++ [bs.getD k 0]:=by
 rw [List.take_add_one,List.getElem?_eq_getElem h,List.getD_eq_getElem?_getD,List.getElem?_eq_getElem h];rfl
theorem Ds {g:Gr} {bs:List Int} (hb:xu g bs) {k:Nat} (hk:k<bs.length) {i:Nat} (hi:bs.getD k 0=i):
 i<g.es.length∧(iX g (bs.take k)).getD i (0,0)=(tl g i,hd g i)∧iX g (bs.take (k+1))=(iX g (bs.take k)++ [(g.n+(k:Int),hd g i)]).set i (tl g i,g.n+(k:Int)):=by
 have hil:i<g.es.length:=by have:=hb.mM _ (aU (d:=0) hk);omega
 have hlt:(bs.take k).length=k:=by simp;omega
 have Dt:(bs.take (k+1)).length=k+1:=by simp;omega
 have hni:(i:Int)∉bs.take k:=fun hm=>by
  have bV:=hb.nd
  rw [← List.take_append_drop (k+1) bs,rH hk,hi] at bV
  have:=(List.nodup_append.1 (List.nodup_append.1 bV).1).2.2 _ hm _ (List.mem_singleton.2 rfl)
  exact this rfl
 refine ⟨hil, ?_, ?_⟩
 ·unfold iX
  rw [List.getD_eq_getElem?_getD,List.getElem?_append_left (by simpa using hil),List.getElem?_map,List.getElem?_range hil,Option.map_some,Option.getD_some,if_neg hni]
 ·unfold iX
  rw [hlt,Dt,List.append_assoc,List.set_append_left _ _ (by simpa using hil),List.range_succ (n:=k),List.map_append,List.map_cons,List.map_nil]
  have xw:dI g ((bs.take (k+1)).getD k 0)=hd g i:=by rw [ur (by omega),hi];rfl
  rw [xw]
  congr 1
  ·refine List.ext_getElem? fun j=> ?_
   rw [List.getElem?_set]
   by_cases hj:j<g.es.length
   ·rw [List.getElem?_map,List.getElem?_range hj,List.getElem?_map,List.getElem?_range hj]
    simp only [Option.map_some,List.length_map,List.length_range]
    by_cases e:i=j
    ·subst e
     have hin:(i:Int)∈bs.take (k+1):=by rw [rH hk,hi];simp
     rw [if_pos rfl,if_pos hj,if_pos hin]
     unfold uH
     rw [rH hk,hi,xq,if_neg hni,hlt]
     simp
    ·rw [if_neg e,rH hk,hi]
     by_cases hm:(j:Int)∈bs.take k
     ·rw [if_pos hm,if_pos (by simp [hm])]
      unfold uH
      rw [xq,if_pos hm]
     ·rw [if_neg hm,if_neg (by simp [hm];omega)]
   ·rw [if_neg (by omega),List.getElem?_eq_none (by simpa using hj),List.getElem?_eq_none (by simpa using hj)]
  ·congr 1
   refine List.map_congr_left fun j hj=> ?_
   rw [List.mem_range] at hj
   rw [ur hj,ur (by omega)]
theorem Du {g:Gr} :iX g []=g.es:=by
 unfold iX
 simp only [List.length_nil,List.range_zero,List.map_nil,List.append_nil,List.not_mem_nil,if_false]
 refine List.ext_getElem? fun j=> ?_
 by_cases hj:j<g.es.length
 ·rw [List.getElem?_map,List.getElem?_range hj,Option.map_some,List.getElem?_eq_getElem hj]
  simp only [tl,hd,List.getD_eq_getElem?_getD,List.getElem?_eq_getElem hj,Option.getD_some]
 ·rw [List.getElem?_eq_none (by simpa using hj),List.getElem?_eq_none (by omega)]
section
variable {g:Gr} {p:Pl} {bs:List Int} (h:aX g p) (hb:xu g bs)
include h hb
theorem HU:(dP g bs bs.length p.ord).Nodup∧∀u,u∈dP g bs bs.length p.ord↔0≤u∧u<g.n+bs.length:=by
 have hm:=aj h.1
 have hn:=aG hm
 have bV:=cn h.2.1
 have hr:∀u∈p.ord,0≤u∧u<g.n:=fun u hu=>by
  have:=h.2.1.2.1.mem_iff.1 hu
  simp only [dx,List.mem_map,List.mem_range] at this
  obtain ⟨k,hk,e⟩:=this
  have e:(k:Int)=u:=e
  omega
 have hown:∀v,(nw g bs bs.length v).Nodup:=fun v=>by
  unfold nw
  refine List.Pairwise.map _ (fun a b hab=> ?_) ((List.nodup_range).filter _)
  intro e;apply hab;omega
 constructor
 ·unfold dP
  rw [List.Nodup,List.pairwise_flatMap]
  refine ⟨fun v hv=>List.nodup_cons.2 ⟨fun hh=> ?_,hown v⟩, ?_⟩
  ·obtain ⟨j,_,_,e⟩:=gu.1 hh
   have:=(hr v hv).2
   omega
  ·refine List.Pairwise.imp_of_mem (fun {a b} ha hb' hne=> ?_) bV
   intro u hu u' uD Ts
   subst Ts
   rcases List.mem_cons.1 hu with rfl|hu
   ·rcases List.mem_cons.1 uD with rfl|uD
    ·exact hne rfl
    ·obtain ⟨j,_,_,e⟩:=gu.1 uD
     have:=(hr u ha).2
     omega
   ·obtain ⟨j,_,j2,e⟩:=gu.1 hu
    rcases List.mem_cons.1 uD with rfl|uD
    ·have:=(hr u hb').2
     omega
    ·obtain ⟨l,_,l2,e'⟩:=gu.1 uD
     obtain rfl:j=l:=by omega
     exact hne (j2.symm.trans l2)
 ·intro u
  rw [zq]
  constructor
  ·rintro ⟨v,hv,rfl|hu⟩
   ·have:=hr u hv;omega
   ·obtain ⟨j,j1,_,e⟩:=gu.1 hu
    omega
  ·rintro ⟨h0,h1⟩
   by_cases hlt:u<g.n
   ·obtain ⟨l,hl,e⟩:=fI h.2.1 h0 hlt
    exact ⟨u,by rw [← e,aE,List.getD_eq_getElem?_getD,List.getElem?_eq_getElem (by rw [aP h.2.1];exact hl)];exact List.getElem_mem _, .inl rfl⟩
   ·have hk:(u - g.n).toNat<bs.length:=by omega
    have uE:=hb.mM _ (aU (d:=0) hk)
    have ht:=bn hm (i:=(bs.getD (u - g.n).toNat 0).toNat) (by omega)
    obtain ⟨l,hl,e⟩:=fI h.2.1 ht.1 ht.2
    refine ⟨dW g (bs.getD (u - g.n).toNat 0), ?_, .inr (gu.2 ⟨(u - g.n).toNat,hk,rfl,by omega⟩)⟩
    show tl g (bs.getD (u - g.n).toNat 0).toNat∈p.ord
    rw [← e,aE,List.getD_eq_getElem?_getD,List.getElem?_eq_getElem (by rw [aP h.2.1];exact hl)];exact List.getElem_mem _
theorem B7:F6 g p bs (AU g p bs):=by
 have hm:=aj h.1
 have hn:=aG hm
 have cx:=h.2.1.1
 have bV:=cn h.2.1
 obtain ⟨n1,n2⟩:=HU h hb
 refine ⟨?_,fun x hx=> ?_,fun k hk=> ?_, ?_, ?_⟩
 ·show (p.outs++iY g bs.length).length=_
  rw [List.length_append,cx,iY,List.length_map,List.length_range];omega
 ·show (p.outs++iY g bs.length).getD x []=_
  rw [List.getD_eq_getElem?_getD,List.getElem?_append_left (by omega), ← List.getD_eq_getElem?_getD]
 ·show (p.outs++iY g bs.length).getD (g.n.toNat+k) []=_
  rw [List.getD_eq_getElem?_getD,List.getElem?_append_right (by omega),cx,Nat.add_sub_cancel_left,iY,List.getElem?_map,List.getElem?_range hk];rfl
 ·refine (List.perm_ext_iff_of_nodup n1 ?_).2 fun u=> ?_
  ·unfold dx
   exact List.Pairwise.map _ (fun a b hab=>by intro e;apply hab;exact Int.ofNat.inj e) List.nodup_range
  ·show u∈dP g bs bs.length p.ord↔_
   rw [n2]
   simp only [dx,List.mem_map,List.mem_range]
   constructor
   ·rintro ⟨h0,h1⟩;exact ⟨u.toNat,by omega,by show ((u.toNat:Nat):Int)=u;omega⟩
   ·rintro ⟨k,hk,e⟩
    have e:(k:Int)=u:=e
    omega
 ·have hr:∀u∈p.ord,u<g.n:=fun u hu=>by
   have:=h.2.1.2.1.mem_iff.1 hu
   simp only [dx,List.mem_map,List.mem_range] at this
   obtain ⟨k,hk,e⟩:=this
   have e:(k:Int)=u:=e
   omega
  have dR:∀v∈p.ord,∀u∈v::nw g bs bs.length v,Dq g bs u=v:=fun v hv u hu=>by
   rcases List.mem_cons.1 hu with rfl|hu
   ·exact if_pos (hr u hv)
   ·obtain ⟨j,j1,j2,rfl⟩:=gu.1 hu
    unfold Dq
    rw [if_neg (by omega),show (g.n+(j:Int) - g.n).toNat=j by omega]
    exact j2
  show (dP g bs bs.length p.ord).Pairwise _
  unfold dP
  rw [List.pairwise_flatMap]
  refine ⟨fun v hv=> ?_, ?_⟩
  ·refine List.Pairwise.imp_of_mem (R:=fun a b=>a<b) (fun {a b} ha hb' hab=> .inr ⟨(dR v hv a ha).trans (dR v hv b hb').symm,hab⟩) (List.pairwise_cons.2 ⟨fun u hu=> ?_, ?_⟩)
   ·obtain ⟨j,_,_,rfl⟩:=gu.1 hu
    have:=hr v hv
    omega
   ·unfold nw
    refine List.Pairwise.map _ (fun a b hab=> ?_) (List.pairwise_lt_range.filter _)
    omega
  ·refine List.Pairwise.imp_of_mem (R:=fun a b=>p.ord.idxOf a<p.ord.idxOf b) (fun {a b} ha hb' hab=> ?_) ?_
   ·intro u hu v hv
    rw [dR a ha u hu,dR b hb' v hv]
    exact .inl hab
   ·rw [List.pairwise_iff_getElem]
    intro i j hi hj hij
    have e1:=eo bV hi
    have e2:=eo bV hj
    rw [List.getD_eq_getElem?_getD,List.getElem?_eq_getElem hi,Option.getD_some] at e1
    rw [List.getD_eq_getElem?_getD,List.getElem?_eq_getElem hj,Option.getD_some] at e2
    omega
end
end Go.Ab
end
section
namespace Go.Ab
open Go.Proofs Go.RowKit
attribute [local congr] ACall.congr gd.congr Nx.congr
set_option maxRecDepth 10000
theorem Spec.of_same {P:Program} {f:Nat} {A:Env→World→List Value→Prop} {m:List (Nat × AObj)} {res:AV} (hc:wm P f)
 (h:∀E w vals,Good m E w→A E w vals→Calls P f vals.toArray w fun e w'=>∃v,e= .returned v∧w'.os=w.os∧w'.tape=w.tape∧w'.output=w.output∧w.heap.size≤w'.heap.size∧(∀b,b<w.heap.size→w'.heap[b]? =w.heap[b]?)∧bS w' E res v):Spec P f A m res m:=by
 refine ⟨hc,fun E w vals hg hA=>(h E w vals hg hA).mono ?_⟩
 rintro e w' ⟨v,rfl,h1,h2,h3,h4,h5,h6⟩
 have hst:aH w E.z w' E.z:=fun b=>⟨Nat.le_refl _,fun o ho=>by
  by_cases hb:b<w.heap.size
  ·simp only [World.cell?,h5 b hb]
  ·have:=hg.fresh b (by omega);omega⟩
 refine ⟨v,E,rfl,⟨h1,h2,h3,h4,hst,fun b hb _=>⟨h5 b hb,rfl⟩,fun _ _=>⟨rfl,rfl⟩⟩,⟨hg.low,hg.inj,fun l o hl=> ?_,fun b hb=>hg.fresh b (by omega)⟩,fun l o b hl hro hb=> .inr ⟨l,o,hl,hro,hb⟩,h6⟩
 have h0:=hg.fh l o hl
 have:=bh.keep (k:= []) (E':=E) hst (fun _ _=>⟨rfl,rfl⟩) (fun l x hx=>by cases hx) rfl (fun _ _=>rfl) (fun b hb=>⟨h5 b (h0.lt hb),rfl⟩) h0
 rwa [AObj.ja] at this
theorem xx {ag:List (List Int × Int)} {es:Array MapEntry} (h:dQ 0 ag es) {y:MapEntry} :y∈es.toList↔∃i p,ag[i]? =some p∧y=⟨kV 0 p.1, .int .i64 p.2,i⟩:=by
 constructor
 ·intro hy
  obtain ⟨i,hi,e⟩:=List.mem_iff_getElem.1 hy
  have hi':i<es.size:=by simpa using hi
  have hp:=List.getElem?_eq_getElem (l:=ag) (i:=i) (by rw [← h.size];exact hi')
  refine ⟨i,_,hp, ?_⟩
  have:=h.zU i _ hp
  rw [Array.getElem?_eq_getElem hi'] at this
  rw [← e]
  simpa using Option.some.inj this
 ·rintro ⟨i,p,hp,rfl⟩
  have:=h.zU i p hp
  obtain ⟨hi,e⟩:=Array.getElem?_eq_some_iff.1 this
  rw [← e]
  simp
theorem Gc {ag:List (List Int × Int)} {es:Array MapEntry} (h:dQ 0 ag es):es.toList.map (·.born)=List.range es.size:=by
 refine List.ext_getElem? fun i=> ?_
 rw [List.getElem?_map,Array.getElem?_toList]
 by_cases hi:i<es.size
 ·have hp:=List.getElem?_eq_getElem (l:=ag) (i:=i) (by rw [← h.size];exact hi)
  rw [h.zU i _ hp,List.getElem?_range hi]
  rfl
 ·rw [Array.getElem?_eq_none (by omega),List.getElem?_eq_none (by simpa using hi)]
  rfl
def iZ (n:Int) (es:List Edge) (ord:List Int) (outs:List (List Int)) (ag:List (List Int × Int)):List (Nat × AObj):=
 [(10000, .box [eN n, .ref 10001, .ref 10002, .ref 10003, .mref 10004]),(10001, .own 56 2 (es.map rE)),(10002, .own 3 1 (ord.map rI)),(10003, .own 25 1 (vI outs)),(10004, .mp 0 ag)]
def uu (es:List Edge) (ag:List (List Int × Int)) (x:Int) (e:Nat):Bool:=ag.any fun p=>dY (fun i=>(es.getD i (0,0)).1) x e (p.1.getD 0 0).toNat p.2
theorem Dv (n:Int) (es:List Edge) (ord:List Int) (outs:List (List Int)) (ag:List (List Int × Int)) (x:Int) (e:Nat) (he:e<es.length) (hne:es.length≤1000) (hE:∀p∈ag,0≤p.1.getD 0 0∧p.1.getD 0 0<es.length):
 Spec Tryz.prog 152 (Args [.ptr 10000 0,eN x,eN e]) (iZ n es ord outs ag) (eB (uu es ag x e)) (iZ n es ord outs ag):=by
 refine Spec.of_same ⟨Tryz.f152,_,Tryz.func152,by kernel_rfl,rfl⟩ fun E w vals hg hA=> ?_
 obtain ⟨v,vs,rfl,h0,h3⟩:=hA
 obtain ⟨v2,SE,rfl,h1,h4⟩:=h3
 obtain ⟨v3,SF,rfl,h2,h5⟩:=h4
 simp only [AVrs] at h5
 subst h5
 have h1:=mX h1
 have h2:=mX h2
 subst h1 h2
 obtain ⟨B,hB,rfl⟩:=h0
 obtain ⟨B',cs,ty,g1,g2,g3,g4,g5⟩:=hg.fh 10000 (.box [eN n, .ref 10001, .ref 10002, .ref 10003, .mref 10004]) rfl
 obtain rfl:B'=B:=by rw [g1] at hB;exact Option.some.inj hB
 obtain ⟨_,_,o1⟩:=hg.fh 10001 (.own 56 2 (es.map rE)) rfl
 obtain ⟨bm,me,m1,m2,m3,m4⟩:=hg.fh 10004 (.mp 0 ag) rfl
 obtain ⟨u0,r0,rfl,_,g4⟩:=g4
 obtain ⟨u1,r1,rfl,c1,g4⟩:=g4
 obtain ⟨u2,r2,rfl,_,g4⟩:=g4
 obtain ⟨u3,r3,rfl,_,g4⟩:=g4
 obtain ⟨u4,r4,rfl,c4,g4⟩:=g4
 obtain ⟨rfl,_⟩:=c1
 obtain ⟨zQ,c5,rfl⟩:=c4
 obtain rfl:zQ=bm:=by rw [m1] at c5;exact (Option.some.inj c5).symm
 obtain ⟨be,cur,ce,p1,p2,p3,p4,p5,p6,p7,p8⟩:∃b cur cap,E.ρ 10001=some b∧w.heap[b]? =some (.cells cur 56 (0,0))∧E.σ 10001= .slice (some ⟨b,0,none⟩) (es.map rE).length cap∧(es.map rE).length≤cap∧cap*2=cur.size∧cap≤maxLen∧
  E.z b=0∧∀(i j:Nat) (r:List D) (y:D),(es.map rE)[i]? =some r→r[j]? =some y→∃v,cur[i*2+j]? =some v∧Rd w E.z v y:=by
  rcases o1 with ⟨_,h,_⟩|h
  ·rw [List.map_eq_nil_iff] at h
   subst h
   simp at he
  ·exact h
 rw [List.length_map] at p3 p4
 have Tt:B'<w.heap.size:=(Array.getElem?_eq_some_iff.1 g2).1
 have nK:be<w.heap.size:=(Array.getElem?_eq_some_iff.1 p2).1
 have key:=Aq B' zQ be es.length ce me (fun i=>(es.getD i (0,0)).1) x e w Tt nK ?_ ?_ m2 (fun i hi=> ?_) he hne ⟨fun y hy=> ?_, ?_⟩ (fun y hy=> ?_)
 ·refine key.mono ?_
  rintro en w' ⟨rfl,w1,seen,⟨yz,Nf⟩,rfl⟩
  refine ⟨_,rfl,yz.2.1,Nf,yz.2.2, ?_,fun b hb=> ?_, ?_⟩
  ·have:=mZ w1 (.mapIter (some zQ) me.size seen me.size)
   rw [yz.1] at this
   exact this
  ·rw [l7 _ _ (by rw [yz.1];exact hb),yz.1]
  ·have:(me.toList.any fun y=>dY (fun i=>(es.getD i (0,0)).1) x e (IB y.key) (IC y.val))=uu es ag x e:=by
    rw [Bool.eq_iff_iff,uu,List.any_eq_true,List.any_eq_true]
    constructor
    ·rintro ⟨y,hy,hm⟩
     obtain ⟨i,p,hp,rfl⟩:=(xx m4).1 hy
     exact ⟨p,List.mem_of_getElem? hp,hm⟩
    ·rintro ⟨p,hp,hm⟩
     obtain ⟨i,hi⟩:=List.mem_iff_getElem?.1 hp
     exact ⟨_,(xx m4).2 ⟨i,p,hi,rfl⟩,hm⟩
   rw [this]
   exact .sc _ rfl
 ·simp [World.cell?,g2,p3]
 ·simp [World.cell?,g2]
 ·obtain ⟨v,q1,q2⟩:=p8 i 0 (rE es[i]) (.sc (.int .i64 es[i].1)) (by simp [List.getElem?_eq_getElem hi]) rfl
  rw [mX q2] at q1
  simp only [World.cell?,p2,Option.isSome_none,Bool.false_eq_true,if_false]
  rw [List.getD_eq_getElem?_getD,List.getElem?_eq_getElem hi]
  exact q1
 ·obtain ⟨i,p,hp,rfl⟩:=(xx m4).1 hy
  have:=(List.getElem?_eq_some_iff.1 hp).1
  have:=m4.size
  show i<me.size
  omega
 ·rw [Gc m4];exact List.nodup_range
 ·obtain ⟨i,p,hp,rfl⟩:=(xx m4).1 hy
  obtain ⟨h1,h2⟩:=hE p (List.mem_of_getElem? hp)
  refine ⟨(p.1.getD 0 0).toNat,p.2, ?_,rfl,by omega⟩
  show Value.int .i64 (p.1.getD 0 0)=_
  rw [Int.toNat_of_nonneg h1]
end Go.Ab
end
section
namespace Go.Ab
open Go.Proofs
attribute [local congr] ACall.congr gd.congr Nx.congr
set_option maxRecDepth 20000
set_option maxHeartbeats 8000000
def Gd (n:Int) (es:List Edge) (ord:List Int) (outs:List (List Int)) (ag:List (List Int × Int)):List (Nat × AObj):=
 [(10000, .box [eN n, .ref 10011, .ref 10012, .ref 10013, .mref 10004]),(10011, .own 56 2 (es.map rE)),(10012, .own 3 1 (ord.map rI)),(10013, .own 25 1 (vI outs)),(10004, .mp 0 ag)]
theorem zu {ag:List (List Int × Int)} {k:List Int} {v:Int} (h:∀p∈ag,k≠p.1):pq ag k v=ag++ [(k,v)]:=by
 have hf:bY ag k=none:=by
  rw [bY,List.findIdx?_eq_none_iff]
  intro p hp
  exact decide_eq_false (h p hp)
 unfold pq dU iA
 rw [hf]
 simp only [j0]
 refine List.ext_getElem? fun i=> ?_
 rw [List.getElem?_modify]
 rcases Nat.lt_trichotomy i ag.length with h1|h1|h1
 ·rw [List.getElem?_append_left h1,List.getElem?_append_left h1]
  simp [show ¬ag.length=i by omega]
 ·subst h1;simp
 ·rw [List.getElem?_eq_none (by simp;omega),List.getElem?_eq_none (by simp;omega)];rfl
theorem J2 {a b:List (List Int)} :vI (a++b)=vI a++vI b:=by simp [vI]
theorem HV {A B:List Int} {t:Int} (h:t∉A):fU (A++t::B) t=A.length:=by
 refine fA (d:=0) (by simp) (fun j hj=>decide_eq_false fun e=>h ?_) (decide_eq_true ?_)
 ·rw [e,List.getD_eq_getElem?_getD,List.getElem?_append_left hj,List.getElem?_eq_getElem hj];exact List.getElem_mem _
 ·rw [List.getD_eq_getElem?_getD,List.getElem?_append_right (by omega)];simp
theorem J3 {A O B:List Int} {t:Int} {j:Nat} (hj:j<O.length):(A++t::(O++B)).getD (A.length+1+j) 0=O.getD j 0:=by
 rw [List.getD_eq_getElem?_getD,List.getElem?_append_right (by omega),show A.length+1+j - A.length=j+1 by omega,List.getElem?_cons_succ,List.getElem?_append_left hj, ← List.getD_eq_getElem?_getD]
theorem HW {A O B:List Int} {t u:Int} :(A++t::(O++u::B)).getD (A.length+1+O.length) 0=u:=by
 rw [List.getD_eq_getElem?_getD,List.getElem?_append_right (by omega),show A.length+1+O.length - A.length=O.length+1 by omega,List.getElem?_cons_succ,List.getElem?_append_right (by omega)]
 simp
theorem HX {A O B:List Int} {t x:Int} :qH (A++t::(O++B)) (A.length+1+O.length) x=A++t::(O++x::B):=by
 unfold qH
 rw [show A++t::(O++B)=(A++t::O)++B by simp,List.take_left' (by simp;omega),List.drop_left' (by simp;omega)]
 simp
theorem mz {es:List Edge} {a b:Int} :List.map rE es++ [[D.sc (.int .i64 a),D.sc (.int .i64 b)]]=List.map rE (es++ [(a,b)]):=by simp [rE]
theorem xy {es:List Edge} {e:Nat} {a b:Int} (h:es.getD e (0,0)=(a,b)):(List.map rE es).getD e [D.sc (.int .i64 0),D.sc (.int .i64 0)]= [D.sc (.int .i64 a),D.sc (.int .i64 b)]:=by
 rw [show [D.sc (.int .i64 0),D.sc (.int .i64 0)]=rE (0,0) from rfl,List.getD_eq_getElem?_getD,List.getElem?_map]
 rw [List.getD_eq_getElem?_getD] at h
 cases hq:es[e]? with
 |none=>rw [hq] at h;cases h;rfl
 |some q=>rw [hq] at h;cases h;rfl
theorem qc {es:List Edge} {e:Nat} {a b:Int} :(List.map rE es).set e [D.sc (.int .i64 a),D.sc (.int .i64 b)]=List.map rE (es.set e (a,b)):=by
 rw [List.map_set];rfl
theorem Dw (n:Int) (es:List Edge) (outs:List (List Int)) (ag:List (List Int × Int)) (e:Nat) (A O B:List Int) (t:Int) (hn:0≤n∧n<1000) (he:e<es.length) (hne:es.length<1000) (qP:outs.length<1000) (U3:(A++t::(O++B)).length<1000)
 (hE:∀p∈ag,0≤p.1.getD 0 0∧p.1.getD 0 0<es.length) (hnew:∀p∈ag, [(e:Int)]≠p.1) (ht:(es.getD e (0,0)).1=t) (Tu:t∉A)
 (hO:∀u∈O,uu ((es++ [(n,(es.getD e (0,0)).2)]).set e (t,n)) (ag++ [([(e:Int)],n)]) u e=true) (hB:∀u r,B=u::r→uu ((es++ [(n,(es.getD e (0,0)).2)]).set e (t,n)) (ag++ [([(e:Int)],n)]) u e=false):
 Spec Tryz.prog 103 (Args [.ptr 10000 0,eN e]) (iZ n es (A++t::(O++B)) outs ag) (.tup []) (Gd (n+1) ((es++ [(n,(es.getD e (0,0)).2)]).set e (t,n)) (A++t::(O++n::B)) (outs++ [[(es.length:Int)]]) (ag++ [([(e:Int)],n)])):=by
 have hi:=aS (A++t::(O++B)) t (by omega)
 rw [HV Tu] at hi
 have Kz:=zu (v:=n) hnew
 obtain ⟨hd,JT⟩:∃hd,(es.getD e (0,0)).2=hd:=⟨_,rfl⟩
 rw [JT] at hO hB ⊢
 have GC:(List.map rE es).getD e [D.sc (.int .i64 0),D.sc (.int .i64 0)]= [D.sc (.int .i64 t),D.sc (.int .i64 hd)]:=xy (Prod.ext ht JT)
 have nL:(List.map rE (es++ [(n,hd)])).getD e [D.sc (.int .i64 0),D.sc (.int .i64 0)]= [D.sc (.int .i64 t),D.sc (.int .i64 hd)]:=xy (by
  rw [List.getD_eq_getElem?_getD,List.getElem?_append_left he, ← List.getD_eq_getElem?_getD];exact Prod.ext ht JT)
 have uF:(List.map rE ((es++ [(n,hd)]).set e (t,n))).getD e [D.sc (.int .i64 0),D.sc (.int .i64 0)]= [D.sc (.int .i64 t),D.sc (.int .i64 n)]:=xy (by
  rw [List.getD_eq_getElem?_getD,List.getElem?_set_self (by simp;omega)];rfl)
 have Fl:((es++ [(n,hd)]).set e (t,n)).length=es.length+1:=by simp
 have x5:∀p∈ag++ [([(e:Int)],n)],0≤p.1.getD 0 0∧p.1.getD 0 0<((es++ [(n,hd)]).set e (t,n)).length:=fun p hp=>by
  rw [Fl]
  rcases List.mem_append.1 hp with h|h
  ·have:=hE p h;omega
  ·rw [List.mem_singleton] at h
   subst h
   simp only [List.getD_cons_zero]
   omega
 have jw:=fun (outs:List (List Int)) (u:Int)=>Dv (n+1) ((es++ [(n,hd)]).set e (t,n)) (A++t::(O++B)) outs (ag++ [([(e:Int)],n)]) u e (by rw [Fl];omega) (by rw [Fl];omega) x5
 have hins:=yy (A++t::(O++B)) (A.length+1+O.length) n (by simp;omega) (by omega)
 rw [HX] at hins
 have hlen:(A++t::(O++B)).length=A.length+1+O.length+B.length:=by simp;omega
 generalize wQ:(es++ [(n,hd)]).set e (t,n)=E2 at hO hB uF Fl x5 jw ⊢
 have hv:vI outs++ [[D.sl 1 [[D.sc (.int .i64 (es.length:Int))]]]]=vI (outs++ [[(es.length:Int)]]):=by simp [vI,sI,rI]
 generalize HG:A++t::(O++n::B)=Tv at hins ⊢
 unfold iZ Gd
 (refine Spec.sM (C:=T.cfg [51,73,125,126,72] []) (rs:= []) [(10011,51),(10013,73),(10012,126)] (T.ai _ _) Tryz.func103 rfl rfl Tryz.ntmps103 Tryz.results103 (by simp [AObj.isNest]) (by simp [AObj.isNest]) (by first|(simp [look];done)|(simp [asN];done)|(intro l hl;simp only [asN];repeat (rw [if_neg (fun e=>by subst e;simp [look] at hl)]))) (by first|(simp [look];done)|(simp [asN];done)|(intro l hl;simp only [asN];repeat (rw [if_neg (fun e=>by subst e;simp [look] at hl)]))) (by kernel_rfl) T.mixed fun X hX hP hC aQ cy=> ?_)
 repeat' (first|refine Rn.p ?_|(with_reducible apply And.intro)|((first|(refine hK _ ?_;clear hK K)|with_reducible intro K hK|refine Rs.p ?_|((with_reducible first|apply oP|apply oQ);exact rfl)|(refine au hX hC hP (hi) rfl rfl rfl ?_ ?_ ?_ ?_;iterate 3 (focus (simp only [go_sem,simprocAttr,Kz,mz,qc,GC,nL,uF,wQ,hv,List.length_append,List.length_cons,List.length_nil];done)))|(refine an hX hC hP [(10000,10000),(10001,51),(10002,10002),(10003,73),(10004,10004)] (jw _ _) rfl rfl rfl ?_ ?_ ?_ ?_ ?_ ?_ ?_ ?_ ?_ ?_ ?_ ?_ ?_ ?_;(focus (simp only [go_sem,simprocAttr,Kz,mz,qc,GC,nL,uF,wQ,hv,List.length_append,List.length_cons,List.length_nil];done));(iterate 12 (focus (simp [go_sem,simprocAttr,Kz,mz,qc,GC,nL,uF,wQ,hv,List.length_append,List.length_cons,List.length_nil];done)));try simp only [List.map_cons,List.map_nil]));try simp only [go_sem,simprocAttr,Kz,mz,qc,GC,nL,uF,wQ,hv,List.length_append,List.length_cons,List.length_nil])|((with_reducible refine oD ?_ ?_);kernel_rfl)|((with_reducible intro h);try simp only [go_sem,simprocAttr,Kz,mz,qc,GC,nL,uF,wQ,hv,List.length_append,List.length_cons,List.length_nil] at h)|omega|intro h)
 refine ak (fun j:Nat=>j≤O.length) (fun j=>⟨[(0, .ptr 10000 0),(1,eN e),(4,eN n),(6,eN ((A.length+1+j:Nat):Int))], [(10000, .box [eN (n+1), .ref 51, .ref 10002, .ref 73, .mref 10004]),(51, .own 56 2 (E2.map rE)),(10002, .own 3 1 ((A++t::(O++B)).map rI)),(73, .own 25 1 (vI (outs++ [[(es.length:Int)]]))),(10004, .mp 0 (ag++ [([(e:Int)],n)]))]⟩) (fun j=>O.length - j) 0 (by omega) ?_ ?_
 ·refine Le.of ?_ ?_<;>simp [go_sem,simprocAttr,Kz,mz,qc,GC,nL,uF,wQ,hv,List.length_append,List.length_cons,List.length_nil]
 rintro j hj
 obtain ⟨L,hL⟩:∃L,L=A++t::(O++B):=⟨_,rfl⟩
 rcases Nat.lt_or_ge j O.length with hlt|hge
 ·have hb:decide (((A.length+1+j:Nat):Int)<(L.length:Int))=true:=decide_eq_true (by rw [hL];omega)
  have mE:L.getD (A.length+1+j) 0=O.getD j 0:=by rw [hL];exact J3 hlt
  have hm:=hO _ (aU (d:=0) hlt)
  have hm2:=jw (outs++ [[(es.length:Int)]]) (O.getD j 0)
  rw [hm] at hm2
  rw [← hL] at hm2 ⊢
  have hjl:A.length+1+j<L.length:=by rw [hL];omega
  repeat' (first|refine Rn.p ?_|(with_reducible apply And.intro)|((first|(refine hK _ ?_;clear hK K)|with_reducible intro K hK|refine Rs.p ?_|((with_reducible first|apply oP|apply oQ);exact rfl)|(refine an hX hC hP [(10000,10000),(10001,51),(10002,10002),(10003,73),(10004,10004)] (hm2) rfl rfl rfl ?_ ?_ ?_ ?_ ?_ ?_ ?_ ?_ ?_ ?_ ?_ ?_ ?_ ?_;(focus (simp only [go_sem,simprocAttr,iZ,hb,mE];done));(iterate 12 (focus (simp [go_sem,simprocAttr,iZ,hb,mE];done)));try simp only [List.map_cons,List.map_nil]));try simp only [go_sem,simprocAttr,iZ,hb,mE])|((with_reducible refine oD ?_ ?_);kernel_rfl)|((with_reducible intro h);try simp only [go_sem,simprocAttr,iZ,hb,mE] at h)|omega|intro h)
  refine ⟨j+1,by omega, ?_,by omega⟩
  refine Le.of ?_ ?_<;>simp [go_sem,simprocAttr,iZ,hb,mE]
  omega
 ·obtain rfl:j=O.length:=by omega
  have hm2:=jw (outs++ [[(es.length:Int)]])
  rw [← hL] at hm2 hins ⊢
  cases MD:B with
  |nil=>
   have hb:decide (((A.length+1+O.length:Nat):Int)<(L.length:Int))=false:=decide_eq_false (by rw [hL,hlen,MD];simp)
   repeat' (first|refine Rn.p ?_|(with_reducible apply And.intro)|((first|(refine hK _ ?_;clear hK K)|with_reducible intro K hK|refine Rs.p ?_|((with_reducible first|apply oP|apply oQ);exact rfl)|(refine an hX hC hP [(10000,10002),(10002,125),(10001,126)] (hins) rfl rfl rfl ?_ ?_ ?_ ?_ ?_ ?_ ?_ ?_ ?_ ?_ ?_ ?_ ?_ ?_;(focus (simp only [go_sem,simprocAttr,iZ,rI,hb];done));(iterate 12 (focus (simp [go_sem,simprocAttr,iZ,rI,hb];done)));try simp only [List.map_cons,List.map_nil]));try simp only [go_sem,simprocAttr,iZ,rI,hb])|((with_reducible refine oD ?_ ?_);kernel_rfl)|((with_reducible intro h);try simp only [go_sem,simprocAttr,iZ,rI,hb] at h)|omega|intro h)
   all_goals rfl
  |cons u r=>
   have hb:decide (((A.length+1+O.length:Nat):Int)<(L.length:Int))=true:=decide_eq_true (by rw [hL,hlen,MD];simp;omega)
   have mE:L.getD (A.length+1+O.length) 0=u:=by rw [hL,MD];exact HW
   have Q8:=hm2 u
   rw [hB u r MD] at Q8
   have hjl:A.length+1+O.length<L.length:=by rw [hL,hlen,MD];simp
   repeat' (first|refine Rn.p ?_|(with_reducible apply And.intro)|((first|(refine hK _ ?_;clear hK K)|with_reducible intro K hK|refine Rs.p ?_|((with_reducible first|apply oP|apply oQ);exact rfl)|(refine an hX hC hP [(10000,10002),(10002,125),(10001,126)] (hins) rfl rfl rfl ?_ ?_ ?_ ?_ ?_ ?_ ?_ ?_ ?_ ?_ ?_ ?_ ?_ ?_;(focus (simp only [go_sem,simprocAttr,iZ,rI,hb,mE];done));(iterate 12 (focus (simp [go_sem,simprocAttr,iZ,rI,hb,mE];done)));try simp only [List.map_cons,List.map_nil])|(refine an hX hC hP [(10000,10000),(10001,51),(10002,10002),(10003,73),(10004,10004)] (Q8) rfl rfl rfl ?_ ?_ ?_ ?_ ?_ ?_ ?_ ?_ ?_ ?_ ?_ ?_ ?_ ?_;(focus (simp only [go_sem,simprocAttr,iZ,rI,hb,mE];done));(iterate 12 (focus (simp [go_sem,simprocAttr,iZ,rI,hb,mE];done)));try simp only [List.map_cons,List.map_nil]));try simp only [go_sem,simprocAttr,iZ,rI,hb,mE])|((with_reducible refine oD ?_ ?_);kernel_rfl)|((with_reducible intro h);try simp only [go_sem,simprocAttr,iZ,rI,hb,mE] at h)|omega|intro h)
   all_goals rfl
end Go.Ab
end
section
namespace Go.Ab
open Go.Proofs
set_option maxRecDepth 10000
def Dx (q:Nat→Bool):Nat→Nat
 |0=>0
 |n+1=>Dx q n ||| (if q n then 2 ^ n else 0)
theorem kP {q:Nat→Bool} {y:Nat} :∀ {n:Nat},(Dx q n).testBit y=(decide (y<n)&&q y)
 |0=>by simp [Dx]
 |n+1=>by
  rw [Dx,Nat.testBit_or,kP]
  by_cases h:y=n
  ·subst h
   cases hq:q y<;>simp [Nat.testBit_two_pow_self]
  ·have h2:(if q n then 2 ^ n else 0).testBit y=false:=by
    split
    ·rw [Nat.testBit_two_pow];exact decide_eq_false fun e=>h e.symm
    ·simp
   rw [h2,Bool.or_false]
   congr 1
   rw [decide_eq_decide];omega
theorem HY {q:Nat→Bool} {n:Nat} :Dx q n<2 ^ n:=by
 refine Nat.lt_pow_two_of_testBit _ fun i hi=> ?_
 rw [kP,decide_eq_false (by omega)];rfl
inductive pn (g:Gr) (both:Bool) (c:Nat→Bool) (x:Nat):Nat→Prop
 |refl:pn g both c x x
 |fwd {i:Nat} :i<g.es.length→c i=true→pn g both c x (tl g i).toNat→pn g both c x (hd g i).toNat
 |IK {i:Nat} :i<g.es.length→c i=true→both=true→pn g both c x (hd g i).toNat→pn g both c x (tl g i).toNat
theorem pn.trans {g:Gr} {both:Bool} {c:Nat→Bool} {x y z:Nat} (h1:pn g both c x y) (h2:pn g both c y z):pn g both c x z:=by
 induction h2 with
 |refl=>exact h1
 |fwd a b _ ih=>exact .fwd a b ih
 |IK a b d _ ih=>exact .IK a b d ih
open Classical in
noncomputable def Nt (g:Gr) (both:Bool) (c:Nat→Bool) (x:Nat):Nat:=Dx (fun y=>decide (pn g both c x y)) g.n.toNat
noncomputable def AW (g:Gr) (both:Bool) (c:Nat→Bool):List Nat:=(List.range g.n.toNat).map (Nt g both c)
theorem rJ {g:Gr} {both:Bool} {c:Nat→Bool} :(AW g both c).length=g.n.toNat:=by simp [AW]
theorem AX {g:Gr} {both:Bool} {c:Nat→Bool} {x:Nat} (h:x<g.n.toNat):(AW g both c).getD x 0=Nt g both c x:=by
 simp [AW,List.getD_eq_getElem?_getD,List.getElem?_range h]
open Classical in
theorem B8 {g:Gr} {both:Bool} {c:Nat→Bool} {x y:Nat} :(Nt g both c x).testBit y=true↔y<g.n.toNat∧pn g both c x y:=by
 unfold Nt
 rw [kP]
 simp
def bI (g:Gr) (both:Bool) (c:Nat→Bool) (a:List Nat):Nat→List Nat × Bool
 |0=>(a,false)
 |k+1=>
  let s:=bI g both c a k
  if c k=true then
   let t:=s.1.getD (tl g k).toNat 0 ||| s.1.getD (hd g k).toNat 0
   let h:=if both=true then t else s.1.getD (hd g k).toNat 0
   ((s.1.set (tl g k).toNat t).set (hd g k).toNat h,s.2||(decide (t≠s.1.getD (tl g k).toNat 0)||decide (h≠s.1.getD (hd g k).toNat 0)))
  else s
theorem qd {g:Gr} {both:Bool} {c:Nat→Bool} {a:List Nat} :∀ {k:Nat},(bI g both c a k).1.length=a.length
 |0=>rfl
 |k+1=>by
  simp only [bI]
  split
  ·simp [qd]
  ·exact qd
theorem mA {l:List Nat} {i j:Nat} {a:Nat} (hi:i<l.length):(l.set i a).getD j 0=if j=i then a else l.getD j 0:=by
 rw [List.getD_eq_getElem?_getD,List.getElem?_set]
 by_cases h:i=j
 ·subst h;rw [if_pos rfl,if_pos hi,if_pos rfl];rfl
 ·rw [if_neg h,if_neg (Ne.symm h), ← List.getD_eq_getElem?_getD]
structure DS (g:Gr) (both:Bool) (c:Nat→Bool) (a:List Nat):Prop where
 len:a.length=g.n.toNat
 own:∀x,x<g.n.toNat→(a.getD x 0).testBit x=true
 snd:∀x y,x<g.n.toNat→(a.getD x 0).testBit y=true→y<g.n.toNat∧pn g both c x y
theorem DS.lt {g:Gr} {both:Bool} {c:Nat→Bool} {a:List Nat} (h:DS g both c a) (hn:g.n.toNat≤64) (x:Nat):a.getD x 0<18446744073709551616:=by
 by_cases hx:x<g.n.toNat
 ·have:a.getD x 0<2 ^ 64:=Nat.lt_pow_two_of_testBit _ fun i hi=>by
   cases hb:(a.getD x 0).testBit i with
   |false=>rfl
   |true=>have:=(h.snd x i hx hb).1;omega
  simpa using this
 ·rw [List.getD_eq_getElem?_getD,List.getElem?_eq_none (by rw [h.len];omega)];simp
theorem grow_step {g:Gr} (hm:aL g=true) {both:Bool} {c:Nat→Bool} {a:List Nat} (h:DS g both c a) {i:Nat} (hi:i<g.es.length) (hc:c i=true):
 DS g both c ((a.set (tl g i).toNat (a.getD (tl g i).toNat 0 ||| a.getD (hd g i).toNat 0)).set (hd g i).toNat (if both=true then a.getD (tl g i).toNat 0 ||| a.getD (hd g i).toNat 0 else a.getD (hd g i).toNat 0))∧
 ∀x y,(a.getD x 0).testBit y=true→(((a.set (tl g i).toNat (a.getD (tl g i).toNat 0 ||| a.getD (hd g i).toNat 0)).set (hd g i).toNat (if both=true then a.getD (tl g i).toNat 0 ||| a.getD (hd g i).toNat 0 else a.getD (hd g i).toNat 0)).getD x 0).testBit y=true:=by
 obtain ⟨ht,hh⟩:=dw hm hi
 have ht:0≤tl g i∧tl g i<g.n:=ht
 have hh:0≤hd g i∧hd g i<g.n:=hh
 have hl:=h.len
 have rV:∀x,((a.set (tl g i).toNat (a.getD (tl g i).toNat 0 ||| a.getD (hd g i).toNat 0)).set (hd g i).toNat (if both=true then a.getD (tl g i).toNat 0 ||| a.getD (hd g i).toNat 0 else a.getD (hd g i).toNat 0)).getD x 0=
  if x=(hd g i).toNat then (if both=true then a.getD (tl g i).toNat 0 ||| a.getD (hd g i).toNat 0 else a.getD (hd g i).toNat 0) else if x=(tl g i).toNat then a.getD (tl g i).toNat 0 ||| a.getD (hd g i).toNat 0 else a.getD x 0:=fun x=>by
  rw [mA (by rw [List.length_set];omega),mA (by omega)]
 have mono:∀x y,(a.getD x 0).testBit y=true→(((a.set (tl g i).toNat (a.getD (tl g i).toNat 0 ||| a.getD (hd g i).toNat 0)).set (hd g i).toNat (if both=true then a.getD (tl g i).toNat 0 ||| a.getD (hd g i).toNat 0 else a.getD (hd g i).toNat 0)).getD x 0).testBit y=true:=fun x y hb=>by
  rw [rV]
  split
  ·rename_i e;subst e
   split
   ·rw [Nat.testBit_or,hb,Bool.or_true]
   ·exact hb
  ·split
   ·rename_i e;subst e
    rw [Nat.testBit_or,hb,Bool.true_or]
   ·exact hb
 refine ⟨⟨by simp [hl],fun x hx=>mono x x (h.own x hx),fun x y hx hb=> ?_⟩,mono⟩
 have e1:pn g both c (tl g i).toNat (hd g i).toNat:= .fwd hi hc .refl
 rw [rV] at hb
 split at hb
 ·rename_i e;subst e
  split at hb
  ·rename_i P6
   rw [Nat.testBit_or,Bool.or_eq_true] at hb
   rcases hb with hb|hb
   ·obtain ⟨g1,g2⟩:=h.snd _ _ (by omega) hb
    exact ⟨g1,(pn.IK hi hc P6 .refl).trans g2⟩
   ·exact h.snd _ _ hx hb
  ·exact h.snd _ _ hx hb
 ·split at hb
  ·rename_i e;subst e
   rw [Nat.testBit_or,Bool.or_eq_true] at hb
   rcases hb with hb|hb
   ·exact h.snd _ _ hx hb
   ·obtain ⟨g1,g2⟩:=h.snd _ _ (by omega) hb
    exact ⟨g1,e1.trans g2⟩
  ·exact h.snd _ _ hx hb
theorem iz {g:Gr} (hm:aL g=true) {both:Bool} {c:Nat→Bool} {a:List Nat} (h:DS g both c a):∀ {k:Nat},k≤g.es.length→DS g both c (bI g both c a k).1∧∀x y,(a.getD x 0).testBit y=true→((bI g both c a k).1.getD x 0).testBit y=true
 |0,_=>⟨h,fun x y hb=>hb⟩
 |k+1,hk=>by
  obtain ⟨i1,i2⟩:=iz hm h (k:=k) (by omega)
  simp only [bI]
  by_cases hc:c k=true
  ·rw [if_pos hc]
   obtain ⟨j1,j2⟩:=grow_step hm i1 (i:=k) (by omega) hc
   exact ⟨j1,fun x y hb=>j2 x y (i2 x y hb)⟩
  ·rw [if_neg hc];exact ⟨i1,i2⟩
def uv (a:List Nat):Nat:=a.foldr (· + ·) 0
theorem B9:∀ {a b:List Nat},a.length=b.length→(∀x,a.getD x 0≤b.getD x 0)→a≠b→uv a<uv b
 | [], [],_,_,hne=>absurd rfl hne
 |x::a,y::b,hl,h,hne=>by
  have h0:=h 0
  have hr:∀i,a.getD i 0≤b.getD i 0:=fun i=>by simpa using h (i+1)
  simp only [List.getD_cons_zero] at h0
  show x+uv a<y+uv b
  by_cases hab:a=b
  ·subst hab
   have:x≠y:=fun e=>hne (by rw [e])
   omega
  ·have:=B9 (a:=a) (b:=b) (by simpa using hl) hr hab
   omega
theorem zv {m:Nat} :∀ {a:List Nat},(∀x,a.getD x 0<m)→uv a≤a.length*m
 | [],_=>by simp [uv]
 |x::a,h=>by
  have h0:=h 0
  have:=zv (a:=a) fun i=>by simpa using h (i+1)
  simp only [List.getD_cons_zero] at h0
  show x+uv a≤(a.length+1)*m
  rw [Nat.add_mul];omega
theorem nE {a b:Nat} (h:∀y,a.testBit y=true→b.testBit y=true):a≤b:=by
 have:a ||| b=b:=Nat.eq_of_testBit_eq fun y=>by
  rw [Nat.testBit_or]
  cases ha:a.testBit y with
  |false=>simp
  |true=>rw [h y ha];rfl
 rw [← this];exact Nat.left_le_or
theorem iQ {g:Gr} {both:Bool} {c:Nat→Bool} {a:List Nat} :∀ {k:Nat},(bI g both c a k).2=false→(bI g both c a k).1=a∧∀i,i<k→c i=true→(a.getD (tl g i).toNat 0 ||| a.getD (hd g i).toNat 0=a.getD (tl g i).toNat 0)∧(both=true→a.getD (tl g i).toNat 0=a.getD (hd g i).toNat 0)
 |0,_=>⟨rfl,fun i hi=>by omega⟩
 |k+1,h=>by
  simp only [bI] at h ⊢
  by_cases hc:c k=true
  ·rw [if_pos hc] at h ⊢
   simp only [Bool.or_eq_false_iff,decide_eq_false_iff_not,Decidable.not_not] at h
   obtain ⟨h1,h2,h3⟩:=h
   obtain ⟨i1,i2⟩:=iQ h1
   rw [i1] at h2 h3
   simp only [i1]
   have di:∀ {l:List Nat} {i v:Nat},v=l.getD i 0→l.set i v=l:=fun {l i v} e=>by
    refine List.ext_getElem? fun j=> ?_
    rw [List.getElem?_set]
    split
    ·rename_i hj;subst hj
     split
     ·rename_i hl;rw [e,List.getD_eq_getElem?_getD,List.getElem?_eq_getElem hl];rfl
     ·rename_i hl;rw [List.getElem?_eq_none (by omega)]
    ·rfl
   refine ⟨by rw [di h2,di h3],fun i hi Nu=> ?_⟩
   by_cases hik:i=k
   ·subst hik
    refine ⟨h2,fun hb=> ?_⟩
    rw [if_pos hb] at h3
    rw [← h2,h3]
   ·exact i2 i (by omega) Nu
  ·rw [if_neg hc] at h ⊢
   obtain ⟨i1,i2⟩:=iQ h
   refine ⟨i1,fun i hi Nu=> ?_⟩
   by_cases hik:i=k
   ·subst hik;exact absurd Nu hc
   ·exact i2 i (by omega) Nu
theorem AY {g:Gr} (hm:aL g=true) {both:Bool} {c:Nat→Bool} {a:List Nat} (h:DS g both c a) (hne:(bI g both c a g.es.length).2=true):uv a<uv (bI g both c a g.es.length).1:=by
 obtain ⟨_,i2⟩:=iz hm h (Nat.le_refl g.es.length)
 refine B9 qd.symm (fun x=>nE (i2 x)) fun e=> ?_
 have key:∀k,k≤g.es.length→(bI g both c a k).2=false:=by
  intro k
  induction k with
  |zero=>intro _;rfl
  |succ k ih=>
   intro hk
   have ih:=ih (by omega)
   have Q9:=(iQ ih).1
   simp only [bI]
   by_cases hc:c k=true
   ·rw [if_pos hc]
    simp only [Bool.or_eq_false_iff,decide_eq_false_iff_not,Decidable.not_not,ih,Q9,true_and]
    obtain ⟨j1,j2⟩:=iz hm h (k:=k) (by omega)
    have later:∀d,k+1+d≤g.es.length→∀x y,((bI g both c a (k+1)).1.getD x 0).testBit y=true→((bI g both c a (k+1+d)).1.getD x 0).testBit y=true:=by
     intro d
     induction d with
     |zero=>intro _ x y hb;exact hb
     |succ d Tw=>
      intro hd x y hb
      have hb:=Tw (by omega) x y hb
      show ((bI g both c a (k+1+d+1)).1.getD x 0).testBit y=true
      simp only [bI] at hb ⊢
      split
      ·rename_i BH
       exact (grow_step hm (iz hm h (k:=k+1+d) (by omega)).1 (i:=k+1+d) (by omega) BH).2 x y hb
      ·exact hb
    have qD:=later (g.es.length - (k+1)) (by omega)
    rw [show k+1+(g.es.length - (k+1))=g.es.length by omega, ← e] at qD
    have zW:(bI g both c a (k+1)).1=(a.set (tl g k).toNat (a.getD (tl g k).toNat 0 ||| a.getD (hd g k).toNat 0)).set (hd g k).toNat (if both=true then a.getD (tl g k).toNat 0 ||| a.getD (hd g k).toNat 0 else a.getD (hd g k).toNat 0):=by
     simp only [bI];rw [if_pos hc,Q9]
    obtain ⟨ht,hh⟩:=dw hm (k:=k) (by omega)
    have ht:0≤tl g k∧tl g k<g.n:=ht
    have hh:0≤hd g k∧hd g k<g.n:=hh
    have hl:=h.len
    have rV:∀x,(bI g both c a (k+1)).1.getD x 0=if x=(hd g k).toNat then (if both=true then a.getD (tl g k).toNat 0 ||| a.getD (hd g k).toNat 0 else a.getD (hd g k).toNat 0) else if x=(tl g k).toNat then a.getD (tl g k).toNat 0 ||| a.getD (hd g k).toNat 0 else a.getD x 0:=fun x=>by
     rw [zW,mA (by rw [List.length_set];omega),mA (by omega)]
    have g1:(if both=true then a.getD (tl g k).toNat 0 ||| a.getD (hd g k).toNat 0 else a.getD (hd g k).toNat 0)=a.getD (hd g k).toNat 0:=by
     have:=nE (qD (hd g k).toNat)
     rw [rV,if_pos rfl] at this
     split at this
     ·rename_i hb
      rw [if_pos hb]
      exact Nat.le_antisymm this Nat.right_le_or
     ·rename_i hb;rw [if_neg hb]
    refine ⟨?_,g1⟩
    by_cases heq:(tl g k).toNat=(hd g k).toNat
    ·rw [heq,Nat.or_self]
    ·have:=nE (qD (tl g k).toNat)
     rw [rV,if_neg heq,if_pos rfl] at this
     exact Nat.le_antisymm this Nat.left_le_or
   ·rw [if_neg hc];exact ih
 rw [key _ (Nat.le_refl _)] at hne
 cases hne
theorem Dy {g:Gr} (hm:aL g=true) {both:Bool} {c:Nat→Bool} {a:List Nat} (h:DS g both c a) (hne:(bI g both c a g.es.length).2=false):a=AW g both c:=by
 obtain ⟨_,hcl⟩:=iQ hne
 have comp:∀x y,x<g.n.toNat→pn g both c x y→∀w,w<g.n.toNat→pn g both c w x→True:=fun _ _ _ _ _ _ _=>trivial
 have key:∀ {x y:Nat},pn g both c x y→∀z,(a.getD y 0).testBit z=true→(a.getD x 0).testBit z=true:=by
  intro x y hR
  induction hR with
  |refl=>exact fun z hz=>hz
  | @fwd i hi hc _ ih=>
    intro z hz
    refine ih z ?_
    rw [← (hcl i hi hc).1,Nat.testBit_or,hz,Bool.or_true]
  | @IK i hi hc hb _ ih=>
    intro z hz
    refine ih z ?_
    rw [← (hcl i hi hc).2 hb];exact hz
 refine List.ext_getElem? fun x=> ?_
 by_cases hx:x<g.n.toNat
 ·have e:a.getD x 0=(AW g both c).getD x 0:=by
   rw [AX hx]
   refine Nat.eq_of_testBit_eq fun y=> ?_
   rw [Bool.eq_iff_iff,B8]
   refine ⟨h.snd x y hx,fun ⟨h1,h2⟩=>key h2 y (h.own y h1)⟩
  rw [List.getD_eq_getElem?_getD,List.getD_eq_getElem?_getD,List.getElem?_eq_getElem (by rw [h.len];exact hx),List.getElem?_eq_getElem (by rw [rJ];exact hx)] at e
  rw [List.getElem?_eq_getElem (by rw [h.len];exact hx),List.getElem?_eq_getElem (by rw [rJ];exact hx)]
  simpa using e
 ·rw [List.getElem?_eq_none (by rw [h.len];omega),List.getElem?_eq_none (by rw [rJ];omega)]
end Go.Ab
end
section
namespace Go.Ab
open Go.Proofs
attribute [local congr] ACall.congr gd.congr Nx.congr
set_option maxRecDepth 20000
set_option maxHeartbeats 8000000
def rU (n:Nat):List D:= [.sc (.int .u64 (n:Int))]
def eU (n:Nat):AV:= .d (.sc (.int .u64 (n:Int)))
def sU (l:List Nat):D:= .sl 1 (l.map rU)
theorem getD_rU (ps:List Nat) (i:Nat):(ps.map rU).getD i [.sc (.int .u64 0)]= [.sc (.int .u64 ((ps.getD i 0:Nat):Int))]:=by
 rw [List.getD_eq_getElem?_getD,List.getElem?_map,List.getD_eq_getElem?_getD]
 cases ps[i]? <;>rfl
theorem jr (l:List Nat) (k:Nat) (v:Nat):(l.map rU).set k [.sc (.int .u64 (v:Int))]=(l.set k v).map rU:=by
 rw [List.map_set];rfl
attribute [go_sem] eU sU getD_rU InU
theorem HZ {s x:Nat} :decide ((((s >>> x &&& 1:Nat)):Int)=1)=s.testBit x:=by
 rw [Bool.eq_iff_iff,decide_eq_true_eq,Nat.testBit,Nat.and_comm]
 have:1 &&& s >>> x=0∨1 &&& s >>> x=1:=by
  rw [Nat.and_comm,Nat.and_one_is_mod];omega
 rcases this with h|h<;>rw [h]<;>simp
theorem Dz (s:Nat) (hs:s<18446744073709551616) (x:Int):Spec Tryz.prog 151 (Args [eU s,eN x]) [] (eB (decide (0≤x)&&decide (x<64)&&s.testBit x.toNat)) []:=by
 by_cases h0:0≤x
 rotate_left
 ·have hb0:decide (0≤x)=false:=decide_eq_false h0
  (refine Spec.hd (C:=T.cfg [] []) (rs:= [.t 4]) (T.ai _ _) Tryz.func151 rfl rfl Tryz.ntmps151 Tryz.results151 (by simp [AObj.isNest]) (by simp [AObj.isNest]) (by kernel_rfl) T.mixed fun X hX hP hC aQ cy=> ?_)
  repeat' (first|refine Rn.p ?_|(with_reducible apply And.intro)|((first|(refine hK _ ?_;clear hK K)|with_reducible intro K hK|refine Rs.p ?_|((with_reducible first|apply oP|apply oQ);exact rfl));try simp only [go_sem,simprocAttr,hb0])|((with_reducible refine oD ?_ ?_);kernel_rfl)|((with_reducible intro h);try simp only [go_sem,simprocAttr,hb0] at h)|omega|intro h)
 have hb0:decide (0≤x)=true:=decide_eq_true h0
 by_cases h1:x<64
 rotate_left
 ·have hb1:decide (x<64)=false:=decide_eq_false h1
  (refine Spec.hd (C:=T.cfg [] []) (rs:= [.t 4]) (T.ai _ _) Tryz.func151 rfl rfl Tryz.ntmps151 Tryz.results151 (by simp [AObj.isNest]) (by simp [AObj.isNest]) (by kernel_rfl) T.mixed fun X hX hP hC aQ cy=> ?_)
  repeat' (first|refine Rn.p ?_|(with_reducible apply And.intro)|((first|(refine hK _ ?_;clear hK K)|with_reducible intro K hK|refine Rs.p ?_|((with_reducible first|apply oP|apply oQ);exact rfl));try simp only [go_sem,simprocAttr,hb0,hb1])|((with_reducible refine oD ?_ ?_);kernel_rfl)|((with_reducible intro h);try simp only [go_sem,simprocAttr,hb0,hb1] at h)|omega|intro h)
 have hb1:decide (x<64)=true:=decide_eq_true h1
 obtain ⟨i,rfl⟩:∃i:Nat,x=i:=⟨x.toNat,by omega⟩
 have hlt:s >>> i<18446744073709551616:=Nat.lt_of_le_of_lt (Nat.shiftRight_le s i) hs
 have ha:=HZ (s:=s) (x:=i)
 generalize hq:s >>> i=q at hlt ha
 (refine Spec.hd (C:=T.cfg [] []) (rs:= [.t 4]) (T.ai _ _) Tryz.func151 rfl rfl Tryz.ntmps151 Tryz.results151 (by simp [AObj.isNest]) (by simp [AObj.isNest]) (by kernel_rfl) T.mixed fun X hX hP hC aQ cy=> ?_)
 repeat' (first|refine Rn.p ?_|(with_reducible apply And.intro)|((first|(refine hK _ ?_;clear hK K)|with_reducible intro K hK|refine Rs.p ?_|((with_reducible first|apply oP|apply oQ);exact rfl));try simp only [go_sem,simprocAttr,hb0,hb1,hq,ha])|((with_reducible refine oD ?_ ?_);kernel_rfl)|((with_reducible intro h);try simp only [go_sem,simprocAttr,hb0,hb1,hq,ha] at h)|omega|intro h)
theorem Ge (x:Nat) (hx:x<64):Spec Tryz.prog 192 (Args [.d (.sl 1 [[.sc (.int .i64 (x:Int))]])]) [] (eU (2 ^ x)) []:=by
 have hsh:1 <<< x % 18446744073709551616=2 ^ x:=by
  rw [Nat.shiftLeft_eq,Nat.one_mul,Nat.mod_eq_of_lt]
  exact Nat.lt_of_lt_of_le (Nat.pow_lt_pow_right (by decide) hx) (by decide)
 have hlt:2 ^ x<18446744073709551616:=Nat.lt_of_lt_of_le (Nat.pow_lt_pow_right (by decide) hx) (by decide)
 have hb1:decide (0≤(x:Int))=true:=decide_eq_true (by omega)
 have hb2:decide ((x:Int)<64)=true:=decide_eq_true (by omega)
 (refine Spec.hd (C:=T.cfg [] []) (rs:= [.t 2]) (T.ai _ _) Tryz.func192 rfl rfl Tryz.ntmps192 Tryz.results192 (by simp [AObj.isNest]) (by simp [AObj.isNest]) (by kernel_rfl) T.mixed fun X hX hP hC aQ cy=> ?_)
 repeat' (first|refine Rn.p ?_|(with_reducible apply And.intro)|((first|(refine hK _ ?_;clear hK K)|with_reducible intro K hK|refine Rs.p ?_|((with_reducible first|apply oP|apply oQ);exact rfl));try simp only [go_sem,simprocAttr])|((with_reducible refine oD ?_ ?_);kernel_rfl)|((with_reducible intro h);try simp only [go_sem,simprocAttr] at h)|omega|intro h)
 refine ak (fun k:Nat=>k≤1) (fun k=>⟨[(2,eU (if k=0 then 0 else 2 ^ x)),(5, .d (.sl 1 [[.sc (.int .i64 (x:Int))]])),(6,eN 1),(7,eN k)], []⟩) (fun k=>1 - k) 0 (by omega) ?_ ?_
 ·refine Le.of ?_ ?_<;>simp [go_sem,simprocAttr]
 rintro k hk
 match k,hk with
 |0,_=>
  repeat' (first|refine Rn.p ?_|(with_reducible apply And.intro)|((first|(refine hK _ ?_;clear hK K)|with_reducible intro K hK|refine Rs.p ?_|((with_reducible first|apply oP|apply oQ);exact rfl));try simp only [go_sem,simprocAttr,hsh,hb1,hb2,Nat.zero_or])|((with_reducible refine oD ?_ ?_);kernel_rfl)|((with_reducible intro h);try simp only [go_sem,simprocAttr,hsh,hb1,hb2,Nat.zero_or] at h)|omega|intro h)
  all_goals (refine ⟨1,by omega, ?_,by omega⟩)
  all_goals (refine Le.of ?_ ?_<;>simp [go_sem,simprocAttr,hsh,hb1,hb2,Nat.zero_or])
 |1,_=>
  repeat' (first|refine Rn.p ?_|(with_reducible apply And.intro)|((first|(refine hK _ ?_;clear hK K)|with_reducible intro K hK|refine Rs.p ?_|((with_reducible first|apply oP|apply oQ);exact rfl));try simp only [go_sem,simprocAttr])|((with_reducible refine oD ?_ ?_);kernel_rfl)|((with_reducible intro h);try simp only [go_sem,simprocAttr] at h)|omega|intro h)
end Go.Ab
end
section
namespace Go.Ab
open Go.Proofs
attribute [local congr] ACall.congr gd.congr Nx.congr
set_option maxRecDepth 20000
set_option maxHeartbeats 8000000
def qe (k:Nat):List Nat:=(List.range k).map fun x=>2 ^ x
theorem DA {k:Nat} :qe (k+1)=qe k++ [2 ^ k]:=by simp [qe,List.range_succ]
theorem uw {k:Nat} :(qe k).length=k:=by simp [qe]
def jk (g:Gr):List Nat:=if aL g=true then qe g.n.toNat else []
theorem AZ (g:Gr) (hl:g.es.length≤9223372036854775807):Spec Tryz.prog 148 (Args [eG g]) [] (.ref 10000) [(10000, .own 208 1 ((jk g).map rU))]:=by
 have hM:=fC g hl
 cases hm:aL g with
 |false=>
  rw [hm] at hM
  have he:jk g= []:=by unfold jk;rw [hm];rfl
  rw [he]
  (refine Spec.sM (C:=T.cfg [200,17] []) (rs:= [.t 2]) [(10000,200)] (T.ai _ _) Tryz.func148 rfl rfl Tryz.ntmps148 Tryz.results148 (by simp [AObj.isNest]) (by simp [AObj.isNest]) (by first|(simp [look];done)|(simp [asN];done)|(intro l hl;simp only [asN];repeat (rw [if_neg (fun e=>by subst e;simp [look] at hl)]))) (by first|(simp [look];done)|(simp [asN];done)|(intro l hl;simp only [asN];repeat (rw [if_neg (fun e=>by subst e;simp [look] at hl)]))) (by kernel_rfl) T.mixed fun X hX hP hC aQ cy=> ?_)
  repeat' (first|(show cr _ .ret _ _;(try simp only [go_sem,simprocAttr]);refine dn hX 2 200 (.own 208 1 []) ?_ ?_ (by decide) ⟨208,1,by decide, .inl rfl⟩ ?_;(iterate 2 (focus (simp only [go_sem,simprocAttr];done)));simp only [go_sem,simprocAttr])|refine Rn.p ?_|(with_reducible apply And.intro)|((first|(refine hK _ ?_;clear hK K)|with_reducible intro K hK|refine Rs.p ?_|((with_reducible first|apply oP|apply oQ);exact rfl)|refine aa hX hC hP (hM) rfl rfl rfl (by simp only [go_sem,simprocAttr]) rfl ?_);try simp only [go_sem,simprocAttr])|((with_reducible refine oD ?_ ?_);kernel_rfl)|((with_reducible intro h);try simp only [go_sem,simprocAttr] at h)|omega|intro h)
 |true=>
  rw [hm] at hM
  have hn:=aG hm
  have he:jk g=qe g.n.toNat:=by unfold jk;rw [if_pos hm]
  rw [he]
  (refine Spec.sM (C:=T.cfg [200,17] []) (rs:= [.t 2]) [(10000,200)] (T.ai _ _) Tryz.func148 rfl rfl Tryz.ntmps148 Tryz.results148 (by simp [AObj.isNest]) (by simp [AObj.isNest]) (by first|(simp [look];done)|(simp [asN];done)|(intro l hl;simp only [asN];repeat (rw [if_neg (fun e=>by subst e;simp [look] at hl)]))) (by first|(simp [look];done)|(simp [asN];done)|(intro l hl;simp only [asN];repeat (rw [if_neg (fun e=>by subst e;simp [look] at hl)]))) (by kernel_rfl) T.mixed fun X hX hP hC aQ cy=> ?_)
  repeat' (first|(show cr _ (.seq (.region 3 _ _) _) _ _;(refine dn hX 2 200 (.own 208 1 []) ?_ ?_ (by decide) ⟨208,1,by decide, .inl rfl⟩ ?_;(iterate 2 (focus (simp only [go_sem,simprocAttr];done)));simp only [go_sem,simprocAttr]))|refine Rn.p ?_|(with_reducible apply And.intro)|((first|(refine hK _ ?_;clear hK K)|with_reducible intro K hK|refine Rs.p ?_|((with_reducible first|apply oP|apply oQ);exact rfl)|refine aa hX hC hP (hM) rfl rfl rfl (by simp only [go_sem,simprocAttr]) rfl ?_);try simp only [go_sem,simprocAttr])|((with_reducible refine oD ?_ ?_);kernel_rfl)|((with_reducible intro h);try simp only [go_sem,simprocAttr] at h)|omega|intro h)
  refine ak (fun k:Nat=>k≤g.n.toNat) (fun k=>⟨[(2, .ref 200),(8,eN g.n),(9,eN k)], [(200, .own 208 1 ((qe k).map rU))]⟩) (fun k=>g.n.toNat - k) 0 (by omega) ?_ ?_
  ·refine Le.of ?_ ?_<;>simp [go_sem,simprocAttr,qe]
  rintro k hk
  rcases Nat.lt_or_ge k g.n.toNat with hlt|hge
  ·have hb:decide ((k:Int)<g.n)=true:=decide_eq_true (by omega)
   have qP:=uw (k:=k)
   have dS:=DA (k:=k)
   have Tx:=Ge k (by omega)
   generalize qe k=O1 at qP dS
   repeat' (first|(show cr _ (.region 7 _ _) _ _;(refine EP hX 2 17 200 (by simp only [go_sem,simprocAttr,hb,qP]) rfl (by first|exact .inl rfl|exact .inr rfl) (by decide) ?_;simp only [go_sem,simprocAttr,hb,qP]))|refine Rn.p ?_|(with_reducible apply And.intro)|((first|(refine hK _ ?_;clear hK K)|with_reducible intro K hK|refine Rs.p ?_|((with_reducible first|apply oP|apply oQ);exact rfl)|(refine cD hX hC hP (Tx) rfl rfl rfl ?_ ?_ rfl ?_;iterate 2 (focus (simp only [go_sem,simprocAttr,hb,qP];done))));try simp only [go_sem,simprocAttr,hb,qP])|((with_reducible refine oD ?_ ?_);kernel_rfl)|((with_reducible intro h);try simp only [go_sem,simprocAttr,hb,qP] at h)|omega|intro h)
   refine ⟨k+1,by omega, ?_,by omega⟩
   rw [dS]
   refine Le.of ?_ ?_<;>simp [go_sem,simprocAttr,hb,qP,rU]
  ·have hb:decide ((k:Int)<g.n)=false:=decide_eq_false (by omega)
   obtain rfl:k=g.n.toNat:=by omega
   repeat' (first|refine Rn.p ?_|(with_reducible apply And.intro)|((first|(refine hK _ ?_;clear hK K)|with_reducible intro K hK|refine Rs.p ?_|((with_reducible first|apply oP|apply oQ);exact rfl));try simp only [go_sem,simprocAttr,hb])|((with_reducible refine oD ?_ ?_);kernel_rfl)|((with_reducible intro h);try simp only [go_sem,simprocAttr,hb] at h)|omega|intro h)
theorem Ra {a b:Nat} :(!decide ((a:Int)=(b:Int)))=decide (a≠b):=by
 by_cases h:a=b
 ·simp [h]
 ·simp [h];omega
theorem H6 {g:Gr} (hn:g.n.toNat≤64) (both:Bool) (c:Nat→Bool):∃M:Nat,∀b:List Nat,DS g both c b→uv b≤M:=
 ⟨_,fun b hb=>by have:=zv (a:=b) fun x=>hb.lt hn x;rw [hb.len] at this;exact this⟩
theorem tI {l:List Nat} :∀r∈l.map rU,∀x∈r,∃v,x=D.sc v:=by
 intro r hr x hx
 obtain ⟨y,_,rfl⟩:=List.mem_map.1 hr
 simp only [rU,List.mem_singleton] at hx
 exact ⟨_,hx⟩
theorem DB {g:Gr} (hm:aL g=true) {both:Bool} {c:Nat→Bool} :DS g both c (jk g):=by
 have he:jk g=qe g.n.toNat:=by unfold jk;rw [if_pos hm]
 have mE:∀x,x<g.n.toNat→(qe g.n.toNat).getD x 0=2 ^ x:=fun x hx=>by simp [qe,List.getD_eq_getElem?_getD,List.getElem?_range hx]
 rw [he]
 refine ⟨uw,fun x hx=>by rw [mE x hx,Nat.testBit_two_pow_self],fun x y hx hb=> ?_⟩
 rw [mE x hx,Nat.testBit_two_pow] at hb
 have:x=y:=of_decide_eq_true hb
 subst this
 exact ⟨hx, .refl⟩
noncomputable def U4 (g:Gr):List Nat:=if aL g=true then AW g false (fun _=>true) else []
end Go.Ab
end
