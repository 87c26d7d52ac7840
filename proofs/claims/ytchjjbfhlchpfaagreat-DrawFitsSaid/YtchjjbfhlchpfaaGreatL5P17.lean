/- A part of the proof. -/
import Derived.Test.YtchjjbfhlchpfaaGreatL5P16
set_option linter.unusedSimpArgs false
set_option linter.unusedVariables false
section
namespace Go.Ab
def nm (names:List Int) (v:Int):Int:=names.getD v.toNat 0
structure iN (g:Gr) (names order:List Int):Prop where
 may:aK g=true
 Is:kY names g.n=true
 ord:kY order (g.es.length:Int)=true
section
variable {g:Gr} {names order:List Int} (h:iN g names order)
include h
theorem iN.len:(gj g names order).es.length=g.es.length:=by
 have:=(cn.1 h.ord).1
 simp only [gj,yg];omega
theorem iN.iT {i:Nat} (hi:i<g.es.length):∃j,j<g.es.length∧order.getD i 0=(j:Int)∧(gj g names order).es.getD i (0,0)=(nm names (tl g j),nm names (hd g j)):=by
 have qg:=(cn.1 h.ord).1
 have:=sq h.ord _ (jr (l:=order) (m:=i) (by omega))
 refine ⟨(order.getD i 0).toNat,by omega,by omega, ?_⟩
 simp only [gj,Gf,nm,tl,hd]
 rw [List.getD_eq_getElem?_getD,List.getElem?_map,List.getElem?_range (by omega)]
 rfl
theorem iN.back {j:Nat} (hj:j<g.es.length):∃i,i<g.es.length∧order.getD i 0=(j:Int)∧(gj g names order).es.getD i (0,0)=(nm names (tl g j),nm names (hd g j)):=by
 obtain ⟨qg,hall⟩:=cn.1 h.ord
 obtain ⟨i,hi,hil,he⟩:=ic (hall (j:Int) (cC.2 (by omega)))
 obtain ⟨j',_,h2,h3⟩:=h.iT (i:=i) (by omega)
 have:j'=j:=by omega
 subst this
 exact ⟨i,by omega,he,h3⟩
theorem iN.inj {a b:Int} (ha:0≤a∧a<g.n) (hb:0≤b∧b<g.n) (e:nm names a=nm names b):a=b:=by
 have hnl:=(cn.1 h.Is).1
 have:=jZ h.Is (i:=a.toNat) (j:=b.toNat) (by omega) (by omega) e
 omega
theorem iN.range {a:Int} (ha:0≤a∧a<g.n):0≤nm names a∧nm names a<g.n:=by
 have hnl:=(cn.1 h.Is).1
 exact sq h.Is _ (jr (by omega))
theorem iN.inv {a:Int} (ha:0≤a∧a<g.n):fC names (nm names a)=a:=by
 have hnl:=(cn.1 h.Is).1
 obtain ⟨k,hk,cm,he⟩:=ic (jr (l:=names) (m:=a.toNat) (by omega))
 have h2:=jZ h.Is cm (j:=a.toNat) (by omega) he
 have h3:fC names (nm names a)=k:=hk
 omega
theorem iN.of {v:Int} (hv:0≤v∧v<g.n):∃a,(0≤a∧a<g.n)∧nm names a=v:=by
 obtain ⟨hnl,hall⟩:=cn.1 h.Is
 obtain ⟨k,hk,cm,he⟩:=ic (hall v (cC.2 (by omega)))
 exact ⟨k,by omega,he⟩
theorem iN.may':aK (gj g names order)=true:=by
 have hn:=aH h.may
 have hlen:=h.len
 have hall:(gj g names order).es.any (mo (gj g names order))=false:=by
  rw [List.any_eq_false]
  intro e he
  obtain ⟨i,hi,rfl⟩:=List.getElem_of_mem he
  obtain ⟨j,hj,_,h3⟩:=h.iT (i:=i) (by omega)
  rw [List.getD_eq_getElem?_getD,List.getElem?_eq_getElem hi,Option.getD_some] at h3
  rw [h3]
  have h4:=h.range (aZ h.may hj)
  have h5:=h.range (bn h.may hj)
  have e1:(gj g names order).n=g.n:=rfl
  simp only [mo,rN,e1,Bool.or_eq_true,decide_eq_true_eq]
  omega
 have e1:(gj g names order).n=g.n:=rfl
 simp only [aK,hall,e1,Bool.not_false,Bool.and_true,Bool.and_eq_true,decide_eq_true_eq]
 omega
omit h in
theorem oS {i j:Nat} (e:(gj g names order).es.getD i (0,0)=(nm names (tl g j),nm names (hd g j))):tl (gj g names order) i=nm names (tl g j)∧hd (gj g names order) i=nm names (hd g j):=⟨congrArg Prod.fst e,congrArg Prod.snd e⟩
theorem iN.loop:(0≤kX (gj g names order))↔0≤kX g:=by
 have key:∀g:Gr,(0≤kX g)↔∃i,i<g.es.length∧tl g i=hd g i:=by
  intro g
  have:=ew (fun e:Edge=>decide (e.1=e.2)) g.es
  rw [show (0≤kX g)↔g.es.any (fun e:Edge=>decide (e.1=e.2))=true from by rw [← this];simp [kX],List.any_eq_true]
  constructor
  ·rintro ⟨e,he,h2⟩
   obtain ⟨i,hi,rfl⟩:=List.getElem_of_mem he
   refine ⟨i,hi, ?_⟩
   simpa [tl,hd,List.getD_eq_getElem?_getD,List.getElem?_eq_getElem hi] using h2
  ·rintro ⟨i,hi,h2⟩
   refine ⟨_,List.getElem_mem hi, ?_⟩
   simpa [tl,hd,List.getD_eq_getElem?_getD,List.getElem?_eq_getElem hi] using h2
 rw [key,key,h.len]
 constructor
 ·rintro ⟨i,hi,e⟩
  obtain ⟨j,hj,_,h3⟩:=h.iT hi
  obtain ⟨e1,e2⟩:=oS h3
  exact ⟨j,hj,h.inj (aZ h.may hj) (bn h.may hj) (by rw [← e1, ← e2,e])⟩
 ·rintro ⟨j,hj,e⟩
  obtain ⟨i,hi,_,h3⟩:=h.back hj
  obtain ⟨e1,e2⟩:=oS h3
  exact ⟨i,hi,by rw [e1,e2,e]⟩
omit h in
theorem gQ (g:Gr):(0≤dZ g)↔∃i k,i<g.es.length∧k<g.es.length∧i≠k∧g.es.getD i (0,0)=g.es.getD k (0,0):=by
 have:=ew (sg g) (List.range g.es.length)
 rw [show (0≤dZ g)↔(List.range g.es.length).any (sg g)=true from by rw [← this];simp [dZ],List.any_eq_true]
 constructor
 ·rintro ⟨i,hi,h2⟩
  have hil:=List.mem_range.1 hi
  have h3:=of_decide_eq_true h2
  rw [List.mem_iff_getElem?] at h3
  obtain ⟨k,hk⟩:=h3
  rw [List.getElem?_take] at hk
  split at hk
  ·rename_i hki
   exact ⟨i,k,hil,by omega,by omega,by rw [List.getD_eq_getElem?_getD (i:=k),hk];rfl⟩
  ·cases hk
 ·rintro ⟨i,k,hi,hk,hne,e⟩
  have main:∀i k,k<i→i<g.es.length→g.es.getD i (0,0)=g.es.getD k (0,0)→sg g i=true:=by
   intro i k hki hi e
   refine decide_eq_true ?_
   rw [e,List.mem_iff_getElem?]
   refine ⟨k, ?_⟩
   rw [List.getElem?_take,if_pos hki,List.getD_eq_getElem?_getD,List.getElem?_eq_getElem (by omega)];rfl
  rcases Nat.lt_or_gt_of_ne hne with hlt|hgt
  ·exact ⟨k,List.mem_range.2 hk,main k i hlt hk e.symm⟩
  ·exact ⟨i,List.mem_range.2 hi,main i k hgt hi e⟩
theorem iN.KE:(0≤dZ (gj g names order))↔0≤dZ g:=by
 have qg:=(cn.1 h.ord).1
 rw [gQ,gQ,h.len]
 constructor
 ·rintro ⟨i,k,hi,hk,hne,e⟩
  obtain ⟨j,hj,ho,h3⟩:=h.iT hi
  obtain ⟨j',hj',ho',Dg⟩:=h.iT hk
  refine ⟨j,j',hj,hj',fun e'=> ?_, ?_⟩
  ·subst e'
   exact hne (jZ h.ord (by omega) (by omega) (by rw [ho,ho']))
  ·rw [h3,Dg,Prod.mk.injEq] at e
   have e1:=h.inj (aZ h.may hj) (aZ h.may hj') e.1
   have e2:=h.inj (bn h.may hj) (bn h.may hj') e.2
   exact Prod.ext e1 e2
 ·rintro ⟨j,j',hj,hj',hne,e⟩
  obtain ⟨i,hi,ho,h3⟩:=h.back hj
  obtain ⟨k,hk,ho',Dg⟩:=h.back hj'
  refine ⟨i,k,hi,hk,fun e'=> ?_, ?_⟩
  ·subst e';omega
  ·have e1:tl g j=tl g j':=congrArg Prod.fst e
   have e2:hd g j=hd g j':=congrArg Prod.snd e
   rw [h3,Dg,e1,e2]
theorem iN.Nz:AO (gj g names order)=AO g:=by
 rw [Bool.eq_iff_iff,qw h.may',qw h.may]
 constructor
 ·rintro ⟨r,hr⟩
  refine ⟨fun v=>r (nm names v),fun j hj=> ?_⟩
  obtain ⟨i,hi,_,h3⟩:=h.back hj
  obtain ⟨e1,e2⟩:=oS h3
  have:=hr i (by rw [h.len];exact hi)
  rwa [e1,e2] at this
 ·rintro ⟨r,hr⟩
  refine ⟨fun v=>r (fC names v),fun i hi=> ?_⟩
  rw [h.len] at hi
  obtain ⟨j,hj,_,h3⟩:=h.iT hi
  obtain ⟨e1,e2⟩:=oS h3
  have:=hr j hj
  rw [e1,e2];simp only;rw [h.inv (aZ h.may hj),h.inv (bn h.may hj)]
  exact this
omit h in
theorem iq {g:Gr} {y:Int} :y∈bM (·.2) g↔(0≤y∧y<g.n)∧∀i,i<g.es.length→hd g i≠y:=by
 simp only [bM,jl,List.mem_map,List.mem_filter,List.mem_range,decide_eq_true_eq]
 have he:∀x:Nat,x<g.n.toNat→(((dr (·.2) g).getD x []).length=0↔∀i,i<g.es.length→hd g i≠(x:Int)):=by
  intro x hx
  have e:(dr (·.2) g).getD x []=aL (·.2) g.es g.es.length (x:Int):=by
   simp [dr,List.getD_eq_getElem?_getD,List.getElem?_range hx,nE]
  rw [e,List.length_eq_zero_iff]
  simp only [aL,List.map_eq_nil_iff,List.filter_eq_nil_iff,List.mem_range,decide_eq_true_eq]
  rfl
 constructor
 ·rintro ⟨x,⟨hx,h0⟩,rfl⟩
  refine ⟨by simp;omega,(he x hx).1 h0⟩
 ·rintro ⟨⟨h1,h2⟩,h3⟩
  have e:((y.toNat:Nat):Int)=y:=by omega
  exact ⟨y.toNat,⟨by omega,(he _ (by omega)).2 (by rw [e];exact h3)⟩,e⟩
omit h in
theorem dy {f:Edge→Int} {g:Gr} :(bM f g).Nodup:=by
 unfold bM jl
 refine List.Pairwise.map _ (fun a b h e=>h (Int.ofNat.inj e)) (List.Pairwise.filter _ List.nodup_range)
theorem iN.bare:(bM (·.2) (gj g names order)).length=(bM (·.2) g).length:=by
 have e1:(gj g names order).n=g.n:=rfl
 have h1:((bM (·.2) g).map (nm names)).length≤(bM (·.2) (gj g names order)).length:=by
  refine Nat.le_trans (count_le _ (bM (·.2) (gj g names order)) ?_ ?_) List.countP_le_length
  ·rw [List.nodup_iff_pairwise_ne]
   refine List.Pairwise.map _ (fun a b h=>h) ?_
   refine List.Pairwise.imp_of_mem ?_ dy
   intro a b ha hb hab e
   exact hab (h.inj (iq.1 ha).1 (iq.1 hb).1 e)
  ·intro v hv
   obtain ⟨y,hy,rfl⟩:=List.mem_map.1 hv
   obtain ⟨hy1,hy2⟩:=iq.1 hy
   refine iq.2 ⟨h.range hy1,fun i hi e=> ?_⟩
   rw [h.len] at hi
   obtain ⟨j,hj,_,h3⟩:=h.iT hi
   rw [(oS h3).2] at e
   exact hy2 j hj (h.inj (bn h.may hj) hy1 e)
 have h2:((bM (·.2) (gj g names order)).map (fC names)).length≤(bM (·.2) g).length:=by
  have hsplit:∀v∈bM (·.2) (gj g names order),∃a,(0≤a∧a<g.n)∧nm names a=v:=fun v hv=>h.of (iq.1 hv).1
  refine Nat.le_trans (count_le _ (bM (·.2) g) ?_ ?_) List.countP_le_length
  ·rw [List.nodup_iff_pairwise_ne]
   refine List.Pairwise.map _ (fun a b h=>h) ?_
   refine List.Pairwise.imp_of_mem ?_ dy
   intro a b ha hb hab e
   obtain ⟨a',Kj,rfl⟩:=hsplit a ha
   obtain ⟨b',hb',rfl⟩:=hsplit b hb
   rw [h.inv Kj,h.inv hb'] at e
   exact hab (by rw [e])
  ·intro v hv
   obtain ⟨y,hy,rfl⟩:=List.mem_map.1 hv
   obtain ⟨a,ha,rfl⟩:=hsplit y hy
   rw [h.inv ha]
   refine iq.2 ⟨ha,fun j hj e=> ?_⟩
   obtain ⟨i,hi,_,h3⟩:=h.back hj
   refine (iq.1 hy).2 i (by rw [h.len];exact hi) ?_
   rw [(oS h3).2,e]
 simp only [List.length_map] at h1 h2
 omega
theorem iN.kind:(bX (gj g names order)).1=(bX g).1:=by
 have hm:=h.may'
 have hc:(0<(kU (gj g names order)).length)↔0<(kU g).length:=by
  have key:∀g:Gr,aK g=true→((0<(kU g).length)↔AO g=false):=by
   intro g hm
   cases ho:AO g with
   |true=>rw [wk hm ho];simp
   |false=>simp [(EE hm ho).1]
  rw [key _ hm,key _ h.may,h.Nz]
 have h1:=h.loop
 have h2:=h.KE
 have h3:=h.bare
 simp only [bX,jm,hm,h.may]
 simp only [Bool.true_eq_false,if_false,h1,h2,hc,h3]
 split
 ·rfl
 split
 ·rfl
 split
 ·rfl
 split<;>rfl
end
end Go.Ab
end
section
namespace Go.Ab
open Go.Proofs
set_option maxRecDepth 10000
def CU:Nat→List Edge→Int→Option (Int × Int)
 |_, [],_=>none
 |m,e::N,v=>if e.1=v then some ((m:Int),e.2) else CU (m+1) N v
theorem yh {v:Int} :∀ {m:Nat} {N:List Edge},(∀e∈N,e.1≠v)→CU m N v=none
 |_, [],_=>rfl
 |m,e::N,h=>by rw [CU,if_neg (h e (List.mem_cons_self ..)),yh fun e' he=>h e' (List.mem_cons_of_mem _ he)]
theorem yj:∀ {m:Nat} {N:List Edge},(N.map (·.1)).Nodup→∀ {j:Nat},j<N.length→CU m N (N.getD j (0,0)).1=some (((m+j:Nat):Int),(N.getD j (0,0)).2)
 |m,e::N,hd,0,_=>by rw [List.getD_cons_zero,CU,if_pos rfl];rfl
 |m,e::N,hd,j+1,hj=>by
  rw [List.map_cons,List.nodup_cons] at hd
  have hj':j<N.length:=by simpa using hj
  rw [List.getD_cons_succ,CU,if_neg (fun h=>hd.1 (List.mem_map.2 ⟨_,aS hj',h.symm⟩)),yj hd.2 hj']
  congr 2
  omega
theorem nO {m:Nat} {N:List Edge} (hd:(N.map (·.1)).Nodup) {v h:Int} (he:(v,h)∈N):∃j:Nat,j<N.length∧CU m N v=some (((m+j:Nat):Int),h)∧N.getD j (0,0)=(v,h):=by
 obtain ⟨j,hj,e⟩:=List.mem_iff_getElem.1 he
 have e2:N.getD j (0,0)=(v,h):=by rw [List.getD_eq_getElem?_getD,List.getElem?_eq_getElem hj,Option.getD_some,e]
 have:=yj (m:=m) hd hj
 rw [e2] at this
 exact ⟨j,hj,this,e2⟩
theorem oT {m:Nat} {N:List Edge} (hd:(N.map (·.1)).Nodup) (v:Int):(CU m N v=none∧∀e∈N,e.1≠v)∨∃h,(v,h)∈N:=by
 by_cases h:∃e∈N,e.1=v
 ·obtain ⟨e,he,rfl⟩:=h
  exact .inr ⟨e.2,he⟩
 ·have h':∀e∈N,e.1≠v:=fun e he h2=>h ⟨e,he,h2⟩
  exact .inl ⟨yh h',h'⟩
def mI (m:Nat) (N:List Edge) (t:It):It:=if 0≤t.1 then t else match CU m N t.2.1 with
 |some (i,h)=>(i,t.2.1,h)
 |none=>t
theorem nP {m:Nat} {N:List Edge} {t:It} (h:0≤t.1):mI m N t=t:=if_pos h
theorem jB {m:Nat} {N:List Edge} {t:It} (h:t.1<0) {i x:Int} (hn:CU m N t.2.1=some (i,x)):mI m N t=(i,t.2.1,x):=by
 unfold mI
 rw [if_neg (by omega),hn]
theorem s6 {m:Nat} {N:List Edge} {t:It} (hn:CU m N t.2.1=none):mI m N t=t:=by
 unfold mI
 split
 ·rfl
 ·rw [hn]
structure kj (g:Gr) (p:Pl):Prop where
 run:aU g p
 n:(ak g p).n≤64
 es:(ak g p).es.length≤128
variable {g:Gr} {p:Pl}
theorem s7 {v x:Int} :∀ {k:Nat},(v,x)∈cq g p k→∃i,i<k∧x=aD p i∧v∈loose (cW g p i)
 |k+1,h=>by
  rw [cq,List.mem_append] at h
  rcases h with h|h
  ·obtain ⟨i,h1,h2⟩:=s7 h
   exact ⟨i,by omega,h2⟩
  ·obtain ⟨w,hw,e⟩:=List.mem_map.1 h
   cases e
   exact ⟨k,by omega,rfl,hw⟩
theorem nQ {v:Int} :∀ {k i:Nat},i<k→v∈loose (cW g p i)→(v,aD p i)∈cq g p k
 |k+1,i,hi,h=>by
  rw [cq,List.mem_append]
  by_cases e:i=k
  ·subst e;exact .inr (List.mem_map.2 ⟨v,h,rfl⟩)
  ·exact .inl (nQ (by omega) h)
theorem s8 {v x:Int} (h:(v,x)∈aW g p):(∃i,i<g.n.toNat∧x=aD p i∧v∈loose (cW g p i))∨(1<(aV g p).length∧x=g.n∧v∈loose (aV g p)):=by
 rw [aW,List.mem_append] at h
 rcases h with h|h
 ·exact .inl (s7 h)
 ·unfold newL at h
  split at h
  ·obtain ⟨w,hw,e⟩:=List.mem_map.1 h
   cases e
   exact .inr ⟨by assumption,rfl,hw⟩
  ·cases h
theorem lJ {l:List It} {t:It} (h:t∈l) (h0:t.1<0):t.2.1∈loose l:=List.mem_map.2 ⟨t,List.mem_filter.2 ⟨h,decide_eq_true h0⟩,rfl⟩
theorem wm (h:kj g p):aK (ak g p)=true:=by
 have hm:=ai h.run.1
 have hn:=aH hm
 have QA:g.n≤(ak g p).n:=by unfold ak;split<;>simp only<;>omega
 have h1:=h.n
 have h2:=h.es
 simp only [aK,Bool.and_eq_true,decide_eq_true_eq,Bool.not_eq_true',List.any_eq_false]
 refine ⟨⟨⟨by omega,h1⟩,by omega⟩,fun e he=> ?_⟩
 have he:e∈g.es++aW g p:=he
 simp only [mo,rN,Bool.or_eq_true,decide_eq_true_eq,not_or]
 rcases List.mem_append.1 he with he|he
 ·obtain ⟨i,hi,rfl⟩:=List.mem_iff_getElem.1 he
  have:=dg hm hi
  rw [List.getD_eq_getElem?_getD,List.getElem?_eq_getElem hi,Option.getD_some] at this
  omega
 ·have q1:=((dU h.run).2 e he).1
  rcases s8 (v:=e.1) (x:=e.2) he with ⟨i,hi,hx,_⟩|⟨hl,hx,_⟩
  ·have:=bq h.run.2.1 hi
   omega
  ·have:(ak g p).n=g.n+1:=if_pos hl
   omega
theorem nR {v:Int} :cg (ak g p) v=cg g v++(aL (·.1) (aW g p) (aW g p).length v).map (· +(g.es.length:Int)):=oO
theorem s9 (i:Nat) (hi:i<g.es.length):(ak g p).es.getD i (0,0)=g.es.getD i (0,0):=by
 show (g.es++aW g p).getD i (0,0)=_
 rw [List.getD_eq_getElem?_getD,List.getElem?_append_left hi, ← List.getD_eq_getElem?_getD]
theorem nS (j:Nat):(ak g p).es.getD (g.es.length+j) (0,0)=(aW g p).getD j (0,0):=by
 show (g.es++aW g p).getD _ (0,0)=_
 rw [List.getD_eq_getElem?_getD,List.getElem?_append_right (by omega),Nat.add_sub_cancel_left, ← List.getD_eq_getElem?_getD]
theorem oU (hr:aU g p) {v:Int} (h0:0≤v∧v<g.n) (hs:bY p v= []):(∀h,(v,h)∈aW g p→∃j:Nat,CU g.es.length (aW g p) v=some (((g.es.length+j:Nat):Int),h)∧cg (ak g p) v= [((g.es.length+j:Nat):Int)]∧(ak g p).es.getD (g.es.length+j) (0,0)=(v,h))∧
 ((∀e∈aW g p,e.1≠v)→cg (ak g p) v= []):=by
 obtain ⟨qN,A0⟩:=dU hr
 have hz:cg g v= []:=(k4 hr.2.1 h0.1 h0.2).2 hs
 constructor
 ·intro h hm
  obtain ⟨j,hj,h1,h2⟩:=nO (m:=g.es.length) qN hm
  refine ⟨j,h1, ?_,by rw [nS,h2]⟩
  have e1:=yb qN hj
  rw [h2] at e1
  rw [nR,hz,e1]
  simp;omega
 ·intro h
  rw [nR,hz,gP h];rfl
theorem ta (hr:aU g p) {v:Int} (h0:0≤v∧v<g.n) (hs:bY p v≠ []):cg (ak g p) v=cg g v:=by
 obtain ⟨qN,A0⟩:=dU hr
 rw [nR,gP fun e he h=>hs (by rw [← h];exact (A0 e he).2)]
 simp
theorem ir:g.n≤(ak g p).n∧(ak g p).n≤g.n+1:=by
 unfold ak;split<;>simp only<;>omega
theorem A3 (hr:aU g p) {v:Int} (h0:0≤v∧v<g.n):bY (bD g p) v=if bY p v≠ [] then bY p v else cg (ak g p) v:=by
 have hn:=ir (g:=g) (p:=p)
 unfold bY
 rw [sX hr,zT,List.getD_eq_getElem?_getD,List.getElem?_map,List.getElem?_range (by omega)]
 simp only [Option.map_some,Option.getD_some]
 rw [show ((v.toNat:Nat):Int)=v by omega]
 by_cases h:p.outs.getD v.toNat []= []
 ·rw [h];simp
 ·rw [if_pos (List.length_pos_iff.2 h),if_pos h]
theorem qx (hr:aU g p) (hl:1<(aV g p).length):bY (bD g p) g.n= []∧cg (ak g p) g.n= []:=by
 have hm:=ai hr.1
 have hn:=aH hm
 have hG:(ak g p).n=g.n+1:=if_pos hl
 have hz:cg (ak g p) g.n= []:=by
  rw [nR,gP fun e he h=>by have:=((dU hr).2 e he).1;omega]
  simp only [List.map_nil,List.append_nil]
  refine gP fun e he h=> ?_
  obtain ⟨i,hi,rfl⟩:=List.mem_iff_getElem.1 he
  have:=(dg hm hi).1
  rw [List.getD_eq_getElem?_getD,List.getElem?_eq_getElem hi,Option.getD_some] at this
  omega
 refine ⟨?_,hz⟩
 unfold bY
 rw [sX hr,zT,List.getD_eq_getElem?_getD,List.getElem?_map,List.getElem?_range (by omega)]
 simp only [Option.map_some,Option.getD_some]
 rw [show ((g.n.toNat:Nat):Int)=g.n by omega,hz]
 have:p.outs.getD g.n.toNat []= []:=by rw [List.getD_eq_getElem?_getD,List.getElem?_eq_none (by rw [hr.2.1.1];exact Nat.le_refl _)];rfl
 rw [this];rfl
theorem nT (hr:aU g p):bh (ak g p) (bD g p):=by
 have h:=hr.2.1
 have hm:=ai hr.1
 have hn:=aH hm
 have ha:=ir (g:=g) (p:=p)
 refine ⟨by rw [sX hr];simp [zT], ?_,fun x hx=> ?_⟩
 ·unfold bD ak
  split
  ·have e:(g.n+1).toNat=g.n.toNat+1:=by omega
   have e2:cQ (g.n.toNat+1)=cQ g.n.toNat++ [g.n]:=by
    simp only [cQ,List.range_succ,List.map_append,List.map_cons,List.map_nil]
    congr 2
    show ((g.n.toNat:Nat):Int)=g.n
    omega
   show (p.ord++ [g.n]).Perm (cQ (g.n+1).toNat)
   rw [e,e2]
   exact h.2.1.append_right _
  ·exact h.2.1
 ·have hl:(bD g p).outs.getD x []=bY (bD g p) (x:Int):=by unfold bY;rw [Int.toNat_natCast]
  rw [hl]
  by_cases AJ:(x:Int)<g.n
  ·rw [A3 hr ⟨by omega,AJ⟩]
   split
   ·rename_i h2
    rw [ta hr ⟨by omega,AJ⟩ h2]
    exact bH h (by omega) AJ
   ·exact List.Perm.refl _
  ·have Fq:1<(aV g p).length:=Decidable.byContradiction fun hl=>by
    have:(ak g p).n=g.n:=if_neg hl
    omega
   have e:(x:Int)=g.n:=by omega
   rw [e,(qx hr Fq).1,(qx hr Fq).2]
theorem Gg (hr:aU g p) {k:Nat} (hk:k<g.n.toNat):aD (bD g p) k=aD p k:=by
 have:=aI hr.2.1
 unfold aD bD
 simp only
 split
 ·rw [List.getD_eq_getElem?_getD,List.getElem?_append_left (by omega), ← List.getD_eq_getElem?_getD]
 ·rfl
theorem Gh (hr:aU g p) (hl:1<(aV g p).length):aD (bD g p) g.n.toNat=g.n:=by
 have:=aI hr.2.1
 unfold aD bD
 simp only
 rw [if_pos hl,List.getD_eq_getElem?_getD,List.getElem?_append_right (by omega),this]
 simp
theorem Cl (hr:aU g p) {x:Int} (h0:0≤x∧x<g.n):aJ (ak g p) x (bY (bD g p) x)=(aJ g x (bY p x)).map (mI g.es.length (aW g p)):=by
 obtain ⟨qN,A0⟩:=dU hr
 rw [A3 hr h0]
 by_cases hs:bY p x= []
 ·obtain ⟨s1,s2⟩:=oU hr h0 hs
  have ha:aJ g x (bY p x)= [(-1,x, -1)]:=if_pos hs
  rw [if_neg (by simp [hs]),ha]
  rcases oT (m:=g.es.length) qN x with ⟨h1,h2⟩|⟨h,hm⟩
  ·rw [s2 h2,List.map_cons,List.map_nil,s6 h1]
   rfl
  ·obtain ⟨j,h1,h2,h3⟩:=s1 h hm
   rw [h2,List.map_cons,List.map_nil,jB (t:=(-1,x, -1)) (by simp) h1]
   have Dg:((ak g p).es.getD (((g.es.length+j:Nat):Int)).toNat (0,0))=(x,h):=by rw [Int.toNat_natCast];exact h3
   simp only [aJ,fu,List.cons_ne_nil,if_false,List.map_cons,List.map_nil,Dg]
 ·rw [if_pos hs]
  unfold aJ
  rw [if_neg hs,if_neg hs,List.map_map]
  refine List.map_congr_left fun i hi=> ?_
  obtain ⟨k,rfl,hk,ht⟩:=nJ ((bH hr.2.1 h0.1 h0.2).mem_iff.1 hi)
  simp only [Function.comp]
  rw [nP (t:=fu g x (k:Int)) (by simp [fu])]
  simp only [fu,Int.toNat_natCast,s9 k hk]
theorem tc {x:Int} :aY (ak g p) x=aY g x+((aW g p).filter fun e=>decide (e.2=x)).length:=by
 unfold aY
 have:aL (·.2) (ak g p).es (ak g p).es.length x=aL (·.2) g.es g.es.length x++(aL (·.2) (aW g p) (aW g p).length x).map (· +(g.es.length:Int)):=oO
 rw [this,List.length_append,List.length_map]
 congr 1
 generalize aW g p=N
 unfold aL
 rw [List.length_map, ← List.countP_eq_length_filter, ← List.countP_eq_length_filter]
 have e:N=(List.range N.length).map fun i=>N.getD i (0,0):=by
  refine List.ext_getElem (by simp) fun i h1 h2=> ?_
  simp [List.getD_eq_getElem?_getD,List.getElem?_eq_getElem h1]
 conv=>rhs;rw [e]
 rw [List.countP_map]
 rfl
end Go.Ab
end
section
namespace Go.Ab
open Go.Proofs
set_option maxRecDepth 10000
variable {g:Gr} {p:Pl}
theorem pM (h:bh g p) {k:Nat} :∀ {K:Nat},K≤g.n.toNat→k<g.n.toNat→(cq g p K).filter (fun e=>decide (e.2=aD p k))=if k<K then (loose (cW g p k)).map fun v=>(v,aD p k) else []
 |0,_,_=>by simp [cq]
 |K+1,hK,hk=>by
  rw [cq,List.filter_append,pM h (by omega) hk]
  by_cases e:k=K
  ·subst e
   rw [if_neg (by omega),if_pos (by omega),List.nil_append,List.filter_eq_self.2]
   intro e he
   obtain ⟨v,_,rfl⟩:=List.mem_map.1 he
   simp
  ·have:((loose (cW g p K)).map fun v=>(v,aD p K)).filter (fun e=>decide (e.2=aD p k))= []:=List.filter_eq_nil_iff.2 fun e' he=>by
    obtain ⟨v,_,rfl⟩:=List.mem_map.1 he
    simp only [decide_eq_true_eq]
    intro h2
    exact e (lI h hk (by omega) h2.symm)
   rw [this,List.append_nil]
   by_cases h3:k<K
   ·rw [if_pos h3,if_pos (by omega)]
   ·rw [if_neg h3,if_neg (by omega)]
theorem yl (hr:aU g p) {k:Nat} (hk:k<g.n.toNat):((aW g p).filter fun e=>decide (e.2=aD p k)).length=(loose (cW g p k)).length:=by
 have hx:=bq hr.2.1 hk
 rw [aW,List.filter_append,pM hr.2.1 (Nat.le_refl _) hk,if_pos hk]
 have:(newL g p).filter (fun e=>decide (e.2=aD p k))= []:=List.filter_eq_nil_iff.2 fun e' he=>by
  unfold newL at he
  split at he
  ·obtain ⟨v,_,rfl⟩:=List.mem_map.1 he
   simp only [decide_eq_true_eq];omega
  ·cases he
 rw [this];simp
theorem ym {l:List Int} (h:l.Nodup) {k:Nat} (hk:k<l.length):l.getD k 0∉l.take k:=by
 intro hm
 obtain ⟨j,hj,e⟩:=List.mem_iff_getElem.1 hm
 simp only [List.length_take] at hj
 have e2:l.getD j 0=l.getD k 0:=by
  rw [← e,List.getD_eq_getElem?_getD,List.getElem?_eq_getElem (by omega)]
  simp
 have:=jY h (by omega) hk e2
 omega
theorem take_at {p:Pl} {k:Nat} {v:Int} (hk:k≤p.ord.length) (h:v∈p.ord.take k):∃j,j<k∧aD p j=v:=by
 obtain ⟨j,hj,e⟩:=List.mem_iff_getElem.1 h
 simp only [List.length_take] at hj
 refine ⟨j,by omega, ?_⟩
 rw [← e,aD,List.getD_eq_getElem?_getD,List.getElem?_eq_getElem (by omega)]
 simp
theorem yo {x:Int} {X:List It} (h:∀t∈X,(t.1<0↔¬t.2.2=x)):X.countP (iC x)+(loose X).length=X.length:=by
 rw [List.length_eq_countP_add_countP (iC x)]
 congr 1
 unfold loose
 rw [List.length_map, ← List.countP_eq_length_filter]
 refine List.countP_congr fun t ht=> ?_
 have:=h t ht
 simp only [iC,decide_eq_true_eq,Bool.not_eq_true,decide_eq_false_iff_not]
 exact this
theorem NA (h:kj g p):∀ {k:Nat},k≤g.n.toNat→(∀j,j<k→pY (ak g p) (bD g p) j=true)∧(fK (ak g p) (bD g p) k).row=(fK g p k).row.map (mI g.es.length (aW g p))
 |0,_=>⟨fun j hj=>by omega,rfl⟩
 |k+1,hk=>by
  have hr:=h.run
  have wY:=hr.2.1
  have hm:=ai hr.1
  have uN:=wm h
  have hQ:=nT hr
  obtain ⟨qN,A0⟩:=dU hr
  have Sd:=ir (g:=g) (p:=p)
  obtain ⟨Lx,hrow⟩:=NA h (k:=k) (by omega)
  obtain ⟨hi,_,_⟩:=bP hm wY (k:=k) (by omega) fun j hj=>hr.2.2 j (by omega)
  obtain ⟨Iu,EF,_⟩:=bP uN hQ (k:=k) (by omega) Lx
  have hR:az g (fK g p k) (aD p k)=true:=hr.2.2 k (by omega)
  have kC:=Gg hr (k:=k) (by omega)
  have hx:=bq wY (k:=k) (by omega)
  obtain ⟨Fq,D8⟩:=jz hm wY (k:=k) (by omega) fun j hj=>hr.2.2 j (by omega)
  have hlr:(loose (fK g p k).row).Nodup:=(List.nodup_append.1 Fq).2.1
  have hnot:aD p k∉(fK (ak g p) (bD g p) k).pl:=by
   rw [EF, ← kC]
   exact ym (bN hQ) (by rw [aI hQ];omega)
  have Iv:=yl hr (k:=k) (by omega)
  have bS:=tc (g:=g) (p:=p) (x:=aD p k)
  have KF:=Cl hr hx
  have hin:∀v,(v,aD p k)∈aW g p→v∈loose (cW g p k):=fun v hv=>by
   rcases s8 hv with ⟨i,h1,h2,h3⟩|⟨_,h2,_⟩
   ·have:=lI wY (by omega) h1 h2
    subst this;exact h3
   ·omega
  have hout:∀v,v∈loose (cW g p k)→(v,aD p k)∈aW g p:=fun v hv=>List.mem_append_left _ (nQ (by omega) hv)
  suffices hs:pY (ak g p) (bD g p) k=true∧(fK (ak g p) (bD g p) (k+1)).row=(fK g p (k+1)).row.map (mI g.es.length (aW g p)) by
   refine ⟨fun j hj=> ?_,hs.2⟩
   by_cases e:j=k
   ·subst e;exact hs.1
   ·exact Lx j (by omega)
  have QB:(fK (ak g p) (bD g p) (k+1))=(aA (ak g p) (fK (ak g p) (bD g p) k) (aD p k) (bY (bD g p) (aD p k))).2:=by
   rw [← kC];rfl
  have hfg:(fK g p (k+1))=(aA g (fK g p k) (aD p k) (bY p (aD p k))).2:=rfl
  have hok:pY (ak g p) (bD g p) k=az (ak g p) (fK (ak g p) (bD g p) k) (aD p k):=by unfold pY;rw [kC]
  rw [QB,hfg,hok]
  have KG:cW g p k=(aA g (fK g p k) (aD p k) (bY p (aD p k))).1.1:=rfl
  generalize aD p k=x at*
  by_cases hn:aY g x=0
  ·have hno:=fM hm hi.tofe hx.1 hn
   rw [fL _ hno] at KG
   have KH:aY (ak g p) x=0:=by rw [bS,hn,Iv,KG];rfl
   have NB:=fM uN Iu.tofe hx.1 KH
   refine ⟨?_, ?_⟩
   ·unfold az
    rw [if_neg (by rintro (h|h|h);omega;omega;exact hnot h),if_pos KH]
   ·rw [fL _ hno,fL _ NB]
    simp only [List.map_append]
    rw [KF,hrow]
  ·obtain ⟨A,X,C,hrw,nA,nC,hX,cX⟩:=bG hm hi.tofe hR hn
   rw [ff _ hrw nA nC hX] at KG
   simp only at KG
   rw [KG] at hin hout Iv
   have QC:∀t∈X,t∈(fK g p k).row:=fun t ht=>by rw [hrw];simp [ht]
   have Se:∀t∈A,t∈(fK g p k).row:=fun t ht=>by rw [hrw];simp [ht]
   have Sf:∀t∈C,t∈(fK g p k).row:=fun t ht=>by rw [hrw];simp [ht]
   have hit:∀t∈X,(t.1<0↔¬t.2.2=x):=fun t ht=>by
    have h1:=(hi.it t (QC t ht)).head hm
    have h2:=hX.al t ht
    omega
   rw [hrw,bJ,bJ,List.nodup_append,List.nodup_append] at hlr
   have Oq:eS x (A.map (mI g.es.length (aW g p))):=fun t' ht'=>by
    obtain ⟨t,ht,rfl⟩:=List.mem_map.1 ht'
    by_cases h0:0≤t.1
    ·rw [nP h0];exact nA t ht
    ·rcases oT (m:=g.es.length) qN t.2.1 with ⟨h1,_⟩|⟨y,h1⟩
     ·rw [s6 h1];exact nA t ht
     ·obtain ⟨j,_,h2,_⟩:=nO (m:=g.es.length) qN h1
      rw [jB (by omega) h2]
      intro e
      have e:y=x:=e
      subst e
      exact hlr.1.2.2 _ (lJ ht (by omega)) _ (hin _ h1) rfl
   have Ot:eS x (C.map (mI g.es.length (aW g p))):=fun t' ht'=>by
    obtain ⟨t,ht,rfl⟩:=List.mem_map.1 ht'
    by_cases h0:0≤t.1
    ·rw [nP h0];exact nC t ht
    ·rcases oT (m:=g.es.length) qN t.2.1 with ⟨h1,_⟩|⟨y,h1⟩
     ·rw [s6 h1];exact nC t ht
     ·obtain ⟨j,_,h2,_⟩:=nO (m:=g.es.length) qN h1
      rw [jB (by omega) h2]
      intro e
      have e:y=x:=e
      subst e
      exact hlr.2.2 _ (List.mem_append_right _ (hin _ h1)) _ (lJ ht (by omega)) rfl
   have Gi:∀t∈X,(mI g.es.length (aW g p) t).2.2=x:=fun t ht=>by
    by_cases h0:0≤t.1
    ·rw [nP h0]
     have:=hit t ht
     omega
    ·obtain ⟨j,_,h2,_⟩:=nO (m:=g.es.length) qN (hout _ (lJ ht (by omega)))
     rw [jB (by omega) h2]
   have Ij:Mid x (X.map (mI g.es.length (aW g p))):=by
    obtain ⟨q,X0,e1,_⟩:=hX.fst
    obtain ⟨X1,q',e2,_⟩:=hX.H6
    refine ⟨⟨mI g.es.length (aW g p) q,X0.map (mI g.es.length (aW g p)),by rw [e1];rfl,Gi q (by rw [e1];simp)⟩,⟨X1.map (mI g.es.length (aW g p)),mI g.es.length (aW g p) q',by rw [e2];simp,Gi q' (by rw [e2];simp)⟩,fun t' ht'=> ?_⟩
    obtain ⟨t,ht,rfl⟩:=List.mem_map.1 ht'
    exact .inl (Gi t ht)
   have tU:(X.map (mI g.es.length (aW g p))).countP (iC x)=aY (ak g p) x:=by
    have h1:(X.map (mI g.es.length (aW g p))).countP (iC x)=(X.map (mI g.es.length (aW g p))).length:=List.countP_eq_length.2 fun t' ht'=>by
     obtain ⟨t,ht,rfl⟩:=List.mem_map.1 ht'
     simp [iC,Gi t ht]
    rw [h1,List.length_map,bS,Iv, ← cX,yo hit]
   have KI:(fK (ak g p) (bD g p) k).row=A.map (mI g.es.length (aW g p))++X.map (mI g.es.length (aW g p))++C.map (mI g.es.length (aW g p)):=by rw [hrow,hrw];simp
   refine ⟨j7 uN Iu.tofe hx.1 (by omega) hnot KI Oq Ot Ij tU, ?_⟩
   rw [ff _ hrw nA nC hX,ff _ KI Oq Ot Ij]
   simp only [List.map_append]
   rw [KF]
theorem A4 (hr:aU g p) {v:Int} {k:Nat} :∀ {K:Nat},k≤K→K≤g.n.toNat→v∈loose (fK g p k).row→(∃i,i<K∧v∈loose (cW g p i))∨v∈loose (fK g p K).row
 |0,h1,_,hv=>by
  obtain rfl:k=0:=by omega
  exact .inr hv
 |K+1,h1,h2,hv=>by
  by_cases e:k=K+1
  ·subst e;exact .inr hv
  ·rcases A4 hr (K:=K) (by omega) (by omega) hv with ⟨i,h3,h4⟩|h3
   ·exact .inl ⟨i,by omega,h4⟩
   ·have hm:=ai hr.1
    obtain ⟨hi,_,_⟩:=bP hm hr.2.1 (k:=K) (by omega) fun j hj=>hr.2.2 j (by omega)
    obtain ⟨A,X,C,hrw,_,_,_,hs⟩:=ej hm hi.tofe (hr.2.2 K (by omega))
    have hg:cW g p K=X:=by unfold cW;rw [hs]
    have hrow:(fK g p (K+1)).row=A++aJ g (aD p K) (bY p (aD p K))++C:=by show (aA _ _ _ _).2.row=_;rw [hs]
    rw [hrw,bJ,bJ,List.mem_append,List.mem_append] at h3
    rcases h3 with (h3|h3)|h3
    ·refine .inr ?_
     rw [hrow,bJ,bJ];simp [h3]
    ·exact .inl ⟨K,by omega,by rw [hg];exact h3⟩
    ·refine .inr ?_
     rw [hrow,bJ,bJ];simp [h3]
end Go.Ab
end
section
namespace Go.Ab
open Go.Proofs
set_option maxRecDepth 10000
variable {g:Gr} {p:Pl}
theorem Gj (hr:aU g p):aV g p≠ []:=by
 have hm:=ai hr.1
 have hn:=aH hm
 obtain ⟨k,hk⟩:∃k,g.n.toNat=k+1:=⟨g.n.toNat - 1,by omega⟩
 obtain ⟨hi,_,_⟩:=bP hm hr.2.1 (k:=k) (by omega) fun j hj=>hr.2.2 j (by omega)
 obtain ⟨A,X,C,hrw,_,_,_,hs⟩:=ej hm hi.tofe (hr.2.2 k (by omega))
 unfold aV
 rw [hk]
 show (aA _ _ _ _).2.row≠ []
 rw [hs]
 have:=(mF (g:=g) (x:=aD p k) (outs:=bY p (aD p k))).1
 intro e
 have h2:=congrArg List.length e
 simp at h2
 rw [h2.2.1] at this
 simp at this
theorem oV (hr:aU g p):bY p (aD p (g.n.toNat - 1))= []∧aD p (g.n.toNat - 1)∈loose (aV g p):=by
 have hm:=ai hr.1
 have hn:=aH hm
 obtain ⟨k,hk⟩:∃k,g.n.toNat=k+1:=⟨g.n.toNat - 1,by omega⟩
 obtain ⟨hi,_,_⟩:=bP hm hr.2.1 (k:=k) (by omega) fun j hj=>hr.2.2 j (by omega)
 obtain ⟨A,X,C,hrw,_,_,_,hs⟩:=ej hm hi.tofe (hr.2.2 k (by omega))
 have hL:aV g p=A++aJ g (aD p k) (bY p (aD p k))++C:=by
  unfold aV;rw [hk]
  show (aA _ _ _ _).2.row=_
  rw [hs]
 have Ai:g.n.toNat - 1=k:=by omega
 rw [Ai]
 have je:=sZ hr
 have hx:=bq hr.2.1 (k:=k) (by omega)
 have h0:bY p (aD p k)= []:=by
  refine Decidable.byContradiction fun h0=> ?_
  have ha:aJ g (aD p k) (bY p (aD p k))=(bY p (aD p k)).map (fu g (aD p k)):=if_neg h0
  obtain ⟨i,hi'⟩:=List.exists_mem_of_ne_nil _ h0
  have h1:=je (fu g (aD p k) i) (by rw [hL,ha];simp;exact .inr (.inl ⟨i,hi',rfl⟩))
  obtain ⟨e,rfl,_⟩:=nJ ((bH hr.2.1 hx.1 hx.2).mem_iff.1 hi')
  simp [fu] at h1
  omega
 refine ⟨h0, ?_⟩
 have ha:aJ g (aD p k) (bY p (aD p k))= [(-1,aD p k, -1)]:=if_pos h0
 rw [hL,ha,bJ,bJ]
 simp [loose]
theorem EG (hr:aU g p) (hl:¬1<(aV g p).length) {v:Int} (hv:v∈loose (aV g p)):v=aD p (g.n.toNat - 1):=by
 have h1:=(oV hr).2
 have h2:(loose (aV g p)).length≤1:=Nat.le_trans uL (by omega)
 match hL:loose (aV g p),h2 with
 | [],_=>rw [hL] at hv;cases hv
 | [w],_=>
   rw [hL,List.mem_singleton] at hv h1
   rw [hv,h1]
theorem EH (h:kj g p) (hl:1<(aV g p).length):pY (ak g p) (bD g p) g.n.toNat=true∧(fK (ak g p) (bD g p) (g.n.toNat+1)).row= [(-1,g.n, -1)]:=by
 have hr:=h.run
 have hm:=ai hr.1
 have hn:=aH hm
 have uN:=wm h
 have hQ:=nT hr
 obtain ⟨qN,A0⟩:=dU hr
 obtain ⟨Lx,hrow⟩:=NA h (k:=g.n.toNat) (Nat.le_refl _)
 have hG:(ak g p).n=g.n+1:=if_pos hl
 obtain ⟨Iu,EF,_⟩:=bP uN hQ (k:=g.n.toNat) (by omega) Lx
 have hx:=Gh hr hl
 have hnot:g.n∉(fK (ak g p) (bD g p) g.n.toNat).pl:=by
  rw [EF]
  have:=ym (bN hQ) (k:=g.n.toNat) (by rw [aI hQ];omega)
  rw [show (bD g p).ord.getD g.n.toNat 0=g.n from hx] at this
  exact this
 have je:=sZ hr
 have hrow:(fK (ak g p) (bD g p) g.n.toNat).row=(aV g p).map (mI g.es.length (aW g p)):=hrow
 have hmem:∀v∈loose (aV g p),(v,g.n)∈aW g p:=fun v hv=>by
  refine List.mem_append_right _ ?_
  unfold newL
  rw [if_pos hl]
  exact List.mem_map.2 ⟨v,hv,rfl⟩
 have Gi:∀t∈aV g p,(mI g.es.length (aW g p) t).2.2=g.n:=fun t ht=>by
  obtain ⟨j,_,h2,_⟩:=nO (m:=g.es.length) qN (hmem _ (lJ ht (je t ht)))
  rw [jB (je t ht) h2]
 have Ij:Mid g.n ((aV g p).map (mI g.es.length (aW g p))):=by
  have hne:=Gj hr
  refine ⟨?_, ?_,fun t' ht'=> ?_⟩
  ·match hL:aV g p,hne with
   |t::l,_=>exact ⟨_,_,rfl,Gi t (by rw [hL];simp)⟩
  ·have e:=List.dropLast_concat_getLast hne
   refine ⟨(aV g p).dropLast.map (mI g.es.length (aW g p)),mI g.es.length (aW g p) ((aV g p).getLast hne), ?_,Gi _ (List.getLast_mem hne)⟩
   conv=>lhs;rw [← e]
   simp
  ·obtain ⟨t,ht,rfl⟩:=List.mem_map.1 ht'
   exact .inl (Gi t ht)
 have hno:aY g g.n=0:=by
  have:¬0<aY g g.n:=fun h0=>by
   obtain ⟨i,hi⟩:=List.exists_mem_of_length_pos h0
   obtain ⟨⟨h1,h2⟩,h3⟩:=gO hi
   have:=(dg hm (k:=i.toNat) (by omega)).2
   have h3:(g.es.getD i.toNat (0,0)).2=g.n:=h3
   omega
  omega
 have tU:((aV g p).map (mI g.es.length (aW g p))).countP (iC g.n)=aY (ak g p) g.n:=by
  have h1:((aV g p).map (mI g.es.length (aW g p))).countP (iC g.n)=((aV g p).map (mI g.es.length (aW g p))).length:=List.countP_eq_length.2 fun t' ht'=>by
   obtain ⟨t,ht,rfl⟩:=List.mem_map.1 ht'
   simp [iC,Gi t ht]
  have h2:(cq g p g.n.toNat).filter (fun e=>decide (e.2=g.n))= []:=List.filter_eq_nil_iff.2 fun e he=>by
   obtain ⟨i,hi,hx2,_⟩:=s7 (v:=e.1) (x:=e.2) he
   have:=bq hr.2.1 hi
   simp only [decide_eq_true_eq];omega
  have h3:(newL g p).filter (fun e=>decide (e.2=g.n))=newL g p:=List.filter_eq_self.2 fun e he=>by
   unfold newL at he
   rw [if_pos hl] at he
   obtain ⟨v,_,rfl⟩:=List.mem_map.1 he
   simp
  have h4:(loose (aV g p)).length=(aV g p).length:=by
   unfold loose
   rw [List.length_map,List.filter_eq_self.2]
   intro t ht
   exact decide_eq_true (je t ht)
  rw [h1,List.length_map,tc,hno,aW,List.filter_append,h2,h3]
  unfold newL
  rw [if_pos hl]
  simp [h4]
 have KI:(fK (ak g p) (bD g p) g.n.toNat).row= []++(aV g p).map (mI g.es.length (aW g p))++ []:=by rw [hrow];simp
 have nil:eS g.n ([]:List It):=fun t ht=>by cases ht
 refine ⟨?_, ?_⟩
 ·unfold pY
  rw [hx]
  exact j7 uN Iu.tofe (by omega) (by omega) hnot KI nil nil Ij tU
 ·show (aA _ _ _ _).2.row=_
  rw [hx,ff _ KI nil nil Ij,(qx hr hl).1]
  rfl
theorem A5 (h:kj g p):∀k,k<(ak g p).n.toNat→pY (ak g p) (bD g p) k=true:=by
 have hn:=aH (ai h.run.1)
 intro k hk
 by_cases hkn:k<g.n.toNat
 ·exact (NA h (k:=g.n.toNat) (Nat.le_refl _)).1 k hkn
 ·by_cases hl:1<(aV g p).length
  ·have hG:(ak g p).n=g.n+1:=if_pos hl
   obtain rfl:k=g.n.toNat:=by omega
   exact (EH h hl).1
  ·have hG:(ak g p).n=g.n:=if_neg hl
   omega
theorem gR {f:Edge→Int} {g:Gr} {y:Int} :y∈bM f g↔(0≤y∧y<g.n)∧aL f g.es g.es.length y= []:=by
 simp only [bM,jl,List.mem_map,List.mem_filter,List.mem_range,decide_eq_true_eq]
 have he:∀x:Nat,x<g.n.toNat→(((dr f g).getD x []).length=0↔aL f g.es g.es.length (x:Int)= []):=by
  intro x hx
  have e:(dr f g).getD x []=aL f g.es g.es.length (x:Int):=by
   simp [dr,List.getD_eq_getElem?_getD,List.getElem?_range hx,nE]
  rw [e,List.length_eq_zero_iff]
 constructor
 ·rintro ⟨x,⟨hx,h0⟩,rfl⟩
  exact ⟨by simp;omega,(he x hx).1 h0⟩
 ·rintro ⟨⟨h1,h2⟩,h3⟩
  have e:((y.toNat:Nat):Int)=y:=by omega
  exact ⟨y.toNat,⟨by omega,(he _ (by omega)).2 (by rw [e];exact h3)⟩,e⟩
theorem wo {l:List Int} (hd:l.Nodup) {s:Int} (h:∀y∈l,y=s):l.length≤1:=by
 match l,hd,h with
 | [],_,_=>simp
 | [_],_,_=>simp
 |a::b::l,hd,h=>
  rw [List.nodup_cons] at hd
  exact absurd (by rw [h a (by simp),h b (by simp)];simp) hd.1
theorem yp (h:kj g p):(bX (ak g p)).1=0:=by
 have hr:=h.run
 have hm:=ai hr.1
 have hn:=aH hm
 have uN:=wm h
 have hQ:=nT hr
 have KJ:=A5 h
 have hna:=ir (g:=g) (p:=p)
 obtain ⟨qN,A0⟩:=dU hr
 have Ou:∀i,i<(ak g p).es.length→∃j k,j<k∧k<(ak g p).n.toNat∧tl (ak g p) i=aD (bD g p) j∧hd (ak g p) i=aD (bD g p) k:=fun i hi=>by
  have hh:=(dg uN hi).2
  obtain ⟨k,hk,e⟩:=fh hQ hh.1 hh.2
  obtain ⟨Iu,EF,_⟩:=bP uN hQ (k:=k) (by omega) fun j hj=>KJ j (by omega)
  obtain ⟨t,ht,e1,e2,_⟩:=sK uN Iu (KJ k hk) hi e.symm
  have hin:=Iu.tail t ht (by omega)
  rw [EF] at hin
  obtain ⟨j,hj,e3⟩:=take_at (by rw [aI hQ];omega) hin
  exact ⟨j,k,hj,hk,by rw [← e2,e3],e.symm⟩
 have EI:AO (ak g p)=true:=(qw uN).2 ⟨fun v=>(bL (fun y=>decide (y=v)) (bD g p).ord).toNat,fun i hi=>by
  obtain ⟨j,k,hjk,hk,e1,e2⟩:=Ou i hi
  have oc:∀q,q<(ak g p).n.toNat→bL (fun y=>decide (y=aD (bD g p) q)) (bD g p).ord=q:=fun q hq=>
   eX (d:=0) (by rw [aI hQ];exact hq) (fun i' hi'=>decide_eq_false fun e=>by
    have:=lI hQ (by omega) hq e
    omega) (decide_eq_true rfl)
  simp only
  rw [e1,e2,oc j (by omega),oc k hk]
  omega⟩
 have EJ:¬0≤kX (ak g p):=fun hl=>by
  have h1:=ew (fun e:Edge=>decide (e.1=e.2)) (ak g p).es
  have h0:decide (0≤bL (fun e:Edge=>decide (e.1=e.2)) (ak g p).es)=true:=decide_eq_true hl
  rw [h0] at h1
  obtain ⟨e,he,h2⟩:=List.any_eq_true.1 h1.symm
  obtain ⟨i,hi,rfl⟩:=List.mem_iff_getElem.1 he
  obtain ⟨j,k,hjk,hk,e1,e2⟩:=Ou i hi
  have h3:tl (ak g p) i=hd (ak g p) i:=by simpa [tl,hd,List.getD_eq_getElem?_getD,List.getElem?_eq_getElem hi] using h2
  have:=lI hQ (by omega) hk (e1.symm.trans (h3.trans e2))
  omega
 have Ib:¬0≤dZ (ak g p):=fun ht=>by
  obtain ⟨i,k,hi,hk,hik,e⟩:=(gQ _).1 ht
  have hgt:¬0≤dZ g:=by
   have:=hr.1
   unfold bX jm at this
   intro h2
   split at this
   ·cases this
   split at this
   ·cases this
   cases this
  have hel:(ak g p).es.length=g.es.length+(aW g p).length:=List.length_append
  have mixed:∀a b,a<g.es.length→b<(aW g p).length→g.es.getD a (0,0)≠(aW g p).getD b (0,0):=fun a b ha hb e=>by
   obtain ⟨q0,q1⟩:=A0 _ (aS (d:=(0,0)) hb)
   have hz:=(k4 hr.2.1 q0.1 q0.2).2 q1
   have:(a:Int)∈cg g ((aW g p).getD b (0,0)).1:=Ex.2 ⟨⟨by omega,by omega⟩,by rw [Int.toNat_natCast,e]⟩
   rw [hz] at this
   cases this
  by_cases h1:i<g.es.length
  ·by_cases h2:k<g.es.length
   ·rw [s9 i h1,s9 k h2] at e
    exact hgt ((gQ g).2 ⟨i,k,h1,h2,hik,e⟩)
   ·obtain ⟨b,rfl⟩:∃b,k=g.es.length+b:=⟨k - g.es.length,by omega⟩
    rw [s9 i h1,nS] at e
    exact mixed i b h1 (by omega) e
  ·obtain ⟨a,rfl⟩:∃a,i=g.es.length+a:=⟨i - g.es.length,by omega⟩
   by_cases h2:k<g.es.length
   ·rw [s9 k h2,nS] at e
    exact mixed k a h2 (by omega) e.symm
   ·obtain ⟨b,rfl⟩:∃b,k=g.es.length+b:=⟨k - g.es.length,by omega⟩
    rw [nS,nS] at e
    have e1:∀q,q<(aW g p).length→((aW g p).map (·.1)).getD q 0=((aW g p).getD q (0,0)).1:=fun q hq=>by
     simp [List.getD_eq_getElem?_getD,List.getElem?_eq_getElem hq]
    have:=jY qN (i:=a) (j:=b) (by simp;omega) (by simp;omega) (by rw [e1 a (by omega),e1 b (by omega),e])
    omega
 have EK:¬1<(bM (·.2) (ak g p)).length:=fun hb=>by
  obtain ⟨s,hs⟩:∃s,∀y∈bM (·.2) (ak g p),y=s:=by
   refine ⟨aD p 0,fun y hy=> ?_⟩
   obtain ⟨⟨y0,y1⟩,y2⟩:=lH.1 hy
   rw [tc] at y2
   have yn:y<g.n:=by
    refine Decidable.byContradiction fun Ie=> ?_
    have hl:1<(aV g p).length:=Decidable.byContradiction fun hl=>by
     have hG:(ak g p).n=g.n:=if_neg hl
     omega
    have e:y=g.n:=by have hG:(ak g p).n=g.n+1:=if_pos hl;omega
    have FN:=(oV hr).2
    have:(aD p (g.n.toNat - 1),y)∈(aW g p).filter fun e=>decide (e.2=y):=List.mem_filter.2 ⟨List.mem_append_right _ (by
     unfold newL
     rw [if_pos hl]
     exact List.mem_map.2 ⟨_,FN,by rw [e]⟩),by simp⟩
    have:=List.length_pos_of_mem this
    omega
   have h0:=bq hr.2.1 (k:=0) (by omega)
   refine iK hr.1 ⟨y0,yn⟩ h0 (by omega) ?_
   refine Decidable.byContradiction fun hnz=> ?_
   obtain ⟨A,X,C,hrw,_,_,hX,_⟩:=bG hm (nI g).tofe (hr.2.2 0 (by omega)) hnz
   obtain ⟨q,X0,e1,_⟩:=hX.fst
   rw [e1] at hrw
   simp at hrw
  have:=wo dy hs
  omega
 unfold bX jm
 rw [if_neg (by simp [uN]),if_neg EJ,if_neg Ib,if_neg (by rw [wk uN EI];simp),if_neg EK]
theorem jC (h:kj g p):aU (ak g p) (bD g p):=⟨yp h,nT h.run,A5 h⟩
theorem EL (h:kj g p):uM (ak g p)=true:=by
 have hr:=h.run
 have hm:=ai hr.1
 have hn:=aH hm
 have hna:=ir (g:=g) (p:=p)
 obtain ⟨qN,A0⟩:=dU hr
 unfold uM
 rw [decide_eq_true (yp h),Bool.true_and,decide_eq_true_eq]
 obtain ⟨Fq,D8⟩:=jz hm hr.2.1 (k:=g.n.toNat) (Nat.le_refl _) hr.2.2
 have key:∀y,0≤y∧y<g.n→cg (ak g p) y= []→¬1<(aV g p).length∧y∈loose (aV g p):=fun y hy hz=>by
  have hs:bY p y= []:=by
   refine Decidable.byContradiction fun hs=> ?_
   rw [ta hr hy hs] at hz
   exact hs ((k4 hr.2.1 hy.1 hy.2).1 hz)
  obtain ⟨s1,_⟩:=oU hr hy hs
  have hno:∀x,(y,x)∉aW g p:=fun x hx=>by
   obtain ⟨j,_,h2,_⟩:=s1 x hx
   rw [hz] at h2;cases h2
  obtain ⟨k,hk,e⟩:=fh hr.2.1 hy.1 hy.2
  obtain ⟨hi,_,_⟩:=bP hm hr.2.1 (k:=k) (by omega) fun j hj=>hr.2.2 j (by omega)
  obtain ⟨A,X,C,hrw,_,_,_,hs'⟩:=ej hm hi.tofe (hr.2.2 k hk)
  have hin:y∈loose (fK g p (k+1)).row:=by
   have hrow:(fK g p (k+1)).row=A++aJ g (aD p k) (bY p (aD p k))++C:=by show (aA _ _ _ _).2.row=_;rw [hs']
   rw [hrow,e,hs,bJ,bJ]
   simp [aJ,loose]
  rcases A4 hr (K:=g.n.toNat) (by omega) (Nat.le_refl _) hin with ⟨i,h1,h2⟩|h2
  ·exact absurd (List.mem_append_left _ (nQ h1 h2)) (hno _)
  ·refine ⟨fun hl=>hno g.n (List.mem_append_right _ ?_),h2⟩
   unfold newL
   rw [if_pos hl]
   exact List.mem_map.2 ⟨_,h2,rfl⟩
 have Sg:(bM (·.1) (ak g p)).length≤1:=by
  by_cases hl:1<(aV g p).length
  ·refine wo (s:=g.n) dy fun y hy=> ?_
   obtain ⟨hy1,hy2⟩:=gR.1 hy
   refine Decidable.byContradiction fun hne=> ?_
   have hG:(ak g p).n=g.n+1:=if_pos hl
   exact (key y ⟨hy1.1,by omega⟩ hy2).1 hl
  ·refine wo (s:=aD p (g.n.toNat - 1)) dy fun y hy=> ?_
   obtain ⟨hy1,hy2⟩:=gR.1 hy
   have hG:(ak g p).n=g.n:=if_neg hl
   exact EG hr hl (key y ⟨hy1.1,by omega⟩ hy2).2
 have Sh:0<(bM (·.1) (ak g p)).length:=by
  by_cases hl:1<(aV g p).length
  ·have hG:(ak g p).n=g.n+1:=if_pos hl
   exact List.length_pos_of_mem (gR.2 ⟨⟨by omega,by omega⟩,(qx hr hl).2⟩:g.n∈bM (·.1) (ak g p))
  ·have hw:=bq hr.2.1 (k:=g.n.toNat - 1) (by omega)
   obtain ⟨h1,h2⟩:=oV hr
   refine List.length_pos_of_mem (gR.2 ⟨⟨hw.1,by omega⟩,(oU hr hw h1).2 fun e he h3=> ?_⟩:aD p (g.n.toNat - 1)∈bM (·.1) (ak g p))
   rcases s8 (v:=e.1) (x:=e.2) he with ⟨i,h4,_,h5⟩|⟨h4,_⟩
   ·exact (List.nodup_append.1 Fq).2.2 e.1 (List.mem_map.2 ⟨_,nQ h4 h5,rfl⟩) _ h2 h3
   ·exact hl h4
 omega
end Go.Ab
end
section
namespace Go.Ab
open Go.Proofs
set_option maxRecDepth 10000
def eV (l:List It):List It:=l.filter fun t=>decide (0≤t.1)
theorem lK {a b:List It} :eV (a++b)=eV a++eV b:=by simp [eV]
theorem dG {l:List It} {t:It} :t∈eV l↔t∈l∧0≤t.1:=by simp [eV]
theorem qy {x:Int} {l:List It} (h:eS x l):eS x (eV l):=fun t ht=>h t (dG.1 ht).1
def tX (x:Int) (l:List It):Prop:=∀t∈l,t.2.2=x
theorem oW {g:Gr} {x:Int} {o:List Int} (ho:∀i∈o,0≤i):eV (aJ g x o)=o.map (fu g x):=by
 unfold aJ
 split
 ·rename_i h;subst h;rfl
 ·refine List.filter_eq_self.2 fun t ht=> ?_
  obtain ⟨i,hi,rfl⟩:=List.mem_map.1 ht
  exact decide_eq_true (ho i hi)
theorem uO {x:Int} :∀ {X Y c d:List It},tX x X→tX x Y→eS x c→eS x d→X++c=Y++d→X=Y∧c=d
 | [], [],c,d,_,_,_,_,e=>⟨rfl,e⟩
 | [],u::Y,c,d,_,hY,hc,_,e=>by
   simp only [List.nil_append] at e
   exact absurd (hY u (by simp)) (hc u (by rw [e];simp))
 |t::X, [],c,d,hX,_,_,hd,e=>by
  simp only [List.nil_append] at e
  exact absurd (hX t (by simp)) (hd t (by rw [← e];simp))
 |t::X,u::Y,c,d,hX,hY,hc,hd,e=>by
  simp only [List.cons_append,List.cons.injEq] at e
  obtain ⟨e1,e2⟩:=uO (fun s hs=>hX s (by simp [hs])) (fun s hs=>hY s (by simp [hs])) hc hd e.2
  exact ⟨by rw [e.1,e1],e2⟩
theorem yq {x:Int} :∀ {a b X Y c d:List It},eS x a→eS x b→tX x X→tX x Y→eS x c→eS x d→X≠ []→Y≠ []→a++X++c=b++Y++d→a=b∧X=Y∧c=d
 |t::a, [],X,u::Y,c,d,ha,_,_,hY,_,_,_,_,e=>by
  simp only [List.cons_append,List.nil_append,List.cons.injEq] at e
  exact absurd (by rw [e.1];exact hY u (by simp)) (ha t (by simp))
 | [],t::b,u::X,Y,c,d,_,hb,hX,_,_,_,_,_,e=>by
   simp only [List.cons_append,List.nil_append,List.cons.injEq] at e
   exact absurd (by rw [← e.1];exact hX u (by simp)) (hb t (by simp))
 |t::a,u::b,X,Y,c,d,ha,hb,hX,hY,hc,hd,nX,nY,e=>by
  simp only [List.cons_append,List.cons.injEq] at e
  obtain ⟨e1,e2,e3⟩:=yq (fun s hs=>ha s (by simp [hs])) (fun s hs=>hb s (by simp [hs])) hX hY hc hd nX nY e.2
  exact ⟨by rw [e.1,e1],e2,e3⟩
 | [], [],X,Y,c,d,_,_,hX,hY,hc,hd,_,_,e=>by
   refine ⟨rfl, ?_⟩
   simp only [List.nil_append] at e
   exact uO hX hY hc hd e
 | [],_::_, [],_,_,_,_,_,_,_,_,_,h,_,_=>absurd rfl h
 |_::_, [],_, [],_,_,_,_,_,_,_,_,_,h,_=>absurd rfl h
theorem yu {g:Gr} (hm:aK g=true) {f:Fr} (hi:fe g f) {x:Int} (hR:az g f x=true) (hn:aY g x≠0):
 ∃a X c,eV f.row=a++X++c∧eS x a∧eS x c∧tX x X∧X.length=aY g x∧∀o,eV (aA g f x o).2.row=a++eV (aJ g x o)++c:=by
 obtain ⟨A,X,C,hr,hA,hC,hX,cX⟩:=bG hm hi hR hn
 have hx:=(aC hR).1
 have hmem:∀t∈X,t∈f.row:=fun t ht=>by rw [hr];simp [ht]
 have hiff:∀t∈X,(0≤t.1↔t.2.2=x):=fun t ht=>by
  have h1:=(hi.it t (hmem t ht)).head hm
  have h2:=hX.al t ht
  omega
 refine ⟨eV A,eV X,eV C,by rw [hr,lK,lK],qy hA,qy hC,fun t ht=> ?_, ?_,fun o=> ?_⟩
 ·obtain ⟨h1,h2⟩:=dG.1 ht
  exact (hiff t h1).1 h2
 ·rw [← cX,eV, ← List.countP_eq_length_filter]
  refine List.countP_congr fun t ht=> ?_
  simp only [iC,decide_eq_true_eq]
  exact hiff t ht
 ·rw [ff o hr hA hC hX]
  simp only [lK]
theorem A6 {g:Gr} (hm:aK g=true) {f:Fr} (hi:fe g f) {x:Int} (hR:az g f x=true) (hn:aY g x≠0) {a X c:List It} (e:eV f.row=a++X++c) (ha:eS x a) (hc:eS x c) (hX:tX x X) (nX:X≠ []) (o:List Int):
 eV (aA g f x o).2.row=a++eV (aJ g x o)++c:=by
 obtain ⟨b,Y,d,e',hb,hd,hY,lY,hs⟩:=yu hm hi hR hn
 have nY:Y≠ []:=fun h=>hn (by rw [← lY,h];rfl)
 obtain ⟨e1,_,e3⟩:=yq hb ha hY hX hd hc nY nX (e'.symm.trans e)
 rw [hs o,e1,e3]
theorem yw {g:Gr} (hm:aK g=true) {f:Fr} (hi:fe g f) {x:Int} (h0:0≤x) (h1:x<g.n) (hp:x∉f.pl) {a X c:List It} (e:eV f.row=a++X++c) (ha:eS x a) (hc:eS x c) (hX:tX x X) (nX:X≠ []) (hl:X.length=aY g x):az g f x=true:=by
 have hmem:∀j,j<f.row.length→Cc g (f.row.getD j (0,0,0)):=fun j hj=>hi.it _ (aS hj)
 have tU:f.row.countP (iC x)=X.length:=by
  have h2:f.row.countP (iC x)=(eV f.row).countP (iC x):=by
   rw [eV,List.countP_filter]
   refine List.countP_congr fun t ht=> ?_
   have:=(hi.it t ht).head hm
   simp only [iC,Bool.and_eq_true,decide_eq_true_eq]
   omega
  have c1:a.countP (iC x)=0:=List.countP_eq_zero.2 fun t ht=>by simp [iC,ha t ht]
  have c2:c.countP (iC x)=0:=List.countP_eq_zero.2 fun t ht=>by simp [iC,hc t ht]
  have c3:X.countP (iC x)=X.length:=List.countP_eq_length.2 fun t ht=>by simp [iC,hX t ht]
  rw [h2,e,List.countP_append,List.countP_append,c1,c2,c3]
  omega
 rw [← jv hm hi,ee,if_neg (by rintro (h|h|h);omega;omega;exact hp h),fJ h0 h1,Bool.and_eq_true,decide_eq_true_eq]
 have hN:(aL (fun e=>e.2) g.es g.es.length x).length=aY g x:=rfl
 rw [hN]
 refine ⟨?_, ?_⟩
 ·unfold bg
  rw [jt,j6 (Nat.le_refl _),List.take_length,tU,hl]
 ·rw [Bool.or_eq_true];right
  rcases dP (row:=f.row) (x:=x) f.row.length with ⟨hs,hno⟩|⟨p,q,n,hs,hab,qf,hc0,hcl,hpx,NC,hlo,hhi⟩
  ·have hs':bg f.row x=(-1,0,0):=hs
   rw [hs'];simp [pH]
  ·have hs':bg f.row x=((p:Int),(q:Int),(n:Int)):=hs
   rw [hs']
   simp only [Int.toNat_natCast,pH,Bool.not_eq_true']
   rw [← Bool.not_eq_true,uF qf]
   rintro ⟨j,h2,h3,h4⟩
   simp only [j0,Bool.and_eq_true,decide_eq_true_eq] at h4
   have hja:p<j:=by
    refine Nat.lt_of_le_of_ne h2 fun e=> ?_
    subst e;exact h4.1 hpx
   have hjb:j<q - 1:=by
    refine Nat.lt_of_le_of_ne (by omega) fun e=> ?_
    subst e;exact h4.1 NC
   have hsub:=((sM (i:=j+1) (j:=q - 1) (sM (i:=p+1) (j:=j) (sM (i:=0) (j:=p) (List.nil_sublist _) (by omega) (by omega)) (by omega) (by omega)) (by omega) (by omega)).trans (List.take_sublist _ f.row)).filter fun t=>decide (0≤t.1)
   have hp1:=(hmem p (by omega)).head hm
   have Ov:=(hmem j (by omega)).head hm
   have hq1:=(hmem (q - 1) (by omega)).head hm
   generalize f.row.getD p (0,0,0)=s1 at hsub hp1 hpx
   generalize f.row.getD j (0,0,0)=s2 at hsub Ov h4
   generalize f.row.getD (q - 1) (0,0,0)=s3 at hsub hq1 NC
   have hf:([]++ [s1]++ [s2]++ [s3]).filter (fun t=>decide (0≤t.1))= [s1,s2,s3]:=List.filter_eq_self.2 fun t ht=>by
    simp only [List.nil_append,List.cons_append,List.mem_cons,List.not_mem_nil,or_false] at ht
    rcases ht with rfl|rfl|rfl
    ·exact decide_eq_true (hp1.1.2 (by omega))
    ·exact decide_eq_true (Ov.1.2 h4.2)
    ·exact decide_eq_true (hq1.1.2 (by omega))
   rw [hf] at hsub
   have hsub: [s1,s2,s3].Sublist (a++(X++c)):=by rw [← List.append_assoc, ← e];exact hsub
   rw [List.sublist_append_iff] at hsub
   obtain ⟨l1,l',el,k1,k'⟩:=hsub
   rw [List.sublist_append_iff] at k'
   obtain ⟨l2,l3,rfl,k2,k3⟩:=k'
   match l1,el,k1 with
   |t::l1,el,k1=>
    simp only [List.cons_append,List.cons.injEq] at el
    exact ha t (k1.subset (by simp)) (by rw [← el.1];exact hpx)
   | [],el,_=>
     match l2,el,k2 with
     | [],el,_=>
       simp only [List.nil_append] at el
       exact hc s1 (k3.subset (by rw [← el];simp)) hpx
     | [t],el,_=>
       simp only [List.nil_append,List.cons_append,List.cons.injEq] at el
       exact hc s3 (k3.subset (by rw [← el.2];simp)) NC
     |t::u::l2,el,k2=>
      simp only [List.nil_append,List.cons_append,List.cons.injEq] at el
      exact h4.1 (by rw [el.2.1];exact hX u (k2.subset (by simp)))
end Go.Ab
end
section
namespace Go.Ab
open Go.Proofs
set_option maxRecDepth 10000
def KK (gone:List Int) (i:Nat):Bool:= !decide ((i:Int)∈gone)
def IL (gone:List Int) (k:Nat):List Nat:=(List.range k).filter (KK gone)
def QD (gone:List Int) (k:Nat):Nat:=(IL gone k).length
def ND (gone:List Int) (es:List Edge) (k:Nat):List Edge:=(IL gone k).map fun i=>es.getD i (0,0)
def QE (g:Gr) (gone:List Int):Gr:=⟨g.n,ND gone g.es g.es.length⟩
def Ow (gone:List Int) (i:Int):Int:=if i∈gone then -1 else (QD gone i.toNat:Int)
def NF (gone:List Int) (l:List Int):List Int:=(l.filter fun i=>decide (i∉gone)).map (Ow gone)
def QF (p:Pl) (gone:List Int):Pl:=⟨p.ord,p.outs.map (NF gone)⟩
variable {g:Gr} {p:Pl} {gone:List Int}
def QG (gone:List Int) (t:It):It:=(Ow gone t.1,t.2.1,t.2.2)
def QH (gone:List Int) (l:List It):List It:=(l.filter fun t=>decide (t.1∉gone)).map (QG gone)
theorem uP (hr:aU g p):aY g (aD p 0)=0:=by
 have hm:=ai hr.1
 have hn:=aH hm
 refine Decidable.byContradiction fun hnz=> ?_
 obtain ⟨A,X,C,hrw,_,_,hX,_⟩:=bG hm (nI g).tofe (hr.2.2 0 (by omega)) hnz
 obtain ⟨q,X0,e1,_⟩:=hX.fst
 rw [e1] at hrw
 simp at hrw
end Go.Ab
end
section
namespace Go.Ab
open Go.Proofs
set_option maxRecDepth 10000
theorem A7 {g:Gr} (hm:aK g=true) {f:Fr} (hi:fe g f) {x:Int} (hR:az g f x=true) (hn:aY g x≠0) (o:List Int):
 ∃a c,eV f.row=a++eV (aA g f x o).1.1++c∧eS x a∧eS x c∧tX x (eV (aA g f x o).1.1)∧(eV (aA g f x o).1.1).length=aY g x∧eV (aA g f x o).2.row=a++eV (aJ g x o)++c:=by
 obtain ⟨A,X,C,hr,hA,hC,hX,hc⟩:=bG hm hi hR hn
 have hx:=(aC hR).1
 have hmem:∀t∈X,t∈f.row:=fun t ht=>by rw [hr];simp [ht]
 have hiff:∀t∈X,(0≤t.1↔t.2.2=x):=fun t ht=>by
  have h1:=(hi.it t (hmem t ht)).head hm
  have h2:=hX.al t ht
  constructor
  ·intro h;rcases h2 with h2|h2
   ·exact h2
   ·exact absurd h2 (h1.1.1 h)
  ·intro h;exact h1.1.2 (by omega)
 rw [ff o hr hA hC hX]
 refine ⟨eV A,eV C,by rw [hr,lK,lK],qy hA,qy hC,fun t ht=> ?_, ?_,by simp only [lK]⟩
 ·obtain ⟨h1,h2⟩:=dG.1 ht
  exact (hiff t h1).1 h2
 ·rw [← hc,eV, ← List.countP_eq_length_filter]
  refine List.countP_congr fun t ht=> ?_
  simp only [iC,decide_eq_true_eq]
  exact hiff t ht
def lS (g:Gr) (p:Pl) (x:Int):List Int:=(eV ((fN g p g.n.toNat).getD x.toNat [])).map (·.1)
def nU (g:Gr) (p:Pl) (f:Fr) (x:Int):List Int:=(eV (aA g f x (bY p x)).1.1).map (·.1)
def td (g:Gr) (p:Pl):Nat→Fr→Prop
 |0,f=>(f.pl.length:Int)=g.n
 |m+1,f=>∃x,az g f x=true∧nU g p f x=lS g p x∧td g p m (pK g p f x)
theorem tf {g:Gr} {p:Pl} :∀ {m:Nat} {f f':Fr},f.row=f'.row→f.pl.Perm f'.pl→td g p m f→td g p m f'
 |0,f,f',_,hp,h=>by
  have h:(f.pl.length:Int)=g.n:=h
  show (f'.pl.length:Int)=g.n
  rw [← hp.length_eq];exact h
 |m+1,f,f',hr,hp,⟨x,h1,h3,h2⟩=>by
  refine ⟨x,by rw [← pJ hr hp];exact h1, ?_,tf ?_ ?_ h2⟩
  ·simp only [nU,aA,hr] at h3 ⊢;exact h3
  ·simp only [pK,aA,hr]
  ·exact hp.append_right _
theorem uQ {g:Gr} (hc:(bX g).1=0) {p:Pl} (hp:bh g p):∀ {m:Nat} {f:Fr},v8 g f→(f.pl.length:Int)+(m+1:Nat)=g.n→td g p (m+1) f→∀ {x:Int},az g f x=true→nU g p f x=lS g p x∧td g p m (pK g p f x)
 |m,f,hi,hl,⟨y,pW,LB,hcan⟩,x,hR=>by
  have hm:=ai hc
  by_cases hxy:x=y
  ·subst hxy;exact ⟨LB,hcan⟩
  have py:=bH hp (aC pW).1 (aC pW).2.1
  have px:=bH hp (aC hR).1 (aC hR).2.1
  have i2:=fY hm hi pW py
  match m,hl,hcan with
  |0,hl,hcan=>
   exfalso
   have h1:=jx i2.tofe (by show ((f.pl++ [y]).length:Int)=g.n;simp;omega) (x:=x) ⟨(aC hR).1,(aC hR).2.1⟩
   have h2:x∈f.pl++ [y]:=h1
   simp [(aC hR).2.2,hxy] at h2
  |m+1,hl,hcan=>
   obtain ⟨h4,h5,h6,h7,h8⟩:=uG hc hi hxy hR pW px py
   obtain ⟨h9,h3⟩:=uQ hc hp i2 (by show (((f.pl++ [y]).length:Nat):Int)+_=_;simp;omega) hcan h5
   refine ⟨?_,y,h4, ?_,tf h6.symm ?_ h3⟩
   ·unfold nU at h9 ⊢;rw [h7];exact h9
   ·unfold nU at LB ⊢;rw [h8] at LB;exact LB
   show (f.pl++ [y]++ [x]).Perm (f.pl++ [x]++ [y])
   rw [List.append_assoc,List.append_assoc]
   exact List.Perm.append_left _ (List.Perm.swap ..)
theorem A8 {g:Gr} (hc:(bX g).1=0) {p:Pl} (hp:bh g p):∀ {m:Nat} {f:Fr},v8 g f→td g p m f→∀ {i:Nat},i<g.es.length→tl g i∈f.pl→hd g i∉f.pl→∃t∈f.row,t.1=(i:Int)
 |0,f,hi,h,i,hil,_,hh=>by
  have hr:=bn (ai hc) hil
  exact absurd (jx hi.tofe h (x:=hd g i) hr) hh
 |m+1,f,hi,⟨x,hR,_,h⟩,i,hil,ht,hh=>by
  have hm:=ai hc
  have px:=bH hp (aC hR).1 (aC hR).2.1
  by_cases hx:hd g i=x
  ·obtain ⟨t,h1,h2,_⟩:=sK hm hi hR hil hx
   exact ⟨t,h1,h2⟩
  ·obtain ⟨t,h1,h2⟩:=A8 hc hp (fY hm hi hR px) h hil (List.mem_append.2 (.inl ht)) (fun h1=>by
    rcases List.mem_append.1 h1 with h1|h1
    ·exact hh h1
    ·exact hx (by simpa using h1))
   obtain ⟨A,X,C,hr,_,_,_,hs⟩:=ej hm hi.tofe hR
   rw [hs] at h1
   simp only [List.mem_append] at h1
   rcases h1 with (h1|h1)|h1
   ·exact ⟨t,by rw [hr];simp [h1],h2⟩
   ·rcases jw (fun i hi=>px.mem_iff.1 hi) h1 with ⟨h3,_⟩|⟨k,h3,h4,h5,_,h6,_⟩
    ·omega
    ·have:k=i:=by omega
     subst this
     exact absurd (h6 ▸ ht) (aC hR).2.2
   ·exact ⟨t,by rw [hr];simp [h1],h2⟩
def dM (g:Gr) (e:Int):Int:=(g.es.getD e.toNat (0,0)).1
def dA (g:Gr) (e:Int):Int:=(g.es.getD e.toNat (0,0)).2
def Ft (g:Gr) (x:Int):Prop:=0≤x∧x<g.n
instance {g:Gr} {x:Int} :Decidable (Ft g x):=inferInstanceAs (Decidable (0≤x∧x<g.n))
def tg (g:Gr) (p:Pl) (k:Nat) (W D:List Int):Prop:=∃f,v8 g f∧f.pl=D∧W=(eV f.row).map (·.1)∧td g p k f∧(D.length:Int)+k=g.n∧aD p 0∈D
def NG (g:Gr) (p:Pl) (x:Int):Nat:=((y4 g.n.toNat p.ord p.ord.length).getD x.toNat 0).toNat
def yx (g:Gr) (p:Pl):PS:=
 {m:=g.es.length,src:=aD p 0,Ki:=aD p (g.n.toNat - 1),tl:=dM g,hd:=dA g,ins:=fun x=>if Ft g x then lS g p x else [],outs:=fun x=>if Ft g x then bY p x else [],M9:=NG g p,Row:=tg g p,k0:=g.n.toNat - 1}
theorem zU {g:Gr} {p:Pl} {x:Int} (h:Ft g x):(yx g p).ins x=lS g p x:=if_pos h
theorem Gk {g:Gr} {p:Pl} {x:Int} (h:¬Ft g x):(yx g p).ins x= []:=if_neg h
theorem Gl {g:Gr} {p:Pl} {x:Int} (h:Ft g x):(yx g p).outs x=bY p x:=if_pos h
theorem bu {f:Edge→Int} {es:List Edge} {x e:Int} :e∈aL f es es.length x↔(0≤e∧e<es.length)∧f (es.getD e.toNat (0,0))=x:=by
 refine ⟨gO,fun ⟨h1,h2⟩=> ?_⟩
 simp only [aL,List.mem_map,List.mem_filter,List.mem_range,decide_eq_true_eq]
 exact ⟨e.toNat,⟨by omega,h2⟩,by simp;omega⟩
section
variable {g:Gr} {p:Pl}
theorem wq (hm:aK g=true) {f:Fr} (hi:fe g f) {t:It} (ht:t∈eV f.row):(0≤t.1∧t.1<g.es.length)∧t.2.1=dM g t.1∧t.2.2=dA g t.1:=by
 obtain ⟨h1,h2⟩:=dG.1 ht
 rcases hi.it t h1 with h3|h3
 ·omega
 ·exact ⟨⟨h3.1,h3.2.1⟩,h3.2.2.1,h3.2.2.2⟩
theorem G6 {f:Fr} (hi:v8 g f):((eV f.row).map (·.1)).Nodup:=by
 refine List.pairwise_map.2 ?_
 have:=hi.once.filter (fun t:It=>decide (0≤t.1))
 refine List.Pairwise.imp_of_mem (fun {s t} hs ht h1=>h1 (dG.1 hs).2) this
theorem Gm (hm:aK g=true) {f:Fr} (hi:v8 g f) {x:Int} (hR:az g f x=true):(nU g p f x).Nodup∧∀e,e∈nU g p f x↔(0≤e∧e<g.es.length)∧dA g e=x:=by
 by_cases hn:aY g x=0
 ·have hno:=fM hm hi.tofe (aC hR).1 hn
  have e0:nU g p f x= []:=by unfold nU;rw [fL _ hno];rfl
  rw [e0]
  refine ⟨List.nodup_nil,fun e=>⟨fun h=>by (cases h),fun ⟨h1,h2⟩=> ?_⟩⟩
  have:=bu.2 ⟨h1,h2⟩
  have h3:aL (·.2) g.es g.es.length x= []:=List.eq_nil_of_length_eq_zero hn
  rw [h3] at this;cases this
 ·obtain ⟨a,c,e1,ha,hc,hX,hl,_⟩:=A7 hm hi.tofe hR hn (bY p x)
  have bS:=G6 hi
  have hmem:∀t∈eV (aA g f x (bY p x)).1.1,t∈eV f.row:=fun t ht=>by rw [e1];simp [ht]
  rw [e1,List.map_append,List.map_append,List.nodup_append] at bS
  have LC:(nU g p f x).Nodup:=(List.nodup_append.1 bS.1).2.1
  have hsub:∀e∈nU g p f x,e∈aL (·.2) g.es g.es.length x:=fun e he=>by
   obtain ⟨t,ht,rfl⟩:=List.mem_map.1 he
   obtain ⟨h1,_,h3⟩:=wq hm hi.tofe (hmem t ht)
   exact bu.2 ⟨h1,by rw [← hX t ht,h3];rfl⟩
  have hlen:(aL (·.2) g.es g.es.length x).length=(nU g p f x).length:=by
   unfold nU;rw [List.length_map,hl];rfl
  exact ⟨LC,fun e=>⟨fun he=>bu.1 (hsub e he),fun he=>zR LC hsub hlen e (bu.2 he)⟩⟩
theorem Gn (h:aU g p) {k:Nat} (hk:k<g.n.toNat):lS g p (aD p k)=nU g p (fK g p k) (aD p k):=by
 unfold lS
 rw [we h.2.1 (Nat.le_refl _) hk];rfl
theorem yy (h:aU g p) {x:Int} (hx:Ft g x):(lS g p x).Nodup∧∀e,e∈lS g p x↔(0≤e∧e<g.es.length)∧dA g e=x:=by
 obtain ⟨k,hk,rfl⟩:=fh h.2.1 hx.1 hx.2
 have hm:=ai h.1
 obtain ⟨hi,_,_⟩:=bP hm h.2.1 (k:=k) (by omega) fun j hj=>h.2.2 j (by omega)
 rw [Gn h hk]
 exact Gm hm hi (h.2.2 k hk)
theorem yz (h:aU g p) {x:Int} (hx:Ft g x):(lS g p x).length=aY g x:=by
 obtain ⟨h1,h2⟩:=yy h hx
 refine Nat.le_antisymm ?_ ?_
 ·exact lE h1 fun e he=>bu.2 ((h2 e).1 he)
 ·exact lE dw fun e he=>(h2 e).2 (bu.1 he)
theorem tg.nd {k:Nat} {W D:List Int} (h:tg g p k W D):W.Nodup:=by
 obtain ⟨f,hi,_,rfl,_⟩:=h;exact G6 hi
theorem tg.mem (h:aU g p) {k:Nat} {W D:List Int} (hr:tg g p k W D) (e:Int):e∈W↔(0≤e∧e<g.es.length)∧dM g e∈D∧dA g e∉D:=by
 have hm:=ai h.1
 obtain ⟨f,hi,rfl,rfl,hc,_⟩:=hr
 constructor
 ·intro he
  obtain ⟨t,ht,rfl⟩:=List.mem_map.1 he
  obtain ⟨h1,h2,h3⟩:=wq hm hi.tofe ht
  obtain ⟨h4,h5⟩:=dG.1 ht
  exact ⟨h1,h2 ▸ hi.tail t h4 h5,h3 ▸ hi.head t h4 h5⟩
 ·rintro ⟨h1,h2,h3⟩
  obtain ⟨t,h4,h5⟩:=A8 h.1 h.2.1 hi hc (i:=e.toNat) (by omega) h2 h3
  exact List.mem_map.2 ⟨t,dG.2 ⟨h4,by omega⟩,by omega⟩
theorem tg.next (h:aU g p) {k:Nat} {W D:List Int} (hr:tg g p (k+1) W D):∃x A C,W=A++(yx g p).ins x++C∧(yx g p).ins x≠ []:=by
 have hm:=ai h.1
 obtain ⟨f,hi,rfl,rfl,⟨x,hR,hg,_⟩,_,hs⟩:=hr
 obtain ⟨x0,x1,x2⟩:=aC hR
 have hx:Ft g x:=⟨x0,x1⟩
 have hn:aY g x≠0:=fun h0=>by
  have:=iK h.1 (x:=x) (y:=aD p 0) hx (hi.pV _ hs) h0 (uP h)
  exact x2 (this ▸ hs)
 obtain ⟨a,c,e1,_,_,_,hl,_⟩:=A7 hm hi.tofe hR hn (bY p x)
 refine ⟨x,a.map (·.1),c.map (·.1), ?_, ?_⟩
 ·rw [zU hx, ← hg,e1,List.map_append,List.map_append];rfl
 ·rw [zU hx]
  intro h0
  have:=yz h hx
  rw [h0] at this
  exact hn this.symm
theorem tg.step (h:aU g p) {k:Nat} {W D A C:List Int} {x:Int} (hr:tg g p k W D) (hW:W=A++(yx g p).ins x++C) (hI:(yx g p).ins x≠ []):∃k',k=k'+1∧tg g p k' (A++(yx g p).outs x++C) (D++ [x]):=by
 have hm:=ai h.1
 have hx:Ft g x:=Decidable.byContradiction fun h0=>hI (Gk h0)
 have bS:=hr.nd
 have hmem:=tg.mem h hr
 rw [zU hx] at hW hI
 rw [Gl hx]
 obtain ⟨i1,i2⟩:=yy h hx
 obtain ⟨e0,u0,Kl⟩:=vR hI
 have Ox:x∉D:=by
  have h1:=(i2 e0).1 (by rw [Kl];simp)
  have h2:=(hmem e0).1 (by rw [hW,Kl];simp)
  rw [h1.2] at h2;exact h2.2.2
 obtain ⟨f,hi,rfl,QI,hc,hD,hs⟩:=hr
 rw [QI] at hW bS
 obtain ⟨l1,c,e1,e2,e3⟩:=List.map_eq_append_iff.1 hW
 obtain ⟨a,X,e4,e5,e6⟩:=List.map_eq_append_iff.1 e2
 have hrow:eV f.row=a++X++c:=by rw [e1,e4]
 rw [hrow,List.map_append,List.map_append,e5,e6,e3] at bS
 have hit:∀t∈a++X++c,(0≤t.1∧t.1<g.es.length)∧t.2.1=dM g t.1∧t.2.2=dA g t.1:=fun t ht=>wq hm hi.tofe (by rw [hrow];exact ht)
 have hX:tX x X:=fun t ht=>by
  have h1:t.1∈lS g p x:=by rw [← e6];exact List.mem_map_of_mem ht
  rw [(hit t (by simp [ht])).2.2,((i2 _).1 h1).2]
 have hin:∀t∈a++X++c,t.2.2=x→t.1∈lS g p x:=fun t ht e=>by
  obtain ⟨h1,_,h3⟩:=hit t ht
  exact (i2 _).2 ⟨h1,by rw [← h3,e]⟩
 have ha:eS x a:=fun t ht e=>by
  have h1:=hin t (by simp [ht]) e
  have h2:t.1∈A:=by rw [← e5];exact List.mem_map_of_mem ht
  exact (List.nodup_append.1 (List.nodup_append.1 bS).1).2.2 _ h2 _ h1 rfl
 have Oy:eS x c:=fun t ht e=>by
  have h1:=hin t (by simp [ht]) e
  have h2:t.1∈C:=by rw [← e3];exact List.mem_map_of_mem ht
  exact (List.nodup_append.1 bS).2.2 _ (List.mem_append.2 (.inr h1)) _ h2 rfl
 have Nh:X.length=aY g x:=by rw [← yz h hx, ← e6,List.length_map]
 have nX:X≠ []:=fun h0=>hI (by rw [← e6,h0];rfl)
 have hR:=yw hm hi.tofe hx.1 hx.2 Ox hrow ha Oy hX nX Nh
 have hn:aY g x≠0:=fun h0=>nX (List.eq_nil_of_length_eq_zero (Nh.trans h0))
 have px:=bH h.2.1 hx.1 hx.2
 cases k with
 |zero=>exact absurd (jx hi.tofe (by omega) hx) Ox
 |succ k=>
  refine ⟨k,rfl,pK g p f x,fY hm hi hR px,rfl, ?_,(uQ h.1 h.2.1 hi (by omega) hc hR).2, ?_,List.mem_append.2 (.inl hs)⟩
  ·have:=A6 hm hi.tofe hR hn hrow ha Oy hX nX (bY p x)
   show _=(eV (aA g f x (bY p x)).2.row).map (·.1)
   rw [this,List.map_append,List.map_append,e5,e3,oW (fun i hi=>by
    have:=bu.1 (px.mem_iff.1 hi);exact this.1.1),List.map_map]
   have e7:((fun t:It=>t.1) ∘ fu g x)=id:=rfl
   rw [e7,List.map_id]
  ·show (((f.pl++ [x]).length:Nat):Int)+_=_
   rw [List.length_append,List.length_singleton];omega
end
end Go.Ab
end
section
namespace Go.Ab
open Go.Proofs
set_option maxRecDepth 10000
structure jD (g:Gr) (p:Pl) (k:Nat) (e:Int):Prop where
 e0:0≤e
 e1:e<g.es.length
 low:dM g e∈p.ord.take k
 top:dA g e∉p.ord.take k
structure EM (g:Gr) (p:Pl) (L:Nat→Int→Int→Prop):Prop where
 up:∀e:Int,0≤e→e<g.es.length→∀k,k<g.n.toNat→aD p k=dA g e→dM g e∈p.ord.take k
 QJ:∀k,k<g.n.toNat→∀a b c:Int,jD g p k a→jD g p k b→jD g p k c→dA g a=aD p k→dA g c=aD p k→L k a b→L k b c→dA g b=aD p k
 keep:∀k,k<g.n.toNat→∀a b:Int,jD g p k a→jD g p k b→dA g a≠aD p k→dA g b≠aD p k→L k a b→L (k+1) a b
 left:∀k,k<g.n.toNat→∀a b c:Int,jD g p k a→jD g p k b→dA g a≠aD p k→dA g b=aD p k→c∈bY p (aD p k)→L k a b→L (k+1) a c
 right:∀k,k<g.n.toNat→∀a b c:Int,jD g p k a→jD g p k b→dA g a≠aD p k→dA g b=aD p k→c∈bY p (aD p k)→L k b a→L (k+1) c a
 outs:∀k,k<g.n.toNat→(bY p (aD p k)).Pairwise (L (k+1))
theorem uR {α:Type} (P:α→Prop) [DecidablePred P]:∀l:List α,∃X v,l=X++v∧(∀t∈X,P t)∧(v= []∨∃b v',v=b::v'∧¬P b)
 | []=>⟨[], [],rfl,by simp, .inl rfl⟩
 |a::l=>by
  by_cases h:P a
  ·obtain ⟨X,v,e,h1,h2⟩:=uR P l
   exact ⟨a::X,v,by simp [e],fun t ht=>(List.mem_cons.1 ht).elim (fun e=>e ▸ h) (h1 t),h2⟩
  ·exact ⟨[],a::l,rfl,by simp, .inr ⟨a,l,rfl,h⟩⟩
theorem uS {α:Type} {P:α→Prop} [DecidablePred P] {R:α→α→Prop} :∀ {l:List α},l.Pairwise R→(∀a b c,a∈l→b∈l→c∈l→P a→P c→R a b→R b c→P b)→(∃a∈l,P a)→
 ∃u X v,l=u++X++v∧(∀t∈u,¬P t)∧(∀t∈X,P t)∧X≠ []∧∀t∈v,¬P t
 | [],_,_,⟨a,ha,_⟩=>by cases ha
 |t::l,hp,hb,hex=>by
  obtain ⟨hp1,hp2⟩:=List.pairwise_cons.1 hp
  by_cases h:P t
  ·obtain ⟨X,v,e,h1,h2⟩:=uR P l
   refine ⟨[],t::X,v,by simp [e],by simp,fun s hs=>(List.mem_cons.1 hs).elim (fun e=>e ▸ h) (h1 s),by simp,fun c hc Oz=> ?_⟩
   rcases h2 with rfl|⟨b,v',rfl,hnb⟩
   ·cases hc
   ·have hb1:b∈l:=by rw [e];simp
    rcases List.mem_cons.1 hc with rfl|pQ
    ·exact hnb Oz
    ·have hbc:R b c:=by
      rw [e] at hp2
      have:=(List.pairwise_append.1 hp2).2.1
      exact (List.pairwise_cons.1 this).1 c pQ
     exact hnb (hb t b c (by simp) (by simp [hb1]) (by rw [e];simp [pQ]) h Oz (hp1 b hb1) hbc)
  ·obtain ⟨a,ha,hPa⟩:=hex
   have Kj:a∈l:=(List.mem_cons.1 ha).elim (fun e=>absurd (e ▸ hPa) h) id
   obtain ⟨u,X,v,e,h1,h2,h3,h4⟩:=uS hp2 (fun a b c ha hb' hc=>hb a b c (by simp [ha]) (by simp [hb']) (by simp [hc])) ⟨a,Kj,hPa⟩
   exact ⟨t::u,X,v,by simp [e],fun s hs=>(List.mem_cons.1 hs).elim (fun e=>e ▸ h) (h1 s),h2,h3,h4⟩
theorem jE {p:Pl} {k:Nat} {y:Int} (h:y∈p.ord.take k):∃j,j<k∧j<p.ord.length∧aD p j=y:=by
 obtain ⟨j,hj,e⟩:=List.mem_iff_getElem.1 h
 simp only [List.length_take] at hj
 refine ⟨j,by omega,by omega, ?_⟩
 rw [aD,List.getD_eq_getElem?_getD,List.getElem?_eq_getElem (by omega),Option.getD_some, ← e,List.getElem_take]
theorem uT {p:Pl} {k j:Nat} (h1:j<k) (h2:j<p.ord.length):aD p j∈p.ord.take k:=by
 rw [aD,List.getD_eq_getElem?_getD,List.getElem?_eq_getElem h2,Option.getD_some]
 exact List.mem_iff_getElem.2 ⟨j,by simp;omega,by simp⟩
theorem uU {g:Gr} {p:Pl} (hp:bh g p) {k:Nat} (hk:k<g.n.toNat):aD p k∉p.ord.take k:=fun h=>by
 obtain ⟨j,h1,h2,h3⟩:=jE h
 have:=lI hp (i:=j) (j:=k) (by omega) hk h3
 omega
theorem fP {g:Gr} {p:Pl} (hp:bh g p) {k:Nat} (hk:k<g.n.toNat):p.ord.take (k+1)=p.ord.take k++ [aD p k]:=by
 rw [List.take_add_one,List.getElem?_eq_getElem (by rw [aI hp];exact hk),aD,List.getD_eq_getElem?_getD,List.getElem?_eq_getElem (by rw [aI hp];exact hk)]
 rfl
section
variable {g:Gr} {p:Pl}
theorem iO (hm:aK g=true) {f:Fr} (hi:v8 g f) {k:Nat} (cT:f.pl=p.ord.take k) {t:It} (ht:t∈eV f.row):jD g p k t.1∧dM g t.1=t.2.1∧dA g t.1=t.2.2:=by
 obtain ⟨h1,h2⟩:=dG.1 ht
 rcases hi.it t h1 with h|⟨_,g2,g3,g4⟩
 ·omega
 ·refine ⟨⟨h2,g2, ?_, ?_⟩,g3.symm,g4.symm⟩
  ·rw [← cT];unfold dM;rw [← g3];exact hi.tail t h1 h2
  ·rw [← cT];unfold dA;rw [← g4];exact hi.head t h1 h2
theorem yA (hc:(bX g).1=0) (hp:bh g p) {L:Nat→Int→Int→Prop} (hL:EM g p L):∀ {k:Nat},k≤g.n.toNat→
 (∀j,j<k→pY g p j=true)∧((eV (fK g p k).row).Pairwise fun s t=>L k s.1 t.1)∧∀e,jD g p k e→∃t∈(fK g p k).row,t.1=e
 |0,_=>⟨fun j hj=>by omega,by simp [fK,eV],fun e he=>by have:=he.low;simp at this⟩
 |k+1,hk=>by
  have hm:=ai hc
  obtain ⟨ih1,ih2,ih3⟩:=yA hc hp hL (k:=k) (by omega)
  obtain ⟨hi,cT,_⟩:=bP hm hp (k:=k) (by omega) ih1
  obtain ⟨x0,x1⟩:=bq hp (k:=k) (by omega)
  have hnew:=uU hp (k:=k) (by omega)
  have hnext:=fP hp (k:=k) (by omega)
  have hpx:=bH hp x0 x1
  have hout:∀i∈bY p (aD p k),(0≤i∧i<g.es.length)∧dM g i=aD p k:=fun i hi=>bu.1 (hpx.mem_iff.1 hi)
  have Bt:=hL.outs k (by omega)
  have yB:fK g p (k+1)=(aA g (fK g p k) (aD p k) (bY p (aD p k))).2:=rfl
  have hab:=oW (g:=g) (x:=aD p k) (o:=bY p (aD p k)) fun i hi=>(hout i hi).1.1
  have fin:∀a X c:List It,pY g p k=true→eV (fK g p k).row=a++X++c→eS (aD p k) a→eS (aD p k) c→tX (aD p k) X→(X≠ []∨a++c= [])→eV (fK g p (k+1)).row=a++eV (aJ g (aD p k) (bY p (aD p k)))++c→
   (∀j,j<k+1→pY g p j=true)∧((eV (fK g p (k+1)).row).Pairwise fun s t=>L (k+1) s.1 t.1)∧∀e,jD g p (k+1) e→∃t∈(fK g p (k+1)).row,t.1=e:=by
   intro a X c hR e ha pQ hX Cm hs
   refine ⟨fun j hj=> ?_, ?_,fun q hq=> ?_⟩
   ·by_cases h:j=k
    ·subst h;exact hR
    ·exact ih1 j (by omega)
   ·have hma:∀t∈a,t∈eV (fK g p k).row:=fun t ht=>by rw [e];simp [ht]
    have LD:∀t∈X,t∈eV (fK g p k).row:=fun t ht=>by rw [e];simp [ht]
    have G5:∀t∈c,t∈eV (fK g p k).row:=fun t ht=>by rw [e];simp [ht]
    have A9:=fun t ht=>iO (p:=p) hm hi cT (t:=t) ht
    rw [e,List.pairwise_append,List.pairwise_append] at ih2
    obtain ⟨⟨pa,pX,QK⟩,pc,KL⟩:=ih2
    have hne:∀t,t∈a∨t∈c→dA g t.1≠aD p k:=fun t ht=>by
     rcases ht with ht|ht
     ·rw [(A9 t (hma t ht)).2.2];exact ha t ht
     ·rw [(A9 t (G5 t ht)).2.2];exact pQ t ht
    rw [hs,hab,List.pairwise_append,List.pairwise_append]
    refine ⟨⟨?_, ?_, ?_⟩, ?_, ?_⟩
    ·exact pa.imp_of_mem fun {s t} hs' ht' h=>hL.keep k (by omega) _ _ (A9 s (hma s hs')).1 (A9 t (hma t ht')).1 (hne s (.inl hs')) (hne t (.inl ht')) h
    ·rw [List.pairwise_map];exact Bt
    ·intro s hs' t ht'
     obtain ⟨i,hi',rfl⟩:=List.mem_map.1 ht'
     rcases Cm with Cm|h0
     ·obtain ⟨y,Y,rfl⟩:∃y Y,X=y::Y:=by
       cases X with
       |nil=>exact absurd rfl Cm
       |cons y Y=>exact ⟨y,Y,rfl⟩
      exact hL.left k (by omega) s.1 y.1 i (A9 s (hma s hs')).1 (A9 y (LD y (by simp))).1 (hne s (.inl hs')) (by rw [(A9 y (LD y (by simp))).2.2];exact hX y (by simp)) hi' (QK s hs' y (by simp))
     ·rw [(List.append_eq_nil_iff.1 h0).1] at hs';cases hs'
    ·exact pc.imp_of_mem fun {s t} hs' ht' h=>hL.keep k (by omega) _ _ (A9 s (G5 s hs')).1 (A9 t (G5 t ht')).1 (hne s (.inr hs')) (hne t (.inr ht')) h
    ·intro s hs' t ht'
     rcases List.mem_append.1 hs' with hs1|hs1
     ·exact hL.keep k (by omega) _ _ (A9 s (hma s hs1)).1 (A9 t (G5 t ht')).1 (hne s (.inl hs1)) (hne t (.inr ht')) (KL s (by simp [hs1]) t ht')
     ·obtain ⟨i,hi',rfl⟩:=List.mem_map.1 hs1
      rcases Cm with Cm|h0
      ·obtain ⟨y,Y,rfl⟩:∃y Y,X=y::Y:=by
        cases X with
        |nil=>exact absurd rfl Cm
        |cons y Y=>exact ⟨y,Y,rfl⟩
       exact hL.right k (by omega) t.1 y.1 i (A9 t (G5 t ht')).1 (A9 y (LD y (by simp))).1 (hne t (.inr ht')) (by rw [(A9 y (LD y (by simp))).2.2];exact hX y (by simp)) hi' (KL y (by simp) t ht')
      ·rw [(List.append_eq_nil_iff.1 h0).2] at ht';cases ht'
   ·have IQ:∃t∈eV (fK g p (k+1)).row,t.1=q:=by
     have hl:=hq.low
     rw [hnext,List.mem_append,List.mem_singleton] at hl
     have ht:=hq.top
     rw [hnext,List.mem_append,List.mem_singleton] at ht
     rw [hs]
     rcases hl with hl|hl
     ·obtain ⟨t,ht1,ht2⟩:=ih3 q ⟨hq.e0,hq.e1,hl,fun h=>ht (.inl h)⟩
      have hte:t∈eV (fK g p k).row:=dG.2 ⟨ht1,by rw [ht2];exact hq.e0⟩
      have hh:=(iO (p:=p) hm hi cT hte).2.2
      have gu:=hte
      rw [e,List.mem_append,List.mem_append] at gu
      rcases gu with (h1|h1)|h1
      ·exact ⟨t,by simp [h1],ht2⟩
      ·exact absurd (by rw [← ht2,hh];exact hX t h1) fun h=>ht (.inr h)
      ·exact ⟨t,by simp [h1],ht2⟩
     ·refine ⟨fu g (aD p k) q, ?_,rfl⟩
      rw [hab,List.mem_append,List.mem_append]
      exact .inl (.inr (List.mem_map.2 ⟨q,hpx.mem_iff.2 (bu.2 ⟨⟨hq.e0,hq.e1⟩,hl⟩),rfl⟩))
    obtain ⟨t,h1,h2⟩:=IQ
    exact ⟨t,(dG.1 h1).1,h2⟩
  by_cases hn:aY g (aD p k)=0
  ·have hno:=fM hm hi.tofe x0 hn
   have hR:pY g p k=true:=by
    show az g (fK g p k) (aD p k)=true
    unfold az
    rw [if_neg (by rintro (h|h|h);omega;omega;exact hnew (cT ▸ h)),if_pos hn]
   have hrow:(fK g p k).row= []:=by
    rcases hi.src with h|⟨s,hs,hs0⟩
    ·exact h.2
    ·have:=iK hc (hi.pV s hs) ⟨x0,x1⟩ hs0 hn
     exact absurd (by rw [← cT, ← this];exact hs) hnew
   refine fin [] [] [] hR (by rw [hrow];rfl) (fun t ht=>by cases ht) (fun t ht=>by cases ht) (fun t ht=>by cases ht) (.inr rfl) ?_
   rw [yB,fL _ hno,hrow]
   simp
  ·have hex:∃e,e∈aL (·.2) g.es g.es.length (aD p k):=by
    cases h:aL (·.2) g.es g.es.length (aD p k) with
    |nil=>exact absurd (by unfold aY;rw [h];rfl) hn
    |cons e l=>exact ⟨e,by simp⟩
   have KM:∀e,e∈aL (·.2) g.es g.es.length (aD p k)→∃t∈eV (fK g p k).row,t.1=e∧t.2.2=aD p k:=fun e he=>by
    obtain ⟨⟨e0,e1⟩,e2⟩:=bu.1 he
    obtain ⟨t,ht1,ht2⟩:=ih3 e ⟨e0,e1,hL.up e e0 e1 k (by omega) e2.symm,by rw [show dA g e=aD p k from e2];exact hnew⟩
    have hte:t∈eV (fK g p k).row:=dG.2 ⟨ht1,by rw [ht2];exact e0⟩
    exact ⟨t,hte,ht2,by rw [← (iO (p:=p) hm hi cT hte).2.2,ht2];exact e2⟩
   obtain ⟨e,he⟩:=hex
   obtain ⟨t0,Gp,_,NH⟩:=KM e he
   obtain ⟨a,X,c,hE,ha,hX,nX,pQ⟩:=uS (P:=fun t:It=>t.2.2=aD p k) ih2 (fun a b c ma mb mc ea ec r1 r2=>by
    have ca:=iO (p:=p) hm hi cT ma
    have cb:=iO (p:=p) hm hi cT mb
    have cc:=iO (p:=p) hm hi cT mc
    rw [← cb.2.2]
    exact hL.QJ k (by omega) a.1 b.1 c.1 ca.1 cb.1 cc.1 (by rw [ca.2.2];exact ea) (by rw [cc.2.2];exact ec) r1 r2) ⟨t0,Gp,NH⟩
   have hlen:X.length=aY g (aD p k):=by
    have bS:((eV (fK g p k).row).map (·.1)).Nodup:=by
     rw [List.Nodup,List.pairwise_map]
     exact (hi.once.filter _).imp_of_mem fun {s t} hs ht h=>h (dG.1 hs).2
    have NI:(X.map (·.1)).Nodup:=by
     rw [hE,List.map_append,List.map_append] at bS
     exact (List.nodup_append.1 (List.nodup_append.1 bS).1).2.1
    have AW:(X.map (·.1)).Perm (aL (·.2) g.es g.es.length (aD p k)):=by
     refine (List.perm_ext_iff_of_nodup NI dw).2 fun e=>⟨fun h=> ?_,fun h=> ?_⟩
     ·obtain ⟨t,ht,rfl⟩:=List.mem_map.1 h
      have hte:t∈eV (fK g p k).row:=by rw [hE];simp [ht]
      have ct:=iO (p:=p) hm hi cT hte
      exact bu.2 ⟨⟨ct.1.e0,ct.1.e1⟩,(show dA g t.1=_ by rw [ct.2.2];exact hX t ht)⟩
     ·obtain ⟨t,ht,h1,h2⟩:=KM e h
      rw [hE,List.mem_append,List.mem_append] at ht
      rcases ht with (h3|h3)|h3
      ·exact absurd h2 (ha t h3)
      ·exact List.mem_map.2 ⟨t,h3,h1⟩
      ·exact absurd h2 (pQ t h3)
    have:=AW.length_eq
    rw [List.length_map] at this
    exact this
   have hR:pY g p k=true:=yw hm hi.tofe x0 x1 (by rw [cT];exact hnew) hE ha pQ hX nX hlen
   exact fin a X c hR hE ha pQ hX (.inl nX) (by rw [yB];exact A6 hm hi.tofe hR hn hE ha pQ hX nX _)
theorem Cn (hc:(bX g).1=0) (hp:bh g p) {L:Nat→Int→Int→Prop} (hL:EM g p L):aU g p:=
 ⟨hc,hp,fun k hk=>(yA hc hp hL (k:=k+1) (by omega)).1 k (by omega)⟩
end
end Go.Ab
end
section
namespace Go.Ab
open Go.Proofs
set_option maxRecDepth 10000
set_option linter.unusedSectionVars false
def Ba (lt:Int→Int→Bool) (us:List Int):Nat→Int
 |0=> -1
 |k+1=>if (!decide ((k:Int)∈us))&&(decide (Ba lt us k<0)||lt k (Ba lt us k)) then k else Ba lt us k
def KN (lt:Int→Int→Bool) (n:Nat):Nat→List Int
 |0=> []
 |j+1=>KN lt n j++ [Ba lt (KN lt n j) n]
def QL (lt:Int→Int→Bool) (u v:Int):Prop:=lt u v=true∧lt v u=false
section
variable {lt:Int→Int→Bool} {n:Nat} {ord:List Int} (hp:ord.Perm (cQ n)) (hs:ord.Pairwise (QL lt))
include hp hs
end
def G7 (sw:Int→Int→Bool):Int→List Int→Int × List Int
 |a, []=>(a, [])
 |a,c::r=>if sw a c then ((G7 sw c r).1,a::(G7 sw c r).2) else ((G7 sw a r).1,c::(G7 sw a r).2)
def OA (sw:Int→Int→Bool):Nat→List Int→List Int
 |0,l=>l
 |_+1, []=> []
 |n+1,a::r=>(G7 sw a r).1::OA sw n (G7 sw a r).2
section
variable {sw:Int→Int→Bool} {R:Int→Int→Prop} {S:Int→Prop} (htr:∀a b c,S a→S b→S c→R a b→R b c→R a c) (hsw:∀a c,S a→S c→a≠c→if sw a c=true then R c a else R a c)
include htr hsw
end
theorem Co {R:Int→Int→Prop} {l m:List Int} (hp:l.Perm m) (ha:∀a b,R a b→R b a→False) (h1:l.Pairwise R) (h2:m.Pairwise R):l=m:=by
 induction l generalizing m with
 |nil=>exact hp.symm.eq_nil.symm
 |cons a l ih=>
  cases m with
  |nil=>exact absurd hp.length_eq (by simp)
  |cons b m=>
   obtain ⟨a1,a2⟩:=List.pairwise_cons.1 h1
   obtain ⟨b1,b2⟩:=List.pairwise_cons.1 h2
   have hab:a=b:=by
    refine Decidable.byContradiction fun hne=> ?_
    have ma:a∈b::m:=hp.mem_iff.1 (by simp)
    have mb:b∈a::l:=hp.mem_iff.2 (by simp)
    have ma:a∈m:=(List.mem_cons.1 ma).elim (fun e=>absurd e hne) id
    have mb:b∈l:=(List.mem_cons.1 mb).elim (fun e=>absurd e.symm hne) id
    exact ha a b (a1 b mb) (b1 a ma)
   subst hab
   rw [ih ((List.perm_cons a).1 hp) a2 b2]
def Si (sw:Int→Int→Bool) (a:Int) (done todo:List Int):List Int:=(G7 sw a todo).1::OA sw (done.length+todo.length) (done++(G7 sw a todo).2)
end Go.Ab
end
section
namespace Go.Ab
open Go.Proofs
set_option maxRecDepth 10000
set_option linter.unusedSectionVars false
theorem dK:∀ {l:List Int} {i:Nat},l.Nodup→i<l.length→l.idxOf (l.getD i 0)=i
 | [],i,_,h=>by simp at h
 |a::l,0,_,_=>by simp
 |a::l,i+1,hn,h=>by
  obtain ⟨h1,h2⟩:=List.nodup_cons.1 hn
  have hi:i<l.length:=by simpa using h
  have e:(a::l).getD (i+1) 0=l.getD i 0:=rfl
  have hm:l.getD i 0∈l:=aS hi
  have hne:(a==l.getD i 0)=false:=by
   rw [beq_eq_false_iff_ne];intro e2;exact h1 (e2 ▸ hm)
  rw [e,List.idxOf_cons,hne,cond_false,dK h2 hi]
theorem th {l:List Int} {u:Int} (h:u∈l):l.idxOf u<l.length∧l.getD (l.idxOf u) 0=u:=by
 have h1:=List.idxOf_lt_length_iff.2 h
 refine ⟨h1, ?_⟩
 rw [List.getD_eq_getElem?_getD,List.getElem?_eq_getElem h1,Option.getD_some]
 exact List.getElem_idxOf h1
theorem wu {A B:List Int} {u:Int} :(A++B).idxOf u=if u∈A then A.idxOf u else A.length+B.idxOf u:=by
 rw [List.idxOf_append];split<;>omega
section
variable {g:Gr} {p:Pl}
def tj (g:Gr) (p:Pl) (c:Nat):List Int:=(eV (fK g p c).row).map (·.1)
theorem iP (h:aU g p) {c:Nat} (hc:c≤g.n.toNat):(tj g p c).Nodup:=by
 obtain ⟨hi,_,_⟩:=bP (ai h.1) h.2.1 hc fun j hj=>h.2.2 j (by omega)
 rw [tj,List.Nodup,List.pairwise_map]
 exact (hi.once.filter _).imp_of_mem fun {s t} hs ht h=>h (dG.1 hs).2
theorem gS (h:aU g p) {c:Nat} (hc:c<g.n.toNat):∃A X C,tj g p c=A++X++C∧(∀e∈A,dA g e≠aD p c)∧(∀e∈X,dA g e=aD p c)∧(∀e∈C,dA g e≠aD p c)∧tj g p (c+1)=A++bY p (aD p c)++C:=by
 have hm:=ai h.1
 obtain ⟨hi,cT,_⟩:=bP hm h.2.1 (k:=c) (by omega) fun j hj=>h.2.2 j (by omega)
 obtain ⟨x0,x1⟩:=bq h.2.1 hc
 have hR:az g (fK g p c) (aD p c)=true:=h.2.2 c hc
 have hpx:=bH h.2.1 x0 x1
 have hab:=oW (g:=g) (x:=aD p c) (o:=bY p (aD p c)) fun i hi=>(bu.1 (hpx.mem_iff.1 hi)).1.1
 have hmap:(eV (aJ g (aD p c) (bY p (aD p c)))).map (·.1)=bY p (aD p c):=by
  rw [hab,List.map_map]
  have e7:((fun t:It=>t.1) ∘ fu g (aD p c))=id:=rfl
  rw [e7,List.map_id]
 have hd:∀t∈eV (fK g p c).row,dA g t.1=t.2.2:=fun t ht=>(iO (p:=p) hm hi cT ht).2.2
 have yB:fK g p (c+1)=(aA g (fK g p c) (aD p c) (bY p (aD p c))).2:=rfl
 by_cases hn:aY g (aD p c)=0
 ·have hno:=fM hm hi.tofe x0 hn
  have hrow:(fK g p c).row= []:=by
   rcases hi.src with h|⟨s,hs,hs0⟩
   ·exact h.2
   ·have:=iK h.1 (hi.pV s hs) ⟨x0,x1⟩ hs0 hn
    exact absurd (by rw [← cT, ← this];exact hs) (uU h.2.1 hc)
  refine ⟨[], [], [],by simp [tj,hrow,eV],by simp,by simp,by simp, ?_⟩
  rw [tj,yB,fL _ hno,hrow]
  simpa using hmap
 ·obtain ⟨a,X,b,e,ha,hb,hX,_,hs⟩:=yu hm hi.tofe hR hn
  refine ⟨a.map (·.1),X.map (·.1),b.map (·.1),by rw [tj,e,List.map_append,List.map_append], ?_, ?_, ?_, ?_⟩
  ·intro q hq
   obtain ⟨t,ht,rfl⟩:=List.mem_map.1 hq
   rw [hd t (by rw [e];simp [ht])];exact ha t ht
  ·intro q hq
   obtain ⟨t,ht,rfl⟩:=List.mem_map.1 hq
   rw [hd t (by rw [e];simp [ht])];exact hX t ht
  ·intro q hq
   obtain ⟨t,ht,rfl⟩:=List.mem_map.1 hq
   rw [hd t (by rw [e];simp [ht])];exact hb t ht
  ·rw [tj,yB,hs,List.map_append,List.map_append,hmap]
theorem yC (h:aU g p):∀ {c:Nat},c≤g.n.toNat→∀e,jD g p c e→e∈tj g p c
 |0,_,e,he=>by have:=he.low;simp at this
 |c+1,hc,e,he=>by
  obtain ⟨A,X,C,e1,hA,hX,hC,e2⟩:=gS h (c:=c) (by omega)
  have hnext:=fP h.2.1 (k:=c) (by omega)
  have hl:=he.low
  have ht:=he.top
  rw [hnext,List.mem_append,List.mem_singleton] at hl ht
  rw [e2]
  rcases hl with hl|hl
  ·have:=yC h (c:=c) (by omega) e ⟨he.e0,he.e1,hl,fun h=>ht (.inl h)⟩
   rw [e1,List.mem_append,List.mem_append] at this
   rcases this with (h1|h1)|h1
   ·simp [h1]
   ·exact absurd (hX e h1) fun h=>ht (.inr h)
   ·simp [h1]
  ·obtain ⟨x0,x1⟩:=bq h.2.1 (k:=c) (by omega)
   have:e∈bY p (aD p c):=(bH h.2.1 x0 x1).mem_iff.2 (bu.2 ⟨⟨he.e0,he.e1⟩,hl⟩)
   simp [this]
end
def uV (g:Gr) (bs:List Int) (i:Int):Int:=g.n+(bs.idxOf i:Nat)
def iD (g:Gr) (bs:List Int):List Edge:=
 ((List.range g.es.length).map fun i:Nat=>(tl g i,if (i:Int)∈bs then uV g bs i else hd g i))++(List.range bs.length).map fun k:Nat=>(g.n+(k:Int),dA g (bs.getD k 0))
def aM (g:Gr) (bs:List Int):Gr:=⟨g.n+bs.length,iD g bs⟩
structure wz (g:Gr) (bs:List Int):Prop where
 nd:bs.Nodup
 pV:∀i∈bs,0≤i∧i<g.es.length
section
variable {g:Gr} {bs:List Int}
theorem fQ:(aM g bs).es.length=g.es.length+bs.length:=by simp [aM,iD]
theorem cD {e:Int} (h0:0≤e) (h1:e<g.es.length):dM (aM g bs) e=dM g e∧dA (aM g bs) e=if e∈bs then uV g bs e else dA g e:=by
 have hl:e.toNat<g.es.length:=by omega
 have:(aM g bs).es.getD e.toNat (0,0)=(tl g e.toNat,if ((e.toNat:Nat):Int)∈bs then uV g bs ((e.toNat:Nat):Int) else hd g e.toNat):=by
  simp only [aM,iD]
  rw [List.getD_eq_getElem?_getD,List.getElem?_append_left (by simpa using hl),List.getElem?_map,List.getElem?_range hl]
  rfl
 rw [show ((e.toNat:Nat):Int)=e by omega] at this
 exact ⟨by unfold dM;rw [this];rfl,by unfold dA;rw [this];rfl⟩
theorem gB {k:Nat} (h:k<bs.length):dM (aM g bs) ((g.es.length+k:Nat):Int)=g.n+(k:Int)∧dA (aM g bs) ((g.es.length+k:Nat):Int)=dA g (bs.getD k 0):=by
 have:(aM g bs).es.getD (g.es.length+k) (0,0)=(g.n+(k:Int),dA g (bs.getD k 0)):=by
  simp only [aM,iD]
  rw [List.getD_eq_getElem?_getD,List.getElem?_append_right (by simp),List.length_map,List.length_range,Nat.add_sub_cancel_left,List.getElem?_map,List.getElem?_range h]
  rfl
 exact ⟨by unfold dM;rw [Int.toNat_natCast,this],by unfold dA;rw [Int.toNat_natCast,this];rfl⟩
def zV (g:Gr) (bs:List Int) (e:Int):Int:=if e<g.es.length then e else bs.getD (e - g.es.length).toNat 0
def Cp (g:Gr) (bs:List Int) (u:Int):Int:=if u<g.n then u else dM g (bs.getD (u - g.n).toNat 0)
theorem cR (hb:wz g bs) {i:Int} (hi:i∈bs):g.n≤uV g bs i∧uV g bs i<g.n+bs.length∧Cp g bs (uV g bs i)=dM g i∧bs.getD (uV g bs i - g.n).toNat 0=i:=by
 obtain ⟨h1,h2⟩:=th hi
 have e:(uV g bs i - g.n).toNat=bs.idxOf i:=by unfold uV;omega
 refine ⟨by unfold uV;omega,by unfold uV;omega, ?_,by rw [e,h2]⟩
 unfold Cp
 rw [if_neg (by unfold uV;omega),e,h2]
end
structure EN (g:Gr) (p:Pl) (bs:List Int) (q:Pl):Prop where
 len:q.outs.length=(g.n+bs.length).toNat
 G8:∀x:Nat,x<g.n.toNat→q.outs.getD x []=p.outs.getD x []
 EO:∀k:Nat,k<bs.length→q.outs.getD (g.n.toNat+k) []= [((g.es.length+k:Nat):Int)]
 perm:q.ord.Perm (cQ (g.n+bs.length).toNat)
 sort:q.ord.Pairwise fun u v=>p.ord.idxOf (Cp g bs u)<p.ord.idxOf (Cp g bs v)∨Cp g bs u=Cp g bs v∧u<v
theorem pZ {A B:List Int} {u:Int} (h:u∈A):(A++B).idxOf u=A.idxOf u∧A.idxOf u<A.length:=⟨by rw [wu,if_pos h],List.idxOf_lt_length_iff.2 h⟩
theorem gC {A B:List Int} {u:Int} (hn:(A++B).Nodup) (h:u∈B):(A++B).idxOf u=A.length+B.idxOf u∧B.idxOf u<B.length:=
 ⟨by rw [wu,if_neg fun ha=>(List.nodup_append.1 hn).2.2 u ha u h rfl],List.idxOf_lt_length_iff.2 h⟩
theorem oX {g:Gr} {p:Pl} (h:aU g p) {e:Int} (h0:0≤e) (h1:e<g.es.length):p.ord.idxOf (dM g e)<p.ord.idxOf (dA g e):=by
 have hm:=ai h.1
 have bS:=bN h.2.1
 have hl:=aI h.2.1
 obtain ⟨k,hk,ek⟩:=fh h.2.1 (bn hm (i:=e.toNat) (by omega)).1 (bn hm (i:=e.toNat) (by omega)).2
 obtain ⟨hi,cT,_⟩:=bP hm h.2.1 (k:=k) (by omega) fun j hj=>h.2.2 j (by omega)
 obtain ⟨t,ht,e1,e2,_⟩:=sK hm hi (h.2.2 k hk) (i:=e.toNat) (by omega) ek.symm
 have hin:=hi.tail t ht (by omega)
 rw [cT,e2] at hin
 obtain ⟨j,j1,j2,j3⟩:=jE hin
 have a1:p.ord.idxOf (tl g e.toNat)=j:=by rw [← j3];exact dK bS j2
 have a2:p.ord.idxOf (hd g e.toNat)=k:=by rw [← ek];exact dK bS (by omega)
 show p.ord.idxOf (tl g e.toNat)<p.ord.idxOf (hd g e.toNat)
 omega
def I2 (g:Gr) (p:Pl) (bs:List Int) (u v:Int):Prop:=p.ord.idxOf (Cp g bs u)<p.ord.idxOf (Cp g bs v)∨Cp g bs u=Cp g bs v∧u<v
def fk (g:Gr) (q:Pl) (k:Nat):Nat:=((q.ord.take k).filter fun u=>decide (u<g.n)).length
section
variable {g:Gr} {p:Pl} {bs:List Int} {q:Pl} (h:aU g p) (hb:wz g bs) (hq:EN g p bs q)
include h hb hq
theorem EP:(aM g bs).n.toNat=g.n.toNat+bs.length:=by
 have hn:=aH (ai h.1)
 show (g.n+(bs.length:Int)).toNat=_
 omega
theorem cz {e:Int} (h0:0≤e) (h1:e<(aM g bs).es.length):(e<g.es.length∧zV g bs e=e)∨∃k:Nat,k<bs.length∧e=((g.es.length+k:Nat):Int)∧zV g bs e=bs.getD k 0∧bs.getD k 0∈bs∧dM (aM g bs) e=uV g bs (bs.getD k 0):=by
 rw [fQ] at h1
 by_cases hlt:e<g.es.length
 ·exact .inl ⟨hlt,if_pos hlt⟩
 ·refine .inr ⟨(e - g.es.length).toNat,by omega,by omega,by unfold zV;rw [if_neg hlt],aS (by omega), ?_⟩
  have hk:(e - g.es.length).toNat<bs.length:=by omega
  have:=(gB (g:=g) hk).1
  rw [show ((g.es.length+(e - g.es.length).toNat:Nat):Int)=e by omega] at this
  rw [this]
  unfold uV
  rw [dK hb.nd hk]
theorem gD {u:Int} (hu:u<g.n):Cp g bs u=u:=if_pos hu
theorem iu:bh (aM g bs) q:=by
 have hm:=ai h.1
 have hn:=aH hm
 have hN:=EP h hb hq
 refine ⟨by rw [hq.len];rfl,hq.perm,fun x hx=> ?_⟩
 rw [hN] at hx
 by_cases AJ:x<g.n.toNat
 ·rw [hq.G8 x AJ]
  have hp:=h.2.1.2.2 x AJ
  refine (List.perm_ext_iff_of_nodup (hp.nodup_iff.2 dw) dw).2 fun e=> ?_
  rw [hp.mem_iff]
  show e∈aL (·.1) g.es g.es.length (x:Int)↔e∈aL (·.1) (aM g bs).es (aM g bs).es.length (x:Int)
  rw [bu,bu]
  constructor
  ·rintro ⟨⟨h0,h1⟩,h2⟩
   exact ⟨⟨h0,by rw [fQ];omega⟩,(cD h0 h1).1.trans h2⟩
  ·rintro ⟨⟨h0,h1⟩,h2⟩
   rcases cz h hb hq h0 h1 with ⟨h3,_⟩|⟨k,h3,_,_,h4,h5⟩
   ·exact ⟨⟨h0,h3⟩,(cD h0 h3).1.symm.trans h2⟩
   ·have:=(cR hb h4).1
    have h2:dM (aM g bs) e=x:=h2
    omega
 ·obtain ⟨k,rfl⟩:∃k,x=g.n.toNat+k:=⟨x - g.n.toNat,by omega⟩
  have hk:k<bs.length:=by omega
  rw [hq.EO k hk]
  refine (List.perm_ext_iff_of_nodup (by simp) dw).2 fun e=> ?_
  rw [List.mem_singleton]
  show _↔e∈aL (·.1) (aM g bs).es (aM g bs).es.length ((g.n.toNat+k:Nat):Int)
  rw [bu]
  have hnew:=gB (g:=g) hk
  constructor
  ·rintro rfl
   exact ⟨⟨by omega,by rw [fQ];omega⟩,by have:dM (aM g bs) ((g.es.length+k:Nat):Int)=((g.n.toNat+k:Nat):Int):=by {rw [hnew.1];omega};exact this⟩
  ·rintro ⟨⟨h0,h1⟩,h2⟩
   have h2:dM (aM g bs) e=((g.n.toNat+k:Nat):Int):=h2
   rcases cz h hb hq h0 h1 with ⟨h3,_⟩|⟨j,h3,h6,_,h4,h5⟩
   ·have:=(cD (bs:=bs) h0 h3).1
    have:=aZ hm (i:=e.toNat) (by omega)
    have e3:dM g e=tl g e.toNat:=rfl
    omega
   ·unfold uV at h5
    rw [dK hb.nd h3] at h5
    have:j=k:=by omega
    rw [h6,this]
theorem G9 {e:Int} (h0:0≤e) (h1:e<(aM g bs).es.length):I2 g p bs (dM (aM g bs) e) (dA (aM g bs) e):=by
 have hm:=ai h.1
 have tr:=fun (i:Int) (a:0≤i) (b:i<g.es.length)=>show 0≤dM g i∧dM g i<g.n from aZ hm (i:=i.toNat) (by omega)
 have hr:=fun (i:Int) (a:0≤i) (b:i<g.es.length)=>show 0≤dA g i∧dA g i<g.n from bn hm (i:=i.toNat) (by omega)
 rcases cz h hb hq h0 h1 with ⟨h3,_⟩|⟨k,h3,h6,_,h4,h5⟩
 ·obtain ⟨r1,r2⟩:=cD (g:=g) (bs:=bs) h0 h3
  rw [r1,r2]
  have t0:dM g e<g.n:=(tr e h0 h3).2
  by_cases hin:e∈bs
  ·rw [if_pos hin]
   obtain ⟨n1,_,n3,_⟩:=cR hb hin
   exact .inr ⟨by rw [n3];exact gD h hb hq t0,by omega⟩
  ·rw [if_neg hin]
   left
   rw [gD h hb hq t0,gD h hb hq (hr e h0 h3).2]
   exact oX h h0 h3
 ·rw [h5]
  obtain ⟨b0,b1⟩:=hb.pV _ h4
  obtain ⟨n1,_,n3,_⟩:=cR hb h4
  have:=(gB (g:=g) h3).2
  rw [← h6] at this
  rw [this]
  left
  rw [n3,gD h hb hq (hr _ b0 b1).2]
  exact oX h b0 b1
theorem Iw {j k:Nat} (hj:j<k) (hk:k<(aM g bs).n.toNat):I2 g p bs (aD q j) (aD q k):=by
 have hl:=aI (iu h hb hq)
 have:=List.pairwise_iff_getElem.1 hq.sort j k (by omega) (by omega) hj
 rw [aD,aD,List.getD_eq_getElem?_getD,List.getD_eq_getElem?_getD,List.getElem?_eq_getElem (by omega),List.getElem?_eq_getElem (by omega)]
 exact this
theorem nV {u:Int} (h0:0≤u) (h1:u<(aM g bs).n) {k:Nat} (hk:k<(aM g bs).n.toNat) (hR:I2 g p bs u (aD q k)):u∈q.ord.take k:=by
 obtain ⟨j,hj,rfl⟩:=fh (iu h hb hq) h0 h1
 refine uT (Decidable.byContradiction fun hn=> ?_) (by rw [aI (iu h hb hq)];exact hj)
 by_cases e:j=k
 ·subst e
  unfold I2 at hR;omega
 ·have h8:=Iw h hb hq (j:=k) (k:=j) (by omega) hj
  unfold I2 at hR h8
  rcases hR with h9|⟨h9,Oh⟩
  ·rcases h8 with Nf|⟨Nf,_⟩
   ·omega
   ·rw [Nf] at h9;omega
  ·rw [h9] at h8;omega
theorem uW {u v:Int} (h0:0≤u) (h1:u<(aM g bs).n) {k:Nat} (hk:k≤(aM g bs).n.toNat) (hv:v∈q.ord.take k) (hR:I2 g p bs u v):u∈q.ord.take k:=by
 obtain ⟨j,j1,j2,rfl⟩:=jE hv
 obtain ⟨i,i1,i2,i3⟩:=jE (nV h hb hq h0 h1 (k:=j) (by omega) hR)
 rw [← i3]
 exact uT (by omega) i2
theorem zW:(q.ord.filter fun u=>decide (u<g.n))=p.ord:=by
 have hn:=aH (ai h.1)
 have hN:=EP h hb hq
 have bS:=bN h.2.1
 have hl:=aI h.2.1
 refine Co (R:=fun u v=>p.ord.idxOf u<p.ord.idxOf v) ?_ (fun a b h1 h2=>by omega) ?_ ?_
 ·refine (List.perm_ext_iff_of_nodup ((bN (iu h hb hq)).filter _) bS).2 fun u=> ?_
  rw [List.mem_filter,hq.perm.mem_iff,h.2.1.2.1.mem_iff,cC,cC,decide_eq_true_eq]
  have e:(g.n+(bs.length:Int)).toNat=g.n.toNat+bs.length:=hN
  omega
 ·refine (hq.sort.filter _).imp_of_mem fun {u v} hu hv hR=> ?_
  have hu:=of_decide_eq_true (List.mem_filter.1 hu).2
  have hv:=of_decide_eq_true (List.mem_filter.1 hv).2
  rw [gD h hb hq hu,gD h hb hq hv] at hR
  omega
 ·rw [List.pairwise_iff_getElem]
  intro i j hi hj hij
  have a1:=dK bS hi
  have a2:=dK bS hj
  rw [List.getD_eq_getElem?_getD,List.getElem?_eq_getElem hi,Option.getD_some] at a1
  rw [List.getD_eq_getElem?_getD,List.getElem?_eq_getElem hj,Option.getD_some] at a2
  omega
theorem qz (k:Nat):((q.ord.take k).filter fun u=>decide (u<g.n))=p.ord.take (fk g q k):=by
 have hpre:((q.ord.take k).filter fun u=>decide (u<g.n))<+:(q.ord.filter fun u=>decide (u<g.n)):=(List.take_prefix k q.ord).filter _
 rw [zW h hb hq] at hpre
 exact List.prefix_iff_eq_take.1 hpre
theorem iQ {u:Int} (hu:u<g.n) (k:Nat):u∈q.ord.take k↔u∈p.ord.take (fk g q k):=by
 rw [← qz h hb hq k,List.mem_filter]
 simp [hu]
theorem Bb (k:Nat):fk g q k≤g.n.toNat:=by
 have h1:((q.ord.take k).filter fun u=>decide (u<g.n)).length=(p.ord.take (fk g q k)).length:=by rw [qz h hb hq k]
 have h2:fk g q k=((q.ord.take k).filter fun u=>decide (u<g.n)).length:=rfl
 have hl:=aI h.2.1
 rw [List.length_take] at h1
 omega
theorem tq {k:Nat} (hk:k<(aM g bs).n.toNat) (hx:g.n≤aD q k):fk g q (k+1)=fk g q k:=by
 unfold fk
 rw [fP (iu h hb hq) hk,List.filter_append]
 simp [show ¬aD q k<g.n by omega]
theorem k5 {k:Nat} (hk:k<(aM g bs).n.toNat) (hx:aD q k<g.n):fk g q (k+1)=fk g q k+1∧fk g q k<g.n.toNat∧aD p (fk g q k)=aD q k:=by
 have e1:fk g q (k+1)=fk g q k+1:=by
  unfold fk
  rw [fP (iu h hb hq) hk,List.filter_append]
  simp [hx]
 have hc:=Bb h hb hq (k+1)
 refine ⟨e1,by omega, ?_⟩
 have e2:=qz h hb hq (k+1)
 rw [fP (iu h hb hq) hk,List.filter_append,qz h hb hq k,e1,fP h.2.1 (by omega)] at e2
 have:=List.append_cancel_left e2
 simpa [hx] using this.symm
theorem ER {k:Nat} (hk:k≤(aM g bs).n.toNat) {e:Int} (he:jD (aM g bs) q k e):jD g p (fk g q k) (zV g bs e):=by
 have hm:=ai h.1
 have hn:=aH hm
 have tr:=fun (i:Int) (a:0≤i) (b:i<g.es.length)=>show 0≤dM g i∧dM g i<g.n from aZ hm (i:=i.toNat) (by omega)
 have hr:=fun (i:Int) (a:0≤i) (b:i<g.es.length)=>show 0≤dA g i∧dA g i<g.n from bn hm (i:=i.toNat) (by omega)
 have hGn:(aM g bs).n=g.n+bs.length:=rfl
 have lP:=he.low
 have tY:=he.top
 rcases cz h hb hq he.e0 he.e1 with ⟨h3,h4⟩|⟨j,h3,h6,h7,h4,h5⟩
 ·obtain ⟨r1,r2⟩:=cD (g:=g) (bs:=bs) he.e0 h3
  rw [h4]
  rw [r1] at lP
  rw [r2] at tY
  refine ⟨he.e0,h3,(iQ h hb hq (tr e he.e0 h3).2 k).1 lP,fun hc=> ?_⟩
  have hin:=(iQ h hb hq (hr e he.e0 h3).2 k).2 hc
  by_cases pU:e∈bs
  ·rw [if_pos pU] at tY
   obtain ⟨n1,n2,n3,_⟩:=cR hb pU
   refine tY (uW h hb hq (by omega) (by omega) hk hin (.inl ?_))
   rw [n3,gD h hb hq (hr e he.e0 h3).2]
   exact oX h he.e0 h3
  ·rw [if_neg pU] at tY
   exact tY hin
 ·rw [h7]
  obtain ⟨b0,b1⟩:=hb.pV _ h4
  obtain ⟨n1,n2,n3,_⟩:=cR hb h4
  have wN:=(gB (g:=g) h3).2
  rw [← h6] at wN
  rw [wN] at tY
  rw [h5] at lP
  have Gp:=tr _ b0 b1
  refine ⟨b0,b1,(iQ h hb hq Gp.2 k).1 (uW h hb hq Gp.1 (by have:=Gp.2;omega) hk lP (.inr ⟨?_, ?_⟩)),fun hc=>tY ((iQ h hb hq (hr _ b0 b1).2 k).2 hc)⟩
  ·rw [n3];exact gD h hb hq Gp.2
  ·have:=Gp.2;omega
theorem dH {k:Nat} (hk:k<(aM g bs).n.toNat) (hx:aD q k<g.n) {e:Int} (he:jD (aM g bs) q k e):dA g (zV g bs e)=aD q k↔dA (aM g bs) e=aD q k:=by
 have hm:=ai h.1
 have hn:=aH hm
 have hr:=fun (i:Int) (a:0≤i) (b:i<g.es.length)=>show 0≤dA g i∧dA g i<g.n from bn hm (i:=i.toNat) (by omega)
 have hGn:(aM g bs).n=g.n+bs.length:=rfl
 rcases cz h hb hq he.e0 he.e1 with ⟨h3,h4⟩|⟨j,h3,h6,h7,h4,h5⟩
 ·obtain ⟨r1,r2⟩:=cD (g:=g) (bs:=bs) he.e0 h3
  rw [h4,r2]
  by_cases pU:e∈bs
  ·rw [if_pos pU]
   obtain ⟨n1,n2,n3,_⟩:=cR hb pU
   constructor
   ·intro e2
    have tY:=he.top
    rw [r2,if_pos pU] at tY
    refine absurd (nV h hb hq (by omega) (by omega) hk (.inl ?_)) tY
    rw [n3,gD h hb hq hx, ← e2]
    exact oX h he.e0 h3
   ·intro e2;omega
  ·rw [if_neg pU]
 ·have wN:=(gB (g:=g) h3).2
  rw [← h6] at wN
  rw [h7,wN]
theorem ES:EM (aM g bs) q fun k a b=>(tj g p (fk g q k)).idxOf (zV g bs a)<(tj g p (fk g q k)).idxOf (zV g bs b):=by
 have hm:=ai h.1
 have hn:=aH hm
 have hGn:(aM g bs).n=g.n+bs.length:=rfl
 have p9:=iu h hb hq
 have mem:=fun (k:Nat) (hk:k≤(aM g bs).n.toNat) (e:Int) (he:jD (aM g bs) q k e)=>yC h (Bb h hb hq k) _ (ER h hb hq hk he)
 have only:=fun (k:Nat) (hk:k<(aM g bs).n.toNat) (hx:g.n≤aD q k) (e:Int) (he:jD (aM g bs) q k e) (hd:dA (aM g bs) e=aD q k)=>show e∈bs∧uV g bs e=aD q k∧zV g bs e=e by
  rcases cz h hb hq he.e0 he.e1 with ⟨h3,h4⟩|⟨j,h3,h6,h7,h4,h5⟩
  ·have r2:=(cD (g:=g) (bs:=bs) he.e0 h3).2
   rw [hd] at r2
   by_cases pU:e∈bs
   ·rw [if_pos pU] at r2
    exact ⟨pU,r2.symm,h4⟩
   ·rw [if_neg pU] at r2
    have h8:dA g e<g.n:=(bn hm (i:=e.toNat) (by have:=he.e0;omega)).2
    omega
  ·have wN:=(gB (g:=g) h3).2
   rw [← h6,hd] at wN
   obtain ⟨b0,b1⟩:=hb.pV _ h4
   have h8:dA g (bs.getD j 0)<g.n:=(bn hm (i:=(bs.getD j 0).toNat) (by omega)).2
   omega
 have same:=fun (k:Nat) (hk:k<(aM g bs).n.toNat) (hx:g.n≤aD q k) (e e':Int) (he:jD (aM g bs) q k e) (he':jD (aM g bs) q k e') (hd:dA (aM g bs) e=aD q k) (hd':dA (aM g bs) e'=aD q k)=>show e=e' by
  obtain ⟨a1,a2,_⟩:=only k hk hx e he hd
  obtain ⟨b1,b2,_⟩:=only k hk hx e' he' hd'
  have a3:=(cR hb a1).2.2.2
  have b3:=(cR hb b1).2.2.2
  rw [a2] at a3
  rw [b2] at b3
  rw [← a3,b3]
 have Iy:=fun (k:Nat) (hk:k<(aM g bs).n.toNat) (hx:aD q k<g.n)=>show bY q (aD q k)=bY p (aD q k) from hq.G8 _ (by have:=(bq p9 hk).1;omega)
 have LF:=fun (v e:Int) (h0:0≤v) (h1:v<g.n) (he:e∈bY p v)=>show zV g bs e=e by
  have:=(bu.1 ((bH h.2.1 h0 h1).mem_iff.1 he)).1.2
  exact if_pos this
 have iE:=fun (k:Nat) (hk:k<(aM g bs).n.toNat) (hx:g.n≤aD q k) (c:Int) (hc:c∈bY q (aD q k))=>show zV g bs c=bs.getD (aD q k - g.n).toNat 0 by
  obtain ⟨x0,x1⟩:=bq p9 hk
  have hj:(aD q k - g.n).toNat<bs.length:=by omega
  have:=hq.EO _ hj
  have e:bY q (aD q k)= [((g.es.length+(aD q k - g.n).toNat:Nat):Int)]:=by
   rw [← this];unfold bY;congr 1;omega
  rw [e,List.mem_singleton] at hc
  subst hc
  unfold zV
  rw [if_neg (by omega)]
  congr 1;omega
 refine ⟨fun e e0 e1 k hk ek=> ?_,fun k hk a b c ha hb' hc ea ec r1 r2=> ?_,fun k hk a b ha hb' na nb r=> ?_,fun k hk a b c ha hb' na eb hc r=> ?_,fun k hk a b c ha hb' na eb hc r=> ?_,fun k hk=> ?_⟩
 ·have tR:=G9 h hb hq e0 e1
  rw [← ek] at tR
  have uN:0≤dM (aM g bs) e∧dM (aM g bs) e<(aM g bs).n:=by
   rcases cz h hb hq e0 e1 with ⟨h3,h4⟩|⟨j,h3,h6,h7,h4,h5⟩
   ·rw [(cD (g:=g) (bs:=bs) e0 h3).1]
    have h8:0≤dM g e∧dM g e<g.n:=aZ hm (i:=e.toNat) (by omega)
    omega
   ·obtain ⟨n1,n2,_⟩:=cR hb h4
    omega
  exact nV h hb hq uN.1 uN.2 hk tR
 ·by_cases hx:aD q k<g.n
  ·obtain ⟨c1,c2,c3⟩:=k5 h hb hq hk hx
   obtain ⟨A,X,C,e1,hA,hX,hC,_⟩:=gS h c2
   have bS:=iP h (c:=fk g q k) (by omega)
   have ma:=mem k (by omega) a ha
   have mb:=mem k (by omega) b hb'
   have mc:=mem k (by omega) c hc
   have da:=(dH h hb hq hk hx ha).2 ea
   have dc:=(dH h hb hq hk hx hc).2 ec
   refine (dH h hb hq hk hx hb').1 ?_
   rw [c3] at hA hX hC
   rw [e1] at ma mb mc r1 r2 bS
   have Ni:zV g bs a∈X:=by
    rcases List.mem_append.1 ma with h1|h1
    ·rcases List.mem_append.1 h1 with h1|h1
     ·exact absurd da (hA _ h1)
     ·exact h1
    ·exact absurd da (hC _ h1)
   have AL:zV g bs c∈X:=by
    rcases List.mem_append.1 mc with h1|h1
    ·rcases List.mem_append.1 h1 with h1|h1
     ·exact absurd dc (hA _ h1)
     ·exact h1
    ·exact absurd dc (hC _ h1)
   rw [List.append_assoc] at r1 r2 mb bS
   have QM:(X++C).Nodup:=(List.nodup_append.1 bS).2.1
   obtain ⟨i1,_⟩:=gC (A:=A) (B:=X++C) bS (List.mem_append_left C Ni)
   obtain ⟨i2,_⟩:=gC (A:=A) (B:=X++C) bS (List.mem_append_left C AL)
   obtain ⟨i3,i4⟩:=pZ (A:=X) (B:=C) AL
   rcases List.mem_append.1 mb with h1|h1
   ·obtain ⟨i5,i6⟩:=pZ (A:=A) (B:=X++C) h1
    omega
   ·rcases List.mem_append.1 h1 with h2|h2
    ·exact hX _ h2
    ·obtain ⟨i5,_⟩:=gC (A:=A) (B:=X++C) bS h1
     obtain ⟨i7,_⟩:=gC (A:=X) (B:=C) QM h2
     omega
  ·have:=same k hk (by omega) a c ha hc ea ec
   subst this
   omega
 ·by_cases hx:aD q k<g.n
  ·obtain ⟨c1,c2,c3⟩:=k5 h hb hq hk hx
   obtain ⟨A,X,C,e1,hA,hX,hC,e2⟩:=gS h c2
   have bS:=iP h (c:=fk g q k) (by omega)
   have eR:=iP h (c:=fk g q k+1) (by omega)
   have ma:=mem k (by omega) a ha
   have mb:=mem k (by omega) b hb'
   have da:=fun e=>na ((dH h hb hq hk hx ha).1 e)
   have db:=fun e=>nb ((dH h hb hq hk hx hb').1 e)
   rw [c1,e2]
   rw [c3] at hA hX hC
   rw [e2] at eR
   rw [e1] at ma mb r bS
   rw [List.append_assoc] at r ma mb bS eR ⊢
   have LG:(X++C).Nodup:=(List.nodup_append.1 bS).2.1
   have I3:=(List.nodup_append.1 eR).2.1
   have sp:∀u,u∈A++(X++C)→dA g u≠aD q k→u∈A∨u∈C:=fun u hu hne=>by
    rcases List.mem_append.1 hu with h1|h1
    ·exact .inl h1
    ·rcases List.mem_append.1 h1 with h2|h2
     ·exact absurd (hX _ h2) hne
     ·exact .inr h2
   rcases sp _ ma da with h1|h1<;>rcases sp _ mb db with h2|h2
   ·rw [(pZ h1).1,(pZ h2).1] at r ⊢
    exact r
   ·have i1:=pZ (B:=bY p (aD p (fk g q k))++C) h1
    have i2:=gC eR (List.mem_append_right _ h2)
    omega
   ·have i1:=pZ (B:=X++C) h2
    have i2:=gC bS (List.mem_append_right X h1)
    omega
   ·have i1:=gC bS (List.mem_append_right X h1)
    have i2:=gC bS (List.mem_append_right X h2)
    have i3:=gC LG h1
    have i4:=gC LG h2
    have j1:=gC eR (List.mem_append_right (bY p (aD p (fk g q k))) h1)
    have j2:=gC eR (List.mem_append_right (bY p (aD p (fk g q k))) h2)
    have j3:=gC I3 h1
    have j4:=gC I3 h2
    omega
  ·rw [tq h hb hq hk (by omega)];exact r
 ·by_cases hx:aD q k<g.n
  ·obtain ⟨c1,c2,c3⟩:=k5 h hb hq hk hx
   obtain ⟨A,X,C,e1,hA,hX,hC,e2⟩:=gS h c2
   have bS:=iP h (c:=fk g q k) (by omega)
   have eR:=iP h (c:=fk g q k+1) (by omega)
   have ma:=mem k (by omega) a ha
   have mb:=mem k (by omega) b hb'
   have da:=fun e=>na ((dH h hb hq hk hx ha).1 e)
   have db:=(dH h hb hq hk hx hb').2 eb
   rw [Iy k hk hx] at hc
   rw [LF _ c (bq p9 hk).1 hx hc]
   rw [c1,e2]
   rw [c3] at hA hX hC ⊢
   rw [e2] at eR
   rw [e1] at ma mb r bS
   rw [List.append_assoc] at r ma mb bS eR ⊢
   rw [c3] at eR
   have LG:(X++C).Nodup:=(List.nodup_append.1 bS).2.1
   have hb2:zV g bs b∈X:=by
    rcases List.mem_append.1 mb with h1|h1
    ·exact absurd db (hA _ h1)
    ·rcases List.mem_append.1 h1 with h1|h1
     ·exact h1
     ·exact absurd db (hC _ h1)
   have i2:=gC bS (List.mem_append_left C hb2)
   have i3:=pZ (B:=C) hb2
   have j2:=gC eR (List.mem_append_left C hc)
   rcases List.mem_append.1 ma with h1|h1
   ·have j1:=pZ (B:=bY p (aD q k)++C) h1
    omega
   ·rcases List.mem_append.1 h1 with h2|h2
    ·exact absurd (hX _ h2) da
    ·have i1:=gC bS h1
     have i4:=gC LG h2
     omega
  ·have hx:g.n≤aD q k:=by omega
   obtain ⟨a1,a2,a3⟩:=only k hk hx b hb' eb
   have a4:=(cR hb a1).2.2.2
   rw [a2] at a4
   rw [tq h hb hq hk hx,iE k hk hx c hc,a4, ← a3]
   exact r
 ·by_cases hx:aD q k<g.n
  ·obtain ⟨c1,c2,c3⟩:=k5 h hb hq hk hx
   obtain ⟨A,X,C,e1,hA,hX,hC,e2⟩:=gS h c2
   have bS:=iP h (c:=fk g q k) (by omega)
   have eR:=iP h (c:=fk g q k+1) (by omega)
   have ma:=mem k (by omega) a ha
   have mb:=mem k (by omega) b hb'
   have da:=fun e=>na ((dH h hb hq hk hx ha).1 e)
   have db:=(dH h hb hq hk hx hb').2 eb
   rw [Iy k hk hx] at hc
   rw [LF _ c (bq p9 hk).1 hx hc]
   rw [c1,e2]
   rw [c3] at hA hX hC ⊢
   rw [e2] at eR
   rw [e1] at ma mb r bS
   rw [List.append_assoc] at r ma mb bS eR ⊢
   rw [c3] at eR
   have I3:=(List.nodup_append.1 eR).2.1
   have hb2:zV g bs b∈X:=by
    rcases List.mem_append.1 mb with h1|h1
    ·exact absurd db (hA _ h1)
    ·rcases List.mem_append.1 h1 with h1|h1
     ·exact h1
     ·exact absurd db (hC _ h1)
   have i2:=gC bS (List.mem_append_left C hb2)
   have j2:=gC eR (List.mem_append_left C hc)
   have j3:=pZ (B:=C) hc
   rcases List.mem_append.1 ma with h1|h1
   ·have i1:=pZ (B:=X++C) h1
    omega
   ·rcases List.mem_append.1 h1 with h2|h2
    ·exact absurd (hX _ h2) da
    ·have j1:=gC eR (List.mem_append_right (bY p (aD q k)) h2)
     have j4:=gC I3 h2
     omega
  ·have hx:g.n≤aD q k:=by omega
   obtain ⟨a1,a2,a3⟩:=only k hk hx b hb' eb
   have a4:=(cR hb a1).2.2.2
   rw [a2] at a4
   rw [tq h hb hq hk hx,iE k hk hx c hc,a4, ← a3]
   exact r
 ·by_cases hx:aD q k<g.n
  ·obtain ⟨c1,c2,c3⟩:=k5 h hb hq hk hx
   obtain ⟨A,X,C,_,_,_,_,e2⟩:=gS h c2
   have eR:=iP h (c:=fk g q k+1) (by omega)
   rw [Iy k hk hx,c1,e2]
   rw [e2,List.append_assoc] at eR
   rw [List.append_assoc]
   rw [c3] at eR ⊢
   have I3:=(List.nodup_append.1 eR).2.1
   have OB:=(List.nodup_append.1 I3).1
   rw [List.pairwise_iff_getElem]
   intro i j hi hj hij
   have m1:(bY p (aD q k))[i]∈bY p (aD q k):=List.getElem_mem hi
   have m2:(bY p (aD q k))[j]∈bY p (aD q k):=List.getElem_mem hj
   rw [LF _ _ (bq p9 hk).1 hx m1,LF _ _ (bq p9 hk).1 hx m2]
   have j1:=gC eR (List.mem_append_left C m1)
   have j2:=gC eR (List.mem_append_left C m2)
   have j3:=pZ (B:=C) m1
   have j4:=pZ (B:=C) m2
   have a1:=dK OB hi
   have a2:=dK OB hj
   rw [List.getD_eq_getElem?_getD,List.getElem?_eq_getElem hi,Option.getD_some] at a1
   rw [List.getD_eq_getElem?_getD,List.getElem?_eq_getElem hj,Option.getD_some] at a2
   omega
  ·have hx:g.n≤aD q k:=by omega
   obtain ⟨x0,x1⟩:=bq p9 hk
   have hj:(aD q k - g.n).toNat<bs.length:=by omega
   have:=hq.EO _ hj
   have e:bY q (aD q k)= [((g.es.length+(aD q k - g.n).toNat:Nat):Int)]:=by
    rw [← this];unfold bY;congr 1;omega
   rw [e]
   exact List.pairwise_singleton ..
theorem ET (hG:(bX (aM g bs)).1=0):aU (aM g bs) q:=Cn hG (iu h hb hq) (ES h hb hq)
end
end Go.Ab
end
section
namespace Go.Ab
open Go.Proofs
set_option maxRecDepth 10000
set_option linter.unusedSectionVars false
theorem Gq {G:Gr} (hm:aK G=true) (φ:Int→Nat) (up:∀i,i<G.es.length→φ (tl G i)<φ (hd G i)) (tw:∀i k,i<G.es.length→k<G.es.length→i≠k→G.es.getD i (0,0)≠G.es.getD k (0,0)) (s:Int)
 (src:∀y,0≤y→y<G.n→(∀i,i<G.es.length→hd G i≠y)→y=s):(bX G).1=0:=by
 have EI:AO G=true:=(qw hm).2 ⟨φ,up⟩
 have EJ:¬0≤kX G:=fun hl=>by
  have h1:=ew (fun e:Edge=>decide (e.1=e.2)) G.es
  have h0:decide (0≤bL (fun e:Edge=>decide (e.1=e.2)) G.es)=true:=decide_eq_true hl
  rw [h0] at h1
  obtain ⟨e,he,h2⟩:=List.any_eq_true.1 h1.symm
  obtain ⟨i,hi,rfl⟩:=List.mem_iff_getElem.1 he
  have h3:tl G i=hd G i:=by simpa [tl,hd,List.getD_eq_getElem?_getD,List.getElem?_eq_getElem hi] using h2
  have:=up i hi
  rw [h3] at this
  omega
 have Ib:¬0≤dZ G:=fun ht=>by
  obtain ⟨i,k,hi,hk,hik,e⟩:=(gQ _).1 ht
  exact tw i k hi hk hik e
 have EK:¬1<(bM (·.2) G).length:=fun hb=>by
  have hs:∀y∈bM (·.2) G,y=s:=fun y hy=>by
   obtain ⟨⟨y0,y1⟩,y2⟩:=lH.1 hy
   refine src y y0 y1 fun i hi e=> ?_
   have:=lG (g:=G) (e:=(i:Int)) (by omega) (by omega)
   rw [Int.toNat_natCast,show (G.es.getD i (0,0)).2=y from e] at this
   omega
  have:=wo dy hs
  omega
 unfold bX jm
 rw [if_neg (by simp [hm]),if_neg EJ,if_neg Ib,if_neg (by rw [wk hm EI];simp),if_neg EK]
theorem tu {g:Gr} (h:(bX g).1=0) {i k:Nat} (hi:i<g.es.length) (hk:k<g.es.length) (e:g.es.getD i (0,0)=g.es.getD k (0,0)):i=k:=by
 refine Decidable.byContradiction fun hik=> ?_
 have hgt:¬0≤dZ g:=by
  unfold bX jm at h
  intro h2
  split at h
  ·cases h
  split at h
  ·cases h
  cases h
 exact hgt ((gQ g).2 ⟨i,k,hi,hk,hik,e⟩)
section
variable {g:Gr} {p:Pl} {bs:List Int} {q:Pl} (h:aU g p) (hb:wz g bs) (hq:EN g p bs q) (hs1:g.n+bs.length≤64) (CP:g.es.length+bs.length≤128)
include h hb hq hs1 CP
theorem Gs:aK (aM g bs)=true:=by
 have hm:=ai h.1
 have hn:=aH hm
 have hGn:(aM g bs).n=g.n+bs.length:=rfl
 simp only [aK,Bool.and_eq_true,decide_eq_true_eq,Bool.not_eq_true',List.any_eq_false]
 refine ⟨⟨⟨by omega,by omega⟩,by rw [fQ];omega⟩,fun e he=> ?_⟩
 simp only [mo,rN,Bool.or_eq_true,decide_eq_true_eq,not_or]
 obtain ⟨i,hi,rfl⟩:=List.mem_iff_getElem.1 he
 have e0:(aM g bs).es.getD i (0,0)=(aM g bs).es[i]:=by rw [List.getD_eq_getElem?_getD,List.getElem?_eq_getElem hi];rfl
 have et:((aM g bs).es[i]).1=dM (aM g bs) (i:Int):=by unfold dM;rw [Int.toNat_natCast,e0]
 have eh:((aM g bs).es[i]).2=dA (aM g bs) (i:Int):=by unfold dA;rw [Int.toNat_natCast,e0]
 rw [et,eh]
 rcases cz h hb hq (e:=(i:Int)) (by omega) (by omega) with ⟨h3,h4⟩|⟨j,h3,h6,h7,h4,h5⟩
 ·obtain ⟨r1,r2⟩:=cD (g:=g) (bs:=bs) (e:=(i:Int)) (by omega) h3
  have t0:0≤dM g i∧dM g i<g.n:=aZ hm (i:=i) (by omega)
  have d0:0≤dA g i∧dA g i<g.n:=bn hm (i:=i) (by omega)
  rw [r1,r2]
  by_cases pU:(i:Int)∈bs
  ·rw [if_pos pU]
   obtain ⟨n1,n2,_⟩:=cR hb pU
   omega
  ·rw [if_neg pU];omega
 ·obtain ⟨b0,b1⟩:=hb.pV _ h4
  obtain ⟨n1,n2,_⟩:=cR hb h4
  have d0:0≤dA g (bs.getD j 0)∧dA g (bs.getD j 0)<g.n:=bn hm (i:=(bs.getD j 0).toNat) (by omega)
  have wN:=(gB (g:=g) h3).2
  rw [← h6] at wN
  rw [h5,wN]
  omega
theorem Iz {i k:Int} (IU:0≤i) (hi1:i<(aM g bs).es.length) (yX:0≤k) (Ai:k<(aM g bs).es.length) (e1:dM (aM g bs) i=dM (aM g bs) k) (e2:dA (aM g bs) i=dA (aM g bs) k):i=k:=by
 have hm:=ai h.1
 have tr:=fun (i:Int) (a:0≤i) (b:i<g.es.length)=>show 0≤dM g i∧dM g i<g.n from aZ hm (i:=i.toNat) (by omega)
 have hr:=fun (i:Int) (a:0≤i) (b:i<g.es.length)=>show 0≤dA g i∧dA g i<g.n from bn hm (i:=i.toNat) (by omega)
 rcases cz h hb hq IU hi1 with ⟨h3,h4⟩|⟨j,h3,h6,h7,h4,h5⟩
 ·obtain ⟨r1,r2⟩:=cD (g:=g) (bs:=bs) IU h3
  have t0:=tr i IU h3
  rcases cz h hb hq yX Ai with ⟨g3,g4⟩|⟨j',g3,g6,g7,g4,g5⟩
  ·obtain ⟨s1,s2⟩:=cD (g:=g) (bs:=bs) yX g3
   rw [r1,s1] at e1
   rw [r2,s2] at e2
   by_cases I4:i∈bs
   ·by_cases zG:k∈bs
    ·rw [if_pos I4,if_pos zG] at e2
     have a1:=(cR hb I4).2.2.2
     have a2:=(cR hb zG).2.2.2
     rw [e2] at a1
     rw [← a1,a2]
    ·rw [if_pos I4,if_neg zG] at e2
     have:=(cR hb I4).1
     have:=hr k yX g3
     omega
   ·by_cases zG:k∈bs
    ·rw [if_neg I4,if_pos zG] at e2
     have:=(cR hb zG).1
     have:=hr i IU h3
     omega
    ·rw [if_neg I4,if_neg zG] at e2
     have:=tu h.1 (i:=i.toNat) (k:=k.toNat) (by omega) (by omega) (Prod.ext e1 e2)
     omega
  ·have:=(cR hb g4).1
   omega
 ·rcases cz h hb hq yX Ai with ⟨g3,g4⟩|⟨j',g3,g6,g7,g4,g5⟩
  ·have:=(cR hb h4).1
   have:=(cD (g:=g) (bs:=bs) yX g3).1
   have:=tr k yX g3
   omega
  ·rw [h5,g5] at e1
   have a1:=dK hb.nd h3
   have a2:=dK hb.nd g3
   unfold uV at e1
   have:j=j':=by omega
   rw [h6,g6,this]
theorem yD:(bX (aM g bs)).1=0:=by
 have hm:=ai h.1
 have hn:=aH hm
 have uN:=Gs h hb hq hs1 CP
 have hGn:(aM g bs).n=g.n+bs.length:=rfl
 have p9:=iu h hb hq
 have KO:=bN p9
 have Br:=aI p9
 refine Gq uN (fun v=>q.ord.idxOf v) (fun i hi=> ?_) (fun i k hi hk hik e=>hik ?_) (aD p 0) (fun y y0 y1 hy=> ?_)
 ·have hR:=G9 h hb hq (e:=(i:Int)) (by omega) (by omega)
  have e1:dM (aM g bs) (i:Int)=tl (aM g bs) i:=rfl
  have e2:dA (aM g bs) (i:Int)=hd (aM g bs) i:=rfl
  rw [e1,e2] at hR
  obtain ⟨t0,t1⟩:=aZ uN hi
  obtain ⟨d0,d1⟩:=bn uN hi
  obtain ⟨k,hk,ek⟩:=fh p9 d0 d1
  rw [← ek] at hR
  obtain ⟨j,j1,j2,j3⟩:=jE (nV h hb hq t0 t1 hk hR)
  have a1:q.ord.idxOf (tl (aM g bs) i)=j:=by rw [← j3];exact dK KO j2
  have a2:q.ord.idxOf (hd (aM g bs) i)=k:=by rw [← ek];exact dK KO (by omega)
  omega
 ·have e1:dM (aM g bs) (i:Int)=dM (aM g bs) (k:Int):=by unfold dM;simp only [Int.toNat_natCast];rw [e]
  have e2:dA (aM g bs) (i:Int)=dA (aM g bs) (k:Int):=by unfold dA;simp only [Int.toNat_natCast];rw [e]
  have:=Iz h hb hq hs1 CP (i:=(i:Int)) (k:=(k:Int)) (by omega) (by omega) (by omega) (by omega) e1 e2
  omega
 ·have Ie:y<g.n:=by
   refine Decidable.byContradiction fun Ie=> ?_
   have hj:(y - g.n).toNat<bs.length:=by omega
   have hin:bs.getD (y - g.n).toNat 0∈bs:=aS hj
   obtain ⟨b0,b1⟩:=hb.pV _ hin
   have r2:=(cD (g:=g) (bs:=bs) b0 b1).2
   rw [if_pos hin] at r2
   unfold uV at r2
   rw [dK hb.nd hj] at r2
   refine hy (bs.getD (y - g.n).toNat 0).toNat (by rw [fQ];omega) ?_
   have:hd (aM g bs) (bs.getD (y - g.n).toNat 0).toNat=dA (aM g bs) (bs.getD (y - g.n).toNat 0):=rfl
   rw [this,r2];omega
  have h0:=bq h.2.1 (k:=0) (by omega)
  have hz:aY g y=0:=by
   refine Decidable.byContradiction fun hnz=> ?_
   obtain ⟨e,he⟩:∃e,e∈aL (·.2) g.es g.es.length y:=by
    cases hc:aL (·.2) g.es g.es.length y with
    |nil=>exact absurd (by unfold aY;rw [hc];rfl) hnz
    |cons e l=>exact ⟨e,by simp⟩
   obtain ⟨⟨e0,e1⟩,e2⟩:=bu.1 he
   have e2:dA g e=y:=e2
   have r2:=(cD (g:=g) (bs:=bs) e0 e1).2
   by_cases pU:e∈bs
   ·obtain ⟨i1,i2⟩:=th pU
    have wN:=(gB (g:=g) i1).2
    rw [i2,e2] at wN
    exact hy (g.es.length+bs.idxOf e) (by rw [fQ];omega) wN
   ·rw [if_neg pU,e2] at r2
    exact hy e.toNat (by rw [fQ];omega) r2
  refine iK h.1 ⟨y0,Ie⟩ h0 hz ?_
  refine Decidable.byContradiction fun hnz=> ?_
  obtain ⟨A,X,C,hrw,_,_,hX,_⟩:=bG hm (nI g).tofe (h.2.2 0 (by omega)) hnz
  obtain ⟨q,X0,e1,_⟩:=hX.fst
  rw [e1] at hrw
  simp at hrw
theorem Gt:aU (aM g bs) q:=ET h hb hq (yD h hb hq hs1 CP)
theorem IA (hI:uM g=true):uM (aM g bs)=true:=by
 have hm:=ai h.1
 have hn:=aH hm
 have hGn:(aM g bs).n=g.n+bs.length:=rfl
 have hN:=EP h hb hq
 have p9:=iu h hb hq
 unfold uM at hI ⊢
 rw [Bool.and_eq_true,decide_eq_true_eq,decide_eq_true_eq] at hI
 rw [decide_eq_true (yD h hb hq hs1 CP),Bool.true_and,decide_eq_true_eq]
 have key:∀y,y∈bM (·.1) (aM g bs)↔y∈bM (·.1) g:=fun y=>by
  rw [gR,gR]
  constructor
  ·rintro ⟨⟨y0,y1⟩,y2⟩
   by_cases Ie:y<g.n
   ·refine ⟨⟨y0,Ie⟩,List.eq_nil_iff_forall_not_mem.2 fun e he=> ?_⟩
    obtain ⟨⟨e0,e1⟩,e2⟩:=bu.1 he
    have:e∈aL (·.1) (aM g bs).es (aM g bs).es.length y:=bu.2 ⟨⟨e0,by rw [fQ];omega⟩,((cD (g:=g) (bs:=bs) e0 e1).1.trans e2)⟩
    rw [y2] at this;cases this
   ·exfalso
    have hj:(y - g.n).toNat<bs.length:=by omega
    have LC:=(gB (g:=g) hj).1
    have:((g.es.length+(y - g.n).toNat:Nat):Int)∈aL (·.1) (aM g bs).es (aM g bs).es.length y:=bu.2 ⟨⟨by omega,by rw [fQ];omega⟩,by have:dM (aM g bs) ((g.es.length+(y - g.n).toNat:Nat):Int)=y:=by {rw [LC];omega};exact this⟩
    rw [y2] at this;cases this
  ·rintro ⟨⟨y0,y1⟩,y2⟩
   refine ⟨⟨y0,by omega⟩,List.eq_nil_iff_forall_not_mem.2 fun e he=> ?_⟩
   obtain ⟨⟨e0,e1⟩,e2⟩:=bu.1 he
   have e2:dM (aM g bs) e=y:=e2
   rcases cz h hb hq e0 e1 with ⟨h3,h4⟩|⟨j,h3,h6,h7,h4,h5⟩
   ·have:e∈aL (·.1) g.es g.es.length y:=bu.2 ⟨⟨e0,h3⟩,((cD (g:=g) (bs:=bs) e0 h3).1.symm.trans e2)⟩
    rw [y2] at this;cases this
   ·have:=(cR hb h4).1
    omega
 have hp:(bM (·.1) (aM g bs)).Perm (bM (·.1) g):=(List.perm_ext_iff_of_nodup dy dy).2 key
 rw [hp.length_eq]
 exact hI.2
end
end Go.Ab
end
section
namespace Go.Ab
open Go.Proofs
set_option maxRecDepth 10000
set_option linter.unusedSectionVars false
def mJ (g:Gr) (bs:List Int) (k:Nat) (v:Int):List Int:=((List.range k).filter fun j=>dM g (bs.getD j 0)=v).map fun j:Nat=>g.n+(j:Int)
def dI (g:Gr) (bs:List Int) (k:Nat) (ord:List Int):List Int:=ord.flatMap fun v=>v::mJ g bs k v
def iE (g:Gr) (k:Nat):List (List Int):=(List.range k).map fun j:Nat=> [((g.es.length+j:Nat):Int)]
def zX (g:Gr) (p:Pl) (bs:List Int):Pl:=⟨dI g bs bs.length p.ord,p.outs++iE g bs.length⟩
theorem yE {g:Gr} {bs:List Int} {k:Nat} (v:Int):mJ g bs (k+1) v=mJ g bs k v++if dM g (bs.getD k 0)=v then [g.n+(k:Int)] else []:=by
 unfold mJ
 rw [List.range_succ,List.filter_append,List.map_append]
 congr 1
 by_cases h:dM g (bs.getD k 0)=v
 ·rw [if_pos h,List.filter_cons,if_pos (decide_eq_true h)];rfl
 ·rw [if_neg h,List.filter_cons,if_neg (by rw [decide_eq_false h];decide)];rfl
theorem fR {g:Gr} {bs:List Int} {k:Nat} {v u:Int} :u∈mJ g bs k v↔∃j:Nat,j<k∧dM g (bs.getD j 0)=v∧u=g.n+(j:Int):=by
 simp only [mJ,List.mem_map,List.mem_filter,List.mem_range,decide_eq_true_eq]
 constructor
 ·rintro ⟨j,⟨h1,h2⟩,rfl⟩;exact ⟨j,h1,h2,rfl⟩
 ·rintro ⟨j,h1,h2,rfl⟩;exact ⟨j,⟨h1,h2⟩,rfl⟩
theorem yF {g:Gr} {bs:List Int} {k:Nat} {a b:List Int} :dI g bs k (a++b)=dI g bs k a++dI g bs k b:=by simp [dI]
theorem gT {g:Gr} {bs:List Int} {k:Nat} {v:Int} {b:List Int} :dI g bs k (v::b)=v::(mJ g bs k v++dI g bs k b):=by simp [dI]
theorem uX {g:Gr} {bs:List Int} {a:List Int} :dI g bs 0 a=a:=by
 induction a with
 |nil=>rfl
 |cons v a ih=>rw [gT,ih];rfl
theorem tC {g:Gr} {bs:List Int} {k:Nat} {a:List Int} (h:dM g (bs.getD k 0)∉a):dI g bs (k+1) a=dI g bs k a:=by
 induction a with
 |nil=>rfl
 |cons v a ih=>
  rw [gT,gT,ih fun e=>h (List.mem_cons.2 (.inr e)),yE,if_neg fun e=>h (List.mem_cons.2 (.inl e)),List.append_nil]
theorem yG {g:Gr} {bs:List Int} {k:Nat} {a:List Int} {u:Int} :u∈dI g bs k a↔∃v∈a,u=v∨u∈mJ g bs k v:=by simp [dI]
theorem uY {g:Gr} {bs:List Int} {k:Nat} {ord:List Int} (bS:ord.Nodup) (hr:∀u∈ord,u<g.n) (ht:dM g (bs.getD k 0)∈ord):
 ∃A B,dI g bs k ord=A++dM g (bs.getD k 0)::(mJ g bs k (dM g (bs.getD k 0))++B)∧dI g bs (k+1) ord=A++dM g (bs.getD k 0)::(mJ g bs k (dM g (bs.getD k 0))++(g.n+(k:Int))::B)∧dM g (bs.getD k 0)∉A∧∀u r,B=u::r→u<g.n:=by
 obtain ⟨o1,o2,e⟩:=List.append_of_mem ht
 have eR:=bS
 rw [e,List.nodup_append] at eR
 obtain ⟨_,n2,n3⟩:=eR
 obtain ⟨n4,_⟩:=List.nodup_cons.1 n2
 have n5:dM g (bs.getD k 0)∉o1:=fun h=>n3 _ h _ (by simp) rfl
 refine ⟨dI g bs k o1,dI g bs k o2, ?_, ?_,fun h=> ?_,fun u r hB=> ?_⟩
 ·rw [congrArg (dI g bs k) e,yF,gT]
 ·rw [congrArg (dI g bs (k+1)) e,yF,gT,tC n5,tC n4,yE,if_pos rfl];simp
 ·obtain ⟨v,hv,h1|h1⟩:=yG.1 h
  ·exact n5 (h1 ▸ hv)
  ·obtain ⟨j,_,_,h2⟩:=fR.1 h1
   have:=hr _ ht
   omega
 ·cases o2 with
  |nil=>simp [dI] at hB
  |cons w o2=>
   rw [gT] at hB
   cases hB
   exact hr _ (by rw [e];simp)
theorem tD {bs:List Int} {k j:Nat} (h:j<k):(bs.take k).getD j 0=bs.getD j 0:=by
 rw [List.getD_eq_getElem?_getD,List.getD_eq_getElem?_getD,List.getElem?_take_of_lt h]
theorem qA {bs:List Int} {k:Nat} (h:k<bs.length):bs.take (k+1)=bs.take k++ [bs.getD k 0]:=by
 rw [List.take_add_one,List.getElem?_eq_getElem h,List.getD_eq_getElem?_getD,List.getElem?_eq_getElem h];rfl
theorem Cq {g:Gr} {bs:List Int} (hb:wz g bs) {k:Nat} (hk:k<bs.length) {i:Nat} (hi:bs.getD k 0=i):
 i<g.es.length∧(iD g (bs.take k)).getD i (0,0)=(tl g i,hd g i)∧iD g (bs.take (k+1))=(iD g (bs.take k)++ [(g.n+(k:Int),hd g i)]).set i (tl g i,g.n+(k:Int)):=by
 have hil:i<g.es.length:=by have:=hb.pV _ (aS (d:=0) hk);omega
 have hlt:(bs.take k).length=k:=by simp;omega
 have Cr:(bs.take (k+1)).length=k+1:=by simp;omega
 have hni:(i:Int)∉bs.take k:=fun hm=>by
  have bS:=hb.nd
  rw [← List.take_append_drop (k+1) bs,qA hk,hi] at bS
  have:=(List.nodup_append.1 (List.nodup_append.1 bS).1).2.2 _ hm _ (List.mem_singleton.2 rfl)
  exact this rfl
 refine ⟨hil, ?_, ?_⟩
 ·unfold iD
  rw [List.getD_eq_getElem?_getD,List.getElem?_append_left (by simpa using hil),List.getElem?_map,List.getElem?_range hil,Option.map_some,Option.getD_some,if_neg hni]
 ·unfold iD
  rw [hlt,Cr,List.append_assoc,List.set_append_left _ _ (by simpa using hil),List.range_succ (n:=k),List.map_append,List.map_cons,List.map_nil]
  have wN:dA g ((bs.take (k+1)).getD k 0)=hd g i:=by rw [tD (by omega),hi];rfl
  rw [wN]
  congr 1
  ·refine List.ext_getElem? fun j=> ?_
   rw [List.getElem?_set]
   by_cases hj:j<g.es.length
   ·rw [List.getElem?_map,List.getElem?_range hj,List.getElem?_map,List.getElem?_range hj]
    simp only [Option.map_some,List.length_map,List.length_range]
    by_cases e:i=j
    ·subst e
     have hin:(i:Int)∈bs.take (k+1):=by rw [qA hk,hi];simp
     rw [if_pos rfl,if_pos hj,if_pos hin]
     unfold uV
     rw [qA hk,hi,wu,if_neg hni,hlt]
     simp
    ·rw [if_neg e,qA hk,hi]
     by_cases hm:(j:Int)∈bs.take k
     ·rw [if_pos hm,if_pos (by simp [hm])]
      unfold uV
      rw [wu,if_pos hm]
     ·rw [if_neg hm,if_neg (by simp [hm];omega)]
   ·rw [if_neg (by omega),List.getElem?_eq_none (by simpa using hj),List.getElem?_eq_none (by simpa using hj)]
  ·congr 1
   refine List.map_congr_left fun j hj=> ?_
   rw [List.mem_range] at hj
   rw [tD hj,tD (by omega)]
theorem Cs {g:Gr} :iD g []=g.es:=by
 unfold iD
 simp only [List.length_nil,List.range_zero,List.map_nil,List.append_nil,List.not_mem_nil,if_false]
 refine List.ext_getElem? fun j=> ?_
 by_cases hj:j<g.es.length
 ·rw [List.getElem?_map,List.getElem?_range hj,Option.map_some,List.getElem?_eq_getElem hj]
  simp only [tl,hd,List.getD_eq_getElem?_getD,List.getElem?_eq_getElem hj,Option.getD_some]
 ·rw [List.getElem?_eq_none (by simpa using hj),List.getElem?_eq_none (by omega)]
section
variable {g:Gr} {p:Pl} {bs:List Int} (h:aU g p) (hb:wz g bs)
include h hb
theorem Gu:(dI g bs bs.length p.ord).Nodup∧∀u,u∈dI g bs bs.length p.ord↔0≤u∧u<g.n+bs.length:=by
 have hm:=ai h.1
 have hn:=aH hm
 have bS:=bN h.2.1
 have hr:∀u∈p.ord,0≤u∧u<g.n:=fun u hu=>by
  have:=h.2.1.2.1.mem_iff.1 hu
  simp only [cQ,List.mem_map,List.mem_range] at this
  obtain ⟨k,hk,e⟩:=this
  have e:(k:Int)=u:=e
  omega
 have hown:∀v,(mJ g bs bs.length v).Nodup:=fun v=>by
  unfold mJ
  refine List.Pairwise.map _ (fun a b hab=> ?_) ((List.nodup_range).filter _)
  intro e;apply hab;omega
 constructor
 ·unfold dI
  rw [List.Nodup,List.pairwise_flatMap]
  refine ⟨fun v hv=>List.nodup_cons.2 ⟨fun hh=> ?_,hown v⟩, ?_⟩
  ·obtain ⟨j,_,_,e⟩:=fR.1 hh
   have:=(hr v hv).2
   omega
  ·refine List.Pairwise.imp_of_mem (fun {a b} ha hb' hne=> ?_) bS
   intro u hu u' tL QN
   subst QN
   rcases List.mem_cons.1 hu with rfl|hu
   ·rcases List.mem_cons.1 tL with rfl|tL
    ·exact hne rfl
    ·obtain ⟨j,_,_,e⟩:=fR.1 tL
     have:=(hr u ha).2
     omega
   ·obtain ⟨j,_,j2,e⟩:=fR.1 hu
    rcases List.mem_cons.1 tL with rfl|tL
    ·have:=(hr u hb').2
     omega
    ·obtain ⟨l,_,l2,e'⟩:=fR.1 tL
     obtain rfl:j=l:=by omega
     exact hne (j2.symm.trans l2)
 ·intro u
  rw [yG]
  constructor
  ·rintro ⟨v,hv,rfl|hu⟩
   ·have:=hr u hv;omega
   ·obtain ⟨j,j1,_,e⟩:=fR.1 hu
    omega
  ·rintro ⟨h0,h1⟩
   by_cases hlt:u<g.n
   ·obtain ⟨l,hl,e⟩:=fh h.2.1 h0 hlt
    exact ⟨u,by rw [← e,aD,List.getD_eq_getElem?_getD,List.getElem?_eq_getElem (by rw [aI h.2.1];exact hl)];exact List.getElem_mem _, .inl rfl⟩
   ·have hk:(u - g.n).toNat<bs.length:=by omega
    have tM:=hb.pV _ (aS (d:=0) hk)
    have ht:=aZ hm (i:=(bs.getD (u - g.n).toNat 0).toNat) (by omega)
    obtain ⟨l,hl,e⟩:=fh h.2.1 ht.1 ht.2
    refine ⟨dM g (bs.getD (u - g.n).toNat 0), ?_, .inr (fR.2 ⟨(u - g.n).toNat,hk,rfl,by omega⟩)⟩
    show tl g (bs.getD (u - g.n).toNat 0).toNat∈p.ord
    rw [← e,aD,List.getD_eq_getElem?_getD,List.getElem?_eq_getElem (by rw [aI h.2.1];exact hl)];exact List.getElem_mem _
theorem Bc:EN g p bs (zX g p bs):=by
 have hm:=ai h.1
 have hn:=aH hm
 have cT:=h.2.1.1
 have bS:=bN h.2.1
 obtain ⟨n1,n2⟩:=Gu h hb
 refine ⟨?_,fun x hx=> ?_,fun k hk=> ?_, ?_, ?_⟩
 ·show (p.outs++iE g bs.length).length=_
  rw [List.length_append,cT,iE,List.length_map,List.length_range];omega
 ·show (p.outs++iE g bs.length).getD x []=_
  rw [List.getD_eq_getElem?_getD,List.getElem?_append_left (by omega), ← List.getD_eq_getElem?_getD]
 ·show (p.outs++iE g bs.length).getD (g.n.toNat+k) []=_
  rw [List.getD_eq_getElem?_getD,List.getElem?_append_right (by omega),cT,Nat.add_sub_cancel_left,iE,List.getElem?_map,List.getElem?_range hk];rfl
 ·refine (List.perm_ext_iff_of_nodup n1 ?_).2 fun u=> ?_
  ·unfold cQ
   exact List.Pairwise.map _ (fun a b hab=>by intro e;apply hab;exact Int.ofNat.inj e) List.nodup_range
  ·show u∈dI g bs bs.length p.ord↔_
   rw [n2]
   simp only [cQ,List.mem_map,List.mem_range]
   constructor
   ·rintro ⟨h0,h1⟩;exact ⟨u.toNat,by omega,by show ((u.toNat:Nat):Int)=u;omega⟩
   ·rintro ⟨k,hk,e⟩
    have e:(k:Int)=u:=e
    omega
 ·have hr:∀u∈p.ord,u<g.n:=fun u hu=>by
   have:=h.2.1.2.1.mem_iff.1 hu
   simp only [cQ,List.mem_map,List.mem_range] at this
   obtain ⟨k,hk,e⟩:=this
   have e:(k:Int)=u:=e
   omega
  have dJ:∀v∈p.ord,∀u∈v::mJ g bs bs.length v,Cp g bs u=v:=fun v hv u hu=>by
   rcases List.mem_cons.1 hu with rfl|hu
   ·exact if_pos (hr u hv)
   ·obtain ⟨j,j1,j2,rfl⟩:=fR.1 hu
    unfold Cp
    rw [if_neg (by omega),show (g.n+(j:Int) - g.n).toNat=j by omega]
    exact j2
  show (dI g bs bs.length p.ord).Pairwise _
  unfold dI
  rw [List.pairwise_flatMap]
  refine ⟨fun v hv=> ?_, ?_⟩
  ·refine List.Pairwise.imp_of_mem (R:=fun a b=>a<b) (fun {a b} ha hb' hab=> .inr ⟨(dJ v hv a ha).trans (dJ v hv b hb').symm,hab⟩) (List.pairwise_cons.2 ⟨fun u hu=> ?_, ?_⟩)
   ·obtain ⟨j,_,_,rfl⟩:=fR.1 hu
    have:=hr v hv
    omega
   ·unfold mJ
    refine List.Pairwise.map _ (fun a b hab=> ?_) (List.pairwise_lt_range.filter _)
    omega
  ·refine List.Pairwise.imp_of_mem (R:=fun a b=>p.ord.idxOf a<p.ord.idxOf b) (fun {a b} ha hb' hab=> ?_) ?_
   ·intro u hu v hv
    rw [dJ a ha u hu,dJ b hb' v hv]
    exact .inl hab
   ·rw [List.pairwise_iff_getElem]
    intro i j hi hj hij
    have e1:=dK bS hi
    have e2:=dK bS hj
    rw [List.getD_eq_getElem?_getD,List.getElem?_eq_getElem hi,Option.getD_some] at e1
    rw [List.getD_eq_getElem?_getD,List.getElem?_eq_getElem hj,Option.getD_some] at e2
    omega
end
end Go.Ab
end
section
namespace Go.Ab
open Go.Proofs Go.RowKit
attribute [local congr] ACall.congr gd.congr Nx.congr
set_option maxRecDepth 10000
theorem Spec.of_same {P:Program} {f:Nat} {A:Env→World→List Value→Prop} {m:List (Nat × AObj)} {res:AV} (hc:vu P f)
 (h:∀E w vals,Good m E w→A E w vals→Calls P f vals.toArray w fun e w'=>∃v,e= .returned v∧w'.os=w.os∧w'.tape=w.tape∧w'.output=w.output∧w.heap.size≤w'.heap.size∧(∀b,b<w.heap.size→w'.heap[b]? =w.heap[b]?)∧bV w' E res v):Spec P f A m res m:=by
 refine ⟨hc,fun E w vals hg hA=>(h E w vals hg hA).mono ?_⟩
 rintro e w' ⟨v,rfl,h1,h2,h3,h4,h5,h6⟩
 have hst:aG w E.z w' E.z:=fun b=>⟨Nat.le_refl _,fun o ho=>by
  by_cases hb:b<w.heap.size
  ·simp only [World.cell?,h5 b hb]
  ·have:=hg.fresh b (by omega);omega⟩
 refine ⟨v,E,rfl,⟨h1,h2,h3,h4,hst,fun b hb _=>⟨h5 b hb,rfl⟩,fun _ _=>⟨rfl,rfl⟩⟩,⟨hg.low,hg.inj,fun l o hl=> ?_,fun b hb=>hg.fresh b (by omega)⟩,fun l o b hl hro hb=> .inr ⟨l,o,hl,hro,hb⟩,h6⟩
 have h0:=hg.fU l o hl
 have:=bk.keep (k:= []) (E':=E) hst (fun _ _=>⟨rfl,rfl⟩) (fun l x hx=>by cases hx) rfl (fun _ _=>rfl) (fun b hb=>⟨h5 b (h0.lt hb),rfl⟩) h0
 rwa [AObj.jI] at this
theorem wO {ag:List (List Int × Int)} {es:Array MapEntry} (h:gV 0 ag es) {y:MapEntry} :y∈es.toList↔∃i p,ag[i]? =some p∧y=⟨kV 0 p.1, .int .i64 p.2,i⟩:=by
 constructor
 ·intro hy
  obtain ⟨i,hi,e⟩:=List.mem_iff_getElem.1 hy
  have hi':i<es.size:=by simpa using hi
  have hp:=List.getElem?_eq_getElem (l:=ag) (i:=i) (by rw [← h.size];exact hi')
  refine ⟨i,_,hp, ?_⟩
  have:=h.CX i _ hp
  rw [Array.getElem?_eq_getElem hi'] at this
  rw [← e]
  simpa using Option.some.inj this
 ·rintro ⟨i,p,hp,rfl⟩
  have:=h.CX i p hp
  obtain ⟨hi,e⟩:=Array.getElem?_eq_some_iff.1 this
  rw [← e]
  simp
theorem EU {ag:List (List Int × Int)} {es:Array MapEntry} (h:gV 0 ag es):es.toList.map (·.born)=List.range es.size:=by
 refine List.ext_getElem? fun i=> ?_
 rw [List.getElem?_map,Array.getElem?_toList]
 by_cases hi:i<es.size
 ·have hp:=List.getElem?_eq_getElem (l:=ag) (i:=i) (by rw [← h.size];exact hi)
  rw [h.CX i _ hp,List.getElem?_range hi]
  rfl
 ·rw [Array.getElem?_eq_none (by omega),List.getElem?_eq_none (by simpa using hi)]
  rfl
def iF (n:Int) (es:List Edge) (ord:List Int) (outs:List (List Int)) (ag:List (List Int × Int)):List (Nat × AObj):=
 [(10000, .box [eN n, .ref 10001, .ref 10002, .ref 10003, .mref 10004]),(10001, .own 73 2 (es.map rE)),(10002, .own 3 1 (ord.map rI)),(10003, .own 31 1 (vI outs)),(10004, .mp 0 ag)]
def tE (es:List Edge) (ag:List (List Int × Int)) (x:Int) (e:Nat):Bool:=ag.any fun p=>dO (fun i=>(es.getD i (0,0)).1) x e (p.1.getD 0 0).toNat p.2
theorem Ct (n:Int) (es:List Edge) (ord:List Int) (outs:List (List Int)) (ag:List (List Int × Int)) (x:Int) (e:Nat) (he:e<es.length) (hne:es.length≤1000) (hE:∀p∈ag,0≤p.1.getD 0 0∧p.1.getD 0 0<es.length):
 Spec Tryz.prog 167 (Args [.ptr 10000 0,eN x,eN e]) (iF n es ord outs ag) (eB (tE es ag x e)) (iF n es ord outs ag):=by
 refine Spec.of_same ⟨Tryz.f167,_,Tryz.func167,by kernel_rfl,rfl⟩ fun E w vals hg hA=> ?_
 obtain ⟨v,vs,rfl,h0,h3⟩:=hA
 obtain ⟨v2,PW,rfl,h1,h4⟩:=h3
 obtain ⟨v3,PX,rfl,h2,h5⟩:=h4
 simp only [AVrs] at h5
 subst h5
 have h1:=mq h1
 have h2:=mq h2
 subst h1 h2
 obtain ⟨B,hB,rfl⟩:=h0
 obtain ⟨B',cs,ty,g1,g2,g3,g4,g5⟩:=hg.fU 10000 (.box [eN n, .ref 10001, .ref 10002, .ref 10003, .mref 10004]) rfl
 obtain rfl:B'=B:=by rw [g1] at hB;exact Option.some.inj hB
 obtain ⟨_,_,o1⟩:=hg.fU 10001 (.own 73 2 (es.map rE)) rfl
 obtain ⟨bm,me,m1,m2,m3,m4⟩:=hg.fU 10004 (.mp 0 ag) rfl
 obtain ⟨u0,r0,rfl,_,g4⟩:=g4
 obtain ⟨u1,r1,rfl,c1,g4⟩:=g4
 obtain ⟨u2,r2,rfl,_,g4⟩:=g4
 obtain ⟨u3,r3,rfl,_,g4⟩:=g4
 obtain ⟨u4,r4,rfl,c4,g4⟩:=g4
 obtain ⟨rfl,_⟩:=c1
 obtain ⟨NJ,c5,rfl⟩:=c4
 obtain rfl:NJ=bm:=by rw [m1] at c5;exact (Option.some.inj c5).symm
 obtain ⟨be,cur,ce,p1,p2,p3,p4,p5,p6,p7,p8⟩:∃b cur cap,E.ρ 10001=some b∧w.heap[b]? =some (.cells cur 73 (0,0))∧E.σ 10001= .slice (some ⟨b,0,none⟩) (es.map rE).length cap∧(es.map rE).length≤cap∧cap*2=cur.size∧cap≤maxLen∧
  E.z b=0∧∀(i j:Nat) (r:List D) (y:D),(es.map rE)[i]? =some r→r[j]? =some y→∃v,cur[i*2+j]? =some v∧Rd w E.z v y:=by
  rcases o1 with ⟨_,h,_⟩|h
  ·rw [List.map_eq_nil_iff] at h
   subst h
   simp at he
  ·exact h
 rw [List.length_map] at p3 p4
 have QO:B'<w.heap.size:=(Array.getElem?_eq_some_iff.1 g2).1
 have qf:be<w.heap.size:=(Array.getElem?_eq_some_iff.1 p2).1
 have key:=zx B' NJ be es.length ce me (fun i=>(es.getD i (0,0)).1) x e w QO qf ?_ ?_ m2 (fun i hi=> ?_) he hne ⟨fun y hy=> ?_, ?_⟩ (fun y hy=> ?_)
 ·refine key.mono ?_
  rintro en w' ⟨rfl,w1,seen,⟨uq,Lr⟩,rfl⟩
  refine ⟨_,rfl,uq.2.1,Lr,uq.2.2, ?_,fun b hb=> ?_, ?_⟩
  ·have:=mw w1 (.mapIter (some NJ) me.size seen me.size)
   rw [uq.1] at this
   exact this
  ·rw [lD _ _ (by rw [uq.1];exact hb),uq.1]
  ·have:(me.toList.any fun y=>dO (fun i=>(es.getD i (0,0)).1) x e (G2 y.key) (G3 y.val))=tE es ag x e:=by
    rw [Bool.eq_iff_iff,tE,List.any_eq_true,List.any_eq_true]
    constructor
    ·rintro ⟨y,hy,hm⟩
     obtain ⟨i,p,hp,rfl⟩:=(wO m4).1 hy
     exact ⟨p,List.mem_of_getElem? hp,hm⟩
    ·rintro ⟨p,hp,hm⟩
     obtain ⟨i,hi⟩:=List.mem_iff_getElem?.1 hp
     exact ⟨_,(wO m4).2 ⟨i,p,hi,rfl⟩,hm⟩
   rw [this]
   exact .sc _ rfl
 ·simp [World.cell?,g2,p3]
 ·simp [World.cell?,g2]
 ·obtain ⟨v,q1,q2⟩:=p8 i 0 (rE es[i]) (.sc (.int .i64 es[i].1)) (by simp [List.getElem?_eq_getElem hi]) rfl
  rw [mq q2] at q1
  simp only [World.cell?,p2,Option.isSome_none,Bool.false_eq_true,if_false]
  rw [List.getD_eq_getElem?_getD,List.getElem?_eq_getElem hi]
  exact q1
 ·obtain ⟨i,p,hp,rfl⟩:=(wO m4).1 hy
  have:=(List.getElem?_eq_some_iff.1 hp).1
  have:=m4.size
  show i<me.size
  omega
 ·rw [EU m4];exact List.nodup_range
 ·obtain ⟨i,p,hp,rfl⟩:=(wO m4).1 hy
  obtain ⟨h1,h2⟩:=hE p (List.mem_of_getElem? hp)
  refine ⟨(p.1.getD 0 0).toNat,p.2, ?_,rfl,by omega⟩
  show Value.int .i64 (p.1.getD 0 0)=_
  rw [Int.toNat_of_nonneg h1]
end Go.Ab
end
section
namespace Go.Ab
open Go.Proofs
attribute [local congr] ACall.congr gd.congr Nx.congr
set_option maxRecDepth 20000
set_option maxHeartbeats 8000000
def EV (n:Int) (es:List Edge) (ord:List Int) (outs:List (List Int)) (ag:List (List Int × Int)):List (Nat × AObj):=
 [(10000, .box [eN n, .ref 10011, .ref 10012, .ref 10013, .mref 10004]),(10011, .own 73 2 (es.map rE)),(10012, .own 3 1 (ord.map rI)),(10013, .own 31 1 (vI outs)),(10004, .mp 0 ag)]
theorem EW {ag:List (List Int × Int)} {k:List Int} {v:Int} (h:∀p∈ag,k≠p.1):ve ag k v=ag++ [(k,v)]:=by
 have hf:bZ ag k=none:=by
  rw [bZ,List.findIdx?_eq_none_iff]
  intro p hp
  exact decide_eq_false (h p hp)
 unfold ve dV iS
 rw [hf]
 simp only [pP]
 refine List.ext_getElem? fun i=> ?_
 rw [List.getElem?_modify]
 rcases Nat.lt_trichotomy i ag.length with h1|h1|h1
 ·rw [List.getElem?_append_left h1,List.getElem?_append_left h1]
  simp [show ¬ag.length=i by omega]
 ·subst h1;simp
 ·rw [List.getElem?_eq_none (by simp;omega),List.getElem?_eq_none (by simp;omega)];rfl
theorem IB {a b:List (List Int)} :vI (a++b)=vI a++vI b:=by simp [vI]
theorem Gv {A B:List Int} {t:Int} (h:t∉A):fC (A++t::B) t=A.length:=by
 refine eX (d:=0) (by simp) (fun j hj=>decide_eq_false fun e=>h ?_) (decide_eq_true ?_)
 ·rw [e,List.getD_eq_getElem?_getD,List.getElem?_append_left hj,List.getElem?_eq_getElem hj];exact List.getElem_mem _
 ·rw [List.getD_eq_getElem?_getD,List.getElem?_append_right (by omega)];simp
theorem IC {A O B:List Int} {t:Int} {j:Nat} (hj:j<O.length):(A++t::(O++B)).getD (A.length+1+j) 0=O.getD j 0:=by
 rw [List.getD_eq_getElem?_getD,List.getElem?_append_right (by omega),show A.length+1+j - A.length=j+1 by omega,List.getElem?_cons_succ,List.getElem?_append_left hj, ← List.getD_eq_getElem?_getD]
theorem Gw {A O B:List Int} {t u:Int} :(A++t::(O++u::B)).getD (A.length+1+O.length) 0=u:=by
 rw [List.getD_eq_getElem?_getD,List.getElem?_append_right (by omega),show A.length+1+O.length - A.length=O.length+1 by omega,List.getElem?_cons_succ,List.getElem?_append_right (by omega)]
 simp
theorem Gx {A O B:List Int} {t x:Int} :pT (A++t::(O++B)) (A.length+1+O.length) x=A++t::(O++x::B):=by
 unfold pT
 rw [show A++t::(O++B)=(A++t::O)++B by simp,List.take_left' (by simp;omega),List.drop_left' (by simp;omega)]
 simp
theorem lM {es:List Edge} {a b:Int} :List.map rE es++ [[D.sc (.int .i64 a),D.sc (.int .i64 b)]]=List.map rE (es++ [(a,b)]):=by simp [rE]
theorem wQ {es:List Edge} {e:Nat} {a b:Int} (h:es.getD e (0,0)=(a,b)):(List.map rE es).getD e [D.sc (.int .i64 0),D.sc (.int .i64 0)]= [D.sc (.int .i64 a),D.sc (.int .i64 b)]:=by
 rw [show [D.sc (.int .i64 0),D.sc (.int .i64 0)]=rE (0,0) from rfl,List.getD_eq_getElem?_getD,List.getElem?_map]
 rw [List.getD_eq_getElem?_getD] at h
 cases hq:es[e]? with
 |none=>rw [hq] at h;cases h;rfl
 |some q=>rw [hq] at h;cases h;rfl
theorem oY {es:List Edge} {e:Nat} {a b:Int} :(List.map rE es).set e [D.sc (.int .i64 a),D.sc (.int .i64 b)]=List.map rE (es.set e (a,b)):=by
 rw [List.map_set];rfl
theorem Cu (n:Int) (es:List Edge) (outs:List (List Int)) (ag:List (List Int × Int)) (e:Nat) (A O B:List Int) (t:Int) (hn:0≤n∧n<1000) (he:e<es.length) (hne:es.length<1000) (qg:outs.length<1000) (Sj:(A++t::(O++B)).length<1000)
 (hE:∀p∈ag,0≤p.1.getD 0 0∧p.1.getD 0 0<es.length) (hnew:∀p∈ag, [(e:Int)]≠p.1) (ht:(es.getD e (0,0)).1=t) (QS:t∉A)
 (hO:∀u∈O,tE ((es++ [(n,(es.getD e (0,0)).2)]).set e (t,n)) (ag++ [([(e:Int)],n)]) u e=true) (hB:∀u r,B=u::r→tE ((es++ [(n,(es.getD e (0,0)).2)]).set e (t,n)) (ag++ [([(e:Int)],n)]) u e=false):
 Spec Tryz.prog 118 (Args [.ptr 10000 0,eN e]) (iF n es (A++t::(O++B)) outs ag) (.tup []) (EV (n+1) ((es++ [(n,(es.getD e (0,0)).2)]).set e (t,n)) (A++t::(O++n::B)) (outs++ [[(es.length:Int)]]) (ag++ [([(e:Int)],n)])):=by
 have hi:=aQ (A++t::(O++B)) t (by omega)
 rw [Gv QS] at hi
 have I5:=EW (v:=n) hnew
 obtain ⟨hd,Ir⟩:∃hd,(es.getD e (0,0)).2=hd:=⟨_,rfl⟩
 rw [Ir] at hO hB ⊢
 have GR:(List.map rE es).getD e [D.sc (.int .i64 0),D.sc (.int .i64 0)]= [D.sc (.int .i64 t),D.sc (.int .i64 hd)]:=wQ (Prod.ext ht Ir)
 have mR:(List.map rE (es++ [(n,hd)])).getD e [D.sc (.int .i64 0),D.sc (.int .i64 0)]= [D.sc (.int .i64 t),D.sc (.int .i64 hd)]:=wQ (by
  rw [List.getD_eq_getElem?_getD,List.getElem?_append_left he, ← List.getD_eq_getElem?_getD];exact Prod.ext ht Ir)
 have tN:(List.map rE ((es++ [(n,hd)]).set e (t,n))).getD e [D.sc (.int .i64 0),D.sc (.int .i64 0)]= [D.sc (.int .i64 t),D.sc (.int .i64 n)]:=wQ (by
  rw [List.getD_eq_getElem?_getD,List.getElem?_set_self (by simp;omega)];rfl)
 have D8:((es++ [(n,hd)]).set e (t,n)).length=es.length+1:=by simp
 have OC:∀p∈ag++ [([(e:Int)],n)],0≤p.1.getD 0 0∧p.1.getD 0 0<((es++ [(n,hd)]).set e (t,n)).length:=fun p hp=>by
  rw [D8]
  rcases List.mem_append.1 hp with h|h
  ·have:=hE p h;omega
  ·rw [List.mem_singleton] at h
   subst h
   simp only [List.getD_cons_zero]
   omega
 have kM:=fun (outs:List (List Int)) (u:Int)=>Ct (n+1) ((es++ [(n,hd)]).set e (t,n)) (A++t::(O++B)) outs (ag++ [([(e:Int)],n)]) u e (by rw [D8];omega) (by rw [D8];omega) OC
 have hins:=xU (A++t::(O++B)) (A.length+1+O.length) n (by simp;omega) (by omega)
 rw [Gx] at hins
 have hlen:(A++t::(O++B)).length=A.length+1+O.length+B.length:=by simp;omega
 generalize I6:(es++ [(n,hd)]).set e (t,n)=E2 at hO hB tN D8 OC kM ⊢
 have hv:vI outs++ [[D.sl 1 [[D.sc (.int .i64 (es.length:Int))]]]]=vI (outs++ [[(es.length:Int)]]):=by simp [vI,sI,rI]
 generalize Ge:A++t::(O++n::B)=QT at hins ⊢
 unfold iF EV
 (refine Spec.rH (C:=T.cfg [51,73,125,126,72] []) (rs:= []) [(10011,51),(10013,73),(10012,126)] (T.ah _ _) Tryz.func118 rfl rfl Tryz.ntmps118 Tryz.results118 (by simp [AObj.isNest]) (by simp [AObj.isNest]) (by first|(simp [look];done)|(simp [asN];done)|(intro l hl;simp only [asN];repeat (rw [if_neg (fun e=>by subst e;simp [look] at hl)]))) (by first|(simp [look];done)|(simp [asN];done)|(intro l hl;simp only [asN];repeat (rw [if_neg (fun e=>by subst e;simp [look] at hl)]))) (by kernel_rfl) T.mixed fun X hX hP hC aP ck=> ?_)
 repeat' (first|refine Rn.p ?_|(with_reducible apply And.intro)|((first|(refine hK _ ?_;clear hK K)|with_reducible intro K hK|refine Rs.p ?_|((with_reducible first|apply oP|apply oQ);exact rfl)|(refine au hX hC hP (hi) rfl rfl rfl ?_ ?_ ?_ ?_;iterate 3 (focus (simp only [go_sem,simprocAttr,I5,lM,oY,GR,mR,tN,I6,hv,List.length_append,List.length_cons,List.length_nil];done)))|(refine aj hX hC hP [(10000,10000),(10001,51),(10002,10002),(10003,73),(10004,10004)] (kM _ _) rfl rfl rfl ?_ ?_ ?_ ?_ ?_ ?_ ?_ ?_ ?_ ?_ ?_ ?_ ?_ ?_;(focus (simp only [go_sem,simprocAttr,I5,lM,oY,GR,mR,tN,I6,hv,List.length_append,List.length_cons,List.length_nil];done));(iterate 12 (focus (simp [go_sem,simprocAttr,I5,lM,oY,GR,mR,tN,I6,hv,List.length_append,List.length_cons,List.length_nil];done)));try simp only [List.map_cons,List.map_nil]));try simp only [go_sem,simprocAttr,I5,lM,oY,GR,mR,tN,I6,hv,List.length_append,List.length_cons,List.length_nil])|((with_reducible refine oD ?_ ?_);kernel_rfl)|((with_reducible intro h);try simp only [go_sem,simprocAttr,I5,lM,oY,GR,mR,tN,I6,hv,List.length_append,List.length_cons,List.length_nil] at h)|omega|intro h)
 refine an (fun j:Nat=>j≤O.length) (fun j=>⟨[(0, .ptr 10000 0),(1,eN e),(4,eN n),(6,eN ((A.length+1+j:Nat):Int))], [(10000, .box [eN (n+1), .ref 51, .ref 10002, .ref 73, .mref 10004]),(51, .own 73 2 (E2.map rE)),(10002, .own 3 1 ((A++t::(O++B)).map rI)),(73, .own 31 1 (vI (outs++ [[(es.length:Int)]]))),(10004, .mp 0 (ag++ [([(e:Int)],n)]))]⟩) (fun j=>O.length - j) 0 (by omega) ?_ ?_
 ·refine Le.of ?_ ?_<;>simp [go_sem,simprocAttr,I5,lM,oY,GR,mR,tN,I6,hv,List.length_append,List.length_cons,List.length_nil]
 rintro j hj
 obtain ⟨L,hL⟩:∃L,L=A++t::(O++B):=⟨_,rfl⟩
 rcases Nat.lt_or_ge j O.length with hlt|hge
 ·have hb:decide (((A.length+1+j:Nat):Int)<(L.length:Int))=true:=decide_eq_true (by rw [hL];omega)
  have oc:L.getD (A.length+1+j) 0=O.getD j 0:=by rw [hL];exact IC hlt
  have hm:=hO _ (aS (d:=0) hlt)
  have hm2:=kM (outs++ [[(es.length:Int)]]) (O.getD j 0)
  rw [hm] at hm2
  rw [← hL] at hm2 ⊢
  have hjl:A.length+1+j<L.length:=by rw [hL];omega
  repeat' (first|refine Rn.p ?_|(with_reducible apply And.intro)|((first|(refine hK _ ?_;clear hK K)|with_reducible intro K hK|refine Rs.p ?_|((with_reducible first|apply oP|apply oQ);exact rfl)|(refine aj hX hC hP [(10000,10000),(10001,51),(10002,10002),(10003,73),(10004,10004)] (hm2) rfl rfl rfl ?_ ?_ ?_ ?_ ?_ ?_ ?_ ?_ ?_ ?_ ?_ ?_ ?_ ?_;(focus (simp only [go_sem,simprocAttr,iF,hb,oc];done));(iterate 12 (focus (simp [go_sem,simprocAttr,iF,hb,oc];done)));try simp only [List.map_cons,List.map_nil]));try simp only [go_sem,simprocAttr,iF,hb,oc])|((with_reducible refine oD ?_ ?_);kernel_rfl)|((with_reducible intro h);try simp only [go_sem,simprocAttr,iF,hb,oc] at h)|omega|intro h)
  refine ⟨j+1,by omega, ?_,by omega⟩
  refine Le.of ?_ ?_<;>simp [go_sem,simprocAttr,iF,hb,oc]
  omega
 ·obtain rfl:j=O.length:=by omega
  have hm2:=kM (outs++ [[(es.length:Int)]])
  rw [← hL] at hm2 hins ⊢
  cases KP:B with
  |nil=>
   have hb:decide (((A.length+1+O.length:Nat):Int)<(L.length:Int))=false:=decide_eq_false (by rw [hL,hlen,KP];simp)
   repeat' (first|refine Rn.p ?_|(with_reducible apply And.intro)|((first|(refine hK _ ?_;clear hK K)|with_reducible intro K hK|refine Rs.p ?_|((with_reducible first|apply oP|apply oQ);exact rfl)|(refine aj hX hC hP [(10000,10002),(10002,125),(10001,126)] (hins) rfl rfl rfl ?_ ?_ ?_ ?_ ?_ ?_ ?_ ?_ ?_ ?_ ?_ ?_ ?_ ?_;(focus (simp only [go_sem,simprocAttr,iF,rI,hb];done));(iterate 12 (focus (simp [go_sem,simprocAttr,iF,rI,hb];done)));try simp only [List.map_cons,List.map_nil]));try simp only [go_sem,simprocAttr,iF,rI,hb])|((with_reducible refine oD ?_ ?_);kernel_rfl)|((with_reducible intro h);try simp only [go_sem,simprocAttr,iF,rI,hb] at h)|omega|intro h)
   all_goals rfl
  |cons u r=>
   have hb:decide (((A.length+1+O.length:Nat):Int)<(L.length:Int))=true:=decide_eq_true (by rw [hL,hlen,KP];simp;omega)
   have oc:L.getD (A.length+1+O.length) 0=u:=by rw [hL,KP];exact Gw
   have OD:=hm2 u
   rw [hB u r KP] at OD
   have hjl:A.length+1+O.length<L.length:=by rw [hL,hlen,KP];simp
   repeat' (first|refine Rn.p ?_|(with_reducible apply And.intro)|((first|(refine hK _ ?_;clear hK K)|with_reducible intro K hK|refine Rs.p ?_|((with_reducible first|apply oP|apply oQ);exact rfl)|(refine aj hX hC hP [(10000,10002),(10002,125),(10001,126)] (hins) rfl rfl rfl ?_ ?_ ?_ ?_ ?_ ?_ ?_ ?_ ?_ ?_ ?_ ?_ ?_ ?_;(focus (simp only [go_sem,simprocAttr,iF,rI,hb,oc];done));(iterate 12 (focus (simp [go_sem,simprocAttr,iF,rI,hb,oc];done)));try simp only [List.map_cons,List.map_nil])|(refine aj hX hC hP [(10000,10000),(10001,51),(10002,10002),(10003,73),(10004,10004)] (OD) rfl rfl rfl ?_ ?_ ?_ ?_ ?_ ?_ ?_ ?_ ?_ ?_ ?_ ?_ ?_ ?_;(focus (simp only [go_sem,simprocAttr,iF,rI,hb,oc];done));(iterate 12 (focus (simp [go_sem,simprocAttr,iF,rI,hb,oc];done)));try simp only [List.map_cons,List.map_nil]));try simp only [go_sem,simprocAttr,iF,rI,hb,oc])|((with_reducible refine oD ?_ ?_);kernel_rfl)|((with_reducible intro h);try simp only [go_sem,simprocAttr,iF,rI,hb,oc] at h)|omega|intro h)
   all_goals rfl
end Go.Ab
end
section
namespace Go.Ab
open Go.Proofs
set_option maxRecDepth 10000
def Cv (q:Nat→Bool):Nat→Nat
 |0=>0
 |n+1=>Cv q n ||| (if q n then 2 ^ n else 0)
theorem j9 {q:Nat→Bool} {y:Nat} :∀ {n:Nat},(Cv q n).testBit y=(decide (y<n)&&q y)
 |0=>by simp [Cv]
 |n+1=>by
  rw [Cv,Nat.testBit_or,j9]
  by_cases h:y=n
  ·subst h
   cases hq:q y<;>simp [Nat.testBit_two_pow_self]
  ·have h2:(if q n then 2 ^ n else 0).testBit y=false:=by
    split
    ·rw [Nat.testBit_two_pow];exact decide_eq_false fun e=>h e.symm
    ·simp
   rw [h2,Bool.or_false]
   congr 1
   rw [decide_eq_decide];omega
theorem Gy {q:Nat→Bool} {n:Nat} :Cv q n<2 ^ n:=by
 refine Nat.lt_pow_two_of_testBit _ fun i hi=> ?_
 rw [j9,decide_eq_false (by omega)];rfl
inductive mN (g:Gr) (both:Bool) (c:Nat→Bool) (x:Nat):Nat→Prop
 |refl:mN g both c x x
 |fwd {i:Nat} :i<g.es.length→c i=true→mN g both c x (tl g i).toNat→mN g both c x (hd g i).toNat
 |Fu {i:Nat} :i<g.es.length→c i=true→both=true→mN g both c x (hd g i).toNat→mN g both c x (tl g i).toNat
theorem mN.trans {g:Gr} {both:Bool} {c:Nat→Bool} {x y z:Nat} (h1:mN g both c x y) (h2:mN g both c y z):mN g both c x z:=by
 induction h2 with
 |refl=>exact h1
 |fwd a b _ ih=>exact .fwd a b ih
 |Fu a b d _ ih=>exact .Fu a b d ih
open Classical in
noncomputable def LH (g:Gr) (both:Bool) (c:Nat→Bool) (x:Nat):Nat:=Cv (fun y=>decide (mN g both c x y)) g.n.toNat
noncomputable def zY (g:Gr) (both:Bool) (c:Nat→Bool):List Nat:=(List.range g.n.toNat).map (LH g both c)
theorem qB {g:Gr} {both:Bool} {c:Nat→Bool} :(zY g both c).length=g.n.toNat:=by simp [zY]
theorem wR {g:Gr} {both:Bool} {c:Nat→Bool} {x:Nat} (h:x<g.n.toNat):(zY g both c).getD x 0=LH g both c x:=by
 simp [zY,List.getD_eq_getElem?_getD,List.getElem?_range h]
open Classical in
theorem wS {g:Gr} {both:Bool} {c:Nat→Bool} {x y:Nat} :(LH g both c x).testBit y=true↔y<g.n.toNat∧mN g both c x y:=by
 unfold LH
 rw [j9]
 simp
def bE (g:Gr) (both:Bool) (c:Nat→Bool) (a:List Nat):Nat→List Nat × Bool
 |0=>(a,false)
 |k+1=>
  let s:=bE g both c a k
  if c k=true then
   let t:=s.1.getD (tl g k).toNat 0 ||| s.1.getD (hd g k).toNat 0
   let h:=if both=true then t else s.1.getD (hd g k).toNat 0
   ((s.1.set (tl g k).toNat t).set (hd g k).toNat h,s.2||(decide (t≠s.1.getD (tl g k).toNat 0)||decide (h≠s.1.getD (hd g k).toNat 0)))
  else s
theorem oZ {g:Gr} {both:Bool} {c:Nat→Bool} {a:List Nat} :∀ {k:Nat},(bE g both c a k).1.length=a.length
 |0=>rfl
 |k+1=>by
  simp only [bE]
  split
  ·simp [oZ]
  ·exact oZ
theorem lN {l:List Nat} {i j:Nat} {a:Nat} (hi:i<l.length):(l.set i a).getD j 0=if j=i then a else l.getD j 0:=by
 rw [List.getD_eq_getElem?_getD,List.getElem?_set]
 by_cases h:i=j
 ·subst h;rw [if_pos rfl,if_pos hi,if_pos rfl];rfl
 ·rw [if_neg h,if_neg (Ne.symm h), ← List.getD_eq_getElem?_getD]
structure CV (g:Gr) (both:Bool) (c:Nat→Bool) (a:List Nat):Prop where
 len:a.length=g.n.toNat
 own:∀x,x<g.n.toNat→(a.getD x 0).testBit x=true
 snd:∀x y,x<g.n.toNat→(a.getD x 0).testBit y=true→y<g.n.toNat∧mN g both c x y
theorem CV.lt {g:Gr} {both:Bool} {c:Nat→Bool} {a:List Nat} (h:CV g both c a) (hn:g.n.toNat≤64) (x:Nat):a.getD x 0<18446744073709551616:=by
 by_cases hx:x<g.n.toNat
 ·have:a.getD x 0<2 ^ 64:=Nat.lt_pow_two_of_testBit _ fun i hi=>by
   cases hb:(a.getD x 0).testBit i with
   |false=>rfl
   |true=>have:=(h.snd x i hx hb).1;omega
  simpa using this
 ·rw [List.getD_eq_getElem?_getD,List.getElem?_eq_none (by rw [h.len];omega)];simp
theorem grow_step {g:Gr} (hm:aK g=true) {both:Bool} {c:Nat→Bool} {a:List Nat} (h:CV g both c a) {i:Nat} (hi:i<g.es.length) (hc:c i=true):
 CV g both c ((a.set (tl g i).toNat (a.getD (tl g i).toNat 0 ||| a.getD (hd g i).toNat 0)).set (hd g i).toNat (if both=true then a.getD (tl g i).toNat 0 ||| a.getD (hd g i).toNat 0 else a.getD (hd g i).toNat 0))∧
 ∀x y,(a.getD x 0).testBit y=true→(((a.set (tl g i).toNat (a.getD (tl g i).toNat 0 ||| a.getD (hd g i).toNat 0)).set (hd g i).toNat (if both=true then a.getD (tl g i).toNat 0 ||| a.getD (hd g i).toNat 0 else a.getD (hd g i).toNat 0)).getD x 0).testBit y=true:=by
 obtain ⟨ht,hh⟩:=dg hm hi
 have ht:0≤tl g i∧tl g i<g.n:=ht
 have hh:0≤hd g i∧hd g i<g.n:=hh
 have hl:=h.len
 have qI:∀x,((a.set (tl g i).toNat (a.getD (tl g i).toNat 0 ||| a.getD (hd g i).toNat 0)).set (hd g i).toNat (if both=true then a.getD (tl g i).toNat 0 ||| a.getD (hd g i).toNat 0 else a.getD (hd g i).toNat 0)).getD x 0=
  if x=(hd g i).toNat then (if both=true then a.getD (tl g i).toNat 0 ||| a.getD (hd g i).toNat 0 else a.getD (hd g i).toNat 0) else if x=(tl g i).toNat then a.getD (tl g i).toNat 0 ||| a.getD (hd g i).toNat 0 else a.getD x 0:=fun x=>by
  rw [lN (by rw [List.length_set];omega),lN (by omega)]
 have mono:∀x y,(a.getD x 0).testBit y=true→(((a.set (tl g i).toNat (a.getD (tl g i).toNat 0 ||| a.getD (hd g i).toNat 0)).set (hd g i).toNat (if both=true then a.getD (tl g i).toNat 0 ||| a.getD (hd g i).toNat 0 else a.getD (hd g i).toNat 0)).getD x 0).testBit y=true:=fun x y hb=>by
  rw [qI]
  split
  ·rename_i e;subst e
   split
   ·rw [Nat.testBit_or,hb,Bool.or_true]
   ·exact hb
  ·split
   ·rename_i e;subst e
    rw [Nat.testBit_or,hb,Bool.true_or]
   ·exact hb
 refine ⟨⟨by simp [hl],fun x hx=>mono x x (h.own x hx),fun x y hx hb=> ?_⟩,mono⟩
 have e1:mN g both c (tl g i).toNat (hd g i).toNat:= .fwd hi hc .refl
 rw [qI] at hb
 split at hb
 ·rename_i e;subst e
  split at hb
  ·rename_i NK
   rw [Nat.testBit_or,Bool.or_eq_true] at hb
   rcases hb with hb|hb
   ·obtain ⟨g1,g2⟩:=h.snd _ _ (by omega) hb
    exact ⟨g1,(mN.Fu hi hc NK .refl).trans g2⟩
   ·exact h.snd _ _ hx hb
  ·exact h.snd _ _ hx hb
 ·split at hb
  ·rename_i e;subst e
   rw [Nat.testBit_or,Bool.or_eq_true] at hb
   rcases hb with hb|hb
   ·exact h.snd _ _ hx hb
   ·obtain ⟨g1,g2⟩:=h.snd _ _ (by omega) hb
    exact ⟨g1,e1.trans g2⟩
  ·exact h.snd _ _ hx hb
theorem gU {g:Gr} (hm:aK g=true) {both:Bool} {c:Nat→Bool} {a:List Nat} (h:CV g both c a):∀ {k:Nat},k≤g.es.length→CV g both c (bE g both c a k).1∧∀x y,(a.getD x 0).testBit y=true→((bE g both c a k).1.getD x 0).testBit y=true
 |0,_=>⟨h,fun x y hb=>hb⟩
 |k+1,hk=>by
  obtain ⟨i1,i2⟩:=gU hm h (k:=k) (by omega)
  simp only [bE]
  by_cases hc:c k=true
  ·rw [if_pos hc]
   obtain ⟨j1,j2⟩:=grow_step hm i1 (i:=k) (by omega) hc
   exact ⟨j1,fun x y hb=>j2 x y (i2 x y hb)⟩
  ·rw [if_neg hc];exact ⟨i1,i2⟩
def tF (a:List Nat):Nat:=a.foldr (· + ·) 0
theorem Bd:∀ {a b:List Nat},a.length=b.length→(∀x,a.getD x 0≤b.getD x 0)→a≠b→tF a<tF b
 | [], [],_,_,hne=>absurd rfl hne
 |x::a,y::b,hl,h,hne=>by
  have h0:=h 0
  have hr:∀i,a.getD i 0≤b.getD i 0:=fun i=>by simpa using h (i+1)
  simp only [List.getD_cons_zero] at h0
  show x+tF a<y+tF b
  by_cases hab:a=b
  ·subst hab
   have:x≠y:=fun e=>hne (by rw [e])
   omega
  ·have:=Bd (a:=a) (b:=b) (by simpa using hl) hr hab
   omega
theorem yH {m:Nat} :∀ {a:List Nat},(∀x,a.getD x 0<m)→tF a≤a.length*m
 | [],_=>by simp [tF]
 |x::a,h=>by
  have h0:=h 0
  have:=yH (a:=a) fun i=>by simpa using h (i+1)
  simp only [List.getD_cons_zero] at h0
  show x+tF a≤(a.length+1)*m
  rw [Nat.add_mul];omega
theorem mK {a b:Nat} (h:∀y,a.testBit y=true→b.testBit y=true):a≤b:=by
 have:a ||| b=b:=Nat.eq_of_testBit_eq fun y=>by
  rw [Nat.testBit_or]
  cases ha:a.testBit y with
  |false=>simp
  |true=>rw [h y ha];rfl
 rw [← this];exact Nat.left_le_or
theorem iw {g:Gr} {both:Bool} {c:Nat→Bool} {a:List Nat} :∀ {k:Nat},(bE g both c a k).2=false→(bE g both c a k).1=a∧∀i,i<k→c i=true→(a.getD (tl g i).toNat 0 ||| a.getD (hd g i).toNat 0=a.getD (tl g i).toNat 0)∧(both=true→a.getD (tl g i).toNat 0=a.getD (hd g i).toNat 0)
 |0,_=>⟨rfl,fun i hi=>by omega⟩
 |k+1,h=>by
  simp only [bE] at h ⊢
  by_cases hc:c k=true
  ·rw [if_pos hc] at h ⊢
   simp only [Bool.or_eq_false_iff,decide_eq_false_iff_not,Decidable.not_not] at h
   obtain ⟨h1,h2,h3⟩:=h
   obtain ⟨i1,i2⟩:=iw h1
   rw [i1] at h2 h3
   simp only [i1]
   have de:∀ {l:List Nat} {i v:Nat},v=l.getD i 0→l.set i v=l:=fun {l i v} e=>by
    refine List.ext_getElem? fun j=> ?_
    rw [List.getElem?_set]
    split
    ·rename_i hj;subst hj
     split
     ·rename_i hl;rw [e,List.getD_eq_getElem?_getD,List.getElem?_eq_getElem hl];rfl
     ·rename_i hl;rw [List.getElem?_eq_none (by omega)]
    ·rfl
   refine ⟨by rw [de h2,de h3],fun i hi KQ=> ?_⟩
   by_cases hik:i=k
   ·subst hik
    refine ⟨h2,fun hb=> ?_⟩
    rw [if_pos hb] at h3
    rw [← h2,h3]
   ·exact i2 i (by omega) KQ
  ·rw [if_neg hc] at h ⊢
   obtain ⟨i1,i2⟩:=iw h
   refine ⟨i1,fun i hi KQ=> ?_⟩
   by_cases hik:i=k
   ·subst hik;exact absurd KQ hc
   ·exact i2 i (by omega) KQ
theorem zZ {g:Gr} (hm:aK g=true) {both:Bool} {c:Nat→Bool} {a:List Nat} (h:CV g both c a) (hne:(bE g both c a g.es.length).2=true):tF a<tF (bE g both c a g.es.length).1:=by
 obtain ⟨_,i2⟩:=gU hm h (Nat.le_refl g.es.length)
 refine Bd oZ.symm (fun x=>mK (i2 x)) fun e=> ?_
 have key:∀k,k≤g.es.length→(bE g both c a k).2=false:=by
  intro k
  induction k with
  |zero=>intro _;rfl
  |succ k ih=>
   intro hk
   have ih:=ih (by omega)
   have OE:=(iw ih).1
   simp only [bE]
   by_cases hc:c k=true
   ·rw [if_pos hc]
    simp only [Bool.or_eq_false_iff,decide_eq_false_iff_not,Decidable.not_not,ih,OE,true_and]
    obtain ⟨j1,j2⟩:=gU hm h (k:=k) (by omega)
    have later:∀d,k+1+d≤g.es.length→∀x y,((bE g both c a (k+1)).1.getD x 0).testBit y=true→((bE g both c a (k+1+d)).1.getD x 0).testBit y=true:=by
     intro d
     induction d with
     |zero=>intro _ x y hb;exact hb
     |succ d QU=>
      intro hd x y hb
      have hb:=QU (by omega) x y hb
      show ((bE g both c a (k+1+d+1)).1.getD x 0).testBit y=true
      simp only [bE] at hb ⊢
      split
      ·rename_i AL
       exact (grow_step hm (gU hm h (k:=k+1+d) (by omega)).1 (i:=k+1+d) (by omega) AL).2 x y hb
      ·exact hb
    have pR:=later (g.es.length - (k+1)) (by omega)
    rw [show k+1+(g.es.length - (k+1))=g.es.length by omega, ← e] at pR
    have Ai:(bE g both c a (k+1)).1=(a.set (tl g k).toNat (a.getD (tl g k).toNat 0 ||| a.getD (hd g k).toNat 0)).set (hd g k).toNat (if both=true then a.getD (tl g k).toNat 0 ||| a.getD (hd g k).toNat 0 else a.getD (hd g k).toNat 0):=by
     simp only [bE];rw [if_pos hc,OE]
    obtain ⟨ht,hh⟩:=dg hm (k:=k) (by omega)
    have ht:0≤tl g k∧tl g k<g.n:=ht
    have hh:0≤hd g k∧hd g k<g.n:=hh
    have hl:=h.len
    have qI:∀x,(bE g both c a (k+1)).1.getD x 0=if x=(hd g k).toNat then (if both=true then a.getD (tl g k).toNat 0 ||| a.getD (hd g k).toNat 0 else a.getD (hd g k).toNat 0) else if x=(tl g k).toNat then a.getD (tl g k).toNat 0 ||| a.getD (hd g k).toNat 0 else a.getD x 0:=fun x=>by
     rw [Ai,lN (by rw [List.length_set];omega),lN (by omega)]
    have g1:(if both=true then a.getD (tl g k).toNat 0 ||| a.getD (hd g k).toNat 0 else a.getD (hd g k).toNat 0)=a.getD (hd g k).toNat 0:=by
     have:=mK (pR (hd g k).toNat)
     rw [qI,if_pos rfl] at this
     split at this
     ·rename_i hb
      rw [if_pos hb]
      exact Nat.le_antisymm this Nat.right_le_or
     ·rename_i hb;rw [if_neg hb]
    refine ⟨?_,g1⟩
    by_cases heq:(tl g k).toNat=(hd g k).toNat
    ·rw [heq,Nat.or_self]
    ·have:=mK (pR (tl g k).toNat)
     rw [qI,if_neg heq,if_pos rfl] at this
     exact Nat.le_antisymm this Nat.left_le_or
   ·rw [if_neg hc];exact ih
 rw [key _ (Nat.le_refl _)] at hne
 cases hne
theorem Cw {g:Gr} (hm:aK g=true) {both:Bool} {c:Nat→Bool} {a:List Nat} (h:CV g both c a) (hne:(bE g both c a g.es.length).2=false):a=zY g both c:=by
 obtain ⟨_,hcl⟩:=iw hne
 have comp:∀x y,x<g.n.toNat→mN g both c x y→∀w,w<g.n.toNat→mN g both c w x→True:=fun _ _ _ _ _ _ _=>trivial
 have key:∀ {x y:Nat},mN g both c x y→∀z,(a.getD y 0).testBit z=true→(a.getD x 0).testBit z=true:=by
  intro x y hR
  induction hR with
  |refl=>exact fun z hz=>hz
  | @fwd i hi hc _ ih=>
    intro z hz
    refine ih z ?_
    rw [← (hcl i hi hc).1,Nat.testBit_or,hz,Bool.or_true]
  | @Fu i hi hc hb _ ih=>
    intro z hz
    refine ih z ?_
    rw [← (hcl i hi hc).2 hb];exact hz
 refine List.ext_getElem? fun x=> ?_
 by_cases hx:x<g.n.toNat
 ·have e:a.getD x 0=(zY g both c).getD x 0:=by
   rw [wR hx]
   refine Nat.eq_of_testBit_eq fun y=> ?_
   rw [Bool.eq_iff_iff,wS]
   refine ⟨h.snd x y hx,fun ⟨h1,h2⟩=>key h2 y (h.own y h1)⟩
  rw [List.getD_eq_getElem?_getD,List.getD_eq_getElem?_getD,List.getElem?_eq_getElem (by rw [h.len];exact hx),List.getElem?_eq_getElem (by rw [qB];exact hx)] at e
  rw [List.getElem?_eq_getElem (by rw [h.len];exact hx),List.getElem?_eq_getElem (by rw [qB];exact hx)]
  simpa using e
 ·rw [List.getElem?_eq_none (by rw [h.len];omega),List.getElem?_eq_none (by rw [qB];omega)]
end Go.Ab
end
section
namespace Go.Ab
open Go.Proofs
attribute [local congr] ACall.congr gd.congr Nx.congr
set_option maxRecDepth 20000
set_option maxHeartbeats 8000000
def rU (n:Nat):List D:= [.sc (.int .u64 (n:Int))]
def eU (n:Nat):AV:= .d (.sc (.int .u64 (n:Int)))
def sU (l:List Nat):D:= .sl 1 (l.map rU)
theorem getD_rU (ps:List Nat) (i:Nat):(ps.map rU).getD i [.sc (.int .u64 0)]= [.sc (.int .u64 ((ps.getD i 0:Nat):Int))]:=by
 rw [List.getD_eq_getElem?_getD,List.getElem?_map,List.getD_eq_getElem?_getD]
 cases ps[i]? <;>rfl
theorem iX (l:List Nat) (k:Nat) (v:Nat):(l.map rU).set k [.sc (.int .u64 (v:Int))]=(l.set k v).map rU:=by
 rw [List.map_set];rfl
attribute [go_sem] eU sU getD_rU InU
theorem Gz {s x:Nat} :decide ((((s >>> x &&& 1:Nat)):Int)=1)=s.testBit x:=by
 rw [Bool.eq_iff_iff,decide_eq_true_eq,Nat.testBit,Nat.and_comm]
 have:1 &&& s >>> x=0∨1 &&& s >>> x=1:=by
  rw [Nat.and_comm,Nat.and_one_is_mod];omega
 rcases this with h|h<;>rw [h]<;>simp
theorem Cx (s:Nat) (hs:s<18446744073709551616) (x:Int):Spec Tryz.prog 26 (Args [eU s,eN x]) [] (eB (decide (0≤x)&&decide (x<64)&&s.testBit x.toNat)) []:=by
 by_cases h0:0≤x
 rotate_left
 ·have hb0:decide (0≤x)=false:=decide_eq_false h0
  (refine Spec.hd (C:=T.cfg [] []) (rs:= [.t 4]) (T.ah _ _) Tryz.func26 rfl rfl Tryz.ntmps26 Tryz.results26 (by simp [AObj.isNest]) (by simp [AObj.isNest]) (by kernel_rfl) T.mixed fun X hX hP hC aP ck=> ?_)
  repeat' (first|refine Rn.p ?_|(with_reducible apply And.intro)|((first|(refine hK _ ?_;clear hK K)|with_reducible intro K hK|refine Rs.p ?_|((with_reducible first|apply oP|apply oQ);exact rfl));try simp only [go_sem,simprocAttr,hb0])|((with_reducible refine oD ?_ ?_);kernel_rfl)|((with_reducible intro h);try simp only [go_sem,simprocAttr,hb0] at h)|omega|intro h)
 have hb0:decide (0≤x)=true:=decide_eq_true h0
 by_cases h1:x<64
 rotate_left
 ·have hb1:decide (x<64)=false:=decide_eq_false h1
  (refine Spec.hd (C:=T.cfg [] []) (rs:= [.t 4]) (T.ah _ _) Tryz.func26 rfl rfl Tryz.ntmps26 Tryz.results26 (by simp [AObj.isNest]) (by simp [AObj.isNest]) (by kernel_rfl) T.mixed fun X hX hP hC aP ck=> ?_)
  repeat' (first|refine Rn.p ?_|(with_reducible apply And.intro)|((first|(refine hK _ ?_;clear hK K)|with_reducible intro K hK|refine Rs.p ?_|((with_reducible first|apply oP|apply oQ);exact rfl));try simp only [go_sem,simprocAttr,hb0,hb1])|((with_reducible refine oD ?_ ?_);kernel_rfl)|((with_reducible intro h);try simp only [go_sem,simprocAttr,hb0,hb1] at h)|omega|intro h)
 have hb1:decide (x<64)=true:=decide_eq_true h1
 obtain ⟨i,rfl⟩:∃i:Nat,x=i:=⟨x.toNat,by omega⟩
 have hlt:s >>> i<18446744073709551616:=Nat.lt_of_le_of_lt (Nat.shiftRight_le s i) hs
 have ha:=Gz (s:=s) (x:=i)
 generalize hq:s >>> i=q at hlt ha
 (refine Spec.hd (C:=T.cfg [] []) (rs:= [.t 4]) (T.ah _ _) Tryz.func26 rfl rfl Tryz.ntmps26 Tryz.results26 (by simp [AObj.isNest]) (by simp [AObj.isNest]) (by kernel_rfl) T.mixed fun X hX hP hC aP ck=> ?_)
 repeat' (first|refine Rn.p ?_|(with_reducible apply And.intro)|((first|(refine hK _ ?_;clear hK K)|with_reducible intro K hK|refine Rs.p ?_|((with_reducible first|apply oP|apply oQ);exact rfl));try simp only [go_sem,simprocAttr,hb0,hb1,hq,ha])|((with_reducible refine oD ?_ ?_);kernel_rfl)|((with_reducible intro h);try simp only [go_sem,simprocAttr,hb0,hb1,hq,ha] at h)|omega|intro h)
theorem EX (x:Nat) (hx:x<64):Spec Tryz.prog 114 (Args [.d (.sl 1 [[.sc (.int .i64 (x:Int))]])]) [] (eU (2 ^ x)) []:=by
 have hsh:1 <<< x % 18446744073709551616=2 ^ x:=by
  rw [Nat.shiftLeft_eq,Nat.one_mul,Nat.mod_eq_of_lt]
  exact Nat.lt_of_lt_of_le (Nat.pow_lt_pow_right (by decide) hx) (by decide)
 have hlt:2 ^ x<18446744073709551616:=Nat.lt_of_lt_of_le (Nat.pow_lt_pow_right (by decide) hx) (by decide)
 have hb1:decide (0≤(x:Int))=true:=decide_eq_true (by omega)
 have hb2:decide ((x:Int)<64)=true:=decide_eq_true (by omega)
 (refine Spec.hd (C:=T.cfg [] []) (rs:= [.t 2]) (T.ah _ _) Tryz.func114 rfl rfl Tryz.ntmps114 Tryz.results114 (by simp [AObj.isNest]) (by simp [AObj.isNest]) (by kernel_rfl) T.mixed fun X hX hP hC aP ck=> ?_)
 repeat' (first|refine Rn.p ?_|(with_reducible apply And.intro)|((first|(refine hK _ ?_;clear hK K)|with_reducible intro K hK|refine Rs.p ?_|((with_reducible first|apply oP|apply oQ);exact rfl));try simp only [go_sem,simprocAttr])|((with_reducible refine oD ?_ ?_);kernel_rfl)|((with_reducible intro h);try simp only [go_sem,simprocAttr] at h)|omega|intro h)
 refine an (fun k:Nat=>k≤1) (fun k=>⟨[(2,eU (if k=0 then 0 else 2 ^ x)),(5, .d (.sl 1 [[.sc (.int .i64 (x:Int))]])),(6,eN 1),(7,eN k)], []⟩) (fun k=>1 - k) 0 (by omega) ?_ ?_
 ·refine Le.of ?_ ?_<;>simp [go_sem,simprocAttr]
 rintro k hk
 match k,hk with
 |0,_=>
  repeat' (first|refine Rn.p ?_|(with_reducible apply And.intro)|((first|(refine hK _ ?_;clear hK K)|with_reducible intro K hK|refine Rs.p ?_|((with_reducible first|apply oP|apply oQ);exact rfl));try simp only [go_sem,simprocAttr,hsh,hb1,hb2,Nat.zero_or])|((with_reducible refine oD ?_ ?_);kernel_rfl)|((with_reducible intro h);try simp only [go_sem,simprocAttr,hsh,hb1,hb2,Nat.zero_or] at h)|omega|intro h)
  all_goals (refine ⟨1,by omega, ?_,by omega⟩)
  all_goals (refine Le.of ?_ ?_<;>simp [go_sem,simprocAttr,hsh,hb1,hb2,Nat.zero_or])
 |1,_=>
  repeat' (first|refine Rn.p ?_|(with_reducible apply And.intro)|((first|(refine hK _ ?_;clear hK K)|with_reducible intro K hK|refine Rs.p ?_|((with_reducible first|apply oP|apply oQ);exact rfl));try simp only [go_sem,simprocAttr])|((with_reducible refine oD ?_ ?_);kernel_rfl)|((with_reducible intro h);try simp only [go_sem,simprocAttr] at h)|omega|intro h)
end Go.Ab
end
section
namespace Go.Ab
open Go.Proofs
attribute [local congr] ACall.congr gd.congr Nx.congr
set_option maxRecDepth 20000
set_option maxHeartbeats 8000000
def o5 (k:Nat):List Nat:=(List.range k).map fun x=>2 ^ x
theorem Cy {k:Nat} :o5 (k+1)=o5 k++ [2 ^ k]:=by simp [o5,List.range_succ]
theorem tG {k:Nat} :(o5 k).length=k:=by simp [o5]
def iR (g:Gr):List Nat:=if aK g=true then o5 g.n.toNat else []
theorem z1 (g:Gr) (hl:g.es.length≤9223372036854775807):Spec Tryz.prog 64 (Args [eG g]) [] (.ref 10000) [(10000, .own 49 1 ((iR g).map rU))]:=by
 have hM:=eZ g hl
 cases hm:aK g with
 |false=>
  rw [hm] at hM
  have he:iR g= []:=by unfold iR;rw [hm];rfl
  rw [he]
  (refine Spec.rH (C:=T.cfg [200,17] []) (rs:= [.t 2]) [(10000,200)] (T.ah _ _) Tryz.func64 rfl rfl Tryz.ntmps64 Tryz.results64 (by simp [AObj.isNest]) (by simp [AObj.isNest]) (by first|(simp [look];done)|(simp [asN];done)|(intro l hl;simp only [asN];repeat (rw [if_neg (fun e=>by subst e;simp [look] at hl)]))) (by first|(simp [look];done)|(simp [asN];done)|(intro l hl;simp only [asN];repeat (rw [if_neg (fun e=>by subst e;simp [look] at hl)]))) (by kernel_rfl) T.mixed fun X hX hP hC aP ck=> ?_)
  repeat' (first|(show cj _ .ret _ _;(try simp only [go_sem,simprocAttr]);refine c8 hX 2 200 (.own 49 1 []) ?_ ?_ (by decide) ⟨49,1,by decide, .inl rfl⟩ ?_;(iterate 2 (focus (simp only [go_sem,simprocAttr];done)));simp only [go_sem,simprocAttr])|refine Rn.p ?_|(with_reducible apply And.intro)|((first|(refine hK _ ?_;clear hK K)|with_reducible intro K hK|refine Rs.p ?_|((with_reducible first|apply oP|apply oQ);exact rfl)|refine aa hX hC hP (hM) rfl rfl rfl (by simp only [go_sem,simprocAttr]) rfl ?_);try simp only [go_sem,simprocAttr])|((with_reducible refine oD ?_ ?_);kernel_rfl)|((with_reducible intro h);try simp only [go_sem,simprocAttr] at h)|omega|intro h)
 |true=>
  rw [hm] at hM
  have hn:=aH hm
  have he:iR g=o5 g.n.toNat:=by unfold iR;rw [if_pos hm]
  rw [he]
  (refine Spec.rH (C:=T.cfg [200,17] []) (rs:= [.t 2]) [(10000,200)] (T.ah _ _) Tryz.func64 rfl rfl Tryz.ntmps64 Tryz.results64 (by simp [AObj.isNest]) (by simp [AObj.isNest]) (by first|(simp [look];done)|(simp [asN];done)|(intro l hl;simp only [asN];repeat (rw [if_neg (fun e=>by subst e;simp [look] at hl)]))) (by first|(simp [look];done)|(simp [asN];done)|(intro l hl;simp only [asN];repeat (rw [if_neg (fun e=>by subst e;simp [look] at hl)]))) (by kernel_rfl) T.mixed fun X hX hP hC aP ck=> ?_)
  repeat' (first|(show cj _ (.seq (.region 3 _ _) _) _ _;(refine c8 hX 2 200 (.own 49 1 []) ?_ ?_ (by decide) ⟨49,1,by decide, .inl rfl⟩ ?_;(iterate 2 (focus (simp only [go_sem,simprocAttr];done)));simp only [go_sem,simprocAttr]))|refine Rn.p ?_|(with_reducible apply And.intro)|((first|(refine hK _ ?_;clear hK K)|with_reducible intro K hK|refine Rs.p ?_|((with_reducible first|apply oP|apply oQ);exact rfl)|refine aa hX hC hP (hM) rfl rfl rfl (by simp only [go_sem,simprocAttr]) rfl ?_);try simp only [go_sem,simprocAttr])|((with_reducible refine oD ?_ ?_);kernel_rfl)|((with_reducible intro h);try simp only [go_sem,simprocAttr] at h)|omega|intro h)
  refine an (fun k:Nat=>k≤g.n.toNat) (fun k=>⟨[(2, .ref 200),(8,eN g.n),(9,eN k)], [(200, .own 49 1 ((o5 k).map rU))]⟩) (fun k=>g.n.toNat - k) 0 (by omega) ?_ ?_
  ·refine Le.of ?_ ?_<;>simp [go_sem,simprocAttr,o5]
  rintro k hk
  rcases Nat.lt_or_ge k g.n.toNat with hlt|hge
  ·have hb:decide ((k:Int)<g.n)=true:=decide_eq_true (by omega)
   have qg:=tG (k:=k)
   have dN:=Cy (k:=k)
   have QV:=EX k (by omega)
   generalize o5 k=O1 at qg dN
   repeat' (first|(show cj _ (.region 7 _ _) _ _;(refine DO hX 2 17 200 (by simp only [go_sem,simprocAttr,hb,qg]) rfl (by first|exact .inl rfl|exact .inr rfl) (by decide) ?_;simp only [go_sem,simprocAttr,hb,qg]))|refine Rn.p ?_|(with_reducible apply And.intro)|((first|(refine hK _ ?_;clear hK K)|with_reducible intro K hK|refine Rs.p ?_|((with_reducible first|apply oP|apply oQ);exact rfl)|(refine cr hX hC hP (QV) rfl rfl rfl ?_ ?_ rfl ?_;iterate 2 (focus (simp only [go_sem,simprocAttr,hb,qg];done))));try simp only [go_sem,simprocAttr,hb,qg])|((with_reducible refine oD ?_ ?_);kernel_rfl)|((with_reducible intro h);try simp only [go_sem,simprocAttr,hb,qg] at h)|omega|intro h)
   refine ⟨k+1,by omega, ?_,by omega⟩
   rw [dN]
   refine Le.of ?_ ?_<;>simp [go_sem,simprocAttr,hb,qg,rU]
  ·have hb:decide ((k:Int)<g.n)=false:=decide_eq_false (by omega)
   obtain rfl:k=g.n.toNat:=by omega
   repeat' (first|refine Rn.p ?_|(with_reducible apply And.intro)|((first|(refine hK _ ?_;clear hK K)|with_reducible intro K hK|refine Rs.p ?_|((with_reducible first|apply oP|apply oQ);exact rfl));try simp only [go_sem,simprocAttr,hb])|((with_reducible refine oD ?_ ?_);kernel_rfl)|((with_reducible intro h);try simp only [go_sem,simprocAttr,hb] at h)|omega|intro h)
theorem OF {a b:Nat} :(!decide ((a:Int)=(b:Int)))=decide (a≠b):=by
 by_cases h:a=b
 ·simp [h]
 ·simp [h];omega
theorem GA {g:Gr} (hn:g.n.toNat≤64) (both:Bool) (c:Nat→Bool):∃M:Nat,∀b:List Nat,CV g both c b→tF b≤M:=
 ⟨_,fun b hb=>by have:=yH (a:=b) fun x=>hb.lt hn x;rw [hb.len] at this;exact this⟩
theorem sG {l:List Nat} :∀r∈l.map rU,∀x∈r,∃v,x=D.sc v:=by
 intro r hr x hx
 obtain ⟨y,_,rfl⟩:=List.mem_map.1 hr
 simp only [rU,List.mem_singleton] at hx
 exact ⟨_,hx⟩
theorem Cz {g:Gr} (hm:aK g=true) {both:Bool} {c:Nat→Bool} :CV g both c (iR g):=by
 have he:iR g=o5 g.n.toNat:=by unfold iR;rw [if_pos hm]
 have oc:∀x,x<g.n.toNat→(o5 g.n.toNat).getD x 0=2 ^ x:=fun x hx=>by simp [o5,List.getD_eq_getElem?_getD,List.getElem?_range hx]
 rw [he]
 refine ⟨tG,fun x hx=>by rw [oc x hx,Nat.testBit_two_pow_self],fun x y hx hb=> ?_⟩
 rw [oc x hx,Nat.testBit_two_pow] at hb
 have:x=y:=of_decide_eq_true hb
 subst this
 exact ⟨hx, .refl⟩
noncomputable def Sk (g:Gr):List Nat:=if aK g=true then zY g false (fun _=>true) else []
end Go.Ab
end
