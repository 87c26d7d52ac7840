/- A part of the proof. -/
import Derived.Test.YtjmaiddbinlooaaGreatL7P14
set_option linter.unusedSimpArgs false
set_option linter.unusedVariables false
section
namespace Go.Ab
open Go.Proofs
attribute [local congr] ACall.congr
set_option maxRecDepth 20000
set_option maxHeartbeats 8000000
theorem wP (g:Gr) (hm:aO g=true):Spec Tryz.prog 97 (Args [eG g]) [] (.tup [.d (vw g), .d (sI (bK g)),eB (oM g)]) []:=by
 have hn:=aT hm
 have hO:=eW g hm
 have hR:=zB g hm
 have hM:=fG g (by omega)
 rw [hm] at hM
 cases hok:oM g with
 |false=>
  rw [hok] at hR
  (refine Spec.intro (C:=T.cfg [] []) (rs:= [.t 2, .t 3, .t 4]) (T.aj _ _) Tryz.func97 rfl rfl Tryz.ntmps97 Tryz.results97 (by simp [AObj.isNest]) (by simp [AObj.isNest]) (by kernel_rfl) ?_;intro X hX hP hC aL aM vals hA;refine ⟨_,by simp,hA, ?_⟩;have af:X.P.follows .mixedOrders=true:=(by rw [hP];exact T.mixed);clear aL aM)
  repeat' (first|((first|((with_reducible (first|apply oA|apply oB));exact rfl;intro K hK)|(refine hK _ ?_;clear hK K)|((with_reducible (first|apply oG|apply oH));iterate 3 exact rfl)|((with_reducible apply oI);(iterate 2 exact rfl);intro K hK)|(with_reducible (first|apply wI|apply wJ|apply wK)));try simp only [go_sem,simprocAttr])|(with_reducible (first|apply oC|apply oJ|exact oK|apply wA|apply wB|apply wC hX hC|apply wD hX hC|apply wE hX hC af|apply wF hX hC af|apply wG|apply wH|apply And.intro))|((with_reducible refine oD ?_ ?_);kernel_rfl)|((with_reducible (first|apply oE|apply oF));(iterate 3 exact rfl);all_goals (intro h;first|(exact absurd h (by decide))|((try simp only [go_sem,simprocAttr] at h);(try with_reducible intro K hK);simp only [go_sem,simprocAttr])))|((first|((with_reducible apply wL);exact rfl)|((with_reducible apply wM);exact rfl));all_goals (try ((with_reducible intro h);first|(exact absurd h (by decide))|(try simp only [go_sem,simprocAttr] at h))))|omega|((first|refine aa hX hC hP (hO) rfl rfl rfl (by simp only [go_sem,simprocAttr]) rfl ?_|refine aa hX hC hP (hR) rfl rfl rfl (by simp only [go_sem,simprocAttr]) rfl ?_|refine aa hX hC hP (hM) rfl rfl rfl (by simp only [go_sem,simprocAttr]) rfl ?_);try simp only [go_sem,simprocAttr])|(intro h))
 |true=>
  rw [hok] at hR
  (refine Spec.intro (C:=T.cfg [] []) (rs:= [.t 2, .t 3, .t 4]) (T.aj _ _) Tryz.func97 rfl rfl Tryz.ntmps97 Tryz.results97 (by simp [AObj.isNest]) (by simp [AObj.isNest]) (by kernel_rfl) ?_;intro X hX hP hC aL aM vals hA;refine ⟨_,by simp,hA, ?_⟩;have af:X.P.follows .mixedOrders=true:=(by rw [hP];exact T.mixed);clear aL aM)
  repeat' (first|((first|((with_reducible (first|apply oA|apply oB));exact rfl;intro K hK)|(refine hK _ ?_;clear hK K)|((with_reducible (first|apply oG|apply oH));iterate 3 exact rfl)|((with_reducible apply oI);(iterate 2 exact rfl);intro K hK)|(with_reducible (first|apply wI|apply wJ|apply wK)));try simp only [go_sem,simprocAttr])|(with_reducible (first|apply oC|apply oJ|exact oK|apply wA|apply wB|apply wC hX hC|apply wD hX hC|apply wE hX hC af|apply wF hX hC af|apply wG|apply wH|apply And.intro))|((with_reducible refine oD ?_ ?_);kernel_rfl)|((with_reducible (first|apply oE|apply oF));(iterate 3 exact rfl);all_goals (intro h;first|(exact absurd h (by decide))|((try simp only [go_sem,simprocAttr] at h);(try with_reducible intro K hK);simp only [go_sem,simprocAttr])))|((first|((with_reducible apply wL);exact rfl)|((with_reducible apply wM);exact rfl));all_goals (try ((with_reducible intro h);first|(exact absurd h (by decide))|(try simp only [go_sem,simprocAttr] at h))))|omega|((first|refine aa hX hC hP (hO) rfl rfl rfl (by simp only [go_sem,simprocAttr]) rfl ?_|refine aa hX hC hP (hR) rfl rfl rfl (by simp only [go_sem,simprocAttr]) rfl ?_|refine aa hX hC hP (hM) rfl rfl rfl (by simp only [go_sem,simprocAttr]) rfl ?_);try simp only [go_sem,simprocAttr])|(intro h))
def mJ (g:Gr) (st:List Int) (x:Nat) (l:List Int):Nat→List Int
 |0=>st
 |j+1=>(mJ g st x l j).set x (max ((mJ g st x l j).getD x 0) ((mJ g st x l j).getD (kU g (l.getD j 0)).toNat 0+1))
def pZ (g:Gr):Nat→List Int
 |0=>List.replicate g.n.toNat 0
 |k+1=>mJ g (pZ g k) ((bK g).getD k 0).toNat (aD (fun e=>e.2) g.es g.es.length ((bK g).getD k 0)) (aD (fun e=>e.2) g.es g.es.length ((bK g).getD k 0)).length
def yp (g:Gr):List Int:=pZ g (bK g).length
theorem o5 {g:Gr} {st:List Int} {x:Nat} {l:List Int} :∀ {j:Nat},(mJ g st x l j).length=st.length
 |0=>rfl
 |j+1=>by rw [mJ,List.length_set,o5]
theorem qV {g:Gr} :∀ {k:Nat},(pZ g k).length=g.n.toNat
 |0=>by simp [pZ]
 |k+1=>by rw [pZ,o5,qV]
theorem wQ {g:Gr} {st:List Int} {x:Nat} {l:List Int} {B:Int} (hst:∀v,0≤st.getD v 0∧st.getD v 0≤B):∀ {j:Nat} (v:Nat),0≤(mJ g st x l j).getD v 0∧(mJ g st x l j).getD v 0≤B+j
 |0,v=>by have:=hst v;show 0≤st.getD v 0∧st.getD v 0≤B+(0:Nat);omega
 |j+1,v=>by
  have h1:=wQ hst (g:=g) (x:=x) (l:=l) (j:=j)
  have h2:=h1 v
  have h3:=h1 x
  have h4:=h1 (kU g (l.getD j 0)).toNat
  have:(mJ g st x l (j+1)).getD v 0=(mJ g st x l j).getD v 0∨(mJ g st x l (j+1)).getD v 0=max ((mJ g st x l j).getD x 0) ((mJ g st x l j).getD (kU g (l.getD j 0)).toNat 0+1):=by
   rw [mJ,List.getD_eq_getElem?_getD,List.getElem?_set]
   split
   ·rename_i e
    subst e
    split
    ·exact .inr rfl
    ·rename_i hl
     left
     rw [List.getD_eq_getElem?_getD,List.getElem?_eq_none (by omega)]
   ·left;rw [← List.getD_eq_getElem?_getD]
  omega
theorem qW {g:Gr} :∀ {k:Nat} (v:Nat),0≤(pZ g k).getD v 0∧(pZ g k).getD v 0≤(k*g.es.length:Nat)
 |0,v=>by
  have:(pZ g 0).getD v 0=0:=by
   rw [pZ,List.getD_eq_getElem?_getD,List.getElem?_replicate];split<;>rfl
  omega
 |k+1,v=>by
  have:=wQ (g:=g) (x:=((bK g).getD k 0).toNat) (l:=aD (fun e=>e.2) g.es g.es.length ((bK g).getD k 0)) (fun v=>qW (g:=g) (k:=k) v) (j:=(aD (fun e=>e.2) g.es g.es.length ((bK g).getD k 0)).length) v
  have hl:(aD (fun e=>e.2) g.es g.es.length ((bK g).getD k 0)).length≤g.es.length:=dH
  rw [pZ,Nat.add_mul]
  omega
theorem qw (g:Gr) (hm:aO g=true) (hok:oM g=true):Spec Tryz.prog 69 (Args [eG g]) [] (.tup [.d (sI (yp g)),eN 0]) []:=by
 have hn:=aT hm
 have hPa:=wP g hm
 rw [hok] at hPa
 have MK:=iN g hm
 have Ag:=Az hm
 have hall:=oN hm hok
 have IV:bK g=aJ g:=if_pos hok
 rw [← IV] at hall
 have ML:=lM hall
 have yq:List.replicate g.n.toNat [D.sc (.int .i64 0)]=(pZ g 0).map rI:=by rw [pZ,List.map_replicate];rfl
 (refine Spec.intro (C:=T.cfg [] []) (rs:= [.t 2, .t 3]) (T.aj _ _) Tryz.func69 rfl rfl Tryz.ntmps69 Tryz.results69 (by simp [AObj.isNest]) (by simp [AObj.isNest]) (by kernel_rfl) ?_;intro X hX hP hC aL aM vals hA;refine ⟨_,by simp,hA, ?_⟩;have af:X.P.follows .mixedOrders=true:=(by rw [hP];exact T.mixed);clear aL aM)
 repeat' (first|((first|((with_reducible (first|apply oA|apply oB));exact rfl;intro K hK)|(refine hK _ ?_;clear hK K)|((with_reducible (first|apply oG|apply oH));iterate 3 exact rfl)|((with_reducible apply oI);(iterate 2 exact rfl);intro K hK)|(with_reducible (first|apply wI|apply wJ|apply wK)));try simp only [go_sem,simprocAttr,yq])|(with_reducible (first|apply oC|apply oJ|exact oK|apply wA|apply wB|apply wC hX hC|apply wD hX hC|apply wE hX hC af|apply wF hX hC af|apply wG|apply wH|apply And.intro))|((with_reducible refine oD ?_ ?_);kernel_rfl)|((with_reducible (first|apply oE|apply oF));(iterate 3 exact rfl);all_goals (intro h;first|(exact absurd h (by decide))|((try simp only [go_sem,simprocAttr,yq] at h);(try with_reducible intro K hK);simp only [go_sem,simprocAttr,yq])))|((first|((with_reducible apply wL);exact rfl)|((with_reducible apply wM);exact rfl));all_goals (try ((with_reducible intro h);first|(exact absurd h (by decide))|(try simp only [go_sem,simprocAttr,yq] at h))))|omega|((first|refine aa hX hC hP (hPa) rfl rfl rfl (by simp only [go_sem,simprocAttr,yq]) rfl ?_);try simp only [go_sem,simprocAttr,yq])|(intro h))
 refine ah (fun k:Nat=>k≤(bK g).length) (fun k=>⟨[(1, .ptr 1 0),(4, .d (vw g)),(7, .ref 22),(23, .d (sI (bK g))),(24,eN (bK g).length),(25,eN k)], [(1, .box [eN g.n, .d (sE g.es)]),(22, .own 3 1 ((pZ g k).map rI))]⟩) (fun k=>(bK g).length - k) 0 (by omega) ?_ ?_
 ·refine Le.of ?_ ?_<;>simp [go_sem,simprocAttr]
 rintro k hk
 rcases Nat.lt_or_ge k (bK g).length with bF|yM
 rotate_left
 ·have hb:decide ((k:Int)<((bK g).length:Int))=false:=decide_eq_false (by omega)
  obtain rfl:k=(bK g).length:=by omega
  have hL:pZ g (bK g).length=yp g:=rfl
  rw [hL]
  repeat' (first|((first|((with_reducible (first|apply oA|apply oB));exact rfl;intro K hK)|(refine hK _ ?_;clear hK K)|((with_reducible (first|apply oG|apply oH));iterate 3 exact rfl)|((with_reducible apply oI);(iterate 2 exact rfl);intro K hK)|(with_reducible (first|apply wI|apply wJ|apply wK)));try simp only [go_sem,simprocAttr,hb])|(with_reducible (first|apply oC|apply oJ|exact oK|apply wA|apply wB|apply wC hX hC|apply wD hX hC|apply wE hX hC af|apply wF hX hC af|apply wG|apply wH|apply And.intro))|((with_reducible refine oD ?_ ?_);kernel_rfl)|((with_reducible (first|apply oE|apply oF));(iterate 3 exact rfl);all_goals (intro h;first|(exact absurd h (by decide))|((try simp only [go_sem,simprocAttr,hb] at h);(try with_reducible intro K hK);simp only [go_sem,simprocAttr,hb])))|((first|((with_reducible apply wL);exact rfl)|((with_reducible apply wM);exact rfl));all_goals (try ((with_reducible intro h);first|(exact absurd h (by decide))|(try simp only [go_sem,simprocAttr,hb] at h))))|omega|(intro h))
 have hb:decide ((k:Int)<((bK g).length:Int))=true:=decide_eq_true (by omega)
 have hx:=ML _ (aW (d:=0) bF)
 have NV:=MK ((bK g).getD k 0)
 rw [fA hx.1 hx.2] at NV
 have eV:pZ g (k+1)=mJ g (pZ g k) ((bK g).getD k 0).toNat (aD (fun e=>e.2) g.es g.es.length ((bK g).getD k 0)) (aD (fun e=>e.2) g.es g.es.length ((bK g).getD k 0)).length:=rfl
 have kV:(aD (fun e=>e.2) g.es g.es.length ((bK g).getD k 0)).length≤g.es.length:=dH
 have hmem:∀i∈aD (fun e=>e.2) g.es g.es.length ((bK g).getD k 0),0≤i∧i<g.es.length:=fun i hi=>(eu hi).1
 have hbd:=qW (g:=g) (k:=k)
 have hmul:k*g.es.length≤64*128:=Nat.mul_le_mul (by omega) (by omega)
 have hlk:=qV (g:=g) (k:=k)
 generalize aD (fun e=>e.2) g.es g.es.length ((bK g).getD k 0)=l at*
 generalize tQ:(bK g).getD k 0=xv at*
 obtain ⟨x,rfl⟩:∃x:Nat,xv=x:=⟨xv.toNat,by omega⟩
 rw [Int.toNat_natCast] at eV
 generalize pZ g k=st at*
 repeat' (first|((first|((with_reducible (first|apply oA|apply oB));exact rfl;intro K hK)|(refine hK _ ?_;clear hK K)|((with_reducible (first|apply oG|apply oH));iterate 3 exact rfl)|((with_reducible apply oI);(iterate 2 exact rfl);intro K hK)|(with_reducible (first|apply wI|apply wJ|apply wK)));try simp only [go_sem,simprocAttr,hb,tQ])|(with_reducible (first|apply oC|apply oJ|exact oK|apply wA|apply wB|apply wC hX hC|apply wD hX hC|apply wE hX hC af|apply wF hX hC af|apply wG|apply wH|apply And.intro))|((with_reducible refine oD ?_ ?_);kernel_rfl)|((with_reducible (first|apply oE|apply oF));(iterate 3 exact rfl);all_goals (intro h;first|(exact absurd h (by decide))|((try simp only [go_sem,simprocAttr,hb,tQ] at h);(try with_reducible intro K hK);simp only [go_sem,simprocAttr,hb,tQ])))|((first|((with_reducible apply wL);exact rfl)|((with_reducible apply wM);exact rfl));all_goals (try ((with_reducible intro h);first|(exact absurd h (by decide))|(try simp only [go_sem,simprocAttr,hb,tQ] at h))))|omega|((first|refine aa hX hC hP (NV) rfl rfl rfl (by simp only [go_sem,simprocAttr,hb,tQ]) rfl ?_);try simp only [go_sem,simprocAttr,hb,tQ])|(intro h))
 refine ah (fun j:Nat=>j≤l.length) (fun j=>⟨[(1, .ptr 1 0),(4, .d (vw g)),(7, .ref 22),(9,eN x),(23, .d (sI (bK g))),(24,eN (bK g).length),(25,eN k),(31, .d (sI l)),(32,eN l.length),(33,eN j)], [(1, .box [eN g.n, .d (sE g.es)]),(22, .own 3 1 ((mJ g st x l j).map rI))]⟩) (fun j=>l.length - j) 0 (by omega) ?_ ?_
 ·refine Le.of ?_ ?_<;>simp [go_sem,simprocAttr,mJ]
 rintro j hj
 rcases Nat.lt_or_ge j l.length with hjl|IN
 rotate_left
 ·have tR:decide ((j:Int)<(l.length:Int))=false:=decide_eq_false (by omega)
  obtain rfl:j=l.length:=by omega
  repeat' (first|((first|((with_reducible (first|apply oA|apply oB));exact rfl;intro K hK)|(refine hK _ ?_;clear hK K)|((with_reducible (first|apply oG|apply oH));iterate 3 exact rfl)|((with_reducible apply oI);(iterate 2 exact rfl);intro K hK)|(with_reducible (first|apply wI|apply wJ|apply wK)));try simp only [go_sem,simprocAttr,tR])|(with_reducible (first|apply oC|apply oJ|exact oK|apply wA|apply wB|apply wC hX hC|apply wD hX hC|apply wE hX hC af|apply wF hX hC af|apply wG|apply wH|apply And.intro))|((with_reducible refine oD ?_ ?_);kernel_rfl)|((with_reducible (first|apply oE|apply oF));(iterate 3 exact rfl);all_goals (intro h;first|(exact absurd h (by decide))|((try simp only [go_sem,simprocAttr,tR] at h);(try with_reducible intro K hK);simp only [go_sem,simprocAttr,tR])))|((first|((with_reducible apply wL);exact rfl)|((with_reducible apply wM);exact rfl));all_goals (try ((with_reducible intro h);first|(exact absurd h (by decide))|(try simp only [go_sem,simprocAttr,tR] at h))))|omega|(intro h))
  refine ⟨k+1,by omega, ?_,by omega⟩
  rw [eV]
  refine Le.of ?_ ?_<;>simp [go_sem,simprocAttr,tR]
 have tR:decide ((j:Int)<(l.length:Int))=true:=decide_eq_true (by omega)
 have hin:=hmem _ (aW (d:=0) hjl)
 have hj1:mJ g st x l (j+1)=(mJ g st x l j).set x (max ((mJ g st x l j).getD x 0) ((mJ g st x l j).getD (kU g (l.getD j 0)).toNat 0+1)):=rfl
 have F3:=o5 (g:=g) (st:=st) (x:=x) (l:=l) (j:=j)
 have Kh:=wQ (g:=g) (x:=x) (l:=l) (j:=j) hbd
 obtain ⟨e,he⟩:∃e:Nat,l.getD j 0=e:=⟨(l.getD j 0).toNat,by omega⟩
 obtain ⟨ht,_⟩:=dL hm (k:=e) (by omega)
 obtain ⟨t,yN⟩:∃t:Nat,(g.es.getD e (0,0)).1=t:=⟨(g.es.getD e (0,0)).1.toNat,by omega⟩
 have hte:(kU g (l.getD j 0)).toNat=t:=by rw [he];show ((g.es.getD e (0,0)).1).toNat=t;rw [yN];rfl
 rw [hte] at hj1
 have au:=Kh t
 have ak:=Kh x
 generalize mJ g st x l j=S1 at*
 repeat' (first|((first|((with_reducible (first|apply oA|apply oB));exact rfl;intro K hK)|(refine hK _ ?_;clear hK K)|((with_reducible (first|apply oG|apply oH));iterate 3 exact rfl)|((with_reducible apply oI);(iterate 2 exact rfl);intro K hK)|(with_reducible (first|apply wI|apply wJ|apply wK)));try simp only [go_sem,simprocAttr,tR,he,yN,F3,hlk,ag,fV])|(with_reducible (first|apply oC|apply oJ|exact oK|apply wA|apply wB|apply wC hX hC|apply wD hX hC|apply wE hX hC af|apply wF hX hC af|apply wG|apply wH|apply And.intro))|((with_reducible refine oD ?_ ?_);kernel_rfl)|((with_reducible (first|apply oE|apply oF));(iterate 3 exact rfl);all_goals (intro h;first|(exact absurd h (by decide))|((try simp only [go_sem,simprocAttr,tR,he,yN,F3,hlk,ag,fV] at h);(try with_reducible intro K hK);simp only [go_sem,simprocAttr,tR,he,yN,F3,hlk,ag,fV])))|((first|((with_reducible apply wL);exact rfl)|((with_reducible apply wM);exact rfl));all_goals (try ((with_reducible intro h);first|(exact absurd h (by decide))|(try simp only [go_sem,simprocAttr,tR,he,yN,F3,hlk,ag,fV] at h))))|omega|(intro h))
 refine ⟨j+1,by omega, ?_,by omega⟩
 rw [hj1]
 refine Le.of ?_ ?_<;>simp [go_sem,rI,ag]
end Go.Ab
end
section
namespace Go.Ab
open Go.Proofs
set_option maxRecDepth 10000
set_option linter.unusedSectionVars false
theorem vb {l:List Int} {i j:Nat} {a:Int} (hi:i<l.length):(l.set i a).getD j 0=if j=i then a else l.getD j 0:=by
 rw [List.getD_eq_getElem?_getD,List.getElem?_set]
 by_cases h:i=j
 ·subst h;rw [if_pos rfl,if_pos hi,if_pos rfl];rfl
 ·rw [if_neg h,if_neg (fun e=>h e.symm), ← List.getD_eq_getElem?_getD]
theorem p8 {g:Gr} {st:List Int} {x:Nat} {l:List Int} (hx:x<st.length) {v:Nat} (hv:v≠x):∀ {j:Nat},(mJ g st x l j).getD v 0=st.getD v 0
 |0=>rfl
 |j+1=>by rw [mJ,vb (by rw [o5];exact hx),if_neg hv];exact p8 hx hv
theorem yu {g:Gr} {st:List Int} {x:Nat} {l:List Int} (hx:x<st.length) (ht:∀e∈l,(kU g e).toNat≠x):∀ {j:Nat},j≤l.length→(st.getD x 0≤(mJ g st x l j).getD x 0)∧(∀i,i<j→st.getD (kU g (l.getD i 0)).toNat 0+1≤(mJ g st x l j).getD x 0)∧((mJ g st x l j).getD x 0=st.getD x 0∨∃i,i<j∧(mJ g st x l j).getD x 0=st.getD (kU g (l.getD i 0)).toNat 0+1)
 |0,_=>⟨Int.le_refl _,fun i hi=>by omega, .inl rfl⟩
 |j+1,hj=>by
  obtain ⟨h1,h2,h3⟩:=yu hx ht (g:=g) (l:=l) (j:=j) (by omega)
  have e1:(mJ g st x l (j+1)).getD x 0=max ((mJ g st x l j).getD x 0) (st.getD (kU g (l.getD j 0)).toNat 0+1):=by
   rw [mJ,vb (by rw [o5];exact hx),if_pos rfl,p8 hx (ht _ (aW (by omega)))]
  rw [e1]
  refine ⟨by omega,fun i hi=> ?_, ?_⟩
  ·by_cases hij:i=j
   ·subst hij;omega
   ·have:=h2 i (by omega);omega
  ·by_cases hc:(mJ g st x l j).getD x 0≤st.getD (kU g (l.getD j 0)).toNat 0+1
   ·exact .inr ⟨j,by omega,by omega⟩
   ·rcases h3 with h3|⟨i,hi,h3⟩
    ·exact .inl (by omega)
    ·exact .inr ⟨i,by omega,by omega⟩
structure MM (g:Gr) (st:List Int) (D:List Int):Prop where
 out:∀v:Nat,(v:Int)∉D→st.getD v 0=0
 up:∀i,i<g.es.length→hd g i∈D→st.getD (tl g i).toNat 0+1≤st.getD (hd g i).toNat 0
 why:∀v:Nat,(v:Int)∈D→st.getD v 0=0∨∃i,i<g.es.length∧hd g i=v∧st.getD v 0=st.getD (tl g i).toNat 0+1
theorem GC {g:Gr} (hm:aO g=true) (hok:oM g=true):∀ {k:Nat},k≤(bK g).length→MM g (pZ g k) ((bK g).take k)
 |0,_=>⟨fun v _=>by
    rw [pZ,List.getD_eq_getElem?_getD,List.getElem?_replicate];split<;>rfl,fun i _ h=>by simp at h,fun v h=>by simp at h⟩
 |k+1,hk=>by
  have ih:=GC hm hok (k:=k) (by omega)
  have IV:bK g=aJ g:=if_pos hok
  have hall:=oN hm hok
  rw [← IV] at hall
  have hx:=lM hall _ (aW (d:=0) (show k<(bK g).length by omega))
  have Ki:Ord g (bK g):=by rw [IV];exact (dY hm).2.1
  have w6:(bK g).take (k+1)=(bK g).take k++ [(bK g).getD k 0]:=by
   rw [List.take_add_one,List.getD_eq_getElem?_getD,List.getElem?_eq_getElem (by omega)];rfl
  have Bx:(bK g).getD k 0∉(bK g).take k:=fun hm2=>by
   obtain ⟨r,hr,e⟩:=List.mem_iff_getElem.1 hm2
   rw [List.length_take] at hr
   rw [List.getElem_take] at e
   have:=iM hall (i:=r) (j:=k) (by omega) (by omega) (by rw [← e,List.getD_eq_getElem?_getD,List.getElem?_eq_getElem (by omega)];rfl)
   omega
  have hlen:=qV (g:=g) (k:=k)
  have jy:∀q,q≤(bK g).length→∀i,i<g.es.length→hd g i∈(bK g).take q→tl g i∈(bK g).take q:=fun q hq i hi hh=>by
   obtain ⟨r,hr,e⟩:=List.mem_iff_getElem.1 hh
   rw [List.length_take] at hr
   rw [List.getElem_take] at e
   have:=Ki r (by omega) i hi (by rw [List.getD_eq_getElem?_getD,List.getElem?_eq_getElem (by omega)];exact e.symm)
   exact (List.take_sublist_take_left (by omega)).subset this
  have MN:∀i,i<g.es.length→hd g i=(bK g).getD k 0→tl g i∈(bK g).take k:=fun i hi hh=>Ki k (by omega) i hi hh
  generalize tQ:(bK g).getD k 0=xv at*
  obtain ⟨x,rfl⟩:∃x:Nat,xv=x:=⟨xv.toNat,by omega⟩
  have eV:pZ g (k+1)=mJ g (pZ g k) x (aD (fun e=>e.2) g.es g.es.length (x:Int)) (aD (fun e=>e.2) g.es g.es.length (x:Int)).length:=by
   rw [pZ,tQ,Int.toNat_natCast]
  have hxl:x<(pZ g k).length:=by omega
  have hl:∀e,e∈aD (fun e=>e.2) g.es g.es.length (x:Int)↔(0≤e∧e<g.es.length)∧tS g e=x:=fun e=>bV
  have hne:∀y,y∈(bK g).take k→y≠(x:Int):=fun y hy e=>Bx (e ▸ hy)
  have htr:=fun i (hi:i<g.es.length)=>bG hm hi
  have PJ:=fun i (hi:i<g.es.length)=>b8 hm hi
  have Aw:=yu (g:=g) (st:=pZ g k) (x:=x) (l:=aD (fun e=>e.2) g.es g.es.length (x:Int)) hxl (fun e he=>by
   obtain ⟨h1,h2⟩:=(hl e).1 he
   have h3:=hne _ (MN e.toNat (by omega) h2)
   have h4:=htr e.toNat (by omega)
   have h5:kU g e=tl g e.toNat:=rfl
   rw [h5];omega) (Nat.le_refl _)
  have zK:∀v:Nat,v≠x→(pZ g (k+1)).getD v 0=(pZ g k).getD v 0:=fun v hv=>by rw [eV];exact p8 hxl hv
  rw [← eV] at Aw
  obtain ⟨s1,s2,s3⟩:=Aw
  have hx0:=ih.out x Bx
  rw [w6]
  refine ⟨fun v hv=> ?_,fun i hi hh=> ?_,fun v hv=> ?_⟩
  ·rw [List.mem_append,List.mem_singleton] at hv
   rw [zK v (fun e=>hv (.inr (by rw [e]))),ih.out v (fun h=>hv (.inl h))]
  ·have t1:=htr i hi
   have t2:=PJ i hi
   rw [List.mem_append,List.mem_singleton] at hh
   rcases hh with hh|hh
   ·have n1:=hne _ hh
    have n2:=hne _ (jy k (by omega) i hi hh)
    rw [zK _ (by omega),zK _ (by omega)]
    exact ih.up i hi hh
   ·have n2:=hne _ (MN i hi hh)
    obtain ⟨q,hq,e⟩:=List.mem_iff_getElem.1 ((hl (i:Int)).2 ⟨by omega,hh⟩)
    have h3:=s2 q hq
    have e2:(aD (fun e=>e.2) g.es g.es.length (x:Int)).getD q 0=(i:Int):=by rw [List.getD_eq_getElem?_getD,List.getElem?_eq_getElem hq];exact e
    rw [e2] at h3
    rw [zK _ (by omega),hh,Int.toNat_natCast]
    exact h3
  ·rw [List.mem_append,List.mem_singleton] at hv
   by_cases MO:v=x
   ·subst MO
    rcases s3 with s3|⟨q,hq,s3⟩
    ·exact .inl (s3.trans hx0)
    ·right
     obtain ⟨h1,h2⟩:=(hl _).1 (aW (d:=0) hq)
     have n2:=hne _ (MN _ (by omega) h2)
     have t1:=htr ((aD (fun e=>e.2) g.es g.es.length (v:Int)).getD q 0).toNat (by omega)
     refine ⟨((aD (fun e=>e.2) g.es g.es.length (v:Int)).getD q 0).toNat,by omega,h2, ?_⟩
     rw [s3,zK _ (by omega)];rfl
   ·have Bj:(v:Int)∈(bK g).take k:=hv.resolve_right (fun e=>MO (by omega))
    rw [zK v MO]
    rcases ih.why v Bj with h1|⟨i,hi,h1,h2⟩
    ·exact .inl h1
    ·right
     have n2:=hne _ (jy k (by omega) i hi (by rw [h1];exact Bj))
     have t1:=htr i hi
     exact ⟨i,hi,h1,by rw [h2,zK _ (by omega)]⟩
theorem HX {g:Gr} (hm:aO g=true) (hok:oM g=true):(yp g).length=g.n.toNat∧(∀v:Nat,0≤(yp g).getD v 0)∧(∀i,i<g.es.length→(yp g).getD (tl g i).toNat 0+1≤(yp g).getD (hd g i).toNat 0)∧
 ∀v:Nat,v<g.n.toNat→(yp g).getD v 0=0∨∃i,i<g.es.length∧hd g i=v∧(yp g).getD v 0=(yp g).getD (tl g i).toNat 0+1:=by
 have h1:=GC hm hok (Nat.le_refl (bK g).length)
 rw [List.take_length] at h1
 have IV:bK g=aJ g:=if_pos hok
 have hall:=oN hm hok
 rw [← IV] at hall
 have hin:∀x:Nat,x<g.n.toNat→(x:Int)∈bK g:=fun x hx=>by
  simp only [jS,Bool.and_eq_true,List.all_eq_true,List.mem_range,decide_eq_true_eq] at hall
  exact hall.2 x hx
 refine ⟨qV,fun v=>(qW v).1,fun i hi=>h1.up i hi ?_,fun v hv=>h1.why v (hin v hv)⟩
 have:=b8 hm hi
 have:=hin (hd g i).toNat (by omega)
 rwa [show (((hd g i).toNat:Nat):Int)=hd g i by omega] at this
end Go.Ab
end
section
namespace Go.Ab
set_option maxRecDepth 10000
set_option linter.unusedSectionVars false
variable {P:PS}
structure PS.Hi (P:PS) (R:Int→Int) (f0 f1:Int) (hi:Int→Int):Prop where
 mid:∀ {x u a b v},P.ins x=u++a::b::v→hi (R a)=x
 h0:hi f0=P.Hy
 h1:hi f1=P.Hy
def PS.K7 (P:PS) (a:Int):Prop:=∃x u b v,P.outs x=u++a::b::v
section
variable (h:P.Ok) {L R:Int→Int} {f0 f1:Int} {low:Int→Int} (F:P.iE L R f0 f1 low)
include h F
theorem PS.Hi.Cq {hi:Int→Int} (H:P.Hi R f0 f1 hi):P.Cq.Hi L f1 f0 hi:=
 {mid:=fun {x u a b v} e=>by
   have e:=iw (show (P.ins x).reverse=_ from e)
   rw [← F.vS e];exact H.mid e
  h0:=H.h1
  h1:=H.h0}
theorem ve {e:Int} (he:P.E e) (hs:P.tl e≠P.src):P.ins (P.tl e)≠ []:=by
 obtain ⟨i,hi,rfl⟩:=mA h he
 obtain ⟨k,hr⟩:=pM h (Nat.le_of_lt hi)
 obtain ⟨B,hB⟩:=jc h hi
 have hm:=(h.eS hr (P.sh i)).1 (by rw [hB];simp)
 obtain ⟨j,B,_,_,_,⟨u,hu⟩,_⟩:=uB h F hs (Nat.le_of_lt hi) hm.2.1
 rw [hu];simp
variable {L' R':Int→Int} {NW NX:Int} {low':Int→Int} (F':P.iE L' R' NW NX low')
include F'
theorem Eb:∀ {d:Nat} {e:Int},P.EZ (P.tl e)<d→P.E e→(R e=f1∧R' e=NX)∨∃a,P.K7 a∧P.EZ (P.tl a)≤P.EZ (P.tl e)∧R e=R a∧R' e=R' a
 |0,e,hd,_=>by omega
 |d+1,e,hd,he=>by
  have hem:=(h.jI (P.tl e) e).2 ⟨he,rfl⟩
  obtain ⟨u,v,hu⟩:=List.append_of_mem hem
  cases v with
  |cons b v=>exact .inr ⟨e,⟨_,u,b,v,hu⟩,Nat.le_refl _,rfl,rfl⟩
  |nil=>
   by_cases hs:P.tl e=P.src
   ·rw [hs] at hu
    exact .inl ⟨F.s1 hu,F'.s1 hu⟩
   ·obtain ⟨w,c,hw⟩:=c8 (ve h F he hs)
    have e1:=F.E3 hw hu
    have e2:=F'.E3 hw hu
    obtain ⟨hc,hh⟩:=(h.dO (P.tl e) c).1 (by rw [hw];simp)
    have hp:=h.pJ c hc
    rw [hh] at hp
    rw [← e1, ← e2]
    rcases Eb (d:=d) (e:=c) (by omega) hc with h1|⟨a,h1,h2,h3⟩
    ·exact .inl h1
    ·exact .inr ⟨a,h1,by omega,h3⟩
theorem GD:∀ {d:Nat} {e:Int},P.EZ (P.tl e)<d→P.E e→(L e=f0∧L' e=NW)∨∃a,P.K7 a∧L e=R a∧L' e=R' a
 |0,e,hd,_=>by omega
 |d+1,e,hd,he=>by
  have hem:=(h.jI (P.tl e) e).2 ⟨he,rfl⟩
  obtain ⟨u,v,hu⟩:=List.append_of_mem hem
  rcases List.eq_nil_or_concat u with rfl|⟨u',b,rfl⟩
  ·by_cases hs:P.tl e=P.src
   ·rw [hs] at hu
    exact .inl ⟨F.s0 hu,F'.s0 hu⟩
   ·obtain ⟨c,w,hw⟩:=jb (ve h F he hs)
    have e1:=F.fst hw hu
    have e2:=F'.fst hw hu
    obtain ⟨hc,hh⟩:=(h.dO (P.tl e) c).1 (by rw [hw];simp)
    have hp:=h.pJ c hc
    rw [hh] at hp
    rw [← e1, ← e2]
    exact GD (d:=d) (e:=c) (by omega) hc
  ·have hu:P.outs (P.tl e)=u'++b::e::v:=by rw [hu];simp
   exact .inr ⟨b,⟨_,u',e,v,hu⟩,(F.gZ hu).symm,(F'.gZ hu).symm⟩
end
section
variable (h:P.Ok) {L R:Int→Int} {f0 f1:Int} {low:Int→Int} (F:P.iE L R f0 f1 low)
include h F
variable {hi:Int→Int} (H:P.Hi R f0 f1 hi)
include H
end
def MP (t h:Int→Int) (l:List Int) (x:Int):Int:=match l.find? (fun i=>decide (t i=x)) with
 |some i=>h i
 |none=>x
def MQ (t h:Int→Int) (l:List Int) (x:Int):Nat→Int
 |0=>x
 |k+1=>MP t h l (MQ t h l x k)
section
variable (h:P.Ok) {L R:Int→Int} {f0 f1:Int} {low:Int→Int} (F:P.iE L R f0 f1 low) {hi:Int→Int} (H:P.Hi R f0 f1 hi)
include h F H
end
end Go.Ab
end
section
namespace Go.Ab
open Go.Proofs
set_option maxRecDepth 10000
set_option linter.unusedSectionVars false
section
variable (g:Gr) (p:Pl)
def cK:Nat→Nat
 |0=>1
 |k+1=>cK k+((bB p (aq p k)).length - 1)
def HY (e:Int):Nat:=(bB p (kU g e)).findIdx (fun i=>decide (i=e))
def eO (x:Int):Int:=(cE g p x).headD 0
def mU (x:Int):Int:=(cE g p x).getLastD 0
def LK:Nat→Int→Int
 |0,_=>0
 |k+1,e=>if kU g e=aq p k then (if HY g p e=0 then (if k=0 then 0 else LK k (eO g p (aq p k))) else (cK p k:Int)+HY g p e - 1) else LK k e
def RK (r:Int):Nat→Int→Int
 |0,_=>0
 |k+1,e=>if kU g e=aq p k then (if HY g p e+1<(bB p (aq p k)).length then (cK p k:Int)+HY g p e else (if k=0 then r else RK r k (mU g p (aq p k)))) else RK r k e
def iQ:Nat→List Int
 |0=> [aq p 0]
 |k+1=>iQ k++List.replicate ((bB p (aq p k)).length - 1) (aq p k)
end
section
variable {g:Gr} {p:Pl}
theorem gJ:∀ {k:Nat},(iQ p k).length=cK p k
 |0=>rfl
 |k+1=>by rw [iQ,List.length_append,List.length_replicate,gJ,cK]
theorem p9:∀ {k:Nat},0<cK p k
 |0=>by simp [cK]
 |k+1=>by rw [cK];have:= @p9 k;omega
theorem qX {k:Nat} :∀ {d:Nat},cK p k≤cK p (k+d)
 |0=>Nat.le_refl _
 |d+1=>by
  have:= @qX k d
  show _≤cK p (k+d+1)
  rw [cK];omega
theorem vf {k:Nat} {f:Nat} (hf:f<cK p k):∀ {d:Nat},(iQ p (k+d)).getD f 0=(iQ p k).getD f 0
 |0=>rfl
 |d+1=>by
  show (iQ p (k+d+1)).getD f 0=_
  have:=qX (p:=p) (k:=k) (d:=d)
  rw [iQ,List.getD_eq_getElem?_getD,List.getElem?_append_left (by rw [gJ];omega), ← List.getD_eq_getElem?_getD,vf hf]
theorem Ec {k f:Nat} (h1:cK p k≤f) (h2:f<cK p (k+1)):(iQ p (k+1)).getD f 0=aq p k:=by
 rw [iQ,List.getD_eq_getElem?_getD,List.getElem?_append_right (by rw [gJ];exact h1),List.getElem?_replicate,gJ,if_pos (by rw [cK] at h2;omega)]
 rfl
variable (h:cC g p)
include h
theorem nO {k:Nat} (hk:k<g.n.toNat) {u v:List Int} {e:Int} (he:bB p (aq p k)=u++e::v):kU g e=aq p k∧HY g p e=u.length:=by
 have hx:=aR h.2.1 hk
 have px:=bH h.2.1 hx.1 hx.2
 have h1:=(bV.1 (px.mem_iff.1 (show e∈bB p (aq p k) by rw [he];simp))).2
 have h1:kU g e=aq p k:=h1
 refine ⟨h1, ?_⟩
 have cI:(bB p (aq p k)).Nodup:=px.nodup_iff.2 bU
 unfold HY
 rw [h1,he]
 rw [he,List.nodup_append] at cI
 rw [List.findIdx_append]
 have h2:u.findIdx (fun i=>decide (i=e))=u.length:=by
  rw [List.findIdx_eq_length]
  intro i hi
  exact decide_eq_false fun e2=>cI.2.2 i hi e (by simp) e2
 rw [h2,if_neg (by omega)]
 simp [List.findIdx_cons]
theorem AI {e:Int} {k:Nat} (hk:k<g.n.toNat) (he:kU g e=aq p k):∀ {d:Nat},k+1+d≤g.n.toNat→LK g p (k+1+d) e=LK g p (k+1) e
 |0,_=>rfl
 |d+1,hd=>by
  show LK g p (k+1+d+1) e=_
  rw [LK,if_neg (fun e2=>by have:=dP h.2.1 hk (show k+1+d<g.n.toNat by omega) (he.symm.trans e2);omega),AI hk he (by omega)]
theorem AJ {r:Int} {e:Int} {k:Nat} (hk:k<g.n.toNat) (he:kU g e=aq p k):∀ {d:Nat},k+1+d≤g.n.toNat→RK g p r (k+1+d) e=RK g p r (k+1) e
 |0,_=>rfl
 |d+1,hd=>by
  show RK g p r (k+1+d+1) e=_
  rw [RK,if_neg (fun e2=>by have:=dP h.2.1 hk (show k+1+d<g.n.toNat by omega) (he.symm.trans e2);omega),AJ hk he (by omega)]
theorem lS {e:Int} {k:Nat} (hk:k<g.n.toNat) (he:kU g e=aq p k) {j:Nat} (h1:k+1≤j) (h2:j≤g.n.toNat):LK g p j e=LK g p (k+1) e:=by
 obtain ⟨d,rfl⟩:=Nat.exists_eq_add_of_le h1
 exact AI h hk he h2
theorem gP {r:Int} {e:Int} {k:Nat} (hk:k<g.n.toNat) (he:kU g e=aq p k) {j:Nat} (h1:k+1≤j) (h2:j≤g.n.toNat):RK g p r j e=RK g p r (k+1) e:=by
 obtain ⟨d,rfl⟩:=Nat.exists_eq_add_of_le h1
 exact AJ h hk he h2
theorem wR {k:Nat} (hk:k<g.n.toNat) {v:List Int} {e:Int} (he:bB p (aq p k)=e::v) {j:Nat} (h1:k+1≤j) (h2:j≤g.n.toNat):LK g p j e=if k=0 then 0 else LK g p k (eO g p (aq p k)):=by
 obtain ⟨a,b⟩:=nO h hk (u:= []) he
 rw [lS h hk a h1 h2,LK,if_pos a,if_pos (show HY g p e=0 from b)]
theorem AK {k:Nat} (hk:k<g.n.toNat) {u v:List Int} {e:Int} (he:bB p (aq p k)=u++e::v) (hu:u≠ []) {j:Nat} (h1:k+1≤j) (h2:j≤g.n.toNat):LK g p j e=(cK p k:Int)+u.length - 1:=by
 obtain ⟨a,b⟩:=nO h hk he
 have:=List.length_pos_iff.2 hu
 rw [lS h hk a h1 h2,LK,if_pos a,if_neg (by omega),b]
theorem tC {r:Int} {k:Nat} (hk:k<g.n.toNat) {u:List Int} {e:Int} (he:bB p (aq p k)=u++ [e]) {j:Nat} (h1:k+1≤j) (h2:j≤g.n.toNat):RK g p r j e=if k=0 then r else RK g p r k (mU g p (aq p k)):=by
 obtain ⟨a,b⟩:=nO h hk he
 rw [gP h hk a h1 h2,RK,if_pos a,if_neg (by rw [b,he];simp)]
theorem ji {r:Int} {k:Nat} (hk:k<g.n.toNat) {u v:List Int} {e c:Int} (he:bB p (aq p k)=u++e::c::v) {j:Nat} (h1:k+1≤j) (h2:j≤g.n.toNat):RK g p r j e=(cK p k:Int)+u.length:=by
 obtain ⟨a,b⟩:=nO h hk he
 rw [gP h hk a h1 h2,RK,if_pos a,if_pos (by rw [b,he];simp),b]
theorem qa {x:Int} {a:Int} {u:List Int} (hu:cE g p x=a::u):eO g p x=a:=by unfold eO;rw [hu];rfl
theorem lT {x:Int} {a:Int} {u:List Int} (hu:cE g p x=u++ [a]):mU g p x=a:=by unfold mU;rw [hu];simp
theorem AL {k:Nat} (hk:k<g.n.toNat) (hI:cE g p (aq p k)≠ []):k≠0:=fun h0=>by
 subst h0
 have:=j0 h (aR h.2.1 hk)
 rw [gv h] at this
 exact hI (List.eq_nil_of_length_eq_zero this)
theorem yw {k:Nat} (hk:k<g.n.toNat) {a:Int} (ha:a∈cE g p (aq p k)):∃j,j<k∧kU g a=aq p j:=by
 obtain ⟨h1,h2⟩:=((lR h (aR h.2.1 hk)).2 a).1 ha
 obtain ⟨j,h3,h4⟩:=tA h h1 hk h2
 exact ⟨j,h3,h4.symm⟩
def WK (g:Gr) (p:Pl) (k:Nat):List Int:=(js (fK g p k).row).map (·.1)
theorem tD (hn:0<g.n.toNat):WK g p 1=bB p (aq p 0):=by
 have hx:=aR h.2.1 hn
 have px:=bH h.2.1 hx.1 hx.2
 have hno:fM (aq p 0) (fK g p 0).row:=fun t ht=>by cases ht
 have hf:(fK g p 1).row=aX g (aq p 0) (bB p (aq p 0)):=by
  show (aF g (fK g p 0) (aq p 0) _).2.row=_
  rw [mB _ hno]
  show _++ []=_
  simp
 unfold WK
 rw [hf,mG (fun i hi=>(bV.1 (px.mem_iff.1 hi)).1.1),List.map_map]
 have e7:((fun t:It=>t.1) ∘ je g (aq p 0))=id:=rfl
 rw [e7,List.map_id]
theorem mH {k:Nat} (h0:k≠0) (hk:k<g.n.toNat):∃A C,WK g p k=A++cE g p (aq p k)++C∧cE g p (aq p k)≠ []∧WK g p (k+1)=A++bB p (aq p k)++C:=by
 have hm:=aC h.1
 obtain ⟨hi,gM,_⟩:=dQ hm h.2.1 (k:=k) (by omega) fun j hj=>h.2.2 j (by omega)
 have hR:=h.2.2 k hk
 have hx:=aR h.2.1 hk
 have px:=bH h.2.1 hx.1 hx.2
 have hn:bE g (aq p k)≠0:=fun hz=>by
  have PK:=aR h.2.1 (show 0<g.n.toNat by omega)
  have:=oQ h.1 hx PK hz (gv h)
  exact h0 (dP h.2.1 hk (by omega) this)
 obtain ⟨a,c,e1,_,_,_,hl,e2⟩:=wN hm hi.togV hR hn (bB p (aq p k))
 refine ⟨a.map (·.1),c.map (·.1), ?_, ?_, ?_⟩
 ·rw [AG h hk];unfold WK;rw [e1,List.map_append,List.map_append];rfl
 ·intro h1
  have:=j0 h hx
  rw [h1] at this
  exact hn this.symm
 ·unfold WK
  show (js (aF g (fK g p k) (aq p k) _).2.row).map (·.1)=_
  rw [e2,List.map_append,List.map_append,mG (fun i hi=>(bV.1 (px.mem_iff.1 hi)).1.1),List.map_map]
  have e7:((fun t:It=>t.1) ∘ je g (aq p k))=id:=rfl
  rw [e7,List.map_id]
theorem qY {k:Nat} (hk:k≤g.n.toNat) {a:Int} (ha:a∈WK g p k):∃j,j<k∧kU g a=aq p j:=by
 have hm:=aC h.1
 obtain ⟨hi,gM,_⟩:=dQ hm h.2.1 (k:=k) (by omega) fun j hj=>h.2.2 j (by omega)
 obtain ⟨t,ht,rfl⟩:=List.mem_map.1 ha
 obtain ⟨h1,h2,_⟩:=o4 hm hi.togV ht
 obtain ⟨h4,h5⟩:=jg.1 ht
 have:=hi.tail t h4 h5
 rw [gM,h2] at this
 obtain ⟨j,hj,e⟩:=AD (by rw [bP h.2.1];omega) this
 exact ⟨j,hj,e.symm⟩
theorem AM {r:Int} {k:Nat} (hk:k<g.n.toNat) {j:Nat} (h1:k+1≤j) (h2:j≤g.n.toNat):iF (LK g p j) (RK g p r j) (if k=0 then 0 else LK g p k (eO g p (aq p k))) (bB p (aq p k)):=by
 refine sJ (fun u a b v e=> ?_) fun a u e=>wR h hk e h1 h2
 rw [ji h hk e h1 h2,AK h hk (u:=u++ [a]) (v:=v) (e:=b) (by rw [e];simp) (by simp) h1 h2]
 simp;omega
theorem AN {r:Int} {k:Nat} (hk:k<g.n.toNat) {j:Nat} (h1:k+1≤j) (h2:j≤g.n.toNat) (hO:bB p (aq p k)≠ []) (f:Int):jm (RK g p r j) f (bB p (aq p k))=if k=0 then r else RK g p r k (mU g p (aq p k)):=by
 obtain ⟨v,b,hv⟩:=c8 hO
 rw [hv,fh,tC h hk hv h1 h2]
theorem lU {L R L' R':Int→Int} :∀ {W:List Int} {f:Int},(∀a∈W,L a=L' a∧R a=R' a)→(iF L R f W↔iF L' R' f W)
 | [],_,_=>Iff.rfl
 |a::W,f,hh=>by
  have h1:=hh a (List.mem_cons_self ..)
  simp only [iF,h1.1,h1.2,lU (W:=W) fun b hb=>hh b (List.mem_cons_of_mem _ hb)]
theorem tE {R R':Int→Int} :∀ {W:List Int} {f:Int},(∀a∈W,R a=R' a)→jm R f W=jm R' f W
 | [],_,_=>rfl
 |a::W,f,hh=>by
  simp only [jm,hh a (List.mem_cons_self ..),tE (W:=W) fun b hb=>hh b (List.mem_cons_of_mem _ hb)]
theorem zL {r:Int} (hI:pn g=true):∀ {k:Nat},1≤k→k<g.n.toNat→WK g p k≠ []→iF (LK g p k) (RK g p r k) 0 (WK g p k)∧jm (RK g p r k) 0 (WK g p k)=r
 |0,h1,_,_=>by omega
 |k+1,_,hk,hW=>by
  by_cases h0:k=0
  ·subst h0
   rw [tD h (by omega)] at hW ⊢
   have a:=AM (r:=r) h (k:=0) (by omega) (j:=1) (Nat.le_refl _) (by omega)
   have b:=AN (r:=r) h (k:=0) (by omega) (j:=1) (Nat.le_refl _) (by omega) hW 0
   rw [if_pos rfl] at a b
   exact ⟨a,b⟩
  ·obtain ⟨A,C,e1,hne,e2⟩:=mH h h0 (show k<g.n.toNat by omega)
   obtain ⟨l1,l2⟩:=zL hI (k:=k) (by omega) (by omega) (by rw [e1];simp [hne])
   have hO:bB p (aq p k)≠ []:=fun h1=>by
    have:=(eM h hI (aR h.2.1 (show k<g.n.toNat by omega))).1 h1
    have:=dP h.2.1 (show k<g.n.toNat by omega) (by omega) this
    omega
   have AO:∀a∈WK g p k,LK g p (k+1) a=LK g p k a∧RK g p r (k+1) a=RK g p r k a:=fun a ha=>by
    obtain ⟨j,hj,e⟩:=qY h (by omega) ha
    exact ⟨by rw [lS h (by omega) e (j:=k+1) (by omega) (by omega),lS h (by omega) e (j:=k) (by omega) (by omega)],by rw [gP h (by omega) e (j:=k+1) (by omega) (by omega),gP h (by omega) e (j:=k) (by omega) (by omega)]⟩
   rw [← lU h AO] at l1
   rw [← tE h fun a ha=>(AO a ha).2] at l2
   rw [e1] at l1 l2 AO
   rw [e2]
   obtain ⟨a0,u0,Dp⟩:=jb hne
   obtain ⟨u,a,hu⟩:=c8 hne
   obtain ⟨l3,l5⟩:=cu.1 l1
   obtain ⟨l4,l6⟩:=cu.1 l3
   have PL:LK g p (k+1) a0=jm (RK g p r (k+1)) 0 A:=by rw [Dp] at l6;exact l6.1
   have JU:∀f,jm (RK g p r (k+1)) f (cE g p (aq p k))=RK g p r k (mU g p (aq p k)):=fun f=>by
    rw [lT h hu,hu,fh,(AO a (by rw [hu];simp)).2]
   have hlk:=AM (r:=r) h (k:=k) (by omega) (j:=k+1) (Nat.le_refl _) (by omega)
   have Kj:=AN (r:=r) h (k:=k) (by omega) (j:=k+1) (Nat.le_refl _) (by omega) hO
   rw [if_neg h0] at hlk Kj
   rw [qa h Dp, ← (AO a0 (by rw [Dp];simp)).1,PL] at hlk
   refine ⟨?_, ?_⟩
   ·rw [cu,cu,cz,Kj]
    rw [cz,JU] at l5
    exact ⟨⟨l4,hlk⟩,l5⟩
   ·rw [cz,cz,Kj]
    rw [cz,cz,JU] at l2
    exact l2
theorem nP (hI:pn g=true) {r:Int} (hr:r<0∨cK p g.n.toNat≤r):(jt g p).iE (LK g p g.n.toNat) (RK g p r g.n.toNat) 0 r (fun f=>(iQ p g.n.toNat).getD f.toNat 0):=by
 have hm:=aC h.1
 have hn:=aT hm
 have DG:∀ {x:Int} {l:List Int},(jt g p).outs x=l→l≠ []→∃k,k<g.n.toNat∧aq p k=x∧bB p (aq p k)=l:=fun {x l} h1 h2=>by
  by_cases hx:nN g x
  ·obtain ⟨k,hk,rfl⟩:=gA h.2.1 hx.1 hx.2
   exact ⟨k,hk,rfl,by rw [← h1,jh hx]⟩
  ·rw [oZ hx] at h1;exact absurd h1.symm h2
 have MR:∀ {x:Int} {l:List Int},(jt g p).ins x=l→l≠ []→∃k,k<g.n.toNat∧aq p k=x∧cE g p (aq p k)=l:=fun {x l} h1 h2=>by
  by_cases hx:nN g x
  ·obtain ⟨k,hk,rfl⟩:=gA h.2.1 hx.1 hx.2
   exact ⟨k,hk,rfl,by rw [← h1,kG hx]⟩
  ·rw [oW hx] at h1;exact absurd h1.symm h2
 have h0:(jt g p).src=aq p 0:=rfl
 have Jk:∀k,0<cK p k:=fun k=>p9
 exact {
  ne:=by have:=Jk g.n.toNat;omega
  gZ:=fun {x u a b v} e=>by
   obtain ⟨k,hk,_,e2⟩:=DG e (by simp)
   rw [ji h hk e2 (by omega) (Nat.le_refl _),AK h hk (u:=u++ [a]) (v:=v) (e:=b) (by rw [e2];simp) (by simp) (by omega) (Nat.le_refl _)]
   simp;omega
  vS:=fun {x u a b v} e=>by
   obtain ⟨k,hk,_,e2⟩:=MR e (by simp)
   have xx:=AL h hk (by rw [e2];simp)
   obtain ⟨A,C,e1,hne,_⟩:=mH h xx hk
   have l1:=(zL (r:=r) h hI (k:=k) (by omega) hk (by rw [e1];simp [hne])).1
   have AO:∀a∈WK g p k,LK g p g.n.toNat a=LK g p k a∧RK g p r g.n.toNat a=RK g p r k a:=fun a ha=>by
    obtain ⟨j,hj,e⟩:=qY h (by omega) ha
    exact ⟨by rw [lS h (by omega) e (j:=g.n.toNat) (by omega) (by omega),lS h (by omega) e (j:=k) (by omega) (by omega)],by rw [gP h (by omega) e (j:=g.n.toNat) (by omega) (by omega),gP h (by omega) e (j:=k) (by omega) (by omega)]⟩
   rw [← lU h AO,e1,e2,show A++(u++a::b::v)++C=(A++u)++a::b::(v++C) by simp] at l1
   exact Dn l1
  fst:=fun {x a u b v} e1 e2=>by
   obtain ⟨k,hk,hx,e3⟩:=DG e2 (by simp)
   have e4:cE g p (aq p k)=a::u:=by
    have Ct:nN g x:=by rw [← hx];exact aR h.2.1 hk
    rw [hx, ← kG Ct];exact e1
   have xx:=AL h hk (by rw [e4];simp)
   obtain ⟨j,hj,et⟩:=yw h hk (a:=a) (by rw [e4];simp)
   rw [wR h hk e3 (by omega) (Nat.le_refl _),if_neg xx,qa h e4,lS h (by omega) et (j:=g.n.toNat) (by omega) (Nat.le_refl _),lS h (by omega) et (j:=k) (by omega) (by omega)]
  E3:=fun {x a u b v} e1 e2=>by
   obtain ⟨k,hk,hx,e3⟩:=DG e2 (by simp)
   have e4:cE g p (aq p k)=u++ [a]:=by
    have Ct:nN g x:=by rw [← hx];exact aR h.2.1 hk
    rw [hx, ← kG Ct];exact e1
   have xx:=AL h hk (by rw [e4];simp)
   obtain ⟨j,hj,et⟩:=yw h hk (a:=a) (by rw [e4];simp)
   rw [tC h hk e3 (by omega) (Nat.le_refl _),if_neg xx,lT h e4,gP h (by omega) et (j:=g.n.toNat) (by omega) (Nat.le_refl _),gP h (by omega) et (j:=k) (by omega) (by omega)]
  s0:=fun {b v} e=>by
   obtain ⟨k,hk,hx,e3⟩:=DG e (by simp)
   have:k=0:=dP h.2.1 hk (by omega) hx
   rw [wR h hk e3 (by omega) (Nat.le_refl _),if_pos this]
  s1:=fun {b v} e=>by
   obtain ⟨k,hk,hx,e3⟩:=DG e (by simp)
   have:k=0:=dP h.2.1 hk (by omega) hx
   rw [tC h hk e3 (by omega) (Nat.le_refl _),if_pos this]
  new:=fun {x u a b v} e=>by
   obtain ⟨k,hk,hx,e3⟩:=DG e (by simp)
   have hR:=ji (r:=r) h hk e3 (j:=g.n.toNat) (by omega) (Nat.le_refl _)
   have hl:(bB p (aq p k)).length=u.length+(v.length+2):=by rw [e3];simp
   have DF:cK p (k+1)=cK p k+((bB p (aq p k)).length - 1):=rfl
   obtain ⟨d,hd⟩:=Nat.exists_eq_add_of_le (show k+1≤g.n.toNat by omega)
   have hmo:=qX (p:=p) (k:=k+1) (d:=d)
   rw [← hd] at hmo
   have:=Jk k
   refine ⟨?_,by omega,by omega⟩
   show (iQ p g.n.toNat).getD (RK g p r g.n.toNat a).toNat 0=x
   rw [hR,show ((cK p k:Int)+(u.length:Int)).toNat=cK p k+u.length by omega,hd,vf (by omega),Ec (by omega) (by omega),hx]
  new1:=fun {x u a b v u' a' b' v'} e1 e2 e3=>by
   obtain ⟨k,hk,hx,e4⟩:=DG e1 (by simp)
   have e5:bB p (aq p k)=u'++a'::b'::v':=by
    have Ct:nN g x:=by rw [← hx];exact aR h.2.1 hk
    rw [hx, ← jh Ct];exact e2
   rw [ji h hk e4 (by omega) (Nat.le_refl _),ji h hk e5 (by omega) (Nat.le_refl _)] at e3
   have hl:u.length=u'.length:=by omega
   rw [e4] at e5
   have:=(List.append_inj e5 hl).2
   simp only [List.cons.injEq] at this
   exact this.1}
end
end Go.Ab
end
section
namespace Go.Ab
open Go.Proofs
attribute [local congr] ACall.congr
set_option maxRecDepth 10000
set_option maxHeartbeats 8000000
def j3 (A o:List Int) (f:Nat→Int):Nat→List Int
 |0=>A
 |j+1=>(j3 A o f j).set (o.getD j 0).toNat (f j)
theorem gw {A o:List Int} {f:Nat→Int} :∀ {j:Nat},(j3 A o f j).length=A.length
 |0=>rfl
 |j+1=>by rw [j3,List.length_set,gw]
def mV (A o:List Int) (left:Int) (c:Nat) (j:Nat):List Int:=j3 A o (fun j=>if j=0 then left else (c:Int)+j - 1) j
def mW (A o:List Int) (right:Int) (c:Nat) (j:Nat):List Int:=j3 A o (fun j=>if j+1<o.length then (c:Int)+j else right) j
theorem B6 {A o:List Int} {left:Int} {c:Nat} {j:Nat} :(mV A o left c j).length=A.length:=gw
theorem B7 {A o:List Int} {left:Int} {c:Nat} {j:Nat} :(mW A o left c j).length=A.length:=gw
theorem vg {A o:List Int} {f:Nat→Int} {e:Nat} :∀ {j:Nat},(∀i,i<j→(o.getD i 0).toNat≠e)→(j3 A o f j).getD e 0=A.getD e 0
 |0,_=>rfl
 |j+1,h=>by
  have h1:=h j (by omega)
  rw [j3,List.getD_eq_getElem?_getD,List.getElem?_set,if_neg h1, ← List.getD_eq_getElem?_getD,vg fun i hi=>h i (by omega)]
theorem yx {A o:List Int} {f:Nat→Int} {i:Nat} (hA:(o.getD i 0).toNat<A.length):∀ {j:Nat},i<j→(∀k,k<j→(o.getD k 0).toNat=(o.getD i 0).toNat→k=i)→(j3 A o f j).getD (o.getD i 0).toNat 0=f i
 |0,h,_=>by omega
 |j+1,h,hn=>by
  rw [j3,List.getD_eq_getElem?_getD,List.getElem?_set]
  by_cases e:(o.getD j 0).toNat=(o.getD i 0).toNat
  ·have:=hn j (by omega) e
   subst this
   rw [if_pos rfl,if_pos (by rw [gw];exact hA)];rfl
  ·have hji:j≠i:=fun e2=>e (by rw [e2])
   rw [if_neg e, ← List.getD_eq_getElem?_getD,yx hA (by omega) fun k hk=>hn k (by omega)]
def fC (c k:Nat):List Int:=(List.range k).map fun i:Nat=>((c+i:Nat):Int)
theorem zM {c k:Nat} :fC c (k+1)=fC c k++ [((c+k:Nat):Int)]:=by simp [fC,List.range_succ]
theorem j4 {c k:Nat} :(fC c k).length=k:=by simp [fC]
def F4 (left:Int) (c d j:Nat):Int:=if min j (d - 1)=0 then left else (c:Int)+(min j (d - 1):Nat) - 1
def IW (ed gp:D) (A B lo hi:List Int):List (Nat × AObj):= [(10000, .box [.d ed, .d gp, .ref 10001, .ref 10002, .ref 10003, .ref 10004]),(10001, .own 3 1 (A.map rI)),(10002, .own 3 1 (B.map rI)),(10003, .tip 3 1 (lo.map rI)),(10004, .own 3 1 (hi.map rI))]
def IX (ed gp:D) (A B lo hi:List Int):List (Nat × AObj):= [(10000, .box [.d ed, .d gp, .ref 10001, .ref 10002, .ref 10005, .ref 10006]),(10001, .own 3 1 (A.map rI)),(10002, .own 3 1 (B.map rI)),(10005, .tip 3 1 (lo.map rI)),(10006, .own 3 1 (hi.map rI))]
theorem vh (x left right:Int) (o:List Int) (ed gp:D) (A B lo hi:List Int) (ho:o.length≤100000) (hO:∀i∈o,0≤i∧i<A.length) (hB:B.length=A.length) (hlo:lo.length≤100000) (hhi:hi.length≤100000):
 Spec Tryz.prog 52 (Args [.ptr 10000 0,eN x, .d (sI o),eN left,eN right]) (IW ed gp A B lo hi)
  (.d (sI (fC lo.length (o.length - 1)))) (IX ed gp (mV A o left lo.length o.length) (mW B o right lo.length o.length) (lo++List.replicate (o.length - 1) x) (hi++List.replicate (o.length - 1) 0)):=by
 unfold IW IX
 generalize hc:lo.length=c at*
 (refine Spec.dK (C:=T.cfg [] []) (rs:= [.t 10]) [(10005,200),(10006,201)] (T.aj _ _) Tryz.func52 rfl rfl Tryz.ntmps52 Tryz.results52 (by simp [AObj.isNest]) (by simp [AObj.isNest]) (by first|(simp [look];done)|(simp [asN];done)|(intro l hl;simp only [asN];repeat (rw [if_neg (fun e=>by subst e;simp [look] at hl)]))) (by first|(simp [look];done)|(simp [asN];done)|(intro l hl;simp only [asN];repeat (rw [if_neg (fun e=>by subst e;simp [look] at hl)]))) (by kernel_rfl) ?_;intro X hX hP hC aL aM vals hA;refine ⟨_,by simp,hA, ?_⟩;have af:X.P.follows .mixedOrders=true:=(by rw [hP];exact T.mixed);clear aL aM)
 repeat' (first|((first|((with_reducible (first|apply oA|apply oB));exact rfl;intro K hK)|(refine hK _ ?_;clear hK K)|((with_reducible (first|apply oG|apply oH));iterate 3 exact rfl)|((with_reducible apply oI);(iterate 2 exact rfl);intro K hK)|(with_reducible (first|apply wI|apply wJ|apply wK)));try simp only [go_sem,simprocAttr])|(show dw _ (.seq (.region 1 _ _) _) _ _;(refine ja hX 10 202 (.tip 3 1 []) (by simp only [go_sem,simprocAttr]) (by simp only [go_sem,simprocAttr]) (by decide) ⟨3,1,by decide, .inr rfl⟩ ?_;simp only [go_sem,simprocAttr]);(refine c7 hX 10000 4 10003 200 rfl rfl rfl (by first|exact .inl rfl|exact .inr rfl) (by decide) (by decide) ?_;simp only [LA.app,ASt.put,ASt.kill,subT,rmk,putM,rml,kl,AV.sub,AV.subs,AObj.sub,List.set_cons_zero,List.set_cons_succ,go_sem,simprocAttr]);(refine c7 hX 10000 5 10004 201 rfl rfl rfl (by first|exact .inl rfl|exact .inr rfl) (by decide) (by decide) ?_;simp only [LA.app,ASt.put,ASt.kill,subT,rmk,putM,rml,kl,AV.sub,AV.subs,AObj.sub,List.set_cons_zero,List.set_cons_succ,go_sem,simprocAttr]))|(with_reducible (first|apply oC|apply oJ|exact oK|apply wA|apply wB|apply wC hX hC|apply wD hX hC|apply wE hX hC af|apply wF hX hC af|apply wG|apply wH|apply And.intro))|((with_reducible refine oD ?_ ?_);kernel_rfl)|((with_reducible (first|apply oE|apply oF));(iterate 3 exact rfl);all_goals (intro h;first|(exact absurd h (by decide))|((try simp only [go_sem,simprocAttr] at h);(try with_reducible intro K hK);simp only [go_sem,simprocAttr])))|((first|((with_reducible apply wL);exact rfl)|((with_reducible apply wM);exact rfl));all_goals (try ((with_reducible intro h);first|(exact absurd h (by decide))|(try simp only [go_sem,simprocAttr] at h))))|omega|(intro h))
 refine ah (fun j:Nat=>j≤o.length) (fun j=>⟨[(0, .ptr 10000 0),(1,eN x),(2, .d (sI o)),(3,eN (F4 left c o.length j)),(4,eN right),(10, .ref 202),(13, .d (sI o)),(14,eN o.length),(15,eN j)], [(10000, .box [.d ed, .d gp, .ref 10001, .ref 10002, .ref 200, .ref 201]),(10001, .own 3 1 ((mV A o left c j).map rI)),(10002, .own 3 1 ((mW B o right c j).map rI)),(200, .tip 3 1 ((lo++List.replicate (min j (o.length - 1)) x).map rI)),(201, .own 3 1 ((hi++List.replicate (min j (o.length - 1)) 0).map rI)),(202, .tip 3 1 ((fC c (min j (o.length - 1))).map rI))]⟩) (fun j=>o.length - j) 0 (by omega) ?_ ?_
 ·refine Le.of ?_ ?_<;>simp [go_sem,simprocAttr,F4,mV,mW,j3,fC]
 rintro j hj
 rcases Nat.lt_or_ge j o.length with hjl|IN
 rotate_left
 ·have hb:decide ((j:Int)<(o.length:Int))=false:=decide_eq_false (by omega)
  obtain rfl:j=o.length:=by omega
  have hmin:min o.length (o.length - 1)=o.length - 1:=by omega
  rw [hmin]
  repeat' (first|((first|((with_reducible (first|apply oA|apply oB));exact rfl;intro K hK)|(refine hK _ ?_;clear hK K)|((with_reducible (first|apply oG|apply oH));iterate 3 exact rfl)|((with_reducible apply oI);(iterate 2 exact rfl);intro K hK)|(with_reducible (first|apply wI|apply wJ|apply wK)));try simp only [go_sem,simprocAttr,hb])|(with_reducible (first|apply oC|apply oJ|exact oK|apply wA|apply wB|apply wC hX hC|apply wD hX hC|apply wE hX hC af|apply wF hX hC af|apply wG|apply wH|apply And.intro))|((with_reducible refine oD ?_ ?_);kernel_rfl)|((with_reducible (first|apply oE|apply oF));(iterate 3 exact rfl);all_goals (intro h;first|(exact absurd h (by decide))|((try simp only [go_sem,simprocAttr,hb] at h);(try with_reducible intro K hK);simp only [go_sem,simprocAttr,hb])))|((first|((with_reducible apply wL);exact rfl)|((with_reducible apply wM);exact rfl));all_goals (try ((with_reducible intro h);first|(exact absurd h (by decide))|(try simp only [go_sem,simprocAttr,hb] at h))))|omega|(intro h))
 have hb:decide ((j:Int)<(o.length:Int))=true:=decide_eq_true (by omega)
 have hin:=hO _ (aW (d:=0) hjl)
 have jA:=B6 (A:=A) (o:=o) (left:=left) (c:=c) (j:=j)
 have j7:=B7 (A:=B) (o:=o) (left:=right) (c:=c) (j:=j)
 have HZ:mV A o left c (j+1)=(mV A o left c j).set (o.getD j 0).toNat (if j=0 then left else (c:Int)+j - 1):=rfl
 have GF:mW B o right c (j+1)=(mW B o right c j).set (o.getD j 0).toNat (if j+1<o.length then (c:Int)+j else right):=rfl
 have w5:min j (o.length - 1)=j:=by omega
 have hlf:F4 left c o.length j=if j=0 then left else (c:Int)+j - 1:=by unfold F4;rw [w5]
 rw [w5,hlf]
 generalize vi:o.getD j 0=v at hin HZ GF
 obtain ⟨i,rfl⟩:∃i:Nat,v=i:=⟨v.toNat,by omega⟩
 rw [Int.toNat_natCast] at HZ GF
 generalize (if j=0 then left else (c:Int)+j - 1)=lv at HZ hlf ⊢
 by_cases hj2:j+1<o.length
 ·have ak:decide ((j:Int)+1<(o.length:Int))=true:=decide_eq_true (by omega)
  have hm2:min (j+1) (o.length - 1)=j+1:=by omega
  rw [if_pos hj2] at GF
  have H6:F4 left c o.length (j+1)=((c+j:Nat):Int):=by unfold F4;rw [hm2,if_neg (by omega)];omega
  have kV:(lo++List.replicate j x).length=c+j:=by rw [List.length_append,List.length_replicate,hc]
  have uf:(hi++List.replicate j (0:Int)).length=hi.length+j:=by rw [List.length_append,List.length_replicate]
  have Kk:lo++List.replicate (j+1) x=(lo++List.replicate j x)++ [x]:=by rw [List.replicate_succ', ← List.append_assoc]
  have Kl:hi++List.replicate (j+1) (0:Int)=(hi++List.replicate j 0)++ [0]:=by rw [List.replicate_succ', ← List.append_assoc]
  have tP:=j4 (c:=c) (k:=j)
  have FF:=zM (c:=c) (k:=j)
  generalize lo++List.replicate j x=QV at kV Kk
  generalize hi++List.replicate j (0:Int)=hi1 at uf Kl
  generalize fC c j=gs at tP FF
  generalize mV A o left c j=A1 at jA HZ
  generalize mW B o right c j=B1 at j7 GF
  repeat' (first|((first|((with_reducible (first|apply oA|apply oB));exact rfl;intro K hK)|(refine hK _ ?_;clear hK K)|((with_reducible (first|apply oG|apply oH));iterate 3 exact rfl)|((with_reducible apply oI);(iterate 2 exact rfl);intro K hK)|(with_reducible (first|apply wI|apply wJ|apply wK)));try simp only [go_sem,simprocAttr,hb,ak,vi,jA,j7,kV,uf,tP])|(show dw _ (.seq (.region 8 _ _) _) _ _;(refine c7 hX 10000 4 48 200 rfl rfl rfl (by first|exact .inl rfl|exact .inr rfl) (by decide) (by decide) ?_;simp only [LA.app,ASt.put,ASt.kill,subT,rmk,putM,rml,kl,AV.sub,AV.subs,AObj.sub,List.set_cons_zero,List.set_cons_succ,go_sem,simprocAttr,hb,ak,vi,jA,j7,kV,uf,tP]);(refine c7 hX 10000 5 55 201 rfl rfl rfl (by first|exact .inl rfl|exact .inr rfl) (by decide) (by decide) ?_;simp only [LA.app,ASt.put,ASt.kill,subT,rmk,putM,rml,kl,AV.sub,AV.subs,AObj.sub,List.set_cons_zero,List.set_cons_succ,go_sem,simprocAttr,hb,ak,vi,jA,j7,kV,uf,tP]))|(show dw _ (.region 9 _ _) _ _;(refine pI hX 10 65 202 (by simp only [go_sem,simprocAttr,hb,ak,vi,jA,j7,kV,uf,tP]) rfl (by first|exact .inl rfl|exact .inr rfl) (by decide) ?_;simp only [go_sem,simprocAttr,hb,ak,vi,jA,j7,kV,uf,tP]))|(with_reducible (first|apply oC|apply oJ|exact oK|apply wA|apply wB|apply wC hX hC|apply wD hX hC|apply wE hX hC af|apply wF hX hC af|apply wG|apply wH|apply And.intro))|((with_reducible refine oD ?_ ?_);kernel_rfl)|((with_reducible (first|apply oE|apply oF));(iterate 3 exact rfl);all_goals (intro h;first|(exact absurd h (by decide))|((try simp only [go_sem,simprocAttr,hb,ak,vi,jA,j7,kV,uf,tP] at h);(try with_reducible intro K hK);simp only [go_sem,simprocAttr,hb,ak,vi,jA,j7,kV,uf,tP])))|((first|((with_reducible apply wL);exact rfl)|((with_reducible apply wM);exact rfl));all_goals (try ((with_reducible intro h);first|(exact absurd h (by decide))|(try simp only [go_sem,simprocAttr,hb,ak,vi,jA,j7,kV,uf,tP] at h))))|omega|(intro h))
  refine ⟨j+1,by omega, ?_,by omega⟩
  rw [HZ,GF,hm2,Kk,Kl,FF,H6]
  refine Le.of ?_ ?_<;>simp [go_sem,simprocAttr,hb,ak,vi,jA,j7,kV,uf,tP,rI]
 ·have ak:decide ((j:Int)+1<(o.length:Int))=false:=decide_eq_false (by omega)
  have hm2:min (j+1) (o.length - 1)=j:=by omega
  have H6:F4 left c o.length (j+1)=F4 left c o.length j:=by unfold F4;rw [hm2,w5]
  rw [if_neg hj2] at GF
  generalize mV A o left c j=A1 at jA HZ
  generalize mW B o right c j=B1 at j7 GF
  repeat' (first|((first|((with_reducible (first|apply oA|apply oB));exact rfl;intro K hK)|(refine hK _ ?_;clear hK K)|((with_reducible (first|apply oG|apply oH));iterate 3 exact rfl)|((with_reducible apply oI);(iterate 2 exact rfl);intro K hK)|(with_reducible (first|apply wI|apply wJ|apply wK)));try simp only [go_sem,simprocAttr,hb,ak,vi,jA,j7])|(with_reducible (first|apply oC|apply oJ|exact oK|apply wA|apply wB|apply wC hX hC|apply wD hX hC|apply wE hX hC af|apply wF hX hC af|apply wG|apply wH|apply And.intro))|((with_reducible refine oD ?_ ?_);kernel_rfl)|((with_reducible (first|apply oE|apply oF));(iterate 3 exact rfl);all_goals (intro h;first|(exact absurd h (by decide))|((try simp only [go_sem,simprocAttr,hb,ak,vi,jA,j7] at h);(try with_reducible intro K hK);simp only [go_sem,simprocAttr,hb,ak,vi,jA,j7])))|((first|((with_reducible apply wL);exact rfl)|((with_reducible apply wM);exact rfl));all_goals (try ((with_reducible intro h);first|(exact absurd h (by decide))|(try simp only [go_sem,simprocAttr,hb,ak,vi,jA,j7] at h))))|omega|(intro h))
  refine ⟨j+1,by omega, ?_,by omega⟩
  rw [HZ,GF,hm2,H6,hlf]
  refine Le.of ?_ ?_<;>simp [go_sem,simprocAttr,hb,ak,vi,jA,j7,rI]
end Go.Ab
end
section
namespace Go.Ab
open Go.Proofs
attribute [local congr] ACall.congr
set_option maxRecDepth 10000
set_option maxHeartbeats 8000000
def lV (A fs:List Int) (x:Int) (j:Nat):List Int:=j3 A fs (fun _=>x) j
theorem qb {A fs:List Int} {x:Int} {j:Nat} :(lV A fs x j).length=A.length:=gw
theorem jv (l items:List Int) (a b:Nat) (h0:0<(l.take a++items++l.drop b).length) (hr:l.length≤400000) (hi:items.length≤100000):Spec Tryz.prog 54 (Args [.d (.sl 1 [[.sl 1 (List.take a (l.map rI))], [.sl 1 (items.map rI)], [.sl 1 (List.drop b (l.map rI))]])]) [] (.d (sI (l.take a++items++l.drop b))) []:=by
 have hf: [l.take a,items,l.drop b].flatten=l.take a++items++l.drop b:=by simp
 have:=dW [l.take a,items,l.drop b] (by simp) (by rw [hf];exact h0) (by rw [hf];simp;omega)
 rw [hf] at this
 simpa only [vL,List.map_cons,List.map_nil,sI,List.map_take,List.map_drop] using this
theorem wS (x:Int) (o W G A B lo hi:List Int) (a b:Nat) (hab:a<b) (QW:b<G.length) (QX:b≤W.length) (hG:G.length≤100000) (hW:W.length≤100000) (hf:∀f∈(G.take b).drop (a+1),0≤f∧f<hi.length)
 (ho:o.length≤100000) (hO:∀i∈o,0≤i∧i<A.length) (hB:B.length=A.length) (hlo:lo.length≤100000) (hhi:hi.length≤100000):
 Spec Tryz.prog 56 (Args [.ptr 10000 0,eN x, .d (sI o),eN a,eN b]) (IW (sI W) (sI G) A B lo hi) (.tup [])
  (IX (sI (if o= [] then W else W.take a++o++W.drop b)) (sI (G.take (a+1)++fC lo.length (o.length - 1)++G.drop b)) (mV A o (G.getD a 0) lo.length o.length) (mW B o (G.getD b 0) lo.length o.length) (lo++List.replicate (o.length - 1) x) (lV hi ((G.take b).drop (a+1)) x ((G.take b).drop (a+1)).length++List.replicate (o.length - 1) 0)):=by
 have wZ:List.drop (a+1) (List.take b (List.map rI G))=((G.take b).drop (a+1)).map rI:=by rw [List.map_drop,List.map_take]
 have hfl:((G.take b).drop (a+1)).length≤100000:=by simp;omega
 generalize (G.take b).drop (a+1)=fs at wZ hf hfl ⊢
 have tT:List.take G.length (List.map rI G)=List.map rI G:=List.take_of_length_le (by simp)
 have pN:List.take W.length (List.map rI W)=List.map rI W:=List.take_of_length_le (by simp)
 have hmn:min ((a:Int)+1) (b:Int)=((a+1:Nat):Int):=by omega
 have Ee:=vh x (G.getD a 0) (G.getD b 0) o (sI W) (sI G) A B lo (lV hi fs x fs.length) ho hO hB hlo (by rw [qb];exact hhi)
 have MT:=jv G (fC lo.length (o.length - 1)) (a+1) b (by simp;omega) (by omega) (by rw [j4];omega)
 have NY:=fun (h:o≠ [])=>jv W o a b (by have:=List.length_pos_iff.2 h;simp;omega) (by omega) (by omega)
 generalize hg:fC lo.length (o.length - 1)=gs at Ee MT
 unfold IW IX at Ee ⊢
 (refine Spec.dK (C:=T.cfg [] []) (rs:= []) [(10005,300),(10006,301)] (T.aj _ _) Tryz.func56 rfl rfl Tryz.ntmps56 Tryz.results56 (by simp [AObj.isNest]) (by simp [AObj.isNest]) (by first|(simp [look];done)|(simp [asN];done)|(intro l hl;simp only [asN];repeat (rw [if_neg (fun e=>by subst e;simp [look] at hl)]))) (by first|(simp [look];done)|(simp [asN];done)|(intro l hl;simp only [asN];repeat (rw [if_neg (fun e=>by subst e;simp [look] at hl)]))) (by kernel_rfl) ?_;intro X hX hP hC aL aM vals hA;refine ⟨_,by simp,hA, ?_⟩;have af:X.P.follows .mixedOrders=true:=(by rw [hP];exact T.mixed);clear aL aM)
 repeat' (first|((first|((with_reducible (first|apply oA|apply oB));exact rfl;intro K hK)|(refine hK _ ?_;clear hK K)|((with_reducible (first|apply oG|apply oH));iterate 3 exact rfl)|((with_reducible apply oI);(iterate 2 exact rfl);intro K hK)|(with_reducible (first|apply wI|apply wJ|apply wK)));try simp only [go_sem,simprocAttr,hmn,wZ])|(with_reducible (first|apply oC|apply oJ|exact oK|apply wA|apply wB|apply wC hX hC|apply wD hX hC|apply wE hX hC af|apply wF hX hC af|apply wG|apply wH|apply And.intro))|((with_reducible refine oD ?_ ?_);kernel_rfl)|((with_reducible (first|apply oE|apply oF));(iterate 3 exact rfl);all_goals (intro h;first|(exact absurd h (by decide))|((try simp only [go_sem,simprocAttr,hmn,wZ] at h);(try with_reducible intro K hK);simp only [go_sem,simprocAttr,hmn,wZ])))|((first|((with_reducible apply wL);exact rfl)|((with_reducible apply wM);exact rfl));all_goals (try ((with_reducible intro h);first|(exact absurd h (by decide))|(try simp only [go_sem,simprocAttr,hmn,wZ] at h))))|omega|(intro h))
 refine ah (fun j:Nat=>j≤fs.length) (fun j=>⟨[(0, .ptr 10000 0),(1,eN x),(2, .d (sI o)),(3,eN a),(4,eN b),(24, .d (sI fs)),(25,eN fs.length),(26,eN j)], [(10000, .box [.d (sI W), .d (sI G), .ref 10001, .ref 10002, .ref 10003, .ref 10004]),(10001, .own 3 1 (A.map rI)),(10002, .own 3 1 (B.map rI)),(10003, .tip 3 1 (lo.map rI)),(10004, .own 3 1 ((lV hi fs x j).map rI))]⟩) (fun j=>fs.length - j) 0 (by omega) ?_ ?_
 ·refine Le.of ?_ ?_<;>simp [go_sem,simprocAttr,lV,j3]
 rintro j hj
 rcases Nat.lt_or_ge j fs.length with hjl|IN
 ·have hb:decide ((j:Int)<(fs.length:Int))=true:=decide_eq_true (by omega)
  have hin:=hf _ (aW (d:=0) hjl)
  have uf:=qb (A:=hi) (fs:=fs) (x:=x) (j:=j)
  have K8:lV hi fs x (j+1)=(lV hi fs x j).set (fs.getD j 0).toNat x:=rfl
  generalize vi:fs.getD j 0=v at hin K8
  obtain ⟨i,rfl⟩:∃i:Nat,v=i:=⟨v.toNat,by omega⟩
  rw [Int.toNat_natCast] at K8
  generalize lV hi fs x j=H1 at uf K8
  repeat' (first|((first|((with_reducible (first|apply oA|apply oB));exact rfl;intro K hK)|(refine hK _ ?_;clear hK K)|((with_reducible (first|apply oG|apply oH));iterate 3 exact rfl)|((with_reducible apply oI);(iterate 2 exact rfl);intro K hK)|(with_reducible (first|apply wI|apply wJ|apply wK)));try simp only [go_sem,simprocAttr,hb,vi,uf])|(with_reducible (first|apply oC|apply oJ|exact oK|apply wA|apply wB|apply wC hX hC|apply wD hX hC|apply wE hX hC af|apply wF hX hC af|apply wG|apply wH|apply And.intro))|((with_reducible refine oD ?_ ?_);kernel_rfl)|((with_reducible (first|apply oE|apply oF));(iterate 3 exact rfl);all_goals (intro h;first|(exact absurd h (by decide))|((try simp only [go_sem,simprocAttr,hb,vi,uf] at h);(try with_reducible intro K hK);simp only [go_sem,simprocAttr,hb,vi,uf])))|((first|((with_reducible apply wL);exact rfl)|((with_reducible apply wM);exact rfl));all_goals (try ((with_reducible intro h);first|(exact absurd h (by decide))|(try simp only [go_sem,simprocAttr,hb,vi,uf] at h))))|omega|(intro h))
  refine ⟨j+1,by omega, ?_,by omega⟩
  rw [K8]
  refine Le.of ?_ ?_<;>simp [go_sem,simprocAttr,hb,vi,uf,rI]
 have hb:decide ((j:Int)<(fs.length:Int))=false:=decide_eq_false (by omega)
 obtain rfl:j=fs.length:=by omega
 have ha1:((a:Int)+1).toNat=a+1:=by omega
 by_cases hne:o= []
 ·have ak:decide ((o.length:Int)=0)=true:=decide_eq_true (by rw [hne];rfl)
  repeat' (first|((first|((with_reducible (first|apply oA|apply oB));exact rfl;intro K hK)|(refine hK _ ?_;clear hK K)|((with_reducible (first|apply oG|apply oH));iterate 3 exact rfl)|((with_reducible apply oI);(iterate 2 exact rfl);intro K hK)|(with_reducible (first|apply wI|apply wJ|apply wK)));try simp only [go_sem,simprocAttr,hb,ak,if_pos hne,ha1,tT,pN])|(with_reducible (first|apply oC|apply oJ|exact oK|apply wA|apply wB|apply wC hX hC|apply wD hX hC|apply wE hX hC af|apply wF hX hC af|apply wG|apply wH|apply And.intro))|((with_reducible refine oD ?_ ?_);kernel_rfl)|((with_reducible (first|apply oE|apply oF));(iterate 3 exact rfl);all_goals (intro h;first|(exact absurd h (by decide))|((try simp only [go_sem,simprocAttr,hb,ak,if_pos hne,ha1,tT,pN] at h);(try with_reducible intro K hK);simp only [go_sem,simprocAttr,hb,ak,if_pos hne,ha1,tT,pN])))|((first|((with_reducible apply wL);exact rfl)|((with_reducible apply wM);exact rfl));all_goals (try ((with_reducible intro h);first|(exact absurd h (by decide))|(try simp only [go_sem,simprocAttr,hb,ak,if_pos hne,ha1,tT,pN] at h))))|omega|((first|(refine az hX hC hP [(10000,10000),(10001,10001),(10002,10002),(10003,10003),(10004,10004),(10005,300),(10006,301)] (Ee) rfl rfl rfl ?_ ?_ ?_ ?_ ?_ ?_ ?_ ?_ ?_ ?_ ?_ ?_ ?_ ?_;(focus (simp only [go_sem,simprocAttr,hb,ak,if_pos hne,ha1,tT,pN];done));(iterate 12 (focus (simp [go_sem,simprocAttr,hb,ak,if_pos hne,ha1,tT,pN];done)));simp only [go_sem,simprocAttr,hb,ak,if_pos hne,ha1,tT,pN,List.map_cons,List.map_nil])|(refine aY hX hC hP (MT) rfl rfl rfl ?_ ?_ rfl ?_;iterate 2 (focus (simp only [go_sem,simprocAttr,hb,ak,if_pos hne,ha1,tT,pN];done)))|(refine aY hX hC hP (NY hne) rfl rfl rfl ?_ ?_ rfl ?_;iterate 2 (focus (simp only [go_sem,simprocAttr,hb,ak,if_pos hne,ha1,tT,pN];done))));try simp only [go_sem,simprocAttr,hb,ak,if_pos hne,ha1,tT,pN])|(intro h))
  all_goals (first|rfl|(simp only [go_sem,simprocAttr,hb,ak,if_pos hne,ha1,tT,pN];done))
 ·have ak:decide ((o.length:Int)=0)=false:=decide_eq_false (by have:=List.length_pos_iff.2 hne;omega)
  repeat' (first|((first|((with_reducible (first|apply oA|apply oB));exact rfl;intro K hK)|(refine hK _ ?_;clear hK K)|((with_reducible (first|apply oG|apply oH));iterate 3 exact rfl)|((with_reducible apply oI);(iterate 2 exact rfl);intro K hK)|(with_reducible (first|apply wI|apply wJ|apply wK)));try simp only [go_sem,simprocAttr,hb,ak,if_neg hne,ha1,tT,pN])|(with_reducible (first|apply oC|apply oJ|exact oK|apply wA|apply wB|apply wC hX hC|apply wD hX hC|apply wE hX hC af|apply wF hX hC af|apply wG|apply wH|apply And.intro))|((with_reducible refine oD ?_ ?_);kernel_rfl)|((with_reducible (first|apply oE|apply oF));(iterate 3 exact rfl);all_goals (intro h;first|(exact absurd h (by decide))|((try simp only [go_sem,simprocAttr,hb,ak,if_neg hne,ha1,tT,pN] at h);(try with_reducible intro K hK);simp only [go_sem,simprocAttr,hb,ak,if_neg hne,ha1,tT,pN])))|((first|((with_reducible apply wL);exact rfl)|((with_reducible apply wM);exact rfl));all_goals (try ((with_reducible intro h);first|(exact absurd h (by decide))|(try simp only [go_sem,simprocAttr,hb,ak,if_neg hne,ha1,tT,pN] at h))))|omega|((first|(refine az hX hC hP [(10000,10000),(10001,10001),(10002,10002),(10003,10003),(10004,10004),(10005,300),(10006,301)] (Ee) rfl rfl rfl ?_ ?_ ?_ ?_ ?_ ?_ ?_ ?_ ?_ ?_ ?_ ?_ ?_ ?_;(focus (simp only [go_sem,simprocAttr,hb,ak,if_neg hne,ha1,tT,pN];done));(iterate 12 (focus (simp [go_sem,simprocAttr,hb,ak,if_neg hne,ha1,tT,pN];done)));simp only [go_sem,simprocAttr,hb,ak,if_neg hne,ha1,tT,pN,List.map_cons,List.map_nil])|(refine aY hX hC hP (MT) rfl rfl rfl ?_ ?_ rfl ?_;iterate 2 (focus (simp only [go_sem,simprocAttr,hb,ak,if_neg hne,ha1,tT,pN];done)))|(refine aY hX hC hP (NY hne) rfl rfl rfl ?_ ?_ rfl ?_;iterate 2 (focus (simp only [go_sem,simprocAttr,hb,ak,if_neg hne,ha1,tT,pN];done))));try simp only [go_sem,simprocAttr,hb,ak,if_neg hne,ha1,tT,pN])|(intro h))
  all_goals (first|rfl|(simp only [go_sem,simprocAttr,hb,ak,if_neg hne,ha1,tT,pN];done))
end Go.Ab
end
section
namespace Go.Ab
open Go.Proofs
set_option maxRecDepth 10000
set_option linter.unusedSectionVars false
def arr (f:Int→Int) (m:Nat):List Int:=(List.range m).map fun i:Nat=>f (i:Int)
theorem cU {f:Int→Int} {m:Nat} :(arr f m).length=m:=by simp [arr]
theorem qc {f:Int→Int} {m i:Nat} (h:i<m):(arr f m).getD i 0=f (i:Int):=by
 simp [arr,List.getD_eq_getElem?_getD,List.getElem?_range h]
theorem Ef {l m:List Int} (hl:l.length=m.length) (h:∀i,i<l.length→l.getD i 0=m.getD i 0):l=m:=by
 refine List.ext_getElem? fun i=> ?_
 by_cases hi:i<l.length
 ·have:=h i hi
  rw [List.getD_eq_getElem?_getD,List.getD_eq_getElem?_getD,List.getElem?_eq_getElem hi,List.getElem?_eq_getElem (by omega)] at this
  rw [List.getElem?_eq_getElem hi,List.getElem?_eq_getElem (by omega)]
  simpa using this
 ·rw [List.getElem?_eq_none (by omega),List.getElem?_eq_none (by omega)]
theorem o6 {u v:List Int} {e:Int} :(u++e::v).getD u.length 0=e:=by
 rw [List.getD_eq_getElem?_getD,List.getElem?_append_right (Nat.le_refl _)];simp
section
variable {g:Gr} {p:Pl} (h:cC g p)
include h
theorem jj {k:Nat} (hk:k<g.n.toNat) {e:Int} (he:e∈bB p (aq p k)):(0≤e∧e<g.es.length)∧kU g e=aq p k:=by
 have hx:=aR h.2.1 hk
 exact bV.1 ((bH h.2.1 hx.1 hx.2).mem_iff.1 he)
theorem Eg {k:Nat} (hk:k<g.n.toNat):(bB p (aq p k)).Nodup:=by
 have hx:=aR h.2.1 hk
 exact (bH h.2.1 hx.1 hx.2).nodup_iff.2 bU
theorem AP {k:Nat} (hk:k<g.n.toNat) {e:Int} (he:0≤e∧e<g.es.length) (ht:kU g e=aq p k):∃u v,bB p (aq p k)=u++e::v:=by
 have hx:=aR h.2.1 hk
 exact List.append_of_mem ((bH h.2.1 hx.1 hx.2).mem_iff.2 (bV.2 ⟨he,ht⟩))
theorem vj {k:Nat} (hk:k<g.n.toNat) {f F F':Int→Int} {v:Nat→Int} (hin:∀u w e,bB p (aq p k)=u++e::w→F' e=v u.length) (hout:∀e:Int,kU g e≠aq p k→F' e=F e):
 j3 (arr F g.es.length) (bB p (aq p k)) v (bB p (aq p k)).length=arr F' g.es.length:=by
 refine Ef (by rw [gw,cU,cU]) fun i hi=> ?_
 rw [gw,cU] at hi
 rw [qc hi]
 by_cases ht:kU g (i:Int)=aq p k
 ·obtain ⟨u,w,Eh⟩:=AP h hk (e:=(i:Int)) (by omega) ht
  have e1:(bB p (aq p k)).getD u.length 0=(i:Int):=by rw [Eh];exact o6
  have:=yx (A:=arr F g.es.length) (o:=bB p (aq p k)) (f:=v) (i:=u.length) (by rw [e1,cU];simpa using hi) (j:=(bB p (aq p k)).length) (by rw [Eh];simp) fun q hq e2=>by
   rw [e1,Int.toNat_natCast] at e2
   have h2:=jj h hk (aW (d:=0) hq)
   have h3:(bB p (aq p k)).getD q 0=(i:Int):=by omega
   have cI:=Eg h hk
   have:(bB p (aq p k))[q]'hq=(bB p (aq p k))[u.length]'(by rw [Eh];simp):=by
    rw [List.getD_eq_getElem?_getD,List.getElem?_eq_getElem hq] at h3
    rw [List.getD_eq_getElem?_getD,List.getElem?_eq_getElem (by rw [Eh];simp)] at e1
    simp only [Option.getD_some] at h3 e1
    rw [h3,e1]
   exact (List.getElem_inj cI).1 this
  rw [e1,Int.toNat_natCast] at this
  rw [this,hin u w (i:Int) Eh]
 ·rw [vg fun q hq e2=> ?_,qc hi,hout _ ht]
  have h2:=jj h hk (aW (d:=0) hq)
  exact ht (by rw [← h2.2];congr 1;omega)
theorem Km {k:Nat} (hk:k<g.n.toNat):mV (arr (LK g p k) g.es.length) (bB p (aq p k)) (if k=0 then 0 else LK g p k (eO g p (aq p k))) (cK p k) (bB p (aq p k)).length=arr (LK g p (k+1)) g.es.length:=by
 refine vj (f:=fun _=>0) h hk (fun u w e Eh=> ?_) fun e he=>by rw [LK,if_neg he]
 obtain ⟨a,b⟩:=nO h hk Eh
 rw [LK,if_pos a,b]
theorem Kn {r:Int} {k:Nat} (hk:k<g.n.toNat):mW (arr (RK g p r k) g.es.length) (bB p (aq p k)) (if k=0 then r else RK g p r k (mU g p (aq p k))) (cK p k) (bB p (aq p k)).length=arr (RK g p r (k+1)) g.es.length:=by
 refine vj (f:=fun _=>0) h hk (fun u w e Eh=> ?_) fun e he=>by rw [RK,if_neg he]
 obtain ⟨a,b⟩:=nO h hk Eh
 rw [RK,if_pos a,b]
theorem yy (hI:pn g=true):∀ {k:Nat},k<g.n.toNat→∀t∈(fK g p k).row,0≤t.1
 |0,_,t,ht=>by cases ht
 |k+1,hk,t,ht=>by
  have hm:=aC h.1
  have ih:=yy hI (k:=k) (by omega)
  obtain ⟨hi,_,_⟩:=dQ hm h.2.1 (k:=k) (by omega) fun j hj=>h.2.2 j (by omega)
  obtain ⟨A,X,C,hr,_,_,_,hs⟩:=iP hm hi.togV (h.2.2 k (by omega))
  have hO:bB p (aq p k)≠ []:=fun h1=>by
   have:=(eM h hI (aR h.2.1 (show k<g.n.toNat by omega))).1 h1
   have:=dP h.2.1 (show k<g.n.toNat by omega) (by omega) this
   omega
  have ht:t∈(aF g (fK g p k) (aq p k) (bB p (aq p k))).2.row:=ht
  rw [hs] at ht
  simp only [List.mem_append] at ht
  rcases ht with (ht|ht)|ht
  ·exact ih t (by rw [hr];simp [ht])
  ·unfold aX at ht
   rw [if_neg hO] at ht
   obtain ⟨i,hi2,rfl⟩:=List.mem_map.1 ht
   exact (jj h (show k<g.n.toNat by omega) hi2).1.1
  ·exact ih t (by rw [hr];simp [ht])
theorem zN (hI:pn g=true) {k:Nat} (hk:k<g.n.toNat):js (fQ g p k)=fQ g p k:=by
 have hm:=aC h.1
 obtain ⟨hi,_,_⟩:=dQ hm h.2.1 (k:=k) (by omega) fun j hj=>h.2.2 j (by omega)
 obtain ⟨A,X,C,hr,_,_,_,hs⟩:=iP hm hi.togV (h.2.2 k hk)
 have e:fQ g p k=X:=by unfold fQ;rw [hs]
 rw [e]
 refine List.filter_eq_self.2 fun t ht=>decide_eq_true (yy h hI hk t ?_)
 rw [hr];simp [ht]
theorem Ei (hI:pn g=true) {k:Nat} (hk:k<g.n.toNat):cE g p (aq p k)=(fQ g p k).map (·.1):=by
 unfold cE
 rw [oS h.2.1 (Nat.le_refl _) hk,zN h hI hk]
end
section
variable (g:Gr) (p:Pl)
def fH:Nat→List Int
 |0=>bB p (aq p 0)
 |j+1=>if bB p (aq p (j+1))= [] then fH j else (fH j).take (dF (fH j) (eO g p (aq p (j+1)))).toNat++bB p (aq p (j+1))++(fH j).drop ((dF (fH j) (eO g p (aq p (j+1)))).toNat+(cE g p (aq p (j+1))).length)
def lW:Nat→List Int
 |0=> [0]++fC 1 ((bB p (aq p 0)).length - 1)++ [-1]
 |j+1=>(lW j).take ((dF (fH g p j) (eO g p (aq p (j+1)))).toNat+1)++fC (cK p (j+1)) ((bB p (aq p (j+1))).length - 1)++(lW j).drop ((dF (fH g p j) (eO g p (aq p (j+1)))).toNat+(cE g p (aq p (j+1))).length)
def tF (k:Nat):List Int:=((cE g p (aq p k)).dropLast).map (RK g p (-1) k)
def yT:Nat→List Int
 |0=> [aq p (g.n.toNat - 1)]
 |k+1=>lV (yT k) (tF g p k) (aq p k) (tF g p k).length++List.replicate ((bB p (aq p k)).length - 1) 0
end
section
variable {g:Gr} {p:Pl}
theorem qZ:∀ {k:Nat},(yT g p k).length=cK p k
 |0=>rfl
 |k+1=>by rw [yT,List.length_append,qb,List.length_replicate,qZ,cK]
variable (h:cC g p)
include h
theorem Ej {A I C:List Int} (cI:(A++I++C).Nodup) (hI:I≠ []):dF (A++I++C) (I.headD 0)=(A.length:Int):=by
 obtain ⟨a,u,rfl⟩:=jb hI
 obtain ⟨k,h1,h2,h3⟩:=dG (l:=A++a::u++C) (x:=a) (by simp)
 have e:A++a::u++C=A++a::(u++C):=by simp
 have h4:(A++a::u++C).getD A.length 0=a:=by rw [e];exact o6
 show dF _ a=_
 rw [h1]
 have hA:A.length<(A++a::u++C).length:=by simp
 rw [List.getD_eq_getElem?_getD,List.getElem?_eq_getElem h2] at h3
 rw [List.getD_eq_getElem?_getD,List.getElem?_eq_getElem hA] at h4
 simp only [Option.getD_some] at h3 h4
 have:=(List.getElem_inj cI (h₀:=h2) (h₁:=hA)).1 (h3.trans h4.symm)
 omega
theorem Ek {k:Nat} (hk:k≤g.n.toNat):(WK g p k).Nodup:=by
 have hm:=aC h.1
 obtain ⟨hi,_,_⟩:=dQ hm h.2.1 (k:=k) (by omega) fun j hj=>h.2.2 j (by omega)
 exact Ea hi
theorem El {r:Int} {k:Nat} (hk:k<g.n.toNat) (hO:bB p (aq p k)≠ []) {j:Nat} (h1:k+1≤j) (h2:j≤g.n.toNat):(bB p (aq p k)).map (RK g p r j)=fC (cK p k) ((bB p (aq p k)).length - 1)++ [if k=0 then r else RK g p r k (mU g p (aq p k))]:=by
 obtain ⟨v,b,hv⟩:=c8 hO
 have e1:((bB p (aq p k)).length - 1)=v.length:=by rw [hv];simp
 rw [e1]
 conv=>lhs;rw [hv]
 rw [List.map_append,List.map_cons,List.map_nil,tC h hk hv h1 h2]
 congr 1
 refine List.ext_getElem? fun i=> ?_
 by_cases hi:i<v.length
 ·rw [List.getElem?_map,List.getElem?_eq_getElem hi,fC,List.getElem?_map,List.getElem?_range hi,Option.map_some,Option.map_some]
  have hs:v=v.take i++v[i]::v.drop (i+1):=by simp
  obtain ⟨c,w,MU⟩:∃c w,v.drop (i+1)++ [b]=c::w:=by
   cases hd:v.drop (i+1) with
   |nil=>exact ⟨b, [],rfl⟩
   |cons c w=>exact ⟨c,w++ [b],rfl⟩
  have h3:bB p (aq p k)=v.take i++v[i]::c::w:=by
   rw [hv]
   conv=>lhs;rw [hs]
   rw [List.append_assoc,List.cons_append,MU]
  rw [ji h hk h3 h1 h2,List.length_take,Nat.min_eq_left (by omega)]
  congr 1
 ·rw [List.getElem?_eq_none (by simpa using hi),List.getElem?_eq_none (by rw [j4];omega)]
theorem wT (hI:pn g=true):∀ {j:Nat},j+1<g.n.toNat→fH g p j=WK g p (j+1)∧lW g p j=0::(WK g p (j+1)).map (RK g p (-1) (j+1))∧WK g p (j+1)≠ []
 |0,hj=>by
  have hO:bB p (aq p 0)≠ []:=fun h1=>by
   have:=(eM h hI (aR h.2.1 (show 0<g.n.toNat by omega))).1 h1
   have:=dP h.2.1 (show 0<g.n.toNat by omega) (by omega) this
   omega
  refine ⟨(tD h (by omega)).symm, ?_,by rw [tD h (by omega)];exact hO⟩
  rw [tD h (by omega),El h (by omega) hO (Nat.le_refl _) (by omega),if_pos rfl]
  rfl
 |j+1,hj=>by
  obtain ⟨i1,i2,i3⟩:=wT hI (j:=j) (by omega)
  obtain ⟨A,C,e1,hne,e2⟩:=mH h (k:=j+1) (by omega) (by omega)
  have hO:bB p (aq p (j+1))≠ []:=fun h1=>by
   have:=(eM h hI (aR h.2.1 (show j+1<g.n.toNat by omega))).1 h1
   have:=dP h.2.1 (show j+1<g.n.toNat by omega) (by omega) this
   omega
  have cI:=Ek h (k:=j+1) (by omega)
  have IQ:dF (WK g p (j+1)) (eO g p (aq p (j+1)))=(A.length:Int):=by
   rw [e1] at cI ⊢
   exact Ej h cI hne
  have AO:∀a∈WK g p (j+1),RK g p (-1) (j+1+1) a=RK g p (-1) (j+1) a:=fun a ha=>by
   obtain ⟨i,hi,e⟩:=qY h (by omega) ha
   rw [gP h (by omega) e (j:=j+1+1) (by omega) (by omega),gP h (by omega) e (j:=j+1) (by omega) (by omega)]
  refine ⟨?_, ?_,by rw [e2];simp [hO]⟩
  ·rw [fH,if_neg hO,i1,IQ,Int.toNat_natCast,e2]
   congr 1
   ·congr 1
    rw [e1,List.append_assoc,List.take_left]
   ·rw [e1, ← List.length_append,List.drop_left]
  ·rw [lW,i1,i2,IQ,Int.toNat_natCast,List.take_succ_cons,e2]
   have e3:(WK g p (j+1)).map (RK g p (-1) (j+1))=A.map (RK g p (-1) (j+1))++((cE g p (aq p (j+1))).map (RK g p (-1) (j+1))++C.map (RK g p (-1) (j+1))):=by rw [e1];simp
   have hA:A.map (RK g p (-1) (j+1+1))=A.map (RK g p (-1) (j+1)):=List.map_congr_left fun a ha=>AO a (by rw [e1];simp [ha])
   have hC:C.map (RK g p (-1) (j+1+1))=C.map (RK g p (-1) (j+1)):=List.map_congr_left fun a ha=>AO a (by rw [e1];simp [ha])
   rw [List.map_append,List.map_append,hA,hC,El h (by omega) hO (Nat.le_refl _) (by omega),if_neg (by omega)]
   rw [e3,List.take_append_of_le_length (by simp),List.take_of_length_le (by simp)]
   obtain ⟨u,a,hu⟩:=c8 hne
   have hl:(cE g p (aq p (j+1))).length=u.length+1:=by rw [hu];simp
   rw [hl,show A.length+(u.length+1)=(A.length+u.length)+1 by omega,List.drop_succ_cons]
   have e4:(A.map (RK g p (-1) (j+1))++((cE g p (aq p (j+1))).map (RK g p (-1) (j+1))++C.map (RK g p (-1) (j+1)))).drop (A.length+u.length)=RK g p (-1) (j+1) (mU g p (aq p (j+1)))::C.map (RK g p (-1) (j+1)):=by
    rw [lT h hu,hu]
    have:A.map (RK g p (-1) (j+1))++((u++ [a]).map (RK g p (-1) (j+1))++C.map (RK g p (-1) (j+1)))=(A++u).map (RK g p (-1) (j+1))++(RK g p (-1) (j+1) a::C.map (RK g p (-1) (j+1))):=by simp
    rw [this,show A.length+u.length=((A++u).map (RK g p (-1) (j+1))).length by simp,List.drop_left]
   rw [e4]
   simp
theorem fI {A B:List Int} (h:B≠ []):(A++B).dropLast=A++B.dropLast:=by
 obtain ⟨u,a,rfl⟩:=c8 h
 rw [← List.append_assoc,List.dropLast_concat,List.dropLast_concat]
theorem AQ (hI:pn g=true):∀ {k:Nat},1≤k→k<g.n.toNat→∀a∈(WK g p k).dropLast,1≤RK g p (-1) k a∧RK g p (-1) k a<cK p k
 |0,h1,_,_,_=>by omega
 |k+1,_,hk,a,ha=>by
  have hO:bB p (aq p k)≠ []:=fun h1=>by
   have:=(eM h hI (aR h.2.1 (show k<g.n.toNat by omega))).1 h1
   have:=dP h.2.1 (show k<g.n.toNat by omega) (by omega) this
   omega
  have hc:cK p (k+1)=cK p k+((bB p (aq p k)).length - 1):=rfl
  have Jk:0<cK p k:=p9
  have hnew:∀b∈(bB p (aq p k)).dropLast,1≤RK g p (-1) (k+1) b∧RK g p (-1) (k+1) b<cK p (k+1):=fun b hb=>by
   obtain ⟨v,c,hv⟩:=c8 hO
   rw [hv,List.dropLast_concat] at hb
   obtain ⟨u,w,Eh⟩:=List.append_of_mem hb
   obtain ⟨c',w',MU⟩:∃c' w',w++ [c]=c'::w':=by
    cases w with
    |nil=>exact ⟨c, [],rfl⟩
    |cons d w=>exact ⟨d,w++ [c],rfl⟩
   have h3:bB p (aq p k)=u++b::c'::w':=by rw [hv,Eh, ← MU];simp
   rw [ji h (show k<g.n.toNat by omega) h3 (Nat.le_refl _) (by omega)]
   have:(bB p (aq p k)).length=u.length+(w'.length+2):=by rw [h3];simp
   omega
  by_cases h0:k=0
  ·subst h0
   rw [tD h (by omega)] at ha
   exact hnew a ha
  ·obtain ⟨A,C,e1,hne,e2⟩:=mH h h0 (show k<g.n.toNat by omega)
   have ih:=AQ hI (k:=k) (by omega) (by omega)
   have AO:∀a∈WK g p k,RK g p (-1) (k+1) a=RK g p (-1) k a:=fun a ha=>by
    obtain ⟨i,hi,e⟩:=qY h (by omega) ha
    rw [gP h (by omega) e (j:=k+1) (by omega) (by omega),gP h (by omega) e (j:=k) (by omega) (by omega)]
   have old:∀b∈(WK g p k).dropLast,1≤RK g p (-1) (k+1) b∧RK g p (-1) (k+1) b<cK p (k+1):=fun b hb=>by
    rw [AO b ((List.dropLast_sublist _).subset hb)]
    have:=ih b hb
    omega
   rw [e1] at old AO
   rw [e2] at ha
   by_cases hC:C= []
   ·subst hC
    rw [List.append_nil] at ha old
    rw [fI h hO] at ha
    rw [fI h hne] at old
    rcases List.mem_append.1 ha with ha|ha
    ·exact old a (by simp [ha])
    ·exact hnew a ha
   ·rw [fI h hC] at ha old
    rcases List.mem_append.1 ha with ha|ha
    ·rcases List.mem_append.1 ha with ha|ha
     ·exact old a (by simp [ha])
     ·obtain ⟨v,b,hv⟩:=c8 hO
      rw [hv,List.mem_append,List.mem_singleton] at ha
      rcases ha with ha|rfl
      ·exact hnew a (by rw [hv,List.dropLast_concat];exact ha)
      ·obtain ⟨u,c,hu⟩:=c8 hne
       rw [tC h (show k<g.n.toNat by omega) hv (Nat.le_refl _) (by omega),if_neg h0,lT h hu, ← AO c (by rw [hu];simp)]
       exact old c (by rw [hu];simp)
    ·exact old a (by simp [ha])
theorem F5 (hI:pn g=true) {k:Nat} (hk:k<g.n.toNat):∀f∈tF g p k,0≤f∧f<(yT g p k).length:=by
 intro f hf
 rw [qZ]
 obtain ⟨a,ha,rfl⟩:=List.mem_map.1 hf
 have PM:cE g p (aq p k)≠ []:=fun h0=>by rw [h0] at ha;simp at ha
 have xx:=AL h hk PM
 obtain ⟨A,C,e1,hne,_⟩:=mH h xx hk
 have:=AQ h hI (k:=k) (by omega) hk a (by
  rw [e1]
  by_cases hC:C= []
  ·subst hC;rw [List.append_nil,fI h hne];simp [ha]
  ·rw [fI h hC];simp [(List.dropLast_sublist _).subset ha])
 omega
theorem Em (hI:pn g=true) {j:Nat} (hj:j+1<g.n.toNat):∃a:Nat,dF (fH g p j) (eO g p (aq p (j+1)))=a∧0<(cE g p (aq p (j+1))).length∧a+(cE g p (aq p (j+1))).length≤(fH g p j).length∧
 (lW g p j).length=(fH g p j).length+1∧(lW g p j).getD a 0=LK g p (j+1) (eO g p (aq p (j+1)))∧(lW g p j).getD (a+(cE g p (aq p (j+1))).length) 0=RK g p (-1) (j+1) (mU g p (aq p (j+1)))∧
 ((lW g p j).take (a+(cE g p (aq p (j+1))).length)).drop (a+1)=tF g p (j+1):=by
 obtain ⟨i1,i2,i3⟩:=wT h hI hj
 obtain ⟨A,C,e1,hne,e2⟩:=mH h (k:=j+1) (by omega) hj
 have cI:=Ek h (k:=j+1) (by omega)
 have IQ:dF (WK g p (j+1)) (eO g p (aq p (j+1)))=(A.length:Int):=by
  rw [e1] at cI ⊢
  exact Ej h cI hne
 have hlk:=(zL (r:= -1) h hI (k:=j+1) (by omega) hj i3).1
 obtain ⟨u,c,hu⟩:=c8 hne
 obtain ⟨c0,u0,Dp⟩:=jb hne
 have hl:(cE g p (aq p (j+1))).length=u.length+1:=by rw [hu];simp
 rw [i1,i2]
 refine ⟨A.length,IQ,by omega,by rw [e1];simp,by simp, ?_, ?_, ?_⟩
 ·rw [e1,cu,cu] at hlk
  have h1:=hlk.1.2
  rw [Dp] at h1
  rw [qa h Dp,h1.1,e1]
  rcases List.eq_nil_or_concat A with hA|⟨A',t,hA⟩
  ·subst hA;rfl
  ·rw [List.concat_eq_append] at hA
   subst hA
   rw [fh]
   have:(0::(A'++ [t]++cE g p (aq p (j+1))++C).map (RK g p (-1) (j+1)))=(0::A'.map (RK g p (-1) (j+1)))++RK g p (-1) (j+1) t::((cE g p (aq p (j+1))++C).map (RK g p (-1) (j+1))):=by simp
   rw [this]
   have h2:(A'++ [t]).length=(0::A'.map (RK g p (-1) (j+1))).length:=by simp
   rw [h2];exact o6
 ·rw [lT h hu,e1,hl]
  have:(0::(A++cE g p (aq p (j+1))++C).map (RK g p (-1) (j+1)))=(0::(A++u).map (RK g p (-1) (j+1)))++RK g p (-1) (j+1) c::(C.map (RK g p (-1) (j+1))):=by rw [hu];simp
  rw [this]
  have h2:A.length+(u.length+1)=(0::(A++u).map (RK g p (-1) (j+1))).length:=by simp;omega
  rw [h2];exact o6
 ·rw [e1,hl]
  have:(0::(A++cE g p (aq p (j+1))++C).map (RK g p (-1) (j+1)))=(0::A.map (RK g p (-1) (j+1)))++(u.map (RK g p (-1) (j+1))++(RK g p (-1) (j+1) c::(C.map (RK g p (-1) (j+1))))):=by rw [hu];simp
  rw [this,List.take_append,List.drop_append]
  have h2:(0::A.map (RK g p (-1) (j+1))).length=A.length+1:=by simp
  rw [h2,List.take_of_length_le (by rw [h2];omega),List.drop_of_length_le (by rw [h2];omega),h2]
  rw [show A.length+(u.length+1) - (A.length+1)=u.length by omega,Nat.sub_self,List.drop_zero,List.nil_append]
  rw [List.take_append_of_le_length (by simp),List.take_of_length_le (by simp)]
  unfold tF
  rw [hu,List.dropLast_concat]
end
end Go.Ab
end
section
namespace Go.Ab
open Go.Proofs
attribute [local congr] ACall.congr
set_option maxRecDepth 10000
set_option maxHeartbeats 8000000
def swapT (l:List It) (k:Nat):List It:=(List.range l.length).map fun p=>if p<k∨l.length - 1<p+k then l.getD (l.length - 1 - p) (0,0,0) else l.getD p (0,0,0)
def NZ (rs:List Int) (l:List It):Int:=match l.find? (fun t=>decide (t.2.2∈rs)) with
 |some t=>t.2.2
 |none=>rs.headD (-1)
end Go.Ab
end
section
namespace Go.Ab
open Go.Proofs
attribute [local congr] ACall.congr
set_option maxRecDepth 10000
set_option maxHeartbeats 8000000
def QY (b:Bool) (g:Gr) (p:Pl):List Int × List Int × Int:=
 if (dn b g p).2.1=0∧pn g=true then (D2 g p false g.n.toNat,D2 g p true g.n.toNat,0) else ([], [],1)
end Go.Ab
end
section
namespace Go.Ab
open Go.Proofs
attribute [local congr] ACall.congr
set_option maxRecDepth 10000
set_option maxHeartbeats 8000000
theorem tG {b:Bool} {g:Gr} {p:Pl} (hr:b=true↔(bJ g).1=0∧bL g p) (h:cC g p):dn b g p=((gr g p g.n.toNat,lN g p),(0,0)):=by
 obtain rfl:b=true:=hr.2 ⟨h.1,h.2.1⟩
 unfold dn
 rw [if_neg (by simp),gu.2 h.2.2]
 rfl
end Go.Ab
end
section
namespace Go.Ab
open Go.Proofs
attribute [local congr] ACall.congr
set_option maxRecDepth 60000
set_option maxHeartbeats 8000000
structure Fc where
 L:List Int
 R:List Int
 lo:List Int
 hi:List Int
def mK (g:Gr) (p:Pl) (f:Int):Int:=if f= -1 then (cK p g.n.toNat:Int) else f
def GG (g:Gr) (p:Pl):Fc:=⟨arr (LK g p g.n.toNat) g.es.length,(arr (RK g p (-1) g.n.toNat) g.es.length).map (mK g p),iQ p g.n.toNat++ [aq p 0],yT g p g.n.toNat++ [aq p (g.n.toNat - 1)]⟩
def q6:Fc:=⟨[], [], [], []⟩
def GH (b:Bool) (g:Gr) (p:Pl):Fc × Int:=if ((dn b g p).2.1=0∧pn g=true)∧0<g.es.length then (GG g p,0) else (q6,1)
def gK (f:Fc):AV:= .agg [.d (sI f.L), .d (sI f.R), .d (sI f.lo), .d (sI f.hi)]
def lX (l:List Int) (f:Int→Int) (j:Nat):List Int:=(l.take j).map f++l.drop j
theorem En {l:List Int} {f:Int→Int} {j:Nat} :(lX l f j).length=l.length:=by
 simp only [lX,List.length_append,List.length_map,List.length_take,List.length_drop];omega
theorem vk {l:List Int} {f:Int→Int} {j:Nat} (h:j<l.length):lX l f (j+1)=(lX l f j).set j (f (l.getD j 0)):=by
 have h1:((l.take j).map f).length=j:=by simp;omega
 have e:l.getD j 0=l[j]:=by rw [List.getD_eq_getElem?_getD,List.getElem?_eq_getElem h];rfl
 unfold lX
 have e2:l.take (j+1)=l.take j++ [l[j]]:=by rw [List.take_add_one,List.getElem?_eq_getElem h];rfl
 rw [List.drop_eq_getElem_cons h,List.set_append,h1,if_neg (by omega),Nat.sub_self,List.set_cons_zero,e2,e,List.map_append,List.append_assoc]
 rfl
theorem AR {l:List Int} {f:Int→Int} {j:Nat} (h:j<l.length):(lX l f j).getD j 0=l.getD j 0:=by
 have h1:((l.take j).map f).length=j:=by simp;omega
 unfold lX
 rw [List.getD_eq_getElem?_getD,List.getElem?_append_right (by omega),h1,Nat.sub_self,List.drop_eq_getElem_cons h,List.getD_eq_getElem?_getD,List.getElem?_eq_getElem h];rfl
theorem Eo {l:List Int} {f:Int→Int} :lX l f l.length=l.map f:=by simp [lX]
theorem B8 {l:List Int} {f:Int→Int} {j:Nat} (h:j<l.length) (hf:f (l.getD j 0)=l.getD j 0):lX l f (j+1)=lX l f j:=by
 rw [vk h,hf]
 refine List.ext_getElem? fun i=> ?_
 rw [List.getElem?_set]
 split
 ·rename_i e;subst e
  split
  ·have:=AR (l:=l) (f:=f) h
   rename_i hl
   rw [List.getD_eq_getElem?_getD,List.getElem?_eq_getElem hl] at this
   rw [List.getElem?_eq_getElem hl]
   simpa using this.symm
  ·rename_i hl;rw [List.getElem?_eq_none (by omega)]
 ·rfl
theorem B9 {g:Gr} {p:Pl} (h:cC g p):0<(bD (·.2) g).length∧(bD (·.2) g).getD 0 0=aq p 0:=by
 have hn:=aT (aC h.1)
 have h0:=aR h.2.1 (k:=0) (by omega)
 have hm:aq p 0∈bD (·.2) g:=mC.2 ⟨h0,gv h⟩
 have hl:=List.length_pos_of_mem hm
 refine ⟨hl, ?_⟩
 have:=mC.1 (aW (l:=bD (·.2) g) (m:=0) (d:=0) hl)
 exact oQ h.1 this.1 h0 this.2 (gv h)
theorem Ca {g:Gr} {p:Pl} (h:cC g p) (hI:pn g=true):0<(bD (·.1) g).length∧(bD (·.1) g).getD 0 0=aq p (g.n.toNat - 1):=by
 have hn:=aT (aC h.1)
 have h0:=aR h.2.1 (k:=g.n.toNat - 1) (by omega)
 have hm:aq p (g.n.toNat - 1)∈bD (·.1) g:=mE.2 ⟨h0,(oU h.2.1 h0.1 h0.2).2 (pY h).1⟩
 have hl:=List.length_pos_of_mem hm
 refine ⟨hl, ?_⟩
 have:=mE.1 (aW (l:=bD (·.1) g) (m:=0) (d:=0) hl)
 exact (eM h hI this.1).1 ((oU h.2.1 this.1.1 this.1.2).1 this.2)
theorem GI {g:Gr} {p:Pl} (h:cC g p):∀ {k:Nat},k≤g.n.toNat→cK p k≤1+k*g.es.length
 |0,_=>by simp [cK]
 |k+1,hk=>by
  have:=GI h (k:=k) (by omega)
  have hx:=aR h.2.1 (show k<g.n.toNat by omega)
  have:=mD h.2.1 hx.1 hx.2
  rw [cK,Nat.add_mul];omega
theorem qx {g:Gr} {p:Pl} (h:cC g p) {k:Nat} (hk:k≤g.n.toNat):cK p k≤100000∧(∀x:Int,(bB p x).length≤100000∨¬nN g x):=by
 have hn:=aT (aC h.1)
 have h1:=GI h hk
 have h2:k*g.es.length≤64*128:=Nat.mul_le_mul (by omega) (by omega)
 refine ⟨by omega,fun x=> ?_⟩
 by_cases hx:nN g x
 ·have:=mD h.2.1 hx.1 hx.2;exact .inl (by omega)
 ·exact .inr hx
theorem Cb (g:Gr) (p:Pl) (hp:uX p) (hrun:cC g p) (hI:pn g=true) (hm0:0<g.es.length) (b:Bool) (hr:b=true↔(bJ g).1=0∧bL g p):
 Spec Tryz.prog 17 (Args [eG g,ePl p]) [] (.tup [gK (GG g p),eN 0]) []:=by
 have hm:=aC hrun.1
 have hn:=aT hm
 have hle:=bP hrun.2.1
 have hO:=mS g (by omega) p hp b hr
 have H7:=tq g (by omega)
 have H8:=eW g hm
 have K9:=eo g hm
 have PN:=sP g hm
 obtain ⟨hs1,hs2⟩:=B9 hrun
 obtain ⟨MV,hs4⟩:=Ca hrun hI
 rw [tG hr hrun] at hO
 simp only at hO
 rw [hI] at H7
 have hb0:decide ((g.es.length:Int)=0)=false:=decide_eq_false (by omega)
 have hn2:1<g.n.toNat:=by
  refine Decidable.byContradiction fun hc=> ?_
  have ht:=bG hm (i:=0) hm0
  have hh:=b8 hm (i:=0) hm0
  obtain ⟨j,hj,_⟩:=tA hrun (e:=0) (by omega) (k:=0) (by omega) (by
   obtain ⟨k,hk,e⟩:=gA hrun.2.1 hh.1 hh.2
   obtain rfl:k=0:=by omega
   exact e.symm)
  omega
 obtain ⟨s0,hs0⟩:∃s:Nat,aq p 0=s:=by have:=aR hrun.2.1 (k:=0) (by omega);exact ⟨(aq p 0).toNat,by omega⟩
 have MW:s0<p.outs.length:=by have:=aR hrun.2.1 (k:=0) (by omega);have:=hrun.2.1.1;omega
 have qz:=kD MW
 have MX:p.outs.getD s0 []=bB p (aq p 0):=by unfold bB;rw [hs0,Int.toNat_natCast]
 rw [MX] at qz
 have PO:=mD hrun.2.1 (aR hrun.2.1 (k:=0) (by omega)).1 (aR hrun.2.1 (k:=0) (by omega)).2
 have Ee:=vh (aq p 0) 0 (-1) (bB p (aq p 0)) (.sl 1 []) (sI [0, -1]) (arr (LK g p 0) g.es.length) (arr (RK g p (-1) 0) g.es.length) [aq p 0] [aq p (g.n.toNat - 1)] (by omega) (fun i hi=>by rw [cU];exact (jj hrun (by omega) hi).1) (by rw [cU,cU]) (by simp) (by simp)
 have N0:=Km hrun (k:=0) (by omega)
 have N2:=Kn (r:= -1) hrun (k:=0) (by omega)
 rw [if_pos rfl] at N0 N2
 have Ko:cE g p (aq p 0)= []:=by
  have:=j0 hrun (aR hrun.2.1 (k:=0) (by omega))
  rw [gv hrun] at this
  exact List.eq_nil_of_length_eq_zero this
 have hi1:yT g p 1= [aq p (g.n.toNat - 1)]++List.replicate ((bB p (aq p 0)).length - 1) 0:=by
  have:tF g p 0= []:=by unfold tF;rw [Ko];rfl
  show lV (yT g p 0) (tF g p 0) (aq p 0) (tF g p 0).length++_=_
  rw [this];rfl
 have MY:iQ p 1= [aq p 0]++List.replicate ((bB p (aq p 0)).length - 1) (aq p 0):=rfl
 have hc1:([aq p 0]:List Int).length=cK p 0:=rfl
 rw [hc1,N0,N2, ← hi1, ← MY] at Ee
 have yq:∀f:Int→Int,(∀e,f e=0)→List.replicate g.es.length [D.sc (.int .i64 0)]=(arr f g.es.length).map rI:=fun f hf=>by
  refine List.ext_getElem? fun i=> ?_
  simp only [arr,List.getElem?_replicate,List.getElem?_map]
  by_cases hi:i<g.es.length
  ·rw [if_pos hi,List.getElem?_range hi];simp [hf,rI]
  ·rw [if_neg hi,List.getElem?_eq_none (by simpa using hi)];rfl
 have fR:=yq (LK g p 0) fun _=>rfl
 have E8:=lD (bB p (aq p 0)) (by omega)
 have MZ:=jv [0, -1] (fC (cK p 0) ((bB p (aq p 0)).length - 1)) 1 1 (by simp) (by simp) (by rw [j4];omega)
 have Hp:List.take 1 [(0:Int), -1]++fC (cK p 0) ((bB p (aq p 0)).length - 1)++List.drop 1 [(0:Int), -1]=lW g p 0:=rfl
 rw [Hp] at MZ
 have PR:RK g p (-1) 0=LK g p 0:=by funext e;rfl
 rw [PR] at Ee
 have FP:fH g p 0=bB p (aq p 0):=rfl
 have E8:Spec Tryz.prog 53 (Args [.d (sI (bB p (s0:Int)))]) [] (.d (sI (fH g p 0))) []:=by
  rw [FP, ← hs0];exact E8
 generalize N3:arr (LK g p 0) g.es.length=A0 at Ee fR
 have tP:=j4 (c:=cK p 0) (k:=(bB p (aq p 0)).length - 1)
 generalize fC (cK p 0) ((bB p (aq p 0)).length - 1)=gs at Ee MZ tP
 unfold IW IX at Ee
 have yz:List.drop 1 (List.map rI p.ord)=(p.ord.drop 1).map rI:=by rw [List.map_drop]
 have hdl:(p.ord.drop 1).length=g.n.toNat - 1:=by rw [List.length_drop];omega
 have w6:List.take p.ord.length (List.map rI p.ord)=List.map rI p.ord:=List.take_of_length_le (by simp)
 generalize Lz:g.n.toNat - 1=N1 at hdl
 (refine Spec.intro (C:=T.cfg [67] []) (rs:= [.c 4 32, .t 5]) (T.aj _ _) Tryz.func17 rfl rfl Tryz.ntmps17 Tryz.results17 (by simp [AObj.isNest]) (by simp [AObj.isNest]) (by kernel_rfl) ?_;intro X hX hP hC aL aM vals hA;refine ⟨_,by simp,hA, ?_⟩;have af:X.P.follows .mixedOrders=true:=(by rw [hP];exact T.mixed);clear aL aM)
 repeat' (first|((first|((with_reducible (first|apply oA|apply oB));exact rfl;intro K hK)|(refine hK _ ?_;clear hK K)|((with_reducible (first|apply oG|apply oH));iterate 3 exact rfl)|((with_reducible apply oI);(iterate 2 exact rfl);intro K hK)|(with_reducible (first|apply wI|apply wJ|apply wK)));try simp only [go_sem,simprocAttr,hb0,hs2,hs4,fR,hs0,qz,yz,hdl,rI])|(show dw _ (.seq (.region 8 _ _) _) _ _;(refine xS 54 0 1 rfl rfl rfl ?_;simp only [LA.app,ASt.put,ASt.kill,putM,rml,List.set_cons_zero,List.set_cons_succ,go_sem,simprocAttr,hb0,hs2,hs4,fR,hs0,qz,yz,hdl,rI]);(refine Dl hX 52 rfl ?_;simp only [go_sem,simprocAttr,hb0,hs2,hs4,fR,hs0,qz,yz,hdl,rI]))|(with_reducible (first|apply oC|apply oJ|exact oK|apply wA|apply wB|apply wC hX hC|apply wD hX hC|apply wE hX hC af|apply wF hX hC af|apply wG|apply wH|apply And.intro))|((with_reducible refine oD ?_ ?_);kernel_rfl)|((with_reducible (first|apply oE|apply oF));(iterate 3 exact rfl);all_goals (intro h;first|(exact absurd h (by decide))|((try simp only [go_sem,simprocAttr,hb0,hs2,hs4,fR,hs0,qz,yz,hdl,rI] at h);(try with_reducible intro K hK);simp only [go_sem,simprocAttr,hb0,hs2,hs4,fR,hs0,qz,yz,hdl,rI])))|((first|((with_reducible apply wL);exact rfl)|((with_reducible apply wM);exact rfl));all_goals (try ((with_reducible intro h);first|(exact absurd h (by decide))|(try simp only [go_sem,simprocAttr,hb0,hs2,hs4,fR,hs0,qz,yz,hdl,rI] at h))))|omega|((first|refine aa hX hC hP (hO) rfl rfl rfl (by simp only [go_sem,simprocAttr,hb0,hs2,hs4,fR,hs0,qz,yz,hdl,rI]) rfl ?_|refine aa hX hC hP (H7) rfl rfl rfl (by simp only [go_sem,simprocAttr,hb0,hs2,hs4,fR,hs0,qz,yz,hdl,rI]) rfl ?_|refine aa hX hC hP (H8) rfl rfl rfl (by simp only [go_sem,simprocAttr,hb0,hs2,hs4,fR,hs0,qz,yz,hdl,rI]) rfl ?_|refine aa hX hC hP (K9) rfl rfl rfl (by simp only [go_sem,simprocAttr,hb0,hs2,hs4,fR,hs0,qz,yz,hdl,rI]) rfl ?_|refine aa hX hC hP (PN) rfl rfl rfl (by simp only [go_sem,simprocAttr,hb0,hs2,hs4,fR,hs0,qz,yz,hdl,rI]) rfl ?_|(refine az hX hC hP [(10000,54),(10001,59),(10002,63),(10003,65),(10004,67),(10005,300),(10006,301)] (Ee) rfl rfl rfl ?_ ?_ ?_ ?_ ?_ ?_ ?_ ?_ ?_ ?_ ?_ ?_ ?_ ?_;(focus (simp only [go_sem,simprocAttr,hb0,hs2,hs4,fR,hs0,qz,yz,hdl,rI];done));(iterate 12 (focus (simp [go_sem,simprocAttr,hb0,hs2,hs4,fR,hs0,qz,yz,hdl,rI];done)));simp only [go_sem,simprocAttr,hb0,hs2,hs4,fR,hs0,qz,yz,hdl,rI,List.map_cons,List.map_nil])|refine aa hX hC hP (E8) rfl rfl rfl (by simp only [go_sem,simprocAttr,hb0,hs2,hs4,fR,hs0,qz,yz,hdl,rI]) rfl ?_|(refine aY hX hC hP (MZ) rfl rfl rfl ?_ ?_ rfl ?_;iterate 2 (focus (simp only [go_sem,simprocAttr,hb0,hs2,hs4,fR,hs0,qz,yz,hdl,rI];done))));try simp only [go_sem,simprocAttr,hb0,hs2,hs4,fR,hs0,qz,yz,hdl,rI])|(intro h))
 refine ah (fun j:Nat=>j≤N1) (fun j=>⟨[(3, .ptr 3 0),(4, .ptr 4 0),(6, .d (.sl 1 (vT (gr g p g.n.toNat)))),(10,eN s0),(11,eN (aq p N1)),(12, .ptr 54 0),(106, .d (sI (p.ord.drop 1))),(107,eN N1),(108,eN j)], [(54, .box [.d (sI (fH g p j)), .d (sI (lW g p j)), .ref 59, .ref 63, .ref 300, .ref 301]),(59, .own 3 1 ((arr (LK g p (j+1)) g.es.length).map rI)),(63, .own 3 1 ((arr (RK g p (-1) (j+1)) g.es.length).map rI)),(300, .tip 3 1 ((iQ p (j+1)).map rI)),(301, .own 3 1 ((yT g p (j+1)).map rI)),(3, .box [.d (sI p.ord), .d (.sl 1 (vI p.outs))]),(4, .box [.nil 3, .nil 3, .nil 3, .nil 3])]⟩) (fun j=>N1 - j) 0 (by omega) ?_ ?_
 ·refine Le.of ?_ ?_<;>simp [go_sem,simprocAttr,Lz,w6]
  omega
 rintro j hj
 rcases Nat.lt_or_ge j N1 with hjl|IN
 ·have hb:decide ((j:Int)<(N1:Int))=true:=decide_eq_true (by omega)
  have hjn:j+1<g.n.toNat:=by omega
  obtain ⟨a,p1,p2,p3,p4,p5,p6,p7⟩:=Em hrun hI hjn
  have IT:=aR hrun.2.1 hjn
  have hx:(p.ord.drop 1).getD j 0=aq p (j+1):=by
   rw [List.getD_eq_getElem?_getD,List.getElem?_drop,Nat.add_comm 1 j]
   show _=p.ord.getD (j+1) 0
   rw [List.getD_eq_getElem?_getD]
  have jx:=fun i hi=>(jj hrun hjn (e:=i) hi).1
  have Ag:=mD hrun.2.1 IT.1 IT.2
  have Kq:=oS hrun.2.1 (Nat.le_refl _) hjn
  have hel:=oR (g:=g) (p:=p) (k:=g.n.toNat)
  have N4:=Ei hrun hI hjn
  have hL:=Km hrun (k:=j+1) hjn
  have hR:=Kn (r:= -1) hrun (k:=j+1) hjn
  rw [if_neg (by omega)] at hL hR
  have vJ:iQ p (j+1+1)=iQ p (j+1)++List.replicate ((bB p (aq p (j+1))).length - 1) (aq p (j+1)):=rfl
  have hhi:yT g p (j+1+1)=lV (yT g p (j+1)) (tF g p (j+1)) (aq p (j+1)) (tF g p (j+1)).length++List.replicate ((bB p (aq p (j+1))).length - 1) 0:=rfl
  have M1:=F5 hrun hI hjn
  have kV:=gJ (p:=p) (k:=j+1)
  have uf:=qZ (g:=g) (p:=p) (k:=j+1)
  have N5:=(qx hrun (k:=j+1) (by omega)).1
  have M3:fH g p (j+1)=if bB p (aq p (j+1))= [] then fH g p j else (fH g p j).take (dF (fH g p j) (eO g p (aq p (j+1)))).toNat++bB p (aq p (j+1))++(fH g p j).drop ((dF (fH g p j) (eO g p (aq p (j+1)))).toNat+(cE g p (aq p (j+1))).length):=rfl
  have M4:lW g p (j+1)=(lW g p j).take ((dF (fH g p j) (eO g p (aq p (j+1)))).toNat+1)++fC (cK p (j+1)) ((bB p (aq p (j+1))).length - 1)++(lW g p j).drop ((dF (fH g p j) (eO g p (aq p (j+1)))).toNat+(cE g p (aq p (j+1))).length):=rfl
  rw [p1,Int.toNat_natCast] at M3 M4
  obtain ⟨r1,r2,r3⟩:=wT hrun hI hjn
  have QZ:(fH g p j).length≤10000:=by
   rw [r1]
   have:=ff (m:=(List.range g.es.length).map Int.ofNat) (Ek hrun (k:=j+1) (by omega)) fun e he=>by
    have hi:=dQ hm hrun.2.1 (k:=j+1) (by omega) fun i hi=>hrun.2.2 i (by omega)
    obtain ⟨t,ht,rfl⟩:=List.mem_map.1 he
    obtain ⟨⟨h1,h2⟩,_⟩:=o4 hm hi.1.togV ht
    exact List.mem_map.2 ⟨t.1.toNat,List.mem_range.2 (by omega),by simp;omega⟩
   simp at this
   omega
  have hfr:eO g p (aq p (j+1))=((fQ g p (j+1)).getD 0 (0,0,0)).1:=by
   unfold eO
   rw [N4]
   cases fQ g p (j+1)<;>rfl
  rw [N4,List.length_map] at p2 p3 p6 p7 M3 M4
  have hIx:=aS (fH g p j) (eO g p (aq p (j+1))) (by omega)
  rw [p1] at hIx
  rw [hfr] at hIx p5
  have nM:=wS (aq p (j+1)) (bB p (aq p (j+1))) (fH g p j) (lW g p j) (arr (LK g p (j+1)) g.es.length) (arr (RK g p (-1) (j+1)) g.es.length) (iQ p (j+1)) (yT g p (j+1)) a (a+(fQ g p (j+1)).length) (by omega) (by omega) (by omega) (by omega) (by omega) (by rw [p7];exact M1) (by omega) (fun i hi=>by rw [cU];exact jx i hi) (by rw [cU,cU]) (by omega) (by omega)
  rw [p7,p5,p6,kV, ← hhi, ← vJ, ← M3, ← M4] at nM
  rw [← hfr] at nM
  rw [hL,hR] at nM
  obtain ⟨x,M5⟩:∃x:Nat,aq p (j+1)=x:=⟨(aq p (j+1)).toNat,by omega⟩
  have lu:x<p.outs.length:=by have:=hrun.2.1.1;omega
  have hv:=kD lu
  have hla:p.outs.getD x []=bB p (aq p (j+1)):=by unfold bB;rw [M5,Int.toNat_natCast]
  rw [hla] at hv
  have zO:=fun d=>qR (ls:=gr g p g.n.toNat) (k:=x) (by omega) d
  have hex:(gr g p g.n.toNat).getD x []=fQ g p (j+1):=by rw [← Kq,M5,Int.toNat_natCast]
  rw [hex] at zO
  have hvl:(vT (gr g p g.n.toNat)).length=g.n.toNat:=by rw [vT_length,hel]
  have Bx:x<g.n.toNat:=by omega
  obtain ⟨bb,N6⟩:∃bb:Nat,bb=a+(fQ g p (j+1)).length:=⟨_,rfl⟩
  have qd:(a:Int)+((fQ g p (j+1)).length:Int)=(bb:Int):=by omega
  rw [← N6] at nM
  have j7:bb≤10000:=by omega
  generalize bB p (aq p (j+1))=o at nM hv
  rw [M5] at nM hx
  generalize fQ g p (j+1)=gn at hIx zO qd p2
  clear N6
  generalize Hq:fH g p (j+1)=E2 at nM
  generalize fH g p j=E1 at nM hIx
  generalize hq1:lW g p (j+1)=G2 at nM
  generalize lW g p j=G1 at nM
  generalize FE:arr (LK g p (j+1+1)) g.es.length=A2 at nM
  generalize PT:arr (RK g p (-1) (j+1+1)) g.es.length=B2 at nM
  generalize arr (LK g p (j+1)) g.es.length=A1 at nM
  generalize arr (RK g p (-1) (j+1)) g.es.length=B1 at nM
  generalize PU:iQ p (j+1+1)=L2 at nM
  generalize PV:yT g p (j+1+1)=H2 at nM
  generalize iQ p (j+1)=L1 at nM
  generalize yT g p (j+1)=H1 at nM
  generalize vT (gr g p g.n.toNat)=VE at zO hvl
  unfold IW IX at nM
  repeat' (first|((first|((with_reducible (first|apply oA|apply oB));exact rfl;intro K hK)|(refine hK _ ?_;clear hK K)|((with_reducible (first|apply oG|apply oH));iterate 3 exact rfl)|((with_reducible apply oI);(iterate 2 exact rfl);intro K hK)|(with_reducible (first|apply wI|apply wJ|apply wK)));try simp only [go_sem,simprocAttr,hb,hx,hv,zO,hvl,qd])|(show dw _ (.region 15 _ _) _ _;(refine c7 hX 54 4 302 300 rfl rfl rfl (by first|exact .inl rfl|exact .inr rfl) (by decide) (by decide) ?_;simp only [LA.app,ASt.put,ASt.kill,subT,rmk,putM,rml,kl,AV.sub,AV.subs,AObj.sub,List.set_cons_zero,List.set_cons_succ,go_sem,simprocAttr,hb,hx,hv,zO,hvl,qd]);(refine c7 hX 54 5 303 301 rfl rfl rfl (by first|exact .inl rfl|exact .inr rfl) (by decide) (by decide) ?_;simp only [LA.app,ASt.put,ASt.kill,subT,rmk,putM,rml,kl,AV.sub,AV.subs,AObj.sub,List.set_cons_zero,List.set_cons_succ,go_sem,simprocAttr,hb,hx,hv,zO,hvl,qd]))|(with_reducible (first|apply oC|apply oJ|exact oK|apply wA|apply wB|apply wC hX hC|apply wD hX hC|apply wE hX hC af|apply wF hX hC af|apply wG|apply wH|apply And.intro))|((with_reducible refine oD ?_ ?_);kernel_rfl)|((with_reducible (first|apply oE|apply oF));(iterate 3 exact rfl);all_goals (intro h;first|(exact absurd h (by decide))|((try simp only [go_sem,simprocAttr,hb,hx,hv,zO,hvl,qd] at h);(try with_reducible intro K hK);simp only [go_sem,simprocAttr,hb,hx,hv,zO,hvl,qd])))|((first|((with_reducible apply wL);exact rfl)|((with_reducible apply wM);exact rfl));all_goals (try ((with_reducible intro h);first|(exact absurd h (by decide))|(try simp only [go_sem,simprocAttr,hb,hx,hv,zO,hvl,qd] at h))))|omega|((first|refine aa hX hC hP (hIx) rfl rfl rfl (by simp only [go_sem,simprocAttr,hb,hx,hv,zO,hvl,qd]) rfl ?_|(refine az hX hC hP [(10000,54),(10001,59),(10002,63),(10003,300),(10004,301),(10005,302),(10006,303)] (nM) rfl rfl rfl ?_ ?_ ?_ ?_ ?_ ?_ ?_ ?_ ?_ ?_ ?_ ?_ ?_ ?_;(focus (simp only [go_sem,simprocAttr,hb,hx,hv,zO,hvl,qd];done));(iterate 12 (focus (simp [go_sem,simprocAttr,hb,hx,hv,zO,hvl,qd];done)));simp only [go_sem,simprocAttr,hb,hx,hv,zO,hvl,qd,List.map_cons,List.map_nil]));try simp only [go_sem,simprocAttr,hb,hx,hv,zO,hvl,qd])|(intro h))
  refine ⟨j+1,by omega, ?_,by omega⟩
  rw [Hq,hq1,FE,PT,PU,PV]
  refine Le.of ?_ ?_<;>simp [go_sem,simprocAttr,hb,hx,hv,zO,hvl,qd]
 have hb:decide ((j:Int)<(N1:Int))=false:=decide_eq_false (by omega)
 obtain rfl:j=N1:=by omega
 have PW:j+1=g.n.toNat:=by omega
 rw [PW]
 have kV:=gJ (p:=p) (k:=g.n.toNat)
 have uf:=qZ (g:=g) (p:=p) (k:=g.n.toNat)
 have N5:=(qx hrun (k:=g.n.toNat) (by omega)).1
 have PX:GG g p=⟨arr (LK g p g.n.toNat) g.es.length,(arr (RK g p (-1) g.n.toNat) g.es.length).map (mK g p),iQ p g.n.toNat++ [(s0:Int)],yT g p g.n.toNat++ [aq p j]⟩:=by unfold GG;rw [hs0,Lz]
 have PY:(arr (RK g p (-1) g.n.toNat) g.es.length).length=g.es.length:=cU
 rw [PX]
 have hrf:∀f,mK g p f=if f= -1 then (cK p g.n.toNat:Int) else f:=fun f=>rfl
 generalize arr (RK g p (-1) g.n.toNat) g.es.length=RA at PY
 generalize arr (LK g p g.n.toNat) g.es.length=LA
 generalize iQ p g.n.toNat=LO at kV
 generalize yT g p g.n.toNat=HI at uf
 generalize fH g p j=E1
 generalize lW g p j=G1
 generalize cK p g.n.toNat=cc at kV uf N5 hrf
 repeat' (first|((first|((with_reducible (first|apply oA|apply oB));exact rfl;intro K hK)|(refine hK _ ?_;clear hK K)|((with_reducible (first|apply oG|apply oH));iterate 3 exact rfl)|((with_reducible apply oI);(iterate 2 exact rfl);intro K hK)|(with_reducible (first|apply wI|apply wJ|apply wK)));try simp only [go_sem,simprocAttr,hb,kV])|(with_reducible (first|apply oC|apply oJ|exact oK|apply wA|apply wB|apply wC hX hC|apply wD hX hC|apply wE hX hC af|apply wF hX hC af|apply wG|apply wH|apply And.intro))|((with_reducible refine oD ?_ ?_);kernel_rfl)|((with_reducible (first|apply oE|apply oF));(iterate 3 exact rfl);all_goals (intro h;first|(exact absurd h (by decide))|((try simp only [go_sem,simprocAttr,hb,kV] at h);(try with_reducible intro K hK);simp only [go_sem,simprocAttr,hb,kV])))|((first|((with_reducible apply wL);exact rfl)|((with_reducible apply wM);exact rfl));all_goals (try ((with_reducible intro h);first|(exact absurd h (by decide))|(try simp only [go_sem,simprocAttr,hb,kV] at h))))|omega|(intro h))
 refine ah (fun i:Nat=>i≤RA.length) (fun i=>⟨[(4, .ptr 4 0),(12, .ptr 54 0),(17,eN cc),(175, .ref 63),(176,eN RA.length),(177,eN i)], [(54, .box [.d (sI E1), .d (sI G1), .ref 59, .ref 63, .ref 156, .ref 164]),(59, .own 3 1 (LA.map rI)),(63, .own 3 1 ((lX RA (mK g p) i).map rI)),(156, .tip 3 1 ((LO++ [(s0:Int)]).map rI)),(164, .own 3 1 ((HI++ [aq p j]).map rI)),(4, .box [.nil 3, .nil 3, .nil 3, .nil 3])]⟩) (fun i=>RA.length - i) 0 (by omega) ?_ ?_
 ·refine Le.of ?_ ?_<;>simp [go_sem,simprocAttr,lX,rI]
 rintro i hi
 rcases Nat.lt_or_ge i RA.length with hil|JY
 ·have dI:decide ((i:Int)<(RA.length:Int))=true:=decide_eq_true (by omega)
  have hml:=En (l:=RA) (f:=mK g p) (j:=i)
  have hma:=AR (f:=mK g p) hil
  by_cases sD:RA.getD i 0= -1
  ·have au:decide ((lX RA (mK g p) i).getD i 0= -1)=true:=decide_eq_true (by rw [hma,sD])
   have eV:=vk (f:=mK g p) hil
   rw [hrf,if_pos sD] at eV
   generalize lX RA (mK g p) i=M at hml au eV
   repeat' (first|((first|((with_reducible (first|apply oA|apply oB));exact rfl;intro K hK)|(refine hK _ ?_;clear hK K)|((with_reducible (first|apply oG|apply oH));iterate 3 exact rfl)|((with_reducible apply oI);(iterate 2 exact rfl);intro K hK)|(with_reducible (first|apply wI|apply wJ|apply wK)));try simp only [go_sem,simprocAttr,dI,au,hml])|(with_reducible (first|apply oC|apply oJ|exact oK|apply wA|apply wB|apply wC hX hC|apply wD hX hC|apply wE hX hC af|apply wF hX hC af|apply wG|apply wH|apply And.intro))|((with_reducible refine oD ?_ ?_);kernel_rfl)|((with_reducible (first|apply oE|apply oF));(iterate 3 exact rfl);all_goals (intro h;first|(exact absurd h (by decide))|((try simp only [go_sem,simprocAttr,dI,au,hml] at h);(try with_reducible intro K hK);simp only [go_sem,simprocAttr,dI,au,hml])))|((first|((with_reducible apply wL);exact rfl)|((with_reducible apply wM);exact rfl));all_goals (try ((with_reducible intro h);first|(exact absurd h (by decide))|(try simp only [go_sem,simprocAttr,dI,au,hml] at h))))|omega|(intro h))
   refine ⟨i+1,by omega, ?_,by omega⟩
   rw [eV]
   refine Le.of ?_ ?_<;>simp [go_sem,simprocAttr,dI,au,hml,rI]
  ·have au:decide ((lX RA (mK g p) i).getD i 0= -1)=false:=decide_eq_false (by rw [hma];exact sD)
   have eV:=B8 (f:=mK g p) hil (by rw [hrf,if_neg sD])
   generalize lX RA (mK g p) i=M at hml au eV
   repeat' (first|((first|((with_reducible (first|apply oA|apply oB));exact rfl;intro K hK)|(refine hK _ ?_;clear hK K)|((with_reducible (first|apply oG|apply oH));iterate 3 exact rfl)|((with_reducible apply oI);(iterate 2 exact rfl);intro K hK)|(with_reducible (first|apply wI|apply wJ|apply wK)));try simp only [go_sem,simprocAttr,dI,au,hml])|(with_reducible (first|apply oC|apply oJ|exact oK|apply wA|apply wB|apply wC hX hC|apply wD hX hC|apply wE hX hC af|apply wF hX hC af|apply wG|apply wH|apply And.intro))|((with_reducible refine oD ?_ ?_);kernel_rfl)|((with_reducible (first|apply oE|apply oF));(iterate 3 exact rfl);all_goals (intro h;first|(exact absurd h (by decide))|((try simp only [go_sem,simprocAttr,dI,au,hml] at h);(try with_reducible intro K hK);simp only [go_sem,simprocAttr,dI,au,hml])))|((first|((with_reducible apply wL);exact rfl)|((with_reducible apply wM);exact rfl));all_goals (try ((with_reducible intro h);first|(exact absurd h (by decide))|(try simp only [go_sem,simprocAttr,dI,au,hml] at h))))|omega|(intro h))
   refine ⟨i+1,by omega, ?_,by omega⟩
   rw [eV]
   refine Le.of ?_ ?_<;>simp [go_sem,simprocAttr,dI,au,hml,rI]
 have dI:decide ((i:Int)<(RA.length:Int))=false:=decide_eq_false (by omega)
 obtain rfl:i=RA.length:=by omega
 rw [Eo]
 repeat' (first|((first|((with_reducible (first|apply oA|apply oB));exact rfl;intro K hK)|(refine hK _ ?_;clear hK K)|((with_reducible (first|apply oG|apply oH));iterate 3 exact rfl)|((with_reducible apply oI);(iterate 2 exact rfl);intro K hK)|(with_reducible (first|apply wI|apply wJ|apply wK)));try simp only [go_sem,simprocAttr,dI,gK])|(with_reducible (first|apply oC|apply oJ|exact oK|apply wA|apply wB|apply wC hX hC|apply wD hX hC|apply wE hX hC af|apply wF hX hC af|apply wG|apply wH|apply And.intro))|((with_reducible refine oD ?_ ?_);kernel_rfl)|((with_reducible (first|apply oE|apply oF));(iterate 3 exact rfl);all_goals (intro h;first|(exact absurd h (by decide))|((try simp only [go_sem,simprocAttr,dI,gK] at h);(try with_reducible intro K hK);simp only [go_sem,simprocAttr,dI,gK])))|((first|((with_reducible apply wL);exact rfl)|((with_reducible apply wM);exact rfl));all_goals (try ((with_reducible intro h);first|(exact absurd h (by decide))|(try simp only [go_sem,simprocAttr,dI,gK] at h))))|omega|(intro h))
end Go.Ab
end
section
namespace Go.Ab
open Go.Proofs
set_option maxRecDepth 10000
set_option linter.unusedSectionVars false
section
variable (g:Gr) (p:Pl)
def cN:Nat:=cK p g.n.toNat
def Lf (e:Int):Int:=LK g p g.n.toNat e
def Rf (e:Int):Int:=RK g p (cN g p) g.n.toNat e
def F6:List Int:=iQ p g.n.toNat++ [aq p 0]
def IY:List Int:=yT g p g.n.toNat++ [aq p (g.n.toNat - 1)]
def PZ (f:Int):Int:=(F6 g p).getD f.toNat 0
def Q0 (f:Int):Int:=(IY g p).getD f.toNat 0
end
section
variable {g:Gr} {p:Pl}
theorem F7:(F6 g p).length=cN g p+1:=by simp [F6,gJ,cN]
variable (h:cC g p) (hI:pn g=true)
include h hI
theorem Kr {a:Int} (ha:(jt g p).K7 a):∃k u b v,k<g.n.toNat∧kU g a=aq p k∧bB p (aq p k)=u++a::b::v:=by
 obtain ⟨x,u,b,v,e⟩:=ha
 by_cases hx:nN g x
 ·obtain ⟨k,hk,rfl⟩:=gA h.2.1 hx.1 hx.2
  rw [jh hx] at e
  exact ⟨k,u,b,v,hk,(nO h hk e).1,e⟩
 ·rw [oZ hx] at e;cases u<;>cases e
theorem AS {a:Int} (ha:(jt g p).K7 a):∃f:Nat,1≤f∧f<cN g p∧∀r,RK g p r g.n.toNat a=f:=by
 obtain ⟨k,u,b,v,hk,_,e⟩:=Kr h hI ha
 have hl:(bB p (aq p k)).length=u.length+(v.length+2):=by rw [e];simp
 have DF:cK p (k+1)=cK p k+((bB p (aq p k)).length - 1):=rfl
 obtain ⟨d,hd⟩:=Nat.exists_eq_add_of_le (show k+1≤g.n.toNat by omega)
 have hmo:=qX (p:=p) (k:=k+1) (d:=d)
 rw [← hd] at hmo
 have hp:0<cK p k:=p9
 have Jh:cN g p=cK p g.n.toNat:=rfl
 exact ⟨cK p k+u.length,by omega,by omega,fun r=>by rw [ji h hk e (by omega) (Nat.le_refl _)];omega⟩
theorem lZ:(jt g p).iE (Lf g p) (Rf g p) 0 (cN g p) (PZ g p):=by
 have F:=nP h hI (r:=cN g p) (.inr (Int.le_refl _))
 exact {F with
  new:=fun {x u a b v} e=>by
   obtain ⟨h1,h2,h3⟩:=F.new e
   obtain ⟨f,_,h5,h6⟩:=AS h hI (a:=a) ⟨x,u,b,v,e⟩
   have h7:Rf g p a=f:=h6 _
   have h8:RK g p (cN g p) g.n.toNat a=f:=h6 _
   refine ⟨?_,h2,h3⟩
   rw [h8] at h1
   show (iQ p g.n.toNat++ [aq p 0]).getD (Rf g p a).toNat 0=x
   rw [h7, ← h1,Int.toNat_natCast,lK (by rw [gJ];exact h5)]}
theorem Ks {e:Int} (he:0≤e∧e<g.es.length):mK g p (RK g p (-1) g.n.toNat e)=Rf g p e:=by
 have F:=nP h hI (r:= -1) (.inl (by omega))
 have F':=nP h hI (r:=cN g p) (.inr (Int.le_refl _))
 rcases Eb (AH h hI) F F' (d:=_+1) (Nat.lt_succ_self _) (e:=e) he with ⟨h1,h2⟩|⟨a,h1,_,h2,h3⟩
 ·rw [h1];unfold mK Rf;rw [if_pos rfl,h2];rfl
 ·obtain ⟨f,h4,_,h5⟩:=AS h hI h1
  unfold mK Rf
  rw [h2,h3,h5,h5,if_neg (by omega)]
theorem H9:GG g p=⟨arr (Lf g p) g.es.length,arr (Rf g p) g.es.length,F6 g p,IY g p⟩:=by
 unfold GG
 have:(arr (RK g p (-1) g.n.toNat) g.es.length).map (mK g p)=arr (Rf g p) g.es.length:=by
  unfold arr
  rw [List.map_map]
  refine List.map_congr_left fun i hi=> ?_
  have:=List.mem_range.1 hi
  exact Ks h hI (e:=(i:Int)) (by omega)
 rw [this];rfl
theorem GJ {e:Int} (he:0≤e∧e<g.es.length):1≤Rf g p e∧Rf g p e≤cN g p:=by
 have hp:0<cK p g.n.toNat:=p9
 rcases Eb (AH h hI) (lZ h hI) (lZ h hI) (d:=_+1) (Nat.lt_succ_self _) (e:=e) he with ⟨h1,_⟩|⟨a,h1,_,h2,_⟩
 ·rw [h1];have:cN g p=cK p g.n.toNat:=rfl;omega
 ·obtain ⟨f,h3,h4,h5⟩:=AS h hI h1
  have h5:Rf g p a=f:=h5 _
  omega
theorem GK {e:Int} (he:0≤e∧e<g.es.length):0≤Lf g p e∧Lf g p e<cN g p:=by
 have hp:0<cK p g.n.toNat:=p9
 rcases GD (AH h hI) (lZ h hI) (lZ h hI) (d:=_+1) (Nat.lt_succ_self _) (e:=e) he with ⟨h1,_⟩|⟨a,h1,h2,_⟩
 ·rw [h1];have:cN g p=cK p g.n.toNat:=rfl;omega
 ·obtain ⟨f,h3,h4,h5⟩:=AS h hI h1
  have h5:Rf g p a=f:=h5 _
  omega
theorem GL:(cN g p:Int)=g.es.length - g.n+2:=by
 have hm:=aC h.1
 have hn:=aT hm
 have uZ:bB p (aq p (g.n.toNat - 1))= []:=(eM h hI (aR h.2.1 (by omega))).2 rfl
 have key:∀k,k<g.n.toNat→(cK p k:Int)=1+((List.range k).flatMap fun j=>bB p (aq p j)).length - k:=by
  intro k
  induction k with
  |zero=>intro _;simp [cK]
  |succ k ih=>
   intro hk
   have hO:bB p (aq p k)≠ []:=fun h1=>by
    have:=(eM h hI (aR h.2.1 (show k<g.n.toNat by omega))).1 h1
    have:=dP h.2.1 (show k<g.n.toNat by omega) (by omega) this
    omega
   have:=List.length_pos_iff.2 hO
   have ih:=ih (by omega)
   have e1:((List.range (k+1)).flatMap fun j=>bB p (aq p j))=((List.range k).flatMap fun j=>bB p (aq p j))++bB p (aq p k):=by rw [List.range_succ,List.flatMap_append];simp
   rw [e1,List.length_append,cK]
   omega
 have hall:((List.range (g.n.toNat - 1)).flatMap fun j=>bB p (aq p j)).length=g.es.length:=by
  have cI:∀k,k≤g.n.toNat→((List.range k).flatMap fun j=>bB p (aq p j)).Nodup:=by
   intro k
   induction k with
   |zero=>intro _;simp
   |succ k ih=>
    intro hk
    rw [List.range_succ,List.flatMap_append,List.nodup_append]
    refine ⟨ih (by omega),by simpa using Eg h (by omega),fun a ha b hb e=> ?_⟩
    subst e
    obtain ⟨j,hj,hja⟩:=List.mem_flatMap.1 ha
    have hj:=List.mem_range.1 hj
    have hb:a∈bB p (aq p k):=by simpa using hb
    have t1:=(jj h (by omega) hja).2
    have t2:=(jj h (by omega) hb).2
    have:=dP h.2.1 (show j<g.n.toNat by omega) (by omega) (t1.symm.trans t2)
    omega
  have Kt:∀e:Int,0≤e→e<g.es.length→e∈((List.range (g.n.toNat - 1)).flatMap fun j=>bB p (aq p j)):=fun e h1 h2=>by
   have ht:=bG hm (i:=e.toNat) (by omega)
   obtain ⟨k,hk,e1⟩:=gA h.2.1 ht.1 ht.2
   have e1:aq p k=kU g e:=e1
   obtain ⟨u,v,e2⟩:=AP h hk ⟨h1,h2⟩ e1.symm
   refine List.mem_flatMap.2 ⟨k,List.mem_range.2 ?_,by rw [e2];simp⟩
   refine Decidable.byContradiction fun hc=> ?_
   obtain rfl:k=g.n.toNat - 1:=by omega
   rw [uZ] at e2;cases u<;>cases e2
  have h1:=pL Kt
  have h2:=ff (m:=(List.range g.es.length).map Int.ofNat) (cI (g.n.toNat - 1) (by omega)) fun e he=>by
   obtain ⟨j,hj,hja⟩:=List.mem_flatMap.1 he
   have hj:=List.mem_range.1 hj
   have:=(jj h (by omega) hja).1
   exact List.mem_map.2 ⟨e.toNat,List.mem_range.2 (by omega),by simp;omega⟩
  rw [List.length_map,List.length_range] at h2
  omega
 have h1:=key (g.n.toNat - 1) (by omega)
 rw [hall] at h1
 have h2:cN g p=cK p (g.n.toNat - 1):=by
  show cK p g.n.toNat=_
  rw [show g.n.toNat=(g.n.toNat - 1)+1 by omega,cK,show g.n.toNat - 1+1 - 1=g.n.toNat - 1 by omega,uZ];rfl
 omega
theorem Ia (h0:0<g.es.length):2≤g.n:=by
 have hm:=aC h.1
 have ht:=bG hm (i:=0) h0
 have hh:=b8 hm (i:=0) h0
 obtain ⟨k,hk,e⟩:=gA h.2.1 hh.1 hh.2
 obtain ⟨j,hj,_⟩:=tA h (e:=0) (by omega) hk e.symm
 omega
end
end Go.Ab
end
section
namespace Go.Ab
open Go.Proofs
set_option maxRecDepth 10000
def Ep (q:Nat→Bool):Nat→Nat
 |0=>0
 |n+1=>Ep q n ||| (if q n then 2 ^ n else 0)
theorem o7 {q:Nat→Bool} {y:Nat} :∀ {n:Nat},(Ep q n).testBit y=(decide (y<n)&&q y)
 |0=>by simp [Ep]
 |n+1=>by
  rw [Ep,Nat.testBit_or,o7]
  by_cases h:y=n
  ·subst h
   cases hq:q y<;>simp [Nat.testBit_two_pow_self]
  ·have h2:(if q n then 2 ^ n else 0).testBit y=false:=by
    split
    ·rw [Nat.testBit_two_pow];exact decide_eq_false fun e=>h e.symm
    ·simp
   rw [h2,Bool.or_false]
   congr 1
   rw [decide_eq_decide];omega
inductive Cu (g:Gr) (both:Bool) (c:Nat→Bool) (x:Nat):Nat→Prop
 |refl:Cu g both c x x
 |fwd {i:Nat} :i<g.es.length→c i=true→Cu g both c x (tl g i).toNat→Cu g both c x (hd g i).toNat
 |N7 {i:Nat} :i<g.es.length→c i=true→both=true→Cu g both c x (hd g i).toNat→Cu g both c x (tl g i).toNat
theorem Cu.trans {g:Gr} {both:Bool} {c:Nat→Bool} {x y z:Nat} (h1:Cu g both c x y) (h2:Cu g both c y z):Cu g both c x z:=by
 induction h2 with
 |refl=>exact h1
 |fwd a b _ ih=>exact .fwd a b ih
 |N7 a b d _ ih=>exact .N7 a b d ih
open Classical in
noncomputable def M6 (g:Gr) (both:Bool) (c:Nat→Bool) (x:Nat):Nat:=Ep (fun y=>decide (Cu g both c x y)) g.n.toNat
noncomputable def P3 (g:Gr) (both:Bool) (c:Nat→Bool):List Nat:=(List.range g.n.toNat).map (M6 g both c)
open Classical in
theorem La {g:Gr} {both:Bool} {c:Nat→Bool} {x y:Nat} :(M6 g both c x).testBit y=true↔y<g.n.toNat∧Cu g both c x y:=by
 unfold M6
 rw [o7]
 simp
def Ku (g:Gr) (both:Bool) (c:Nat→Bool) (a:List Nat):Nat→List Nat × Bool
 |0=>(a,false)
 |k+1=>
  let s:=Ku g both c a k
  if c k=true then
   let t:=s.1.getD (tl g k).toNat 0 ||| s.1.getD (hd g k).toNat 0
   let h:=if both=true then t else s.1.getD (hd g k).toNat 0
   ((s.1.set (tl g k).toNat t).set (hd g k).toNat h,s.2||(decide (t≠s.1.getD (tl g k).toNat 0)||decide (h≠s.1.getD (hd g k).toNat 0)))
  else s
structure N8 (g:Gr) (both:Bool) (c:Nat→Bool) (a:List Nat):Prop where
 len:a.length=g.n.toNat
 own:∀x,x<g.n.toNat→(a.getD x 0).testBit x=true
 snd:∀x y,x<g.n.toNat→(a.getD x 0).testBit y=true→y<g.n.toNat∧Cu g both c x y
theorem N8.lt {g:Gr} {both:Bool} {c:Nat→Bool} {a:List Nat} (h:N8 g both c a) (hn:g.n.toNat≤64) (x:Nat):a.getD x 0<18446744073709551616:=by
 by_cases hx:x<g.n.toNat
 ·have:a.getD x 0<2 ^ 64:=Nat.lt_pow_two_of_testBit _ fun i hi=>by
   cases hb:(a.getD x 0).testBit i with
   |false=>rfl
   |true=>have:=(h.snd x i hx hb).1;omega
  simpa using this
 ·rw [List.getD_eq_getElem?_getD,List.getElem?_eq_none (by rw [h.len];omega)];simp
def P4 (a:List Nat):Nat:=a.foldr (· + ·) 0
end Go.Ab
end
section
namespace Go.Ab
open Go.Proofs
attribute [local congr] ACall.congr
set_option maxRecDepth 20000
set_option maxHeartbeats 8000000
def rU (n:Nat):List D:= [.sc (.int .u64 (n:Int))]
def eU (n:Nat):AV:= .d (.sc (.int .u64 (n:Int)))
def sU (l:List Nat):D:= .sl 1 (l.map rU)
theorem getD_rU (ps:List Nat) (i:Nat):(ps.map rU).getD i [.sc (.int .u64 0)]= [.sc (.int .u64 ((ps.getD i 0:Nat):Int))]:=by
 rw [List.getD_eq_getElem?_getD,List.getElem?_map,List.getD_eq_getElem?_getD]
 cases ps[i]? <;>rfl
attribute [go_sem] eU sU getD_rU InU
end Go.Ab
end
section
namespace Go.Ab
open Go.Proofs
attribute [local congr] ACall.congr
set_option maxRecDepth 20000
set_option maxHeartbeats 8000000
def M7 (k:Nat):List Nat:=(List.range k).map fun x=>2 ^ x
def N9 (g:Gr):List Nat:=if aO g=true then M7 g.n.toNat else []
theorem uQ {l:List Nat} :∀r∈l.map rU,∀x∈r,∃v,x=D.sc v:=by
 intro r hr x hx
 obtain ⟨y,_,rfl⟩:=List.mem_map.1 hr
 simp only [rU,List.mem_singleton] at hx
 exact ⟨_,hx⟩
noncomputable def Q1 (g:Gr):List Nat:=if aO g=true then P3 g false (fun _=>true) else []
end Go.Ab
end
section
namespace Go.Ab
open Go.Proofs
set_option maxRecDepth 10000
set_option linter.unusedSectionVars false
def P5 (s:Nat) (x:Int):Bool:=decide (0≤x)&&decide (x<64)&&s.testBit x.toNat
section
variable {P:PS} (h:P.Ok) {L R:Int→Int} {f0 f1:Int} {low:Int→Int} (F:P.iE L R f0 f1 low)
def F8 (P:PS) (R:Int→Int) (f:Int):Nat→Nat
 |0=>0
 |j+1=>if R (P.sh j)=f then j+1 else F8 P R f j
theorem AT {i:Nat} {f:Int} (hf:R (P.sh i)=f):∀ {m:Nat},i<m→i+1≤F8 P R f m
 |0,h=>by omega
 |m+1,h=>by
  unfold F8
  split
  ·omega
  ·rename_i hne
   by_cases e:i=m
   ·subst e;exact absurd hf hne
   ·exact AT hf (by omega)
theorem Er {i:Nat} {f:Int} :∀ {m:Nat},(∀j,j<m→R (P.sh j)=f→j<i)→F8 P R f m≤i
 |0,_=>Nat.zero_le _
 |m+1,hj=>by
  unfold F8
  split
  ·rename_i e;exact hj m (by omega) e
  ·exact Er fun j h1 h2=>hj j (by omega) h2
include h F
theorem F9 {e:Int} (he:P.E e):F8 P R (L e) P.m<F8 P R (R e) P.m:=by
 obtain ⟨i,hi,rfl⟩:=mA h he
 have h1:=AT (P:=P) (R:=R) (i:=i) (f:=R (P.sh i)) rfl hi
 have h2:F8 P R (L (P.sh i)) P.m≤i:=Er fun j hj hR=>Bp h F hj hi (by rw [hR];exact .refl)
 omega
end
section
variable (g:Gr) (p:Pl)
def qe:Gr:=⟨(cN g p:Int)+1,(List.range g.es.length).map fun i:Nat=>(Lf g p i,Rf g p i)⟩
end
section
variable {g:Gr} {p:Pl}
theorem wU:(qe g p).es.length=g.es.length:=by simp [qe]
theorem Ib {i:Nat} (hi:i<g.es.length):tl (qe g p) i=Lf g p i:=by
 show ((qe g p).es.getD i (0,0)).1=_
 simp [qe,List.getD_eq_getElem?_getD,List.getElem?_range hi]
theorem Ic {i:Nat} (hi:i<g.es.length):hd (qe g p) i=Rf g p i:=by
 show ((qe g p).es.getD i (0,0)).2=_
 simp [qe,List.getD_eq_getElem?_getD,List.getElem?_range hi]
variable (h:cC g p) (hI:pn g=true)
include h hI
theorem Ga (h0:0<g.es.length) (hl:g.es.length≤60):aO (qe g p)=true:=by
 have he:=GL h hI
 have hn:=Ia h hI h0
 unfold aO
 have hn:(qe g p).n=(cN g p:Int)+1:=rfl
 rw [wU,hn]
 simp only [Bool.and_eq_true,decide_eq_true_eq,Bool.not_eq_true',List.any_eq_false]
 refine ⟨⟨⟨by omega,by omega⟩,by omega⟩,fun e hm=> ?_⟩
 obtain ⟨i,hi,rfl⟩:=List.mem_map.1 hm
 have hi:=List.mem_range.1 hi
 have h1:=GK h hI (e:=(i:Int)) (by omega)
 have h2:=GJ h hI (e:=(i:Int)) (by omega)
 simp only [ow,tY,hn,Bool.or_eq_true,decide_eq_true_eq]
 omega
theorem Es (hm:aO (qe g p)=true):oM (qe g p)=true:=(qT hm).2 ⟨fun f=>F8 (jt g p) (Rf g p) f (jt g p).m,fun i hi=>by
 rw [wU] at hi
 rw [Ib hi,Ic hi]
 exact F9 (AH h hI) (lZ h hI) (e:=(i:Int)) ⟨by omega,by show (i:Int)<(g.es.length:Int);omega⟩⟩
end
end Go.Ab
end
section
namespace Go.Ab
open Go.Proofs
attribute [local congr] ACall.congr
set_option maxRecDepth 10000
set_option maxHeartbeats 16000000
end Go.Ab
end
section
namespace Go.Ab
open Go.Proofs
attribute [local congr] ACall.congr
set_option maxRecDepth 20000
set_option maxHeartbeats 8000000
theorem yA (g:Gr) (hl:g.es.length≤1000) (p:Pl) (hp:uX p) (b:Bool) (hr:b=true↔(bJ g).1=0∧bL g p):
 Spec Tryz.prog 17 (Args [eG g,ePl p]) [] (.tup [gK (GH b g p).1,eN (GH b g p).2]) []:=by
 have hO:=mS g hl p hp b hr
 have H7:=tq g hl
 by_cases h0:(dn b g p).2.1=0
 rotate_left
 ·have hK:GH b g p=(q6,1):=if_neg fun h=>h0 h.1.1
  have hb0:decide ((dn b g p).2.1=0)=false:=decide_eq_false h0
  rw [hK]
  (refine Spec.intro (C:=T.cfg [] []) (rs:= [.c 4 32, .t 5]) (T.aj _ _) Tryz.func17 rfl rfl Tryz.ntmps17 Tryz.results17 (by simp [AObj.isNest]) (by simp [AObj.isNest]) (by kernel_rfl) ?_;intro X hX hP hC aL aM vals hA;refine ⟨_,by simp,hA, ?_⟩;have af:X.P.follows .mixedOrders=true:=(by rw [hP];exact T.mixed);clear aL aM)
  repeat' (first|((first|((with_reducible (first|apply oA|apply oB));exact rfl;intro K hK)|(refine hK _ ?_;clear hK K)|((with_reducible (first|apply oG|apply oH));iterate 3 exact rfl)|((with_reducible apply oI);(iterate 2 exact rfl);intro K hK)|(with_reducible (first|apply wI|apply wJ|apply wK)));try simp only [go_sem,simprocAttr,hb0,gK,q6,List.map_nil])|(with_reducible (first|apply oC|apply oJ|exact oK|apply wA|apply wB|apply wC hX hC|apply wD hX hC|apply wE hX hC af|apply wF hX hC af|apply wG|apply wH|apply And.intro))|((with_reducible refine oD ?_ ?_);kernel_rfl)|((with_reducible (first|apply oE|apply oF));(iterate 3 exact rfl);all_goals (intro h;first|(exact absurd h (by decide))|((try simp only [go_sem,simprocAttr,hb0,gK,q6,List.map_nil] at h);(try with_reducible intro K hK);simp only [go_sem,simprocAttr,hb0,gK,q6,List.map_nil])))|((first|((with_reducible apply wL);exact rfl)|((with_reducible apply wM);exact rfl));all_goals (try ((with_reducible intro h);first|(exact absurd h (by decide))|(try simp only [go_sem,simprocAttr,hb0,gK,q6,List.map_nil] at h))))|omega|((first|refine aa hX hC hP (hO) rfl rfl rfl (by simp only [go_sem,simprocAttr,hb0,gK,q6,List.map_nil]) rfl ?_);try simp only [go_sem,simprocAttr,hb0,gK,q6,List.map_nil])|(intro h))
 obtain ⟨hrun,hR⟩:=uY hr h0
 cases hI:pn g with
 |false=>
  have hK:GH b g p=(q6,1):=if_neg fun h=>by rw [hI] at h;cases h.1.2
  rw [hR] at hO
  simp only at hO
  rw [hI] at H7
  rw [hK]
  (refine Spec.intro (C:=T.cfg [] []) (rs:= [.c 4 32, .t 5]) (T.aj _ _) Tryz.func17 rfl rfl Tryz.ntmps17 Tryz.results17 (by simp [AObj.isNest]) (by simp [AObj.isNest]) (by kernel_rfl) ?_;intro X hX hP hC aL aM vals hA;refine ⟨_,by simp,hA, ?_⟩;have af:X.P.follows .mixedOrders=true:=(by rw [hP];exact T.mixed);clear aL aM)
  repeat' (first|((first|((with_reducible (first|apply oA|apply oB));exact rfl;intro K hK)|(refine hK _ ?_;clear hK K)|((with_reducible (first|apply oG|apply oH));iterate 3 exact rfl)|((with_reducible apply oI);(iterate 2 exact rfl);intro K hK)|(with_reducible (first|apply wI|apply wJ|apply wK)));try simp only [go_sem,simprocAttr,gK,q6,List.map_nil])|(with_reducible (first|apply oC|apply oJ|exact oK|apply wA|apply wB|apply wC hX hC|apply wD hX hC|apply wE hX hC af|apply wF hX hC af|apply wG|apply wH|apply And.intro))|((with_reducible refine oD ?_ ?_);kernel_rfl)|((with_reducible (first|apply oE|apply oF));(iterate 3 exact rfl);all_goals (intro h;first|(exact absurd h (by decide))|((try simp only [go_sem,simprocAttr,gK,q6,List.map_nil] at h);(try with_reducible intro K hK);simp only [go_sem,simprocAttr,gK,q6,List.map_nil])))|((first|((with_reducible apply wL);exact rfl)|((with_reducible apply wM);exact rfl));all_goals (try ((with_reducible intro h);first|(exact absurd h (by decide))|(try simp only [go_sem,simprocAttr,gK,q6,List.map_nil] at h))))|omega|((first|refine aa hX hC hP (hO) rfl rfl rfl (by simp only [go_sem,simprocAttr,gK,q6,List.map_nil]) rfl ?_|refine aa hX hC hP (H7) rfl rfl rfl (by simp only [go_sem,simprocAttr,gK,q6,List.map_nil]) rfl ?_);try simp only [go_sem,simprocAttr,gK,q6,List.map_nil])|(intro h))
 |true=>
  by_cases hm:0<g.es.length
  ·have hK:GH b g p=(GG g p,0):=if_pos ⟨⟨h0,hI⟩,hm⟩
   rw [hK]
   exact Cb g p hp hrun hI hm b hr
  ·have hK:GH b g p=(q6,1):=if_neg fun h=>hm h.2
   have au:decide ((g.es.length:Int)=0)=true:=decide_eq_true (by omega)
   rw [hR] at hO
   simp only at hO
   rw [hI] at H7
   rw [hK]
   (refine Spec.intro (C:=T.cfg [] []) (rs:= [.c 4 32, .t 5]) (T.aj _ _) Tryz.func17 rfl rfl Tryz.ntmps17 Tryz.results17 (by simp [AObj.isNest]) (by simp [AObj.isNest]) (by kernel_rfl) ?_;intro X hX hP hC aL aM vals hA;refine ⟨_,by simp,hA, ?_⟩;have af:X.P.follows .mixedOrders=true:=(by rw [hP];exact T.mixed);clear aL aM)
   repeat' (first|((first|((with_reducible (first|apply oA|apply oB));exact rfl;intro K hK)|(refine hK _ ?_;clear hK K)|((with_reducible (first|apply oG|apply oH));iterate 3 exact rfl)|((with_reducible apply oI);(iterate 2 exact rfl);intro K hK)|(with_reducible (first|apply wI|apply wJ|apply wK)));try simp only [go_sem,simprocAttr,au,gK,q6,List.map_nil])|(with_reducible (first|apply oC|apply oJ|exact oK|apply wA|apply wB|apply wC hX hC|apply wD hX hC|apply wE hX hC af|apply wF hX hC af|apply wG|apply wH|apply And.intro))|((with_reducible refine oD ?_ ?_);kernel_rfl)|((with_reducible (first|apply oE|apply oF));(iterate 3 exact rfl);all_goals (intro h;first|(exact absurd h (by decide))|((try simp only [go_sem,simprocAttr,au,gK,q6,List.map_nil] at h);(try with_reducible intro K hK);simp only [go_sem,simprocAttr,au,gK,q6,List.map_nil])))|((first|((with_reducible apply wL);exact rfl)|((with_reducible apply wM);exact rfl));all_goals (try ((with_reducible intro h);first|(exact absurd h (by decide))|(try simp only [go_sem,simprocAttr,au,gK,q6,List.map_nil] at h))))|omega|((first|refine aa hX hC hP (hO) rfl rfl rfl (by simp only [go_sem,simprocAttr,au,gK,q6,List.map_nil]) rfl ?_|refine aa hX hC hP (H7) rfl rfl rfl (by simp only [go_sem,simprocAttr,au,gK,q6,List.map_nil]) rfl ?_);try simp only [go_sem,simprocAttr,au,gK,q6,List.map_nil])|(intro h))
end Go.Ab
end
section
namespace Go.Ab
open Go.Proofs
attribute [local congr] ACall.congr
set_option maxRecDepth 20000
set_option maxHeartbeats 8000000
def Et (f:Fc) (k:Nat):List Edge:=(List.range k).map fun i:Nat=>(f.L.getD i 0,f.R.getD i 0)
theorem Gb {f:Fc} {k:Nat} :(Et f k).length=k:=by simp [Et]
theorem Eu {f:Fc} {k:Nat} :(Et f (k+1)).map rE=(Et f k).map rE++ [rE (f.L.getD k 0,f.R.getD k 0)]:=by simp [Et,List.range_succ]
theorem yC (f:Fc) (h1:f.L.length≤100000) (h2:f.R.length=f.L.length):Spec Tryz.prog 23 (Args [gK f]) [] (eG ⟨f.lo.length,Et f f.L.length⟩) []:=by
 have hmin:min (f.L.length:Int) (f.R.length:Int)=f.L.length:=by rw [h2];simp
 (refine Spec.intro (C:=T.cfg [] []) (rs:= [.c 2 24]) (T.aj _ _) Tryz.func23 rfl rfl Tryz.ntmps23 Tryz.results23 (by simp [AObj.isNest]) (by simp [AObj.isNest]) (by kernel_rfl) ?_;intro X hX hP hC aL aM vals hA;refine ⟨_,by simp,hA, ?_⟩;have af:X.P.follows .mixedOrders=true:=(by rw [hP];exact T.mixed);clear aL aM)
 repeat' (first|((first|((with_reducible (first|apply oA|apply oB));exact rfl;intro K hK)|(refine hK _ ?_;clear hK K)|((with_reducible (first|apply oG|apply oH));iterate 3 exact rfl)|((with_reducible apply oI);(iterate 2 exact rfl);intro K hK)|(with_reducible (first|apply wI|apply wJ|apply wK)));try simp only [go_sem,simprocAttr,gK,hmin])|(show dw _ (.seq (.region 2 _ _) _) _ _;(refine gF hX 3 1 200 (.tip 58 2 []) rfl rfl rfl (by simp only [go_sem,simprocAttr,gK,hmin]) (by decide) (by simp [go_sem,simprocAttr,gK,hmin]) ⟨58,2,by decide, .inr rfl⟩ ?_;simp only [LA.app,ASt.put,ASt.kill,subT,rmk,putM,rml,kl,AV.sub,AV.subs,AObj.sub,List.set_cons_zero,List.set_cons_succ,go_sem,simprocAttr,gK,hmin]))|(with_reducible (first|apply oC|apply oJ|exact oK|apply wA|apply wB|apply wC hX hC|apply wD hX hC|apply wE hX hC af|apply wF hX hC af|apply wG|apply wH|apply And.intro))|((with_reducible refine oD ?_ ?_);kernel_rfl)|((with_reducible (first|apply oE|apply oF));(iterate 3 exact rfl);all_goals (intro h;first|(exact absurd h (by decide))|((try simp only [go_sem,simprocAttr,gK,hmin] at h);(try with_reducible intro K hK);simp only [go_sem,simprocAttr,gK,hmin])))|((first|((with_reducible apply wL);exact rfl)|((with_reducible apply wM);exact rfl));all_goals (try ((with_reducible intro h);first|(exact absurd h (by decide))|(try simp only [go_sem,simprocAttr,gK,hmin] at h))))|omega|(intro h))
 refine ah (fun k:Nat=>k≤f.L.length) (fun k=>⟨[(1, .ptr 1 0),(2, .ptr 2 0),(3, .ptr 3 0),(15,eN f.L.length),(16,eN k)], [(1, .box [.d (sI f.L), .d (sI f.R), .d (sI f.lo), .d (sI f.hi)]),(2, .box [eN 0, .nil 58]),(3, .box [eN f.lo.length, .ref 200]),(200, .tip 58 2 ((Et f k).map rE))]⟩) (fun k=>f.L.length - k) 0 (by omega) ?_ ?_
 ·refine Le.of ?_ ?_<;>simp [go_sem,simprocAttr,gK,hmin,Et]
 rintro k hk
 rcases Nat.lt_or_ge k f.L.length with hlt|hge
 ·have hb:decide ((k:Int)<(f.L.length:Int))=true:=decide_eq_true (by omega)
  have eV:=Eu (f:=f) (k:=k)
  have FQ:=Gb (f:=f) (k:=k)
  generalize Et f k=G at eV FQ
  repeat' (first|((first|((with_reducible (first|apply oA|apply oB));exact rfl;intro K hK)|(refine hK _ ?_;clear hK K)|((with_reducible (first|apply oG|apply oH));iterate 3 exact rfl)|((with_reducible apply oI);(iterate 2 exact rfl);intro K hK)|(with_reducible (first|apply wI|apply wJ|apply wK)));try simp only [go_sem,simprocAttr,hb,FQ])|(show dw _ (.region 6 _ _) _ _;(refine c7 hX 3 1 33 200 rfl rfl rfl (by first|exact .inl rfl|exact .inr rfl) (by decide) (by decide) ?_;simp only [LA.app,ASt.put,ASt.kill,subT,rmk,putM,rml,kl,AV.sub,AV.subs,AObj.sub,List.set_cons_zero,List.set_cons_succ,go_sem,simprocAttr,hb,FQ]))|(with_reducible (first|apply oC|apply oJ|exact oK|apply wA|apply wB|apply wC hX hC|apply wD hX hC|apply wE hX hC af|apply wF hX hC af|apply wG|apply wH|apply And.intro))|((with_reducible refine oD ?_ ?_);kernel_rfl)|((with_reducible (first|apply oE|apply oF));(iterate 3 exact rfl);all_goals (intro h;first|(exact absurd h (by decide))|((try simp only [go_sem,simprocAttr,hb,FQ] at h);(try with_reducible intro K hK);simp only [go_sem,simprocAttr,hb,FQ])))|((first|((with_reducible apply wL);exact rfl)|((with_reducible apply wM);exact rfl));all_goals (try ((with_reducible intro h);first|(exact absurd h (by decide))|(try simp only [go_sem,simprocAttr,hb,FQ] at h))))|omega|(intro h))
  refine ⟨k+1,by omega, ?_,by omega⟩
  rw [eV]
  refine Le.of ?_ ?_<;>simp [go_sem,simprocAttr,hb,FQ,rE]
 ·have hb:decide ((k:Int)<(f.L.length:Int))=false:=decide_eq_false (by omega)
  obtain rfl:k=f.L.length:=by omega
  repeat' (first|((first|((with_reducible (first|apply oA|apply oB));exact rfl;intro K hK)|(refine hK _ ?_;clear hK K)|((with_reducible (first|apply oG|apply oH));iterate 3 exact rfl)|((with_reducible apply oI);(iterate 2 exact rfl);intro K hK)|(with_reducible (first|apply wI|apply wJ|apply wK)));try simp only [go_sem,simprocAttr,hb])|(with_reducible (first|apply oC|apply oJ|exact oK|apply wA|apply wB|apply wC hX hC|apply wD hX hC|apply wE hX hC af|apply wF hX hC af|apply wG|apply wH|apply And.intro))|((with_reducible refine oD ?_ ?_);kernel_rfl)|((with_reducible (first|apply oE|apply oF));(iterate 3 exact rfl);all_goals (intro h;first|(exact absurd h (by decide))|((try simp only [go_sem,simprocAttr,hb] at h);(try with_reducible intro K hK);simp only [go_sem,simprocAttr,hb])))|((first|((with_reducible apply wL);exact rfl)|((with_reducible apply wM);exact rfl));all_goals (try ((with_reducible intro h);first|(exact absurd h (by decide))|(try simp only [go_sem,simprocAttr,hb] at h))))|omega|(intro h))
def P6 (b:Bool) (g:Gr) (p:Pl):Bool:= !D5 g p&&pn g&&decide ((dn b g p).2.1=0)&&decide (0<(g.es.length:Int))&&decide ((g.es.length:Int)≤60)
theorem Ie {b:Bool} {g:Gr} {p:Pl} (hr:b=true↔(bJ g).1=0∧bL g p) (hrun:cC g p) (hI:pn g=true) (h0:0<g.es.length):GH b g p=(⟨arr (Lf g p) g.es.length,arr (Rf g p) g.es.length,F6 g p,IY g p⟩,0):=by
 have:GH b g p=(GG g p,0):=if_pos ⟨⟨by rw [tG hr hrun],hI⟩,h0⟩
 rw [this,H9 hrun hI]
theorem Gc {g:Gr} {p:Pl} :(⟨((F6 g p).length:Nat),Et ⟨arr (Lf g p) g.es.length,arr (Rf g p) g.es.length,F6 g p,IY g p⟩ (arr (Lf g p) g.es.length).length⟩:Gr)=qe g p:=by
 unfold qe Et
 rw [F7,cU]
 congr 1
 refine List.map_congr_left fun i hi=> ?_
 have hi:=List.mem_range.1 hi
 rw [qc hi,qc hi]
def g18:Gr:=⟨4, [(0,1),(1,3),(0,2),(2,3)]⟩
def IZ:Pl:=⟨[0,1,2,3], [[0,2], [1], [3], []]⟩
theorem Kv:(true=true)↔(bJ g18).1=0∧bL g18 IZ:=⟨fun _=>⟨by decide,⟨rfl,by decide,by decide⟩⟩,fun _=>rfl⟩
end Go.Ab
end
section
namespace Go.Ab
open Go.Proofs
attribute [local congr] ACall.congr
set_option maxRecDepth 20000
set_option maxHeartbeats 16000000
structure Br where
 y:List Int
 fr:List Int
 to:List Int
 x:List Int
def aB (b:Br):AV:= .agg [.d (sI b.y), .d (sI b.fr), .d (sI b.to), .d (sI b.x)]
section
variable (g:Gr) (p:Pl)
def E9 (f:Int):Int:=(yp (qe g p)).getD f.toNat 0
def GM (e:Int):Int:=E9 g p (Lf g p e)
def Ev (l:List Int):Int:=if l= [] then 0 else E9 g p (Lf g p (l.getD 0 0))
def toV (l:List Int):Int:=(if l= [] then E9 g p (cN g p) else E9 g p (Rf g p (l.getD (l.length - 1) 0))) - 1
def M8:Br:=⟨yp g,p.outs.map (Ev g p),p.outs.map (toV g p),arr (GM g p) g.es.length⟩
end
theorem Ew {f:Int→Int} {k:Nat} :(arr f (k+1)).map rI=(arr f k).map rI++ [rI (f k)]:=by simp [arr,List.range_succ]
theorem Gd {g:Gr} (hc:(bJ g).1=0):oM g=true:=by
 rcases B4 (aC hc) with h|h|h|h|h
 ·rw [h.1] at hc;cases hc
 ·rw [h.1] at hc;cases hc
 ·rw [h.1] at hc;cases hc
 ·rw [h.1] at hc;cases hc
 ·exact h.2.2
theorem Cc (g:Gr) (p:Pl) (hB:D5 g p=false) (hrun:cC g p) (hI:pn g=true) (h0:0<g.es.length) (P7:g.es.length≤60) (b:Bool) (hr:b=true↔(bJ g).1=0∧bL g p):
 Spec Tryz.prog 36 (Args [eG g,ePl p]) [] (.tup [aB (M8 g p),eN 0]) []:=by
 have hm:=aC hrun.1
 have hn:=aT hm
 have hm2:=Ga hrun hI h0 P7
 have hD:=yA g (by omega) p (yj hB) b hr
 rw [Ie hr hrun hI h0] at hD
 simp only at hD
 have Oa:=yC ⟨arr (Lf g p) g.es.length,arr (Rf g p) g.es.length,F6 g p,IY g p⟩ (by simp only [cU];omega) (by simp only [cU])
 simp only [Gc] at Oa
 have P8:=qw g hm (Gd hrun.1)
 have P9:=qw (qe g p) hm2 (Es hrun hI hm2)
 obtain ⟨k1,k2,k3,k4⟩:=HX hm2 (Es hrun hI hm2)
 have Qa:(qe g p).n.toNat=cN g p+1:=by show ((cN g p:Int)+1).toNat=_;omega
 rw [Qa] at k1
 have hbd:∀v:Nat,(yp (qe g p)).getD v 0≤100000:=fun v=>by
  have:=(qW (g:=qe g p) (k:=(bK (qe g p)).length) v).2
  have h1:=Az hm2
  rw [wU] at this
  have h2:(bK (qe g p)).length*g.es.length≤64*128:=Nat.mul_le_mul h1 (by omega)
  have h3:yp (qe g p)=pZ (qe g p) (bK (qe g p)).length:=rfl
  rw [h3];omega
 have Q2:=GL hrun hI
 have hac:∀f:Nat,E9 g p f=(yp (qe g p)).getD f 0:=fun f=>by unfold E9;rw [Int.toNat_natCast]
 have a1:=fun (i:Nat) (hi:i<g.es.length)=>qc (f:=Lf g p) hi
 have a2:=fun (i:Nat) (hi:i<g.es.length)=>qc (f:=Rf g p) hi
 have c1:(arr (Lf g p) g.es.length).length=g.es.length:=cU
 have c2:(arr (Rf g p) g.es.length).length=g.es.length:=cU
 have Ob:=fun (i:Nat) (hi:i<g.es.length)=>GK hrun hI (e:=(i:Int)) (by omega)
 have I1:=fun (i:Nat) (hi:i<g.es.length)=>GJ hrun hI (e:=(i:Int)) (by omega)
 have Qb:∀k,k<g.es.length→GM g p k=E9 g p ((arr (Lf g p) g.es.length).getD k 0):=fun k hk=>by rw [a1 k hk];rfl
 have hout:∀x,x<p.outs.length→∀e∈p.outs.getD x [],0≤e∧e<g.es.length:=fun x hx e he=>by
  have Bx:x<g.n.toNat:=by have:=hrun.2.1.1;omega
  have:=(hrun.2.1.2.2 x Bx).mem_iff.1 he
  exact (bV.1 this).1
 have Ag:=yj hB
 have M9:=(wv hB).2.2.2
 have Q3:=(wv hB).2.2.1
 have Qc:M8 g p=⟨yp g,p.outs.map (Ev g p),p.outs.map (toV g p),arr (GM g p) g.es.length⟩:=rfl
 rw [Qc]
 have hfr:∀l,Ev g p l=if l= [] then 0 else E9 g p (Lf g p (l.getD 0 0)):=fun _=>rfl
 have hto:∀l,toV g p l=(if l= [] then E9 g p (cN g p) else E9 g p (Rf g p (l.getD (l.length - 1) 0))) - 1:=fun _=>rfl
 generalize Q4:arr (Lf g p) g.es.length=LL at*
 generalize Q5:arr (Rf g p) g.es.length=RR at*
 generalize F6 g p=lo at*
 generalize IY g p=hi at*
 generalize Qd:yp (qe g p)=ac at*
 generalize qe g p=G2 at*
 generalize yp g=yl at*
 (refine Spec.intro (C:=T.cfg [] []) (rs:= [.c 4 64, .t 5]) (T.aj _ _) Tryz.func36 rfl rfl Tryz.ntmps36 Tryz.results36 (by simp [AObj.isNest]) (by simp [AObj.isNest]) (by kernel_rfl) ?_;intro X hX hP hC aL aM vals hA;refine ⟨_,by simp,hA, ?_⟩;have af:X.P.follows .mixedOrders=true:=(by rw [hP];exact T.mixed);clear aL aM)
 repeat' (first|((first|((with_reducible (first|apply oA|apply oB));exact rfl;intro K hK)|(refine hK _ ?_;clear hK K)|((with_reducible (first|apply oG|apply oH));iterate 3 exact rfl)|((with_reducible apply oI);(iterate 2 exact rfl);intro K hK)|(with_reducible (first|apply wI|apply wJ|apply wK)));try simp only [go_sem,simprocAttr,gK,aB,c1])|(with_reducible (first|apply oC|apply oJ|exact oK|apply wA|apply wB|apply wC hX hC|apply wD hX hC|apply wE hX hC af|apply wF hX hC af|apply wG|apply wH|apply And.intro))|((with_reducible refine oD ?_ ?_);kernel_rfl)|((with_reducible (first|apply oE|apply oF));(iterate 3 exact rfl);all_goals (intro h;first|(exact absurd h (by decide))|((try simp only [go_sem,simprocAttr,gK,aB,c1] at h);(try with_reducible intro K hK);simp only [go_sem,simprocAttr,gK,aB,c1])))|((first|((with_reducible apply wL);exact rfl)|((with_reducible apply wM);exact rfl));all_goals (try ((with_reducible intro h);first|(exact absurd h (by decide))|(try simp only [go_sem,simprocAttr,gK,aB,c1] at h))))|omega|((first|refine aa hX hC hP (hD) rfl rfl rfl (by simp only [go_sem,simprocAttr,gK,aB,c1]) rfl ?_|refine aa hX hC hP (Oa) rfl rfl rfl (by simp only [go_sem,simprocAttr,gK,aB,c1]) rfl ?_|refine aa hX hC hP (P8) rfl rfl rfl (by simp only [go_sem,simprocAttr,gK,aB,c1]) rfl ?_|refine aa hX hC hP (P9) rfl rfl rfl (by simp only [go_sem,simprocAttr,gK,aB,c1]) rfl ?_);try simp only [go_sem,simprocAttr,gK,aB,c1])|(intro h))
 (refine gF hX 10 3 200 (.tip 3 1 []) rfl rfl rfl (by simp only [go_sem,simprocAttr,gK,aB,c1]) (by decide) (by simp [go_sem,simprocAttr,gK,aB,c1]) ⟨3,1,by decide, .inr rfl⟩ ?_;simp only [LA.app,ASt.put,ASt.kill,subT,rmk,putM,rml,kl,AV.sub,AV.subs,AObj.sub,List.set_cons_zero,List.set_cons_succ,go_sem,simprocAttr,gK,aB,c1])
 (refine gF hX 10 1 201 (.tip 3 1 []) rfl rfl rfl (by simp only [go_sem,simprocAttr,gK,aB,c1]) (by decide) (by simp [go_sem,simprocAttr,gK,aB,c1]) ⟨3,1,by decide, .inr rfl⟩ ?_;simp only [LA.app,ASt.put,ASt.kill,subT,rmk,putM,rml,kl,AV.sub,AV.subs,AObj.sub,List.set_cons_zero,List.set_cons_succ,go_sem,simprocAttr,gK,aB,c1])
 (refine gF hX 10 2 202 (.tip 3 1 []) rfl rfl rfl (by simp only [go_sem,simprocAttr,gK,aB,c1]) (by decide) (by simp [go_sem,simprocAttr,gK,aB,c1]) ⟨3,1,by decide, .inr rfl⟩ ?_;simp only [LA.app,ASt.put,ASt.kill,subT,rmk,putM,rml,kl,AV.sub,AV.subs,AObj.sub,List.set_cons_zero,List.set_cons_succ,go_sem,simprocAttr,gK,aB,c1])
 refine ah (fun k:Nat=>k≤g.es.length) (fun k=>⟨[(2, .ptr 2 0),(3, .ptr 3 0),(4, .ptr 4 0),(6, .ptr 6 0),(8, .d (sI ac)),(10, .ptr 10 0),(41, .d (sI LL)),(42,eN g.es.length),(43,eN k)], [(2, .box [eN g.n, .d (sE g.es)]),(3, .box [.d (sI p.ord), .d (.sl 1 (vI p.outs))]),(4, .box [.nil 3, .nil 3, .nil 3, .nil 3]),(6, .box [.d (sI LL), .d (sI RR), .d (sI lo), .d (sI hi)]),(10, .box [.d (sI yl), .ref 201, .ref 202, .ref 200]),(200, .tip 3 1 ((arr (GM g p) k).map rI)),(201, .tip 3 1 []),(202, .tip 3 1 [])]⟩) (fun k=>g.es.length - k) 0 (by omega) ?_ ?_
 ·refine Le.of ?_ ?_
  ·simp [go_sem,simprocAttr,arr]
  ·simp [go_sem,simprocAttr,arr]
 rintro k hk
 rcases Nat.lt_or_ge k g.es.length with bF|yM
 ·have hb:decide ((k:Int)<(g.es.length:Int))=true:=decide_eq_true (by omega)
  have mM:=Ob k bF
  rw [← a1 k bF] at mM
  have hx1:=Qb k bF
  have eV:=Ew (f:=GM g p) (k:=k)
  have jA:(arr (GM g p) k).length=k:=cU
  generalize arr (GM g p) k=XA at eV jA
  obtain ⟨f,hf⟩:∃f:Nat,LL.getD k 0=f:=⟨(LL.getD k 0).toNat,by omega⟩
  rw [hf] at mM hx1
  rw [hac] at hx1
  repeat' (first|((first|((with_reducible (first|apply oA|apply oB));exact rfl;intro K hK)|(refine hK _ ?_;clear hK K)|((with_reducible (first|apply oG|apply oH));iterate 3 exact rfl)|((with_reducible apply oI);(iterate 2 exact rfl);intro K hK)|(with_reducible (first|apply wI|apply wJ|apply wK)));try simp only [go_sem,simprocAttr,hb,hf,k1,c1,jA])|(show dw _ (.region 11 _ _) _ _;(refine c7 hX 10 3 54 200 rfl rfl rfl (by first|exact .inl rfl|exact .inr rfl) (by decide) (by decide) ?_;simp only [LA.app,ASt.put,ASt.kill,subT,rmk,putM,rml,kl,AV.sub,AV.subs,AObj.sub,List.set_cons_zero,List.set_cons_succ,go_sem,simprocAttr,hb,hf,k1,c1,jA]))|(with_reducible (first|apply oC|apply oJ|exact oK|apply wA|apply wB|apply wC hX hC|apply wD hX hC|apply wE hX hC af|apply wF hX hC af|apply wG|apply wH|apply And.intro))|((with_reducible refine oD ?_ ?_);kernel_rfl)|((with_reducible (first|apply oE|apply oF));(iterate 3 exact rfl);all_goals (intro h;first|(exact absurd h (by decide))|((try simp only [go_sem,simprocAttr,hb,hf,k1,c1,jA] at h);(try with_reducible intro K hK);simp only [go_sem,simprocAttr,hb,hf,k1,c1,jA])))|((first|((with_reducible apply wL);exact rfl)|((with_reducible apply wM);exact rfl));all_goals (try ((with_reducible intro h);first|(exact absurd h (by decide))|(try simp only [go_sem,simprocAttr,hb,hf,k1,c1,jA] at h))))|omega|(intro h))
  refine ⟨k+1,by omega, ?_,by omega⟩
  rw [eV,hx1]
  refine Le.of ?_ ?_<;>simp [go_sem,simprocAttr,hb,hf,k1,c1,jA,rI]
 have hb:decide ((k:Int)<(g.es.length:Int))=false:=decide_eq_false (by omega)
 obtain rfl:k=g.es.length:=by omega
 generalize arr (GM g p) g.es.length=XA
 repeat' (first|((first|((with_reducible (first|apply oA|apply oB));exact rfl;intro K hK)|(refine hK _ ?_;clear hK K)|((with_reducible (first|apply oG|apply oH));iterate 3 exact rfl)|((with_reducible apply oI);(iterate 2 exact rfl);intro K hK)|(with_reducible (first|apply wI|apply wJ|apply wK)));try simp only [go_sem,simprocAttr,hb])|(with_reducible (first|apply oC|apply oJ|exact oK|apply wA|apply wB|apply wC hX hC|apply wD hX hC|apply wE hX hC af|apply wF hX hC af|apply wG|apply wH|apply And.intro))|((with_reducible refine oD ?_ ?_);kernel_rfl)|((with_reducible (first|apply oE|apply oF));(iterate 3 exact rfl);all_goals (intro h;first|(exact absurd h (by decide))|((try simp only [go_sem,simprocAttr,hb] at h);(try with_reducible intro K hK);simp only [go_sem,simprocAttr,hb])))|((first|((with_reducible apply wL);exact rfl)|((with_reducible apply wM);exact rfl));all_goals (try ((with_reducible intro h);first|(exact absurd h (by decide))|(try simp only [go_sem,simprocAttr,hb] at h))))|omega|(intro h))
 refine ah (fun k:Nat=>k≤p.outs.length) (fun k=>⟨[(2, .ptr 2 0),(3, .ptr 3 0),(4, .ptr 4 0),(6, .ptr 6 0),(8, .d (sI ac)),(10, .ptr 10 0),(58, .d (.sl 1 (vI p.outs))),(59,eN p.outs.length),(60,eN k)], [(2, .box [eN g.n, .d (sE g.es)]),(3, .box [.d (sI p.ord), .d (.sl 1 (vI p.outs))]),(4, .box [.nil 3, .nil 3, .nil 3, .nil 3]),(6, .box [.d (sI LL), .d (sI RR), .d (sI lo), .d (sI hi)]),(10, .box [.d (sI yl), .ref 201, .ref 202, .ref 200]),(200, .tip 3 1 (XA.map rI)),(201, .tip 3 1 (((p.outs.take k).map (Ev g p)).map rI)),(202, .tip 3 1 (((p.outs.take k).map (toV g p)).map rI))]⟩) (fun k=>p.outs.length - k) 0 (by omega) ?_ ?_
 ·refine Le.of ?_ ?_<;>simp [go_sem,simprocAttr]
 rintro k hk
 rcases Nat.lt_or_ge k p.outs.length with bF|yM
 rotate_left
 ·have hb:decide ((k:Int)<(p.outs.length:Int))=false:=decide_eq_false (by omega)
  obtain rfl:k=p.outs.length:=by omega
  rw [List.take_length]
  repeat' (first|((first|((with_reducible (first|apply oA|apply oB));exact rfl;intro K hK)|(refine hK _ ?_;clear hK K)|((with_reducible (first|apply oG|apply oH));iterate 3 exact rfl)|((with_reducible apply oI);(iterate 2 exact rfl);intro K hK)|(with_reducible (first|apply wI|apply wJ|apply wK)));try simp only [go_sem,simprocAttr,hb,aB])|(with_reducible (first|apply oC|apply oJ|exact oK|apply wA|apply wB|apply wC hX hC|apply wD hX hC|apply wE hX hC af|apply wF hX hC af|apply wG|apply wH|apply And.intro))|((with_reducible refine oD ?_ ?_);kernel_rfl)|((with_reducible (first|apply oE|apply oF));(iterate 3 exact rfl);all_goals (intro h;first|(exact absurd h (by decide))|((try simp only [go_sem,simprocAttr,hb,aB] at h);(try with_reducible intro K hK);simp only [go_sem,simprocAttr,hb,aB])))|((first|((with_reducible apply wL);exact rfl)|((with_reducible apply wM);exact rfl));all_goals (try ((with_reducible intro h);first|(exact absurd h (by decide))|(try simp only [go_sem,simprocAttr,hb,aB] at h))))|omega|(intro h))
 have hb:decide ((k:Int)<(p.outs.length:Int))=true:=decide_eq_true (by omega)
 have hv:=kD bF
 have ho:=hout k bF
 have hlb:=M9 _ (aW (d:= []) bF)
 have F0:(p.outs.take (k+1)).map (Ev g p)=(p.outs.take k).map (Ev g p)++ [Ev g p (p.outs.getD k [])]:=s7 bF
 have hn2:(p.outs.take (k+1)).map (toV g p)=(p.outs.take k).map (toV g p)++ [toV g p (p.outs.getD k [])]:=s7 bF
 have vX:((p.outs.take k).map (Ev g p)).length=k:=by rw [List.length_map,List.length_take];omega
 have x4:((p.outs.take k).map (toV g p)).length=k:=by rw [List.length_map,List.length_take];omega
 have o8:(((cN g p+1:Nat):Int) - 1)=((cN g p:Nat):Int):=by omega
 have Q6:=hbd (cN g p)
 have hk2:=k2 (cN g p)
 generalize p.outs.getD k []=l at hv ho hlb F0 hn2
 generalize (p.outs.take k).map (Ev g p)=F1 at F0 vX
 generalize (p.outs.take k).map (toV g p)=F2 at hn2 x4
 by_cases hl:l= []
 ·subst hl
  have e1:Ev g p []=0:=rfl
  have e2:toV g p []=ac.getD (cN g p) 0 - 1:=by rw [hto,if_pos rfl,hac]
  rw [e1] at F0
  rw [e2] at hn2
  repeat' (first|((first|((with_reducible (first|apply oA|apply oB));exact rfl;intro K hK)|(refine hK _ ?_;clear hK K)|((with_reducible (first|apply oG|apply oH));iterate 3 exact rfl)|((with_reducible apply oI);(iterate 2 exact rfl);intro K hK)|(with_reducible (first|apply wI|apply wJ|apply wK)));try simp only [go_sem,simprocAttr,hb,hv,k1,o8,vX,x4,List.map_nil,List.length_nil])|(show dw _ (.region 20 _ _) _ _;(refine c7 hX 10 1 100 201 rfl rfl rfl (by first|exact .inl rfl|exact .inr rfl) (by decide) (by decide) ?_;simp only [LA.app,ASt.put,ASt.kill,subT,rmk,putM,rml,kl,AV.sub,AV.subs,AObj.sub,List.set_cons_zero,List.set_cons_succ,go_sem,simprocAttr,hb,hv,k1,o8,vX,x4,List.map_nil,List.length_nil]);(refine c7 hX 10 2 106 202 rfl rfl rfl (by first|exact .inl rfl|exact .inr rfl) (by decide) (by decide) ?_;simp only [LA.app,ASt.put,ASt.kill,subT,rmk,putM,rml,kl,AV.sub,AV.subs,AObj.sub,List.set_cons_zero,List.set_cons_succ,go_sem,simprocAttr,hb,hv,k1,o8,vX,x4,List.map_nil,List.length_nil]))|(with_reducible (first|apply oC|apply oJ|exact oK|apply wA|apply wB|apply wC hX hC|apply wD hX hC|apply wE hX hC af|apply wF hX hC af|apply wG|apply wH|apply And.intro))|((with_reducible refine oD ?_ ?_);kernel_rfl)|((with_reducible (first|apply oE|apply oF));(iterate 3 exact rfl);all_goals (intro h;first|(exact absurd h (by decide))|((try simp only [go_sem,simprocAttr,hb,hv,k1,o8,vX,x4,List.map_nil,List.length_nil] at h);(try with_reducible intro K hK);simp only [go_sem,simprocAttr,hb,hv,k1,o8,vX,x4,List.map_nil,List.length_nil])))|((first|((with_reducible apply wL);exact rfl)|((with_reducible apply wM);exact rfl));all_goals (try ((with_reducible intro h);first|(exact absurd h (by decide))|(try simp only [go_sem,simprocAttr,hb,hv,k1,o8,vX,x4,List.map_nil,List.length_nil] at h))))|omega|(intro h))
  refine ⟨k+1,by omega, ?_,by omega⟩
  rw [F0,hn2]
  refine Le.of ?_ ?_<;>simp [go_sem,simprocAttr,hb,hv,k1,o8,vX,x4,List.map_nil,List.length_nil,rI]
 ·have hlp:=List.length_pos_iff.2 hl
  have ak:decide (0<(l.length:Int))=true:=decide_eq_true (by omega)
  have o1:=ho _ (aW (d:=0) (show 0<l.length by omega))
  have o2:=ho _ (aW (d:=0) (show l.length - 1<l.length by omega))
  have Ig:((l.length:Int) - 1)=((l.length - 1:Nat):Int):=by omega
  obtain ⟨e,he⟩:∃e:Nat,l.getD 0 0=e:=⟨(l.getD 0 0).toNat,by omega⟩
  obtain ⟨f,hf⟩:∃f:Nat,l.getD (l.length - 1) 0=f:=⟨(l.getD (l.length - 1) 0).toNat,by omega⟩
  have r1:=Ob e (by omega)
  have r2:=I1 f (by omega)
  rw [← a1 e (by omega)] at r1
  rw [← a2 f (by omega)] at r2
  obtain ⟨u,hu⟩:∃u:Nat,LL.getD e 0=u:=⟨(LL.getD e 0).toNat,by omega⟩
  obtain ⟨w,hw⟩:∃w:Nat,RR.getD f 0=w:=⟨(RR.getD f 0).toNat,by omega⟩
  have e1:Ev g p l=ac.getD u 0:=by rw [hfr,if_neg hl,he, ← a1 e (by omega),hu,hac]
  have e2:toV g p l=ac.getD w 0 - 1:=by rw [hto,if_neg hl,hf, ← a2 f (by omega),hw,hac]
  rw [hu] at r1
  rw [hw] at r2
  have Q7:=k2 w
  have Q8:=hbd w
  rw [e1] at F0
  rw [e2] at hn2
  repeat' (first|((first|((with_reducible (first|apply oA|apply oB));exact rfl;intro K hK)|(refine hK _ ?_;clear hK K)|((with_reducible (first|apply oG|apply oH));iterate 3 exact rfl)|((with_reducible apply oI);(iterate 2 exact rfl);intro K hK)|(with_reducible (first|apply wI|apply wJ|apply wK)));try simp only [go_sem,simprocAttr,hb,ak,hv,k1,c1,c2,o8,vX,x4,Ig,he,hf,hu,hw])|(show dw _ (.region 20 _ _) _ _;(refine c7 hX 10 1 100 201 rfl rfl rfl (by first|exact .inl rfl|exact .inr rfl) (by decide) (by decide) ?_;simp only [LA.app,ASt.put,ASt.kill,subT,rmk,putM,rml,kl,AV.sub,AV.subs,AObj.sub,List.set_cons_zero,List.set_cons_succ,go_sem,simprocAttr,hb,ak,hv,k1,c1,c2,o8,vX,x4,Ig,he,hf,hu,hw]);(refine c7 hX 10 2 106 202 rfl rfl rfl (by first|exact .inl rfl|exact .inr rfl) (by decide) (by decide) ?_;simp only [LA.app,ASt.put,ASt.kill,subT,rmk,putM,rml,kl,AV.sub,AV.subs,AObj.sub,List.set_cons_zero,List.set_cons_succ,go_sem,simprocAttr,hb,ak,hv,k1,c1,c2,o8,vX,x4,Ig,he,hf,hu,hw]))|(with_reducible (first|apply oC|apply oJ|exact oK|apply wA|apply wB|apply wC hX hC|apply wD hX hC|apply wE hX hC af|apply wF hX hC af|apply wG|apply wH|apply And.intro))|((with_reducible refine oD ?_ ?_);kernel_rfl)|((with_reducible (first|apply oE|apply oF));(iterate 3 exact rfl);all_goals (intro h;first|(exact absurd h (by decide))|((try simp only [go_sem,simprocAttr,hb,ak,hv,k1,c1,c2,o8,vX,x4,Ig,he,hf,hu,hw] at h);(try with_reducible intro K hK);simp only [go_sem,simprocAttr,hb,ak,hv,k1,c1,c2,o8,vX,x4,Ig,he,hf,hu,hw])))|((first|((with_reducible apply wL);exact rfl)|((with_reducible apply wM);exact rfl));all_goals (try ((with_reducible intro h);first|(exact absurd h (by decide))|(try simp only [go_sem,simprocAttr,hb,ak,hv,k1,c1,c2,o8,vX,x4,Ig,he,hf,hu,hw] at h))))|omega|(intro h))
  refine ⟨k+1,by omega, ?_,by omega⟩
  rw [F0,hn2]
  refine Le.of ?_ ?_<;>simp [go_sem,simprocAttr,hb,ak,hv,k1,c1,c2,o8,vX,x4,Ig,he,hf,hu,hw,rI]
end Go.Ab
end
section
namespace Go.Ab
open Go.Proofs
attribute [local congr] ACall.congr
set_option maxRecDepth 20000
set_option maxHeartbeats 16000000
def hasB (b:Br) (x:Nat) (q:Int):Bool:=decide (b.fr.getD x 0≤q)&&decide (q≤b.to.getD x 0)
theorem zP (b:Br) (x:Nat) (q:Int) (h1:x<b.fr.length) (h2:x<b.to.length) (hl:b.fr.length≤100000):Spec Tryz.prog 104 (Args [aB b,eN x,eN q]) [] (eB (hasB b x q)) []:=by
 cases hc:decide (b.fr.getD x 0≤q) with
 |false=>
  have hr:hasB b x q=false:=by unfold hasB;rw [hc];rfl
  rw [hr]
  (refine Spec.intro (C:=T.cfg [] []) (rs:= [.t 6]) (T.aj _ _) Tryz.func104 rfl rfl Tryz.ntmps104 Tryz.results104 (by simp [AObj.isNest]) (by simp [AObj.isNest]) (by kernel_rfl) ?_;intro X hX hP hC aL aM vals hA;refine ⟨_,by simp,hA, ?_⟩;have af:X.P.follows .mixedOrders=true:=(by rw [hP];exact T.mixed);clear aL aM)
  repeat' (first|((first|((with_reducible (first|apply oA|apply oB));exact rfl;intro K hK)|(refine hK _ ?_;clear hK K)|((with_reducible (first|apply oG|apply oH));iterate 3 exact rfl)|((with_reducible apply oI);(iterate 2 exact rfl);intro K hK)|(with_reducible (first|apply wI|apply wJ|apply wK)));try simp only [go_sem,simprocAttr,aB,hc])|(with_reducible (first|apply oC|apply oJ|exact oK|apply wA|apply wB|apply wC hX hC|apply wD hX hC|apply wE hX hC af|apply wF hX hC af|apply wG|apply wH|apply And.intro))|((with_reducible refine oD ?_ ?_);kernel_rfl)|((with_reducible (first|apply oE|apply oF));(iterate 3 exact rfl);all_goals (intro h;first|(exact absurd h (by decide))|((try simp only [go_sem,simprocAttr,aB,hc] at h);(try with_reducible intro K hK);simp only [go_sem,simprocAttr,aB,hc])))|((first|((with_reducible apply wL);exact rfl)|((with_reducible apply wM);exact rfl));all_goals (try ((with_reducible intro h);first|(exact absurd h (by decide))|(try simp only [go_sem,simprocAttr,aB,hc] at h))))|omega|(intro h))
 |true=>
  have hr:hasB b x q=decide (q≤b.to.getD x 0):=by unfold hasB;rw [hc];rfl
  rw [hr]
  (refine Spec.intro (C:=T.cfg [] []) (rs:= [.t 6]) (T.aj _ _) Tryz.func104 rfl rfl Tryz.ntmps104 Tryz.results104 (by simp [AObj.isNest]) (by simp [AObj.isNest]) (by kernel_rfl) ?_;intro X hX hP hC aL aM vals hA;refine ⟨_,by simp,hA, ?_⟩;have af:X.P.follows .mixedOrders=true:=(by rw [hP];exact T.mixed);clear aL aM)
  repeat' (first|((first|((with_reducible (first|apply oA|apply oB));exact rfl;intro K hK)|(refine hK _ ?_;clear hK K)|((with_reducible (first|apply oG|apply oH));iterate 3 exact rfl)|((with_reducible apply oI);(iterate 2 exact rfl);intro K hK)|(with_reducible (first|apply wI|apply wJ|apply wK)));try simp only [go_sem,simprocAttr,aB,hc])|(with_reducible (first|apply oC|apply oJ|exact oK|apply wA|apply wB|apply wC hX hC|apply wD hX hC|apply wE hX hC af|apply wF hX hC af|apply wG|apply wH|apply And.intro))|((with_reducible refine oD ?_ ?_);kernel_rfl)|((with_reducible (first|apply oE|apply oF));(iterate 3 exact rfl);all_goals (intro h;first|(exact absurd h (by decide))|((try simp only [go_sem,simprocAttr,aB,hc] at h);(try with_reducible intro K hK);simp only [go_sem,simprocAttr,aB,hc])))|((first|((with_reducible apply wL);exact rfl)|((with_reducible apply wM);exact rfl));all_goals (try ((with_reducible intro h);first|(exact absurd h (by decide))|(try simp only [go_sem,simprocAttr,aB,hc] at h))))|omega|(intro h))
def Ex (b:Br) (x z:Nat):Bool:=decide (b.y.getD z 0=b.y.getD x 0)&&decide (b.fr.getD z 0≤b.to.getD x 0)&&decide (b.fr.getD x 0≤b.to.getD z 0)
def Ih (b:Br) (x:Nat):Bool:=decide (b.fr.getD x 0≤b.to.getD x 0)&&(List.range x).all fun z=> !Ex b x z
def kH (b:Br):Bool:=(List.range b.y.length).all (Ih b)
theorem fJ {n:Nat} {f:Nat→Bool} {k:Nat} (hk:k<n) (h:f k=false):(List.range n).all f=false:=List.all_eq_false.2 ⟨k,List.mem_range.2 hk,by rw [h];decide⟩
theorem gB {n:Nat} {f:Nat→Bool} (h:∀k,k<n→f k=true):(List.range n).all f=true:=List.all_eq_true.2 fun k hk=>h k (List.mem_range.1 hk)
theorem apart_spec (b:Br) (h1:b.fr.length=b.y.length) (h2:b.to.length=b.y.length) (hl:b.y.length≤100000):Spec Tryz.prog 76 (Args [aB b]) [] (eB (kH b)) []:=by
 (refine Spec.intro (C:=T.cfg [] []) (rs:= [.t 2]) (T.aj _ _) Tryz.func76 rfl rfl Tryz.ntmps76 Tryz.results76 (by simp [AObj.isNest]) (by simp [AObj.isNest]) (by kernel_rfl) ?_;intro X hX hP hC aL aM vals hA;refine ⟨_,by simp,hA, ?_⟩;have af:X.P.follows .mixedOrders=true:=(by rw [hP];exact T.mixed);clear aL aM)
 repeat' (first|((first|((with_reducible (first|apply oA|apply oB));exact rfl;intro K hK)|(refine hK _ ?_;clear hK K)|((with_reducible (first|apply oG|apply oH));iterate 3 exact rfl)|((with_reducible apply oI);(iterate 2 exact rfl);intro K hK)|(with_reducible (first|apply wI|apply wJ|apply wK)));try simp only [go_sem,simprocAttr,aB])|(with_reducible (first|apply oC|apply oJ|exact oK|apply wA|apply wB|apply wC hX hC|apply wD hX hC|apply wE hX hC af|apply wF hX hC af|apply wG|apply wH|apply And.intro))|((with_reducible refine oD ?_ ?_);kernel_rfl)|((with_reducible (first|apply oE|apply oF));(iterate 3 exact rfl);all_goals (intro h;first|(exact absurd h (by decide))|((try simp only [go_sem,simprocAttr,aB] at h);(try with_reducible intro K hK);simp only [go_sem,simprocAttr,aB])))|((first|((with_reducible apply wL);exact rfl)|((with_reducible apply wM);exact rfl));all_goals (try ((with_reducible intro h);first|(exact absurd h (by decide))|(try simp only [go_sem,simprocAttr,aB] at h))))|omega|(intro h))
 refine ah (fun k:Nat=>k≤b.y.length∧∀j,j<k→Ih b j=true) (fun k=>⟨[(1, .ptr 1 0),(7, .d (sI b.y)),(8,eN b.y.length),(9,eN k)], [(1, .box [.d (sI b.y), .d (sI b.fr), .d (sI b.to), .d (sI b.x)])]⟩) (fun k=>b.y.length - k) 0 ⟨by omega,fun j hj=>by omega⟩ ?_ ?_
 ·refine Le.of ?_ ?_<;>simp [go_sem,simprocAttr]
 rintro k ⟨hk,hin⟩
 rcases Nat.lt_or_ge k b.y.length with bF|yM
 rotate_left
 ·have hb:decide ((k:Int)<(b.y.length:Int))=false:=decide_eq_false (by omega)
  obtain rfl:k=b.y.length:=by omega
  have hr:kH b=true:=gB hin
  rw [hr]
  repeat' (first|((first|((with_reducible (first|apply oA|apply oB));exact rfl;intro K hK)|(refine hK _ ?_;clear hK K)|((with_reducible (first|apply oG|apply oH));iterate 3 exact rfl)|((with_reducible apply oI);(iterate 2 exact rfl);intro K hK)|(with_reducible (first|apply wI|apply wJ|apply wK)));try simp only [go_sem,simprocAttr,hb])|(with_reducible (first|apply oC|apply oJ|exact oK|apply wA|apply wB|apply wC hX hC|apply wD hX hC|apply wE hX hC af|apply wF hX hC af|apply wG|apply wH|apply And.intro))|((with_reducible refine oD ?_ ?_);kernel_rfl)|((with_reducible (first|apply oE|apply oF));(iterate 3 exact rfl);all_goals (intro h;first|(exact absurd h (by decide))|((try simp only [go_sem,simprocAttr,hb] at h);(try with_reducible intro K hK);simp only [go_sem,simprocAttr,hb])))|((first|((with_reducible apply wL);exact rfl)|((with_reducible apply wM);exact rfl));all_goals (try ((with_reducible intro h);first|(exact absurd h (by decide))|(try simp only [go_sem,simprocAttr,hb] at h))))|omega|(intro h))
 have hb:decide ((k:Int)<(b.y.length:Int))=true:=decide_eq_true (by omega)
 by_cases hc:b.fr.getD k 0≤b.to.getD k 0
 rotate_left
 ·have hc1:decide (b.to.getD k 0<b.fr.getD k 0)=true:=decide_eq_true (by omega)
  have hr:kH b=false:=fJ bF (by unfold Ih;rw [decide_eq_false hc];rfl)
  rw [hr]
  repeat' (first|((first|((with_reducible (first|apply oA|apply oB));exact rfl;intro K hK)|(refine hK _ ?_;clear hK K)|((with_reducible (first|apply oG|apply oH));iterate 3 exact rfl)|((with_reducible apply oI);(iterate 2 exact rfl);intro K hK)|(with_reducible (first|apply wI|apply wJ|apply wK)));try simp only [go_sem,simprocAttr,hb,hc1])|(with_reducible (first|apply oC|apply oJ|exact oK|apply wA|apply wB|apply wC hX hC|apply wD hX hC|apply wE hX hC af|apply wF hX hC af|apply wG|apply wH|apply And.intro))|((with_reducible refine oD ?_ ?_);kernel_rfl)|((with_reducible (first|apply oE|apply oF));(iterate 3 exact rfl);all_goals (intro h;first|(exact absurd h (by decide))|((try simp only [go_sem,simprocAttr,hb,hc1] at h);(try with_reducible intro K hK);simp only [go_sem,simprocAttr,hb,hc1])))|((first|((with_reducible apply wL);exact rfl)|((with_reducible apply wM);exact rfl));all_goals (try ((with_reducible intro h);first|(exact absurd h (by decide))|(try simp only [go_sem,simprocAttr,hb,hc1] at h))))|omega|(intro h))
 have hc1:decide (b.to.getD k 0<b.fr.getD k 0)=false:=decide_eq_false (by omega)
 repeat' (first|((first|((with_reducible (first|apply oA|apply oB));exact rfl;intro K hK)|(refine hK _ ?_;clear hK K)|((with_reducible (first|apply oG|apply oH));iterate 3 exact rfl)|((with_reducible apply oI);(iterate 2 exact rfl);intro K hK)|(with_reducible (first|apply wI|apply wJ|apply wK)));try simp only [go_sem,simprocAttr,hb,hc1])|(with_reducible (first|apply oC|apply oJ|exact oK|apply wA|apply wB|apply wC hX hC|apply wD hX hC|apply wE hX hC af|apply wF hX hC af|apply wG|apply wH|apply And.intro))|((with_reducible refine oD ?_ ?_);kernel_rfl)|((with_reducible (first|apply oE|apply oF));(iterate 3 exact rfl);all_goals (intro h;first|(exact absurd h (by decide))|((try simp only [go_sem,simprocAttr,hb,hc1] at h);(try with_reducible intro K hK);simp only [go_sem,simprocAttr,hb,hc1])))|((first|((with_reducible apply wL);exact rfl)|((with_reducible apply wM);exact rfl));all_goals (try ((with_reducible intro h);first|(exact absurd h (by decide))|(try simp only [go_sem,simprocAttr,hb,hc1] at h))))|omega|(intro h))
 refine ah (fun z:Nat=>z≤k∧∀j,j<z→Ex b k j=false) (fun z=>⟨[(1, .ptr 1 0),(3,eN k),(4,eN (b.y.getD k 0)),(7, .d (sI b.y)),(8,eN b.y.length),(9,eN k),(25,eN k),(26,eN z)], [(1, .box [.d (sI b.y), .d (sI b.fr), .d (sI b.to), .d (sI b.x)])]⟩) (fun z=>k - z) 0 ⟨by omega,fun j hj=>by omega⟩ ?_ ?_
 ·refine Le.of ?_ ?_<;>simp [go_sem,simprocAttr]
 rintro z ⟨hz,Ey⟩
 rcases Nat.lt_or_ge z k with hzl|Mq
 rotate_left
 ·have hbz:decide ((z:Int)<(k:Int))=false:=decide_eq_false (by omega)
  obtain rfl:z=k:=by omega
  repeat' (first|((first|((with_reducible (first|apply oA|apply oB));exact rfl;intro K hK)|(refine hK _ ?_;clear hK K)|((with_reducible (first|apply oG|apply oH));iterate 3 exact rfl)|((with_reducible apply oI);(iterate 2 exact rfl);intro K hK)|(with_reducible (first|apply wI|apply wJ|apply wK)));try simp only [go_sem,simprocAttr,hbz])|(with_reducible (first|apply oC|apply oJ|exact oK|apply wA|apply wB|apply wC hX hC|apply wD hX hC|apply wE hX hC af|apply wF hX hC af|apply wG|apply wH|apply And.intro))|((with_reducible refine oD ?_ ?_);kernel_rfl)|((with_reducible (first|apply oE|apply oF));(iterate 3 exact rfl);all_goals (intro h;first|(exact absurd h (by decide))|((try simp only [go_sem,simprocAttr,hbz] at h);(try with_reducible intro K hK);simp only [go_sem,simprocAttr,hbz])))|((first|((with_reducible apply wL);exact rfl)|((with_reducible apply wM);exact rfl));all_goals (try ((with_reducible intro h);first|(exact absurd h (by decide))|(try simp only [go_sem,simprocAttr,hbz] at h))))|omega|(intro h))
  refine ⟨z+1,⟨by omega,fun j hj=> ?_⟩, ?_,by omega⟩
  ·by_cases tV:j=z
   ·subst tV
    unfold Ih
    rw [decide_eq_true hc,gB (f:=fun z=> !Ex b j z) (fun i hi=>by rw [Ey i hi];rfl)];rfl
   ·exact hin j (by omega)
  ·refine Le.of ?_ ?_<;>simp [go_sem,simprocAttr,hbz]
 have hbz:decide ((z:Int)<(k:Int))=true:=decide_eq_true (by omega)
 have hap:Ex b k z=(decide (b.y.getD z 0=b.y.getD k 0)&&decide (b.fr.getD z 0≤b.to.getD k 0)&&decide (b.fr.getD k 0≤b.to.getD z 0)):=rfl
 have hno:Ex b k z=true→kH b=false:=fun h1=>fJ bF (by unfold Ih;rw [fJ (f:=fun z=> !Ex b k z) hzl (by rw [h1];rfl),Bool.and_false])
 have hyes:Ex b k z=false→∀j,j<z+1→Ex b k j=false:=fun h1 j hj=>by
  by_cases tV:j=z
  ·subst tV;exact h1
  ·exact Ey j (by omega)
 generalize Ex b k z=av at*
 cases dJ:decide (b.y.getD z 0=b.y.getD k 0)<;>cases hd2:decide (b.fr.getD z 0≤b.to.getD k 0)<;>cases iR:decide (b.fr.getD k 0≤b.to.getD z 0)<;>rw [dJ,hd2,iR] at hap<;>simp only [Bool.and_true,Bool.and_false,Bool.true_and,Bool.false_and] at hap<;>subst hap
 all_goals (
 repeat' (first|((first|((with_reducible (first|apply oA|apply oB));exact rfl;intro K hK)|(refine hK _ ?_;clear hK K)|((with_reducible (first|apply oG|apply oH));iterate 3 exact rfl)|((with_reducible apply oI);(iterate 2 exact rfl);intro K hK)|(with_reducible (first|apply wI|apply wJ|apply wK)));try simp only [go_sem,simprocAttr,hbz,dJ,hd2,iR])|(with_reducible (first|apply oC|apply oJ|exact oK|apply wA|apply wB|apply wC hX hC|apply wD hX hC|apply wE hX hC af|apply wF hX hC af|apply wG|apply wH|apply And.intro))|((with_reducible refine oD ?_ ?_);kernel_rfl)|((with_reducible (first|apply oE|apply oF));(iterate 3 exact rfl);all_goals (intro h;first|(exact absurd h (by decide))|((try simp only [go_sem,simprocAttr,hbz,dJ,hd2,iR] at h);(try with_reducible intro K hK);simp only [go_sem,simprocAttr,hbz,dJ,hd2,iR])))|((first|((with_reducible apply wL);exact rfl)|((with_reducible apply wM);exact rfl));all_goals (try ((with_reducible intro h);first|(exact absurd h (by decide))|(try simp only [go_sem,simprocAttr,hbz,dJ,hd2,iR] at h))))|omega|(intro h)))
 all_goals (first|(rw [hno rfl];done)|(exact hno rfl)|(exact (hno rfl).symm)|(refine ⟨z+1,⟨by omega,hyes rfl⟩, ?_,by omega⟩;refine Le.of ?_ ?_<;>simp [go_sem];done)|trace_state)
end Go.Ab
end
