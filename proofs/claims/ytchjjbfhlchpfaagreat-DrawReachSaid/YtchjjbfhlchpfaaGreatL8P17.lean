/- A part of the proof. -/
import Derived.Test.YtchjjbfhlchpfaaGreatL8P16
set_option linter.unusedSimpArgs false
set_option linter.unusedVariables false
section
namespace Go.Ab
open Go.Proofs
set_option maxRecDepth 10000
def loose (l:List It):List Int:=(l.filter fun t=>decide (t.1<0)).map fun t=>t.2.1
theorem bR {a b:List It} :loose (a++b)=loose a++loose b:=by simp [loose]
def cD (g:Gr) (p:Pl):Nat→List Edge
 |0=> []
 |k+1=>cD g p k++(loose (cH g p k)).map fun v=>(v,aq p k)
def aX (g:Gr) (p:Pl):List It:=(fK g p g.n.toNat).row
def newL (g:Gr) (p:Pl):List Edge:=if 1<(aX g p).length then (loose (aX g p)).map fun v=>(v,g.n) else []
def bq (g:Gr) (p:Pl):List Edge:=cD g p g.n.toNat++newL g p
def ak (g:Gr) (p:Pl):Gr:=⟨if 1<(aX g p).length then g.n+1 else g.n,g.es++bq g p⟩
def dn:Nat→List Edge→List (List Int)→List (List Int)
 |_, [],O=>O
 |m,e::N,O=>dn (m+1) N (O.set e.1.toNat [(m:Int)])
def bJ (g:Gr) (p:Pl):Pl:=⟨if 1<(aX g p).length then p.ord++ [g.n] else p.ord,dn g.es.length (bq g p) (if 1<(aX g p).length then p.outs++ [[]] else p.outs)⟩
def CQ (g:Gr) (p:Pl) (x:Gr):List (List Int):=(List.range x.n.toNat).map fun v=>if 0<(p.outs.getD v []).length then p.outs.getD v [] else cn x (v:Int)
theorem iG:∀ {m:Nat} {N:List Edge} {O:List (List Int)},(dn m N O).length=O.length
 |_, [],_=>rfl
 |m,e::N,O=>by rw [dn,iG,List.length_set]
theorem qH:∀ {m:Nat} {N M:List Edge} {O:List (List Int)},dn m (N++M) O=dn (m+N.length) M (dn m N O)
 |_, [],_,_=>rfl
 |m,e::N,M,O=>by
  rw [List.cons_append,dn,dn,qH,List.length_cons]
  congr 1
  omega
theorem yd:∀ {m:Nat} {N:List Edge} {O:List (List Int)},(∀e∈N,e.1.toNat<O.length)→dn m N (O++ [[]])=dn m N O++ [[]]
 |_, [],_,_=>rfl
 |m,e::N,O,h=>by
  rw [dn,dn,List.set_append_left _ _ (h e (List.mem_cons_self ..))]
  exact yd fun e' he=>by rw [List.length_set];exact h e' (List.mem_cons_of_mem _ he)
theorem wj {v:Nat} :∀ {m:Nat} {N:List Edge} {O:List (List Int)},(∀e∈N,e.1.toNat<O.length)→(∀e∈N,e.1.toNat≠v)→(dn m N O).getD v []=O.getD v []
 |_, [],_,_,_=>rfl
 |m,e::N,O,h,hv=>by
  rw [dn,wj (fun e' he=>by rw [List.length_set];exact h e' (List.mem_cons_of_mem _ he)) fun e' he=>hv e' (List.mem_cons_of_mem _ he),oa (h e (List.mem_cons_self ..)),if_neg (Ne.symm (hv e (List.mem_cons_self ..)))]
theorem DM:∀ {m:Nat} {N:List Edge} {O:List (List Int)},(∀e∈N,0≤e.1∧e.1.toNat<O.length)→(N.map (·.1)).Nodup→∀ {j:Nat},j<N.length→(dn m N O).getD (N.getD j (0,0)).1.toNat []= [((m+j:Nat):Int)]
 |m,e::N,O,h,hd,0,_=>by
  rw [List.map_cons,List.nodup_cons] at hd
  rw [dn,List.getD_cons_zero,wj (fun e' he=>by rw [List.length_set];exact (h e' (List.mem_cons_of_mem _ he)).2) (fun e' he h2=>hd.1 ?_),oa (h e (List.mem_cons_self ..)).2,if_pos rfl]
  ·rfl
  ·have h3:=(h e (List.mem_cons_self ..)).1
   have h4:=(h e' (List.mem_cons_of_mem _ he)).1
   exact List.mem_map.2 ⟨e',he,by omega⟩
 |m,e::N,O,h,hd,j+1,hj=>by
  rw [List.map_cons,List.nodup_cons] at hd
  rw [dn,List.getD_cons_succ,DM (fun e' he=>by rw [List.length_set];exact h e' (List.mem_cons_of_mem _ he)) hd.2 (by simpa using hj)]
  congr 2
  omega
theorem sj {f:Edge→Int} {es N:List Edge} {x:Int} :aK f (es++N) (es++N).length x=aK f es es.length x++(aK f N N.length x).map (· +(es.length:Int)):=by
 unfold aK
 rw [List.length_append,List.range_add,List.filter_append,List.map_append,List.filter_map,List.map_map,List.map_map]
 congr 1
 ·congr 1
  refine List.filter_congr fun i hi=> ?_
  have:=List.mem_range.1 hi
  rw [List.getD_eq_getElem?_getD,List.getElem?_append_left this, ← List.getD_eq_getElem?_getD]
 ·have e1:(List.range N.length).filter ((fun i=>decide (f ((es++N).getD i (0,0))=x)) ∘ fun x=>es.length+x)=(List.range N.length).filter fun i=>decide (f (N.getD i (0,0))=x):=by
   refine List.filter_congr fun i hi=> ?_
   simp only [Function.comp]
   rw [List.getD_eq_getElem?_getD,List.getElem?_append_right (by omega),Nat.add_sub_cancel_left, ← List.getD_eq_getElem?_getD]
  rw [e1]
  refine List.map_congr_left fun i _=> ?_
  simp only [Function.comp]
  show ((es.length+i:Nat):Int)=(i:Int)+(es.length:Int)
  omega
theorem filter_one {j:Nat} :∀ {n:Nat},j<n→(List.range n).filter (fun i=>decide (i=j))= [j]
 |n+1,h=>by
  rw [List.range_succ,List.filter_append]
  by_cases e:j=n
  ·subst e
   have:(List.range j).filter (fun i=>decide (i=j))= []:=List.filter_eq_nil_iff.2 fun i hi=>by
    have:=List.mem_range.1 hi
    simp;omega
   rw [this];simp
  ·rw [filter_one (by omega)]
   have: [n].filter (fun i=>decide (i=j))= []:=List.filter_eq_nil_iff.2 fun i hi=>by
    rw [List.mem_singleton] at hi
    simp;omega
   rw [this];simp
theorem Br {N:List Edge} (hd:(N.map (·.1)).Nodup) {j:Nat} (hj:j<N.length):aK (·.1) N N.length (N.getD j (0,0)).1= [(j:Int)]:=by
 unfold aK
 have:(List.range N.length).filter (fun i=>decide ((N.getD i (0,0)).1=(N.getD j (0,0)).1))=(List.range N.length).filter (fun i=>decide (i=j)):=by
  refine List.filter_congr fun i hi=> ?_
  have hi:=List.mem_range.1 hi
  rw [decide_eq_decide]
  constructor
  ·intro h
   have e1:∀k,k<N.length→(N.map (·.1)).getD k 0=(N.getD k (0,0)).1:=fun k hk=>by
    simp [List.getD_eq_getElem?_getD,List.getElem?_eq_getElem hk]
   refine jF hd (by simpa using hi) (by simpa using hj) ?_
   rw [e1 i hi,e1 j hj,h]
  ·rintro rfl;rfl
 rw [this,filter_one hj]
 rfl
theorem jo {f:Edge→Int} {N:List Edge} {v:Int} (h:∀e∈N,f e≠v):aK f N N.length v= []:=by
 unfold aK
 rw [List.map_eq_nil_iff,List.filter_eq_nil_iff]
 intro i hi
 have:=h _ (aQ (d:=(0,0)) (List.mem_range.1 hi))
 simpa using this
theorem Bt {g:Gr} {x:Int} {o:List Int} (ho:∀i∈o,i∈cn g x):loose (aL g x o)=if o= [] then [x] else []:=by
 unfold aL
 split
 ·rfl
 ·simp only [loose,List.map_eq_nil_iff,List.filter_eq_nil_iff,List.mem_map]
  rintro t ⟨i,hi,rfl⟩
  obtain ⟨k,rfl,_⟩:=iD (ho i hi)
  simp [fc]
theorem gY {g:Gr} (hm:aG g=true) {p:Pl} (h:bk g p):∀ {k:Nat},k≤g.n.toNat→(∀j,j<k→rz g p j=true)→
 ((cD g p k).map (·.1)++loose (fK g p k).row).Nodup∧∀v∈(cD g p k).map (·.1)++loose (fK g p k).row,v∈(fK g p k).pl∧bE p v= []
 |0,_,_=>by simp [cD,fK,loose]
 |k+1,hk,hok=>by
  obtain ⟨h1,h2⟩:=gY hm h (k:=k) (by omega) fun j hj=>hok j (by omega)
  obtain ⟨hi,bZ,_⟩:=bz hm h (k:=k) (by omega) fun j hj=>hok j (by omega)
  have hR:az g (fK g p k) (aq p k)=true:=hok k (by omega)
  obtain ⟨x0,x1⟩:=aH h (k:=k) (by omega)
  have hx:=(aD hR).2.2
  have DI:=bp h x0 x1
  obtain ⟨A,X,C,hr,_,_,_,hs⟩:=fD hm hi.toeo hR
  have OD:cH g p k=X:=by unfold cH;rw [hs]
  have hrow:(fK g p (k+1)).row=A++aL g (aq p k) (bE p (aq p k))++C:=by show (aC _ _ _ _).2.row=_;rw [hs]
  have rK:(fK g p (k+1)).pl=(fK g p k).pl++ [aq p k]:=rfl
  have hla:=Bt (g:=g) (x:=aq p k) (o:=bE p (aq p k)) fun i hi=>DI.mem_iff.1 hi
  have e1:(cD g p (k+1)).map (·.1)=(cD g p k).map (·.1)++loose X:=by
   rw [cD,OD,List.map_append,List.map_map]
   congr 1
   simp [Function.comp_def]
  have e2:loose (fK g p (k+1)).row=loose A++(if bE p (aq p k)= [] then [aq p k] else [])++loose C:=by rw [hrow,bR,bR,hla]
  have e3:loose (fK g p k).row=loose A++loose X++loose C:=by rw [hr,bR,bR]
  rw [e3] at h1 h2
  have hP:((cD g p (k+1)).map (·.1)++loose (fK g p (k+1)).row).Perm (((cD g p k).map (·.1)++(loose A++loose X++loose C))++(if bE p (aq p k)= [] then [aq p k] else [])):=by
   rw [e1,e2,List.perm_iff_count]
   intro a
   simp only [List.count_append]
   omega
  constructor
  ·rw [hP.nodup_iff,List.nodup_append]
   refine ⟨h1,by split<;>simp,fun a ha b hb e=>hx ?_⟩
   split at hb
   ·rw [List.mem_singleton] at hb
    rw [← hb, ← e]
    exact (h2 a ha).1
   ·cases hb
  ·intro v hv
   rw [hP.mem_iff,List.mem_append] at hv
   rw [rK,List.mem_append,List.mem_singleton]
   rcases hv with hv|hv
   ·exact ⟨.inl (h2 v hv).1,(h2 v hv).2⟩
   ·split at hv
    ·rw [List.mem_singleton] at hv
     subst hv
     exact ⟨.inr rfl,by assumption⟩
    ·cases hv
theorem gw {g:Gr} {p:Pl} (hr:aN g p):((bq g p).map (·.1)).Nodup∧∀e∈bq g p,(0≤e.1∧e.1<g.n)∧bE p e.1= []:=by
 obtain ⟨hc,h,hok⟩:=hr
 have hm:=ag hc
 obtain ⟨h1,h2⟩:=gY hm h (k:=g.n.toNat) (Nat.le_refl _) hok
 obtain ⟨hi,_⟩:=bz hm h (k:=g.n.toNat) (Nat.le_refl _) hok
 have e1:(bq g p).map (·.1)=(cD g p g.n.toNat).map (·.1)++if 1<(aX g p).length then loose (aX g p) else []:=by
  rw [bq,newL,List.map_append]
  congr 1
  split
  ·rw [List.map_map];simp [Function.comp_def]
  ·rfl
 have hsub:∀v∈(bq g p).map (·.1),v∈(cD g p g.n.toNat).map (·.1)++loose (aX g p):=by
  intro v hv
  rw [e1,List.mem_append] at hv
  rw [List.mem_append]
  rcases hv with hv|hv
  ·exact .inl hv
  ·split at hv
   ·exact .inr hv
   ·cases hv
 constructor
 ·rw [e1]
  split
  ·exact h1
  ·rw [List.append_nil]
   exact (List.nodup_append.1 h1).1
 ·intro e he
  have:=h2 e.1 (hsub _ (List.mem_map.2 ⟨e,he,rfl⟩))
  exact ⟨hi.oM _ this.1,this.2⟩
theorem iH {g:Gr} {p:Pl} (h:bk g p) {v:Int} (h0:0≤v) (h1:v<g.n):cn g v= []↔bE p v= []:=by
 have hp:=bp h h0 h1
 constructor
 ·intro e;rw [e] at hp;exact hp.eq_nil
 ·intro e;rw [e] at hp;exact hp.symm.eq_nil
theorem wk {g:Gr} {p:Pl} (hr:aN g p):(bJ g p).outs=CQ g p (ak g p):=by
 obtain ⟨uL,DN⟩:=gw hr
 have h:=hr.2.1
 have hm:=ag hr.1
 have hn:=aA hm
 generalize hO:(if 1<(aX g p).length then p.outs++ [[]] else p.outs)=O
 have PK:O.length=(ak g p).n.toNat:=by
  rw [← hO]
  unfold ak
  split
  ·rw [List.length_append,h.1];simp;omega
  ·rw [h.1]
 have Uw:∀v,O.getD v []=p.outs.getD v []:=by
  intro v
  rw [← hO]
  split
  ·rw [List.getD_eq_getElem?_getD,List.getD_eq_getElem?_getD,List.getElem?_append]
   split
   ·rfl
   ·rename_i hv
    rw [List.getElem?_eq_none (by omega:p.outs.length≤v)]
    cases SO:v - p.outs.length<;>simp
  ·rfl
 have VW:g.n.toNat≤O.length:=by rw [← hO];split<;>simp [h.1]
 have pJ:∀e∈bq g p,0≤e.1∧e.1.toNat<O.length:=fun e he=>by
  have:=(DN e he).1;omega
 have PF:∀e∈bq g p,e.1.toNat<O.length:=fun e he=>(pJ e he).2
 show dn g.es.length (bq g p) (if 1<(aX g p).length then p.outs++ [[]] else p.outs)=_
 rw [hO]
 refine List.ext_getElem (by rw [iG,PK];simp [CQ]) fun v EM G5=> ?_
 rw [iG] at EM
 have hL:(dn g.es.length (bq g p) O).getD v []=(dn g.es.length (bq g p) O)[v]'(by rw [iG];exact EM):=by
  rw [List.getD_eq_getElem?_getD,List.getElem?_eq_getElem (by rw [iG];exact EM)];rfl
 rw [← hL]
 have hD:(CQ g p (ak g p))[v]=if 0<(p.outs.getD v []).length then p.outs.getD v [] else cn (ak g p) (v:Int):=by simp [CQ]
 rw [hD]
 have hlv:bE p (v:Int)=p.outs.getD v []:=by unfold bE;rw [Int.toNat_natCast]
 have hout:cn (ak g p) (v:Int)=cn g (v:Int)++(aK (·.1) (bq g p) (bq g p).length (v:Int)).map (· +(g.es.length:Int)):=sj
 by_cases hin:∃j,j<(bq g p).length∧((bq g p).getD j (0,0)).1=v
 ·obtain ⟨j,hj,e⟩:=hin
  have hmem:=aQ (d:=(0,0)) hj
  obtain ⟨⟨q0,q1⟩,q2⟩:=DN _ hmem
  rw [e] at q0 q1 q2
  rw [hlv] at q2
  rw [q2,if_neg (by simp),hout,(iH h q0 q1).2 (by rw [hlv];exact q2), ← e,Br uL hj]
  have:=DM (m:=g.es.length) pJ uL hj
  rw [e,Int.toNat_natCast] at this
  rw [this]
  simp
  omega
 ·have hno:∀e∈bq g p,e.1≠(v:Int):=fun e he h2=>hin (by
   obtain ⟨j,hj,e1⟩:=List.mem_iff_getElem.1 he
   exact ⟨j,hj,by rw [List.getD_eq_getElem?_getD,List.getElem?_eq_getElem hj,Option.getD_some,e1,h2]⟩)
  rw [wj PF (fun e he h2=>hno e he (by have:=(pJ e he).1;omega)),Uw,hout,jo hno]
  simp only [List.map_nil,List.append_nil]
  split
  ·rfl
  ·rename_i hl
   have hl:p.outs.getD v []= []:=List.eq_nil_of_length_eq_zero (by omega)
   rw [hl]
   by_cases Mf:v<g.n.toNat
   ·exact ((iH h (v:=(v:Int)) (by omega) (by omega)).2 (by rw [hlv];exact hl)).symm
   ·symm
    refine jo fun e he h2=> ?_
    obtain ⟨i,hi,rfl⟩:=List.mem_iff_getElem.1 he
    have:=(cM hm hi).1
    rw [List.getD_eq_getElem?_getD,List.getElem?_eq_getElem hi,Option.getD_some] at this
    omega
end Go.Ab
end
section
namespace Go.Ab
open Go.Proofs
set_option maxRecDepth 10000
abbrev Act:=Int × List Int
def rA (a:Act):List D:= [.sc (.int .i64 a.1),sI a.2]
def sA (as':List Act):D:= .sl 2 (as'.map rA)
attribute [go_sem] sA
def OE (g:Gr) (Mg:List Act):Nat→Fr
 |0=>⟨[], []⟩
 |k+1=>(gu g (OE g Mg k) (Mg.getD k (0, [])).1 (Mg.getD k (0, [])).2).2
theorem OF {g:Gr} {f:Fr} (hi:eo g f):(f.pl.length:Int)≤g.n∨f.pl= []:=by
 by_cases h:f.pl= []
 ·exact .inr h
 ·left
  obtain ⟨y,hy⟩:=List.exists_mem_of_ne_nil _ h
  have:=hi.oM y hy
  have h3:=jI hi.pl (m:=(List.range g.n.toNat).map Int.ofNat) (fun y hy=>by
   rw [List.mem_map]
   have:=hi.oM y hy
   exact ⟨y.toNat,List.mem_range.2 (by omega),by simp;omega⟩)
  simp at h3
  omega
theorem s8 (g:Gr) (hm:aG g=true) (f:Fr) (hi:vW g f) (x:Int) (outs:List Int) (hr:f.row.length≤300000) (hp:f.pl.length≤100000) (ho:outs.length≤17592186043904):
 Spec Tryz.prog 83 (Args [.ptr 10000 0,eN x, .d (sI outs)]) (jR g f) (.tup [.d (sT (gu g f x outs).1.1),eN (gu g f x outs).1.2]) (ry g (gu g f x outs).2):=by
 rw [← HS hm hi.toeo]
 exact CM g hm f x outs hr hp ho
end Go.Ab
end
section
namespace Go.Ab
open Go.Proofs
attribute [local congr] ACall.congr gd.congr Nx.congr
set_option maxRecDepth 10000
set_option maxHeartbeats 4000000
def ePl (p:Pl):AV:= .agg [.d (sI p.ord), .d (.sl 1 (vI p.outs))]
attribute [go_sem] ePl
structure qI (p:Pl):Prop where
 ord:p.ord.length≤17592186043904
 outs:p.outs.length≤9223372036854775807
 each:∀l∈p.outs,l.length≤17592186043904
theorem H6 (g:Gr) (hm:aG g=true) (p:Pl) (hp:qI p) (res:Bool) (hr:res=true↔bk g p):Spec Tryz.prog 82 (Args [.d (vw g),ePl p]) [] (eB res) []:=by
 rw [← J3 hm] at hr
 have hn:=aA hm
 have ho:=hp.ord
 have Pq:=hp.outs
 by_cases h1:p.outs.length=g.n.toNat∧p.ord.length=g.n.toNat
 rotate_left
 ·have hres:res=false:=by
   rw [← Bool.not_eq_true,hr]
   rintro ⟨h2,h3,_⟩
   exact h1 ⟨h2,h3⟩
  subst hres
  by_cases h2:(p.outs.length:Int)=g.n
  ·have hb1:decide ((p.outs.length:Int)=g.n)=true:=decide_eq_true h2
   have hb2:decide ((p.ord.length:Int)=g.n)=false:=decide_eq_false fun h3=>h1 ⟨by omega,by omega⟩
   (refine Spec.hd (C:=T.cfg [] []) (rs:= [.t 4]) (T.aj _ _) Tryz.func82 rfl rfl Tryz.ntmps82 Tryz.results82 (by simp [AObj.isNest]) (by simp [AObj.isNest]) (by kernel_rfl) T.mixed fun X hX hP hC aP bV=> ?_)
   repeat' (first|refine Rn.p ?_|(with_reducible apply And.intro)|((first|(refine hK _ ?_;clear hK K)|with_reducible intro K hK|refine Rs.p ?_|((with_reducible first|apply oP|apply oQ);exact rfl));try simp only [go_sem,simprocAttr,aB,hb1,hb2])|((with_reducible refine oD ?_ ?_);kernel_rfl)|((with_reducible intro h);try simp only [go_sem,simprocAttr,aB,hb1,hb2] at h)|omega|intro h)
  ·have hb1:decide ((p.outs.length:Int)=g.n)=false:=decide_eq_false h2
   (refine Spec.hd (C:=T.cfg [] []) (rs:= [.t 4]) (T.aj _ _) Tryz.func82 rfl rfl Tryz.ntmps82 Tryz.results82 (by simp [AObj.isNest]) (by simp [AObj.isNest]) (by kernel_rfl) T.mixed fun X hX hP hC aP bV=> ?_)
   repeat' (first|refine Rn.p ?_|(with_reducible apply And.intro)|((first|(refine hK _ ?_;clear hK K)|with_reducible intro K hK|refine Rs.p ?_|((with_reducible first|apply oP|apply oQ);exact rfl));try simp only [go_sem,simprocAttr,aB,hb1])|((with_reducible refine oD ?_ ?_);kernel_rfl)|((with_reducible intro h);try simp only [go_sem,simprocAttr,aB,hb1] at h)|omega|intro h)
 have hb1:decide ((p.outs.length:Int)=g.n)=true:=decide_eq_true (by omega)
 have hb2:decide ((p.ord.length:Int)=g.n)=true:=decide_eq_true (by omega)
 have Jc:=fC p.ord
 (refine Spec.hd (C:=T.cfg [] []) (rs:= [.t 4]) (T.aj _ _) Tryz.func82 rfl rfl Tryz.ntmps82 Tryz.results82 (by simp [AObj.isNest]) (by simp [AObj.isNest]) (by kernel_rfl) T.mixed fun X hX hP hC aP bV=> ?_)
 repeat' (first|refine Rn.p ?_|(with_reducible apply And.intro)|((first|(refine hK _ ?_;clear hK K)|with_reducible intro K hK|refine Rs.p ?_|((with_reducible first|apply oP|apply oQ);exact rfl)|(refine au hX hC hP [(10000,31)] (cG p.ord) rfl rfl rfl ?_ ?_ ?_ ?_ ?_ ?_ ?_ ?_ ?_ ?_ ?_ ?_ ?_ ?_;(focus (simp only [go_sem,simprocAttr,aB,hb1,hb2];done));(iterate 12 (focus (simp [go_sem,simprocAttr,aB,hb1,hb2];done)));try simp only [List.map_cons,List.map_nil])|(refine bC hX hC hP [(10000,31)] (cg p.ord ho) rfl rfl rfl ?_ ?_ ?_ ?_ ?_ ?_ rfl rfl ?_ ?_;(focus (simp only [go_sem,simprocAttr,aB,hb1,hb2];done));(iterate 6 (focus (simp [go_sem,simprocAttr,aB,hb1,hb2];done)));try simp only [List.map_cons,List.map_nil]));try simp only [go_sem,simprocAttr,aB,hb1,hb2])|((with_reducible refine oD ?_ ?_);kernel_rfl)|((with_reducible intro h);try simp only [go_sem,simprocAttr,aB,hb1,hb2] at h)|omega|intro h)
 clear hb1 hb2
 refine ai (fun k:Nat=>k≤(iO p.ord).length∧∀i:Nat,i<k→(iO p.ord).getD i 0=i) (fun k=>⟨[(0, .d (vw g)),(3, .ptr 3 0),(32, .d (sI (iO p.ord))),(33,eN (iO p.ord).length),(34,eN k)], [(3, .box [.d (sI p.ord), .d (.sl 1 (vI p.outs))])]⟩) (fun k=>(iO p.ord).length - k) 0 (by simp) ?_ ?_
 ·(refine Le.of ?_ ?_<;>simp [go_sem,simprocAttr,aB])
 rintro k ⟨hk,hg⟩
 rcases Nat.lt_or_ge k (iO p.ord).length with hlt|hge
 ·have hb:decide ((k:Int)<((iO p.ord).length:Int))=true:=decide_eq_true (by omega)
  by_cases he:(iO p.ord).getD k 0=k
  ·have hb2:decide ((iO p.ord).getD k 0=(k:Int))=true:=decide_eq_true he
   repeat' (first|refine Rn.p ?_|(with_reducible apply And.intro)|((first|(refine hK _ ?_;clear hK K)|with_reducible intro K hK|refine Rs.p ?_|((with_reducible first|apply oP|apply oQ);exact rfl)|(refine au hX hC hP [(10000,31)] (cG p.ord) rfl rfl rfl ?_ ?_ ?_ ?_ ?_ ?_ ?_ ?_ ?_ ?_ ?_ ?_ ?_ ?_;(focus (simp only [go_sem,simprocAttr,aB,hb,hb2];done));(iterate 12 (focus (simp [go_sem,simprocAttr,aB,hb,hb2];done)));try simp only [List.map_cons,List.map_nil])|(refine bC hX hC hP [(10000,31)] (cg p.ord ho) rfl rfl rfl ?_ ?_ ?_ ?_ ?_ ?_ rfl rfl ?_ ?_;(focus (simp only [go_sem,simprocAttr,aB,hb,hb2];done));(iterate 6 (focus (simp [go_sem,simprocAttr,aB,hb,hb2];done)));try simp only [List.map_cons,List.map_nil]));try simp only [go_sem,simprocAttr,aB,hb,hb2])|((with_reducible refine oD ?_ ?_);kernel_rfl)|((with_reducible intro h);try simp only [go_sem,simprocAttr,aB,hb,hb2] at h)|omega|intro h)
   refine ⟨k+1,⟨by omega,fun i hi=> ?_⟩, ?_,by omega⟩
   ·by_cases hik:i=k
    ·subst hik;exact he
    ·exact hg i (by omega)
   ·(refine Le.of ?_ ?_<;>simp [go_sem,simprocAttr,aB,hb,hb2])
  ·have hb2:decide ((iO p.ord).getD k 0=(k:Int))=false:=decide_eq_false he
   have hres:res=false:=by
    rw [← Bool.not_eq_true,hr]
    rintro ⟨_,_,h3,_⟩
    exact he (h3 k hlt)
   subst hres
   repeat' (first|refine Rn.p ?_|(with_reducible apply And.intro)|((first|(refine hK _ ?_;clear hK K)|with_reducible intro K hK|refine Rs.p ?_|((with_reducible first|apply oP|apply oQ);exact rfl)|(refine au hX hC hP [(10000,31)] (cG p.ord) rfl rfl rfl ?_ ?_ ?_ ?_ ?_ ?_ ?_ ?_ ?_ ?_ ?_ ?_ ?_ ?_;(focus (simp only [go_sem,simprocAttr,aB,hb,hb2];done));(iterate 12 (focus (simp [go_sem,simprocAttr,aB,hb,hb2];done)));try simp only [List.map_cons,List.map_nil])|(refine bC hX hC hP [(10000,31)] (cg p.ord ho) rfl rfl rfl ?_ ?_ ?_ ?_ ?_ ?_ rfl rfl ?_ ?_;(focus (simp only [go_sem,simprocAttr,aB,hb,hb2];done));(iterate 6 (focus (simp [go_sem,simprocAttr,aB,hb,hb2];done)));try simp only [List.map_cons,List.map_nil]));try simp only [go_sem,simprocAttr,aB,hb,hb2])|((with_reducible refine oD ?_ ?_);kernel_rfl)|((with_reducible intro h);try simp only [go_sem,simprocAttr,aB,hb,hb2] at h)|omega|intro h)
 have hb:decide ((k:Int)<((iO p.ord).length:Int))=false:=decide_eq_false (by omega)
 repeat' (first|refine Rn.p ?_|(with_reducible apply And.intro)|((first|(refine hK _ ?_;clear hK K)|with_reducible intro K hK|refine Rs.p ?_|((with_reducible first|apply oP|apply oQ);exact rfl)|(refine au hX hC hP [(10000,31)] (cG p.ord) rfl rfl rfl ?_ ?_ ?_ ?_ ?_ ?_ ?_ ?_ ?_ ?_ ?_ ?_ ?_ ?_;(focus (simp only [go_sem,simprocAttr,aB,hb];done));(iterate 12 (focus (simp [go_sem,simprocAttr,aB,hb];done)));try simp only [List.map_cons,List.map_nil])|(refine bC hX hC hP [(10000,31)] (cg p.ord ho) rfl rfl rfl ?_ ?_ ?_ ?_ ?_ ?_ rfl rfl ?_ ?_;(focus (simp only [go_sem,simprocAttr,aB,hb];done));(iterate 6 (focus (simp [go_sem,simprocAttr,aB,hb];done)));try simp only [List.map_cons,List.map_nil]));try simp only [go_sem,simprocAttr,aB,hb])|((with_reducible refine oD ?_ ?_);kernel_rfl)|((with_reducible intro h);try simp only [go_sem,simprocAttr,aB,hb] at h)|omega|intro h)
 obtain rfl:k=(iO p.ord).length:=by omega
 clear hb hk
 refine ai (fun x:Nat=>x≤p.outs.length∧∀i:Nat,i<x→iO (p.outs.getD i [])=bB (·.1) g i) (fun x=>⟨[(0, .d (vw g)),(44, .d (.sl 1 (vI p.outs))),(45,eN p.outs.length),(46,eN x)], []⟩) (fun x=>p.outs.length - x) 0 (by simp) ?_ ?_
 ·refine Le.of ?_ ?_<;>simp [go_sem,simprocAttr,aB]
 rintro x ⟨hx,H7⟩
 rcases Nat.lt_or_ge x p.outs.length with hxl|Jk
 ·have hb:decide ((x:Int)<(p.outs.length:Int))=true:=decide_eq_true (by omega)
  have hv:=gv hxl
  have hl:=hp.each _ (aQ (d:= []) hxl)
  have hn2:∀h:iO (p.outs.getD x [])=bB (·.1) g x,∀i:Nat,i<x+1→iO (p.outs.getD i [])=bB (·.1) g i:=fun h i hi=>by
   by_cases RG:i=x
   ·subst RG;exact h
   ·exact H7 i (by omega)
  have sS:¬iO (p.outs.getD x [])=bB (·.1) g x→res=false:=fun h=>by
   rw [← Bool.not_eq_true,hr]
   rintro ⟨_,_,_,h4⟩
   exact h (h4 x hxl)
  generalize p.outs.getD x []=l at hv hl hn2 sS
  have Ux:=fC l
  by_cases he:iO l=bB (·.1) g x
  ·have hb2:decide (iO l=bB (·.1) g (x:Int))=true:=decide_eq_true he
   repeat' (first|refine Rn.p ?_|(with_reducible apply And.intro)|((first|(refine hK _ ?_;clear hK K)|with_reducible intro K hK|refine Rs.p ?_|((with_reducible first|apply oP|apply oQ);exact rfl)|(refine au hX hC hP [(10000,52)] (cG l) rfl rfl rfl ?_ ?_ ?_ ?_ ?_ ?_ ?_ ?_ ?_ ?_ ?_ ?_ ?_ ?_;(focus (simp only [go_sem,simprocAttr,hb,hv,hb2];done));(iterate 12 (focus (simp [go_sem,simprocAttr,hb,hv,hb2];done)));try simp only [List.map_cons,List.map_nil])|(refine bC hX hC hP [(10000,52)] (cg l hl) rfl rfl rfl ?_ ?_ ?_ ?_ ?_ ?_ rfl rfl ?_ ?_;(focus (simp only [go_sem,simprocAttr,hb,hv,hb2];done));(iterate 6 (focus (simp [go_sem,simprocAttr,hb,hv,hb2];done)));try simp only [List.map_cons,List.map_nil])|refine aa hX hC hP (jk g hm (x:Int)) rfl rfl rfl (by simp only [go_sem,simprocAttr,hb,hv,hb2]) rfl ?_|refine aa hX hC hP (fV (iO l) (bB (·.1) g x) (by omega)) rfl rfl rfl (by simp only [go_sem,simprocAttr,hb,hv,hb2]) rfl ?_);try simp only [go_sem,simprocAttr,hb,hv,hb2])|((with_reducible refine oD ?_ ?_);kernel_rfl)|((with_reducible intro h);try simp only [go_sem,simprocAttr,hb,hv,hb2] at h)|omega|intro h)
   refine ⟨x+1,⟨by omega,hn2 he⟩, ?_,by omega⟩
   (refine Le.of ?_ ?_<;>simp [go_sem,simprocAttr,hb,hv,hb2])
  ·have hb2:decide (iO l=bB (·.1) g (x:Int))=false:=decide_eq_false he
   have hres:=sS he
   subst hres
   repeat' (first|refine Rn.p ?_|(with_reducible apply And.intro)|((first|(refine hK _ ?_;clear hK K)|with_reducible intro K hK|refine Rs.p ?_|((with_reducible first|apply oP|apply oQ);exact rfl)|(refine au hX hC hP [(10000,52)] (cG l) rfl rfl rfl ?_ ?_ ?_ ?_ ?_ ?_ ?_ ?_ ?_ ?_ ?_ ?_ ?_ ?_;(focus (simp only [go_sem,simprocAttr,hb,hv,hb2];done));(iterate 12 (focus (simp [go_sem,simprocAttr,hb,hv,hb2];done)));try simp only [List.map_cons,List.map_nil])|(refine bC hX hC hP [(10000,52)] (cg l hl) rfl rfl rfl ?_ ?_ ?_ ?_ ?_ ?_ rfl rfl ?_ ?_;(focus (simp only [go_sem,simprocAttr,hb,hv,hb2];done));(iterate 6 (focus (simp [go_sem,simprocAttr,hb,hv,hb2];done)));try simp only [List.map_cons,List.map_nil])|refine aa hX hC hP (jk g hm (x:Int)) rfl rfl rfl (by simp only [go_sem,simprocAttr,hb,hv,hb2]) rfl ?_|refine aa hX hC hP (fV (iO l) (bB (·.1) g x) (by omega)) rfl rfl rfl (by simp only [go_sem,simprocAttr,hb,hv,hb2]) rfl ?_);try simp only [go_sem,simprocAttr,hb,hv,hb2])|((with_reducible refine oD ?_ ?_);kernel_rfl)|((with_reducible intro h);try simp only [go_sem,simprocAttr,hb,hv,hb2] at h)|omega|intro h)
 ·have hb:decide ((x:Int)<(p.outs.length:Int))=false:=decide_eq_false (by omega)
  obtain rfl:x=p.outs.length:=by omega
  have hres:res=true:=hr.2 ⟨h1.1,h1.2,fun i hi=>hg i (by omega),H7⟩
  subst hres
  repeat' (first|refine Rn.p ?_|(with_reducible apply And.intro)|((first|(refine hK _ ?_;clear hK K)|with_reducible intro K hK|refine Rs.p ?_|((with_reducible first|apply oP|apply oQ);exact rfl)|(refine au hX hC hP [(10000,52)] (cG l) rfl rfl rfl ?_ ?_ ?_ ?_ ?_ ?_ ?_ ?_ ?_ ?_ ?_ ?_ ?_ ?_;(focus (simp only [go_sem,simprocAttr,hb];done));(iterate 12 (focus (simp [go_sem,simprocAttr,hb];done)));try simp only [List.map_cons,List.map_nil])|(refine bC hX hC hP [(10000,52)] (cg l hl) rfl rfl rfl ?_ ?_ ?_ ?_ ?_ ?_ rfl rfl ?_ ?_;(focus (simp only [go_sem,simprocAttr,hb];done));(iterate 6 (focus (simp [go_sem,simprocAttr,hb];done)));try simp only [List.map_cons,List.map_nil])|refine aa hX hC hP (jk g hm (x:Int)) rfl rfl rfl (by simp only [go_sem,simprocAttr,hb]) rfl ?_|refine aa hX hC hP (fV (iO l) (bB (·.1) g x) (by omega)) rfl rfl rfl (by simp only [go_sem,simprocAttr,hb]) rfl ?_);try simp only [go_sem,simprocAttr,hb])|((with_reducible refine oD ?_ ?_);kernel_rfl)|((with_reducible intro h);try simp only [go_sem,simprocAttr,hb] at h)|omega|intro h)
end Go.Ab
end
section
namespace Go.Ab
open Go.Proofs
attribute [local congr] ACall.congr gd.congr Nx.congr
set_option maxRecDepth 10000
set_option maxHeartbeats 8000000
def Uy (m:Nat) (fl:List Int):List Int:=(List.range m).map fun i:Nat=>if (i:Int)∈fl then (1:Int) else 0
theorem H8 {g:Gr} {x i:Int} :i∈cn g x↔(0≤i∧i<g.es.length)∧(g.es.getD i.toNat (0,0)).1=x:=by
 constructor
 ·exact jl
 ·rintro ⟨⟨h1,h2⟩,h3⟩
  simp only [cn,aK,List.mem_map,List.mem_filter,List.mem_range,decide_eq_true_eq]
  exact ⟨i.toNat,⟨by omega,h3⟩,by simp;omega⟩
end Go.Ab
end
section
namespace Go.Ab
open Go.Proofs
attribute [local congr] ACall.congr gd.congr Nx.congr
set_option maxRecDepth 10000
set_option maxHeartbeats 8000000
def cA (b:Bool) (g:Gr) (p:Pl):(List (List It) × List It) × Int × Int:=
 if b=false then (([], []),(1,0)) else
 match kZ g p g.n.toNat with
 |some i=>(([], []),(3,(i:Int)))
 |none=>((gW g p g.n.toNat,(fK g p g.n.toNat).row),(0,0))
theorem Mh {n:Nat} :List.replicate n [D.sl 3 []]=vT (List.replicate n []):=by simp [vT,sT]
theorem Mi {ls:List (List It)} {k:Nat} {l:List It} :(vT ls).set k [sT l]=vT (ls.set k l):=by simp [vT,List.map_set]
theorem Fy {g:Gr} {p:Pl} {k:Nat} :gW g p (k+1)=(gW g p k).set (aq p k).toNat (cH g p k):=rfl
end Go.Ab
end
section
namespace Go.Ab
open Go.Proofs
attribute [local congr] ACall.congr gd.congr Nx.congr
set_option maxRecDepth 10000
set_option maxHeartbeats 8000000
theorem ir (g:Gr) (hl:g.es.length≤1000) (p:Pl) (hp:qI p) (b:Bool) (hr:b=true↔(bT g).1=0∧bk g p):
 Spec Tryz.prog 37 (Args [eG g,ePl p]) [] (.tup [.d (.sl 1 (vT (cA b g p).1.1)), .d (sT (cA b g p).1.2),eF ((cA b g p).2.1,(cA b g p).2.2, [])]) []:=by
 by_cases hc:(bT g).1=0
 rotate_left
 ·obtain rfl:b=false:=by
   rw [← Bool.not_eq_true,hr]
   exact fun h=>hc h.1
  have hR:cA false g p=(([], []),(1,0)):=rfl
  rw [hR]
  (refine Spec.hd (C:=T.cfg [] []) (rs:= [.t 4, .t 5, .c 6 66]) (T.aj _ _) Tryz.func37 rfl rfl Tryz.ntmps37 Tryz.results37 (by simp [AObj.isNest]) (by simp [AObj.isNest]) (by kernel_rfl) T.mixed fun X hX hP hC aP bV=> ?_)
  repeat' (first|refine Rn.p ?_|(with_reducible apply And.intro)|((first|(refine hK _ ?_;clear hK K)|with_reducible intro K hK|refine Rs.p ?_|((with_reducible first|apply oP|apply oQ);exact rfl)|refine aa hX hC hP (Fo g hl hc) rfl rfl rfl (by simp only [go_sem,simprocAttr,vT,List.map_nil]) rfl ?_);try simp only [go_sem,simprocAttr,vT,List.map_nil])|((with_reducible refine oD ?_ ?_);kernel_rfl)|((with_reducible intro h);try simp only [go_sem,simprocAttr,vT,List.map_nil] at h)|omega|intro h)
 have hm:=ag hc
 have hn:=aA hm
 have hr:b=true↔bk g p:=by rw [hr];exact ⟨fun h=>h.2,fun h=>⟨hc,h⟩⟩
 have hO:=H6 g hm p hp b hr
 cases b with
 |false=>
  have hR:cA false g p=(([], []),(1,0)):=rfl
  rw [hR]
  (refine Spec.hd (C:=T.cfg [] []) (rs:= [.t 4, .t 5, .c 6 66]) (T.aj _ _) Tryz.func37 rfl rfl Tryz.ntmps37 Tryz.results37 (by simp [AObj.isNest]) (by simp [AObj.isNest]) (by kernel_rfl) T.mixed fun X hX hP hC aP bV=> ?_)
  repeat' (first|refine Rn.p ?_|(with_reducible apply And.intro)|((first|(refine hK _ ?_;clear hK K)|with_reducible intro K hK|refine Rs.p ?_|((with_reducible first|apply oP|apply oQ);exact rfl)|(refine jx hX hC hP [(10000,13)] (rY g hl hc hm) rfl rfl rfl ?_ ?_ ?_ ?_ ?_ ?_ ?_ ?_ ?_ ?_ ?_ ?_ ?_ ?_;(focus (simp only [go_sem,simprocAttr,vT,List.map_nil];done));(iterate 12 (focus (simp [go_sem,simprocAttr,vT,List.map_nil];done)));try simp only [List.map_cons,List.map_nil])|refine aa hX hC hP (iT g hm) rfl rfl rfl (by simp only [go_sem,simprocAttr,vT,List.map_nil]) rfl ?_|refine aa hX hC hP (hO) rfl rfl rfl (by simp only [go_sem,simprocAttr,vT,List.map_nil]) rfl ?_);try simp only [go_sem,simprocAttr,vT,List.map_nil])|((with_reducible refine oD ?_ ?_);kernel_rfl)|((with_reducible intro h);try simp only [go_sem,simprocAttr,vT,List.map_nil] at h)|omega|intro h)
 |true=>
 have Ai:=hr.1 rfl
 have hle:=aM Ai
 have hR:cA true g p=match kZ g p g.n.toNat with
  |some i=>(([], []),(3,(i:Int)))
  |none=>((gW g p g.n.toNat,(fK g p g.n.toNat).row),(0,0)):=rfl
 generalize cA true g p=R at hR
 (refine Spec.hd (C:=T.cfg [] []) (rs:= [.t 4, .t 5, .c 6 66]) (T.aj _ _) Tryz.func37 rfl rfl Tryz.ntmps37 Tryz.results37 (by simp [AObj.isNest]) (by simp [AObj.isNest]) (by kernel_rfl) T.mixed fun X hX hP hC aP bV=> ?_)
 repeat' (first|(show bY _ (.seq (.region 5 _ _) _) _ _;(refine AX 13 0 3 rfl rfl rfl ?_;simp only [List.set_cons_zero,List.set_cons_succ,go_sem,simprocAttr]);(refine kI hX 13 2 100 (.tip 3 1 []) rfl rfl rfl (by simp only [go_sem,simprocAttr]) (by decide) (by simp [go_sem,simprocAttr]) ⟨3,1,by decide, .inr rfl⟩ ?_;simp only [List.set_cons_zero,List.set_cons_succ,go_sem,simprocAttr]))|refine Rn.p ?_|(with_reducible apply And.intro)|((first|(refine hK _ ?_;clear hK K)|with_reducible intro K hK|refine Rs.p ?_|((with_reducible first|apply oP|apply oQ);exact rfl)|(refine jx hX hC hP [(10000,13)] (rY g hl hc hm) rfl rfl rfl ?_ ?_ ?_ ?_ ?_ ?_ ?_ ?_ ?_ ?_ ?_ ?_ ?_ ?_;(focus (simp only [go_sem,simprocAttr];done));(iterate 12 (focus (simp [go_sem,simprocAttr];done)));try simp only [List.map_cons,List.map_nil])|refine aa hX hC hP (iT g hm) rfl rfl rfl (by simp only [go_sem,simprocAttr]) rfl ?_|refine aa hX hC hP (hO) rfl rfl rfl (by simp only [go_sem,simprocAttr]) rfl ?_);try simp only [go_sem,simprocAttr])|((with_reducible refine oD ?_ ?_);kernel_rfl)|((with_reducible intro h);try simp only [go_sem,simprocAttr] at h)|omega|intro h)
 rw [Mh]
 refine ai (fun k:Nat=>k≤g.n.toNat∧∀j,j<k→rz g p j=true) (fun k=>⟨[(3, .ptr 3 0),(4, .ref 28),(6, .ptr 6 0),(7, .ptr 13 0),(30, .d (sI p.ord)),(31,eN p.ord.length),(32,eN k)], [(28, .own 64 1 (vT (gW g p k))),(13, .box [.d (sT (fK g p k).row), .d (vw g), .ref 100]),(100, .tip 3 1 ((fK g p k).pl.map rI)),(6, .box [eN 0,eN 0, .nil 3]),(3, .box [.d (sI p.ord), .d (.sl 1 (vI p.outs))])]⟩) (fun k=>g.n.toNat - k) 0 (by simp) ?_ ?_
 ·refine Le.of ?_ ?_<;>simp [go_sem,simprocAttr,Ui,fK,gW]
 rintro k ⟨hk,hok⟩
 obtain ⟨hi,_,hrl⟩:=bz hm Ai hk hok
 have hel:=qD (g:=g) (p:=p) (k:=k)
 have hmul:k*(g.es.length+1)≤64*129:=Nat.mul_le_mul (by omega) (by omega)
 rcases Nat.lt_or_ge k g.n.toNat with hlt|hge
 ·have hb:decide ((k:Int)<(p.ord.length:Int))=true:=decide_eq_true (by omega)
  have OG:=aH Ai hlt
  have cE:=Fy (g:=g) (p:=p) (k:=k)
  have M5:fK g p (k+1)=(aC g (fK g p k) (aq p k) (bE p (aq p k))).2:=rfl
  have H7:cH g p k=(aC g (fK g p k) (aq p k) (bE p (aq p k))).1.1:=rfl
  have hpk:=HX Ai hlt
  have OH:=HY (g:=g) (p:=p) (k:=k)
  have hsk:rz g p k=false→R=(([], []),(3,(k:Int))):=fun h=>by
   rw [hR,vY.2 ⟨hlt,h,hok⟩]
  have j0:=ue Ai OG.1 OG.2
  have mJ:p.ord.getD k 0=aq p k:=rfl
  have OI:(fK g p k).pl.length≤64:=by
   rcases OF hi.toeo with h|h
   ·omega
   ·rw [h];simp
  obtain ⟨x,hx⟩:∃x:Nat,aq p k=x:=⟨(aq p k).toNat,by omega⟩
  rw [hx] at mJ M5 H7 hpk OH OG j0 cE
  have hxl:x<p.outs.length:=by have:=Ai.1;omega
  have hv:=gv hxl
  have hla:bE p (x:Int)=p.outs.getD x []:=by unfold bE;rw [Int.toNat_natCast]
  rw [hla] at M5 H7 hpk OH j0
  rw [Int.toNat_natCast] at cE
  have Fz:=s8 g hm (fK g p k) hi (x:Int) (p.outs.getD x []) (by omega) (by omega) (by omega)
  have dX:=Mi (ls:=gW g p k) (k:=x) (l:=cH g p k)
  generalize p.outs.getD x []=o at hv M5 H7 hpk OH Fz
  rw [← cE] at dX
  generalize fK g p k=f at M5 H7 hpk OH Fz hi hrl OI
  have PL:x<(gW g p k).length:=by omega
  have hvl:(vT (gW g p k)).length=(gW g p k).length:=vT_length
  cases J6:rz g p k with
  |false=>
   rw [OH J6] at Fz
   simp only at Fz
   have Uz:=hsk J6
   subst Uz
   repeat' (first|refine Rn.p ?_|(with_reducible apply And.intro)|((first|(refine hK _ ?_;clear hK K)|with_reducible intro K hK|refine Rs.p ?_|((with_reducible first|apply oP|apply oQ);exact rfl)|(refine au hX hC hP [(10000,13),(10001,100),(10002,101)] (Fz) rfl rfl rfl ?_ ?_ ?_ ?_ ?_ ?_ ?_ ?_ ?_ ?_ ?_ ?_ ?_ ?_;(focus (simp only [go_sem,simprocAttr,hb,mJ,hv,jR,ry,List.map_nil];done));(iterate 12 (focus (simp [go_sem,simprocAttr,hb,mJ,hv,jR,ry,List.map_nil];done)));try simp only [List.map_cons,List.map_nil]));try simp only [go_sem,simprocAttr,hb,mJ,hv,jR,ry,List.map_nil])|((with_reducible refine oD ?_ ?_);kernel_rfl)|((with_reducible intro h);try simp only [go_sem,simprocAttr,hb,mJ,hv,jR,ry,List.map_nil] at h)|omega|intro h)
   all_goals rfl
  |true=>
   rw [hpk J6] at Fz
   have wm:(aC g f (x:Int) o).1.2=0:=rfl
   rw [H7] at dX
   generalize aC g f (x:Int) o=su at M5 H7 Fz wm dX
   generalize VX:gW g p k=E at dX PL hel hvl
   have H9:=fun d=>ud PL d
   repeat' (first|(show bY _ (.region 11 _ _) _ _;(refine ef hX 13 2 101 100 rfl rfl rfl (by first|exact .inl rfl|exact .inr rfl) (by decide) (by decide) ?_;simp only [List.set_cons_zero,List.set_cons_succ,go_sem,simprocAttr,hb,mJ,hv,jR,ry,wm,dX,H9,List.drop_succ_cons,List.drop_zero]))|refine Rn.p ?_|(with_reducible apply And.intro)|((first|(refine hK _ ?_;clear hK K)|with_reducible intro K hK|refine Rs.p ?_|((with_reducible first|apply oP|apply oQ);exact rfl)|(refine au hX hC hP [(10000,13),(10001,100),(10002,101)] (Fz) rfl rfl rfl ?_ ?_ ?_ ?_ ?_ ?_ ?_ ?_ ?_ ?_ ?_ ?_ ?_ ?_;(focus (simp only [go_sem,simprocAttr,hb,mJ,hv,jR,ry,wm,dX,H9,List.drop_succ_cons,List.drop_zero];done));(iterate 12 (focus (simp [go_sem,simprocAttr,hb,mJ,hv,jR,ry,wm,dX,H9,List.drop_succ_cons,List.drop_zero];done)));try simp only [List.map_cons,List.map_nil]));try simp only [go_sem,simprocAttr,hb,mJ,hv,jR,ry,wm,dX,H9,List.drop_succ_cons,List.drop_zero])|((with_reducible refine oD ?_ ?_);kernel_rfl)|((with_reducible intro h);try simp only [go_sem,simprocAttr,hb,mJ,hv,jR,ry,wm,dX,H9,List.drop_succ_cons,List.drop_zero] at h)|omega|intro h)
   refine ⟨k+1,⟨by omega,fun j hj=> ?_⟩, ?_,by omega⟩
   ·by_cases e:j=k
    ·subst e;exact J6
    ·exact hok j (by omega)
   ·rw [M5]
    have OJ:(vT E).set x [D.sl 3 (List.map rT su.1.1)]=vT (gW g p (k+1)):=dX
    refine Le.of ?_ ?_<;>simp [go_sem,simprocAttr,hb,mJ,hv,jR,ry,wm,dX,H9,List.drop_succ_cons,List.drop_zero,OJ]
 have hb:decide ((k:Int)<(p.ord.length:Int))=false:=decide_eq_false (by omega)
 obtain rfl:k=g.n.toNat:=by omega
 rw [gX.2 hok] at hR
 subst hR
 repeat' (first|refine Rn.p ?_|(with_reducible apply And.intro)|((first|(refine hK _ ?_;clear hK K)|with_reducible intro K hK|refine Rs.p ?_|((with_reducible first|apply oP|apply oQ);exact rfl)|(refine mW hX hC hP 60 (Fl [vw g,sI (fK g p g.n.toNat).pl] (fK g p g.n.toNat).row (by omega)) rfl rfl rfl ?_ ?_ (by first|exact ⟨_,_,_,rfl,qx⟩|exact ⟨_,_,_,rfl,qy⟩|exact ⟨_,_,_,rfl,qA⟩) rfl (by decide) ?_;(iterate 2 (focus (simp only [go_sem,simprocAttr,hb];done)));simp only [go_sem,simprocAttr,hb]));try simp only [go_sem,simprocAttr,hb])|((with_reducible refine oD ?_ ?_);kernel_rfl)|((with_reducible intro h);try simp only [go_sem,simprocAttr,hb] at h)|omega|intro h)
end Go.Ab
end
section
namespace Go.Ab
open Go.Proofs
attribute [local congr] ACall.congr gd.congr Nx.congr
set_option maxRecDepth 10000
set_option maxHeartbeats 8000000
def ye (n:Int) (es:List Edge) (ord:List Int) (O:List (List Int)):List (Nat × AObj):= [(10000, .box [eN n, .ref 10001, .ref 10002, .ref 10003]),(10001, .tip 73 2 (es.map rE)),(10002, .tip 3 1 (ord.map rI)),(10003, .own 31 1 (vI O))]
def yf (n:Int) (es:List Edge) (ord:List Int) (O:List (List Int)):List (Nat × AObj):= [(10000, .box [eN n, .ref 10004, .ref 10002, .ref 10003]),(10004, .tip 73 2 (es.map rE)),(10002, .tip 3 1 (ord.map rI)),(10003, .own 31 1 (vI O))]
def fF (x:Int) (items:List It):List Edge:=(loose items).map fun v=>(v,x)
theorem Ia {x:Int} {a b:List It} :fF x (a++b)=fF x a++fF x b:=by simp [fF,bR]
theorem Mj {ls:List (List Int)} {k:Nat} {l:List Int} :(vI ls).set k [sI l]=vI (ls.set k l):=by simp [vI,List.map_set]
theorem yg {items:List It} :(loose items).length≤items.length:=by
 unfold loose
 rw [List.length_map]
 exact List.length_filter_le _ _
theorem Bu (n:Int) (es:List Edge) (ord:List Int) (O:List (List Int)) (x:Int) (items:List It) (hl:es.length+items.length≤100000) (hO:∀v∈loose items,0≤v∧v<O.length):
 Spec Tryz.prog 117 (Args [.ptr 10000 0,eN x, .d (sT items)]) (ye n es ord O) (.tup []) (yf n (es++fF x items) ord (dn es.length (fF x items) O)):=by
 unfold ye yf
 (refine Spec.vf (C:=T.cfg [] []) (rs:= []) [(10004,50)] (T.aj _ _) Tryz.func117 rfl rfl Tryz.ntmps117 Tryz.results117 (by simp [AObj.isNest]) (by simp [AObj.isNest]) (by first|(simp [look];done)|(simp [asN];done)|(intro l hl;simp only [asN];repeat (rw [if_neg (fun e=>by subst e;simp [look] at hl)]))) (by first|(simp [look];done)|(simp [asN];done)|(intro l hl;simp only [asN];repeat (rw [if_neg (fun e=>by subst e;simp [look] at hl)]))) (by kernel_rfl) T.mixed fun X hX hP hC aP bV=> ?_)
 repeat' (first|refine Rn.p ?_|(with_reducible apply And.intro)|((first|(refine hK _ ?_;clear hK K)|with_reducible intro K hK|refine Rs.p ?_|((with_reducible first|apply oP|apply oQ);exact rfl));try simp only [go_sem,simprocAttr])|((with_reducible refine oD ?_ ?_);kernel_rfl)|((with_reducible intro h);try simp only [go_sem,simprocAttr] at h)|omega|intro h)
 (refine ef hX 10000 1 10001 50 rfl rfl rfl (by first|exact .inl rfl|exact .inr rfl) (by decide) (by decide) ?_;simp only [List.set_cons_zero,List.set_cons_succ,go_sem,simprocAttr])
 refine ai (fun k:Nat=>k≤items.length) (fun k=>⟨[(0, .ptr 10000 0),(1,eN x),(8, .d (sT items)),(9,eN items.length),(10,eN k)], [(10000, .box [eN n, .ref 50, .ref 10002, .ref 10003]),(50, .tip 73 2 ((es++fF x (items.take k)).map rE)),(10002, .tip 3 1 (ord.map rI)),(10003, .own 31 1 (vI (dn es.length (fF x (items.take k)) O)))]⟩) (fun k=>items.length - k) 0 (by simp) ?_ ?_
 ·refine Le.of ?_ ?_<;>simp [go_sem,simprocAttr,fF,loose,dn]
 rintro k hk
 rcases Nat.lt_or_ge k items.length with hlt|hge
 ·have hb:decide ((k:Int)<(items.length:Int))=true:=decide_eq_true (by omega)
  have zM:items.take (k+1)=items.take k++ [items.getD k (0,0,0)]:=yb hlt
  have UA:=aQ (d:=(0,0,0)) hlt
  have uJ:fF x (items.take (k+1))=fF x (items.take k)++fF x [items.getD k (0,0,0)]:=by rw [zM,Ia]
  have SP:(items.getD k (0,0,0)).1<0→0≤(items.getD k (0,0,0)).2.1∧(items.getD k (0,0,0)).2.1<O.length:=fun h=>hO _ (by
   unfold loose
   exact List.mem_map.2 ⟨_,List.mem_filter.2 ⟨UA,decide_eq_true h⟩,rfl⟩)
  have j0:(fF x (items.take k)).length≤k:=by
   unfold fF
   rw [List.length_map]
   refine Nat.le_trans yg ?_
   rw [List.length_take];omega
  have Jl:=qH (m:=es.length) (N:=fF x (items.take k)) (M:=fF x [items.getD k (0,0,0)]) (O:=O)
  have PK:(dn es.length (fF x (items.take k)) O).length=O.length:=iG
  rw [← uJ] at Jl
  generalize mL:items.getD k (0,0,0)=t at uJ SP Jl
  generalize dn es.length (fF x (items.take k)) O=O' at Jl PK
  generalize fF x (items.take k)=N at uJ j0 Jl
  by_cases h0:0≤t.1
  ·have hb1:decide (0≤t.1)=true:=decide_eq_true h0
   have he:fF x [t]= []:=by
    have:¬t.1<0:=by omega
    simp [fF,loose,this]
   rw [he] at uJ Jl
   rw [List.append_nil] at uJ
   repeat' (first|refine Rn.p ?_|(with_reducible apply And.intro)|((first|(refine hK _ ?_;clear hK K)|with_reducible intro K hK|refine Rs.p ?_|((with_reducible first|apply oP|apply oQ);exact rfl));try simp only [go_sem,simprocAttr,hb,hb1,mL])|((with_reducible refine oD ?_ ?_);kernel_rfl)|((with_reducible intro h);try simp only [go_sem,simprocAttr,hb,hb1,mL] at h)|omega|intro h)
   refine ⟨k+1,by omega, ?_,by omega⟩
   rw [Jl,uJ]
   refine Le.of ?_ ?_<;>simp [go_sem,simprocAttr,hb,hb1,mL,dn]
  ·have hb1:decide (0≤t.1)=false:=decide_eq_false h0
   have he:fF x [t]= [(t.2.1,x)]:=by
    have:t.1<0:=by omega
    simp [fF,loose,this]
   rw [he] at uJ Jl
   obtain ⟨Nr,EM⟩:=SP (by omega)
   obtain ⟨vn,Mf⟩:∃vn:Nat,t.2.1=vn:=⟨t.2.1.toNat,by omega⟩
   have hvl:vn<O'.length:=by omega
   have H9:=fun d=>gv hvl d
   have RH:dn es.length (fF x (items.take (k+1))) O=O'.set vn [((es.length+N.length:Nat):Int)]:=by
    rw [Jl,Mf]
    show O'.set ((vn:Int).toNat) _=_
    rw [Int.toNat_natCast]
   rw [Mf] at uJ
   have hrow:rI ((es.length:Int)+(N.length:Int))= [D.sc (.int .i64 ((es.length:Int)+(N.length:Int)))]:=rfl
   have dX:=Mj (ls:=O') (k:=vn) (l:= [((es.length+N.length:Nat):Int)])
   repeat' (first|(show bY _ (.region 6 _ _) _ _;(refine ef hX 10000 1 43 50 rfl rfl rfl (by first|exact .inl rfl|exact .inr rfl) (by decide) (by decide) ?_;simp only [List.set_cons_zero,List.set_cons_succ,go_sem,simprocAttr,hb,hb1,mL,Mf,H9,List.drop_succ_cons,List.drop_zero,List.length_append]))|refine Rn.p ?_|(with_reducible apply And.intro)|((first|(refine hK _ ?_;clear hK K)|with_reducible intro K hK|refine Rs.p ?_|((with_reducible first|apply oP|apply oQ);exact rfl));try simp only [go_sem,simprocAttr,hb,hb1,mL,Mf,H9,List.drop_succ_cons,List.drop_zero,List.length_append])|((with_reducible refine oD ?_ ?_);kernel_rfl)|((with_reducible intro h);try simp only [go_sem,simprocAttr,hb,hb1,mL,Mf,H9,List.drop_succ_cons,List.drop_zero,List.length_append] at h)|omega|intro h)
   refine ⟨k+1,by omega, ?_,by omega⟩
   rw [RH,uJ]
   refine Le.of ?_ ?_<;>simp [go_sem,simprocAttr,hb,hb1,mL,Mf,H9,List.drop_succ_cons,List.drop_zero,List.length_append]
   refine ⟨rfl, ?_⟩
   simp only [Int.natCast_add] at dX
   exact dX
 ·have hb:decide ((k:Int)<(items.length:Int))=false:=decide_eq_false (by omega)
  obtain rfl:k=items.length:=by omega
  have ht:items.take items.length=items:=List.take_length
  repeat' (first|refine Rn.p ?_|(with_reducible apply And.intro)|((first|(refine hK _ ?_;clear hK K)|with_reducible intro K hK|refine Rs.p ?_|((with_reducible first|apply oP|apply oQ);exact rfl));try simp only [go_sem,simprocAttr,hb,ht])|((with_reducible refine oD ?_ ?_);kernel_rfl)|((with_reducible intro h);try simp only [go_sem,simprocAttr,hb,ht] at h)|omega|intro h)
end Go.Ab
end
section
namespace Go.Ab
open Go.Proofs
attribute [local congr] ACall.congr gd.congr Nx.congr
set_option maxRecDepth 10000
set_option maxHeartbeats 16000000
theorem zP (ps:List Edge) (hl:ps.length≤1000000):
 Spec Tryz.prog 97 (Args [.d (sE ps)]) [] (.ref 10000) [(10000, .tip 73 2 (ps.map rE))]:=by
 (refine Spec.vf (C:=T.cfg [] []) (rs:= [.t 2]) [(10000,7)] (T.aj _ _) Tryz.func97 rfl rfl Tryz.ntmps97 Tryz.results97 (by simp [AObj.isNest]) (by simp [AObj.isNest]) (by first|(simp [look];done)|(simp [asN];done)|(intro l hl;simp only [asN];repeat (rw [if_neg (fun e=>by subst e;simp [look] at hl)]))) (by first|(simp [look];done)|(simp [asN];done)|(intro l hl;simp only [asN];repeat (rw [if_neg (fun e=>by subst e;simp [look] at hl)]))) (by kernel_rfl) T.mixed fun X hX hP hC aP bV=> ?_)
 repeat' (first|(show bY _ .ret _ _;(try simp only [go_sem,simprocAttr]);refine dU hX 2 7 (.tip 73 2 []) ?_ ?_ (by decide) ⟨73,2,by decide, .inr rfl⟩ ?_;(iterate 2 (focus (simp only [go_sem,simprocAttr];done)));simp only [go_sem,simprocAttr])|refine Rn.p ?_|(with_reducible apply And.intro)|((first|(refine hK _ ?_;clear hK K)|with_reducible intro K hK|refine Rs.p ?_|((with_reducible first|apply oP|apply oQ);exact rfl));try simp only [go_sem,simprocAttr])|((with_reducible refine oD ?_ ?_);kernel_rfl)|((with_reducible intro h);try simp only [go_sem,simprocAttr] at h)|omega|intro h)
 exact h.symm
def pz:Pl:=⟨[], []⟩
def k8 (b:Bool) (g:Gr) (p:Pl):Gr × Pl × Int:=
 if (cA b g p).2.1≠0 then (gz,pz,1) else if 64<(ak g p).n∨128<(ak g p).es.length then (gz,pz,10) else (ak g p,bJ g p,0)
theorem oe {b:Bool} {g:Gr} {p:Pl} (hr:b=true↔(bT g).1=0∧bk g p) (h:(cA b g p).2.1=0):aN g p∧cA b g p=((gW g p g.n.toNat,aX g p),(0,0)):=by
 cases b with
 |false=>simp [cA] at h
 |true=>
  have hR:cA true g p=match kZ g p g.n.toNat with
   |some i=>(([], []),(3,(i:Int)))
   |none=>((gW g p g.n.toNat,(fK g p g.n.toNat).row),(0,0)):=rfl
  cases hs:kZ g p g.n.toNat with
  |some i=>rw [hR,hs] at h;simp at h
  |none=>
   obtain ⟨h1,h2⟩:=hr.1 rfl
   exact ⟨⟨h1,h2,gX.1 hs⟩,by rw [hR,hs];rfl⟩
theorem FA {g:Gr} {p:Pl} {k:Nat} :cD g p (k+1)=cD g p k++fF (aq p k) (cH g p k):=rfl
theorem DO {g:Gr} {p:Pl} (hr:aN g p) {k:Nat} (hk:k≤g.n.toNat):(cD g p k).length≤g.n.toNat∧∀e∈cD g p k,0≤e.1∧e.1<g.n:=by
 obtain ⟨hc,h,hok⟩:=hr
 have hm:=ag hc
 obtain ⟨h1,h2⟩:=gY hm h hk fun j hj=>hok j (by omega)
 obtain ⟨hi,_⟩:=bz hm h hk fun j hj=>hok j (by omega)
 have hv:∀v∈(cD g p k).map (·.1),0≤v∧v<g.n:=fun v hv=>hi.oM v (h2 v (List.mem_append_left _ hv)).1
 refine ⟨?_,fun e he=>hv _ (List.mem_map.2 ⟨e,he,rfl⟩)⟩
 have:=jI (List.nodup_append.1 h1).1 (m:=dW g.n.toNat) fun v F4=>cm.2 (by have:=hv v F4;omega)
 rw [jJ,List.length_map] at this
 exact this
theorem zQ (g:Gr) (hl:g.es.length≤1000) (p:Pl) (hp:qI p) (hp1:p.ord.length≤1000) (hp2:p.outs.length≤1000) (RI:∀l∈p.outs,l.length≤1000) (b:Bool) (hr:b=true↔(bT g).1=0∧bk g p):
 Spec Tryz.prog 75 (Args [eG g,ePl p]) [] (.tup [eG (k8 b g p).1,ePl (k8 b g p).2.1,eN (k8 b g p).2.2]) []:=by
 have hO:=ir g hl p hp b hr
 by_cases h0:(cA b g p).2.1=0
 rotate_left
 ·have Ib:k8 b g p=(gz,pz,1):=if_pos h0
  rw [Ib]
  have hb1:decide ((cA b g p).2.1=0)=false:=decide_eq_false h0
  (refine Spec.hd (C:=T.cfg [] []) (rs:= [.c 4 24, .c 5 34, .t 6]) (T.aj _ _) Tryz.func75 rfl rfl Tryz.ntmps75 Tryz.results75 (by simp [AObj.isNest]) (by simp [AObj.isNest]) (by kernel_rfl) T.mixed fun X hX hP hC aP bV=> ?_)
  repeat' (first|refine Rn.p ?_|(with_reducible apply And.intro)|((first|(refine hK _ ?_;clear hK K)|with_reducible intro K hK|refine Rs.p ?_|((with_reducible first|apply oP|apply oQ);exact rfl)|refine aa hX hC hP (hO) rfl rfl rfl (by simp only [go_sem,simprocAttr,hb1,gz,pz,vI,List.map_nil]) rfl ?_);try simp only [go_sem,simprocAttr,hb1,gz,pz,vI,List.map_nil])|((with_reducible refine oD ?_ ?_);kernel_rfl)|((with_reducible intro h);try simp only [go_sem,simprocAttr,hb1,gz,pz,vI,List.map_nil] at h)|omega|intro h)
 obtain ⟨hrun,hR⟩:=oe hr h0
 rw [hR] at hO
 simp only at hO
 have Ib:k8 b g p=if 64<(ak g p).n∨128<(ak g p).es.length then (gz,pz,10) else (ak g p,bJ g p,0):=by
  unfold k8;rw [if_neg (by rw [h0];simp)]
 generalize k8 b g p=AR at Ib
 have hm:=ag hrun.1
 have hn:=aA hm
 have Ai:=hrun.2.1
 have hle:=aM Ai
 have tQ:=Ai.1
 (refine Spec.hd (C:=T.cfg [55,98] []) (rs:= [.c 4 24, .c 5 34, .t 6]) (T.aj _ _) Tryz.func75 rfl rfl Tryz.ntmps75 Tryz.results75 (by simp [AObj.isNest]) (by simp [AObj.isNest]) (by kernel_rfl) T.mixed fun X hX hP hC aP bV=> ?_)
 repeat' (first|(show bY _ (.seq (.region 5 _ _) _) _ _;(refine ef hX 38 1 31 200 rfl rfl rfl (by first|exact .inl rfl|exact .inr rfl) (by decide) (by decide) ?_;simp only [List.set_cons_zero,List.set_cons_succ,go_sem,simprocAttr]);(refine kI hX 38 3 201 (.own 31 1 []) rfl rfl rfl (by simp only [go_sem,simprocAttr]) (by decide) (by simp [go_sem,simprocAttr]) ⟨31,1,by decide, .inl rfl⟩ ?_;simp only [List.set_cons_zero,List.set_cons_succ,go_sem,simprocAttr]))|refine Rn.p ?_|(with_reducible apply And.intro)|((first|(refine hK _ ?_;clear hK K)|with_reducible intro K hK|refine Rs.p ?_|((with_reducible first|apply oP|apply oQ);exact rfl)|refine aa hX hC hP (hO) rfl rfl rfl (by simp only [go_sem,simprocAttr]) rfl ?_|(refine jx hX hC hP [(10000,31)] (zP g.es (by omega)) rfl rfl rfl ?_ ?_ ?_ ?_ ?_ ?_ ?_ ?_ ?_ ?_ ?_ ?_ ?_ ?_;(focus (simp only [go_sem,simprocAttr];done));(iterate 12 (focus (simp [go_sem,simprocAttr];done)));try simp only [List.map_cons,List.map_nil])|(refine jx hX hC hP [(10000,35)] (zJ p.ord (by omega)) rfl rfl rfl ?_ ?_ ?_ ?_ ?_ ?_ ?_ ?_ ?_ ?_ ?_ ?_ ?_ ?_;(focus (simp only [go_sem,simprocAttr];done));(iterate 12 (focus (simp [go_sem,simprocAttr];done)));try simp only [List.map_cons,List.map_nil]));try simp only [go_sem,simprocAttr])|((with_reducible refine oD ?_ ?_);kernel_rfl)|((with_reducible intro h);try simp only [go_sem,simprocAttr] at h)|omega|intro h)
 refine ai (fun x:Nat=>x≤p.outs.length) (fun x=>⟨[(2, .ptr 2 0),(3, .ptr 3 0),(4, .ptr 4 0),(5, .ptr 5 0),(7, .d (.sl 1 (vT (gW g p g.n.toNat)))),(8, .d (sT (aX g p))),(10, .ptr 38 0),(40, .d (.sl 1 (vI p.outs))),(41,eN p.outs.length),(42,eN x)], [(2, .box [eN g.n, .d (sE g.es)]),(3, .box [.d (sI p.ord), .d (.sl 1 (vI p.outs))]),(4, .box [eN 0, .nil 73]),(5, .box [.nil 3, .nil 31]),(38, .box [eN g.n, .ref 200, .ref 35, .ref 201]),(200, .tip 73 2 (g.es.map rE)),(35, .tip 3 1 (p.ord.map rI)),(201, .own 31 1 (vI (p.outs.take x)))]⟩) (fun x=>p.outs.length - x) 0 (by simp) ?_ ?_
 ·refine Le.of ?_ ?_<;>simp [go_sem,simprocAttr,vI]
 rintro x hx
 rcases Nat.lt_or_ge x p.outs.length with hxl|Jk
 ·have hb:decide ((x:Int)<(p.outs.length:Int))=true:=decide_eq_true (by omega)
  have hv:=gv hxl
  have j0:=RI _ (aQ (d:= []) hxl)
  have zM:vI (p.outs.take (x+1))=vI (p.outs.take x)++ [[sI (p.outs.getD x [])]]:=by
   unfold vI
   rw [vQ (d:= []) hxl]
  have htl:(p.outs.take x).length=x:=by rw [List.length_take];omega
  have RJ:=jZ (p.outs.getD x []) (by omega)
  generalize p.outs.getD x []=l at hv j0 zM RJ
  repeat' (first|(show bY _ (.region 9 _ _) _ _;(refine ef hX 38 3 55 201 rfl rfl rfl (by first|exact .inl rfl|exact .inr rfl) (by decide) (by decide) ?_;simp only [List.set_cons_zero,List.set_cons_succ,go_sem,simprocAttr,hb,hv,htl]))|refine Rn.p ?_|(with_reducible apply And.intro)|((first|(refine hK _ ?_;clear hK K)|with_reducible intro K hK|refine Rs.p ?_|((with_reducible first|apply oP|apply oQ);exact rfl)|refine aa hX hC hP (RJ) rfl rfl rfl (by simp only [go_sem,simprocAttr,hb,hv,htl]) rfl ?_);try simp only [go_sem,simprocAttr,hb,hv,htl])|((with_reducible refine oD ?_ ?_);kernel_rfl)|((with_reducible intro h);try simp only [go_sem,simprocAttr,hb,hv,htl] at h)|omega|intro h)
  refine ⟨x+1,by omega, ?_,by omega⟩
  rw [zM]
  refine Le.of ?_ ?_<;>simp [go_sem,simprocAttr,hb,hv,htl]
 have hb:decide ((x:Int)<(p.outs.length:Int))=false:=decide_eq_false (by omega)
 obtain rfl:x=p.outs.length:=by omega
 repeat' (first|refine Rn.p ?_|(with_reducible apply And.intro)|((first|(refine hK _ ?_;clear hK K)|with_reducible intro K hK|refine Rs.p ?_|((with_reducible first|apply oP|apply oQ);exact rfl)|refine aa hX hC hP (RJ) rfl rfl rfl (by simp only [go_sem,simprocAttr,hb,List.take_length]) rfl ?_);try simp only [go_sem,simprocAttr,hb,List.take_length])|((with_reducible refine oD ?_ ?_);kernel_rfl)|((with_reducible intro h);try simp only [go_sem,simprocAttr,hb,List.take_length] at h)|omega|intro h)
 clear hb hx
 refine ai (fun k:Nat=>k≤g.n.toNat) (fun k=>⟨[(2, .ptr 2 0),(4, .ptr 4 0),(5, .ptr 5 0),(7, .d (.sl 1 (vT (gW g p g.n.toNat)))),(8, .d (sT (aX g p))),(10, .ptr 38 0),(61, .d (sI p.ord)),(62,eN p.ord.length),(63,eN k)], [(2, .box [eN g.n, .d (sE g.es)]),(4, .box [eN 0, .nil 73]),(5, .box [.nil 3, .nil 31]),(38, .box [eN g.n, .ref 200, .ref 35, .ref 201]),(200, .tip 73 2 ((g.es++cD g p k).map rE)),(35, .tip 3 1 (p.ord.map rI)),(201, .own 31 1 (vI (dn g.es.length (cD g p k) p.outs)))]⟩) (fun k=>g.n.toNat - k) 0 (by simp) ?_ ?_
 ·refine Le.of ?_ ?_<;>simp [go_sem,simprocAttr,cD,dn]
 rintro k hk
 obtain ⟨hnl,Jj⟩:=DO hrun hk
 have PK:(dn g.es.length (cD g p k) p.outs).length=p.outs.length:=iG
 rcases Nat.lt_or_ge k g.n.toNat with cB|Ln
 ·have hb:decide ((k:Int)<(p.ord.length:Int))=true:=decide_eq_true (by omega)
  have OG:=aH Ai cB
  have MX:=uf Ai (k:=g.n.toNat) (Nat.le_refl _) cB
  have mJ:p.ord.getD k 0=aq p k:=rfl
  have cE:=FA (g:=g) (p:=p) (k:=k)
  obtain ⟨Bv,RM⟩:=DO hrun (k:=k+1) (by omega)
  have B9:(cH g p k).length≤(fK g p k).row.length:=by unfold cH aC;simp;omega
  obtain ⟨_,_,hrl⟩:=bz hm Ai (k:=k) (by omega) fun j hj=>hrun.2.2 j (by omega)
  have hmul:k*(g.es.length+1)≤64*129:=Nat.mul_le_mul (by omega) (by omega)
  have Jl:dn g.es.length (cD g p (k+1)) p.outs=dn (g.es++cD g p k).length (fF (aq p k) (cH g p k)) (dn g.es.length (cD g p k) p.outs):=by
   rw [cE,qH,List.length_append]
  have zx:=Bu g.n (g.es++cD g p k) p.ord (dn g.es.length (cD g p k) p.outs) (aq p k) (cH g p k) (by rw [List.length_append];omega) (fun v hv=>by
   have:=RM (v,aq p k) (by rw [cE];exact List.mem_append_right _ (List.mem_map.2 ⟨v,hv,rfl⟩))
   simp only at this
   omega)
  rw [← Jl] at zx
  have Cb:g.es++cD g p k++fF (aq p k) (cH g p k)=g.es++cD g p (k+1):=by rw [cE,List.append_assoc]
  rw [Cb] at zx
  obtain ⟨x,hx⟩:∃x:Nat,aq p k=x:=⟨(aq p k).toNat,by omega⟩
  rw [hx] at mJ MX zx OG
  rw [Int.toNat_natCast] at MX
  have hel:=qD (g:=g) (p:=p) (k:=g.n.toNat)
  have PL:x<(gW g p g.n.toNat).length:=by omega
  have Mk:=ud PL
  rw [MX] at Mk
  have hvl:(vT (gW g p g.n.toNat)).length=(gW g p g.n.toNat).length:=vT_length
  repeat' (first|(show bY _ (.region 14 _ _) _ _;(refine ef hX 38 1 202 200 rfl rfl rfl (by first|exact .inl rfl|exact .inr rfl) (by decide) (by decide) ?_;simp only [List.set_cons_zero,List.set_cons_succ,go_sem,simprocAttr,hb,mJ,Mk,hvl,ye,yf]))|refine Rn.p ?_|(with_reducible apply And.intro)|((first|(refine hK _ ?_;clear hK K)|with_reducible intro K hK|refine Rs.p ?_|((with_reducible first|apply oP|apply oQ);exact rfl)|(refine au hX hC hP [(10000,38),(10001,200),(10002,35),(10003,201),(10004,202)] (zx) rfl rfl rfl ?_ ?_ ?_ ?_ ?_ ?_ ?_ ?_ ?_ ?_ ?_ ?_ ?_ ?_;(focus (simp only [go_sem,simprocAttr,hb,mJ,Mk,hvl,ye,yf];done));(iterate 12 (focus (simp [go_sem,simprocAttr,hb,mJ,Mk,hvl,ye,yf];done)));try simp only [List.map_cons,List.map_nil]));try simp only [go_sem,simprocAttr,hb,mJ,Mk,hvl,ye,yf])|((with_reducible refine oD ?_ ?_);kernel_rfl)|((with_reducible intro h);try simp only [go_sem,simprocAttr,hb,mJ,Mk,hvl,ye,yf] at h)|omega|intro h)
  refine ⟨k+1,by omega, ?_,by omega⟩
  refine Le.of ?_ ?_<;>simp [go_sem,simprocAttr,hb,mJ,Mk,hvl,ye,yf]
 have hb:decide ((k:Int)<(p.ord.length:Int))=false:=decide_eq_false (by omega)
 obtain rfl:k=g.n.toNat:=by omega
 by_cases h1:1<(aX g p).length
 ·have hb1:decide ((1:Int)<((aX g p).length:Int))=true:=decide_eq_true (by omega)
  obtain ⟨_,_,hrl⟩:=bz hm Ai (k:=g.n.toNat) (Nat.le_refl _) hrun.2.2
  have hmul:g.n.toNat*(g.es.length+1)≤64*129:=Nat.mul_le_mul (by omega) (by omega)
  have hrl:(aX g p).length≤g.n.toNat*(g.es.length+1):=hrl
  obtain ⟨uL,DN⟩:=gw hrun
  have Bv:newL g p=fF g.n (aX g p):=if_pos h1
  have zx:=Bu (g.n+1) (g.es++cD g p g.n.toNat) (p.ord++ [g.n]) (dn g.es.length (cD g p g.n.toNat) p.outs++ [[]]) g.n (aX g p) (by rw [List.length_append];omega) (fun v hv=>by
   have:=(DN (v,g.n) (by unfold bq;rw [Bv];exact List.mem_append_right _ (List.mem_map.2 ⟨v,hv,rfl⟩))).1
   simp only at this
   rw [List.length_append,iG];omega)
  have hq:dn (g.es++cD g p g.n.toNat).length (fF g.n (aX g p)) (dn g.es.length (cD g p g.n.toNat) p.outs++ [[]])=(bJ g p).outs:=by
   show _=dn g.es.length (bq g p) (if 1<(aX g p).length then p.outs++ [[]] else p.outs)
   have uJ:=yd (m:=g.es.length) (N:=cD g p g.n.toNat) (O:=p.outs) (fun e he=>by
    have:=Jj e he
    omega)
   rw [if_pos h1,bq,Bv,qH,List.length_append,uJ]
  have he:g.es++cD g p g.n.toNat++fF g.n (aX g p)=(ak g p).es:=by
   show _=g.es++bq g p
   rw [bq,Bv,List.append_assoc]
  have ho:p.ord++ [g.n]=(bJ g p).ord:=(if_pos h1).symm
  have hg:g.n+1=(ak g p).n:=(if_pos h1).symm
  have hvs:vI (dn g.es.length (cD g p g.n.toNat) p.outs)++ [[D.sl 1 []]]=vI (dn g.es.length (cD g p g.n.toNat) p.outs++ [[]]):=by simp [vI,sI]
  have hos:p.ord.map rI++ [[D.sc (.int .i64 g.n)]]=(p.ord++ [g.n]).map rI:=by simp [rI]
  rw [hq,he] at zx
  have xQ:(ak g p).es.length≤1000:=by
   rw [← he,List.length_append,List.length_append]
   have:(fF g.n (aX g p)).length≤g.n.toNat:=by
    have:=jI (List.nodup_append.1 (by rw [bq,List.map_append] at uL;exact uL)).2.1 (m:=dW g.n.toNat) fun v F4=>cm.2 (by
     obtain ⟨e,he,rfl⟩:=List.mem_map.1 F4
     have:=(DN e (List.mem_append_right _ he)).1
     omega)
    rw [jJ,List.length_map,Bv] at this
    exact this
   omega
  have J7:AR=if 64<(ak g p).n∨128<(ak g p).es.length then (gz,pz,10) else (ak g p,bJ g p,0):=Ib
  clear Ib
  have Sx:(bJ g p).outs.length=(bJ g p).outs.length:=rfl
  have Ss:bJ g p=⟨(bJ g p).ord,(bJ g p).outs⟩:=rfl
  generalize ak g p=G at he hg zx J7 xQ
  rw [ho] at zx hos
  generalize bJ g p=Q at hq ho zx J7 hos
  by_cases h2:64<G.n
  ·have hb2:decide (64<G.n)=true:=decide_eq_true h2
   rw [if_pos (.inl h2)] at J7
   subst J7
   repeat' (first|refine Rn.p ?_|(with_reducible apply And.intro)|((first|(refine hK _ ?_;clear hK K)|with_reducible intro K hK|refine Rs.p ?_|((with_reducible first|apply oP|apply oQ);exact rfl)|(refine au hX hC hP [(10000,38),(10001,200),(10002,87),(10003,98),(10004,203)] (zx) rfl rfl rfl ?_ ?_ ?_ ?_ ?_ ?_ ?_ ?_ ?_ ?_ ?_ ?_ ?_ ?_;(focus (simp only [go_sem,simprocAttr,hb,hb1,hb2,ye,yf,hvs,hos,hg,gz,pz,vI,List.map_nil];done));(iterate 12 (focus (simp [go_sem,simprocAttr,hb,hb1,hb2,ye,yf,hvs,hos,hg,gz,pz,vI,List.map_nil];done)));try simp only [List.map_cons,List.map_nil]));try simp only [go_sem,simprocAttr,hb,hb1,hb2,ye,yf,hvs,hos,hg,gz,pz,vI,List.map_nil])|((with_reducible refine oD ?_ ?_);kernel_rfl)|((with_reducible intro h);try simp only [go_sem,simprocAttr,hb,hb1,hb2,ye,yf,hvs,hos,hg,gz,pz,vI,List.map_nil] at h)|omega|intro h)
  ·have hb2:decide (64<G.n)=false:=decide_eq_false h2
   by_cases h3:128<G.es.length
   ·have hb3:decide (128<(G.es.length:Int))=true:=decide_eq_true (by omega)
    rw [if_pos (.inr h3)] at J7
    subst J7
    repeat' (first|refine Rn.p ?_|(with_reducible apply And.intro)|((first|(refine hK _ ?_;clear hK K)|with_reducible intro K hK|refine Rs.p ?_|((with_reducible first|apply oP|apply oQ);exact rfl)|(refine au hX hC hP [(10000,38),(10001,200),(10002,87),(10003,98),(10004,203)] (zx) rfl rfl rfl ?_ ?_ ?_ ?_ ?_ ?_ ?_ ?_ ?_ ?_ ?_ ?_ ?_ ?_;(focus (simp only [go_sem,simprocAttr,hb,hb1,hb2,hb3,ye,yf,hvs,hos,hg,gz,pz];done));(iterate 12 (focus (simp [go_sem,simprocAttr,hb,hb1,hb2,hb3,ye,yf,hvs,hos,hg,gz,pz];done)));try simp only [List.map_cons,List.map_nil]));try simp only [go_sem,simprocAttr,hb,hb1,hb2,hb3,ye,yf,hvs,hos,hg,gz,pz])|((with_reducible refine oD ?_ ?_);kernel_rfl)|((with_reducible intro h);try simp only [go_sem,simprocAttr,hb,hb1,hb2,hb3,ye,yf,hvs,hos,hg,gz,pz] at h)|omega|intro h)
    all_goals rfl
   ·have hb3:decide (128<(G.es.length:Int))=false:=decide_eq_false (by omega)
    rw [if_neg (by rintro (h|h);exact h2 h;exact h3 h)] at J7
    subst J7
    repeat' (first|refine Rn.p ?_|(with_reducible apply And.intro)|((first|(refine hK _ ?_;clear hK K)|with_reducible intro K hK|refine Rs.p ?_|((with_reducible first|apply oP|apply oQ);exact rfl)|(refine au hX hC hP [(10000,38),(10001,200),(10002,87),(10003,98),(10004,203)] (zx) rfl rfl rfl ?_ ?_ ?_ ?_ ?_ ?_ ?_ ?_ ?_ ?_ ?_ ?_ ?_ ?_;(focus (simp only [go_sem,simprocAttr,hb,hb1,hb2,hb3,ye,yf,hvs,hos,hg];done));(iterate 12 (focus (simp [go_sem,simprocAttr,hb,hb1,hb2,hb3,ye,yf,hvs,hos,hg];done)));try simp only [List.map_cons,List.map_nil]));try simp only [go_sem,simprocAttr,hb,hb1,hb2,hb3,ye,yf,hvs,hos,hg])|((with_reducible refine oD ?_ ?_);kernel_rfl)|((with_reducible intro h);try simp only [go_sem,simprocAttr,hb,hb1,hb2,hb3,ye,yf,hvs,hos,hg] at h)|omega|intro h)
 ·have hb1:decide ((1:Int)<((aX g p).length:Int))=false:=decide_eq_false (by omega)
  have Bv:newL g p= []:=if_neg h1
  have he:g.es++cD g p g.n.toNat=(ak g p).es:=by
   show _=g.es++bq g p
   rw [bq,Bv,List.append_nil]
  have hq:dn g.es.length (cD g p g.n.toNat) p.outs=(bJ g p).outs:=by
   show _=dn g.es.length (bq g p) (if 1<(aX g p).length then p.outs++ [[]] else p.outs)
   rw [if_neg h1,bq,Bv,List.append_nil]
  have ho:p.ord=(bJ g p).ord:=(if_neg h1).symm
  have hg:g.n=(ak g p).n:=(if_neg h1).symm
  have hml:(g.es++cD g p g.n.toNat).map rE=(ak g p).es.map rE:=by rw [he]
  have RN:(ak g p).es.length=g.es.length+(cD g p g.n.toNat).length:=by rw [← he,List.length_append]
  have Lh:p.ord.map rI=(bJ g p).ord.map rI:=by rw [← ho]
  generalize ak g p=G at he hg Ib hml RN
  generalize bJ g p=Q at hq ho Ib Lh
  by_cases h2:64<G.n
  ·omega
  ·have hb2:decide (64<G.n)=false:=decide_eq_false h2
   by_cases h3:128<G.es.length
   ·have hb3:decide (128<(G.es.length:Int))=true:=decide_eq_true (by omega)
    rw [if_pos (.inr h3)] at Ib
    subst Ib
    rw [he]
    repeat' (first|refine Rn.p ?_|(with_reducible apply And.intro)|((first|(refine hK _ ?_;clear hK K)|with_reducible intro K hK|refine Rs.p ?_|((with_reducible first|apply oP|apply oQ);exact rfl));try simp only [go_sem,simprocAttr,hb,hb1,hb2,hb3,hg,gz,pz])|((with_reducible refine oD ?_ ?_);kernel_rfl)|((with_reducible intro h);try simp only [go_sem,simprocAttr,hb,hb1,hb2,hb3,hg,gz,pz] at h)|omega|intro h)
    all_goals rfl
   ·have hb3:decide (128<(G.es.length:Int))=false:=decide_eq_false (by omega)
    rw [if_neg (by rintro (h|h);exact h2 h;exact h3 h)] at Ib
    subst Ib
    rw [he,hq]
    have OK:=Lh.symm
    have Jg:=hg.symm
    rw [Jg] at hb2
    repeat' (first|refine Rn.p ?_|(with_reducible apply And.intro)|((first|(refine hK _ ?_;clear hK K)|with_reducible intro K hK|refine Rs.p ?_|((with_reducible first|apply oP|apply oQ);exact rfl));try simp only [go_sem,simprocAttr,hb,hb1,hb2,hb3,Jg,OK])|((with_reducible refine oD ?_ ?_);kernel_rfl)|((with_reducible intro h);try simp only [go_sem,simprocAttr,hb,hb1,hb2,hb3,Jg,OK] at h)|omega|intro h)
end Go.Ab
end
section
namespace Go.Ab
open Go.Proofs
attribute [local congr] ACall.congr gd.congr Nx.congr
set_option maxRecDepth 10000
set_option maxHeartbeats 16000000
def UB (p:Pl) (x:Gr) (k:Nat):List (List Int):=(List.range k).map fun v=>if 0<(p.outs.getD v []).length then p.outs.getD v [] else cn x (v:Int)
theorem Ic {g:Gr} {p:Pl} {k:Nat} {t:It} (h:t∈cH g p k):t∈(fK g p k).row:=by
 unfold cH aC at h
 exact List.mem_of_mem_take (List.mem_of_mem_drop h)
theorem pK {g:Gr} {p:Pl} (hr:aN g p):∀t∈aX g p,t.1<0:=by
 obtain ⟨hc,h,hok⟩:=hr
 have hm:=ag hc
 have hn:=aA hm
 obtain ⟨hi,bZ,_⟩:=bz hm h (k:=g.n.toNat) (Nat.le_refl _) hok
 intro t ht
 refine Decidable.byContradiction fun h0=> ?_
 rcases hi.it t ht with ⟨h1,_⟩|⟨h1,h2,_,h4⟩
 ·omega
 ·have Rq:=(cM hm (k:=t.1.toNat) (by omega)).2
  rw [← h4] at Rq
  refine hi.head t ht h1 (gV hi.toeo ?_ Rq)
  rw [bZ,List.length_take,aM h];omega
end Go.Ab
end
section
namespace Go.Ab
open Go.Proofs
attribute [local congr] ACall.congr gd.congr Nx.congr
set_option maxRecDepth 10000
set_option maxHeartbeats 8000000
def wo (g:Gr) (p:Pl):Bool:=decide (200<g.es.length)||decide (100<p.ord.length)||decide (100<p.outs.length)||p.outs.any fun l=>decide (200<l.length)
theorem DP {g:Gr} {p:Pl} (h:wo g p=false):g.es.length≤200∧p.ord.length≤100∧p.outs.length≤100∧∀l∈p.outs,l.length≤200:=by
 simp only [wo,Bool.or_eq_false_iff,decide_eq_false_iff_not,List.any_eq_false,decide_eq_true_eq] at h
 obtain ⟨⟨⟨h1,h2⟩,h3⟩,h4⟩:=h
 exact ⟨by omega,by omega,by omega,fun l hl=>by have:=h4 l hl;omega⟩
theorem Ie {g:Gr} {p:Pl} (h:wo g p=false):qI p:=by
 obtain ⟨_,h1,h2,h3⟩:=DP h
 exact ⟨by omega,by omega,fun l hl=>by have:=h3 l hl;omega⟩
structure Ig (p:Pl):Prop where
 ord:p.ord.length≤9223372036854775807
 outs:p.outs.length≤9223372036854775807
 each:∀l∈p.outs,l.length≤9223372036854775807
theorem zR (g:Gr) (p:Pl) (hl:g.es.length≤9223372036854775807) (hp:Ig p):Spec Tryz.prog 22 (Args [eG g,ePl p]) [] (eB (wo g p)) []:=by
 have ho:=hp.ord
 have hu:=hp.outs
 (refine Spec.hd (C:=T.cfg [] []) (rs:= [.t 4]) (T.aj _ _) Tryz.func22 rfl rfl Tryz.ntmps22 Tryz.results22 (by simp [AObj.isNest]) (by simp [AObj.isNest]) (by kernel_rfl) T.mixed fun X hX hP hC aP bV=> ?_)
 generalize hB:wo g p=B
 by_cases h1:200<g.es.length
 ·have hb1:decide (200<(g.es.length:Int))=true:=decide_eq_true (by omega)
  have:B=true:=by rw [← hB,wo,decide_eq_true h1];rfl
  subst this
  repeat' (first|refine Rn.p ?_|(with_reducible apply And.intro)|((first|(refine hK _ ?_;clear hK K)|with_reducible intro K hK|refine Rs.p ?_|((with_reducible first|apply oP|apply oQ);exact rfl));try simp only [go_sem,simprocAttr,hb1])|((with_reducible refine oD ?_ ?_);kernel_rfl)|((with_reducible intro h);try simp only [go_sem,simprocAttr,hb1] at h)|omega|intro h)
 have hb1:decide (200<(g.es.length:Int))=false:=decide_eq_false (by omega)
 by_cases h2:100<p.ord.length
 ·have hb2:decide (100<(p.ord.length:Int))=true:=decide_eq_true (by omega)
  have:B=true:=by rw [← hB,wo,decide_eq_true h2];simp
  subst this
  repeat' (first|refine Rn.p ?_|(with_reducible apply And.intro)|((first|(refine hK _ ?_;clear hK K)|with_reducible intro K hK|refine Rs.p ?_|((with_reducible first|apply oP|apply oQ);exact rfl));try simp only [go_sem,simprocAttr,hb1,hb2])|((with_reducible refine oD ?_ ?_);kernel_rfl)|((with_reducible intro h);try simp only [go_sem,simprocAttr,hb1,hb2] at h)|omega|intro h)
 have hb2:decide (100<(p.ord.length:Int))=false:=decide_eq_false (by omega)
 by_cases h3:100<p.outs.length
 ·have hb3:decide (100<(p.outs.length:Int))=true:=decide_eq_true (by omega)
  have:B=true:=by rw [← hB,wo,decide_eq_true h3];simp
  subst this
  repeat' (first|refine Rn.p ?_|(with_reducible apply And.intro)|((first|(refine hK _ ?_;clear hK K)|with_reducible intro K hK|refine Rs.p ?_|((with_reducible first|apply oP|apply oQ);exact rfl));try simp only [go_sem,simprocAttr,hb1,hb2,hb3])|((with_reducible refine oD ?_ ?_);kernel_rfl)|((with_reducible intro h);try simp only [go_sem,simprocAttr,hb1,hb2,hb3] at h)|omega|intro h)
 have hb3:decide (100<(p.outs.length:Int))=false:=decide_eq_false (by omega)
 have xz:B=p.outs.any fun l=>decide (200<l.length):=by rw [← hB,wo,decide_eq_false h1,decide_eq_false h2,decide_eq_false h3];simp
 clear hB
 repeat' (first|refine Rn.p ?_|(with_reducible apply And.intro)|((first|(refine hK _ ?_;clear hK K)|with_reducible intro K hK|refine Rs.p ?_|((with_reducible first|apply oP|apply oQ);exact rfl));try simp only [go_sem,simprocAttr,hb1,hb2,hb3])|((with_reducible refine oD ?_ ?_);kernel_rfl)|((with_reducible intro h);try simp only [go_sem,simprocAttr,hb1,hb2,hb3] at h)|omega|intro h)
 refine ai (fun k:Nat=>k≤p.outs.length∧∀j,j<k→(p.outs.getD j []).length≤200) (fun k=>⟨[(24, .d (.sl 1 (vI p.outs))),(25,eN p.outs.length),(26,eN k)], []⟩) (fun k=>p.outs.length - k) 0 (by simp) ?_ ?_
 ·(refine Le.of ?_ ?_<;>simp [go_sem,simprocAttr])
 rintro k ⟨hk,hg⟩
 rcases Nat.lt_or_ge k p.outs.length with cB|Ln
 ·have hb:decide ((k:Int)<(p.outs.length:Int))=true:=decide_eq_true (by omega)
  have hv:=gv cB
  have hm:=aQ (d:= []) cB
  have j0:=hp.each _ hm
  by_cases h4:200<(p.outs.getD k []).length
  ·have hb4:decide (200<((p.outs.getD k []).length:Int))=true:=decide_eq_true (by omega)
   have:B=true:=by rw [xz,List.any_eq_true];exact ⟨_,hm,decide_eq_true h4⟩
   subst this
   repeat' (first|refine Rn.p ?_|(with_reducible apply And.intro)|((first|(refine hK _ ?_;clear hK K)|with_reducible intro K hK|refine Rs.p ?_|((with_reducible first|apply oP|apply oQ);exact rfl));try simp only [go_sem,simprocAttr,hb,hv,hb4])|((with_reducible refine oD ?_ ?_);kernel_rfl)|((with_reducible intro h);try simp only [go_sem,simprocAttr,hb,hv,hb4] at h)|omega|intro h)
  ·have hb4:decide (200<((p.outs.getD k []).length:Int))=false:=decide_eq_false (by omega)
   repeat' (first|refine Rn.p ?_|(with_reducible apply And.intro)|((first|(refine hK _ ?_;clear hK K)|with_reducible intro K hK|refine Rs.p ?_|((with_reducible first|apply oP|apply oQ);exact rfl));try simp only [go_sem,simprocAttr,hb,hv,hb4])|((with_reducible refine oD ?_ ?_);kernel_rfl)|((with_reducible intro h);try simp only [go_sem,simprocAttr,hb,hv,hb4] at h)|omega|intro h)
   refine ⟨k+1,⟨by omega,fun j hj=> ?_⟩, ?_,by omega⟩
   ·by_cases e:j=k
    ·subst e;omega
    ·exact hg j (by omega)
   ·(refine Le.of ?_ ?_<;>simp [go_sem,simprocAttr,hb,hv,hb4])
 ·have hb:decide ((k:Int)<(p.outs.length:Int))=false:=decide_eq_false (by omega)
  have:B=false:=by
   rw [xz,List.any_eq_false]
   intro l hl
   obtain ⟨j,hj,rfl⟩:=List.mem_iff_getElem.1 hl
   have:=hg j (by omega)
   rw [List.getD_eq_getElem?_getD,List.getElem?_eq_getElem hj,Option.getD_some] at this
   simp;omega
  subst this
  repeat' (first|refine Rn.p ?_|(with_reducible apply And.intro)|((first|(refine hK _ ?_;clear hK K)|with_reducible intro K hK|refine Rs.p ?_|((with_reducible first|apply oP|apply oQ);exact rfl));try simp only [go_sem,simprocAttr,hb])|((with_reducible refine oD ?_ ?_);kernel_rfl)|((with_reducible intro h);try simp only [go_sem,simprocAttr,hb] at h)|omega|intro h)
def lG (g:Gr):Bool:=decide ((bT g).1=0)&&decide ((bF (·.1) g).length=1)
theorem pL (g:Gr) (hl:g.es.length≤1000):Spec Tryz.prog 60 (Args [eG g]) [] (eB (lG g)) []:=by
 by_cases hc:(bT g).1=0
 ·have hm:=ag hc
  have hb1:decide ((bT g).1=0)=true:=decide_eq_true hc
  have hI:lG g=decide (((bF (·.1) g).length:Int)=1):=by
   unfold lG;rw [hb1,Bool.true_and,decide_eq_decide];omega
  rw [hI]
  generalize tO:bF (·.1) g=bl
  have hS:=CF g hm
  rw [tO] at hS
  (refine Spec.hd (C:=T.cfg [] []) (rs:= [.t 2]) (T.aj _ _) Tryz.func60 rfl rfl Tryz.ntmps60 Tryz.results60 (by simp [AObj.isNest]) (by simp [AObj.isNest]) (by kernel_rfl) T.mixed fun X hX hP hC aP bV=> ?_)
  repeat' (first|refine Rn.p ?_|(with_reducible apply And.intro)|((first|(refine hK _ ?_;clear hK K)|with_reducible intro K hK|refine Rs.p ?_|((with_reducible first|apply oP|apply oQ);exact rfl)|refine aa hX hC hP (l7 g hl) rfl rfl rfl (by simp only [go_sem,simprocAttr,hb1]) rfl ?_|refine aa hX hC hP (iT g hm) rfl rfl rfl (by simp only [go_sem,simprocAttr,hb1]) rfl ?_|refine aa hX hC hP (hS) rfl rfl rfl (by simp only [go_sem,simprocAttr,hb1]) rfl ?_);try simp only [go_sem,simprocAttr,hb1])|((with_reducible refine oD ?_ ?_);kernel_rfl)|((with_reducible intro h);try simp only [go_sem,simprocAttr,hb1] at h)|omega|intro h)
 ·have hb1:decide ((bT g).1=0)=false:=decide_eq_false hc
  have hI:lG g=false:=by unfold lG;rw [hb1];rfl
  rw [hI]
  (refine Spec.hd (C:=T.cfg [] []) (rs:= [.t 2]) (T.aj _ _) Tryz.func60 rfl rfl Tryz.ntmps60 Tryz.results60 (by simp [AObj.isNest]) (by simp [AObj.isNest]) (by kernel_rfl) T.mixed fun X hX hP hC aP bV=> ?_)
  repeat' (first|refine Rn.p ?_|(with_reducible apply And.intro)|((first|(refine hK _ ?_;clear hK K)|with_reducible intro K hK|refine Rs.p ?_|((with_reducible first|apply oP|apply oQ);exact rfl)|refine aa hX hC hP (l7 g hl) rfl rfl rfl (by simp only [go_sem,simprocAttr,hb1]) rfl ?_);try simp only [go_sem,simprocAttr,hb1])|((with_reducible refine oD ?_ ?_);kernel_rfl)|((with_reducible intro h);try simp only [go_sem,simprocAttr,hb1] at h)|omega|intro h)
theorem CR (g:Gr) (hl:g.es.length≤1000):Spec Tryz.prog 23 (Args [eG g]) [] (eB (lG g)) []:=by
 by_cases hc:(bT g).1=0
 ·have hm:=ag hc
  have hn:=aA hm
  have hb1:decide ((bT g).1=0)=true:=decide_eq_true hc
  have hI:lG g=decide (((bF (·.1) g).length:Int)=1):=by
   unfold lG;rw [hb1,Bool.true_and,decide_eq_decide];omega
  rw [hI]
  have hS:=cF g false hl (by omega)
  rw [show nj (!false)=(·.1) from rfl] at hS
  generalize bF (·.1) g=bl at hS
  (refine Spec.hd (C:=T.cfg [] []) (rs:= [.t 2]) (T.aj _ _) Tryz.func23 rfl rfl Tryz.ntmps23 Tryz.results23 (by simp [AObj.isNest]) (by simp [AObj.isNest]) (by kernel_rfl) T.mixed fun X hX hP hC aP bV=> ?_)
  repeat' (first|refine Rn.p ?_|(with_reducible apply And.intro)|((first|(refine hK _ ?_;clear hK K)|with_reducible intro K hK|refine Rs.p ?_|((with_reducible first|apply oP|apply oQ);exact rfl)|refine aa hX hC hP (oL g (by omega)) rfl rfl rfl (by simp only [go_sem,simprocAttr,hb1]) rfl ?_|refine aa hX hC hP (hS) rfl rfl rfl (by simp only [go_sem,simprocAttr,hb1]) rfl ?_);try simp only [go_sem,simprocAttr,hb1])|((with_reducible refine oD ?_ ?_);kernel_rfl)|((with_reducible intro h);try simp only [go_sem,simprocAttr,hb1] at h)|omega|intro h)
 ·have hb1:decide ((bT g).1=0)=false:=decide_eq_false hc
  have hI:lG g=false:=by unfold lG;rw [hb1];rfl
  rw [hI]
  (refine Spec.hd (C:=T.cfg [] []) (rs:= [.t 2]) (T.aj _ _) Tryz.func23 rfl rfl Tryz.ntmps23 Tryz.results23 (by simp [AObj.isNest]) (by simp [AObj.isNest]) (by kernel_rfl) T.mixed fun X hX hP hC aP bV=> ?_)
  repeat' (first|refine Rn.p ?_|(with_reducible apply And.intro)|((first|(refine hK _ ?_;clear hK K)|with_reducible intro K hK|refine Rs.p ?_|((with_reducible first|apply oP|apply oQ);exact rfl)|refine aa hX hC hP (oL g (by omega)) rfl rfl rfl (by simp only [go_sem,simprocAttr,hb1]) rfl ?_);try simp only [go_sem,simprocAttr,hb1])|((with_reducible refine oD ?_ ?_);kernel_rfl)|((with_reducible intro h);try simp only [go_sem,simprocAttr,hb1] at h)|omega|intro h)
end Go.Ab
end
section
namespace Go.Ab
open Go.Proofs
attribute [local congr] ACall.congr gd.congr Nx.congr
set_option maxRecDepth 10000
set_option maxHeartbeats 8000000
def VY:Gr:=⟨3, [(0,1),(0,2)]⟩
def VZ:Pl:=⟨[0,1,2], [[0,1], [], []]⟩
def V2:Gr:=⟨4, [(0,1),(0,2),(1,3),(2,3)]⟩
def V3:Pl:=⟨[0,1,2,3], [[0,1], [2], [3], []]⟩
end Go.Ab
end
section
namespace Go.Ab
open Go.Proofs
attribute [local congr] ACall.congr gd.congr Nx.congr
set_option maxRecDepth 10000
def V4 (l:List Int) (k:Nat):Bool:=(List.range k).all fun i=>decide (l.getD i 0=(i:Int))
def J8 (g:Gr) (names order:List Int) (k:Nat):List Edge:=(List.range k).map fun i=>(names.getD (g.es.getD (order.getD i 0).toNat (0,0)).1.toNat 0,names.getD (g.es.getD (order.getD i 0).toNat (0,0)).2.toNat 0)
def iK (g:Gr) (names order:List Int):Gr:=⟨g.n,J8 g names order order.length⟩
theorem Bw {g:Gr} {names order:List Int} {k:Nat} :(J8 g names order k).length=k:=by simp [J8]
def OL (g:Gr) (names order:List Int):Bool:=aG g&&mD names g.n&&mD order g.es.length
def UC (g:Gr) (names order:List Int):Gr:=if OL g names order then iK g names order else ⟨0, []⟩
end Go.Ab
end
section
namespace Go.Ab
def Ed (g:Gr) (a b:Int):Prop:=∃i,i<g.es.length∧tl g i=a∧hd g i=b
def PM (g:Gr) (l:List Int):Prop:=∀i,i<l.length→Ed g (l.getD i 0) (l.getD ((i+1) % l.length) 0)
def Ih (g:Gr) (way:List Int) (at_:Int):Prop:=∀p,p<way.length→Ed g ((way++ [at_]).getD (p+1) 0) (way.getD p 0)
theorem sk {l:List Int} {a:Int} :(l++ [a]).getD l.length 0=a:=by
 rw [List.getD_eq_getElem?_getD,List.getElem?_append_right (Nat.le_refl _)];simp
theorem wq {g:Gr} (hm:aG g=true):∀(f:Nat) (way:List Int) (a:Nat),a<g.n.toNat→(a:Int)∉aR g→Ih g way a→left g way≤f→
 Ih g (lX g (cI g (aR g)) f way a).1 (lX g (cI g (aR g)) f way a).2∧0≤(lX g (cI g (aR g)) f way a).2∧(lX g (cI g (aR g)) f way a).2∈(lX g (cI g (aR g)) f way a).1
 |f,way,a,ha,hn,hc,hl=>by
  by_cases hmem:(a:Int)∈way
  ·rw [kQ (.inr hmem)]
   exact ⟨hc,by simp only;omega,hmem⟩
  ·have hla:=jA ha hmem
   cases f with
   |zero=>omega
   |succ f=>
    obtain ⟨⟨i,hi,J9,htl,Jj⟩,_⟩:=vH hm (L8 hm ha hn)
    have htr:=bg hm hi
    rw [htl] at htr
    obtain ⟨b,rq⟩:∃b:Nat,j6 g (cI g (aR g)) a=b:=⟨(j6 g (cI g (aR g)) a).toNat,by omega⟩
    rw [rq] at Jj htr htl
    have e1:lX g (cI g (aR g)) (f+1) way a=lX g (cI g (aR g)) f (way++ [(a:Int)]) b:=by
     simp only [lX];rw [if_neg (by intro h;rcases h with h|h;omega;exact hmem h),rq]
    rw [e1]
    refine wq hm f (way++ [(a:Int)]) b (by omega) Jj ?_ (by omega)
    intro p hp
    rw [List.length_append,List.length_singleton] at hp
    by_cases bZ:p<way.length
    ·have:=hc p bZ
     rw [nt (by simp;omega),nt bZ]
     exact this
    ·have:p=way.length:=by omega
     subst this
     have e2:=sk (l:=way++ [(a:Int)]) (a:=(b:Int))
     rw [List.length_append,List.length_singleton] at e2
     rw [e2,sk]
     exact ⟨i,hi,htl,J9⟩
theorem getD_drop {l:List Int} {k p:Nat} :(l.drop k).getD p 0=l.getD (k+p) 0:=by
 rw [List.getD_eq_getElem?_getD,List.getElem?_drop, ← List.getD_eq_getElem?_getD]
theorem PM.RP {g:Gr} {l:List Int} (h:∀p,p<l.length→Ed g (l.getD ((p+1) % l.length) 0) (l.getD p 0)) (h0:0<l.length):PM g (mC l.reverse):=by
 have PI:0<l.reverse.length:=by simpa using h0
 obtain ⟨k,yO,hk2,_⟩:=eA (jB PI)
 rw [List.length_reverse] at hk2
 have e1:mC l.reverse=l.reverse.drop k++l.reverse.take k:=by simp only [mC,yO,Int.toNat_natCast]
 have hlen:(mC l.reverse).length=l.length:=by rw [e1];simp;omega
 have hg:∀i,i<l.length→(mC l.reverse).getD i 0=l.getD (l.length - 1 - (i+k) % l.length) 0:=by
  intro i hi
  rw [e1,List.getD_eq_getElem?_getD]
  by_cases hik:i<l.length - k
  ·rw [List.getElem?_append_left (by simp;omega),List.getElem?_drop,List.getElem?_reverse (by omega),Nat.mod_eq_of_lt (by omega), ← List.getD_eq_getElem?_getD]
   congr 1;omega
  ·rw [List.getElem?_append_right (by simp;omega),List.length_drop,List.length_reverse,List.getElem?_take,if_pos (by omega),List.getElem?_reverse (by omega), ← List.getD_eq_getElem?_getD]
   have:(i+k) % l.length=i+k - l.length:=by rw [Nat.mod_eq_sub_mod (by omega),Nat.mod_eq_of_lt (by omega)]
   rw [this];congr 1;omega
 intro i hi
 rw [hlen] at hi ⊢
 rw [hg i hi,hg _ (Nat.mod_lt _ h0)]
 have hmm:((i+1) % l.length+k) % l.length=((i+k) % l.length+1) % l.length:=by
  rw [Nat.mod_add_mod,Nat.mod_add_mod];congr 1;omega
 rw [hmm]
 have hj:=Nat.mod_lt (i+k) h0
 generalize (i+k) % l.length=j at hj ⊢
 by_cases Ii:j+1<l.length
 ·rw [Nat.mod_eq_of_lt Ii]
  have:=h (l.length - 1 - (j+1)) (by omega)
  rw [Nat.mod_eq_of_lt (by omega),show l.length - 1 - (j+1)+1=l.length - 1 - j from by omega] at this
  exact this
 ·have:j+1=l.length:=by omega
  rw [this,Nat.mod_self]
  have:=h (l.length - 1) (by omega)
  rw [show l.length - 1+1=l.length from by omega,Nat.mod_self] at this
  rw [show l.length - 1 - j=0 from by omega]
  exact this
def RQ (g:Gr):Prop:=∃r:Int→Nat,∀i,i<g.es.length→r (tl g i)<r (hd g i)
theorem ug {g:Gr} (hm:aG g=true):DD g=true↔RQ g:=by
 constructor
 ·intro h
  refine ⟨fun v=>((Bf g.n.toNat (aR g) (aR g).length).getD v.toNat 0).toNat,fun i hi=> ?_⟩
  have h1:=HP (Fi hm h) hi
  have h2:=vM (n:=g.n.toNat) (l:=aR g) (k:=(aR g).length) (y:=(tl g i).toNat)
  simp only;omega
 ·rintro ⟨r,hr⟩
  cases h:DD g with
  |true=>rfl
  |false=>
   exfalso
   obtain ⟨y,hy,hn⟩:=DF hm h
   have key:∀(p:Nat) (y:Nat),y<g.n.toNat→(y:Int)∉aR g→r y=p→False:=by
    intro p
    induction p using Nat.strongRecOn with
    |_ p ih=>
     intro y hy hn hp
     obtain ⟨t,i,hi,h1,rfl,h2⟩:=L8 hm hy hn
     have htr:=bg hm hi
     have hlt:=hr i hi
     rw [h1,hp] at hlt
     have e:((tl g i).toNat:Int)=tl g i:=by omega
     exact ih (r (tl g i)) hlt (tl g i).toNat (by omega) (by rw [e];exact h2) (by rw [e])
   exact key _ y hy hn rfl
theorem zS {g:Gr} (hm:aG g=true) (h:DD g=true):kP g= []:=by
 have hall:=(b7.1 (DE hm h)).2
 have hn:=aA hm
 rcases start_eq hm with ⟨h1,h2⟩|⟨a,ha,h1,h2,h3⟩
 ·have:kO g=([], -1):=by
   unfold kO;rw [h1];exact kQ (.inl (by omega)) _
  simp only [kP,this]
  rw [if_pos (by omega)]
 ·exact absurd (hall a (cm.2 (by omega))) h3
theorem Ij {g:Gr} (hm:aG g=true) (h:DD g=false):0<(kP g).length∧PM g (kP g):=by
 obtain ⟨y,hy,UD⟩:=DF hm h
 have hn:=aA hm
 rcases start_eq hm with ⟨h1,h2⟩|⟨a,ha,h1,h2,h3⟩
 ·exfalso
  rcases gN (f:=fun n:Int=>decide (0<n)) (l:=cI g (aR g)) 0 with ⟨_,h4⟩|⟨k,h4,_⟩
  ·have h5:=(rX hm hy).2 UD
   have h6:=h4 ((cI g (aR g)).getD y 0) (by rw [List.getD_eq_getElem?_getD,lV hy];exact List.mem_of_getElem? (lV hy))
   rw [ng hy] at h6
   exact absurd h5 (of_decide_eq_false h6)
  ·omega
 ·obtain ⟨h4,h5,h6⟩:=wq hm g.n.toNat [] a ha h3 (fun p hp=>by simp at hp) zF
  have hw:kO g=lX g (cI g (aR g)) g.n.toNat [] a:=by unfold kO;rw [h1]
  rw [← hw] at h4 h5 h6
  obtain ⟨k,yO,hk2,Oo⟩:=eA h6
  have hc:kP g=mC ((kO g).1.drop k).reverse:=by
   simp only [kP]
   rw [if_neg (by omega),yO,Int.toNat_natCast]
  have hlen:((kO g).1.drop k).length=(kO g).1.length - k:=by simp
  have h0:0<((kO g).1.drop k).length:=by omega
  refine ⟨?_, ?_⟩
  ·rw [hc]
   simp only [mC,List.length_append,List.length_drop,List.length_take,List.length_reverse]
   omega
  ·rw [hc]
   refine PM.RP (fun p hp=> ?_) h0
   rw [hlen] at hp ⊢
   have h7:=h4 (k+p) (by omega)
   rw [getD_drop (p:=p)]
   by_cases Ii:p+1<(kO g).1.length - k
   ·rw [Nat.mod_eq_of_lt Ii,getD_drop]
    rw [nt (by omega)] at h7
    exact h7
   ·have:p+1=(kO g).1.length - k:=by omega
    rw [this,Nat.mod_self,getD_drop,Nat.add_zero,Oo]
    rw [show k+p+1=(kO g).1.length from by omega,sk] at h7
    exact h7
end Go.Ab
end
section
namespace Go.Ab
def nm (names:List Int) (v:Int):Int:=names.getD v.toNat 0
structure j8 (g:Gr) (names order:List Int):Prop where
 may:aG g=true
 Ml:mD names g.n=true
 ord:mD order (g.es.length:Int)=true
section
variable {g:Gr} {names order:List Int} (h:j8 g names order)
include h
theorem j8.len:(iK g names order).es.length=g.es.length:=by
 have:=(b7.1 h.ord).1
 simp only [iK,Bw];omega
theorem j8.kj {i:Nat} (hi:i<g.es.length):∃j,j<g.es.length∧order.getD i 0=(j:Int)∧(iK g names order).es.getD i (0,0)=(nm names (tl g j),nm names (hd g j)):=by
 have tQ:=(b7.1 h.ord).1
 have:=vK h.ord _ (jE (l:=order) (m:=i) (by omega))
 refine ⟨(order.getD i 0).toNat,by omega,by omega, ?_⟩
 simp only [iK,J8,nm,tl,hd]
 rw [List.getD_eq_getElem?_getD,List.getElem?_map,List.getElem?_range (by omega)]
 rfl
theorem j8.back {j:Nat} (hj:j<g.es.length):∃i,i<g.es.length∧order.getD i 0=(j:Int)∧(iK g names order).es.getD i (0,0)=(nm names (tl g j),nm names (hd g j)):=by
 obtain ⟨tQ,hall⟩:=b7.1 h.ord
 obtain ⟨i,hi,hil,he⟩:=eA (hall (j:Int) (cm.2 (by omega)))
 obtain ⟨j',_,h2,h3⟩:=h.kj (i:=i) (by omega)
 have:j'=j:=by omega
 subst this
 exact ⟨i,by omega,he,h3⟩
theorem j8.inj {a b:Int} (ha:0≤a∧a<g.n) (hb:0≤b∧b<g.n) (e:nm names a=nm names b):a=b:=by
 have hnl:=(b7.1 h.Ml).1
 have:=mg h.Ml (i:=a.toNat) (j:=b.toNat) (by omega) (by omega) e
 omega
theorem j8.range {a:Int} (ha:0≤a∧a<g.n):0≤nm names a∧nm names a<g.n:=by
 have hnl:=(b7.1 h.Ml).1
 exact vK h.Ml _ (jE (by omega))
theorem j8.inv {a:Int} (ha:0≤a∧a<g.n):fY names (nm names a)=a:=by
 have hnl:=(b7.1 h.Ml).1
 obtain ⟨k,hk,cB,he⟩:=eA (jE (l:=names) (m:=a.toNat) (by omega))
 have h2:=mg h.Ml cB (j:=a.toNat) (by omega) he
 have h3:fY names (nm names a)=k:=hk
 omega
theorem j8.of {v:Int} (hv:0≤v∧v<g.n):∃a,(0≤a∧a<g.n)∧nm names a=v:=by
 obtain ⟨hnl,hall⟩:=b7.1 h.Ml
 obtain ⟨k,hk,cB,he⟩:=eA (hall v (cm.2 (by omega)))
 exact ⟨k,by omega,he⟩
theorem j8.may':aG (iK g names order)=true:=by
 have hn:=aA h.may
 have hlen:=h.len
 have hall:(iK g names order).es.any (oZ (iK g names order))=false:=by
  rw [List.any_eq_false]
  intro e he
  obtain ⟨i,hi,rfl⟩:=List.getElem_of_mem he
  obtain ⟨j,hj,_,h3⟩:=h.kj (i:=i) (by omega)
  rw [List.getD_eq_getElem?_getD,List.getElem?_eq_getElem hi,Option.getD_some] at h3
  rw [h3]
  have h4:=h.range (bg h.may hj)
  have h5:=h.range (bh h.may hj)
  have e1:(iK g names order).n=g.n:=rfl
  simp only [oZ,vk,e1,Bool.or_eq_true,decide_eq_true_eq]
  omega
 have e1:(iK g names order).n=g.n:=rfl
 simp only [aG,hall,e1,Bool.not_false,Bool.and_true,Bool.and_eq_true,decide_eq_true_eq]
 omega
omit h in
theorem sn {i j:Nat} (e:(iK g names order).es.getD i (0,0)=(nm names (tl g j),nm names (hd g j))):tl (iK g names order) i=nm names (tl g j)∧hd (iK g names order) i=nm names (hd g j):=⟨congrArg Prod.fst e,congrArg Prod.snd e⟩
theorem j8.loop:(0≤jD (iK g names order))↔0≤jD g:=by
 have key:∀g:Gr,(0≤jD g)↔∃i,i<g.es.length∧tl g i=hd g i:=by
  intro g
  have:=fL (fun e:Edge=>decide (e.1=e.2)) g.es
  rw [show (0≤jD g)↔g.es.any (fun e:Edge=>decide (e.1=e.2))=true from by rw [← this];simp [jD],List.any_eq_true]
  constructor
  ·rintro ⟨e,he,h2⟩
   obtain ⟨i,hi,rfl⟩:=List.getElem_of_mem he
   refine ⟨i,hi, ?_⟩
   simpa [tl,hd,List.getD_eq_getElem?_getD,List.getElem?_eq_getElem hi] using h2
  ·rintro ⟨i,hi,h2⟩
   refine ⟨_,List.getElem_mem hi, ?_⟩
   simpa [tl,hd,List.getD_eq_getElem?_getD,List.getElem?_eq_getElem hi] using h2
 rw [key,key,h.len]
 constructor
 ·rintro ⟨i,hi,e⟩
  obtain ⟨j,hj,_,h3⟩:=h.kj hi
  obtain ⟨e1,e2⟩:=sn h3
  exact ⟨j,hj,h.inj (bg h.may hj) (bh h.may hj) (by rw [← e1, ← e2,e])⟩
 ·rintro ⟨j,hj,e⟩
  obtain ⟨i,hi,_,h3⟩:=h.back hj
  obtain ⟨e1,e2⟩:=sn h3
  exact ⟨i,hi,by rw [e1,e2,e]⟩
omit h in
theorem jq (g:Gr):(0≤dV g)↔∃i k,i<g.es.length∧k<g.es.length∧i≠k∧g.es.getD i (0,0)=g.es.getD k (0,0):=by
 have:=fL (pq g) (List.range g.es.length)
 rw [show (0≤dV g)↔(List.range g.es.length).any (pq g)=true from by rw [← this];simp [dV],List.any_eq_true]
 constructor
 ·rintro ⟨i,hi,h2⟩
  have hil:=List.mem_range.1 hi
  have h3:=of_decide_eq_true h2
  rw [List.mem_iff_getElem?] at h3
  obtain ⟨k,hk⟩:=h3
  rw [List.getElem?_take] at hk
  split at hk
  ·rename_i hki
   exact ⟨i,k,hil,by omega,by omega,by rw [List.getD_eq_getElem?_getD (i:=k),hk];rfl⟩
  ·cases hk
 ·rintro ⟨i,k,hi,hk,hne,e⟩
  have main:∀i k,k<i→i<g.es.length→g.es.getD i (0,0)=g.es.getD k (0,0)→pq g i=true:=by
   intro i k hki hi e
   refine decide_eq_true ?_
   rw [e,List.mem_iff_getElem?]
   refine ⟨k, ?_⟩
   rw [List.getElem?_take,if_pos hki,List.getD_eq_getElem?_getD,List.getElem?_eq_getElem (by omega)];rfl
  rcases Nat.lt_or_gt_of_ne hne with hlt|hgt
  ·exact ⟨k,List.mem_range.2 hk,main k i hlt hk e.symm⟩
  ·exact ⟨i,List.mem_range.2 hi,main i k hgt hi e⟩
theorem j8.OM:(0≤dV (iK g names order))↔0≤dV g:=by
 have tQ:=(b7.1 h.ord).1
 rw [jq,jq,h.len]
 constructor
 ·rintro ⟨i,k,hi,hk,hne,e⟩
  obtain ⟨j,hj,ho,h3⟩:=h.kj hi
  obtain ⟨j',hj',ho',Gy⟩:=h.kj hk
  refine ⟨j,j',hj,hj',fun e'=> ?_, ?_⟩
  ·subst e'
   exact hne (mg h.ord (by omega) (by omega) (by rw [ho,ho']))
  ·rw [h3,Gy,Prod.mk.injEq] at e
   have e1:=h.inj (bg h.may hj) (bg h.may hj') e.1
   have e2:=h.inj (bh h.may hj) (bh h.may hj') e.2
   exact Prod.ext e1 e2
 ·rintro ⟨j,j',hj,hj',hne,e⟩
  obtain ⟨i,hi,ho,h3⟩:=h.back hj
  obtain ⟨k,hk,ho',Gy⟩:=h.back hj'
  refine ⟨i,k,hi,hk,fun e'=> ?_, ?_⟩
  ·subst e';omega
  ·have e1:tl g j=tl g j':=congrArg Prod.fst e
   have e2:hd g j=hd g j':=congrArg Prod.snd e
   rw [h3,Gy,e1,e2]
theorem j8.RR:DD (iK g names order)=DD g:=by
 rw [Bool.eq_iff_iff,ug h.may',ug h.may]
 constructor
 ·rintro ⟨r,hr⟩
  refine ⟨fun v=>r (nm names v),fun j hj=> ?_⟩
  obtain ⟨i,hi,_,h3⟩:=h.back hj
  obtain ⟨e1,e2⟩:=sn h3
  have:=hr i (by rw [h.len];exact hi)
  rwa [e1,e2] at this
 ·rintro ⟨r,hr⟩
  refine ⟨fun v=>r (fY names v),fun i hi=> ?_⟩
  rw [h.len] at hi
  obtain ⟨j,hj,_,h3⟩:=h.kj hi
  obtain ⟨e1,e2⟩:=sn h3
  have:=hr j hj
  rw [e1,e2];simp only;rw [h.inv (bg h.may hj),h.inv (bh h.may hj)]
  exact this
omit h in
theorem jK {g:Gr} {y:Int} :y∈bF (·.2) g↔(0≤y∧y<g.n)∧∀i,i<g.es.length→hd g i≠y:=by
 simp only [bF,jz,List.mem_map,List.mem_filter,List.mem_range,decide_eq_true_eq]
 have he:∀x:Nat,x<g.n.toNat→(((dw (·.2) g).getD x []).length=0↔∀i,i<g.es.length→hd g i≠(x:Int)):=by
  intro x hx
  have e:(dw (·.2) g).getD x []=aK (·.2) g.es g.es.length (x:Int):=by
   simp [dw,List.getD_eq_getElem?_getD,List.getElem?_range hx,ni]
  rw [e,List.length_eq_zero_iff]
  simp only [aK,List.map_eq_nil_iff,List.filter_eq_nil_iff,List.mem_range,decide_eq_true_eq]
  rfl
 constructor
 ·rintro ⟨x,⟨hx,h0⟩,rfl⟩
  refine ⟨by simp;omega,(he x hx).1 h0⟩
 ·rintro ⟨⟨h1,h2⟩,h3⟩
  have e:((y.toNat:Nat):Int)=y:=by omega
  exact ⟨y.toNat,⟨by omega,(he _ (by omega)).2 (by rw [e];exact h3)⟩,e⟩
omit h in
theorem eH {f:Edge→Int} {g:Gr} :(bF f g).Nodup:=by
 unfold bF jz
 refine List.Pairwise.map _ (fun a b h e=>h (Int.ofNat.inj e)) (List.Pairwise.filter _ List.nodup_range)
theorem j8.bare:(bF (·.2) (iK g names order)).length=(bF (·.2) g).length:=by
 have e1:(iK g names order).n=g.n:=rfl
 have h1:((bF (·.2) g).map (nm names)).length≤(bF (·.2) (iK g names order)).length:=by
  refine Nat.le_trans (count_le _ (bF (·.2) (iK g names order)) ?_ ?_) List.countP_le_length
  ·rw [List.nodup_iff_pairwise_ne]
   refine List.Pairwise.map _ (fun a b h=>h) ?_
   refine List.Pairwise.imp_of_mem ?_ eH
   intro a b ha hb hab e
   exact hab (h.inj (jK.1 ha).1 (jK.1 hb).1 e)
  ·intro v hv
   obtain ⟨y,hy,rfl⟩:=List.mem_map.1 hv
   obtain ⟨hy1,hy2⟩:=jK.1 hy
   refine jK.2 ⟨h.range hy1,fun i hi e=> ?_⟩
   rw [h.len] at hi
   obtain ⟨j,hj,_,h3⟩:=h.kj hi
   rw [(sn h3).2] at e
   exact hy2 j hj (h.inj (bh h.may hj) hy1 e)
 have h2:((bF (·.2) (iK g names order)).map (fY names)).length≤(bF (·.2) g).length:=by
  have hsplit:∀v∈bF (·.2) (iK g names order),∃a,(0≤a∧a<g.n)∧nm names a=v:=fun v hv=>h.of (jK.1 hv).1
  refine Nat.le_trans (count_le _ (bF (·.2) g) ?_ ?_) List.countP_le_length
  ·rw [List.nodup_iff_pairwise_ne]
   refine List.Pairwise.map _ (fun a b h=>h) ?_
   refine List.Pairwise.imp_of_mem ?_ eH
   intro a b ha hb hab e
   obtain ⟨a',Ou,rfl⟩:=hsplit a ha
   obtain ⟨b',hb',rfl⟩:=hsplit b hb
   rw [h.inv Ou,h.inv hb'] at e
   exact hab (by rw [e])
  ·intro v hv
   obtain ⟨y,hy,rfl⟩:=List.mem_map.1 hv
   obtain ⟨a,ha,rfl⟩:=hsplit y hy
   rw [h.inv ha]
   refine jK.2 ⟨ha,fun j hj e=> ?_⟩
   obtain ⟨i,hi,_,h3⟩:=h.back hj
   refine (jK.1 hy).2 i (by rw [h.len];exact hi) ?_
   rw [(sn h3).2,e]
 simp only [List.length_map] at h1 h2
 omega
theorem j8.kind:(bT (iK g names order)).1=(bT g).1:=by
 have hm:=h.may'
 have hc:(0<(kP (iK g names order)).length)↔0<(kP g).length:=by
  have key:∀g:Gr,aG g=true→((0<(kP g).length)↔DD g=false):=by
   intro g hm
   cases ho:DD g with
   |true=>rw [zS hm ho];simp
   |false=>simp [(Ij hm ho).1]
  rw [key _ hm,key _ h.may,h.RR]
 have h1:=h.loop
 have h2:=h.OM
 have h3:=h.bare
 simp only [bT,fS,hm,h.may]
 simp only [Bool.true_eq_false,if_false,h1,h2,hc,h3]
 split
 ·rfl
 split
 ·rfl
 split
 ·rfl
 split<;>rfl
end
end Go.Ab
end
section
namespace Go.Ab
open Go.Proofs
set_option maxRecDepth 10000
def F7:Nat→List Edge→Int→Option (Int × Int)
 |_, [],_=>none
 |m,e::N,v=>if e.1=v then some ((m:Int),e.2) else F7 (m+1) N v
theorem Bx {v:Int} :∀ {m:Nat} {N:List Edge},(∀e∈N,e.1≠v)→F7 m N v=none
 |_, [],_=>rfl
 |m,e::N,h=>by rw [F7,if_neg (h e (List.mem_cons_self ..)),Bx fun e' he=>h e' (List.mem_cons_of_mem _ he)]
theorem By:∀ {m:Nat} {N:List Edge},(N.map (·.1)).Nodup→∀ {j:Nat},j<N.length→F7 m N (N.getD j (0,0)).1=some (((m+j:Nat):Int),(N.getD j (0,0)).2)
 |m,e::N,hd,0,_=>by rw [List.getD_cons_zero,F7,if_pos rfl];rfl
 |m,e::N,hd,j+1,hj=>by
  rw [List.map_cons,List.nodup_cons] at hd
  have hj':j<N.length:=by simpa using hj
  rw [List.getD_cons_succ,F7,if_neg (fun h=>hd.1 (List.mem_map.2 ⟨_,aQ hj',h.symm⟩)),By hd.2 hj']
  congr 2
  omega
theorem qJ {m:Nat} {N:List Edge} (hd:(N.map (·.1)).Nodup) {v h:Int} (he:(v,h)∈N):∃j:Nat,j<N.length∧F7 m N v=some (((m+j:Nat):Int),h)∧N.getD j (0,0)=(v,h):=by
 obtain ⟨j,hj,e⟩:=List.mem_iff_getElem.1 he
 have e2:N.getD j (0,0)=(v,h):=by rw [List.getD_eq_getElem?_getD,List.getElem?_eq_getElem hj,Option.getD_some,e]
 have:=By (m:=m) hd hj
 rw [e2] at this
 exact ⟨j,hj,this,e2⟩
theorem sq {m:Nat} {N:List Edge} (hd:(N.map (·.1)).Nodup) (v:Int):(F7 m N v=none∧∀e∈N,e.1≠v)∨∃h,(v,h)∈N:=by
 by_cases h:∃e∈N,e.1=v
 ·obtain ⟨e,he,rfl⟩:=h
  exact .inr ⟨e.2,he⟩
 ·have h':∀e∈N,e.1≠v:=fun e he h2=>h ⟨e,he,h2⟩
  exact .inl ⟨Bx h',h'⟩
def pM (m:Nat) (N:List Edge) (t:It):It:=if 0≤t.1 then t else match F7 m N t.2.1 with
 |some (i,h)=>(i,t.2.1,h)
 |none=>t
theorem qK {m:Nat} {N:List Edge} {t:It} (h:0≤t.1):pM m N t=t:=if_pos h
theorem k9 {m:Nat} {N:List Edge} {t:It} (h:t.1<0) {i x:Int} (hn:F7 m N t.2.1=some (i,x)):pM m N t=(i,t.2.1,x):=by
 unfold pM
 rw [if_neg (by omega),hn]
theorem wu {m:Nat} {N:List Edge} {t:It} (hn:F7 m N t.2.1=none):pM m N t=t:=by
 unfold pM
 split
 ·rfl
 ·rw [hn]
structure nu (g:Gr) (p:Pl):Prop where
 run:aN g p
 n:(ak g p).n≤64
 es:(ak g p).es.length≤128
variable {g:Gr} {p:Pl}
theorem qL {v x:Int} :∀ {k:Nat},(v,x)∈cD g p k→∃i,i<k∧x=aq p i∧v∈loose (cH g p i)
 |k+1,h=>by
  rw [cD,List.mem_append] at h
  rcases h with h|h
  ·obtain ⟨i,h1,h2⟩:=qL h
   exact ⟨i,by omega,h2⟩
  ·obtain ⟨w,hw,e⟩:=List.mem_map.1 h
   cases e
   exact ⟨k,by omega,rfl,hw⟩
theorem qM {v:Int} :∀ {k i:Nat},i<k→v∈loose (cH g p i)→(v,aq p i)∈cD g p k
 |k+1,i,hi,h=>by
  rw [cD,List.mem_append]
  by_cases e:i=k
  ·subst e;exact .inr (List.mem_map.2 ⟨v,h,rfl⟩)
  ·exact .inl (qM (by omega) h)
theorem wz {v x:Int} (h:(v,x)∈bq g p):(∃i,i<g.n.toNat∧x=aq p i∧v∈loose (cH g p i))∨(1<(aX g p).length∧x=g.n∧v∈loose (aX g p)):=by
 rw [bq,List.mem_append] at h
 rcases h with h|h
 ·exact .inl (qL h)
 ·unfold newL at h
  split at h
  ·obtain ⟨w,hw,e⟩:=List.mem_map.1 h
   cases e
   exact .inr ⟨by assumption,rfl,hw⟩
  ·cases h
theorem ld {l:List It} {t:It} (h:t∈l) (h0:t.1<0):t.2.1∈loose l:=List.mem_map.2 ⟨t,List.mem_filter.2 ⟨h,decide_eq_true h0⟩,rfl⟩
theorem FB {l:List It} {v:Int} (h:v∈loose l):∃t∈l,t.1<0∧t.2.1=v:=by
 obtain ⟨t,ht,e⟩:=List.mem_map.1 h
 obtain ⟨h1,h2⟩:=List.mem_filter.1 ht
 exact ⟨t,h1,of_decide_eq_true h2,e⟩
theorem uh (h:nu g p):aG (ak g p)=true:=by
 have hm:=ag h.run.1
 have hn:=aA hm
 have Jm:g.n≤(ak g p).n:=by unfold ak;split<;>simp only<;>omega
 have h1:=h.n
 have h2:=h.es
 simp only [aG,Bool.and_eq_true,decide_eq_true_eq,Bool.not_eq_true',List.any_eq_false]
 refine ⟨⟨⟨by omega,h1⟩,by omega⟩,fun e he=> ?_⟩
 have he:e∈g.es++bq g p:=he
 simp only [oZ,vk,Bool.or_eq_true,decide_eq_true_eq,not_or]
 rcases List.mem_append.1 he with he|he
 ·obtain ⟨i,hi,rfl⟩:=List.mem_iff_getElem.1 he
  have:=cM hm hi
  rw [List.getD_eq_getElem?_getD,List.getElem?_eq_getElem hi,Option.getD_some] at this
  omega
 ·have q1:=((gw h.run).2 e he).1
  rcases wz (v:=e.1) (x:=e.2) he with ⟨i,hi,hx,_⟩|⟨hl,hx,_⟩
  ·have:=aH h.run.2.1 hi
   omega
  ·have:(ak g p).n=g.n+1:=if_pos hl
   omega
theorem qN {v:Int} :cn (ak g p) v=cn g v++(aK (·.1) (bq g p) (bq g p).length v).map (· +(g.es.length:Int)):=sj
theorem pN (i:Nat) (hi:i<g.es.length):(ak g p).es.getD i (0,0)=g.es.getD i (0,0):=by
 show (g.es++bq g p).getD i (0,0)=_
 rw [List.getD_eq_getElem?_getD,List.getElem?_append_left hi, ← List.getD_eq_getElem?_getD]
theorem qO (j:Nat):(ak g p).es.getD (g.es.length+j) (0,0)=(bq g p).getD j (0,0):=by
 show (g.es++bq g p).getD _ (0,0)=_
 rw [List.getD_eq_getElem?_getD,List.getElem?_append_right (by omega),Nat.add_sub_cancel_left, ← List.getD_eq_getElem?_getD]
theorem sr (hr:aN g p) {v:Int} (h0:0≤v∧v<g.n) (hs:bE p v= []):(∀h,(v,h)∈bq g p→∃j:Nat,F7 g.es.length (bq g p) v=some (((g.es.length+j:Nat):Int),h)∧cn (ak g p) v= [((g.es.length+j:Nat):Int)]∧(ak g p).es.getD (g.es.length+j) (0,0)=(v,h))∧
 ((∀e∈bq g p,e.1≠v)→cn (ak g p) v= []):=by
 obtain ⟨uL,DN⟩:=gw hr
 have hz:cn g v= []:=(iH hr.2.1 h0.1 h0.2).2 hs
 constructor
 ·intro h hm
  obtain ⟨j,hj,h1,h2⟩:=qJ (m:=g.es.length) uL hm
  refine ⟨j,h1, ?_,by rw [qO,h2]⟩
  have e1:=Br uL hj
  rw [h2] at e1
  rw [qN,hz,e1]
  simp;omega
 ·intro h
  rw [qN,hz,jo h];rfl
theorem wN (hr:aN g p) {v:Int} (h0:0≤v∧v<g.n) (hs:bE p v≠ []):cn (ak g p) v=cn g v:=by
 obtain ⟨uL,DN⟩:=gw hr
 rw [qN,jo fun e he h=>hs (by rw [← h];exact (DN e he).2)]
 simp
theorem jL:g.n≤(ak g p).n∧(ak g p).n≤g.n+1:=by
 unfold ak;split<;>simp only<;>omega
theorem DQ (hr:aN g p) {v:Int} (h0:0≤v∧v<g.n):bE (bJ g p) v=if bE p v≠ [] then bE p v else cn (ak g p) v:=by
 have hn:=jL (g:=g) (p:=p)
 unfold bE
 rw [wk hr,CQ,List.getD_eq_getElem?_getD,List.getElem?_map,List.getElem?_range (by omega)]
 simp only [Option.map_some,Option.getD_some]
 rw [show ((v.toNat:Nat):Int)=v by omega]
 by_cases h:p.outs.getD v.toNat []= []
 ·rw [h];simp
 ·rw [if_pos (List.length_pos_iff.2 h),if_pos h]
theorem uj (hr:aN g p) (hl:1<(aX g p).length):bE (bJ g p) g.n= []∧cn (ak g p) g.n= []:=by
 have hm:=ag hr.1
 have hn:=aA hm
 have hG:(ak g p).n=g.n+1:=if_pos hl
 have hz:cn (ak g p) g.n= []:=by
  rw [qN,jo fun e he h=>by have:=((gw hr).2 e he).1;omega]
  simp only [List.map_nil,List.append_nil]
  refine jo fun e he h=> ?_
  obtain ⟨i,hi,rfl⟩:=List.mem_iff_getElem.1 he
  have:=(cM hm hi).1
  rw [List.getD_eq_getElem?_getD,List.getElem?_eq_getElem hi,Option.getD_some] at this
  omega
 refine ⟨?_,hz⟩
 unfold bE
 rw [wk hr,CQ,List.getD_eq_getElem?_getD,List.getElem?_map,List.getElem?_range (by omega)]
 simp only [Option.map_some,Option.getD_some]
 rw [show ((g.n.toNat:Nat):Int)=g.n by omega,hz]
 have:p.outs.getD g.n.toNat []= []:=by rw [List.getD_eq_getElem?_getD,List.getElem?_eq_none (by rw [hr.2.1.1];exact Nat.le_refl _)];rfl
 rw [this];rfl
theorem qP (hr:aN g p):bk (ak g p) (bJ g p):=by
 have h:=hr.2.1
 have hm:=ag hr.1
 have hn:=aA hm
 have ha:=jL (g:=g) (p:=p)
 refine ⟨by rw [wk hr];simp [CQ], ?_,fun x hx=> ?_⟩
 ·unfold bJ ak
  split
  ·have e:(g.n+1).toNat=g.n.toNat+1:=by omega
   have e2:dW (g.n.toNat+1)=dW g.n.toNat++ [g.n]:=by
    simp only [dW,List.range_succ,List.map_append,List.map_cons,List.map_nil]
    congr 2
    show ((g.n.toNat:Nat):Int)=g.n
    omega
   show (p.ord++ [g.n]).Perm (dW (g.n+1).toNat)
   rw [e,e2]
   exact h.2.1.append_right _
  ·exact h.2.1
 ·have hl:(bJ g p).outs.getD x []=bE (bJ g p) (x:Int):=by unfold bE;rw [Int.toNat_natCast]
  rw [hl]
  by_cases DA:(x:Int)<g.n
  ·rw [DQ hr ⟨by omega,DA⟩]
   split
   ·rename_i h2
    rw [wN hr ⟨by omega,DA⟩ h2]
    exact bp h (by omega) DA
   ·exact List.Perm.refl _
  ·have Jh:1<(aX g p).length:=Decidable.byContradiction fun hl=>by
    have:(ak g p).n=g.n:=if_neg hl
    omega
   have e:(x:Int)=g.n:=by omega
   rw [e,(uj hr Jh).1,(uj hr Jh).2]
theorem Ka (hr:aN g p) {k:Nat} (hk:k<g.n.toNat):aq (bJ g p) k=aq p k:=by
 have:=aM hr.2.1
 unfold aq bJ
 simp only
 split
 ·rw [List.getD_eq_getElem?_getD,List.getElem?_append_left (by omega), ← List.getD_eq_getElem?_getD]
 ·rfl
theorem Kb (hr:aN g p) (hl:1<(aX g p).length):aq (bJ g p) g.n.toNat=g.n:=by
 have:=aM hr.2.1
 unfold aq bJ
 simp only
 rw [if_pos hl,List.getD_eq_getElem?_getD,List.getElem?_append_right (by omega),this]
 simp
theorem FC (hr:aN g p) {x:Int} (h0:0≤x∧x<g.n):aL (ak g p) x (bE (bJ g p) x)=(aL g x (bE p x)).map (pM g.es.length (bq g p)):=by
 obtain ⟨uL,DN⟩:=gw hr
 rw [DQ hr h0]
 by_cases hs:bE p x= []
 ·obtain ⟨s1,s2⟩:=sr hr h0 hs
  have ha:aL g x (bE p x)= [(-1,x, -1)]:=if_pos hs
  rw [if_neg (by simp [hs]),ha]
  rcases sq (m:=g.es.length) uL x with ⟨h1,h2⟩|⟨h,hm⟩
  ·rw [s2 h2,List.map_cons,List.map_nil,wu h1]
   rfl
  ·obtain ⟨j,h1,h2,h3⟩:=s1 h hm
   rw [h2,List.map_cons,List.map_nil,k9 (t:=(-1,x, -1)) (by simp) h1]
   have Gy:((ak g p).es.getD (((g.es.length+j:Nat):Int)).toNat (0,0))=(x,h):=by rw [Int.toNat_natCast];exact h3
   simp only [aL,fc,List.cons_ne_nil,if_false,List.map_cons,List.map_nil,Gy]
 ·rw [if_pos hs]
  unfold aL
  rw [if_neg hs,if_neg hs,List.map_map]
  refine List.map_congr_left fun i hi=> ?_
  obtain ⟨k,rfl,hk,ht⟩:=iD ((bp hr.2.1 h0.1 h0.2).mem_iff.1 hi)
  simp only [Function.comp]
  rw [qK (t:=fc g x (k:Int)) (by simp [fc])]
  simp only [fc,Int.toNat_natCast,pN k hk]
theorem wO {x:Int} :aV (ak g p) x=aV g x+((bq g p).filter fun e=>decide (e.2=x)).length:=by
 unfold aV
 have:aK (·.2) (ak g p).es (ak g p).es.length x=aK (·.2) g.es g.es.length x++(aK (·.2) (bq g p) (bq g p).length x).map (· +(g.es.length:Int)):=sj
 rw [this,List.length_append,List.length_map]
 congr 1
 generalize bq g p=N
 unfold aK
 rw [List.length_map, ← List.countP_eq_length_filter, ← List.countP_eq_length_filter]
 have e:N=(List.range N.length).map fun i=>N.getD i (0,0):=by
  refine List.ext_getElem (by simp) fun i h1 h2=> ?_
  simp [List.getD_eq_getElem?_getD,List.getElem?_eq_getElem h1]
 conv=>rhs;rw [e]
 rw [List.countP_map]
 rfl
end Go.Ab
end
section
namespace Go.Ab
open Go.Proofs
set_option maxRecDepth 10000
variable {g:Gr} {p:Pl}
theorem s9 (h:bk g p) {k:Nat} :∀ {K:Nat},K≤g.n.toNat→k<g.n.toNat→(cD g p K).filter (fun e=>decide (e.2=aq p k))=if k<K then (loose (cH g p k)).map fun v=>(v,aq p k) else []
 |0,_,_=>by simp [cD]
 |K+1,hK,hk=>by
  rw [cD,List.filter_append,s9 h (by omega) hk]
  by_cases e:k=K
  ·subst e
   rw [if_neg (by omega),if_pos (by omega),List.nil_append,List.filter_eq_self.2]
   intro e he
   obtain ⟨v,_,rfl⟩:=List.mem_map.1 he
   simp
  ·have:((loose (cH g p K)).map fun v=>(v,aq p K)).filter (fun e=>decide (e.2=aq p k))= []:=List.filter_eq_nil_iff.2 fun e' he=>by
    obtain ⟨v,_,rfl⟩:=List.mem_map.1 he
    simp only [decide_eq_true_eq]
    intro h2
    exact e (cQ h hk (by omega) h2.symm)
   rw [this,List.append_nil]
   by_cases h3:k<K
   ·rw [if_pos h3,if_pos (by omega)]
   ·rw [if_neg h3,if_neg (by omega)]
theorem Bz (hr:aN g p) {k:Nat} (hk:k<g.n.toNat):((bq g p).filter fun e=>decide (e.2=aq p k)).length=(loose (cH g p k)).length:=by
 have hx:=aH hr.2.1 hk
 rw [bq,List.filter_append,s9 hr.2.1 (Nat.le_refl _) hk,if_pos hk]
 have:(newL g p).filter (fun e=>decide (e.2=aq p k))= []:=List.filter_eq_nil_iff.2 fun e' he=>by
  unfold newL at he
  split at he
  ·obtain ⟨v,_,rfl⟩:=List.mem_map.1 he
   simp only [decide_eq_true_eq];omega
  ·cases he
 rw [this];simp
theorem BA {l:List Int} (h:l.Nodup) {k:Nat} (hk:k<l.length):l.getD k 0∉l.take k:=by
 intro hm
 obtain ⟨j,hj,e⟩:=List.mem_iff_getElem.1 hm
 simp only [List.length_take] at hj
 have e2:l.getD j 0=l.getD k 0:=by
  rw [← e,List.getD_eq_getElem?_getD,List.getElem?_eq_getElem (by omega)]
  simp
 have:=jF h (by omega) hk e2
 omega
theorem take_at {p:Pl} {k:Nat} {v:Int} (hk:k≤p.ord.length) (h:v∈p.ord.take k):∃j,j<k∧aq p j=v:=by
 obtain ⟨j,hj,e⟩:=List.mem_iff_getElem.1 h
 simp only [List.length_take] at hj
 refine ⟨j,by omega, ?_⟩
 rw [← e,aq,List.getD_eq_getElem?_getD,List.getElem?_eq_getElem (by omega)]
 simp
theorem BB {x:Int} {X:List It} (h:∀t∈X,(t.1<0↔¬t.2.2=x)):X.countP (jS x)+(loose X).length=X.length:=by
 rw [List.length_eq_countP_add_countP (jS x)]
 congr 1
 unfold loose
 rw [List.length_map, ← List.countP_eq_length_filter]
 refine List.countP_congr fun t ht=> ?_
 have:=h t ht
 simp only [jS,decide_eq_true_eq,Bool.not_eq_true,decide_eq_false_iff_not]
 exact this
theorem RT (h:nu g p):∀ {k:Nat},k≤g.n.toNat→(∀j,j<k→rz (ak g p) (bJ g p) j=true)∧(fK (ak g p) (bJ g p) k).row=(fK g p k).row.map (pM g.es.length (bq g p))
 |0,_=>⟨fun j hj=>by omega,rfl⟩
 |k+1,hk=>by
  have hr:=h.run
  have Ai:=hr.2.1
  have hm:=ag hr.1
  have yh:=uh h
  have hQ:=qP hr
  obtain ⟨uL,DN⟩:=gw hr
  have V5:=jL (g:=g) (p:=p)
  obtain ⟨PN,hrow⟩:=RT h (k:=k) (by omega)
  obtain ⟨hi,_,_⟩:=bz hm Ai (k:=k) (by omega) fun j hj=>hr.2.2 j (by omega)
  obtain ⟨Mm,Ik,_⟩:=bz yh hQ (k:=k) (by omega) PN
  have hR:az g (fK g p k) (aq p k)=true:=hr.2.2 k (by omega)
  have mJ:=Ka hr (k:=k) (by omega)
  have hx:=aH Ai (k:=k) (by omega)
  obtain ⟨Jh,Cd⟩:=gY hm Ai (k:=k) (by omega) fun j hj=>hr.2.2 j (by omega)
  have hlr:(loose (fK g p k).row).Nodup:=(List.nodup_append.1 Jh).2.1
  have hnot:aq p k∉(fK (ak g p) (bJ g p) k).pl:=by
   rw [Ik, ← mJ]
   exact BA (b8 hQ) (by rw [aM hQ];omega)
  have Mn:=Bz hr (k:=k) (by omega)
  have bN:=wO (g:=g) (p:=p) (x:=aq p k)
  have ON:=FC hr hx
  have hin:∀v,(v,aq p k)∈bq g p→v∈loose (cH g p k):=fun v hv=>by
   rcases wz hv with ⟨i,h1,h2,h3⟩|⟨_,h2,_⟩
   ·have:=cQ Ai (by omega) h1 h2
    subst this;exact h3
   ·omega
  have hout:∀v,v∈loose (cH g p k)→(v,aq p k)∈bq g p:=fun v hv=>List.mem_append_left _ (qM (by omega) hv)
  suffices hs:rz (ak g p) (bJ g p) k=true∧(fK (ak g p) (bJ g p) (k+1)).row=(fK g p (k+1)).row.map (pM g.es.length (bq g p)) by
   refine ⟨fun j hj=> ?_,hs.2⟩
   by_cases e:j=k
   ·subst e;exact hs.1
   ·exact PN j (by omega)
  have UE:(fK (ak g p) (bJ g p) (k+1))=(aC (ak g p) (fK (ak g p) (bJ g p) k) (aq p k) (bE (bJ g p) (aq p k))).2:=by
   rw [← mJ];rfl
  have hfg:(fK g p (k+1))=(aC g (fK g p k) (aq p k) (bE p (aq p k))).2:=rfl
  have hok:rz (ak g p) (bJ g p) k=az (ak g p) (fK (ak g p) (bJ g p) k) (aq p k):=by unfold rz;rw [mJ]
  rw [UE,hfg,hok]
  have OO:cH g p k=(aC g (fK g p k) (aq p k) (bE p (aq p k))).1.1:=rfl
  generalize aq p k=x at*
  by_cases hn:aV g x=0
  ·have hno:=gU hm hi.toeo hx.1 hn
   rw [dK _ hno] at OO
   have OP:aV (ak g p) x=0:=by rw [bN,hn,Mn,OO];rfl
   have RU:=gU yh Mm.toeo hx.1 OP
   refine ⟨?_, ?_⟩
   ·unfold az
    rw [if_neg (by rintro (h|h|h);omega;omega;exact hnot h),if_pos OP]
   ·rw [dK _ hno,dK _ RU]
    simp only [List.map_append]
    rw [ON,hrow]
  ·obtain ⟨A,X,C,hrw,nA,nC,hX,cX⟩:=bM hm hi.toeo hR hn
   rw [eS _ hrw nA nC hX] at OO
   simp only at OO
   rw [OO] at hin hout Mn
   have UF:∀t∈X,t∈(fK g p k).row:=fun t ht=>by rw [hrw];simp [ht]
   have V6:∀t∈A,t∈(fK g p k).row:=fun t ht=>by rw [hrw];simp [ht]
   have V7:∀t∈C,t∈(fK g p k).row:=fun t ht=>by rw [hrw];simp [ht]
   have hit:∀t∈X,(t.1<0↔¬t.2.2=x):=fun t ht=>by
    have h1:=(hi.it t (UF t ht)).head hm
    have h2:=hX.al t ht
    omega
   rw [hrw,bR,bR,List.nodup_append,List.nodup_append] at hlr
   have SQ:fe x (A.map (pM g.es.length (bq g p))):=fun t' ht'=>by
    obtain ⟨t,ht,rfl⟩:=List.mem_map.1 ht'
    by_cases h0:0≤t.1
    ·rw [qK h0];exact nA t ht
    ·rcases sq (m:=g.es.length) uL t.2.1 with ⟨h1,_⟩|⟨y,h1⟩
     ·rw [wu h1];exact nA t ht
     ·obtain ⟨j,_,h2,_⟩:=qJ (m:=g.es.length) uL h1
      rw [k9 (by omega) h2]
      intro e
      have e:y=x:=e
      subst e
      exact hlr.1.2.2 _ (ld ht (by omega)) _ (hin _ h1) rfl
   have SR:fe x (C.map (pM g.es.length (bq g p))):=fun t' ht'=>by
    obtain ⟨t,ht,rfl⟩:=List.mem_map.1 ht'
    by_cases h0:0≤t.1
    ·rw [qK h0];exact nC t ht
    ·rcases sq (m:=g.es.length) uL t.2.1 with ⟨h1,_⟩|⟨y,h1⟩
     ·rw [wu h1];exact nC t ht
     ·obtain ⟨j,_,h2,_⟩:=qJ (m:=g.es.length) uL h1
      rw [k9 (by omega) h2]
      intro e
      have e:y=x:=e
      subst e
      exact hlr.2.2 _ (List.mem_append_right _ (hin _ h1)) _ (ld ht (by omega)) rfl
   have Kc:∀t∈X,(pM g.es.length (bq g p) t).2.2=x:=fun t ht=>by
    by_cases h0:0≤t.1
    ·rw [qK h0]
     have:=hit t ht
     omega
    ·obtain ⟨j,_,h2,_⟩:=qJ (m:=g.es.length) uL (hout _ (ld ht (by omega)))
     rw [k9 (by omega) h2]
   have Me:Mid x (X.map (pM g.es.length (bq g p))):=by
    obtain ⟨q,X0,e1,_⟩:=hX.fst
    obtain ⟨X1,q',e2,_⟩:=hX.F5
    refine ⟨⟨pM g.es.length (bq g p) q,X0.map (pM g.es.length (bq g p)),by rw [e1];rfl,Kc q (by rw [e1];simp)⟩,⟨X1.map (pM g.es.length (bq g p)),pM g.es.length (bq g p) q',by rw [e2];simp,Kc q' (by rw [e2];simp)⟩,fun t' ht'=> ?_⟩
    obtain ⟨t,ht,rfl⟩:=List.mem_map.1 ht'
    exact .inl (Kc t ht)
   have xy:(X.map (pM g.es.length (bq g p))).countP (jS x)=aV (ak g p) x:=by
    have h1:(X.map (pM g.es.length (bq g p))).countP (jS x)=(X.map (pM g.es.length (bq g p))).length:=List.countP_eq_length.2 fun t' ht'=>by
     obtain ⟨t,ht,rfl⟩:=List.mem_map.1 ht'
     simp [jS,Kc t ht]
    rw [h1,List.length_map,bN,Mn, ← cX,BB hit]
   have OQ:(fK (ak g p) (bJ g p) k).row=A.map (pM g.es.length (bq g p))++X.map (pM g.es.length (bq g p))++C.map (pM g.es.length (bq g p)):=by rw [hrow,hrw];simp
   refine ⟨jH yh Mm.toeo hx.1 (by omega) hnot OQ SQ SR Me xy, ?_⟩
   rw [eS _ hrw nA nC hX,eS _ OQ SQ SR Me]
   simp only [List.map_append]
   rw [ON]
theorem DR (hr:aN g p) {v:Int} {k:Nat} :∀ {K:Nat},k≤K→K≤g.n.toNat→v∈loose (fK g p k).row→(∃i,i<K∧v∈loose (cH g p i))∨v∈loose (fK g p K).row
 |0,h1,_,hv=>by
  obtain rfl:k=0:=by omega
  exact .inr hv
 |K+1,h1,h2,hv=>by
  by_cases e:k=K+1
  ·subst e;exact .inr hv
  ·rcases DR hr (K:=K) (by omega) (by omega) hv with ⟨i,h3,h4⟩|h3
   ·exact .inl ⟨i,by omega,h4⟩
   ·have hm:=ag hr.1
    obtain ⟨hi,_,_⟩:=bz hm hr.2.1 (k:=K) (by omega) fun j hj=>hr.2.2 j (by omega)
    obtain ⟨A,X,C,hrw,_,_,_,hs⟩:=fD hm hi.toeo (hr.2.2 K (by omega))
    have hg:cH g p K=X:=by unfold cH;rw [hs]
    have hrow:(fK g p (K+1)).row=A++aL g (aq p K) (bE p (aq p K))++C:=by show (aC _ _ _ _).2.row=_;rw [hs]
    rw [hrw,bR,bR,List.mem_append,List.mem_append] at h3
    rcases h3 with (h3|h3)|h3
    ·refine .inr ?_
     rw [hrow,bR,bR];simp [h3]
    ·exact .inl ⟨K,by omega,by rw [hg];exact h3⟩
    ·refine .inr ?_
     rw [hrow,bR,bR];simp [h3]
end Go.Ab
end
section
namespace Go.Ab
open Go.Proofs
set_option maxRecDepth 10000
variable {g:Gr} {p:Pl}
theorem Ke (hr:aN g p):aX g p≠ []:=by
 have hm:=ag hr.1
 have hn:=aA hm
 obtain ⟨k,hk⟩:∃k,g.n.toNat=k+1:=⟨g.n.toNat - 1,by omega⟩
 obtain ⟨hi,_,_⟩:=bz hm hr.2.1 (k:=k) (by omega) fun j hj=>hr.2.2 j (by omega)
 obtain ⟨A,X,C,hrw,_,_,_,hs⟩:=fD hm hi.toeo (hr.2.2 k (by omega))
 unfold aX
 rw [hk]
 show (aC _ _ _ _).2.row≠ []
 rw [hs]
 have:=(pI (g:=g) (x:=aq p k) (outs:=bE p (aq p k))).1
 intro e
 have h2:=congrArg List.length e
 simp at h2
 rw [h2.2.1] at this
 simp at this
theorem jr (hr:aN g p):bE p (aq p (g.n.toNat - 1))= []∧aq p (g.n.toNat - 1)∈loose (aX g p):=by
 have hm:=ag hr.1
 have hn:=aA hm
 obtain ⟨k,hk⟩:∃k,g.n.toNat=k+1:=⟨g.n.toNat - 1,by omega⟩
 obtain ⟨hi,_,_⟩:=bz hm hr.2.1 (k:=k) (by omega) fun j hj=>hr.2.2 j (by omega)
 obtain ⟨A,X,C,hrw,_,_,_,hs⟩:=fD hm hi.toeo (hr.2.2 k (by omega))
 have hL:aX g p=A++aL g (aq p k) (bE p (aq p k))++C:=by
  unfold aX;rw [hk]
  show (aC _ _ _ _).2.row=_
  rw [hs]
 have yO:g.n.toNat - 1=k:=by omega
 rw [yO]
 have j0:=pK hr
 have hx:=aH hr.2.1 (k:=k) (by omega)
 have h0:bE p (aq p k)= []:=by
  refine Decidable.byContradiction fun h0=> ?_
  have ha:aL g (aq p k) (bE p (aq p k))=(bE p (aq p k)).map (fc g (aq p k)):=if_neg h0
  obtain ⟨i,hi'⟩:=List.exists_mem_of_ne_nil _ h0
  have h1:=j0 (fc g (aq p k) i) (by rw [hL,ha];simp;exact .inr (.inl ⟨i,hi',rfl⟩))
  obtain ⟨e,rfl,_⟩:=iD ((bp hr.2.1 hx.1 hx.2).mem_iff.1 hi')
  simp [fc] at h1
  omega
 refine ⟨h0, ?_⟩
 have ha:aL g (aq p k) (bE p (aq p k))= [(-1,aq p k, -1)]:=if_pos h0
 rw [hL,ha,bR,bR]
 simp [loose]
theorem Il (hr:aN g p) (hl:¬1<(aX g p).length) {v:Int} (hv:v∈loose (aX g p)):v=aq p (g.n.toNat - 1):=by
 have h1:=(jr hr).2
 have h2:(loose (aX g p)).length≤1:=Nat.le_trans yg (by omega)
 match hL:loose (aX g p),h2 with
 | [],_=>rw [hL] at hv;cases hv
 | [w],_=>
   rw [hL,List.mem_singleton] at hv h1
   rw [hv,h1]
theorem Im (h:nu g p) (hl:1<(aX g p).length):rz (ak g p) (bJ g p) g.n.toNat=true∧(fK (ak g p) (bJ g p) (g.n.toNat+1)).row= [(-1,g.n, -1)]:=by
 have hr:=h.run
 have hm:=ag hr.1
 have hn:=aA hm
 have yh:=uh h
 have hQ:=qP hr
 obtain ⟨uL,DN⟩:=gw hr
 obtain ⟨PN,hrow⟩:=RT h (k:=g.n.toNat) (Nat.le_refl _)
 have hG:(ak g p).n=g.n+1:=if_pos hl
 obtain ⟨Mm,Ik,_⟩:=bz yh hQ (k:=g.n.toNat) (by omega) PN
 have hx:=Kb hr hl
 have hnot:g.n∉(fK (ak g p) (bJ g p) g.n.toNat).pl:=by
  rw [Ik]
  have:=BA (b8 hQ) (k:=g.n.toNat) (by rw [aM hQ];omega)
  rw [show (bJ g p).ord.getD g.n.toNat 0=g.n from hx] at this
  exact this
 have j0:=pK hr
 have hrow:(fK (ak g p) (bJ g p) g.n.toNat).row=(aX g p).map (pM g.es.length (bq g p)):=hrow
 have hmem:∀v∈loose (aX g p),(v,g.n)∈bq g p:=fun v hv=>by
  refine List.mem_append_right _ ?_
  unfold newL
  rw [if_pos hl]
  exact List.mem_map.2 ⟨v,hv,rfl⟩
 have Kc:∀t∈aX g p,(pM g.es.length (bq g p) t).2.2=g.n:=fun t ht=>by
  obtain ⟨j,_,h2,_⟩:=qJ (m:=g.es.length) uL (hmem _ (ld ht (j0 t ht)))
  rw [k9 (j0 t ht) h2]
 have Me:Mid g.n ((aX g p).map (pM g.es.length (bq g p))):=by
  have hne:=Ke hr
  refine ⟨?_, ?_,fun t' ht'=> ?_⟩
  ·match hL:aX g p,hne with
   |t::l,_=>exact ⟨_,_,rfl,Kc t (by rw [hL];simp)⟩
  ·have e:=List.dropLast_concat_getLast hne
   refine ⟨(aX g p).dropLast.map (pM g.es.length (bq g p)),pM g.es.length (bq g p) ((aX g p).getLast hne), ?_,Kc _ (List.getLast_mem hne)⟩
   conv=>lhs;rw [← e]
   simp
  ·obtain ⟨t,ht,rfl⟩:=List.mem_map.1 ht'
   exact .inl (Kc t ht)
 have hno:aV g g.n=0:=by
  have:¬0<aV g g.n:=fun h0=>by
   obtain ⟨i,hi⟩:=List.exists_mem_of_length_pos h0
   obtain ⟨⟨h1,h2⟩,h3⟩:=jl hi
   have:=(cM hm (k:=i.toNat) (by omega)).2
   have h3:(g.es.getD i.toNat (0,0)).2=g.n:=h3
   omega
  omega
 have xy:((aX g p).map (pM g.es.length (bq g p))).countP (jS g.n)=aV (ak g p) g.n:=by
  have h1:((aX g p).map (pM g.es.length (bq g p))).countP (jS g.n)=((aX g p).map (pM g.es.length (bq g p))).length:=List.countP_eq_length.2 fun t' ht'=>by
   obtain ⟨t,ht,rfl⟩:=List.mem_map.1 ht'
   simp [jS,Kc t ht]
  have h2:(cD g p g.n.toNat).filter (fun e=>decide (e.2=g.n))= []:=List.filter_eq_nil_iff.2 fun e he=>by
   obtain ⟨i,hi,hx2,_⟩:=qL (v:=e.1) (x:=e.2) he
   have:=aH hr.2.1 hi
   simp only [decide_eq_true_eq];omega
  have h3:(newL g p).filter (fun e=>decide (e.2=g.n))=newL g p:=List.filter_eq_self.2 fun e he=>by
   unfold newL at he
   rw [if_pos hl] at he
   obtain ⟨v,_,rfl⟩:=List.mem_map.1 he
   simp
  have h4:(loose (aX g p)).length=(aX g p).length:=by
   unfold loose
   rw [List.length_map,List.filter_eq_self.2]
   intro t ht
   exact decide_eq_true (j0 t ht)
  rw [h1,List.length_map,wO,hno,bq,List.filter_append,h2,h3]
  unfold newL
  rw [if_pos hl]
  simp [h4]
 have OQ:(fK (ak g p) (bJ g p) g.n.toNat).row= []++(aX g p).map (pM g.es.length (bq g p))++ []:=by rw [hrow];simp
 have nil:fe g.n ([]:List It):=fun t ht=>by cases ht
 refine ⟨?_, ?_⟩
 ·unfold rz
  rw [hx]
  exact jH yh Mm.toeo (by omega) (by omega) hnot OQ nil nil Me xy
 ·show (aC _ _ _ _).2.row=_
  rw [hx,eS _ OQ nil nil Me,(uj hr hl).1]
  rfl
theorem DS (h:nu g p):∀k,k<(ak g p).n.toNat→rz (ak g p) (bJ g p) k=true:=by
 have hn:=aA (ag h.run.1)
 intro k hk
 by_cases hkn:k<g.n.toNat
 ·exact (RT h (k:=g.n.toNat) (Nat.le_refl _)).1 k hkn
 ·by_cases hl:1<(aX g p).length
  ·have hG:(ak g p).n=g.n+1:=if_pos hl
   obtain rfl:k=g.n.toNat:=by omega
   exact (Im h hl).1
  ·have hG:(ak g p).n=g.n:=if_neg hl
   omega
theorem eW {f:Edge→Int} {g:Gr} {y:Int} :y∈bF f g↔(0≤y∧y<g.n)∧aK f g.es g.es.length y= []:=by
 simp only [bF,jz,List.mem_map,List.mem_filter,List.mem_range,decide_eq_true_eq]
 have he:∀x:Nat,x<g.n.toNat→(((dw f g).getD x []).length=0↔aK f g.es g.es.length (x:Int)= []):=by
  intro x hx
  have e:(dw f g).getD x []=aK f g.es g.es.length (x:Int):=by
   simp [dw,List.getD_eq_getElem?_getD,List.getElem?_range hx,ni]
  rw [e,List.length_eq_zero_iff]
 constructor
 ·rintro ⟨x,⟨hx,h0⟩,rfl⟩
  exact ⟨by simp;omega,(he x hx).1 h0⟩
 ·rintro ⟨⟨h1,h2⟩,h3⟩
  have e:((y.toNat:Nat):Int)=y:=by omega
  exact ⟨y.toNat,⟨by omega,(he _ (by omega)).2 (by rw [e];exact h3)⟩,e⟩
theorem wQ {l:List Int} (hd:l.Nodup) {s:Int} (h:∀y∈l,y=s):l.length≤1:=by
 match l,hd,h with
 | [],_,_=>simp
 | [_],_,_=>simp
 |a::b::l,hd,h=>
  rw [List.nodup_cons] at hd
  exact absurd (by rw [h a (by simp),h b (by simp)];simp) hd.1
theorem BC (h:nu g p):(bT (ak g p)).1=0:=by
 have hr:=h.run
 have hm:=ag hr.1
 have hn:=aA hm
 have yh:=uh h
 have hQ:=qP hr
 have OR:=DS h
 have hna:=jL (g:=g) (p:=p)
 obtain ⟨uL,DN⟩:=gw hr
 have SS:∀i,i<(ak g p).es.length→∃j k,j<k∧k<(ak g p).n.toNat∧tl (ak g p) i=aq (bJ g p) j∧hd (ak g p) i=aq (bJ g p) k:=fun i hi=>by
  have hh:=(cM yh hi).2
  obtain ⟨k,hk,e⟩:=cz hQ hh.1 hh.2
  obtain ⟨Mm,Ik,_⟩:=bz yh hQ (k:=k) (by omega) fun j hj=>OR j (by omega)
  obtain ⟨t,ht,e1,e2,_⟩:=r9 yh Mm (OR k hk) hi e.symm
  have hin:=Mm.tail t ht (by omega)
  rw [Ik] at hin
  obtain ⟨j,hj,e3⟩:=take_at (by rw [aM hQ];omega) hin
  exact ⟨j,k,hj,hk,by rw [← e2,e3],e.symm⟩
 have Io:DD (ak g p)=true:=(ug yh).2 ⟨fun v=>(bQ (fun y=>decide (y=v)) (bJ g p).ord).toNat,fun i hi=>by
  obtain ⟨j,k,hjk,hk,e1,e2⟩:=SS i hi
  have lZ:∀q,q<(ak g p).n.toNat→bQ (fun y=>decide (y=aq (bJ g p) q)) (bJ g p).ord=q:=fun q hq=>
   c8 (d:=0) (by rw [aM hQ];exact hq) (fun i' hi'=>decide_eq_false fun e=>by
    have:=cQ hQ (by omega) hq e
    omega) (decide_eq_true rfl)
  simp only
  rw [e1,e2,lZ j (by omega),lZ k hk]
  omega⟩
 have Ip:¬0≤jD (ak g p):=fun hl=>by
  have h1:=fL (fun e:Edge=>decide (e.1=e.2)) (ak g p).es
  have h0:decide (0≤bQ (fun e:Edge=>decide (e.1=e.2)) (ak g p).es)=true:=decide_eq_true hl
  rw [h0] at h1
  obtain ⟨e,he,h2⟩:=List.any_eq_true.1 h1.symm
  obtain ⟨i,hi,rfl⟩:=List.mem_iff_getElem.1 he
  obtain ⟨j,k,hjk,hk,e1,e2⟩:=SS i hi
  have h3:tl (ak g p) i=hd (ak g p) i:=by simpa [tl,hd,List.getD_eq_getElem?_getD,List.getElem?_eq_getElem hi] using h2
  have:=cQ hQ (by omega) hk (e1.symm.trans (h3.trans e2))
  omega
 have HG:¬0≤dV (ak g p):=fun ht=>by
  obtain ⟨i,k,hi,hk,hik,e⟩:=(jq _).1 ht
  have hgt:¬0≤dV g:=by
   have:=hr.1
   unfold bT fS at this
   intro h2
   split at this
   ·cases this
   split at this
   ·cases this
   cases this
  have hel:(ak g p).es.length=g.es.length+(bq g p).length:=List.length_append
  have mixed:∀a b,a<g.es.length→b<(bq g p).length→g.es.getD a (0,0)≠(bq g p).getD b (0,0):=fun a b ha hb e=>by
   obtain ⟨q0,q1⟩:=DN _ (aQ (d:=(0,0)) hb)
   have hz:=(iH hr.2.1 q0.1 q0.2).2 q1
   have:(a:Int)∈cn g ((bq g p).getD b (0,0)).1:=H8.2 ⟨⟨by omega,by omega⟩,by rw [Int.toNat_natCast,e]⟩
   rw [hz] at this
   cases this
  by_cases h1:i<g.es.length
  ·by_cases h2:k<g.es.length
   ·rw [pN i h1,pN k h2] at e
    exact hgt ((jq g).2 ⟨i,k,h1,h2,hik,e⟩)
   ·obtain ⟨b,rfl⟩:∃b,k=g.es.length+b:=⟨k - g.es.length,by omega⟩
    rw [pN i h1,qO] at e
    exact mixed i b h1 (by omega) e
  ·obtain ⟨a,rfl⟩:∃a,i=g.es.length+a:=⟨i - g.es.length,by omega⟩
   by_cases h2:k<g.es.length
   ·rw [pN k h2,qO] at e
    exact mixed k a h2 (by omega) e.symm
   ·obtain ⟨b,rfl⟩:∃b,k=g.es.length+b:=⟨k - g.es.length,by omega⟩
    rw [qO,qO] at e
    have e1:∀q,q<(bq g p).length→((bq g p).map (·.1)).getD q 0=((bq g p).getD q (0,0)).1:=fun q hq=>by
     simp [List.getD_eq_getElem?_getD,List.getElem?_eq_getElem hq]
    have:=jF uL (i:=a) (j:=b) (by simp;omega) (by simp;omega) (by rw [e1 a (by omega),e1 b (by omega),e])
    omega
 have Iq:¬1<(bF (·.2) (ak g p)).length:=fun hb=>by
  obtain ⟨s,hs⟩:∃s,∀y∈bF (·.2) (ak g p),y=s:=by
   refine ⟨aq p 0,fun y hy=> ?_⟩
   obtain ⟨⟨y0,y1⟩,y2⟩:=n0.1 hy
   rw [wO] at y2
   have yn:y<g.n:=by
    refine Decidable.byContradiction fun L7=> ?_
    have hl:1<(aX g p).length:=Decidable.byContradiction fun hl=>by
     have hG:(ak g p).n=g.n:=if_neg hl
     omega
    have e:y=g.n:=by have hG:(ak g p).n=g.n+1:=if_pos hl;omega
    have xu:=(jr hr).2
    have:(aq p (g.n.toNat - 1),y)∈(bq g p).filter fun e=>decide (e.2=y):=List.mem_filter.2 ⟨List.mem_append_right _ (by
     unfold newL
     rw [if_pos hl]
     exact List.mem_map.2 ⟨_,xu,by rw [e]⟩),by simp⟩
    have:=List.length_pos_of_mem this
    omega
   have h0:=aH hr.2.1 (k:=0) (by omega)
   refine eV hr.1 ⟨y0,yn⟩ h0 (by omega) ?_
   refine Decidable.byContradiction fun hnz=> ?_
   obtain ⟨A,X,C,hrw,_,_,hX,_⟩:=bM hm (qC g).toeo (hr.2.2 0 (by omega)) hnz
   obtain ⟨q,X0,e1,_⟩:=hX.fst
   rw [e1] at hrw
   simp at hrw
  have:=wQ eH hs
  omega
 unfold bT fS
 rw [if_neg (by simp [yh]),if_neg Ip,if_neg HG,if_neg (by rw [zS yh Io];simp),if_neg Iq]
theorem nv (h:nu g p):aN (ak g p) (bJ g p):=⟨BC h,qP h.run,DS h⟩
theorem Ir (h:nu g p):lG (ak g p)=true:=by
 have hr:=h.run
 have hm:=ag hr.1
 have hn:=aA hm
 have hna:=jL (g:=g) (p:=p)
 obtain ⟨uL,DN⟩:=gw hr
 unfold lG
 rw [decide_eq_true (BC h),Bool.true_and,decide_eq_true_eq]
 obtain ⟨Jh,Cd⟩:=gY hm hr.2.1 (k:=g.n.toNat) (Nat.le_refl _) hr.2.2
 have key:∀y,0≤y∧y<g.n→cn (ak g p) y= []→¬1<(aX g p).length∧y∈loose (aX g p):=fun y hy hz=>by
  have hs:bE p y= []:=by
   refine Decidable.byContradiction fun hs=> ?_
   rw [wN hr hy hs] at hz
   exact hs ((iH hr.2.1 hy.1 hy.2).1 hz)
  obtain ⟨s1,_⟩:=sr hr hy hs
  have hno:∀x,(y,x)∉bq g p:=fun x hx=>by
   obtain ⟨j,_,h2,_⟩:=s1 x hx
   rw [hz] at h2;cases h2
  obtain ⟨k,hk,e⟩:=cz hr.2.1 hy.1 hy.2
  obtain ⟨hi,_,_⟩:=bz hm hr.2.1 (k:=k) (by omega) fun j hj=>hr.2.2 j (by omega)
  obtain ⟨A,X,C,hrw,_,_,_,hs'⟩:=fD hm hi.toeo (hr.2.2 k hk)
  have hin:y∈loose (fK g p (k+1)).row:=by
   have hrow:(fK g p (k+1)).row=A++aL g (aq p k) (bE p (aq p k))++C:=by show (aC _ _ _ _).2.row=_;rw [hs']
   rw [hrow,e,hs,bR,bR]
   simp [aL,loose]
  rcases DR hr (K:=g.n.toNat) (by omega) (Nat.le_refl _) hin with ⟨i,h1,h2⟩|h2
  ·exact absurd (List.mem_append_left _ (qM h1 h2)) (hno _)
  ·refine ⟨fun hl=>hno g.n (List.mem_append_right _ ?_),h2⟩
   unfold newL
   rw [if_pos hl]
   exact List.mem_map.2 ⟨_,h2,rfl⟩
 have V8:(bF (·.1) (ak g p)).length≤1:=by
  by_cases hl:1<(aX g p).length
  ·refine wQ (s:=g.n) eH fun y hy=> ?_
   obtain ⟨hy1,hy2⟩:=eW.1 hy
   refine Decidable.byContradiction fun hne=> ?_
   have hG:(ak g p).n=g.n+1:=if_pos hl
   exact (key y ⟨hy1.1,by omega⟩ hy2).1 hl
  ·refine wQ (s:=aq p (g.n.toNat - 1)) eH fun y hy=> ?_
   obtain ⟨hy1,hy2⟩:=eW.1 hy
   have hG:(ak g p).n=g.n:=if_neg hl
   exact Il hr hl (key y ⟨hy1.1,by omega⟩ hy2).2
 have V9:0<(bF (·.1) (ak g p)).length:=by
  by_cases hl:1<(aX g p).length
  ·have hG:(ak g p).n=g.n+1:=if_pos hl
   exact List.length_pos_of_mem (eW.2 ⟨⟨by omega,by omega⟩,(uj hr hl).2⟩:g.n∈bF (·.1) (ak g p))
  ·have hw:=aH hr.2.1 (k:=g.n.toNat - 1) (by omega)
   obtain ⟨h1,h2⟩:=jr hr
   refine List.length_pos_of_mem (eW.2 ⟨⟨hw.1,by omega⟩,(sr hr hw h1).2 fun e he h3=> ?_⟩:aq p (g.n.toNat - 1)∈bF (·.1) (ak g p))
   rcases wz (v:=e.1) (x:=e.2) he with ⟨i,h4,_,h5⟩|⟨h4,_⟩
   ·exact (List.nodup_append.1 Jh).2.2 e.1 (List.mem_map.2 ⟨_,qM h4 h5,rfl⟩) _ h2 h3
   ·exact hl h4
 omega
end Go.Ab
end
section
namespace Go.Ab
open Go.Proofs
set_option maxRecDepth 10000
def dM (l:List It):List It:=l.filter fun t=>decide (0≤t.1)
theorem mu {a b:List It} :dM (a++b)=dM a++dM b:=by simp [dM]
theorem dA {l:List It} {t:It} :t∈dM l↔t∈l∧0≤t.1:=by simp [dM]
theorem uk {x:Int} {l:List It} (h:fe x l):fe x (dM l):=fun t ht=>h t (dA.1 ht).1
def tF (x:Int) (l:List It):Prop:=∀t∈l,t.2.2=x
theorem gZ {g:Gr} {x:Int} {o:List Int} (ho:∀i∈o,0≤i):dM (aL g x o)=o.map (fc g x):=by
 unfold aL
 split
 ·rename_i h;subst h;rfl
 ·refine List.filter_eq_self.2 fun t ht=> ?_
  obtain ⟨i,hi,rfl⟩:=List.mem_map.1 ht
  exact decide_eq_true (ho i hi)
theorem yj {x:Int} :∀ {X Y c d:List It},tF x X→tF x Y→fe x c→fe x d→X++c=Y++d→X=Y∧c=d
 | [], [],c,d,_,_,_,_,e=>⟨rfl,e⟩
 | [],u::Y,c,d,_,hY,hc,_,e=>by
   simp only [List.nil_append] at e
   exact absurd (hY u (by simp)) (hc u (by rw [e];simp))
 |t::X, [],c,d,hX,_,_,hd,e=>by
  simp only [List.nil_append] at e
  exact absurd (hX t (by simp)) (hd t (by rw [← e];simp))
 |t::X,u::Y,c,d,hX,hY,hc,hd,e=>by
  simp only [List.cons_append,List.cons.injEq] at e
  obtain ⟨e1,e2⟩:=yj (fun s hs=>hX s (by simp [hs])) (fun s hs=>hY s (by simp [hs])) hc hd e.2
  exact ⟨by rw [e.1,e1],e2⟩
theorem BD {x:Int} :∀ {a b X Y c d:List It},fe x a→fe x b→tF x X→tF x Y→fe x c→fe x d→X≠ []→Y≠ []→a++X++c=b++Y++d→a=b∧X=Y∧c=d
 |t::a, [],X,u::Y,c,d,ha,_,_,hY,_,_,_,_,e=>by
  simp only [List.cons_append,List.nil_append,List.cons.injEq] at e
  exact absurd (by rw [e.1];exact hY u (by simp)) (ha t (by simp))
 | [],t::b,u::X,Y,c,d,_,hb,hX,_,_,_,_,_,e=>by
   simp only [List.cons_append,List.nil_append,List.cons.injEq] at e
   exact absurd (by rw [← e.1];exact hX u (by simp)) (hb t (by simp))
 |t::a,u::b,X,Y,c,d,ha,hb,hX,hY,hc,hd,nX,nY,e=>by
  simp only [List.cons_append,List.cons.injEq] at e
  obtain ⟨e1,e2,e3⟩:=BD (fun s hs=>ha s (by simp [hs])) (fun s hs=>hb s (by simp [hs])) hX hY hc hd nX nY e.2
  exact ⟨by rw [e.1,e1],e2,e3⟩
 | [], [],X,Y,c,d,_,_,hX,hY,hc,hd,_,_,e=>by
   refine ⟨rfl, ?_⟩
   simp only [List.nil_append] at e
   exact yj hX hY hc hd e
 | [],_::_, [],_,_,_,_,_,_,_,_,_,h,_,_=>absurd rfl h
 |_::_, [],_, [],_,_,_,_,_,_,_,_,_,h,_=>absurd rfl h
theorem BF {g:Gr} (hm:aG g=true) {f:Fr} (hi:eo g f) {x:Int} (hR:az g f x=true) (hn:aV g x≠0):
 ∃a X c,dM f.row=a++X++c∧fe x a∧fe x c∧tF x X∧X.length=aV g x∧∀o,dM (aC g f x o).2.row=a++dM (aL g x o)++c:=by
 obtain ⟨A,X,C,hr,hA,hC,hX,cX⟩:=bM hm hi hR hn
 have hx:=(aD hR).1
 have hmem:∀t∈X,t∈f.row:=fun t ht=>by rw [hr];simp [ht]
 have hiff:∀t∈X,(0≤t.1↔t.2.2=x):=fun t ht=>by
  have h1:=(hi.it t (hmem t ht)).head hm
  have h2:=hX.al t ht
  omega
 refine ⟨dM A,dM X,dM C,by rw [hr,mu,mu],uk hA,uk hC,fun t ht=> ?_, ?_,fun o=> ?_⟩
 ·obtain ⟨h1,h2⟩:=dA.1 ht
  exact (hiff t h1).1 h2
 ·rw [← cX,dM, ← List.countP_eq_length_filter]
  refine List.countP_congr fun t ht=> ?_
  simp only [jS,decide_eq_true_eq]
  exact hiff t ht
 ·rw [eS o hr hA hC hX]
  simp only [mu]
theorem zT {g:Gr} (hm:aG g=true) {f:Fr} (hi:eo g f) {x:Int} (hR:az g f x=true) (hn:aV g x≠0) {a X c:List It} (e:dM f.row=a++X++c) (ha:fe x a) (hc:fe x c) (hX:tF x X) (nX:X≠ []) (o:List Int):
 dM (aC g f x o).2.row=a++dM (aL g x o)++c:=by
 obtain ⟨b,Y,d,e',hb,hd,hY,lY,hs⟩:=BF hm hi hR hn
 have nY:Y≠ []:=fun h=>hn (by rw [← lY,h];rfl)
 obtain ⟨e1,_,e3⟩:=BD hb ha hY hX hd hc nY nX (e'.symm.trans e)
 rw [hs o,e1,e3]
theorem wR {g:Gr} (hm:aG g=true) {f:Fr} (hi:eo g f) {x:Int} (h0:0≤x) (h1:x<g.n) (hp:x∉f.pl) {a X c:List It} (e:dM f.row=a++X++c) (ha:fe x a) (hc:fe x c) (hX:tF x X) (nX:X≠ []) (hl:X.length=aV g x):az g f x=true:=by
 have hmem:∀j,j<f.row.length→Fp g (f.row.getD j (0,0,0)):=fun j hj=>hi.it _ (aQ hj)
 have xy:f.row.countP (jS x)=X.length:=by
  have h2:f.row.countP (jS x)=(dM f.row).countP (jS x):=by
   rw [dM,List.countP_filter]
   refine List.countP_congr fun t ht=> ?_
   have:=(hi.it t ht).head hm
   simp only [jS,Bool.and_eq_true,decide_eq_true_eq]
   omega
  have c1:a.countP (jS x)=0:=List.countP_eq_zero.2 fun t ht=>by simp [jS,ha t ht]
  have c2:c.countP (jS x)=0:=List.countP_eq_zero.2 fun t ht=>by simp [jS,hc t ht]
  have c3:X.countP (jS x)=X.length:=List.countP_eq_length.2 fun t ht=>by simp [jS,hX t ht]
  rw [h2,e,List.countP_append,List.countP_append,c1,c2,c3]
  omega
 rw [← iC hm hi,eD,if_neg (by rintro (h|h|h);omega;omega;exact hp h),gT h0 h1,Bool.and_eq_true,decide_eq_true_eq]
 have hN:(aK (fun e=>e.2) g.es g.es.length x).length=aV g x:=rfl
 rw [hN]
 refine ⟨?_, ?_⟩
 ·unfold bw
  rw [kU,mj (Nat.le_refl _),List.take_length,xy,hl]
 ·rw [Bool.or_eq_true];right
  rcases fq (row:=f.row) (x:=x) f.row.length with ⟨hs,hno⟩|⟨p,q,n,hs,hab,tO,hc0,hcl,hpx,RW,hlo,hhi⟩
  ·have hs':bw f.row x=(-1,0,0):=hs
   rw [hs'];simp [s5]
  ·have hs':bw f.row x=((p:Int),(q:Int),(n:Int)):=hs
   rw [hs']
   simp only [Int.toNat_natCast,s5,Bool.not_eq_true']
   rw [← Bool.not_eq_true,x9 tO]
   rintro ⟨j,h2,h3,h4⟩
   simp only [mh,Bool.and_eq_true,decide_eq_true_eq] at h4
   have hja:p<j:=by
    refine Nat.lt_of_le_of_ne h2 fun e=> ?_
    subst e;exact h4.1 hpx
   have hjb:j<q - 1:=by
    refine Nat.lt_of_le_of_ne (by omega) fun e=> ?_
    subst e;exact h4.1 RW
   have hsub:=((vX (i:=j+1) (j:=q - 1) (vX (i:=p+1) (j:=j) (vX (i:=0) (j:=p) (List.nil_sublist _) (by omega) (by omega)) (by omega) (by omega)) (by omega) (by omega)).trans (List.take_sublist _ f.row)).filter fun t=>decide (0≤t.1)
   have hp1:=(hmem p (by omega)).head hm
   have RF:=(hmem j (by omega)).head hm
   have hq1:=(hmem (q - 1) (by omega)).head hm
   generalize f.row.getD p (0,0,0)=s1 at hsub hp1 hpx
   generalize f.row.getD j (0,0,0)=s2 at hsub RF h4
   generalize f.row.getD (q - 1) (0,0,0)=s3 at hsub hq1 RW
   have hf:([]++ [s1]++ [s2]++ [s3]).filter (fun t=>decide (0≤t.1))= [s1,s2,s3]:=List.filter_eq_self.2 fun t ht=>by
    simp only [List.nil_append,List.cons_append,List.mem_cons,List.not_mem_nil,or_false] at ht
    rcases ht with rfl|rfl|rfl
    ·exact decide_eq_true (hp1.1.2 (by omega))
    ·exact decide_eq_true (RF.1.2 h4.2)
    ·exact decide_eq_true (hq1.1.2 (by omega))
   rw [hf] at hsub
   have hsub: [s1,s2,s3].Sublist (a++(X++c)):=by rw [← List.append_assoc, ← e];exact hsub
   rw [List.sublist_append_iff] at hsub
   obtain ⟨l1,l',el,k1,k'⟩:=hsub
   rw [List.sublist_append_iff] at k'
   obtain ⟨l2,l3,rfl,k2,k3⟩:=k'
   match l1,el,k1 with
   |t::l1,el,k1=>
    simp only [List.cons_append,List.cons.injEq] at el
    exact ha t (k1.subset (by simp)) (by rw [← el.1];exact hpx)
   | [],el,_=>
     match l2,el,k2 with
     | [],el,_=>
       simp only [List.nil_append] at el
       exact hc s1 (k3.subset (by rw [← el];simp)) hpx
     | [t],el,_=>
       simp only [List.nil_append,List.cons_append,List.cons.injEq] at el
       exact hc s3 (k3.subset (by rw [← el.2];simp)) RW
     |t::u::l2,el,k2=>
      simp only [List.nil_append,List.cons_append,List.cons.injEq] at el
      exact h4.1 (by rw [el.2.1];exact hX u (k2.subset (by simp)))
end Go.Ab
end
section
namespace Go.Ab
open Go.Proofs
set_option maxRecDepth 10000
def OS (gone:List Int) (i:Nat):Bool:= !decide ((i:Int)∈gone)
def MN (gone:List Int) (k:Nat):List Nat:=(List.range k).filter (OS gone)
def UG (gone:List Int) (k:Nat):Nat:=(MN gone k).length
def RX (gone:List Int) (es:List Edge) (k:Nat):List Edge:=(MN gone k).map fun i=>es.getD i (0,0)
def UH (g:Gr) (gone:List Int):Gr:=⟨g.n,RX gone g.es g.es.length⟩
def SU (gone:List Int) (i:Int):Int:=if i∈gone then -1 else (UG gone i.toNat:Int)
def RY (gone:List Int) (l:List Int):List Int:=(l.filter fun i=>decide (i∉gone)).map (SU gone)
def UI (p:Pl) (gone:List Int):Pl:=⟨p.ord,p.outs.map (RY gone)⟩
variable {g:Gr} {p:Pl} {gone:List Int}
def UJ (gone:List Int) (t:It):It:=(SU gone t.1,t.2.1,t.2.2)
def UK (gone:List Int) (l:List It):List It:=(l.filter fun t=>decide (t.1∉gone)).map (UJ gone)
theorem eX (hr:aN g p):aV g (aq p 0)=0:=by
 have hm:=ag hr.1
 have hn:=aA hm
 refine Decidable.byContradiction fun hnz=> ?_
 obtain ⟨A,X,C,hrw,_,_,hX,_⟩:=bM hm (qC g).toeo (hr.2.2 0 (by omega)) hnz
 obtain ⟨q,X0,e1,_⟩:=hX.fst
 rw [e1] at hrw
 simp at hrw
end Go.Ab
end
section
namespace Go.Ab
open Go.Proofs
set_option maxRecDepth 10000
theorem um {g:Gr} (hm:aG g=true) {f:Fr} (hi:eo g f) {x:Int} (hR:az g f x=true) (hn:aV g x≠0) (o:List Int):
 ∃a c,dM f.row=a++dM (aC g f x o).1.1++c∧fe x a∧fe x c∧tF x (dM (aC g f x o).1.1)∧(dM (aC g f x o).1.1).length=aV g x∧dM (aC g f x o).2.row=a++dM (aL g x o)++c:=by
 obtain ⟨A,X,C,hr,hA,hC,hX,hc⟩:=bM hm hi hR hn
 have hx:=(aD hR).1
 have hmem:∀t∈X,t∈f.row:=fun t ht=>by rw [hr];simp [ht]
 have hiff:∀t∈X,(0≤t.1↔t.2.2=x):=fun t ht=>by
  have h1:=(hi.it t (hmem t ht)).head hm
  have h2:=hX.al t ht
  constructor
  ·intro h;rcases h2 with h2|h2
   ·exact h2
   ·exact absurd h2 (h1.1.1 h)
  ·intro h;exact h1.1.2 (by omega)
 rw [eS o hr hA hC hX]
 refine ⟨dM A,dM C,by rw [hr,mu,mu],uk hA,uk hC,fun t ht=> ?_, ?_,by simp only [mu]⟩
 ·obtain ⟨h1,h2⟩:=dA.1 ht
  exact (hiff t h1).1 h2
 ·rw [← hc,dM, ← List.countP_eq_length_filter]
  refine List.countP_congr fun t ht=> ?_
  simp only [jS,decide_eq_true_eq]
  exact hiff t ht
def fG (g:Gr) (p:Pl) (x:Int):List Int:=(dM ((gW g p g.n.toNat).getD x.toNat [])).map (·.1)
def ow (g:Gr) (p:Pl) (f:Fr) (x:Int):List Int:=(dM (aC g f x (bE p x)).1.1).map (·.1)
def oN (g:Gr) (p:Pl):Nat→Fr→Prop
 |0,f=>(f.pl.length:Int)=g.n
 |m+1,f=>∃x,az g f x=true∧ow g p f x=fG g p x∧oN g p m (qF g p f x)
theorem wS {g:Gr} {p:Pl} :∀ {m:Nat} {f f':Fr},f.row=f'.row→f.pl.Perm f'.pl→oN g p m f→oN g p m f'
 |0,f,f',_,hp,h=>by
  have h:(f.pl.length:Int)=g.n:=h
  show (f'.pl.length:Int)=g.n
  rw [← hp.length_eq];exact h
 |m+1,f,f',hr,hp,⟨x,h1,h3,h2⟩=>by
  refine ⟨x,by rw [← s7 hr hp];exact h1, ?_,wS ?_ ?_ h2⟩
  ·simp only [ow,aC,hr] at h3 ⊢;exact h3
  ·simp only [qF,aC,hr]
  ·exact hp.append_right _
theorem og {g:Gr} (hc:(bT g).1=0) {p:Pl} (hp:bk g p):∀ {m:Nat} {f:Fr},vW g f→(f.pl.length:Int)+(m+1:Nat)=g.n→oN g p (m+1) f→∀ {x:Int},az g f x=true→ow g p f x=fG g p x∧oN g p m (qF g p f x)
 |m,f,hi,hl,⟨y,tE,PO,hcan⟩,x,hR=>by
  have hm:=ag hc
  by_cases hxy:x=y
  ·subst hxy;exact ⟨PO,hcan⟩
  have py:=bp hp (aD tE).1 (aD tE).2.1
  have px:=bp hp (aD hR).1 (aD hR).2.1
  have i2:=iE hm hi tE py
  match m,hl,hcan with
  |0,hl,hcan=>
   exfalso
   have h1:=gV i2.toeo (by show ((f.pl++ [y]).length:Int)=g.n;simp;omega) (x:=x) ⟨(aD hR).1,(aD hR).2.1⟩
   have h2:x∈f.pl++ [y]:=h1
   simp [(aD hR).2.2,hxy] at h2
  |m+1,hl,hcan=>
   obtain ⟨h4,h5,h6,h7,h8⟩:=ya hc hi hxy hR tE px py
   obtain ⟨h9,h3⟩:=og hc hp i2 (by show (((f.pl++ [y]).length:Nat):Int)+_=_;simp;omega) hcan h5
   refine ⟨?_,y,h4, ?_,wS h6.symm ?_ h3⟩
   ·unfold ow at h9 ⊢;rw [h7];exact h9
   ·unfold ow at PO ⊢;rw [h8] at PO;exact PO
   show (f.pl++ [y]++ [x]).Perm (f.pl++ [x]++ [y])
   rw [List.append_assoc,List.append_assoc]
   exact List.Perm.append_left _ (List.Perm.swap ..)
theorem sx {g:Gr} {p:Pl} (h:aN g p):∀ {d k:Nat},k+d=g.n.toNat→oN g p d (fK g p k)
 |0,k,hk=>by
  have hn:=aA (ag h.1)
  obtain ⟨_,bZ,_⟩:=bz (ag h.1) h.2.1 (k:=k) (by omega) fun j hj=>h.2.2 j (by omega)
  show ((fK g p k).pl.length:Int)=g.n
  rw [bZ,List.length_take,aM h.2.1];omega
 |d+1,k,hk=>⟨aq p k,h.2.2 k (by omega),by
   unfold fG
   rw [uf h.2.1 (Nat.le_refl _) (show k<g.n.toNat by omega)]
   rfl,sx h (k:=k+1) (by omega)⟩
theorem DT {g:Gr} (hc:(bT g).1=0) {p:Pl} (hp:bk g p):∀ {m:Nat} {f:Fr},vW g f→oN g p m f→∀ {i:Nat},i<g.es.length→tl g i∈f.pl→hd g i∉f.pl→∃t∈f.row,t.1=(i:Int)
 |0,f,hi,h,i,hil,_,hh=>by
  have hr:=bh (ag hc) hil
  exact absurd (gV hi.toeo h (x:=hd g i) hr) hh
 |m+1,f,hi,⟨x,hR,_,h⟩,i,hil,ht,hh=>by
  have hm:=ag hc
  have px:=bp hp (aD hR).1 (aD hR).2.1
  by_cases hx:hd g i=x
  ·obtain ⟨t,h1,h2,_⟩:=r9 hm hi hR hil hx
   exact ⟨t,h1,h2⟩
  ·obtain ⟨t,h1,h2⟩:=DT hc hp (iE hm hi hR px) h hil (List.mem_append.2 (.inl ht)) (fun h1=>by
    rcases List.mem_append.1 h1 with h1|h1
    ·exact hh h1
    ·exact hx (by simpa using h1))
   obtain ⟨A,X,C,hr,_,_,_,hs⟩:=fD hm hi.toeo hR
   rw [hs] at h1
   simp only [List.mem_append] at h1
   rcases h1 with (h1|h1)|h1
   ·exact ⟨t,by rw [hr];simp [h1],h2⟩
   ·rcases kY (fun i hi=>px.mem_iff.1 hi) h1 with ⟨h3,_⟩|⟨k,h3,h4,h5,_,h6,_⟩
    ·omega
    ·have:k=i:=by omega
     subst this
     exact absurd (h6 ▸ ht) (aD hR).2.2
   ·exact ⟨t,by rw [hr];simp [h1],h2⟩
def dQ (g:Gr) (e:Int):Int:=(g.es.getD e.toNat (0,0)).1
def dZ (g:Gr) (e:Int):Int:=(g.es.getD e.toNat (0,0)).2
def kC (g:Gr) (x:Int):Prop:=0≤x∧x<g.n
instance {g:Gr} {x:Int} :Decidable (kC g x):=inferInstanceAs (Decidable (0≤x∧x<g.n))
def nw (g:Gr) (p:Pl) (k:Nat) (W D:List Int):Prop:=∃f,vW g f∧f.pl=D∧W=(dM f.row).map (·.1)∧oN g p k f∧(D.length:Int)+k=g.n∧aq p 0∈D
def Is (g:Gr) (p:Pl) (x:Int):Nat:=((Bf g.n.toNat p.ord p.ord.length).getD x.toNat 0).toNat
def bu (g:Gr) (p:Pl):PS:=
 {m:=g.es.length,src:=aq p 0,LZ:=aq p (g.n.toNat - 1),tl:=dQ g,hd:=dZ g,ins:=fun x=>if kC g x then fG g p x else [],outs:=fun x=>if kC g x then bE p x else [],MV:=Is g p,Row:=nw g p,k0:=g.n.toNat - 1}
theorem fH {g:Gr} {p:Pl} {x:Int} (h:kC g x):(bu g p).ins x=fG g p x:=if_pos h
theorem j9 {g:Gr} {p:Pl} {x:Int} (h:¬kC g x):(bu g p).ins x= []:=if_neg h
theorem er {g:Gr} {p:Pl} {x:Int} (h:kC g x):(bu g p).outs x=bE p x:=if_pos h
theorem lf {g:Gr} {p:Pl} {x:Int} (h:¬kC g x):(bu g p).outs x= []:=if_neg h
theorem aZ {f:Edge→Int} {es:List Edge} {x e:Int} :e∈aK f es es.length x↔(0≤e∧e<es.length)∧f (es.getD e.toNat (0,0))=x:=by
 refine ⟨jl,fun ⟨h1,h2⟩=> ?_⟩
 simp only [aK,List.mem_map,List.mem_filter,List.mem_range,decide_eq_true_eq]
 exact ⟨e.toNat,⟨by omega,h2⟩,by simp;omega⟩
section
variable {g:Gr} {p:Pl}
theorem DU (hm:aG g=true) (hp:bk g p) {k:Nat} (hk:k<g.n.toNat):Is g p (aq p k)=k:=by
 have hE:=((J4 hm).2 hp).1
 have:=zI hE (p:=k) (k:=p.ord.length) (by rw [aM hp];exact hk) (Nat.le_refl _)
 unfold Is
 show ((Bf _ _ _).getD (p.ord.getD k 0).toNat 0).toNat=k
 rw [this];simp
theorem zU (h:aN g p) {e:Int} (he:0≤e∧e<g.es.length) {k:Nat} (hk:k<g.n.toNat) (hx:dZ g e=aq p k):∃j,j<k∧aq p j=dQ g e:=by
 have hm:=ag h.1
 obtain ⟨hi,bZ,_⟩:=bz hm h.2.1 (k:=k) (by omega) fun j hj=>h.2.2 j (by omega)
 obtain ⟨t,h1,h2,h3,_⟩:=r9 hm hi (h.2.2 k hk) (i:=e.toNat) (by omega) hx
 have h4:=hi.tail t h1 (by omega)
 rw [h3,bZ] at h4
 exact take_at (by rw [aM h.2.1];omega) h4
theorem qQ (hm:aG g=true) {f:Fr} (hi:eo g f) {t:It} (ht:t∈dM f.row):(0≤t.1∧t.1<g.es.length)∧t.2.1=dQ g t.1∧t.2.2=dZ g t.1:=by
 obtain ⟨h1,h2⟩:=dA.1 ht
 rcases hi.it t h1 with h3|h3
 ·omega
 ·exact ⟨⟨h3.1,h3.2.1⟩,h3.2.2.1,h3.2.2.2⟩
theorem Iu {f:Fr} (hi:vW g f):((dM f.row).map (·.1)).Nodup:=by
 refine List.pairwise_map.2 ?_
 have:=hi.once.filter (fun t:It=>decide (0≤t.1))
 refine List.Pairwise.imp_of_mem (fun {s t} hs ht h1=>h1 (dA.1 hs).2) this
theorem Kf (hm:aG g=true) {f:Fr} (hi:vW g f) {x:Int} (hR:az g f x=true):(ow g p f x).Nodup∧∀e,e∈ow g p f x↔(0≤e∧e<g.es.length)∧dZ g e=x:=by
 by_cases hn:aV g x=0
 ·have hno:=gU hm hi.toeo (aD hR).1 hn
  have e0:ow g p f x= []:=by unfold ow;rw [dK _ hno];rfl
  rw [e0]
  refine ⟨List.nodup_nil,fun e=>⟨fun h=>by (cases h),fun ⟨h1,h2⟩=> ?_⟩⟩
  have:=aZ.2 ⟨h1,h2⟩
  have h3:aK (·.2) g.es g.es.length x= []:=List.eq_nil_of_length_eq_zero hn
  rw [h3] at this;cases this
 ·obtain ⟨a,c,e1,ha,hc,hX,hl,_⟩:=um hm hi.toeo hR hn (bE p x)
  have bN:=Iu hi
  have hmem:∀t∈dM (aC g f x (bE p x)).1.1,t∈dM f.row:=fun t ht=>by rw [e1];simp [ht]
  rw [e1,List.map_append,List.map_append,List.nodup_append] at bN
  have PR:(ow g p f x).Nodup:=(List.nodup_append.1 bN.1).2.1
  have hsub:∀e∈ow g p f x,e∈aK (·.2) g.es g.es.length x:=fun e he=>by
   obtain ⟨t,ht,rfl⟩:=List.mem_map.1 he
   obtain ⟨h1,_,h3⟩:=qQ hm hi.toeo (hmem t ht)
   exact aZ.2 ⟨h1,by rw [← hX t ht,h3];rfl⟩
  have hlen:(aK (·.2) g.es g.es.length x).length=(ow g p f x).length:=by
   unfold ow;rw [List.length_map,hl];rfl
  exact ⟨PR,fun e=>⟨fun he=>aZ.1 (hsub e he),fun he=>CN PR hsub hlen e (aZ.2 he)⟩⟩
theorem uo (h:aN g p) {k:Nat} (hk:k<g.n.toNat):fG g p (aq p k)=ow g p (fK g p k) (aq p k):=by
 unfold fG
 rw [uf h.2.1 (Nat.le_refl _) hk];rfl
theorem lg (h:aN g p) {x:Int} (hx:kC g x):(fG g p x).Nodup∧∀e,e∈fG g p x↔(0≤e∧e<g.es.length)∧dZ g e=x:=by
 obtain ⟨k,hk,rfl⟩:=cz h.2.1 hx.1 hx.2
 have hm:=ag h.1
 obtain ⟨hi,_,_⟩:=bz hm h.2.1 (k:=k) (by omega) fun j hj=>h.2.2 j (by omega)
 rw [uo h hk]
 exact Kf hm hi (h.2.2 k hk)
theorem iI (h:aN g p) {x:Int} (hx:kC g x):(fG g p x).length=aV g x:=by
 obtain ⟨h1,h2⟩:=lg h hx
 refine Nat.le_antisymm ?_ ?_
 ·exact jf h1 fun e he=>aZ.2 ((h2 e).1 he)
 ·exact jf cq fun e he=>(h2 e).2 (aZ.1 he)
theorem lp (h:aN g p) (hI:lG g=true) {x:Int} (hx:kC g x):bE p x= []↔x=aq p (g.n.toNat - 1):=by
 have hm:=ag h.1
 have hn:=aA hm
 constructor
 ·intro h1
  have hs:=(jr h).1
  have hsi:=aH h.2.1 (k:=g.n.toNat - 1) (by omega)
  have b1:=eW (f:=(·.1)) (g:=g) (y:=x) |>.2 ⟨hx,(iH h.2.1 hx.1 hx.2).2 h1⟩
  have b2:=eW (f:=(·.1)) (g:=g) (y:=aq p (g.n.toNat - 1)) |>.2 ⟨hsi,(iH h.2.1 hsi.1 hsi.2).2 hs⟩
  have hl:(bF (·.1) g).length=1:=by
   unfold lG at hI
   simp only [Bool.and_eq_true,decide_eq_true_eq] at hI
   exact hI.2
  obtain ⟨y,hy⟩:=List.length_eq_one_iff.1 hl
  rw [hy,List.mem_singleton] at b1 b2
  rw [b1,b2]
 ·rintro rfl;exact (jr h).1
theorem yl (h:aN g p) (hI:lG g=true) {f:Fr} (hi:vW g f):∀ {d k:Nat},k+d=g.n.toNat→k<g.n.toNat→aq p k∉f.pl→aq p (g.n.toNat - 1)∉f.pl
 |0,k,h1,h2,_=>by omega
 |d+1,k,h1,h2,h3=>by
  have hm:=ag h.1
  have hx:=aH h.2.1 h2
  by_cases hs:bE p (aq p k)= []
  ·rw [(lp h hI hx).1 hs] at h3;exact h3
  ·obtain ⟨e,u,he⟩:=ij hs
   have xu:e∈cn g (aq p k):=(bp h.2.1 hx.1 hx.2).mem_iff.1 (by rw [he];simp)
   obtain ⟨xJ,Ca⟩:=aZ.1 xu
   have hh:=bh hm (i:=e.toNat) (by omega)
   obtain ⟨k',hk',e'⟩:=cz h.2.1 hh.1 hh.2
   obtain ⟨j,hj,e2⟩:=zU h xJ hk' e'.symm
   have:j=k:=cQ h.2.1 (by omega) h2 (e2.trans Ca)
   refine yl h hI hi (d:=g.n.toNat - k') (k:=k') (by omega) hk' fun h4=> ?_
   have:=hi.low e.toNat (by omega) (e' ▸ h4)
   have h5:tl g e.toNat=aq p k:=Ca
   exact h3 (h5 ▸ this)
 termination_by d=>d
theorem nw.nd {k:Nat} {W D:List Int} (h:nw g p k W D):W.Nodup:=by
 obtain ⟨f,hi,_,rfl,_⟩:=h;exact Iu hi
theorem nw.mem (h:aN g p) {k:Nat} {W D:List Int} (hr:nw g p k W D) (e:Int):e∈W↔(0≤e∧e<g.es.length)∧dQ g e∈D∧dZ g e∉D:=by
 have hm:=ag h.1
 obtain ⟨f,hi,rfl,rfl,hc,_⟩:=hr
 constructor
 ·intro he
  obtain ⟨t,ht,rfl⟩:=List.mem_map.1 he
  obtain ⟨h1,h2,h3⟩:=qQ hm hi.toeo ht
  obtain ⟨h4,h5⟩:=dA.1 ht
  exact ⟨h1,h2 ▸ hi.tail t h4 h5,h3 ▸ hi.head t h4 h5⟩
 ·rintro ⟨h1,h2,h3⟩
  obtain ⟨t,h4,h5⟩:=DT h.1 h.2.1 hi hc (i:=e.toNat) (by omega) h2 h3
  exact List.mem_map.2 ⟨t,dA.2 ⟨h4,by omega⟩,by omega⟩
theorem nw.next (h:aN g p) {k:Nat} {W D:List Int} (hr:nw g p (k+1) W D):∃x A C,W=A++(bu g p).ins x++C∧(bu g p).ins x≠ []:=by
 have hm:=ag h.1
 obtain ⟨f,hi,rfl,rfl,⟨x,hR,hg,_⟩,_,hs⟩:=hr
 obtain ⟨x0,x1,x2⟩:=aD hR
 have hx:kC g x:=⟨x0,x1⟩
 have hn:aV g x≠0:=fun h0=>by
  have:=eV h.1 (x:=x) (y:=aq p 0) hx (hi.oM _ hs) h0 (eX h)
  exact x2 (this ▸ hs)
 obtain ⟨a,c,e1,_,_,_,hl,_⟩:=um hm hi.toeo hR hn (bE p x)
 refine ⟨x,a.map (·.1),c.map (·.1), ?_, ?_⟩
 ·rw [fH hx, ← hg,e1,List.map_append,List.map_append];rfl
 ·rw [fH hx]
  intro h0
  have:=iI h hx
  rw [h0] at this
  exact hn this.symm
theorem nw.step (h:aN g p) {k:Nat} {W D A C:List Int} {x:Int} (hr:nw g p k W D) (hW:W=A++(bu g p).ins x++C) (hI:(bu g p).ins x≠ []):∃k',k=k'+1∧nw g p k' (A++(bu g p).outs x++C) (D++ [x]):=by
 have hm:=ag h.1
 have hx:kC g x:=Decidable.byContradiction fun h0=>hI (j9 h0)
 have bN:=hr.nd
 have hmem:=nw.mem h hr
 rw [fH hx] at hW hI
 rw [er hx]
 obtain ⟨i1,i2⟩:=lg h hx
 obtain ⟨e0,u0,L4⟩:=ij hI
 have F8:x∉D:=by
  have h1:=(i2 e0).1 (by rw [L4];simp)
  have h2:=(hmem e0).1 (by rw [hW,L4];simp)
  rw [h1.2] at h2;exact h2.2.2
 obtain ⟨f,hi,rfl,UL,hc,hD,hs⟩:=hr
 rw [UL] at hW bN
 obtain ⟨l1,c,e1,e2,e3⟩:=List.map_eq_append_iff.1 hW
 obtain ⟨a,X,e4,e5,e6⟩:=List.map_eq_append_iff.1 e2
 have hrow:dM f.row=a++X++c:=by rw [e1,e4]
 rw [hrow,List.map_append,List.map_append,e5,e6,e3] at bN
 have hit:∀t∈a++X++c,(0≤t.1∧t.1<g.es.length)∧t.2.1=dQ g t.1∧t.2.2=dZ g t.1:=fun t ht=>qQ hm hi.toeo (by rw [hrow];exact ht)
 have hX:tF x X:=fun t ht=>by
  have h1:t.1∈fG g p x:=by rw [← e6];exact List.mem_map_of_mem ht
  rw [(hit t (by simp [ht])).2.2,((i2 _).1 h1).2]
 have hin:∀t∈a++X++c,t.2.2=x→t.1∈fG g p x:=fun t ht e=>by
  obtain ⟨h1,_,h3⟩:=hit t ht
  exact (i2 _).2 ⟨h1,by rw [← h3,e]⟩
 have ha:fe x a:=fun t ht e=>by
  have h1:=hin t (by simp [ht]) e
  have h2:t.1∈A:=by rw [← e5];exact List.mem_map_of_mem ht
  exact (List.nodup_append.1 (List.nodup_append.1 bN).1).2.2 _ h2 _ h1 rfl
 have K0:fe x c:=fun t ht e=>by
  have h1:=hin t (by simp [ht]) e
  have h2:t.1∈C:=by rw [← e3];exact List.mem_map_of_mem ht
  exact (List.nodup_append.1 bN).2.2 _ (List.mem_append.2 (.inr h1)) _ h2 rfl
 have M3:X.length=aV g x:=by rw [← iI h hx, ← e6,List.length_map]
 have nX:X≠ []:=fun h0=>hI (by rw [← e6,h0];rfl)
 have hR:=wR hm hi.toeo hx.1 hx.2 F8 hrow ha K0 hX nX M3
 have hn:aV g x≠0:=fun h0=>nX (List.eq_nil_of_length_eq_zero (M3.trans h0))
 have px:=bp h.2.1 hx.1 hx.2
 cases k with
 |zero=>exact absurd (gV hi.toeo (by omega) hx) F8
 |succ k=>
  refine ⟨k,rfl,qF g p f x,iE hm hi hR px,rfl, ?_,(og h.1 h.2.1 hi (by omega) hc hR).2, ?_,List.mem_append.2 (.inl hs)⟩
  ·have:=zT hm hi.toeo hR hn hrow ha K0 hX nX (bE p x)
   show _=(dM (aC g f x (bE p x)).2.row).map (·.1)
   rw [this,List.map_append,List.map_append,e5,e3,gZ (fun i hi=>by
    have:=aZ.1 (px.mem_iff.1 hi);exact this.1.1),List.map_map]
   have e7:((fun t:It=>t.1) ∘ fc g x)=id:=rfl
   rw [e7,List.map_id]
  ·show (((f.pl++ [x]).length:Nat):Int)+_=_
   rw [List.length_append,List.length_singleton];omega
theorem FD (h:aN g p):nw g p (g.n.toNat - 1) (bE p (aq p 0)) [aq p 0]:=by
 have hm:=ag h.1
 have hn:=aA hm
 have hx:=aH h.2.1 (k:=0) (by omega)
 obtain ⟨hi,bZ,_⟩:=bz hm h.2.1 (k:=1) (by omega) fun j hj=>h.2.2 j (by omega)
 have px:=bp h.2.1 hx.1 hx.2
 have hno:fe (aq p 0) (fK g p 0).row:=fun t ht=>by cases ht
 have hf:fK g p 1=⟨aL g (aq p 0) (bE p (aq p 0)), [aq p 0]⟩:=by
  show (aC g (fK g p 0) (aq p 0) _).2=_
  rw [dK _ hno]
  show (⟨_++ [], []++ [_]⟩:Fr)=_
  simp
 refine ⟨fK g p 1,hi,by rw [hf], ?_,sx h (by omega),by simp;omega,by simp⟩
 rw [hf]
 show _=(dM (aL g (aq p 0) (bE p (aq p 0)))).map (·.1)
 rw [gZ (fun i hi=>(aZ.1 (px.mem_iff.1 hi)).1.1),List.map_map]
 have e7:((fun t:It=>t.1) ∘ fc g (aq p 0))=id:=rfl
 rw [e7,List.map_id]
theorem ta (h:aN g p) (hI:lG g=true):(bu g p).Ok:=by
 have hm:=ag h.1
 have hn:=aA hm
 have h0:kC g (aq p 0):=aH h.2.1 (by omega)
 exact {
  bW:=fun x e=>by
   show _↔(0≤e∧e<g.es.length)∧dQ g e=x
   by_cases hx:kC g x
   ·rw [er hx,(bp h.2.1 hx.1 hx.2).mem_iff];exact aZ
   ·rw [lf hx]
    refine ⟨fun h=>by (cases h),fun ⟨h1,h2⟩=>absurd ?_ hx⟩
    rw [← h2];exact bg hm (i:=e.toNat) (by omega)
  de:=fun x e=>by
   show _↔(0≤e∧e<g.es.length)∧dZ g e=x
   by_cases hx:kC g x
   ·rw [fH hx];exact (lg h hx).2 e
   ·rw [j9 hx]
    refine ⟨fun h=>by (cases h),fun ⟨h1,h2⟩=>absurd ?_ hx⟩
    rw [← h2];exact bh hm (i:=e.toNat) (by omega)
  qk:=fun x=>by
   by_cases hx:kC g x
   ·rw [er hx,(bp h.2.1 hx.1 hx.2).nodup_iff];exact cq
   ·rw [lf hx];exact List.nodup_nil
  Cz:=fun x=>by
   by_cases hx:kC g x
   ·rw [fH hx];exact (lg h hx).1
   ·rw [j9 hx];exact List.nodup_nil
  zu:=fun e he=>by
   have he:0≤e∧e<g.es.length:=he
   have hh:=bh hm (i:=e.toNat) (by omega)
   obtain ⟨k,hk,e1⟩:=cz h.2.1 hh.1 hh.2
   obtain ⟨j,hj,e2⟩:=zU h he hk e1.symm
   show Is g p (dQ g e)<Is g p (dZ g e)
   have e3:dZ g e=aq p k:=e1.symm
   rw [← e2,e3,DU hm h.2.1 hk,DU hm h.2.1 (by omega)]
   exact hj
  JZ:=by
   show nw g p (g.n.toNat - 1) ((bu g p).outs (aq p 0)) [aq p 0]
   rw [er h0];exact FD h
  mZ:=fun hr=>nw.nd hr
  dy:=fun hr e=>nw.mem h hr e
  m9:=fun hr=>nw.next h hr
  row_step:=fun hr h1 h2=>nw.step h hr h1 h2
  nW:=fun {W D} hr e he=>by
   obtain ⟨f,hi,rfl,_,_,hD,_⟩:=hr
   exact gV hi.toeo (by omega) (bh hm (i:=e.toNat) (by have:=he.1;have:=he.2;have:e<g.es.length:=he.2;omega))
  ql:=fun {k W D} hr=>by obtain ⟨f,hi,rfl,_,_,_,hs⟩:=hr;exact hs
  tZ:=fun {k W D} hr hs=>by
   obtain ⟨f,hi,rfl,_,_,hD,_⟩:=hr
   refine Decidable.byContradiction fun hk=> ?_
   have:∃k',k'<g.n.toNat∧aq p k'∉f.pl:=by
    refine Decidable.byContradiction fun hall=> ?_
    have hall:∀k',k'<g.n.toNat→aq p k'∈f.pl:=fun k' hk'=>Decidable.byContradiction fun h1=>hall ⟨k',hk',h1⟩
    have:=jf (l:=p.ord) (m:=f.pl) (b8 h.2.1) fun x hx=>by
     have hx:=cm.1 (h.2.1.2.1.mem_iff.1 hx)
     obtain ⟨k',h1,rfl⟩:=cz h.2.1 hx.1 (by omega)
     exact hall k' h1
    rw [aM h.2.1] at this
    omega
   obtain ⟨k',h1,h2⟩:=this
   exact yl h hI hi (d:=g.n.toNat - k') (by omega) h1 h2 hs
  vp:=by
   show (bu g p).ins (aq p 0)= []
   rw [fH h0]
   have:=iI h h0
   rw [eX h] at this
   exact List.eq_nil_of_length_eq_zero this
  qm:=fun x hx=>by
   have Jk:kC g x:=Decidable.byContradiction fun h0=>hx (j9 h0)
   rw [er Jk]
   exact lp h hI Jk}
end
end Go.Ab
end
section
namespace Go.Ab
open Go.Proofs
set_option maxRecDepth 10000
structure lu (g:Gr) (p:Pl) (k:Nat) (e:Int):Prop where
 e0:0≤e
 e1:e<g.es.length
 low:dQ g e∈p.ord.take k
 top:dZ g e∉p.ord.take k
structure Iv (g:Gr) (p:Pl) (L:Nat→Int→Int→Prop):Prop where
 up:∀e:Int,0≤e→e<g.es.length→∀k,k<g.n.toNat→aq p k=dZ g e→dQ g e∈p.ord.take k
 UM:∀k,k<g.n.toNat→∀a b c:Int,lu g p k a→lu g p k b→lu g p k c→dZ g a=aq p k→dZ g c=aq p k→L k a b→L k b c→dZ g b=aq p k
 keep:∀k,k<g.n.toNat→∀a b:Int,lu g p k a→lu g p k b→dZ g a≠aq p k→dZ g b≠aq p k→L k a b→L (k+1) a b
 left:∀k,k<g.n.toNat→∀a b c:Int,lu g p k a→lu g p k b→dZ g a≠aq p k→dZ g b=aq p k→c∈bE p (aq p k)→L k a b→L (k+1) a c
 right:∀k,k<g.n.toNat→∀a b c:Int,lu g p k a→lu g p k b→dZ g a≠aq p k→dZ g b=aq p k→c∈bE p (aq p k)→L k b a→L (k+1) c a
 outs:∀k,k<g.n.toNat→(bE p (aq p k)).Pairwise (L (k+1))
theorem ym {α:Type} (P:α→Prop) [DecidablePred P]:∀l:List α,∃X v,l=X++v∧(∀t∈X,P t)∧(v= []∨∃b v',v=b::v'∧¬P b)
 | []=>⟨[], [],rfl,by simp, .inl rfl⟩
 |a::l=>by
  by_cases h:P a
  ·obtain ⟨X,v,e,h1,h2⟩:=ym P l
   exact ⟨a::X,v,by simp [e],fun t ht=>(List.mem_cons.1 ht).elim (fun e=>e ▸ h) (h1 t),h2⟩
  ·exact ⟨[],a::l,rfl,by simp, .inr ⟨a,l,rfl,h⟩⟩
theorem yo {α:Type} {P:α→Prop} [DecidablePred P] {R:α→α→Prop} :∀ {l:List α},l.Pairwise R→(∀a b c,a∈l→b∈l→c∈l→P a→P c→R a b→R b c→P b)→(∃a∈l,P a)→
 ∃u X v,l=u++X++v∧(∀t∈u,¬P t)∧(∀t∈X,P t)∧X≠ []∧∀t∈v,¬P t
 | [],_,_,⟨a,ha,_⟩=>by cases ha
 |t::l,hp,hb,hex=>by
  obtain ⟨hp1,hp2⟩:=List.pairwise_cons.1 hp
  by_cases h:P t
  ·obtain ⟨X,v,e,h1,h2⟩:=ym P l
   refine ⟨[],t::X,v,by simp [e],by simp,fun s hs=>(List.mem_cons.1 hs).elim (fun e=>e ▸ h) (h1 s),by simp,fun c hc SV=> ?_⟩
   rcases h2 with rfl|⟨b,v',rfl,hnb⟩
   ·cases hc
   ·have hb1:b∈l:=by rw [e];simp
    rcases List.mem_cons.1 hc with rfl|tq
    ·exact hnb SV
    ·have hbc:R b c:=by
      rw [e] at hp2
      have:=(List.pairwise_append.1 hp2).2.1
      exact (List.pairwise_cons.1 this).1 c tq
     exact hnb (hb t b c (by simp) (by simp [hb1]) (by rw [e];simp [tq]) h SV (hp1 b hb1) hbc)
  ·obtain ⟨a,ha,hPa⟩:=hex
   have Ou:a∈l:=(List.mem_cons.1 ha).elim (fun e=>absurd (e ▸ hPa) h) id
   obtain ⟨u,X,v,e,h1,h2,h3,h4⟩:=yo hp2 (fun a b c ha hb' hc=>hb a b c (by simp [ha]) (by simp [hb']) (by simp [hc])) ⟨a,Ou,hPa⟩
   exact ⟨t::u,X,v,by simp [e],fun s hs=>(List.mem_cons.1 hs).elim (fun e=>e ▸ h) (h1 s),h2,h3,h4⟩
theorem lz {p:Pl} {k:Nat} {y:Int} (h:y∈p.ord.take k):∃j,j<k∧j<p.ord.length∧aq p j=y:=by
 obtain ⟨j,hj,e⟩:=List.mem_iff_getElem.1 h
 simp only [List.length_take] at hj
 refine ⟨j,by omega,by omega, ?_⟩
 rw [aq,List.getD_eq_getElem?_getD,List.getElem?_eq_getElem (by omega),Option.getD_some, ← e,List.getElem_take]
theorem yp {p:Pl} {k j:Nat} (h1:j<k) (h2:j<p.ord.length):aq p j∈p.ord.take k:=by
 rw [aq,List.getD_eq_getElem?_getD,List.getElem?_eq_getElem h2,Option.getD_some]
 exact List.mem_iff_getElem.2 ⟨j,by simp;omega,by simp⟩
theorem yq {g:Gr} {p:Pl} (hp:bk g p) {k:Nat} (hk:k<g.n.toNat):aq p k∉p.ord.take k:=fun h=>by
 obtain ⟨j,h1,h2,h3⟩:=lz h
 have:=cQ hp (i:=j) (j:=k) (by omega) hk h3
 omega
theorem ic {g:Gr} {p:Pl} (hp:bk g p) {k:Nat} (hk:k<g.n.toNat):p.ord.take (k+1)=p.ord.take k++ [aq p k]:=by
 rw [List.take_add_one,List.getElem?_eq_getElem (by rw [aM hp];exact hk),aq,List.getD_eq_getElem?_getD,List.getElem?_eq_getElem (by rw [aM hp];exact hk)]
 rfl
section
variable {g:Gr} {p:Pl}
theorem ke (hm:aG g=true) {f:Fr} (hi:vW g f) {k:Nat} (bZ:f.pl=p.ord.take k) {t:It} (ht:t∈dM f.row):lu g p k t.1∧dQ g t.1=t.2.1∧dZ g t.1=t.2.2:=by
 obtain ⟨h1,h2⟩:=dA.1 ht
 rcases hi.it t h1 with h|⟨_,g2,g3,g4⟩
 ·omega
 ·refine ⟨⟨h2,g2, ?_, ?_⟩,g3.symm,g4.symm⟩
  ·rw [← bZ];unfold dQ;rw [← g3];exact hi.tail t h1 h2
  ·rw [← bZ];unfold dZ;rw [← g4];exact hi.head t h1 h2
theorem BG (hc:(bT g).1=0) (hp:bk g p) {L:Nat→Int→Int→Prop} (hL:Iv g p L):∀ {k:Nat},k≤g.n.toNat→
 (∀j,j<k→rz g p j=true)∧((dM (fK g p k).row).Pairwise fun s t=>L k s.1 t.1)∧∀e,lu g p k e→∃t∈(fK g p k).row,t.1=e
 |0,_=>⟨fun j hj=>by omega,by simp [fK,dM],fun e he=>by have:=he.low;simp at this⟩
 |k+1,hk=>by
  have hm:=ag hc
  obtain ⟨ih1,ih2,ih3⟩:=BG hc hp hL (k:=k) (by omega)
  obtain ⟨hi,bZ,_⟩:=bz hm hp (k:=k) (by omega) ih1
  obtain ⟨x0,x1⟩:=aH hp (k:=k) (by omega)
  have hnew:=yq hp (k:=k) (by omega)
  have hnext:=ic hp (k:=k) (by omega)
  have hpx:=bp hp x0 x1
  have hout:∀i∈bE p (aq p k),(0≤i∧i<g.es.length)∧dQ g i=aq p k:=fun i hi=>aZ.1 (hpx.mem_iff.1 hi)
  have Ah:=hL.outs k (by omega)
  have BH:fK g p (k+1)=(aC g (fK g p k) (aq p k) (bE p (aq p k))).2:=rfl
  have hab:=gZ (g:=g) (x:=aq p k) (o:=bE p (aq p k)) fun i hi=>(hout i hi).1.1
  have fin:∀a X c:List It,rz g p k=true→dM (fK g p k).row=a++X++c→fe (aq p k) a→fe (aq p k) c→tF (aq p k) X→(X≠ []∨a++c= [])→dM (fK g p (k+1)).row=a++dM (aL g (aq p k) (bE p (aq p k)))++c→
   (∀j,j<k+1→rz g p j=true)∧((dM (fK g p (k+1)).row).Pairwise fun s t=>L (k+1) s.1 t.1)∧∀e,lu g p (k+1) e→∃t∈(fK g p (k+1)).row,t.1=e:=by
   intro a X c hR e ha tq hX FE hs
   refine ⟨fun j hj=> ?_, ?_,fun q hq=> ?_⟩
   ·by_cases h:j=k
    ·subst h;exact hR
    ·exact ih1 j (by omega)
   ·have hma:∀t∈a,t∈dM (fK g p k).row:=fun t ht=>by rw [e];simp [ht]
    have PU:∀t∈X,t∈dM (fK g p k).row:=fun t ht=>by rw [e];simp [ht]
    have KZ:∀t∈c,t∈dM (fK g p k).row:=fun t ht=>by rw [e];simp [ht]
    have DV:=fun t ht=>ke (p:=p) hm hi bZ (t:=t) ht
    rw [e,List.pairwise_append,List.pairwise_append] at ih2
    obtain ⟨⟨pa,pX,UN⟩,pc,OU⟩:=ih2
    have hne:∀t,t∈a∨t∈c→dZ g t.1≠aq p k:=fun t ht=>by
     rcases ht with ht|ht
     ·rw [(DV t (hma t ht)).2.2];exact ha t ht
     ·rw [(DV t (KZ t ht)).2.2];exact tq t ht
    rw [hs,hab,List.pairwise_append,List.pairwise_append]
    refine ⟨⟨?_, ?_, ?_⟩, ?_, ?_⟩
    ·exact pa.imp_of_mem fun {s t} hs' ht' h=>hL.keep k (by omega) _ _ (DV s (hma s hs')).1 (DV t (hma t ht')).1 (hne s (.inl hs')) (hne t (.inl ht')) h
    ·rw [List.pairwise_map];exact Ah
    ·intro s hs' t ht'
     obtain ⟨i,hi',rfl⟩:=List.mem_map.1 ht'
     rcases FE with FE|h0
     ·obtain ⟨y,Y,rfl⟩:∃y Y,X=y::Y:=by
       cases X with
       |nil=>exact absurd rfl FE
       |cons y Y=>exact ⟨y,Y,rfl⟩
      exact hL.left k (by omega) s.1 y.1 i (DV s (hma s hs')).1 (DV y (PU y (by simp))).1 (hne s (.inl hs')) (by rw [(DV y (PU y (by simp))).2.2];exact hX y (by simp)) hi' (UN s hs' y (by simp))
     ·rw [(List.append_eq_nil_iff.1 h0).1] at hs';cases hs'
    ·exact pc.imp_of_mem fun {s t} hs' ht' h=>hL.keep k (by omega) _ _ (DV s (KZ s hs')).1 (DV t (KZ t ht')).1 (hne s (.inr hs')) (hne t (.inr ht')) h
    ·intro s hs' t ht'
     rcases List.mem_append.1 hs' with hs1|hs1
     ·exact hL.keep k (by omega) _ _ (DV s (hma s hs1)).1 (DV t (KZ t ht')).1 (hne s (.inl hs1)) (hne t (.inr ht')) (OU s (by simp [hs1]) t ht')
     ·obtain ⟨i,hi',rfl⟩:=List.mem_map.1 hs1
      rcases FE with FE|h0
      ·obtain ⟨y,Y,rfl⟩:∃y Y,X=y::Y:=by
        cases X with
        |nil=>exact absurd rfl FE
        |cons y Y=>exact ⟨y,Y,rfl⟩
       exact hL.right k (by omega) t.1 y.1 i (DV t (KZ t ht')).1 (DV y (PU y (by simp))).1 (hne t (.inr ht')) (by rw [(DV y (PU y (by simp))).2.2];exact hX y (by simp)) hi' (OU y (by simp) t ht')
      ·rw [(List.append_eq_nil_iff.1 h0).2] at ht';cases ht'
   ·have Je:∃t∈dM (fK g p (k+1)).row,t.1=q:=by
     have hl:=hq.low
     rw [hnext,List.mem_append,List.mem_singleton] at hl
     have ht:=hq.top
     rw [hnext,List.mem_append,List.mem_singleton] at ht
     rw [hs]
     rcases hl with hl|hl
     ·obtain ⟨t,ht1,ht2⟩:=ih3 q ⟨hq.e0,hq.e1,hl,fun h=>ht (.inl h)⟩
      have hte:t∈dM (fK g p k).row:=dA.2 ⟨ht1,by rw [ht2];exact hq.e0⟩
      have hh:=(ke (p:=p) hm hi bZ hte).2.2
      have iQ:=hte
      rw [e,List.mem_append,List.mem_append] at iQ
      rcases iQ with (h1|h1)|h1
      ·exact ⟨t,by simp [h1],ht2⟩
      ·exact absurd (by rw [← ht2,hh];exact hX t h1) fun h=>ht (.inr h)
      ·exact ⟨t,by simp [h1],ht2⟩
     ·refine ⟨fc g (aq p k) q, ?_,rfl⟩
      rw [hab,List.mem_append,List.mem_append]
      exact .inl (.inr (List.mem_map.2 ⟨q,hpx.mem_iff.2 (aZ.2 ⟨⟨hq.e0,hq.e1⟩,hl⟩),rfl⟩))
    obtain ⟨t,h1,h2⟩:=Je
    exact ⟨t,(dA.1 h1).1,h2⟩
  by_cases hn:aV g (aq p k)=0
  ·have hno:=gU hm hi.toeo x0 hn
   have hR:rz g p k=true:=by
    show az g (fK g p k) (aq p k)=true
    unfold az
    rw [if_neg (by rintro (h|h|h);omega;omega;exact hnew (bZ ▸ h)),if_pos hn]
   have hrow:(fK g p k).row= []:=by
    rcases hi.src with h|⟨s,hs,hs0⟩
    ·exact h.2
    ·have:=eV hc (hi.oM s hs) ⟨x0,x1⟩ hs0 hn
     exact absurd (by rw [← bZ, ← this];exact hs) hnew
   refine fin [] [] [] hR (by rw [hrow];rfl) (fun t ht=>by cases ht) (fun t ht=>by cases ht) (fun t ht=>by cases ht) (.inr rfl) ?_
   rw [BH,dK _ hno,hrow]
   simp
  ·have hex:∃e,e∈aK (·.2) g.es g.es.length (aq p k):=by
    cases h:aK (·.2) g.es g.es.length (aq p k) with
    |nil=>exact absurd (by unfold aV;rw [h];rfl) hn
    |cons e l=>exact ⟨e,by simp⟩
   have OV:∀e,e∈aK (·.2) g.es g.es.length (aq p k)→∃t∈dM (fK g p k).row,t.1=e∧t.2.2=aq p k:=fun e he=>by
    obtain ⟨⟨e0,e1⟩,e2⟩:=aZ.1 he
    obtain ⟨t,ht1,ht2⟩:=ih3 e ⟨e0,e1,hL.up e e0 e1 k (by omega) e2.symm,by rw [show dZ g e=aq p k from e2];exact hnew⟩
    have hte:t∈dM (fK g p k).row:=dA.2 ⟨ht1,by rw [ht2];exact e0⟩
    exact ⟨t,hte,ht2,by rw [← (ke (p:=p) hm hi bZ hte).2.2,ht2];exact e2⟩
   obtain ⟨e,he⟩:=hex
   obtain ⟨t0,Iw,_,RZ⟩:=OV e he
   obtain ⟨a,X,c,hE,ha,hX,nX,tq⟩:=yo (P:=fun t:It=>t.2.2=aq p k) ih2 (fun a b c ma mb mc ea ec r1 r2=>by
    have ca:=ke (p:=p) hm hi bZ ma
    have cb:=ke (p:=p) hm hi bZ mb
    have cc:=ke (p:=p) hm hi bZ mc
    rw [← cb.2.2]
    exact hL.UM k (by omega) a.1 b.1 c.1 ca.1 cb.1 cc.1 (by rw [ca.2.2];exact ea) (by rw [cc.2.2];exact ec) r1 r2) ⟨t0,Iw,RZ⟩
   have hlen:X.length=aV g (aq p k):=by
    have bN:((dM (fK g p k).row).map (·.1)).Nodup:=by
     rw [List.Nodup,List.pairwise_map]
     exact (hi.once.filter _).imp_of_mem fun {s t} hs ht h=>h (dA.1 hs).2
    have R2:(X.map (·.1)).Nodup:=by
     rw [hE,List.map_append,List.map_append] at bN
     exact (List.nodup_append.1 (List.nodup_append.1 bN).1).2.1
    have DI:(X.map (·.1)).Perm (aK (·.2) g.es g.es.length (aq p k)):=by
     refine (List.perm_ext_iff_of_nodup R2 cq).2 fun e=>⟨fun h=> ?_,fun h=> ?_⟩
     ·obtain ⟨t,ht,rfl⟩:=List.mem_map.1 h
      have hte:t∈dM (fK g p k).row:=by rw [hE];simp [ht]
      have ct:=ke (p:=p) hm hi bZ hte
      exact aZ.2 ⟨⟨ct.1.e0,ct.1.e1⟩,(show dZ g t.1=_ by rw [ct.2.2];exact hX t ht)⟩
     ·obtain ⟨t,ht,h1,h2⟩:=OV e h
      rw [hE,List.mem_append,List.mem_append] at ht
      rcases ht with (h3|h3)|h3
      ·exact absurd h2 (ha t h3)
      ·exact List.mem_map.2 ⟨t,h3,h1⟩
      ·exact absurd h2 (tq t h3)
    have:=DI.length_eq
    rw [List.length_map] at this
    exact this
   have hR:rz g p k=true:=wR hm hi.toeo x0 x1 (by rw [bZ];exact hnew) hE ha tq hX nX hlen
   exact fin a X c hR hE ha tq hX (.inl nX) (by rw [BH];exact zT hm hi.toeo hR hn hE ha tq hX nX _)
theorem FF (hc:(bT g).1=0) (hp:bk g p) {L:Nat→Int→Int→Prop} (hL:Iv g p L):aN g p:=
 ⟨hc,hp,fun k hk=>(BG hc hp hL (k:=k+1) (by omega)).1 k (by omega)⟩
end
end Go.Ab
end
section
namespace Go.Ab
open Go.Proofs
set_option maxRecDepth 10000
set_option linter.unusedSectionVars false
def DW (lt:Int→Int→Bool) (us:List Int):Nat→Int
 |0=> -1
 |k+1=>if (!decide ((k:Int)∈us))&&(decide (DW lt us k<0)||lt k (DW lt us k)) then k else DW lt us k
def OW (lt:Int→Int→Bool) (n:Nat):Nat→List Int
 |0=> []
 |j+1=>OW lt n j++ [DW lt (OW lt n j) n]
def UO (lt:Int→Int→Bool) (u v:Int):Prop:=lt u v=true∧lt v u=false
section
variable {lt:Int→Int→Bool} {n:Nat} {ord:List Int} (hp:ord.Perm (dW n)) (hs:ord.Pairwise (UO lt))
include hp hs
end
def K5 (sw:Int→Int→Bool):Int→List Int→Int × List Int
 |a, []=>(a, [])
 |a,c::r=>if sw a c then ((K5 sw c r).1,a::(K5 sw c r).2) else ((K5 sw a r).1,c::(K5 sw a r).2)
def SW (sw:Int→Int→Bool):Nat→List Int→List Int
 |0,l=>l
 |_+1, []=> []
 |n+1,a::r=>(K5 sw a r).1::SW sw n (K5 sw a r).2
section
variable {sw:Int→Int→Bool} {R:Int→Int→Prop} {S:Int→Prop} (htr:∀a b c,S a→S b→S c→R a b→R b c→R a c) (hsw:∀a c,S a→S c→a≠c→if sw a c=true then R c a else R a c)
include htr hsw
end
theorem FG {R:Int→Int→Prop} {l m:List Int} (hp:l.Perm m) (ha:∀a b,R a b→R b a→False) (h1:l.Pairwise R) (h2:m.Pairwise R):l=m:=by
 induction l generalizing m with
 |nil=>exact hp.symm.eq_nil.symm
 |cons a l ih=>
  cases m with
  |nil=>exact absurd hp.length_eq (by simp)
  |cons b m=>
   obtain ⟨a1,a2⟩:=List.pairwise_cons.1 h1
   obtain ⟨b1,b2⟩:=List.pairwise_cons.1 h2
   have hab:a=b:=by
    refine Decidable.byContradiction fun hne=> ?_
    have ma:a∈b::m:=hp.mem_iff.1 (by simp)
    have mb:b∈a::l:=hp.mem_iff.2 (by simp)
    have ma:a∈m:=(List.mem_cons.1 ma).elim (fun e=>absurd e hne) id
    have mb:b∈l:=(List.mem_cons.1 mb).elim (fun e=>absurd e.symm hne) id
    exact ha a b (a1 b mb) (b1 a ma)
   subst hab
   rw [ih ((List.perm_cons a).1 hp) a2 b2]
def Wa (sw:Int→Int→Bool) (a:Int) (done todo:List Int):List Int:=(K5 sw a todo).1::SW sw (done.length+todo.length) (done++(K5 sw a todo).2)
end Go.Ab
end
