/- A part of the proof. -/
import Derived.Shelf.SlSortCmp.NoneTotal
import Derived.Test.YtameldglfobjkaaL3P14
set_option linter.unusedSimpArgs false
set_option linter.unusedVariables false
section
namespace Go.Ab
open Go.Proofs Go.RowKit Go.Shelf Go.Sort
set_option maxRecDepth 10000
theorem pW {α:Type} {R:α→α→Prop} {l m:List α} (hp:l.Perm m) (ha:∀a b,a∈l→b∈l→R a b→R b a→a=b) (h1:l.Pairwise R) (h2:m.Pairwise R):l=m:=by
 induction l generalizing m with
 |nil=>exact hp.symm.eq_nil.symm
 |cons a l ih=>
  cases m with
  |nil=>exact absurd hp.length_eq (by simp)
  |cons b m=>
   obtain ⟨a1,a2⟩:=List.pairwise_cons.1 h1
   obtain ⟨b1,b2⟩:=List.pairwise_cons.1 h2
   have hab:a=b:=by
    refine Classical.byContradiction fun hne=> ?_
    have ma:a∈b::m:=hp.mem_iff.1 (by simp)
    have mb:b∈a::l:=hp.mem_iff.2 (by simp)
    have ma:a∈m:=(List.mem_cons.1 ma).elim (fun e=>absurd e hne) id
    have FF:b∈l:=(List.mem_cons.1 mb).elim (fun e=>absurd e.symm hne) id
    exact hne (ha a b (by simp) mb (a1 b FF) (b1 a ma))
   subst hab
   rw [ih ((List.perm_cons a).1 hp) (fun c d hc hd=>ha c d (by simp [hc]) (by simp [hd])) a2 b2]
structure x7 (cf:Int→Int→Int) (l l':List Int):Prop where
 perm:l.Perm l'
 nd:l.Nodup
 ord:l'.Pairwise fun x y=>cf x y<0∧¬cf y x<0
 D5:∀x∈l,¬cf x x<0
section
variable {cf:Int→Int→Int} {l l':List Int} (S:x7 cf l l')
include S
theorem x7.idx {x:Int} (h:x∈l):∃i,i<l'.length∧l'.getD i 0=x:=by
 obtain ⟨i,hi,e⟩:=List.mem_iff_getElem.1 (S.perm.mem_iff.1 h)
 exact ⟨i,hi,by rw [List.getD_eq_getElem?_getD,List.getElem?_eq_getElem hi];exact e⟩
theorem x7.lt {i j:Nat} (hi:i<l'.length) (hj:j<l'.length):cf (l'.getD i 0) (l'.getD j 0)<0↔i<j:=by
 rw [List.getD_eq_getElem?_getD,List.getElem?_eq_getElem hi,List.getD_eq_getElem?_getD,List.getElem?_eq_getElem hj,Option.getD_some,Option.getD_some]
 rcases Nat.lt_trichotomy i j with h|h|h
 ·have:=List.pairwise_iff_getElem.1 S.ord i j hi hj h
  exact ⟨fun _=>h,fun _=>this.1⟩
 ·subst h
  have:=S.D5 (l'[i]) (S.perm.mem_iff.2 (List.getElem_mem hi))
  exact ⟨fun h=>absurd h this,fun h=>by omega⟩
 ·have:=List.pairwise_iff_getElem.1 S.ord j i hj hi h
  exact ⟨fun h=>absurd h this.2,fun h=>by omega⟩
theorem x7.swo:SWO (ltOf fun x y: {x // x∈l} =>cf x.1 y.1) where
 irrefl x:=decide_eq_false (S.D5 x.1 x.2)
 trans x y z h1 h2:=by
  obtain ⟨i,hi,ei⟩:=S.idx x.2
  obtain ⟨j,hj,ej⟩:=S.idx y.2
  obtain ⟨k,hk,ek⟩:=S.idx z.2
  simp only [ltOf,decide_eq_true_eq, ← ei, ← ej, ← ek,S.lt hi hj,S.lt hj hk,S.lt hi hk] at h1 h2 ⊢
  omega
 ntrans x y z h1 h2:=by
  obtain ⟨i,hi,ei⟩:=S.idx x.2
  obtain ⟨j,hj,ej⟩:=S.idx y.2
  obtain ⟨k,hk,ek⟩:=S.idx z.2
  simp only [ltOf,decide_eq_false_iff_not, ← ei, ← ej, ← ek,S.lt hi hj,S.lt hj hk,S.lt hi hk] at h1 h2 ⊢
  omega
theorem x7.eq {d d':Array {x // x∈l}} [Inhabited {x // x∈l}] (hd:d.toList=l.attach) (hp:PermIn 0 d.size d d') (hs:SortedIn (ltOf fun x y: {x // x∈l} =>cf x.1 y.1) 0 d.size d'):d'.toList.map (·.1)=l':=by
 obtain ⟨h1,_,h3⟩:=hp
 have e1:d'.extract 0 d.size=d':=by rw [← h1];exact Array.extract_size
 have e2:d.extract 0 d.size=d:=Array.extract_size
 rw [e1,e2,hd] at h3
 have h4:(d'.toList.map (·.1)).Perm l:=by
  have:=h3.map (fun x: {x // x∈l} =>x.1)
  rwa [List.attach_map_subtype_val] at this
 refine pW (R:=fun x y=>¬cf y x<0) (h4.trans S.perm) (fun a b ha hb r1 r2=> ?_) ?_ (S.ord.imp fun h=>h.2)
 ·obtain ⟨i,hi,ei⟩:=S.idx (h4.mem_iff.1 ha)
  obtain ⟨j,hj,ej⟩:=S.idx (h4.mem_iff.1 hb)
  rw [← ei, ← ej,S.lt hj hi] at r1
  rw [← ei, ← ej,S.lt hi hj] at r2
  rw [← ei, ← ej,show i=j by omega]
 ·rw [List.pairwise_map,List.pairwise_iff_getElem]
  intro i j hi hj hij
  have:=hs i j (by omega) hij (by simpa [h1] using hj)
  rw [getElem!_pos d' j (by simpa using hj),getElem!_pos d' i (by simpa using hi)] at this
  simpa [ltOf] using this
end
def D6 (P:Program) (g:Nat) (cb:Array Value) (cf:Int→Int→Int) (l:List Int) (blk:Nat) (w:World):Prop:=
 ∀W:World,w.heap.size≤W.heap.size→(∀b,b<w.heap.size→b≠blk→W.heap[b]? =w.heap[b]?)→∀x,x∈l→∀y,y∈l→
  Calls P g (#[.int .i64 x, .int .i64 y]++cb) W fun e w'=>e= .returned (.int .i64 (cf x y))∧∃q os',w'=grow (W.drewN q) os'
theorem fU {α:Type} [Inhabited α] (enc:α→Value) (w:World) (blk m:Nat) (dk:Array α) (os:Array Obj) {b:Nat} (hb:b<w.heap.size) (hne:b≠blk):(sortWorld enc w blk 0 m dk os).heap[b]? =w.heap[b]? :=by
 show ((w.heap.modify blk _)++os)[b]? =_
 rw [Array.getElem?_append_left (by simpa using hb),Array.getElem?_modify,if_neg (by omega)]
theorem fV {α:Type} [Inhabited α] (enc:α→Value) (w:World) (blk m:Nat) (dk:Array α) (os:Array Obj):w.heap.size≤(sortWorld enc w blk 0 m dk os).heap.size:=by
 show _≤((w.heap.modify blk _)++os).size
 simp
theorem kT {α:Type} [Inhabited α] (enc:α→Value) (w:World) (blk m:Nat) (dk:Array α) (os:Array Obj) {cur:Array Value} {e:TypeId} {fr:Nat × Nat} (hb:w.heap[blk]? =some (.cells cur e fr)):
 (sortWorld enc w blk 0 m dk os).heap[blk]? =some (.cells (putCells enc 0 dk cur) e fr):=by
 have hlt:blk<w.heap.size:=(Array.getElem?_eq_some_iff.1 hb).1
 show ((w.heap.modify blk _)++os)[blk]? =_
 rw [Array.getElem?_append_left (by simpa using hlt),Array.getElem?_modify,if_pos rfl,hb]
 rfl
end Go.Ab
end
section
namespace Go.Ab
open Go.Proofs Go.RowKit Go.Shelf Go.Sort
set_option maxRecDepth 10000
theorem Ax {w:World} {z:Nat→Nat} {v:Value} {l:List Int} (h:Rd w z v (sI l)) (hne:l≠ []):∃b off cap,v= .slice (some ⟨b,off,none⟩) l.length cap∧b<w.heap.size∧0<z b∧∀j,j<l.length→w.cell? ⟨b,off+j,none⟩=some (.int .i64 (l.getD j 0)):=by
 generalize hx:sI l=x at h
 cases h with
 |sc v h=>cases hx
 |pt b off cells vs hz hc hr=>cases hx
 |nil p sz=>
  simp only [sI,D.sl.injEq,List.map_eq_nil_iff] at hx
  exact absurd hx.2 hne
 |sl b off n cap sz rows vs hn hsz hz hcap hc hr=>
  simp only [sI,D.sl.injEq] at hx
  obtain ⟨rfl,rfl⟩:=hx
  rw [List.length_map] at hn
  subst hn
  have hpos:0<l.length:=List.length_pos_iff.2 hne
  refine ⟨b,off,cap,rfl, ?_,by omega,fun j hj=> ?_⟩
  ·have:=hc 0 (by omega)
   by_cases hlt:b<w.heap.size
   ·exact hlt
   ·exfalso
    simp [World.cell?,Array.getElem?_eq_none (Nat.le_of_not_lt hlt)] at this
  ·have h1:=hc j (by omega)
   have h2:=hr j 0 (rI l[j]) (.sc (.int .i64 l[j])) (by simp [List.getElem?_eq_getElem hj]) rfl
   have h3:=uv h2
   simp only [Nat.mul_one,Nat.add_zero] at h3
   rw [h1,h3]
   simp [List.getD_eq_getElem?_getD,List.getElem?_eq_getElem hj]
end Go.Ab
end
section
namespace Go.Ab
open Go.Proofs
attribute [local congr] ACall.congr gd.congr Nx.congr
set_option maxRecDepth 20000
set_option maxHeartbeats 16000000
def GG (a:List Nat) (m i:Nat):List (List Nat):=((List.range i).filter fun i=>decide (a.getD i 0=i)).map fun i=>(List.range m).filter fun k=>decide (a.getD k 0=i)
def GH (a:List Nat) (i k:Nat):List Nat:=(List.range k).filter fun k=>decide (a.getD k 0=i)
theorem lK {α:Type} {p:α→Bool} {l:List α} {k:Nat} (d:α) (hk:k<l.length):(l.take (k+1)).any p=((l.take k).any p||p (l.getD k d)):=by
 rw [List.take_add_one,List.getElem?_eq_getElem hk,Option.toList_some,List.any_append,List.getD_eq_getElem?_getD,List.getElem?_eq_getElem hk]
 simp
theorem vM {α:Type} {p:α→Bool} {l:List α} {k:Nat} (d:α) (hk:k<l.length) (hp:p (l.getD k d)=true):l.any p=true:=by
 rw [List.any_eq_true]
 refine ⟨l.getD k d, ?_,hp⟩
 rw [List.getD_eq_getElem?_getD,List.getElem?_eq_getElem hk]
 exact List.getElem_mem hk
theorem getD_rNL (ps:List (List Nat)) (i:Nat):(ps.map kS).getD i [.sl 1 []]= [sN (ps.getD i [])]:=by
 rw [List.getD_eq_getElem?_getD,List.getElem?_map,List.getD_eq_getElem?_getD]
 cases ps[i]? <;>rfl
attribute [go_sem] getD_rNL
def ji (g:Gr) (L:List (List Nat)) (x k:Nat):Nat:=((L.take k).filter fun b=>(ug g).cH b x).length
theorem rW {g:Gr} {L:List (List Nat)} {x k:Nat} (hk:k<L.length):ji g L x (k+1)=if (ug g).cH (L.getD k []) x=true then ji g L x k+1 else ji g L x k:=by
 unfold ji
 rw [List.take_add_one,List.getElem?_eq_getElem hk,Option.toList_some,List.filter_append,List.length_append,List.getD_eq_getElem?_getD,List.getElem?_eq_getElem hk]
 simp only [Option.getD_some,List.filter_cons,List.filter_nil]
 split<;>rfl
noncomputable def dX (g:Gr) (k:Nat):List Nat:=(List.range k).filter fun x=>decide (1<ji g (ug g).aT x (ug g).aT.length)
noncomputable def eS (g:Gr):List Nat:=dX g g.n.toNat
theorem pX {g:Gr} {k:Nat} :dX g (k+1)=if 1<ji g (ug g).aT k (ug g).aT.length then dX g k++ [k] else dX g k:=by
 unfold dX
 rw [List.range_succ,List.filter_append,List.filter_cons]
 by_cases h:1<ji g (ug g).aT k (ug g).aT.length
 ·rw [if_pos (decide_eq_true h),if_pos h];rfl
 ·rw [if_neg (by rw [decide_eq_true_eq];exact h),if_neg h];simp
theorem lM {g:Gr} {k:Nat} :(dX g k).length≤k:=by
 have:=List.length_filter_le (fun x=>decide (1<ji g (ug g).aT x (ug g).aT.length)) (List.range k)
 rw [List.length_range] at this
 exact this
theorem oh {G:UG} :G.aT.length≤G.m:=by
 unfold UG.aT
 rw [List.length_map]
 have:=List.length_filter_le (fun i=>G.sw i) (List.range G.m)
 rw [List.length_range] at this
 exact this
theorem vN {G:UG} {b:List Nat} (hb:b∈G.aT):b.length≤G.m:=by
 unfold UG.aT at hb
 obtain ⟨i,_,rfl⟩:=List.mem_map.1 hb
 have:=List.length_filter_le (fun k=> @decide (G.Sm i k) (Classical.propDecidable _)) (List.range G.m)
 rw [List.length_range] at this
 exact this
theorem iP {α:Type} {l:List α} {k:Nat} (d:α) (hk:k<l.length):l.getD k d∈l:=by
 rw [List.getD_eq_getElem?_getD,List.getElem?_eq_getElem hk]
 exact List.getElem_mem hk
end Go.Ab
end
section
namespace Go.Ab
open Go.Proofs Go.RowKit
attribute [local congr] ACall.congr gd.congr Nx.congr
set_option maxRecDepth 20000
set_option maxHeartbeats 8000000
def nI (l:List Nat):List Int:=l.map fun n:Nat=>(n:Int)
theorem qI (l:List Nat):(nI l).map rI=l.map rN:=by simp [nI,rI,rN,Function.comp_def]
theorem lN (l:List Nat):sN l=sI (nI l):=by unfold sN sI;rw [qI]
def dY (l:List Nat):List Nat:=(rM (nI l)).map Int.toNat
theorem wT (l:List Nat):nI (dY l)=rM (nI l):=by
 unfold nI dY
 rw [List.map_map]
 have:∀x∈rM (nI l),((fun n:Nat=>(n:Int)) ∘ Int.toNat) x=id x:=fun x hx=>by
  have h1:x∈nI l:=(List.mergeSort_perm (nI l) _).mem_iff.1 hx
  obtain ⟨n,_,rfl⟩:=List.mem_map.1 h1
  rfl
 rw [List.map_congr_left this,List.map_id]
 rfl
theorem gq (l:List Nat):(dY l).Perm l:=by
 have h1:(rM (nI l)).Perm (nI l):=List.mergeSort_perm _ _
 have h2:=h1.map Int.toNat
 unfold dY
 refine h2.trans ?_
 unfold nI
 rw [List.map_map]
 have:l.map (Int.toNat ∘ fun n:Nat=>(n:Int))=l.map id:=List.map_congr_left fun x _=>rfl
 rw [this,List.map_id]
theorem vO (l:List Nat) (hn:l.Nodup):(dY l).Pairwise (· < ·):=by
 have h1:(rM (nI l)).Pairwise fun x y=>decide (x≤y)=true:=List.pairwise_mergeSort (fun a b c h1 h2=>by simp at h1 h2 ⊢;omega) (fun a b=>by simp;omega) _
 have h2:(dY l).Pairwise (· ≤ ·):=by
  rw [← wT] at h1
  unfold nI at h1
  rw [List.pairwise_map] at h1
  exact h1.imp fun h=>by simpa using h
 have h3:(dY l).Nodup:=(gq l).nodup_iff.2 hn
 exact h2.imp₂ (fun a b h1 h2=>by omega) h3
theorem wS {l:List Nat} :∀r∈l.map rN,∀x∈r,∃v,x=D.sc v:=by
 intro r hr x hx
 obtain ⟨y,_,rfl⟩:=List.mem_map.1 hr
 simp only [rN,List.mem_singleton] at hx
 exact ⟨_,hx⟩
theorem x8 (l:List Nat) (i:Nat) (h:i∈l):iK (nI l) (i:Int)=((l.idxOf i:Nat):Int):=by
 unfold iK
 have hlt:l.idxOf i<l.length:=List.idxOf_lt_length_iff.2 h
 have hg:∀j,(nI l).getD j 0=((l.getD j 0:Nat):Int):=fun j=>by
  unfold nI
  rw [List.getD_eq_getElem?_getD,List.getElem?_map,List.getD_eq_getElem?_getD]
  cases l[j]? <;>rfl
 refine j8 (d:=0) (by rw [nI,List.length_map];exact hlt) (fun j hj=> ?_) ?_
 ·rw [hg]
  refine decide_eq_false fun e=> ?_
  have e':l.getD j 0=i:=by omega
  rw [List.getD_eq_getElem?_getD,List.getElem?_eq_getElem (by omega)] at e'
  have h1:l[j]=i:=by simpa using e'
  have h2:l.idxOf i≤j:=by
   rw [List.idxOf]
   refine Decidable.byContradiction fun h=> ?_
   have:=List.not_of_lt_findIdx (p:=(· ==i)) (xs:=l) (i:=j) (by omega)
   simp [h1] at this
  omega
 ·rw [hg]
  refine decide_eq_true ?_
  rw [List.getD_eq_getElem?_getD,List.getElem?_eq_getElem hlt]
  simp
theorem om (ps:List Nat) (x:Nat) (hx:x∈ps) (hl:ps.length≤9223372036854775807):
 Spec Try.prog 74 (Args [.d (sN ps),eN x]) [] (eN ((ps.idxOf x:Nat):Int)) []:=by
 rw [lN, ← x8 ps x hx]
 exact jc _ _ (by rw [nI,List.length_map];exact hl)
theorem mJ (l:List Nat) (a:Nat):Spec Try.prog 81 (Args [.vw 10000 1 a]) [(10000, .own 3 1 (l.map rN))] (.fn 107 [] [.ptr 10001 0]) [(10000, .own 3 1 (l.map rN)),(10001, .box [.vw 10000 1 a])]:=by
 (refine Spec.yF (C:=T.cfg [] []) (rs:= [.t 2]) [(10001,1)] (T.aB _ _) Try.func81 rfl rfl Try.ntmps81 Try.results81 (by simp [AObj.isNest]) (by simp [AObj.isNest]) (by first|(simp [look];done)|(simp [asN];done)|(intro l hl;simp only [asN];repeat (rw [if_neg (fun e=>by subst e;simp [look] at hl)]))) (by first|(simp [look];done)|(simp [asN];done)|(intro l hl;simp only [asN];repeat (rw [if_neg (fun e=>by subst e;simp [look] at hl)]))) (by kernel_rfl) T.mixed fun X hX hP hC bN fH=> ?_)
 repeat' (first|refine Rn.p ?_|(with_reducible apply And.intro)|((first|(refine hK _ ?_;clear hK K)|with_reducible intro K hK|refine Rs.p ?_|((with_reducible first|apply oP|apply oQ);exact rfl));try simp only [go_sem,simprocAttr])|((with_reducible refine oD ?_ ?_);kernel_rfl)|((with_reducible intro h);try simp only [go_sem,simprocAttr] at h)|omega|intro h)
theorem pY (g:Gr) (hm:aN g=true) (c1 c2 c3 c4 c5 c6:D) (i x:Nat) (hi:i<g.es.length) (hx:x=(tl g i).toNat∨x=(hd g i).toNat):
 Spec Try.prog 69 (Args [.d (.pt [.sc (.int .i64 g.n),sE g.es,c1,c2,c3,c4,c5,c6]),eN i,eN x]) [] (eN (((ug g).sr i x:Nat):Int)) []:=by
 have hn:=dM hm
 obtain ⟨mQ,o9⟩:=ee hm hi
 obtain ⟨u,hu⟩:∃u:Nat,(g.es.getD i (0,0)).1=u:=⟨(g.es.getD i (0,0)).1.toNat,by omega⟩
 obtain ⟨v,hv⟩:∃v:Nat,(g.es.getD i (0,0)).2=v:=⟨(g.es.getD i (0,0)).2.toNat,by omega⟩
 have oK:(tl g i).toNat=u:=by show ((g.es.getD i (0,0)).1).toNat=u;rw [hu];rfl
 have rS:(hd g i).toNat=v:=by show ((g.es.getD i (0,0)).2).toNat=v;rw [hv];rfl
 have ho:(((ug g).sr i x:Nat):Int)=(u:Int)+v - x:=by
  show ((((tl g i).toNat+(hd g i).toNat - x:Nat)):Int)=_
  rw [oK,rS] at hx
  rw [oK,rS]
  omega
 rw [ho]
 (refine Spec.hd (C:=T.cfg [] []) (rs:= [.t 6]) (T.aB _ _) Try.func69 rfl rfl Try.ntmps69 Try.results69 (by simp [AObj.isNest]) (by simp [AObj.isNest]) (by kernel_rfl) T.mixed fun X hX hP hC bN fH=> ?_)
 repeat' (first|refine Rn.p ?_|(with_reducible apply And.intro)|((first|(refine hK _ ?_;clear hK K)|with_reducible intro K hK|refine Rs.p ?_|((with_reducible first|apply oP|apply oQ);exact rfl));try simp only [go_sem,simprocAttr,hu,hv])|((with_reducible refine oD ?_ ?_);kernel_rfl)|((with_reducible intro h);try simp only [go_sem,simprocAttr,hu,hv] at h)|omega|intro h)
theorem mK (l:List Nat) (hl:l.length≤1000000):Spec Try.prog 80 (Args [.fn 107 [] [.d (.pt [sN l])]]) [] (.ref 10000) [(10000, .tip 3 1 ((dY l).map rN))]:=by
 rw [lN, ← qI,wT]
 refine ⟨⟨Try.f80,_,Try.func80,by kernel_rfl,rfl⟩,fun E w vals hg hA=> ?_⟩
 obtain ⟨v,vs,rfl,h0,h3⟩:=hA
 obtain ⟨us,us',rfl,h1,h2⟩:=h0
 obtain ⟨u,zw,rfl,h4,h5⟩:=h2
 simp only [AVrs] at h1 h5 h3
 subst h1 h5 h3
 simp only [aO] at h4
 generalize hx:D.pt [sI (nI l)]=x at h4
 cases h4 with
 |sc v h=>cases hx
 |nil p sz=>cases hx
 |sl b off n cap sz rows vs hn hsz hz hcap hc hr=>cases hx
 |pt b off cells vs hz hc hr=>
 obtain rfl:=D.pt.inj hx
 have hc0:=hc 0 (by simp)
 have y5:=hr 0 _ rfl
 have hlt:b<w.heap.size:=by
  refine Decidable.byContradiction fun h=> ?_
  simp [World.cell?,Array.getElem?_eq_none (Nat.le_of_not_lt h)] at hc0
 refine (mH b (vs 0) (nI l) (by rw [nI,List.length_map];omega) w hlt (by simpa using hc0) (vH y5)).mono ?_
 rintro e w' ⟨v,rfl,hrow,hb⟩
 have cA:∀l,aF [] l=none:=fun l=>by unfold aF;split<;>rfl
 have hs1:∀(q:Nat) (ob o:AObj),ob.isNest=false→aF [(10000,ob)] q=some o→q=10000∧o=ob:=fun q ob o hn h=>by
  have hl:look [(10000,ob)] q=some o:=(cO (fun p hp=>by
   rw [List.mem_singleton] at hp
   subst hp
   exact hn) h).1
  simp only [look] at hl
  split at hl
  ·rename_i e;cases hl;exact ⟨e.symm,rfl⟩
  ·cases hl
 rw [← pM] at hrow
 generalize rM (nI l)=L at hrow
 obtain ⟨r,lY,sn⟩:∃r:Option Nat,(∀q,r=some q→w.heap.size≤q∧q<w'.heap.size)∧((r=none∧L.map rI= []∧∃p,v= .slice p 0 0)∨
  ∃b cur cap,r=some b∧w'.heap[b]? =some (.cells cur 3 (0,0))∧v= .slice (some ⟨b,0,none⟩) (L.map rI).length cap∧(L.map rI).length≤cap∧cap*1=cur.size∧cap≤maxLen∧
   ∀i,i<L.length→cur[i]? =some (.int .i64 (L.getD i 0))):=by
  rcases hrow.2 with ⟨rfl,h0⟩|⟨q,cap,cur,rfl,h1,h2,h3,h4,h5,h6⟩
  ·refine ⟨none,fun _ h=>(by cases h),Or.inl ⟨rfl,by rw [List.eq_nil_of_length_eq_zero h0];rfl,none,rfl⟩⟩
  ·refine ⟨some q,fun _ h=>by cases h;exact ⟨h1,(Array.getElem?_eq_some_iff.1 h2).1⟩,Or.inr ⟨q,cur,cap,rfl,h2,by rw [List.length_map],by rw [List.length_map];exact h3,h5.symm,h4,fun i hi=> ?_⟩⟩
   have h7:(cur.toList.take (L.length*1))[i]? =(L.map (Value.int .i64))[i]? :=by rw [h6]
   rw [List.getElem?_take_of_lt (by omega),Array.getElem?_toList] at h7
   rw [h7,List.getElem?_map,List.getElem?_eq_getElem hi,List.getD_eq_getElem?_getD,List.getElem?_eq_getElem hi]
   rfl
 have uU:de v:=by
  rcases sn with ⟨_,_,p,rfl⟩|⟨_,_,_,_,_,rfl,_⟩<;>trivial
 refine ⟨v,⟨fun q=>if q=10000 then r else none,fun q=>if q=10000 then v else E.σ q,fun b=>if b<w.heap.size then E.z b else if r=some b then L.length else 0⟩,rfl,⟨hb.os,hb.tape,hb.output,hb.size,fun b=> ?_,fun b h1 _=>⟨hb.block b h1,by simp [h1]⟩,fun q hq=>absurd (cA q) hq⟩,⟨fun q hq=> ?_,fun q q' b hq gh _ _=> ?_,fun q o hq=> ?_,fun b hb'=> ?_⟩,fun q o b hq _ hb'=> .inl ?_,⟨by simp,uU⟩⟩
 ·by_cases h:b<w.heap.size
  ·exact ⟨by simp [h],fun o _=>hb.cell (p:=⟨b,o,none⟩) h⟩
  ·have h0:=hg.fresh b (by omega)
   exact ⟨by rw [h0];exact Nat.zero_le _,fun o ho=>by rw [h0] at ho;omega⟩
 ·simp only [look] at hq
  split at hq
  ·omega
  ·exact absurd rfl hq
 ·obtain ⟨o,ho⟩:=Option.ne_none_iff_exists'.1 hq
  obtain ⟨o',ho'⟩:=Option.ne_none_iff_exists'.1 gh
  rw [(hs1 q _ o rfl ho).1,(hs1 q' _ o' rfl ho').1]
 ·obtain ⟨rfl,rfl⟩:=hs1 q _ o rfl hq
  refine ⟨fun r hr=> ?_,by decide, ?_⟩
  ·obtain ⟨y,_,rfl⟩:=List.mem_map.1 hr
   rfl
  rcases sn with ⟨h1,h2,h3⟩|⟨b,cur,cap,h1,h2,h3,h4,h5,h6,h7⟩
  ·exact .inl ⟨by simp [h1],h2,by simpa using h3⟩
  ·refine .inr ⟨b,cur,cap,by simp [h1],h2,by simp [h3],h4,h5,h6, ?_,fun i j r x hi hj=> ?_⟩
   ·have:=(lY b h1).1
    simp only [h1,if_true,List.length_map,Nat.mul_one]
    rw [if_neg (by omega)]
   ·rw [List.getElem?_map] at hi
    obtain ⟨y,hy,rfl⟩:=Option.map_eq_some_iff.1 hi
    cases j with
    |succ j=>simp [rI] at hj
    |zero=>
     simp only [rI,List.getElem?_cons_zero,Option.some.injEq] at hj
     subst hj
     have hil:i<L.length:=(List.getElem?_eq_some_iff.1 hy).1
     have h8:=h7 i hil
     rw [List.getD_eq_getElem?_getD,hy] at h8
     exact ⟨_,by simpa using h8, .sc _ rfl⟩
 ·show (if _ then _ else _)=0
  rw [if_neg (by have:=hb.size;omega),if_neg fun h=>by have:=(lY b h).2;omega]
 ·obtain ⟨rfl,rfl⟩:=hs1 q _ o rfl hq
  simp only [if_true] at hb'
  exact (lY b hb').1
theorem pZ (g:Gr) (s:UG.Sc) (i:Nat) (hi:i∈s.stk) (h1:s.stk.length≤100000) (h2:s.blk.length≤100000):
 Spec Try.prog 70 (Args [.ptr 10000 0,eN i])
  [(10000, .box (bR g s.cnt (.ref 10003) (.ref 10004))),(10001, .own 3 1 (s.num.map rN)),(10002, .own 3 1 (s.low.map rN)),(10003, .own 3 1 (s.stk.map rN)),(10004, .own 25 1 (s.blk.map kS))] (.tup [])
  [(10000, .box (bR g s.cnt (.ref 10005) (.ref 10006))),(10001, .own 3 1 (s.num.map rN)),(10002, .own 3 1 (s.low.map rN)),(10005, .own 3 1 ((UG.fm dY s i).stk.map rN)),(10006, .own 25 1 ((UG.fm dY s i).blk.map kS))]:=by
 obtain ⟨num,low,cnt,stk,blk⟩:=s
 simp only at hi h1 h2 ⊢
 have hlt:stk.idxOf i<stk.length:=List.idxOf_lt_length_iff.2 hi
 have hI:=om stk i hi (by omega)
 have hV:=mJ stk (stk.idxOf i)
 have hdl:(stk.drop (stk.idxOf i)).length≤1000000:=by rw [List.length_drop];omega
 have hT:=mK (stk.drop (stk.idxOf i)) hdl
 have e1:(UG.fm dY ⟨num,low,cnt,stk,blk⟩ i).stk=stk.take (stk.idxOf i):=rfl
 have e2:(UG.fm dY ⟨num,low,cnt,stk,blk⟩ i).blk=blk++ [dY (stk.drop (stk.idxOf i))]:=rfl
 rw [e1,e2]
 have wU:∀a,(stk.map rN).drop a=(stk.drop a).map rN:=fun a=>(List.map_drop ..).symm
 generalize stk.idxOf i=a at*
 (refine Spec.yF (C:=T.cfg [25] [21]) (rs:= []) [(10005,34),(10006,25)] (T.aB _ _) Try.func70 rfl rfl Try.ntmps70 Try.results70 (by simp [AObj.isNest]) (by simp [AObj.isNest]) (by first|(simp [look];done)|(simp [asN];done)|(intro l hl;simp only [asN];repeat (rw [if_neg (fun e=>by subst e;simp [look] at hl)]))) (by first|(simp [look];done)|(simp [asN];done)|(intro l hl;simp only [asN];repeat (rw [if_neg (fun e=>by subst e;simp [look] at hl)]))) (by kernel_rfl) T.mixed fun X hX hP hC bN fH=> ?_)
 repeat' (first|refine Rn.p ?_|(with_reducible apply And.intro)|((first|(refine hK _ ?_;clear hK K)|with_reducible intro K hK|refine Rs.p ?_|((with_reducible first|apply oP|apply oQ);exact rfl)|(refine cR hX hC hP (hI) rfl rfl rfl ?_ ?_ ?_ ?_;iterate 3 (focus (simp only [go_sem,simprocAttr,bR,wU];done)))|(refine bW hX hC hP [(10000,10003),(10001,210)] (hV) rfl rfl rfl ?_ ?_ ?_ ?_ ?_ ?_ ?_ ?_ ?_ ?_ ?_ ?_ ?_ ?_;(focus (simp only [go_sem,simprocAttr,bR,wU];done));(iterate 12 (focus (simp [go_sem,simprocAttr,bR,wU];done)));try simp only [List.map_cons,List.map_nil])|(refine nM hX hC hP 23 (hT) rfl rfl rfl ?_ ?_ (by first|exact ⟨_,_,_,rfl,wz⟩|exact ⟨_,_,_,rfl,wN⟩|exact ⟨_,_,_,rfl,wO⟩|exact ⟨_,_,_,rfl,wS⟩) rfl (by decide) ?_;(iterate 2 (focus (simp only [go_sem,simprocAttr,bR,wU];done)));simp only [go_sem,simprocAttr,bR,wU]));try simp only [go_sem,simprocAttr,bR,wU])|((with_reducible refine oD ?_ ?_);kernel_rfl)|((with_reducible intro h);try simp only [go_sem,simprocAttr,bR,wU] at h)|omega|intro h)
 all_goals (simp [go_sem,simprocAttr,bR,wU,kS])
end Go.Ab
end
section
namespace Go.Ab
set_option maxRecDepth 10000
set_option linter.unusedSectionVars false
namespace UG
variable {G:UG}
structure Bd (G:UG) (s:Sc):Prop where
 nd:(s.stk++s.blk.flatten).Nodup
 lt:∀e∈s.stk++s.blk.flatten,e<G.m
 ne:∀b∈s.blk,b≠ []
 cn:s.cnt+G.gG s≤G.n
theorem dA:∀ {L:List (List Nat)},(∀b∈L,b≠ [])→L.length≤L.flatten.length
 | [],_=>by simp
 |b::L,h=>by
  have h1:=dA (L:=L) fun c hc=>h c (List.mem_cons_of_mem _ hc)
  have h2:=List.length_pos_iff.2 (h b (by simp))
  simp only [List.length_cons,List.flatten_cons,List.length_append]
  omega
theorem Bd.len {s:Sc} (h:G.Bd s):s.stk.length≤G.m∧s.blk.length≤G.m∧s.cnt≤G.n:=by
 have h1:=h.nd.length_le_of_subset (l₂:=List.range G.m) fun e he=>List.mem_range.2 (h.lt e he)
 rw [List.length_range,List.length_append] at h1
 have h2:=dA h.ne
 have h3:=h.cn
 omega
section
variable (hG:G.Ok) {so:List Nat→List Nat} (hsp:∀l,(so l).Perm l)
include hG
structure Cq (G:UG) (s s':Sc):Prop where
 ln:s'.num.length=s.num.length
 kp:∀v,s.nm v≠0→s'.nm v≠0
 cn:s'.cnt+G.gG s'≤s.cnt+G.gG s
theorem Cq.refl (s:Sc):G.Cq s s:=⟨rfl,fun _ h=>h,Nat.le_refl _⟩
theorem Cq.trans {s t u:Sc} (h:G.Cq s t) (k:G.Cq t u):G.Cq s u:=⟨k.ln.trans h.ln,fun v hv=>k.kp v (h.kp v hv),Nat.le_trans k.cn h.cn⟩
theorem Cq.same {s t:Sc} (h1:t.num=s.num) (h2:t.cnt=s.cnt):G.Cq s t:=by
 have e:∀v,t.nm v=s.nm v:=fun v=>by unfold Sc.nm;rw [h1]
 refine ⟨by rw [h1],fun v hv=>by rw [e];exact hv, ?_⟩
 unfold gG
 simp only [e,h2]
 exact Nat.le_refl _
theorem wV {s:Sc} {x:Nat} (hl:s.num.length=G.n) (hx:x<G.n) (h0:s.nm x=0):G.Cq s (iC s x):=by
 have hn:∀v,(iC s x).nm v=if v=x then s.cnt+1 else s.nm v:=fun v=>bh (by rw [hl];exact hx)
 have hk:∀v,s.nm v≠0→(iC s x).nm v≠0:=fun v hv=>by rw [hn];split<;>omega
 refine ⟨by simp [iC],hk, ?_⟩
 have:=mA hk hx h0 (by rw [hn,if_pos rfl];omega)
 show s.cnt+1+_≤_
 omega
theorem mL:∀(f:Nat) (s:Sc) (x:Nat) (aq:Option Nat),s.num.length=G.n→x<G.n→s.nm x=0→G.Cq s (cz G so f x aq s)
 |0,s,x,aq,_,_,_=>Cq.refl hG s
 |f+1,s,x,aq,hl,hx,h0=>by
  have key:∀(L:List Nat) (s':Sc),(∀e∈L,∃a,G.J e x a)→s'.num.length=G.n→G.Cq s' (L.foldl (bP G so (fun y i=>cz G so f y (some i)) x aq) s'):=by
   intro L
   induction L with
   |nil=>intro s' _ _;exact Cq.refl hG s'
   |cons i L ih=>
    intro s' hJ hl'
    obtain ⟨z,hj⟩:=hJ i (by simp)
    have h1:G.Cq s' (bP G so (fun y i=>cz G so f y (some i)) x aq s' i):=by
     unfold bP
     rw [mz hj]
     split
     ·exact Cq.refl hG s'
     ·split
      ·rename_i hz
       have h2:=mL f {s' with stk:=s'.stk++ [i]} z (some i) hl' (hj.lt hG).2.1 hz
       have h3:G.Cq s' {s' with stk:=s'.stk++ [i]} :=Cq.same hG rfl rfl
       have h4:=Cq.trans hG h3 h2
       simp only
       split
       ·exact Cq.trans hG h4 (Cq.same hG rfl rfl)
       ·exact Cq.trans hG h4 (Cq.same hG rfl rfl)
      ·split
       ·exact Cq.same hG rfl rfl
       ·exact Cq.refl hG s'
    exact Cq.trans hG h1 (ih _ (fun e he=>hJ e (List.mem_cons_of_mem _ he)) (by rw [h1.ln];exact hl'))
  have h1:=wV hG hl hx h0
  exact Cq.trans hG h1 (key (G.ends x) (iC s x) (fun e he=>eM.1 he) (by rw [h1.ln];exact hl))
theorem vP (f:Nat) {s:Sc} {x:Nat} {aq:Option Nat} (hl:s.num.length=G.n) (hx:x<G.n) (h0:s.nm x=0) (k:Nat):G.Cq s (((G.ends x).take k).foldl (bP G so (fun y i=>cz G so f y (some i)) x aq) (iC s x)):=by
 have key:∀(L:List Nat) (s':Sc),(∀e∈L,∃a,G.J e x a)→s'.num.length=G.n→G.Cq s' (L.foldl (bP G so (fun y i=>cz G so f y (some i)) x aq) s'):=by
  intro L
  induction L with
  |nil=>intro s' _ _;exact Cq.refl hG s'
  |cons i L ih=>
   intro s' hJ hl'
   obtain ⟨z,hj⟩:=hJ i (by simp)
   have h1:G.Cq s' (bP G so (fun y i=>cz G so f y (some i)) x aq s' i):=by
    unfold bP
    rw [mz hj]
    split
    ·exact Cq.refl hG s'
    ·split
     ·rename_i hz
      have h2:=mL hG (so:=so) f {s' with stk:=s'.stk++ [i]} z (some i) hl' (hj.lt hG).2.1 hz
      have h3:G.Cq s' {s' with stk:=s'.stk++ [i]} :=Cq.same hG rfl rfl
      have h4:=Cq.trans hG h3 h2
      simp only
      split
      ·exact Cq.trans hG h4 (Cq.same hG rfl rfl)
      ·exact Cq.trans hG h4 (Cq.same hG rfl rfl)
     ·split
      ·exact Cq.same hG rfl rfl
      ·exact Cq.refl hG s'
   exact Cq.trans hG h1 (ih _ (fun e he=>hJ e (List.mem_cons_of_mem _ he)) (by rw [h1.ln];exact hl'))
 have h1:=wV hG hl hx h0
 exact Cq.trans hG h1 (key _ (iC s x) (fun e he=>eM.1 (List.mem_of_mem_take he)) (by rw [h1.ln];exact hl))
include hsp
theorem oo (f:Nat) {s:Sc} {y:Nat} {aq:Option Nat} {P:List Nat} (hf:G.gG s≤f+1) (hp:G.Pre s y aq P):∀k,k≤(G.ends y).length→G.Inv s y aq P (fun e=>e∈(G.ends y).take k) (((G.ends y).take k).foldl (bP G so (fun y i=>cz G so f y (some i)) y aq) (iC s y))
 |0,_=>eO hG (fun e a _=>by simp) (lB hG hp)
 |k+1,hk=>by
  have hi:=oo f hf hp k (by omega)
  have hlt:k<(G.ends y).length:=by omega
  obtain ⟨z,hj⟩:=eM.1 (List.getElem_mem hlt)
  have hni:(G.ends y)[k]∉(G.ends y).take k:=fun h=>by
   have b7:=mw (G:=G) (x:=y)
   obtain ⟨j,hj1,hj2⟩:=List.mem_iff_getElem.1 h
   rw [List.length_take] at hj1
   rw [List.getElem_take] at hj2
   have:=(List.getElem_inj (h₀:=by omega) (h₁:=hlt) b7).1 hj2
   omega
  have h1:=ig hG hsp (vis:=fun y i=>cz G so f y (some i)) hp hi (fun i u hk hu=>jv hG hsp f (by
   have h2:=mA (G:=G) (s:=s) (s':=(((G.ends y).take k).foldl (bP G so (fun y i=>cz G so f y (some i)) y aq) (iC s y))) (fun v hv=>by rw [(hi.keep v hv).1];exact hv) hp.hy hp.un (by rw [hi.ny];omega)
   unfold gG at h2 hf ⊢
   exact Nat.le_of_lt_succ (Nat.lt_of_lt_of_le h2 hf)) (ki hG hp hi hk hu)) hj hni
  rw [List.take_add_one,List.getElem?_eq_getElem hlt,Option.toList_some,List.foldl_append]
  exact eO hG (fun e a _=>by rw [List.mem_append,List.mem_singleton]) h1
theorem rX (f:Nat) {s:Sc} {y:Nat} {aq:Option Nat} {k:Nat} (hk:k<(G.ends y).length):((G.ends y).take (k+1)).foldl (bP G so (fun y i=>cz G so f y (some i)) y aq) (iC s y)=bP G so (fun y i=>cz G so f y (some i)) y aq (((G.ends y).take k).foldl (bP G so (fun y i=>cz G so f y (some i)) y aq) (iC s y)) ((G.ends y).getD k 0):=by
 rw [List.take_add_one,List.getElem?_eq_getElem hk,Option.toList_some,List.foldl_append,List.getD_eq_getElem?_getD,List.getElem?_eq_getElem hk]
 rfl
omit hsp in
theorem uy {s s':Sc} {y:Nat} {aq:Option Nat} {P:List Nat} {h:Nat→Prop} (hb:G.Bd s) (hp:G.Pre s y aq P) (hi:G.Inv s y aq P h s') (hc:G.Cq s s'):G.Bd s':=by
 obtain ⟨S,B,h1,h2,h3,h4,h5,h6⟩:=hi.sb
 have hnew:∀e∈S++B.flatten,some e≠aq∧∃d a,s.nm d=0∧G.J e d a:=fun e he=>by
  obtain ⟨g1,d,a,g2,_,g3⟩:=(h4 e).1 he
  exact ⟨g1,d,a,g2.1,g3⟩
 refine ⟨?_,fun e he=> ?_,fun b hb'=> ?_,Nat.le_trans hc.cn hb.cn⟩
 ·rw [h1,h2,List.flatten_append]
  refine (List.Perm.nodup_iff (l₁:=(s.stk++s.blk.flatten)++(S++B.flatten)) ?_).1 ?_
  ·simp only [List.append_assoc]
   exact List.Perm.append_left _ (List.perm_append_comm_assoc _ _ _)
  ·rw [List.nodup_append]
   refine ⟨hb.nd,h3,fun a ha b hb'=> ?_⟩
   rintro rfl
   obtain ⟨g1,d,c,g2,g3⟩:=hnew a hb'
   rcases hp.CR a ha with h7|h7
   ·exact g1 h7
   ·exact h7 d c g3 g2
 ·simp only [h1,h2,List.flatten_append,List.mem_append] at he
  rcases he with (he|he)|(he|he)
  ·exact hb.lt e (by simp [he])
  ·obtain ⟨_,d,c,_,g3⟩:=hnew e (by simp [he]);exact g3.1
  ·exact hb.lt e (List.mem_append.2 (.inr he))
  ·obtain ⟨_,d,c,_,g3⟩:=hnew e (by simp only [List.mem_append];exact .inr he);exact g3.1
 ·rw [h2] at hb'
  rcases List.mem_append.1 hb' with hb'|hb'
  ·exact hb.ne b hb'
  ·obtain ⟨i,_,hi,_⟩:=h6 b hb'
   rintro rfl
   simp at hi
omit hsp in
theorem vQ {s s':Sc} {y:Nat} {aq:Option Nat} {P:List Nat} {h:Nat→Prop} (hp:G.Pre s y aq P) (hi:G.Inv s y aq P h s') (hb:G.Bd s') {i z:Nat} (hj:G.J i y z) (hz:s'.nm z=0):G.Bd {s' with stk:=s'.stk++ [i]} :=by
 have hni:i∉s'.stk++s'.blk.flatten:=fun he=>mD hG hp hi he z y hj.symm hz
 refine ⟨?_,fun e he=> ?_,hb.ne,hb.cn⟩
 ·refine (List.Perm.nodup_iff (l₁:=i::(s'.stk++s'.blk.flatten)) ?_).1 (List.nodup_cons.2 ⟨hni,hb.nd⟩)
  show (i::(s'.stk++s'.blk.flatten)).Perm ((s'.stk++ [i])++s'.blk.flatten)
  rw [List.append_assoc]
  exact List.perm_middle.symm
 ·have he:e∈(s'.stk++ [i])++s'.blk.flatten:=he
  simp only [List.mem_append,List.mem_singleton] at he
  rcases he with (he|rfl)|he
  ·exact hb.lt e (by simp [he])
  ·exact hj.1
  ·exact hb.lt e (List.mem_append.2 (.inr he))
end
end UG
end Go.Ab
end
section
namespace Go.Ab
open Go.Proofs
attribute [local congr] ACall.congr gd.congr Nx.congr
set_option maxRecDepth 20000
set_option maxHeartbeats 16000000
def wW:Option Nat→Int
 |none=> -1
 |some i=>i
theorem x9 {i:Nat} {b:Option Nat} :decide ((i:Int)=wW b)=decide (some i=b):=by
 cases b with
 |none=>simp [wW]
 |some k=>
  rw [Bool.eq_iff_iff,decide_eq_true_eq,decide_eq_true_eq]
  constructor
  ·intro h
   have h':(i:Int)=(k:Int):=h
   have:i=k:=by omega
   rw [this]
  ·intro h
   cases h
   rfl
def aR (g:Gr) (s:UG.Sc) (a b:Nat):List (Nat × AObj):= [(10000, .box (bR g s.cnt (.ref a) (.ref b))),(10001, .own 3 1 (s.num.map rN)),(10002, .own 3 1 (s.low.map rN)),(a, .own 3 1 (s.stk.map rN)),(b, .own 25 1 (s.blk.map kS))]
theorem rY {g:Gr} {x:Nat} (hx:x<g.n.toNat):(((List.range g.n.toNat).map fun x=>(ug g).ends x).map kS).getD x [D.sl 1 []]= [sN ((ug g).ends x)]:=by
 simp [List.getD_eq_getElem?_getD,List.getElem?_range hx,kS]
theorem Ay {n:Nat} :decide ((n:Int)=0)=decide (n=0):=by simp
theorem decLt {a b:Nat} :decide ((a:Int)<(b:Int))=decide (a<b):=by simp
theorem decLe {a b:Nat} :decide ((a:Int)≤(b:Int))=decide (a≤b):=by simp
theorem cF {a b:Nat} :min (a:Int) (b:Int)=((min a b:Nat):Int):=by omega
section
variable (g:Gr) (hm:aN g=true) (hl:aP g=true)
include hm hl
theorem p4 (f:Nat) (ih:∀(s:UG.Sc) (x:Nat) (aq:Option Nat) (P:List Nat),(ug g).gG s≤f→(ug g).Pre s x aq P→(ug g).Bd s→
 Spec Try.prog 40 (Args [.ptr 10000 0,eN x,eN (wW aq)]) (aR g s 10003 10004) (.tup []) (aR g ((ug g).cz dY f x aq s) 10005 10006))
 (s:UG.Sc) (x:Nat) (aq:Option Nat) (P:List Nat) (hf:(ug g).gG s≤f+1) (hp:(ug g).Pre s x aq P) (hb:(ug g).Bd s):
 Spec Try.prog 40 (Args [.ptr 10000 0,eN x,eN (wW aq)]) (aR g s 10003 10004) (.tup []) (aR g ((ug g).cz dY (f+1) x aq s) 10005 10006):=by
 have hn:=dM hm
 have hG:=lG hm hl
 have lX:=hb.len
 have hx:x<g.n.toNat:=hp.hy
 have td:(ug g).ends x=(ug g).ends x:=rfl
 have D7:=hp.ln
 have oT:=hp.ll
 have hgd:=rY (g:=g) hx
 have hpi:=UG.oo hG gq f hf hp
 have cE:=fun k hk=>UG.rX hG gq f (s:=s) (y:=x) (aq:=aq) (k:=k) hk
 have Bi:=UG.vP hG (so:=dY) f (aq:=aq) hp.ln hp.hy hp.un
 have hbd:∀k,k≤((ug g).ends x).length→(ug g).Bd ((((ug g).ends x).take k).foldl ((ug g).bP dY (fun y i=>(ug g).cz dY f y (some i)) x aq) (UG.iC s x)):=fun k hk=>UG.uy hG hb hp (hpi k hk) (Bi k)
 have hres:(ug g).cz dY (f+1) x aq s=(((ug g).ends x).take ((ug g).ends x).length).foldl ((ug g).bP dY (fun y i=>(ug g).cz dY f y (some i)) x aq) (UG.iC s x):=by rw [List.take_length];rfl
 rw [hres]
 have hlen:((ug g).ends x).length≤g.es.length:=by
  have:=List.length_filter_le (fun i=>decide ((ug g).T i=x)||decide ((ug g).H i=x)) (List.range (ug g).m)
  rw [List.length_range] at this
  exact this
 have hin:UG.iC s x=⟨s.num.set x (s.cnt+1),s.low.set x (s.cnt+1),s.cnt+1,s.stk,s.blk⟩:=rfl
 have Bj:(((ug g).ends x).take 0).foldl ((ug g).bP dY (fun y i=>(ug g).cz dY f y (some i)) x aq) (UG.iC s x)=⟨s.num.set x (s.cnt+1),s.low.set x (s.cnt+1),s.cnt+1,s.stk,s.blk⟩:=rfl
 obtain ⟨F,hF⟩:∃F:Nat→UG.Sc,F=fun k=>(((ug g).ends x).take k).foldl ((ug g).bP dY (fun y i=>(ug g).cz dY f y (some i)) x aq) (UG.iC s x):=⟨_,rfl⟩
 have er:∀k,(((ug g).ends x).take k).foldl ((ug g).bP dY (fun y i=>(ug g).cz dY f y (some i)) x aq) (UG.iC s x)=F k:=fun k=>by rw [hF]
 simp only [er] at hpi cE Bi hbd Bj ⊢
 clear hF er hin hres
 obtain ⟨num,low,cnt,stk,blk⟩:=s
 simp only at lX D7 oT Bj
 have sk:=hbd 0 (Nat.zero_le _)
 have sk:=sk.len.2.2
 rw [Bj] at sk
 have hun:num.length=g.n.toNat:=D7
 have v7:low.length=g.n.toNat:=oT
 simp only [aR]
 (refine Spec.yF (C:=T.cfg [72,141,34,25] []) (rs:= []) [(10005,200),(10006,201)] (T.aB _ _) Try.func40 rfl rfl Try.ntmps40 Try.results40 (by simp [AObj.isNest]) (by simp [AObj.isNest]) (by first|(simp [look];done)|(simp [asN];done)|(intro l hl;simp only [asN];repeat (rw [if_neg (fun e=>by subst e;simp [look] at hl)]))) (by first|(simp [look];done)|(simp [asN];done)|(intro l hl;simp only [asN];repeat (rw [if_neg (fun e=>by subst e;simp [look] at hl)]))) (by kernel_rfl) T.mixed fun X hX hP hC bN fH=> ?_)
 repeat' (first|refine Rn.p ?_|(with_reducible apply And.intro)|((first|(refine hK _ ?_;clear hK K)|with_reducible intro K hK|refine Rs.p ?_|((with_reducible first|apply oP|apply oQ);exact rfl));try simp only [go_sem,simprocAttr,aR,bR,hgd,aI,List.length_range])|((with_reducible refine oD ?_ ?_);kernel_rfl)|((with_reducible intro h);try simp only [go_sem,simprocAttr,aR,bR,hgd,aI,List.length_range] at h)|omega|intro h)
 (refine di hX 10000 6 10003 200 rfl rfl rfl (by first|exact .inl rfl|exact .inr rfl) (by decide) (by decide) ?_;simp only [List.set_cons_zero,List.set_cons_succ,go_sem,simprocAttr,aR,bR,hgd,aI,List.length_range])
 (refine di hX 10000 7 10004 201 rfl rfl rfl (by first|exact .inl rfl|exact .inr rfl) (by decide) (by decide) ?_;simp only [List.set_cons_zero,List.set_cons_succ,go_sem,simprocAttr,aR,bR,hgd,aI,List.length_range])
 refine aH (fun k:Nat=>k≤((ug g).ends x).length) (fun k=>⟨[(0, .ptr 10000 0),(1,eN x),(2,eN (wW aq)),(42, .d (sN ((ug g).ends x))),(43,eN ((ug g).ends x).length),(44,eN k)],aR g (F k) 200 201⟩) (fun k=>((ug g).ends x).length - k) 0 (Nat.zero_le _) ?_ ?_
 ·rw [Bj]
  refine Le.of ?_ ?_<;>simp [go_sem,simprocAttr,aR,bR,hgd,aI,List.length_range,rN]
 rintro k hk
 rcases Nat.lt_or_ge k ((ug g).ends x).length with hlt|hge
 rotate_left
 ·have bQ:decide ((k:Int)<(((ug g).ends x).length:Int))=false:=decide_eq_false (by omega)
  obtain rfl:k=((ug g).ends x).length:=by omega
  repeat' (first|refine Rn.p ?_|(with_reducible apply And.intro)|((first|(refine hK _ ?_;clear hK K)|with_reducible intro K hK|refine Rs.p ?_|((with_reducible first|apply oP|apply oQ);exact rfl));try simp only [go_sem,simprocAttr,aR,bR,bQ])|((with_reducible refine oD ?_ ?_);kernel_rfl)|((with_reducible intro h);try simp only [go_sem,simprocAttr,aR,bR,bQ] at h)|omega|intro h)
 have bQ:decide ((k:Int)<(((ug g).ends x).length:Int))=true:=decide_eq_true (by omega)
 obtain ⟨i,hik⟩:∃i,((ug g).ends x).getD k 0=i:=⟨_,rfl⟩
 have hmem:i∈(ug g).ends x:=by
  rw [← hik,List.getD_eq_getElem?_getD,List.getElem?_eq_getElem hlt]
  exact List.getElem_mem hlt
 have hni:i∉((ug g).ends x).take k:=fun h=>by
  have b7:=UG.mw (G:=ug g) (x:=x)
  rw [List.getD_eq_getElem?_getD,List.getElem?_eq_getElem hlt,Option.getD_some] at hik
  obtain ⟨j,hj1,hj2⟩:=List.mem_iff_getElem.1 h
  rw [List.length_take] at hj1
  rw [List.getElem_take, ← hik] at hj2
  have:=(List.getElem_inj (h₀:=by omega) (h₁:=hlt) b7).1 hj2
  omega
 obtain ⟨z,hj⟩:=UG.eM.1 hmem
 have hnk:=cE k hlt
 have Dd:=hbd (k+1) (by omega)
 rw [hik] at hnk
 have hi:=hpi k hk
 have hbk:=hbd k hk
 have hpt:=fun h=>UG.ki hG hp hi hj h
 have Az:=fun h=>UG.vQ hG hp hi hbk hj h
 have A5:=hj.lt hG
 have FG:z<g.n.toNat:=A5.2.1
 have FH:z≠x:=Ne.symm A5.2.2
 have him:i<g.es.length:=hj.1
 have D8:x=(tl g i).toNat∨x=(hd g i).toNat:=by
  have:=hj.2
  simp only [ug] at this
  omega
 have AA:(ug g).gG (F k)<(ug g).gG ⟨num,low,cnt,stk,blk⟩:=UG.mA (fun v hv=>by rw [(hi.keep v hv).1];exact hv) hp.hy hp.un (by rw [hi.ny];omega)
 have D9:(ug g).sr i x=z:=UG.mz hj
 have hO:=fun (c1 c2 c3 c4 c5 c6:D)=>pY g hm c1 c2 c3 c4 c5 c6 i x him D8
 rw [D9] at hO
 unfold UG.bP at hnk
 rw [D9] at hnk
 have fW:=x9 (i:=i) (b:=aq)
 generalize er:F k=s' at hi hbk hnk AA hpt Az
 generalize AB:F (k+1)=s'' at hnk Dd
 obtain ⟨num',low',kD,iQ,kE⟩:=s'
 have gK:num'.length=g.n.toNat:=hi.ln
 have fR:low'.length=g.n.toNat:=hi.ll
 have yN:=hbk.len
 simp only [ug] at yN
 simp only at hnk hpt Az
 have x4:=hO (sNL ((List.range g.n.toNat).map fun x=>(ug g).ends x)) (sN num') (sN low') (.sc (.int .i64 (kD:Int))) (sN iQ) (sNL kE)
 have dZ:decide (((num'.getD z 0:Nat):Int)=0)=decide (num'.getD z 0=0):=Ay
 by_cases hby:some i=aq
 ·rw [if_pos hby] at hnk
  rw [decide_eq_true hby] at fW
  repeat' (first|refine Rn.p ?_|(with_reducible apply And.intro)|((first|(refine hK _ ?_;clear hK K)|with_reducible intro K hK|refine Rs.p ?_|((with_reducible first|apply oP|apply oQ);exact rfl)|(refine cR hX hC hP (x4) rfl rfl rfl ?_ ?_ ?_ ?_;iterate 3 (focus (simp only [go_sem,simprocAttr,aR,bR,bQ,hik,fW,er];done))));try simp only [go_sem,simprocAttr,aR,bR,bQ,hik,fW,er])|((with_reducible refine oD ?_ ?_);kernel_rfl)|((with_reducible intro h);try simp only [go_sem,simprocAttr,aR,bR,bQ,hik,fW,er] at h)|omega|intro h)
  refine ⟨k+1,by omega, ?_,by omega⟩
  (try simp only []);rw [AB,hnk]
  refine Le.of ?_ ?_<;>simp [go_sem,simprocAttr,aR,bR,bQ,hik,fW,er]
 rw [if_neg hby] at hnk
 rw [decide_eq_false hby] at fW
 by_cases hz:num'.getD z 0=0
 rotate_left
 ·rw [decide_eq_false hz] at dZ
  have uX:¬(⟨num',low',kD,iQ,kE⟩:UG.Sc).nm z=0:=hz
  rw [if_neg uX] at hnk
  have hdl:decide (((num'.getD z 0:Nat):Int)<((num'.getD x 0:Nat):Int))=decide (num'.getD z 0<num'.getD x 0):=decLt
  by_cases og:num'.getD z 0<num'.getD x 0
  ·rw [decide_eq_true og] at hdl
   have hlt3:(⟨num',low',kD,iQ,kE⟩:UG.Sc).nm z<(⟨num',low',kD,iQ,kE⟩:UG.Sc).nm x:=og
   rw [if_pos hlt3] at hnk
   have De:s''=⟨num',low'.set x (min (low'.getD x 0) (num'.getD z 0)),kD,iQ++ [i],kE⟩:=hnk
   repeat' (first|(show bF _ (.region 16 _ _) _ _;(refine di hX 10000 6 141 200 rfl rfl rfl (by first|exact .inl rfl|exact .inr rfl) (by decide) (by decide) ?_;simp only [List.set_cons_zero,List.set_cons_succ,go_sem,simprocAttr,aR,bR,bQ,hik,fW,er,dZ,hdl,gK,fR,cF,aI]))|refine Rn.p ?_|(with_reducible apply And.intro)|((first|(refine hK _ ?_;clear hK K)|with_reducible intro K hK|refine Rs.p ?_|((with_reducible first|apply oP|apply oQ);exact rfl)|(refine cR hX hC hP (x4) rfl rfl rfl ?_ ?_ ?_ ?_;iterate 3 (focus (simp only [go_sem,simprocAttr,aR,bR,bQ,hik,fW,er,dZ,hdl,gK,fR,cF,aI];done))));try simp only [go_sem,simprocAttr,aR,bR,bQ,hik,fW,er,dZ,hdl,gK,fR,cF,aI])|((with_reducible refine oD ?_ ?_);kernel_rfl)|((with_reducible intro h);try simp only [go_sem,simprocAttr,aR,bR,bQ,hik,fW,er,dZ,hdl,gK,fR,cF,aI] at h)|omega|intro h)
   refine ⟨k+1,by omega, ?_,by omega⟩
   rw [AB,De]
   refine Le.of ?_ ?_<;>simp [go_sem,simprocAttr,aR,bR,bQ,hik,fW,er,dZ,hdl,gK,fR,cF,aI]
   all_goals rfl
  ·rw [decide_eq_false og] at hdl
   have hlt3:¬(⟨num',low',kD,iQ,kE⟩:UG.Sc).nm z<(⟨num',low',kD,iQ,kE⟩:UG.Sc).nm x:=og
   rw [if_neg hlt3] at hnk
   repeat' (first|refine Rn.p ?_|(with_reducible apply And.intro)|((first|(refine hK _ ?_;clear hK K)|with_reducible intro K hK|refine Rs.p ?_|((with_reducible first|apply oP|apply oQ);exact rfl)|(refine cR hX hC hP (x4) rfl rfl rfl ?_ ?_ ?_ ?_;iterate 3 (focus (simp only [go_sem,simprocAttr,aR,bR,bQ,hik,fW,er,dZ,hdl,gK,fR,cF,aI];done))));try simp only [go_sem,simprocAttr,aR,bR,bQ,hik,fW,er,dZ,hdl,gK,fR,cF,aI])|((with_reducible refine oD ?_ ?_);kernel_rfl)|((with_reducible intro h);try simp only [go_sem,simprocAttr,aR,bR,bQ,hik,fW,er,dZ,hdl,gK,fR,cF,aI] at h)|omega|intro h)
   refine ⟨k+1,by omega, ?_,by omega⟩
   (try simp only []);rw [AB,hnk]
   refine Le.of ?_ ?_<;>simp [go_sem,simprocAttr,aR,bR,bQ,hik,fW,er,dZ,hdl,gK,fR,cF,aI]
 rw [decide_eq_true hz] at dZ
 have uX:(⟨num',low',kD,iQ,kE⟩:UG.Sc).nm z=0:=hz
 rw [if_pos uX] at hnk
 have Df:=hpt uX
 have hbz:=Az uX
 have hfz:(ug g).gG ⟨num',low',kD,iQ++ [i],kE⟩≤f:=Nat.le_of_lt_succ (Nat.lt_of_lt_of_le AA hf)
 have hV:=ih ⟨num',low',kD,iQ++ [i],kE⟩ z (some i) (x::P) hfz Df hbz
 have AD:=UG.jv hG gq f hfz Df
 have mC:=UG.uy hG hbz Df AD (UG.mL hG f _ z (some i) gK FG uX)
 rw [show wW (some i)=(i:Int) from rfl] at hV
 generalize (ug g).cz dY f z (some i) ⟨num',low',kD,iQ++ [i],kE⟩=s1 at hV AD mC hnk
 obtain ⟨iR,bZ,oq,ot,p5⟩:=s1
 have iB:iR.length=g.n.toNat:=AD.ln
 have hm2:bZ.length=g.n.toNat:=AD.ll
 have FI:=mC.len
 simp only [ug] at FI
 have hi1:i∈ot:=by
  obtain ⟨S,B,h1,_⟩:=AD.sb
  simp only at h1
  rw [h1]
  simp
 have cq:iQ.map rN++ [[D.sc (.int .i64 (i:Int))]]=(iQ++ [i]).map rN:=by simp [rN]
 have bf:(bZ.set x (min (bZ.getD x 0) (bZ.getD z 0))).getD z 0=bZ.getD z 0:=by
  rw [UG.bh (by omega),if_neg FH]
 have jb:(if (⟨iR,bZ.set x (min (bZ.getD x 0) (bZ.getD z 0)),oq,ot,p5⟩:UG.Sc).nm x≤(⟨iR,bZ.set x (min (bZ.getD x 0) (bZ.getD z 0)),oq,ot,p5⟩:UG.Sc).lw z then UG.fm dY ⟨iR,bZ.set x (min (bZ.getD x 0) (bZ.getD z 0)),oq,ot,p5⟩ i else ⟨iR,bZ.set x (min (bZ.getD x 0) (bZ.getD z 0)),oq,ot,p5⟩)=s'':=hnk.symm
 have cE:(⟨iR,bZ.set x (min (bZ.getD x 0) (bZ.getD z 0)),oq,ot,p5⟩:UG.Sc).nm x=iR.getD x 0:=rfl
 have hlz:(⟨iR,bZ.set x (min (bZ.getD x 0) (bZ.getD z 0)),oq,ot,p5⟩:UG.Sc).lw z=bZ.getD z 0:=bf
 rw [cE,hlz] at jb
 have hdc:decide (((iR.getD x 0:Nat):Int)≤((bZ.getD z 0:Nat):Int))=decide (iR.getD x 0≤bZ.getD z 0):=decLe
 clear hnk
 by_cases hc:iR.getD x 0≤bZ.getD z 0
 ·rw [if_pos hc] at jb
  rw [decide_eq_true hc] at hdc
  have Dg:=pZ g ⟨iR,bZ.set x (min (bZ.getD x 0) (bZ.getD z 0)),oq,ot,p5⟩ i hi1 (by simp only;omega) (by simp only;omega)
  have hc1:s''.cnt=oq:=by rw [← jb];rfl
  have x2:s''.num=iR:=by rw [← jb];rfl
  have FJ:s''.low=bZ.set x (min (bZ.getD x 0) (bZ.getD z 0)):=by rw [← jb];rfl
  rw [jb] at Dg
  repeat' (first|(show bF _ (.region 16 _ _) _ _;(refine di hX 10000 6 204 200 rfl rfl rfl (by first|exact .inl rfl|exact .inr rfl) (by decide) (by decide) ?_;simp only [List.set_cons_zero,List.set_cons_succ,go_sem,simprocAttr,aR,bR,bQ,hik,fW,er,dZ,hdc,gK,fR,iB,hm2,cF,aI,cq,bf]);(refine di hX 10000 7 205 201 rfl rfl rfl (by first|exact .inl rfl|exact .inr rfl) (by decide) (by decide) ?_;simp only [List.set_cons_zero,List.set_cons_succ,go_sem,simprocAttr,aR,bR,bQ,hik,fW,er,dZ,hdc,gK,fR,iB,hm2,cF,aI,cq,bf]))|refine Rn.p ?_|(with_reducible apply And.intro)|((first|(refine hK _ ?_;clear hK K)|with_reducible intro K hK|refine Rs.p ?_|((with_reducible first|apply oP|apply oQ);exact rfl)|(refine cR hX hC hP (x4) rfl rfl rfl ?_ ?_ ?_ ?_;iterate 3 (focus (simp only [go_sem,simprocAttr,aR,bR,bQ,hik,fW,er,dZ,hdc,gK,fR,iB,hm2,cF,aI,cq,bf];done)))|(refine bW hX hC hP [(10000,10000),(10001,10001),(10002,10002),(10003,72),(10004,201),(10005,202),(10006,203)] (hV) rfl rfl rfl ?_ ?_ ?_ ?_ ?_ ?_ ?_ ?_ ?_ ?_ ?_ ?_ ?_ ?_;(focus (simp only [go_sem,simprocAttr,aR,bR,bQ,hik,fW,er,dZ,hdc,gK,fR,iB,hm2,cF,aI,cq,bf];done));(iterate 12 (focus (simp [go_sem,simprocAttr,aR,bR,bQ,hik,fW,er,dZ,hdc,gK,fR,iB,hm2,cF,aI,cq,bf];done)));try simp only [List.map_cons,List.map_nil])|(refine bW hX hC hP [(10000,10000),(10001,10001),(10002,10002),(10003,202),(10004,203),(10005,204),(10006,205)] (Dg) rfl rfl rfl ?_ ?_ ?_ ?_ ?_ ?_ ?_ ?_ ?_ ?_ ?_ ?_ ?_ ?_;(focus (simp only [go_sem,simprocAttr,aR,bR,bQ,hik,fW,er,dZ,hdc,gK,fR,iB,hm2,cF,aI,cq,bf];done));(iterate 12 (focus (simp [go_sem,simprocAttr,aR,bR,bQ,hik,fW,er,dZ,hdc,gK,fR,iB,hm2,cF,aI,cq,bf];done)));try simp only [List.map_cons,List.map_nil]));try simp only [go_sem,simprocAttr,aR,bR,bQ,hik,fW,er,dZ,hdc,gK,fR,iB,hm2,cF,aI,cq,bf])|((with_reducible refine oD ?_ ?_);kernel_rfl)|((with_reducible intro h);try simp only [go_sem,simprocAttr,aR,bR,bQ,hik,fW,er,dZ,hdc,gK,fR,iB,hm2,cF,aI,cq,bf] at h)|omega|intro h)
  refine ⟨k+1,by omega, ?_,by omega⟩
  rw [AB]
  refine Le.of ?_ ?_<;>simp [go_sem,simprocAttr,aR,bR,bQ,hik,fW,er,dZ,hdc,gK,fR,iB,hm2,cF,aI,cq,bf,hc1,x2,FJ]
 ·rw [if_neg hc] at jb
  rw [decide_eq_false hc] at hdc
  repeat' (first|(show bF _ (.region 16 _ _) _ _;(refine di hX 10000 6 202 200 rfl rfl rfl (by first|exact .inl rfl|exact .inr rfl) (by decide) (by decide) ?_;simp only [List.set_cons_zero,List.set_cons_succ,go_sem,simprocAttr,aR,bR,bQ,hik,fW,er,dZ,hdc,gK,fR,iB,hm2,cF,aI,cq,bf]);(refine di hX 10000 7 203 201 rfl rfl rfl (by first|exact .inl rfl|exact .inr rfl) (by decide) (by decide) ?_;simp only [List.set_cons_zero,List.set_cons_succ,go_sem,simprocAttr,aR,bR,bQ,hik,fW,er,dZ,hdc,gK,fR,iB,hm2,cF,aI,cq,bf]))|refine Rn.p ?_|(with_reducible apply And.intro)|((first|(refine hK _ ?_;clear hK K)|with_reducible intro K hK|refine Rs.p ?_|((with_reducible first|apply oP|apply oQ);exact rfl)|(refine cR hX hC hP (x4) rfl rfl rfl ?_ ?_ ?_ ?_;iterate 3 (focus (simp only [go_sem,simprocAttr,aR,bR,bQ,hik,fW,er,dZ,hdc,gK,fR,iB,hm2,cF,aI,cq,bf];done)))|(refine bW hX hC hP [(10000,10000),(10001,10001),(10002,10002),(10003,72),(10004,201),(10005,202),(10006,203)] (hV) rfl rfl rfl ?_ ?_ ?_ ?_ ?_ ?_ ?_ ?_ ?_ ?_ ?_ ?_ ?_ ?_;(focus (simp only [go_sem,simprocAttr,aR,bR,bQ,hik,fW,er,dZ,hdc,gK,fR,iB,hm2,cF,aI,cq,bf];done));(iterate 12 (focus (simp [go_sem,simprocAttr,aR,bR,bQ,hik,fW,er,dZ,hdc,gK,fR,iB,hm2,cF,aI,cq,bf];done)));try simp only [List.map_cons,List.map_nil])|(refine bW hX hC hP [(10000,10000),(10001,10001),(10002,10002),(10003,202),(10004,203),(10005,204),(10006,205)] (Dg) rfl rfl rfl ?_ ?_ ?_ ?_ ?_ ?_ ?_ ?_ ?_ ?_ ?_ ?_ ?_ ?_;(focus (simp only [go_sem,simprocAttr,aR,bR,bQ,hik,fW,er,dZ,hdc,gK,fR,iB,hm2,cF,aI,cq,bf];done));(iterate 12 (focus (simp [go_sem,simprocAttr,aR,bR,bQ,hik,fW,er,dZ,hdc,gK,fR,iB,hm2,cF,aI,cq,bf];done)));try simp only [List.map_cons,List.map_nil]));try simp only [go_sem,simprocAttr,aR,bR,bQ,hik,fW,er,dZ,hdc,gK,fR,iB,hm2,cF,aI,cq,bf])|((with_reducible refine oD ?_ ?_);kernel_rfl)|((with_reducible intro h);try simp only [go_sem,simprocAttr,aR,bR,bQ,hik,fW,er,dZ,hdc,gK,fR,iB,hm2,cF,aI,cq,bf] at h)|omega|intro h)
  refine ⟨k+1,by omega, ?_,by omega⟩
  rw [AB, ← jb]
  refine Le.of ?_ ?_<;>simp [go_sem,simprocAttr,aR,bR,bQ,hik,fW,er,dZ,hdc,gK,fR,iB,hm2,cF,aI,cq,bf]
theorem kF:∀(f:Nat) (s:UG.Sc) (x:Nat) (aq:Option Nat) (P:List Nat),(ug g).gG s≤f→(ug g).Pre s x aq P→(ug g).Bd s→
 Spec Try.prog 40 (Args [.ptr 10000 0,eN x,eN (wW aq)]) (aR g s 10003 10004) (.tup []) (aR g ((ug g).cz dY f x aq s) 10005 10006)
 |0,s,x,aq,P,hf,hp,hb=>by
  exfalso
  have h1:(ug g).gG s≠0:=by
   unfold UG.gG
   intro h
   rw [List.countP_eq_zero] at h
   exact h x (List.mem_range.2 hp.hy) (decide_eq_true hp.un)
  omega
 |f+1,s,x,aq,P,hf,hp,hb=>p4 g hm hl f (kF f) s x aq P hf hp hb
end
end Go.Ab
end
