/- A part of the proof. -/
import Derived.Shelf.SlSortCmp.NoneTotal
import Derived.Test.YtameldglfobjkaaL5P14
set_option linter.unusedSimpArgs false
set_option linter.unusedVariables false
section
namespace Go.Ab
open Go.Proofs Go.RowKit Go.Shelf Go.Sort
set_option maxRecDepth 10000
theorem pR {α:Type} {R:α→α→Prop} {l m:List α} (hp:l.Perm m) (ha:∀a b,a∈l→b∈l→R a b→R b a→a=b) (h1:l.Pairwise R) (h2:m.Pairwise R):l=m:=by
 induction l generalizing m with
 |nil=>exact hp.symm.eq_nil.symm
 |cons a l ih=>
  cases m with
  |nil=>exact absurd hp.length_eq (by simp)
  |cons b m=>
   obtain ⟨a1,a2⟩:=List.pairwise_cons.1 h1
   obtain ⟨b1,b2⟩:=List.pairwise_cons.1 h2
   have hab:a=b:=by
    refine Classical.byContradiction fun hne=> ?_
    have ma:a∈b::m:=hp.mem_iff.1 (by simp)
    have mb:b∈a::l:=hp.mem_iff.2 (by simp)
    have ma:a∈m:=(List.mem_cons.1 ma).elim (fun e=>absurd e hne) id
    have FQ:b∈l:=(List.mem_cons.1 mb).elim (fun e=>absurd e.symm hne) id
    exact hne (ha a b (by simp) mb (a1 b FQ) (b1 a ma))
   subst hab
   rw [ih ((List.perm_cons a).1 hp) (fun c d hc hd=>ha c d (by simp [hc]) (by simp [hd])) a2 b2]
structure x8 (cf:Int→Int→Int) (l l':List Int):Prop where
 perm:l.Perm l'
 nd:l.Nodup
 ord:l'.Pairwise fun x y=>cf x y<0∧¬cf y x<0
 Ep:∀x∈l,¬cf x x<0
section
variable {cf:Int→Int→Int} {l l':List Int} (S:x8 cf l l')
include S
theorem x8.idx {x:Int} (h:x∈l):∃i,i<l'.length∧l'.getD i 0=x:=by
 obtain ⟨i,hi,e⟩:=List.mem_iff_getElem.1 (S.perm.mem_iff.1 h)
 exact ⟨i,hi,by rw [List.getD_eq_getElem?_getD,List.getElem?_eq_getElem hi];exact e⟩
theorem x8.lt {i j:Nat} (hi:i<l'.length) (hj:j<l'.length):cf (l'.getD i 0) (l'.getD j 0)<0↔i<j:=by
 rw [List.getD_eq_getElem?_getD,List.getElem?_eq_getElem hi,List.getD_eq_getElem?_getD,List.getElem?_eq_getElem hj,Option.getD_some,Option.getD_some]
 rcases Nat.lt_trichotomy i j with h|h|h
 ·have:=List.pairwise_iff_getElem.1 S.ord i j hi hj h
  exact ⟨fun _=>h,fun _=>this.1⟩
 ·subst h
  have:=S.Ep (l'[i]) (S.perm.mem_iff.2 (List.getElem_mem hi))
  exact ⟨fun h=>absurd h this,fun h=>by omega⟩
 ·have:=List.pairwise_iff_getElem.1 S.ord j i hj hi h
  exact ⟨fun h=>absurd h this.2,fun h=>by omega⟩
theorem x8.swo:SWO (ltOf fun x y: {x // x∈l} =>cf x.1 y.1) where
 irrefl x:=decide_eq_false (S.Ep x.1 x.2)
 trans x y z h1 h2:=by
  obtain ⟨i,hi,ei⟩:=S.idx x.2
  obtain ⟨j,hj,ej⟩:=S.idx y.2
  obtain ⟨k,hk,ek⟩:=S.idx z.2
  simp only [ltOf,decide_eq_true_eq, ← ei, ← ej, ← ek,S.lt hi hj,S.lt hj hk,S.lt hi hk] at h1 h2 ⊢
  omega
 ntrans x y z h1 h2:=by
  obtain ⟨i,hi,ei⟩:=S.idx x.2
  obtain ⟨j,hj,ej⟩:=S.idx y.2
  obtain ⟨k,hk,ek⟩:=S.idx z.2
  simp only [ltOf,decide_eq_false_iff_not, ← ei, ← ej, ← ek,S.lt hi hj,S.lt hj hk,S.lt hi hk] at h1 h2 ⊢
  omega
theorem x8.eq {d d':Array {x // x∈l}} [Inhabited {x // x∈l}] (hd:d.toList=l.attach) (hp:PermIn 0 d.size d d') (hs:SortedIn (ltOf fun x y: {x // x∈l} =>cf x.1 y.1) 0 d.size d'):d'.toList.map (·.1)=l':=by
 obtain ⟨h1,_,h3⟩:=hp
 have e1:d'.extract 0 d.size=d':=by rw [← h1];exact Array.extract_size
 have e2:d.extract 0 d.size=d:=Array.extract_size
 rw [e1,e2,hd] at h3
 have h4:(d'.toList.map (·.1)).Perm l:=by
  have:=h3.map (fun x: {x // x∈l} =>x.1)
  rwa [List.attach_map_subtype_val] at this
 refine pR (R:=fun x y=>¬cf y x<0) (h4.trans S.perm) (fun a b ha hb r1 r2=> ?_) ?_ (S.ord.imp fun h=>h.2)
 ·obtain ⟨i,hi,ei⟩:=S.idx (h4.mem_iff.1 ha)
  obtain ⟨j,hj,ej⟩:=S.idx (h4.mem_iff.1 hb)
  rw [← ei, ← ej,S.lt hj hi] at r1
  rw [← ei, ← ej,S.lt hi hj] at r2
  rw [← ei, ← ej,show i=j by omega]
 ·rw [List.pairwise_map,List.pairwise_iff_getElem]
  intro i j hi hj hij
  have:=hs i j (by omega) hij (by simpa [h1] using hj)
  rw [getElem!_pos d' j (by simpa using hj),getElem!_pos d' i (by simpa using hi)] at this
  simpa [ltOf] using this
end
def Er (P:Program) (g:Nat) (cb:Array Value) (cf:Int→Int→Int) (l:List Int) (blk:Nat) (w:World):Prop:=
 ∀W:World,w.heap.size≤W.heap.size→(∀b,b<w.heap.size→b≠blk→W.heap[b]? =w.heap[b]?)→∀x,x∈l→∀y,y∈l→
  Calls P g (#[.int .i64 x, .int .i64 y]++cb) W fun e w'=>e= .returned (.int .i64 (cf x y))∧∃q os',w'=grow (W.drewN q) os'
theorem fT {α:Type} [Inhabited α] (enc:α→Value) (w:World) (blk m:Nat) (dk:Array α) (os:Array Obj) {b:Nat} (hb:b<w.heap.size) (hne:b≠blk):(sortWorld enc w blk 0 m dk os).heap[b]? =w.heap[b]? :=by
 show ((w.heap.modify blk _)++os)[b]? =_
 rw [Array.getElem?_append_left (by simpa using hb),Array.getElem?_modify,if_neg (by omega)]
theorem fU {α:Type} [Inhabited α] (enc:α→Value) (w:World) (blk m:Nat) (dk:Array α) (os:Array Obj):w.heap.size≤(sortWorld enc w blk 0 m dk os).heap.size:=by
 show _≤((w.heap.modify blk _)++os).size
 simp
theorem kZ {α:Type} [Inhabited α] (enc:α→Value) (w:World) (blk m:Nat) (dk:Array α) (os:Array Obj) {cur:Array Value} {e:TypeId} {fr:Nat × Nat} (hb:w.heap[blk]? =some (.cells cur e fr)):
 (sortWorld enc w blk 0 m dk os).heap[blk]? =some (.cells (putCells enc 0 dk cur) e fr):=by
 have hlt:blk<w.heap.size:=(Array.getElem?_eq_some_iff.1 hb).1
 show ((w.heap.modify blk _)++os)[blk]? =_
 rw [Array.getElem?_append_left (by simpa using hlt),Array.getElem?_modify,if_pos rfl,hb]
 rfl
end Go.Ab
end
section
namespace Go.Ab
open Go.Proofs Go.RowKit Go.Shelf Go.Sort
set_option maxRecDepth 10000
theorem Ap {w:World} {z:Nat→Nat} {v:Value} {l:List Int} (h:Rd w z v (sI l)) (hne:l≠ []):∃b off cap,v= .slice (some ⟨b,off,none⟩) l.length cap∧b<w.heap.size∧0<z b∧∀j,j<l.length→w.cell? ⟨b,off+j,none⟩=some (.int .i64 (l.getD j 0)):=by
 generalize hx:sI l=x at h
 cases h with
 |sc v h=>cases hx
 |pt b off cells vs hz hc hr=>cases hx
 |nil p sz=>
  simp only [sI,D.sl.injEq,List.map_eq_nil_iff] at hx
  exact absurd hx.2 hne
 |sl b off n cap sz rows vs hn hsz hz hcap hc hr=>
  simp only [sI,D.sl.injEq] at hx
  obtain ⟨rfl,rfl⟩:=hx
  rw [List.length_map] at hn
  subst hn
  have hpos:0<l.length:=List.length_pos_iff.2 hne
  refine ⟨b,off,cap,rfl, ?_,by omega,fun j hj=> ?_⟩
  ·have:=hc 0 (by omega)
   by_cases hlt:b<w.heap.size
   ·exact hlt
   ·exfalso
    simp [World.cell?,Array.getElem?_eq_none (Nat.le_of_not_lt hlt)] at this
  ·have h1:=hc j (by omega)
   have h2:=hr j 0 (rI l[j]) (.sc (.int .i64 l[j])) (by simp [List.getElem?_eq_getElem hj]) rfl
   have h3:=tY h2
   simp only [Nat.mul_one,Nat.add_zero] at h3
   rw [h1,h3]
   simp [List.getD_eq_getElem?_getD,List.getElem?_eq_getElem hj]
end Go.Ab
end
section
namespace Go.Ab
open Go.Proofs
attribute [local congr] ACall.congr gd.congr Nx.congr
set_option maxRecDepth 10000
set_option maxHeartbeats 8000000
def qB (f:Edge→Int) (es:List Edge) (k:Nat) (x:Nat):List Int:=((List.range k).filter fun i=>decide (f (es.getD i (0,0))=(x:Int))).map Int.ofNat
def Es (f:Edge→Int) (es:List Edge) (n k:Nat):List (List (List D)):=(List.range n).map fun x=>(qB f es k x).map rI
def sL (ls:List (List Int)):D:= .sl 1 (ls.map fun l=> [sI l])
def oa (f:Edge→Int) (g:Gr):List (List Int):=(List.range g.n.toNat).map (qB f g.es g.es.length)
def vw (g:Gr):D:= .pt [.sc (.int .i64 g.n),sE g.es,sL (oa (·.1) g),sL (oa (·.2) g)]
theorem eo {g:Gr} (h:aQ g=true):0<g.n∧g.n≤64∧g.es.length≤128:=by
 simp [aQ] at h;omega
theorem fm {g:Gr} (h:aQ g=true) {k:Nat} (hk:k<g.es.length):(0≤(g.es.getD k (0,0)).1∧(g.es.getD k (0,0)).1<g.n)∧(0≤(g.es.getD k (0,0)).2∧(g.es.getD k (0,0)).2<g.n):=by
 have h2:=nW (g:=g) hk
 rw [h] at h2
 have h3:¬iX g (g.es.getD k (0,0))=true:=fun e=>by simpa using h2 e
 simp only [iX,nV,Bool.or_eq_true,decide_eq_true_eq] at h3
 omega
end Go.Ab
end
section
namespace Go.Ab
open Go.Proofs
attribute [local congr] ACall.congr gd.congr Nx.congr
set_option maxRecDepth 10000
def tl (g:Gr) (i:Nat):Int:=(g.es.getD i (0,0)).1
def hd (g:Gr) (i:Nat):Int:=(g.es.getD i (0,0)).2
def wt (g:Gr) (out:List Int) (y:Nat):Int:=
 if (y:Int)∈out then -1 else (((List.range g.es.length).countP fun i=>decide (hd g i=(y:Int))&& !decide (tl g i∈out):Nat):Int)
def x9 (g:Gr) (out:List Int):List Int:=(List.range g.n.toNat).map (wt g out)
def Aq (g:Gr):Nat→List Int→List Int
 |0,out=>out
 |f+1,out=>if iY (x9 g out) 0<0 then out else Aq g f (out++ [iY (x9 g out) 0])
def ua (g:Gr):List Int:=Aq g g.n.toNat []
structure iZ (g:Gr) (out:List Int):Prop where
 lo:∀x∈out,0≤x∧x<g.n
 back:∀i,i<g.es.length→hd g i∈out→tl g i∈out
 fuel:out.length+(List.range g.n.toNat).countP (fun y:Nat=> !decide ((y:Int)∈out))=g.n.toNat
theorem wts_length {g:Gr} {out:List Int} :(x9 g out).length=g.n.toNat:=by simp [x9]
theorem fV {p:Nat→Bool} {x:Nat} (hx:p x=true):∀ {n:Nat},x<n→(List.range n).countP (fun y=>p y&& !decide (y=x))+1=(List.range n).countP p
 |0,h=>by omega
 |n+1,h=>by
  rw [List.range_succ,List.countP_append,List.countP_append]
  by_cases Ar:x=n
  ·subst Ar
   have:(List.range x).countP (fun y=>p y&& !decide (y=x))=(List.range x).countP p:=by
    refine List.countP_congr fun y hy=> ?_
    have:y≠x:=by have:=List.mem_range.1 hy;omega
    simp [this]
   rw [this]
   simp [List.countP_cons,hx]
  ·have:=fV hx (n:=n) (by omega)
   have hn:n≠x:=fun e=>Ar e.symm
   simp only [List.countP_cons,List.countP_nil,hn,decide_false,Bool.not_false,Bool.and_true]
   omega
theorem iZ.nil (g:Gr):iZ g []:=⟨by simp,by simp,by rw [List.countP_eq_length_filter,List.filter_eq_self.2 (by simp)];simp⟩
theorem iZ.next {g:Gr} (hm:aQ g=true) {out:List Int} (h:iZ g out) {x:Nat} (hx:x<g.n.toNat) (hw:wt g out x=0):iZ g (out++ [(x:Int)])∧(x:Int)∉out∧(∀i,i<g.es.length→hd g i=x→tl g i∈out):=by
 have xW:(x:Int)∉out:=fun hi=>by simp [wt,hi] at hw
 have hb:∀i,i<g.es.length→hd g i=x→tl g i∈out:=by
  intro i hi he
  simp only [wt,xW,if_false] at hw
  have:=List.countP_eq_zero.1 (Int.ofNat.inj hw) i (List.mem_range.2 hi)
  simpa [he] using this
 refine ⟨⟨?_, ?_, ?_⟩,xW,hb⟩
 ·intro y hy
  rcases List.mem_append.1 hy with hy|hy
  ·exact h.lo y hy
  ·simp at hy;omega
 ·intro i hi hh
  rcases List.mem_append.1 hh with hh|hh
  ·exact List.mem_append_left _ (h.back i hi hh)
  ·simp at hh
   exact List.mem_append_left _ (hb i hi hh)
 ·have h1:=h.fuel
  have h2:=fV (p:=fun y:Nat=> !decide ((y:Int)∈out)) (x:=x) (by simp [xW]) hx
  have h3:(List.range g.n.toNat).countP (fun y:Nat=> !decide ((y:Int)∈out++ [(x:Int)]))=(List.range g.n.toNat).countP (fun y:Nat=>(!decide ((y:Int)∈out))&& !decide (y=x)):=by
   refine List.countP_congr fun y _=> ?_
   simp;omega
  rw [h3,List.length_append,List.length_singleton]
  omega
def Dm (g:Gr) (x:Nat):List Int:=qB (·.1) g.es g.es.length x
def FR (g:Gr) (x:Nat):List Int:=qB (·.2) g.es g.es.length x
def FT (g:Gr) (out:List Int) (x j y:Nat):Int:=
 if (y:Int)∈out++ [(x:Int)] then -1 else (((List.range g.es.length).countP fun i=>decide (hd g i=(y:Int))&& !decide (tl g i∈out):Nat):Int) - (((Dm g x).take j).countP fun e=>decide (hd g e.toNat=(y:Int)):Nat)
def As (g:Gr) (out:List Int) (x j:Nat):List Int:=(List.range g.n.toNat).map (FT g out x j)
theorem wtps_length {g:Gr} {out:List Int} {x j:Nat} :(As g out x j).length=g.n.toNat:=by simp [As]
def BK (f:Edge→Int) (g:Gr):List (List D):=(oa f g).map fun l=> [sI l]
theorem vwl_length {f:Edge→Int} {g:Gr} :(BK f g).length=g.n.toNat:=by simp [BK,oa]
def FU (g:Gr):D:= .pt [.sc (.int .i64 g.n),sE g.es, .sl 1 (BK (·.1) g), .sl 1 (BK (·.2) g)]
attribute [go_sem] FU wtps_length wts_length vwl_length
def left (g:Gr) (out:List Int):Nat:=(List.range g.n.toNat).countP (fun y:Nat=> !decide ((y:Int)∈out))
end Go.Ab
end
section
namespace Go.Ab
open Go.Proofs
attribute [local congr] ACall.congr gd.congr Nx.congr
set_option maxRecDepth 10000
def Et (l:List Int) (k:Nat):List Int:=(List.range l.length).map fun p=>if p<k∨l.length - 1<p+k then l.getD (l.length - 1 - p) 0 else l.getD p 0
def ya:List Int→Int
 | []=>0
 |a::r=>r.foldl min a
end Go.Ab
end
section
namespace Go.Ab
open Go.Proofs
attribute [local congr] ACall.congr gd.congr Nx.congr
set_option maxRecDepth 10000
def vL (ls:List (List Int)):List (List D):=ls.map fun l=> [sI l]
theorem vL_length {ls:List (List Int)} :(vL ls).length=ls.length:=by simp [vL]
attribute [go_sem] vL_length
def Au (ls:List (List Int)) (k:Nat):List Int:=((List.range k).filter fun x=>decide ((ls.getD x []).length=0)).map Int.ofNat
def uc (f:Edge→Int) (g:Gr):List Int:=Au (oa f g) g.n.toNat
end Go.Ab
end
section
namespace Go.Ab
open Go.Proofs
attribute [local congr] ACall.congr gd.congr Nx.congr
set_option maxRecDepth 10000
def Av (g:Gr) (ws:List Int) (b:Int) (e:Int):Int:=if 0<ws.getD (tl g e.toNat).toNat 0∧(b<0∨tl g e.toNat<b) then tl g e.toNat else b
def Aw (g:Gr) (ws:List Int) (es:List Int):Int:=es.foldl (Av g ws) (-1)
def Ax (g:Gr) (ws:List Int) (at_:Int):Int:=Aw g ws (FR g at_.toNat)
def Ay (g:Gr) (ws:List Int):Nat→List Int→Int→List Int × Int
 |0,way,at_=>(way,at_)
 |f+1,way,at_=>if at_<0∨at_∈way then (way,at_) else Ay g ws f (way++ [at_]) (Ax g ws at_)
def vZ (g:Gr):List Int × Int:=Ay g (x9 g (ua g)) g.n.toNat [] (dc (fun n=>decide (0<n)) (x9 g (ua g)))
def Az (l:List Int):List Int:=l.drop (iY l (ya l)).toNat++l.take (iY l (ya l)).toNat
def Dp (g:Gr):List Int:=if (vZ g).2<0 then [] else Az ((vZ g).1.drop (iY (vZ g).1 (vZ g).2).toNat).reverse
structure Way (g:Gr) (way:List Int):Prop where
 lo:∀x∈way,0≤x∧x<g.n
 fuel:way.length+left g way=g.n.toNat
theorem ud {g:Gr} :left g []=g.n.toNat:=by
 have:=(iZ.nil g).fuel
 rw [List.length_nil,Nat.zero_add] at this
 exact this
theorem ue {g:Gr} {way:List Int} {a:Nat} (ha:a<g.n.toNat) (hn:(a:Int)∉way):left g way=left g (way++ [(a:Int)])+1:=by
 unfold left
 rw [← fV (p:=fun y:Nat=> !decide ((y:Int)∈way)) (x:=a) (by simp [hn]) ha]
 congr 1
 refine List.countP_congr fun y _=> ?_
 simp;omega
theorem Way.nil (g:Gr):Way g []:=⟨by simp,by rw [ud];simp⟩
theorem Way.next {g:Gr} {way:List Int} {a:Nat} (h:Way g way) (ha:a<g.n.toNat) (hn:(a:Int)∉way):Way g (way++ [(a:Int)]):=by
 refine ⟨fun x hx=> ?_, ?_⟩
 ·rcases List.mem_append.1 hx with hx|hx
  ·exact h.lo x hx
  ·simp at hx;omega
 ·have h1:=h.fuel
  have h2:=ue ha hn
  rw [List.length_append,List.length_singleton];omega
end Go.Ab
end
section
namespace Go.Ab
open Go.Proofs
attribute [local congr] ACall.congr gd.congr Nx.congr
set_option maxRecDepth 10000
def eF (f:Int × Int × List Int):AV:= .agg [eN f.1,eN f.2.1, .d (sI f.2.2)]
attribute [go_sem] eF
def xk (g:Gr):Int:=dc (fun e:Edge=>decide (e.1=e.2)) g.es
def yb (g:Gr) (i:Nat):Bool:=decide (g.es.getD i (0,0)∈g.es.take i)
def uf (g:Gr):Int:=dc (yb g) (List.range g.es.length)
def xl (g:Gr) (Eu bare:List Int):Int × Int × List Int:=
 if aQ g=false then (1,0, []) else
 if 0≤xk g then (13,xk g, []) else
 if 0≤uf g then (14,uf g, []) else
 if 0<Eu.length then (15,0,Eu) else
 if 1<bare.length then (16,0,bare.take 2) else (0,0, [])
def AA (g:Gr):Int × Int × List Int:=xl g (Dp g) (uc (·.2) g)
end Go.Ab
end
section
namespace Go.Ab
open Go.Proofs
attribute [local congr] ACall.congr gd.congr Nx.congr
set_option maxRecDepth 10000
def uh (f:Edge→Int) (es:List Edge) (k:Nat) (x:Int):List Int:=((List.range k).filter fun i=>decide (f (es.getD i (0,0))=x)).map Int.ofNat
def FV (b:Bool) (e:Edge):Int:=if b then e.1 else e.2
end Go.Ab
end
section
namespace Go.Ab
open Go.Proofs
attribute [local congr] ACall.congr gd.congr Nx.congr
set_option maxRecDepth 10000
def rB (b:Bool):List D:= [.sc (.bool b)]
def sB (l:List Bool):D:= .sl 1 (l.map rB)
theorem getD_rB (l:List Bool) (i:Nat):(l.map rB).getD i [.sc (.bool false)]= [.sc (.bool (l.getD i false))]:=by
 simp only [List.getD_eq_getElem?_getD,List.getElem?_map]
 cases l[i]? <;>rfl
attribute [go_sem] getD_rB sB
theorem bJ (l:List Bool) (k:Nat) (v:Bool):(l.map rB).set k [.sc (.bool v)]=(l.set k v).map rB:=by
 rw [List.map_set];rfl
theorem rO {α:Type} {n k:Nat} {f:Nat→α} {v:α} :((List.range n).map f).set k v=(List.range n).map fun y=>if y=k then v else f y:=by
 refine List.ext_getElem? fun i=> ?_
 rw [List.getElem?_set,List.length_map,List.length_range]
 by_cases hi:i<n
 ·rw [List.getElem?_map,List.getElem?_map,List.getElem?_range hi]
  by_cases h:k=i
  ·subst h;simp [hi]
  ·have:¬i=k:=fun e=>h e.symm
   simp [h,this]
 ·rw [List.getElem?_eq_none (by simp;omega),List.getElem?_eq_none (by simp;omega)]
  split
  ·rw [if_neg (by omega)]
  ·rfl
def dN (n k:Nat):List Bool:=(List.range n).map fun y=>decide (y<k)
def uj (g:Gr) (l:List Bool) (j:Nat):List Bool:=(List.range g.n.toNat).map fun y:Nat=>(List.range j).any fun i=>decide (hd g i=(y:Int))&&(l.getD (tl g i).toNat false&&l.getD (hd g i).toNat false)
def uk (g:Gr):Nat→List Bool
 |0=>dN g.n.toNat g.n.toNat
 |k+1=>uj g (uk g k) g.es.length
theorem trueK_length {n k:Nat} :(dN n k).length=n:=by simp [dN]
theorem nextK_length {g:Gr} {l:List Bool} {j:Nat} :(uj g l j).length=g.n.toNat:=by simp [uj]
theorem leftK_length {g:Gr} {k:Nat} :(uk g k).length=g.n.toNat:=by
 cases k
 ·exact trueK_length
 ·exact nextK_length
theorem pS {n:Nat} :List.replicate n [D.sc (.bool false)]=(dN n 0).map rB:=by
 refine List.ext_getElem? fun i=> ?_
 by_cases hi:i<n
 ·simp [dN,hi,rB,List.getElem?_range hi]
 ·rw [List.getElem?_eq_none (by simp;omega),List.getElem?_eq_none (by simp [dN];omega)]
theorem pT {n k:Nat} :(dN n k).set k true=dN n (k+1):=by
 unfold dN;rw [rO]
 refine List.map_congr_left fun y _=> ?_
 split
 ·rename_i h;subst h;simp
 ·rename_i h
  rw [Bool.eq_iff_iff];simp;omega
attribute [go_sem] trueK_length nextK_length leftK_length
end Go.Ab
end
section
namespace Go.Ab
open Go.Proofs
attribute [local congr] ACall.congr gd.congr Nx.congr
set_option maxRecDepth 10000
def Dq (g:Gr):List Bool:=uk g g.n.toNat
def Ev (g:Gr):Int:=if dc (fun b:Bool=>b) (Dq g)<0 then g.n else dc (fun b:Bool=>b) (Dq g)
def yc (g:Gr) (x:Int) (b:Int) (i:Nat):Int:=if hd g i=x∧(Dq g).getD (tl g i).toNat false=true then min b (tl g i) else b
def AB (g:Gr) (x:Int) (k:Nat):Int:=(List.range k).foldl (yc g x) g.n
def AD (g:Gr):Nat→List Int→Int→List Int × Int
 |0,way,x=>(way,x)
 |f+1,way,x=>if x∈way then (way,x) else AD g f (way++ [x]) (AB g x g.es.length)
def gx (g:Gr):Gr:=⟨g.n+1,g.es⟩
def um (g:Gr):List Int × Int:=AD g (g.n.toNat+1) [] (Ev g)
def Dr (l:List Int) (m k:Nat):List Int:=(List.range k).map fun i=>l.getD ((m+l.length - i) % l.length) 0
def AE (l:List Int):List Int:=Dr l (iY l (ya l)).toNat l.length
def AF (g:Gr):List Int:=if Ev g=g.n then [] else AE ((um g).1.drop (iY (um g).1 (um g).2).toNat)
end Go.Ab
end
section
namespace Go.Ab
open Go.Proofs
attribute [local congr] ACall.congr gd.congr Nx.congr
set_option maxRecDepth 10000
def Ew (g:Gr):Int × Int × List Int:=xl g (AF g) (uc (·.2) g)
end Go.Ab
end
section
namespace Go.Ab
def Ord (g:Gr) (out:List Int):Prop:=∀p,p<out.length→∀i,i<g.es.length→hd g i=out.getD p 0→tl g i∈out.take p
theorem uo {l r:List Int} {p:Nat} (h:p<l.length):(l++r).getD p 0=l.getD p 0:=by
 rw [List.getD_eq_getElem?_getD,List.getD_eq_getElem?_getD,List.getElem?_append_left h]
theorem Ord.next {g:Gr} {out:List Int} (h:Ord g out) {x:Nat} (hb:∀i,i<g.es.length→hd g i=x→tl g i∈out):Ord g (out++ [(x:Int)]):=by
 intro p hp i hi hh
 rw [List.length_append,List.length_singleton] at hp
 by_cases gl:p<out.length
 ·rw [uo gl] at hh
  have:=h p gl i hi hh
  rw [List.take_append_of_le_length (by omega)]
  exact this
 ·have hpe:p=out.length:=by omega
  subst hpe
  rw [List.getD_eq_getElem?_getD,List.getElem?_append_right (by omega)] at hh
  simp at hh
  rw [List.take_append_of_le_length (by omega),List.take_of_length_le (by omega)]
  exact hb i hi hh
def Q (g:Gr) (a:Nat) (t:Int):Prop:=∃i,i<g.es.length∧hd g i=(a:Int)∧tl g i=t∧t∉ua g
theorem oc {g:Gr} (hm:aQ g=true) {i:Nat} (hi:i<g.es.length):0≤tl g i∧tl g i<g.n:=(fm hm hi).1
theorem od {g:Gr} (hm:aQ g=true) {i:Nat} (hi:i<g.es.length):0≤hd g i∧hd g i<g.n:=(fm hm hi).2
end Go.Ab
end
section
namespace Go.Ab
set_option maxRecDepth 10000
set_option linter.unusedSectionVars false
structure UG where
 n:Nat
 m:Nat
 T:Nat→Nat
 H:Nat→Nat
namespace UG
structure Ok (G:UG):Prop where
 t:∀i,i<G.m→G.T i<G.n
 h:∀i,i<G.m→G.H i<G.n
 ne:∀i,i<G.m→G.T i≠G.H i
def J (G:UG) (i x y:Nat):Prop:=i<G.m∧(G.T i=x∧G.H i=y∨G.T i=y∧G.H i=x)
variable {G:UG}
theorem J.symm {i x y:Nat} (h:G.J i x y):G.J i y x:=⟨h.1,h.2.symm⟩
theorem J.two {i x y a b:Nat} (h:G.J i x y) (h':G.J i a b):a=x∧b=y∨a=y∧b=x:=by
 obtain ⟨_,h⟩:=h
 obtain ⟨_,h'⟩:=h'
 omega
theorem J.snd {i x y b:Nat} (h:G.J i x y) (h':G.J i x b):b=y:=by
 obtain ⟨_,h⟩:=h
 obtain ⟨_,h'⟩:=h'
 omega
theorem J.lt (hG:G.Ok) {i x y:Nat} (h:G.J i x y):x<G.n∧y<G.n∧x≠y:=by
 have h1:=hG.t i h.1
 have h2:=hG.h i h.1
 have h3:=hG.ne i h.1
 obtain ⟨_,h⟩:=h
 omega
theorem J.self {i:Nat} (h:i<G.m):G.J i (G.T i) (G.H i):=⟨h, .inl ⟨rfl,rfl⟩⟩
inductive Cn (G:UG) (A:Nat→Prop) (x:Nat):Nat→Prop
 |refl:A x→Cn G A x x
 |step {y z i:Nat} :Cn G A x y→G.J i y z→A z→Cn G A x z
theorem Cn.fst {A:Nat→Prop} {x y:Nat} (h:G.Cn A x y):A x:=by
 induction h with
 |refl h=>exact h
 |step _ _ _ ih=>exact ih
theorem Cn.yW {A:Nat→Prop} {x y:Nat} (h:G.Cn A x y):A y:=by
 cases h with
 |refl h=>exact h
 |step _ _ h=>exact h
theorem Cn.trans {A:Nat→Prop} {x y z:Nat} (h:G.Cn A x y) (k:G.Cn A y z):G.Cn A x z:=by
 induction k with
 |refl _=>exact h
 |step _ j a ih=>exact .step ih j a
theorem Cn.one {A:Nat→Prop} {x y i:Nat} (h:G.J i x y) (hx:A x) (hy:A y):G.Cn A x y:= .step (.refl hx) h hy
theorem Cn.symm {A:Nat→Prop} {x y:Nat} (h:G.Cn A x y):G.Cn A y x:=by
 induction h with
 |refl h=>exact .refl h
 |step h j a ih=>exact (Cn.one j.symm a h.yW).trans ih
theorem Cn.mono {A B:Nat→Prop} (Ex:∀v,A v→B v) {x y:Nat} (h:G.Cn A x y):G.Cn B x y:=by
 induction h with
 |refl h=>exact .refl (Ex _ h)
 |step _ j a ih=>exact .step ih j (Ex _ a)
def R (G:UG) (i k:Nat):Prop:=∃v a b,G.J i v a∧G.J k v b∧G.Cn (fun u=>u≠v) a b
theorem R.symm {i k:Nat} (h:G.R i k):G.R k i:=by
 obtain ⟨v,a,b,h1,h2,h3⟩:=h
 exact ⟨v,b,a,h2,h1,h3.symm⟩
theorem R.lt {i k:Nat} (h:G.R i k):i<G.m∧k<G.m:=by
 obtain ⟨v,a,b,h1,h2,h3⟩:=h
 exact ⟨h1.1,h2.1⟩
inductive Sm (G:UG) (i:Nat):Nat→Prop
 |refl:Sm G i i
 |step {j k:Nat} :Sm G i j→G.R j k→Sm G i k
theorem Sm.trans {i j k:Nat} (h:G.Sm i j) (h':G.Sm j k):G.Sm i k:=by
 induction h' with
 |refl=>exact h
 |step _ r ih=>exact .step ih r
theorem Sm.symm {i j:Nat} (h:G.Sm i j):G.Sm j i:=by
 induction h with
 |refl=>exact .refl
 |step _ r ih=>exact (Sm.step .refl r.symm).trans ih
theorem Sm.lt {i j:Nat} (h:G.Sm i j) (hi:i<G.m):j<G.m:=by
 cases h with
 |refl=>exact hi
 |step _ r=>exact r.lt.2
def sC (G:UG) (b:List Nat):Prop:=∃i,i<G.m∧i∈b∧∀k,k∈b↔G.Sm i k
theorem sC.step {b:List Nat} (h:G.sC b) {j k:Nat} (hj:j∈b) (r:G.R j k):k∈b:=by
 obtain ⟨i,_,_,h2⟩:=h
 exact (h2 k).2 (.step ((h2 j).1 hj) r)
structure Sc where
 num:List Nat
 low:List Nat
 cnt:Nat
 stk:List Nat
 blk:List (List Nat)
def Sc.nm (s:Sc) (v:Nat):Nat:=s.num.getD v 0
def Sc.lw (s:Sc) (v:Nat):Nat:=s.low.getD v 0
def sD (G:UG) (i x:Nat):Nat:=G.T i+G.H i - x
def ends (G:UG) (x:Nat):List Nat:=(List.range G.m).filter fun i=>decide (G.T i=x)||decide (G.H i=x)
def fq (so:List Nat→List Nat) (s:Sc) (i:Nat):Sc:= {s with blk:=s.blk++ [so (s.stk.drop (s.stk.idxOf i))],stk:=s.stk.take (s.stk.idxOf i)}
def bK (G:UG) (so:List Nat→List Nat) (vis:Nat→Nat→Sc→Sc) (x:Nat) (aq:Option Nat) (s:Sc) (i:Nat):Sc:=
 if some i=aq then s
 else if s.nm (G.sD i x)=0 then
  let s1:=vis (G.sD i x) i {s with stk:=s.stk++ [i]}
  let s2:= {s1 with low:=s1.low.set x (min (s1.lw x) (s1.lw (G.sD i x)))}
  if s2.nm x≤s2.lw (G.sD i x) then fq so s2 i else s2
 else if s.nm (G.sD i x)<s.nm x then {s with stk:=s.stk++ [i],low:=s.low.set x (min (s.lw x) (s.nm (G.sD i x)))}
 else s
def iP (s:Sc) (x:Nat):Sc:= {s with cnt:=s.cnt+1,num:=s.num.set x (s.cnt+1),low:=s.low.set x (s.cnt+1)}
def cA (G:UG) (so:List Nat→List Nat):Nat→Nat→Option Nat→Sc→Sc
 |0,_,_,s=>s
 |f+1,x,aq,s=>(G.ends x).foldl (bK G so (fun y i=>cA G so f y (some i)) x aq) (iP s x)
def k9 (G:UG) (so:List Nat→List Nat) (s:Sc) (x:Nat):Sc:=if s.nm x=0 then cA G so (G.n+1) x none s else s
def bz (G:UG):Sc:=⟨List.replicate G.n 0,List.replicate G.n 0,0, [], []⟩
def bG (G:UG) (so:List Nat→List Nat):List (List Nat):=((List.range G.n).foldl (k9 G so) (bz G)).blk
theorem eL {i x:Nat} :i∈G.ends x↔∃y,G.J i x y:=by
 unfold ends J
 simp only [List.mem_filter,List.mem_range,Bool.or_eq_true,decide_eq_true_eq]
 constructor
 ·rintro ⟨h,h1|h1⟩
  ·exact ⟨_,h, .inl ⟨h1,rfl⟩⟩
  ·exact ⟨_,h, .inr ⟨rfl,h1⟩⟩
 ·rintro ⟨y,h,h1|h1⟩
  ·exact ⟨h, .inl h1.1⟩
  ·exact ⟨h, .inr h1.2⟩
theorem mF {x:Nat} :(G.ends x).Nodup:=List.nodup_range.filter _
theorem mG {i x y:Nat} (h:G.J i x y):G.sD i x=y:=by
 obtain ⟨_,h⟩:=h
 unfold sD
 omega
def AG (G:UG):List Nat→Prop
 |a::b::r=>(∃k,G.J k b a)∧AG G (b::r)
 |_=>True
theorem AG.cn:∀ {P:List Nat} {x:Nat},G.AG (x::P)→∀w∈x::P,G.Cn (fun v=>v∈x::P) w x
 | [],x,_,w,hw=>by
   simp only [List.mem_singleton] at hw
   subst hw
   exact .refl (by simp)
 |b::r,x,h,w,hw=>by
  obtain ⟨⟨k,hk⟩,h2⟩:=h
  rcases List.mem_cons.1 hw with rfl|hw
  ·exact .refl (by simp)
  ·exact .step ((AG.cn h2 w hw).mono fun v hv=>List.mem_cons_of_mem _ hv) hk (by simp)
structure Ey (G:UG) (s:Sc) (P:List Nat):Prop where
 met:∀w∈P,w<G.n∧s.nm w≠0
 dec:P.Pairwise fun a b=>s.nm b<s.nm a
 Ds:G.AG P
structure Pre (G:UG) (s:Sc) (y:Nat) (aq:Option Nat) (P:List Nat):Prop where
 ln:s.num.length=G.n
 ll:s.low.length=G.n
 hy:y<G.n
 un:s.nm y=0
 eW:G.Ey s P
 bl:∀v i a,s.nm v≠0→v∉P→G.J i v a→s.nm a≠0
 le:∀v,s.nm v≤s.cnt
 inj:∀u v,s.nm u≠0→s.nm u=s.nm v→u=v
 bb:(P= []∧aq=none)∨∃x r i,P=x::r∧aq=some i∧G.J i x y
 Dt:∀e∈s.stk++s.blk.flatten,some e=aq∨∀a b,G.J e a b→s.nm a≠0
def dg (s s':Sc) (v:Nat):Prop:=s.nm v=0∧s'.nm v≠0
structure Inv (G:UG) (s:Sc) (y:Nat) (aq:Option Nat) (P:List Nat) (h:Nat→Prop) (s':Sc):Prop where
 ln:s'.num.length=G.n
 ll:s'.low.length=G.n
 ny:s'.nm y=s.cnt+1
 keep:∀v,s.nm v≠0→s'.nm v=s.nm v∧s'.lw v=s.lw v
 new:∀v,dg s s' v→s.cnt<s'.nm v
 le:∀v,s'.nm v≤s'.cnt
 inj:∀u v,s'.nm u≠0→s'.nm u=s'.nm v→u=v
 yX:∀v,dg s s' v→G.Cn (dg s s') y v
 q1:∀e d a,dg s s' d→(d≠y∨h e)→G.J e d a→dg s s' a∨a∈P
 q2:∀e d w,dg s s' d→(d≠y∨h e)→G.J e d w→w∈P→some e≠aq→s'.lw y≤s.nm w
 ly:s'.lw y≤s'.nm y
 q3:s'.lw y=s'.nm y∨∃e d w,dg s s' d∧G.J e d w∧w∈P∧s.nm w=s'.lw y
 sb:∃S B,s'.stk=s.stk++S∧s'.blk=s.blk++B∧(S++B.flatten).Nodup∧(∀e,e∈S++B.flatten↔some e≠aq∧∃d a,dg s s' d∧(d≠y∨h e)∧G.J e d a)∧
  (∀e∈S,∃i,aq=some i∧G.Sm i e)∧∀b∈B,G.sC b
theorem dg.met {s s':Sc} {v:Nat} (h:dg s s' v):s'.nm v≠0:=h.2
theorem cq {l:List Nat} {i j a:Nat} (hi:i<l.length):(l.set i a).getD j 0=if j=i then a else l.getD j 0:=by
 rw [List.getD_eq_getElem?_getD,List.getElem?_set]
 by_cases h:i=j
 ·subst h;simp [hi]
 ·rw [if_neg h,if_neg (fun e=>h e.symm),List.getD_eq_getElem?_getD]
def gO (G:UG) (s:Sc):Nat:=(List.range G.n).countP fun v=>decide (s.nm v=0)
theorem mH {s s':Sc} (hk:∀v,s.nm v≠0→s'.nm v≠0) {y:Nat} (hy:y<G.n) (h0:s.nm y=0) (h1:s'.nm y≠0):G.gO s'<G.gO s:=by
 unfold gO
 have key:∀l:List Nat,l.countP (fun v=>decide (s'.nm v=0))+(if y∈l then 1 else 0)≤l.countP (fun v=>decide (s.nm v=0)):=by
  intro l
  induction l with
  |nil=>simp
  |cons a l ih=>
   rw [List.countP_cons,List.countP_cons]
   by_cases ha:y=a
   ·subst ha
    simp only [List.mem_cons,true_or,if_true,decide_eq_true_eq,h0,if_pos,if_neg h1]
    split at ih<;>omega
   ·have hk':=hk a
    simp only [List.mem_cons,ha,false_or]
    by_cases h2:s.nm a=0
    ·simp only [decide_eq_true_eq,h2,if_true]
     split<;>omega
    ·simp only [decide_eq_true_eq,if_neg h2,if_neg (hk' h2)]
     omega
 have:=key (List.range G.n)
 rw [if_pos (List.mem_range.2 hy)] at this
 omega
section
variable (hG:G.Ok) {so:List Nat→List Nat}
include hG
theorem lI {s:Sc} {y:Nat} {aq:Option Nat} {P:List Nat} (hp:G.Pre s y aq P):G.Inv s y aq P (fun _=>False) (iP s y):=by
 have hn:∀v,(iP s y).nm v=if v=y then s.cnt+1 else s.nm v:=fun v=>cq (by rw [hp.ln];exact hp.hy)
 have hl:∀v,(iP s y).lw v=if v=y then s.cnt+1 else s.lw v:=fun v=>cq (by rw [hp.ll];exact hp.hy)
 have hN:∀v,dg s (iP s y) v↔v=y:=fun v=>by
  unfold dg
  rw [hn]
  constructor
  ·rintro ⟨h1,h2⟩
   refine Decidable.byContradiction fun h=> ?_
   rw [if_neg h] at h2
   exact h2 h1
  ·rintro rfl
   exact ⟨hp.un,by simp⟩
 have yd:∀v,s.nm v≠0→v≠y:=fun v hv e=>hv (by rw [e];exact hp.un)
 refine ⟨by simp [iP,hp.ln],by simp [iP,hp.ll],by rw [hn,if_pos rfl],fun v hv=>⟨by rw [hn,if_neg (yd v hv)],by rw [hl,if_neg (yd v hv)]⟩,fun v hv=> ?_,fun v=> ?_,fun u v hu huv=> ?_,fun v hv=> ?_,fun e d a hd hh=> ?_,fun e d w hd hh=> ?_, ?_, ?_, ?_⟩
 ·rw [(hN v).1 hv,hn,if_pos rfl];omega
 ·rw [hn]
  have:=hp.le v
  show _≤s.cnt+1
  split<;>omega
 ·rw [hn] at hu
  rw [hn,hn] at huv
  have h1:=hp.le u
  have h2:=hp.le v
  by_cases e1:u=y
  ·by_cases e2:v=y
   ·rw [e1,e2]
   ·rw [if_pos e1,if_neg e2] at huv;omega
  ·by_cases e2:v=y
   ·rw [if_neg e1,if_pos e2] at huv;omega
   ·rw [if_neg e1,if_neg e2] at huv
    rw [if_neg e1] at hu
    exact hp.inj u v hu huv
 ·rw [(hN v).1 hv];exact .refl ((hN y).2 rfl)
 ·rw [(hN d).1 hd] at hh;simp at hh
 ·rw [(hN d).1 hd] at hh;simp at hh
 ·rw [hl,hn,if_pos rfl,if_pos rfl];exact Nat.le_refl _
 ·rw [hl,hn,if_pos rfl,if_pos rfl];exact .inl rfl
 ·refine ⟨[], [],by simp [iP],by simp [iP],by simp,fun e=> ?_,by simp,by simp⟩
  simp only [List.append_nil,List.flatten_nil,List.not_mem_nil,false_iff,not_and]
  rintro _ ⟨d,a,hd,hh,_⟩
  rw [(hN d).1 hd] at hh;simp at hh
theorem mI {s s':Sc} {y:Nat} {aq:Option Nat} {P:List Nat} {h:Nat→Prop} (hp:G.Pre s y aq P) (hi:G.Inv s y aq P h s'):G.Ey s' (y::P):=by
 have hk:∀w∈P,s'.nm w=s.nm w:=fun w hw=>(hi.keep w (hp.eW.met w hw).2).1
 refine ⟨fun w hw=> ?_,List.pairwise_cons.2 ⟨fun w hw=> ?_, ?_⟩, ?_⟩
 ·rcases List.mem_cons.1 hw with rfl|hw
  ·exact ⟨hp.hy,by rw [hi.ny];omega⟩
  ·rw [hk w hw];exact hp.eW.met w hw
 ·rw [hk w hw,hi.ny]
  have:=hp.le w
  omega
 ·refine hp.eW.dec.imp_of_mem fun ha hb h=> ?_
  rw [hk _ ha,hk _ hb];exact h
 ·rcases hp.bb with ⟨rfl,_⟩|⟨x,r,i,rfl,_,hj⟩
  ·trivial
  ·exact ⟨⟨i,hj⟩,hp.eW.Ds⟩
theorem uq {s:Sc} {y:Nat} {aq:Option Nat} {P:List Nat} (hp:G.Pre s y aq P) {w:Nat} (hw:w∈P):∃b x,aq=some b∧G.J b y x∧G.Cn (fun u=>u≠y) w x:=by
 rcases hp.bb with ⟨rfl,_⟩|⟨x,r,i,rfl,h1,hj⟩
 ·simp at hw
 ·refine ⟨i,x,h1,hj.symm,(hp.eW.Ds.cn w hw).mono fun v hv e=> ?_⟩
  subst e
  exact (hp.eW.met v hv).2 hp.un
theorem lJ {s s' s'':Sc} (h1:∀v,s.nm v≠0→s'.nm v=s.nm v) (h2:∀v,s'.nm v≠0→s''.nm v=s'.nm v) (v:Nat):dg s s'' v↔dg s s' v∨dg s' s'' v:=by
 unfold dg
 have:=h1 v
 have:=h2 v
 omega
theorem oe {s s':Sc} {y:Nat} {aq:Option Nat} {P:List Nat} {h:Nat→Prop} (hi:G.Inv s y aq P h s') {i z:Nat} (hj:G.J i y z) (hz:dg s s' z∨z∈P) (hs:some i=aq∨dg s s' z) (yY:∀w∈P,¬dg s s' w):
 G.Inv s y aq P (fun e=>h e∨e=i) s':=by
 have hyz:=(hj.lt hG).2.2
 have lg:∀e d a,dg s s' d→(d≠y∨h e∨e=i)→G.J e d a→(d≠y∨h e)∨(e=i∧d=y∧a=z):=by
  intro e d a hd hh hJ
  by_cases e1:d=y
  ·rcases hh with hh|hh|rfl
   ·exact .inl (.inl hh)
   ·exact .inl (.inr hh)
   ·subst e1;exact .inr ⟨rfl,rfl,hj.snd hJ⟩
  ·exact .inl (.inl e1)
 refine ⟨hi.ln,hi.ll,hi.ny,hi.keep,hi.new,hi.le,hi.inj,hi.yX,fun e d a hd hh hJ=> ?_,fun e d w hd hh hJ hw hb=> ?_,hi.ly,hi.q3, ?_⟩
 ·rcases lg e d a hd hh hJ with h1|⟨rfl,rfl,rfl⟩
  ·exact hi.q1 e d a hd h1 hJ
  ·exact hz
 ·rcases lg e d w hd hh hJ with h1|⟨rfl,rfl,rfl⟩
  ·exact hi.q2 e d w hd h1 hJ hw hb
  ·rcases hs with hs|hs
   ·exact absurd hs hb
   ·exact absurd hs (yY _ hw)
 ·obtain ⟨S,B,h1,h2,h3,h4,h5,h6⟩:=hi.sb
  refine ⟨S,B,h1,h2,h3,fun e=> ?_,h5,h6⟩
  rw [h4]
  constructor
  ·rintro ⟨hb,d,a,hd,hh,hJ⟩
   exact ⟨hb,d,a,hd,hh.imp_right .inl,hJ⟩
  ·rintro ⟨hb,d,a,hd,hh,hJ⟩
   rcases lg e d a hd hh hJ with h1|⟨rfl,rfl,rfl⟩
   ·exact ⟨hb,d,a,hd,h1,hJ⟩
   ·rcases hs with hs|hs
    ·exact absurd hs hb
    ·exact ⟨hb,a,d,hs, .inl (Ne.symm hyz),hJ.symm⟩
theorem ur {s s':Sc} {y:Nat} {aq:Option Nat} {P:List Nat} {h:Nat→Prop} (hp:G.Pre s y aq P) (hi:G.Inv s y aq P h s') {i z:Nat} (hj:G.J i y z) (hz:z∈P) (hb:some i≠aq) (hni:¬h i):
 G.Inv s y aq P (fun e=>h e∨e=i) {s' with stk:=s'.stk++ [i],low:=s'.low.set y (min (s'.lw y) (s'.nm z))} :=by
 have hyz:=(hj.lt hG).2.2
 have hl:∀v,({s' with stk:=s'.stk++ [i],low:=s'.low.set y (min (s'.lw y) (s'.nm z))} :Sc).lw v=if v=y then min (s'.lw y) (s'.nm z) else s'.lw v:=fun v=>cq (by rw [hi.ll];exact hp.hy)
 have FW:=hp.eW.met z hz
 have Ez:=(hi.keep z FW.2).1
 have yZ:dg s s' y:=⟨hp.un,by rw [hi.ny];omega⟩
 have yY:∀w∈P,¬dg s s' w:=fun w hw hN=>(hp.eW.met w hw).2 hN.1
 have lg:∀e d a,dg s s' d→(d≠y∨h e∨e=i)→G.J e d a→(d≠y∨h e)∨(e=i∧d=y∧a=z):=by
  intro e d a hd hh hJ
  by_cases e1:d=y
  ·rcases hh with hh|hh|rfl
   ·exact .inl (.inl hh)
   ·exact .inl (.inr hh)
   ·subst e1;exact .inr ⟨rfl,rfl,hj.snd hJ⟩
  ·exact .inl (.inl e1)
 refine ⟨hi.ln,by simp [hi.ll],hi.ny,fun v hv=>⟨(hi.keep v hv).1, ?_⟩,hi.new,hi.le,hi.inj,hi.yX,fun e d a hd hh hJ=> ?_,fun e d w hd hh hJ hw mT=> ?_, ?_, ?_, ?_⟩
 ·rw [hl,if_neg]
  ·exact (hi.keep v hv).2
  ·rintro rfl;exact hv hp.un
 ·rcases lg e d a hd hh hJ with h1|⟨rfl,rfl,rfl⟩
  ·exact hi.q1 e d a hd h1 hJ
  ·exact .inr hz
 ·rw [hl,if_pos rfl]
  rcases lg e d w hd hh hJ with h1|⟨rfl,rfl,rfl⟩
  ·have:=hi.q2 e d w hd h1 hJ hw mT
   omega
  ·rw [Ez];omega
 ·rw [hl,if_pos rfl]
  have:=hi.ly
  show _≤s'.nm y
  omega
 ·rw [hl,if_pos rfl]
  show min (s'.lw y) (s'.nm z)=s'.nm y∨_
  rcases Nat.le_total (s'.lw y) (s'.nm z) with h1|h1
  ·rw [Nat.min_eq_left h1]
   exact hi.q3
  ·rw [Nat.min_eq_right h1]
   exact .inr ⟨i,y,z,yZ,hj,hz,Ez.symm⟩
 ·obtain ⟨S,B,h1,h2,h3,h4,h5,h6⟩:=hi.sb
  have hnew:i∉S++B.flatten:=by
   rw [h4]
   rintro ⟨_,d,a,hd,hh,hJ⟩
   rcases hj.two hJ with ⟨rfl,rfl⟩|⟨rfl,rfl⟩
   ·rcases hh with hh|hh
    ·exact hh rfl
    ·exact hni hh
   ·exact yY _ hz hd
  refine ⟨S++ [i],B,by simp [h1],h2, ?_,fun e=> ?_,fun e he=> ?_,h6⟩
  ·rw [List.append_assoc,List.nodup_append]
   rw [List.nodup_append] at h3
   simp only [List.mem_append,not_or] at hnew
   refine ⟨h3.1, ?_, ?_⟩
   ·rw [List.singleton_append,List.nodup_cons]
    exact ⟨hnew.2,h3.2.1⟩
   ·intro a ha b hb
    rcases List.mem_append.1 hb with hb|hb
    ·rw [List.mem_singleton] at hb
     subst hb
     rintro rfl;exact hnew.1 ha
    ·exact h3.2.2 a ha b hb
  ·have e1:e∈S++ [i]++B.flatten↔e∈S++B.flatten∨e=i:=by
    simp only [List.mem_append,List.mem_singleton]
    constructor
    ·rintro ((h|h)|h)
     ·exact .inl (.inl h)
     ·exact .inr h
     ·exact .inl (.inr h)
    ·rintro ((h|h)|h)
     ·exact .inl (.inl h)
     ·exact .inr h
     ·exact .inl (.inr h)
   rw [e1,h4]
   constructor
   ·rintro (⟨hb,d,a,hd,hh,hJ⟩|rfl)
    ·exact ⟨hb,d,a,hd,hh.imp_right .inl,hJ⟩
    ·exact ⟨hb,y,z,yZ, .inr (.inr rfl),hj⟩
   ·rintro ⟨hb',d,a,hd,hh,hJ⟩
    rcases lg e d a hd hh hJ with h1|⟨rfl,rfl,rfl⟩
    ·exact .inl ⟨hb',d,a,hd,h1,hJ⟩
    ·exact .inr rfl
  ·rcases List.mem_append.1 he with he|he
   ·exact h5 e he
   ·rw [List.mem_singleton] at he
    subst he
    obtain ⟨b,x,b7,gW,FX⟩:=uq hG hp hz
    exact ⟨b,b7, .step .refl ⟨y,x,z,gW,hj,FX.symm⟩⟩
theorem mJ {s s':Sc} {y:Nat} {aq:Option Nat} {P:List Nat} {h:Nat→Prop} (hp:G.Pre s y aq P) (hi:G.Inv s y aq P h s') {e:Nat} (he:e∈s'.stk++s'.blk.flatten):∀a b,G.J e a b→s'.nm a≠0:=by
 have rP:s'.nm y≠0:=by rw [hi.ny];omega
 have hkm:∀v,s.nm v≠0→s'.nm v≠0:=fun v hv=>by rw [(hi.keep v hv).1];exact hv
 have hq1:∀e d a,dg s s' d→(d≠y∨h e)→G.J e d a→s'.nm a≠0:=fun e d a hd hh hJ=>by
  rcases hi.q1 e d a hd hh hJ with h1|h1
  ·exact h1.2
  ·exact hkm a (hp.eW.met a h1).2
 obtain ⟨S,B,h1,h2,h3,h4,h5,h6⟩:=hi.sb
 have hold:(some e=aq∨∀a b,G.J e a b→s.nm a≠0)→∀a b,G.J e a b→s'.nm a≠0:=by
  rintro (he|he) a b hJ
  ·rcases hp.bb with ⟨_,h0⟩|⟨x,r,k,rfl,hk,xm⟩
   ·rw [h0] at he;cases he
   ·rw [hk] at he
    obtain rfl:=Option.some.inj he
    rcases xm.two hJ with ⟨rfl,rfl⟩|⟨rfl,rfl⟩
    ·exact hkm _ (hp.eW.met _ (by simp)).2
    ·exact rP
  ·exact hkm a (he a b hJ)
 have hnew:e∈S++B.flatten→∀a b,G.J e a b→s'.nm a≠0:=fun he a b hJ=>by
  obtain ⟨_,d,c,hd,hh,EA⟩:=(h4 e).1 he
  rcases EA.two hJ with ⟨rfl,rfl⟩|⟨rfl,rfl⟩
  ·exact hd.2
  ·exact hq1 e _ _ hd hh EA
 simp only [h1,h2,List.flatten_append,List.mem_append] at he
 rcases he with (he|he)|(he|he)
 ·exact hold (hp.Dt e (by simp [he]))
 ·exact hnew (by simp [he])
 ·exact hold (hp.Dt e (List.mem_append.2 (.inr he)))
 ·exact hnew (by simp only [List.mem_append];exact .inr he)
theorem kC {s s':Sc} {y:Nat} {aq:Option Nat} {P:List Nat} {h:Nat→Prop} (hp:G.Pre s y aq P) (hi:G.Inv s y aq P h s') {i z:Nat} (hj:G.J i y z) (hz:s'.nm z=0):
 G.Pre {s' with stk:=s'.stk++ [i]} z (some i) (y::P):=by
 have rP:s'.nm y≠0:=by rw [hi.ny];omega
 have hkm:∀v,s.nm v≠0→s'.nm v≠0:=fun v hv=>by rw [(hi.keep v hv).1];exact hv
 have hq1:∀e d a,dg s s' d→(d≠y∨h e)→G.J e d a→s'.nm a≠0:=fun e d a hd hh hJ=>by
  rcases hi.q1 e d a hd hh hJ with h1|h1
  ·exact h1.2
  ·exact hkm a (hp.eW.met a h1).2
 refine ⟨hi.ln,hi.ll,(hj.lt hG).2.1,hz,⟨(mI hG hp hi).met,(mI hG hp hi).dec,(mI hG hp hi).Ds⟩,fun v e a hv Du hJ=> ?_,hi.le,hi.inj, .inr ⟨y,P,i,rfl,rfl,hj⟩,fun e he=> ?_⟩
 ·simp only [List.mem_cons,not_or] at Du
  by_cases h0:s.nm v=0
  ·exact hq1 e v a ⟨h0,hv⟩ (.inl Du.1) hJ
  ·exact hkm a (hp.bl v e a h0 Du.2 hJ)
 ·have he':e∈s'.stk++s'.blk.flatten∨e=i:=by
   simp only [List.mem_append,List.mem_singleton] at he ⊢
   rcases he with (he|he)|he
   ·exact .inl (.inl he)
   ·exact .inr he
   ·exact .inl (.inr he)
  rcases he' with he'|rfl
  ·exact .inr (mJ hG hp hi he')
  ·exact .inl rfl
theorem og {s s' s1 s3:Sc} {y:Nat} {aq:Option Nat} {P:List Nat} {h:Nat→Prop} (hp:G.Pre s y aq P) (hi:G.Inv s y aq P h s') {i z:Nat} (hj:G.J i y z) (hz:s'.nm z=0)
 (hq:G.Inv {s' with stk:=s'.stk++ [i]} z (some i) (y::P) (fun _=>True) s1) (e1:s3.num=s1.num) (e2:s3.low=s1.low.set y (min (s1.lw y) (s1.lw z))) (e3:s3.cnt=s1.cnt)
 (yR:∃S B,s3.stk=s.stk++S∧s3.blk=s.blk++B∧(S++B.flatten).Nodup∧(∀e,e∈S++B.flatten↔some e≠aq∧∃d a,dg s s3 d∧(d≠y∨h e∨e=i)∧G.J e d a)∧
 (∀e∈S,∃i,aq=some i∧G.Sm i e)∧∀b∈B,G.sC b):G.Inv s y aq P (fun e=>h e∨e=i) s3:=by
 have rP:s'.nm y≠0:=by rw [hi.ny];omega
 have hyz:=(hj.lt hG).2.2
 have kN:∀v,s.nm v≠0→s'.nm v=s.nm v:=fun v hv=>(hi.keep v hv).1
 have hk2:∀v,s'.nm v≠0→s1.nm v=s'.nm v:=fun v hv=>(hq.keep v hv).1
 have vh:∀v,s3.nm v=s1.nm v:=fun v=>by unfold Sc.nm;rw [e1]
 have y2:∀v,s3.lw v=if v=y then min (s'.lw y) (s1.lw z) else s1.lw v:=fun v=>by
  have FY:s1.lw y=s'.lw y:=(hq.keep y rP).2
  rw [← FY]
  unfold Sc.lw
  rw [e2]
  exact cq (by rw [hq.ll];exact hp.hy)
 have hN:∀v,dg s s3 v↔dg s s' v∨dg s' s1 v:=fun v=>by
  rw [← lJ hG kN hk2 v];unfold dg;rw [vh]
 have yZ:dg s s' y:=⟨hp.un,rP⟩
 have AH:dg s' s1 z:=⟨hz,by rw [hq.ny];omega⟩
 have yd:s1.nm y=s.cnt+1:=by rw [hk2 y rP,hi.ny]
 have zW:s.cnt<s'.cnt:=by have:=hi.le y;rw [hi.ny] at this;omega
 have hlz:=hq.ly
 have lg:∀e d a,dg s s3 d→(d≠y∨h e∨e=i)→G.J e d a→(dg s s' d∧(d≠y∨h e))∨(e=i∧d=y∧a=z)∨dg s' s1 d:=by
  intro e d a hd hh hJ
  rcases (hN d).1 hd with hd|hd
  ·by_cases e1:d=y
   ·rcases hh with hh|hh|rfl
    ·exact .inl ⟨hd, .inl hh⟩
    ·exact .inl ⟨hd, .inr hh⟩
    ·subst e1;exact .inr (.inl ⟨rfl,rfl,hj.snd hJ⟩)
   ·exact .inl ⟨hd, .inl e1⟩
  ·exact .inr (.inr hd)
 refine ⟨by rw [e1];exact hq.ln,by rw [e2,List.length_set];exact hq.ll,by rw [vh,yd],fun v hv=> ?_,fun v hv=> ?_,fun v=>by rw [vh,e3];exact hq.le v,fun u v hu huv=>hq.inj u v (by rw [← vh];exact hu) (by rw [← vh, ← vh];exact huv),fun v hv=> ?_,fun e d a hd hh hJ=> ?_,fun e d w hd hh hJ hw hb=> ?_, ?_, ?_,yR⟩
 ·have s9:s'.nm v≠0:=by rw [kN v hv];exact hv
  refine ⟨by rw [vh,hk2 v s9,kN v hv], ?_⟩
  rw [y2,if_neg (by rintro rfl;exact hv hp.un),(hq.keep v s9).2]
  exact (hi.keep v hv).2
 ·rw [vh]
  rcases (hN v).1 hv with h1|h1
  ·rw [hk2 v h1.2];exact hi.new v h1
  ·have:=hq.new v h1
   simp only at this;omega
 ·rcases (hN v).1 hv with h1|h1
  ·exact (hi.yX v h1).mono fun u hu=>(hN u).2 (.inl hu)
  ·exact (Cn.one hj ((hN y).2 (.inl yZ)) ((hN z).2 (.inr AH))).trans ((hq.yX v h1).mono fun u hu=>(hN u).2 (.inr hu))
 ·rcases lg e d a hd hh hJ with ⟨h1,h2⟩|⟨rfl,rfl,rfl⟩|h1
  ·rcases hi.q1 e d a h1 h2 hJ with h3|h3
   ·exact .inl ((hN a).2 (.inl h3))
   ·exact .inr h3
  ·exact .inl ((hN a).2 (.inr AH))
  ·rcases hq.q1 e d a h1 (.inr trivial) hJ with h3|h3
   ·exact .inl ((hN a).2 (.inr h3))
   ·rcases List.mem_cons.1 h3 with rfl|h3
    ·exact .inl ((hN a).2 (.inl yZ))
    ·exact .inr h3
 ·have qC:=hp.eW.met w hw
  have FZ:w≠y:=by rintro rfl;exact qC.2 hp.un
  rw [y2,if_pos rfl]
  rcases lg e d w hd hh hJ with ⟨h1,h2⟩|⟨rfl,rfl,rfl⟩|h1
  ·have:=hi.q2 e d w h1 h2 hJ hw hb
   omega
  ·exact absurd hz (by rw [kN w qC.2];exact qC.2)
  ·have he:some e≠some i:=by
    rintro he
    obtain rfl:=Option.some.inj he
    rcases hj.two hJ with ⟨rfl,rfl⟩|⟨rfl,rfl⟩
    ·exact qC.2 (Decidable.byContradiction fun h0=>h0 (by have:=kN w qC.2;omega))
    ·exact FZ rfl
   have:=hq.q2 e d w h1 (.inr trivial) hJ (List.mem_cons_of_mem _ hw) he
   have e4:({s' with stk:=s'.stk++ [i]} :Sc).nm w=s.nm w:=kN w qC.2
   rw [e4] at this
   omega
 ·rw [y2,if_pos rfl,vh,yd]
  have:=hi.ly
  rw [hi.ny] at this
  omega
 ·rw [y2,if_pos rfl,vh,yd]
  have F0:=hi.ly
  rw [hi.ny] at F0
  rcases Nat.le_total (s'.lw y) (s1.lw z) with h1|h1
  ·rw [Nat.min_eq_left h1]
   rcases hi.q3 with h2|⟨e,d,w,h2,h3⟩
   ·rw [hi.ny] at h2;exact .inl h2
   ·exact .inr ⟨e,d,w,(hN d).2 (.inl h2),h3⟩
  ·rw [Nat.min_eq_right h1]
   rcases hq.q3 with h2|⟨e,d,w,h2,hJ,hw,h3⟩
   ·rw [hq.ny] at h2
    simp only at h2;omega
   ·have e4:s'.nm w=s1.lw z:=h3
    rcases List.mem_cons.1 hw with rfl|hw
    ·left;rw [← e4,hi.ny]
    ·refine .inr ⟨e,d,w,(hN d).2 (.inr h2),hJ,hw, ?_⟩
     rw [← e4,kN w (hp.eW.met w hw).2]
theorem qD {s s' s1 s3:Sc} {y:Nat} {aq:Option Nat} {P:List Nat} {h:Nat→Prop} (hp:G.Pre s y aq P) (hi:G.Inv s y aq P h s') {i z:Nat} (hj:G.J i y z) (hz:s'.nm z=0) (hb:some i≠aq)
 (hq:G.Inv {s' with stk:=s'.stk++ [i]} z (some i) (y::P) (fun _=>True) s1) (e1:s3.num=s1.num):
 ∃S B S1 B1,s1.stk=s.stk++S++i::S1∧s1.blk=s.blk++B++B1∧((S++B.flatten)++(i::S1++B1.flatten)).Nodup∧
  (∀e,e∈S++B.flatten∨e∈i::S1++B1.flatten↔some e≠aq∧∃d a,dg s s3 d∧(d≠y∨h e∨e=i)∧G.J e d a)∧(∀e,e∈i::S1++B1.flatten↔∃d a,dg s' s1 d∧G.J e d a)∧
  (∀e∈S,∃i,aq=some i∧G.Sm i e)∧(∀e∈i::S1,G.Sm i e)∧(∀b∈B,G.sC b)∧(∀b∈B1,G.sC b)∧i∉s.stk++S:=by
 have rP:s'.nm y≠0:=by rw [hi.ny];omega
 have hyz:=(hj.lt hG).2.2
 have kN:∀v,s.nm v≠0→s'.nm v=s.nm v:=fun v hv=>(hi.keep v hv).1
 have hk2:∀v,s'.nm v≠0→s1.nm v=s'.nm v:=fun v hv=>(hq.keep v hv).1
 have hN:∀v,dg s s3 v↔dg s s' v∨dg s' s1 v:=fun v=>by
  rw [← lJ hG kN hk2 v];unfold dg Sc.nm;rw [e1]
 have AH:dg s' s1 z:=⟨hz,by rw [hq.ny];omega⟩
 have yZ:dg s s' y:=⟨hp.un,rP⟩
 have hold:∀e∈s'.stk++s'.blk.flatten,∀a b,G.J e a b→s'.nm a≠0:=fun e he=>mJ hG hp hi he
 obtain ⟨S,B,a1,a2,a3,a4,a5,a6⟩:=hi.sb
 obtain ⟨S1,B1,b1,b2,b3,b4,b5,b6⟩:=hq.sb
 have Dv:∀e,e∈i::S1++B1.flatten↔∃d a,dg s' s1 d∧G.J e d a:=fun e=>by
  rw [List.cons_append,List.mem_cons,b4]
  constructor
  ·rintro (rfl|⟨_,d,a,h1,_,h2⟩)
   ·exact ⟨z,y,AH,hj.symm⟩
   ·exact ⟨d,a,h1,h2⟩
  ·rintro ⟨d,a,h1,h2⟩
   by_cases he:e=i
   ·exact .inl he
   ·exact .inr ⟨fun h=>he (Option.some.inj h),d,a,h1, .inr trivial,h2⟩
 have hin:∀e,e∈S++B.flatten→e∈s'.stk++s'.blk.flatten:=fun e he=>by
  rw [a1,a2,List.flatten_append]
  simp only [List.mem_append] at he ⊢
  rcases he with he|he
  ·exact .inl (.inr he)
  ·exact .inr (.inr he)
 refine ⟨S,B,S1,B1,by rw [b1,a1];simp,by rw [b2,a2], ?_,fun e=> ?_,Dv,a5,fun e he=> ?_,a6,b6,fun hi'=> ?_⟩
 ·rw [List.nodup_append]
  refine ⟨a3, ?_,fun u hu v hv=> ?_⟩
  ·rw [List.cons_append,List.nodup_cons]
   exact ⟨fun h=>((b4 i).1 h).1 rfl,b3⟩
  ·rintro rfl
   obtain ⟨d,a,h1,h2⟩:=(Dv u).1 hv
   exact hold u (hin u hu) d a h2 h1.1
 ·rw [a4,Dv]
  constructor
  ·rintro (⟨h1,d,a,h2,h3,h4⟩|⟨d,a,h1,h2⟩)
   ·exact ⟨h1,d,a,(hN d).2 (.inl h2),h3.imp_right .inl,h4⟩
   ·refine ⟨fun he=> ?_,d,a,(hN d).2 (.inr h1), .inl fun e=>rP (by rw [← e];exact h1.1),h2⟩
    rcases hp.bb with ⟨_,h0⟩|⟨x,r,k,rfl,hk,xm⟩
    ·rw [h0] at he;cases he
    ·rw [hk] at he
     obtain rfl:=Option.some.inj he
     have hx:=(hp.eW.met x (by simp)).2
     rcases xm.two h2 with ⟨rfl,rfl⟩|⟨rfl,rfl⟩
     ·exact hx (by rw [← kN _ hx];exact h1.1)
     ·exact rP h1.1
  ·rintro ⟨h1,d,a,h2,h3,h4⟩
   rcases (hN d).1 h2 with h5|h5
   ·by_cases e2:d=y
    ·rcases h3 with h3|h3|rfl
     ·exact .inl ⟨h1,d,a,h5, .inl h3,h4⟩
     ·exact .inl ⟨h1,d,a,h5, .inr h3,h4⟩
     ·exact .inr ⟨z,y,AH,hj.symm⟩
    ·exact .inl ⟨h1,d,a,h5, .inl e2,h4⟩
   ·exact .inr ⟨d,a,h5,h4⟩
 ·rcases List.mem_cons.1 he with rfl|he
  ·exact .refl
  ·obtain ⟨k,h1,h2⟩:=b5 e he
   rw [Option.some.inj h1];exact h2
 ·rw [← a1] at hi'
  exact hold i (List.mem_append.2 (.inl hi')) z y hj.symm hz
theorem qE {i:Nat} :∀ {A B:List Nat},i∉A→(A++i::B).idxOf i=A.length
 | [],B,_=>by simp
 |a::A,B,h=>by
  simp only [List.mem_cons,not_or] at h
  have e:(a==i)=false:=beq_false_of_ne (Ne.symm h.1)
  rw [List.cons_append,List.idxOf_cons,qE h.2,List.length_cons,e]
  rfl
theorem v7 (hsp:∀l,(so l).Perm l) {s s' s1:Sc} {y:Nat} {aq:Option Nat} {P:List Nat} {h:Nat→Prop} (hp:G.Pre s y aq P) (hi:G.Inv s y aq P h s') {i z:Nat} (hj:G.J i y z) (hz:s'.nm z=0) (hb:some i≠aq)
 (hq:G.Inv {s' with stk:=s'.stk++ [i]} z (some i) (y::P) (fun _=>True) s1):
 G.Inv s y aq P (fun e=>h e∨e=i) (if s1.nm y≤s1.lw z then fq so {s1 with low:=s1.low.set y (min (s1.lw y) (s1.lw z))} i else {s1 with low:=s1.low.set y (min (s1.lw y) (s1.lw z))}):=by
 have rP:s'.nm y≠0:=by rw [hi.ny];omega
 have hyz:=(hj.lt hG).2.2
 have kN:∀v,s.nm v≠0→s'.nm v=s.nm v:=fun v hv=>(hi.keep v hv).1
 have hk2:∀v,s'.nm v≠0→s1.nm v=s'.nm v:=fun v hv=>(hq.keep v hv).1
 have yd:s1.nm y=s.cnt+1:=by rw [hk2 y rP,hi.ny]
 have zW:s.cnt<s'.cnt:=by have:=hi.le y;rw [hi.ny] at this;omega
 by_cases hc:s1.nm y≤s1.lw z
 ·rw [if_pos hc]
  refine og hG hp hi hj hz hq rfl rfl rfl ?_
  obtain ⟨S,B,S1,B1,c1,c2,c3,c4,c5,c6,c7,c8,c9,EB⟩:=qD hG (s3:=fq so {s1 with low:=s1.low.set y (min (s1.lw y) (s1.lw z))} i) hp hi hj hz hb hq rfl
  have EC:s1.stk.idxOf i=(s.stk++S).length:=by rw [c1];exact qE hG EB
  have kP:∀e d a,dg s' s1 d→G.J e d a→dg s' s1 a∨a=y:=fun e d a hd hJ=>by
   rcases hq.q1 e d a hd (.inr trivial) hJ with h1|h1
   ·exact .inl h1
   ·rcases List.mem_cons.1 h1 with rfl|h1
    ·exact .inr rfl
    ·exfalso
     have qC:=hp.eW.met a h1
     have he:some e≠some i:=by
      intro he
      obtain rfl:=Option.some.inj he
      rcases hj.two hJ with ⟨rfl,rfl⟩|⟨rfl,rfl⟩
      ·exact qC.2 (by rw [← kN _ qC.2];exact hz)
      ·exact qC.2 hp.un
     have h2:=hq.q2 e d a hd (.inr trivial) hJ (List.mem_cons_of_mem _ h1) he
     have e4:({s' with stk:=s'.stk++ [i]} :Sc).nm a=s.nm a:=kN a qC.2
     have h3:=hp.le a
     rw [e4] at h2
     omega
  have Dw:(i::S1++B1.flatten).Nodup:=(List.nodup_append.1 c3).2.1
  have Dx:G.sC (so (i::S1)):=by
   refine ⟨i,hj.1,(hsp _).mem_iff.2 (by simp),fun k=> ?_⟩
   rw [(hsp _).mem_iff]
   refine ⟨c7 k,fun hk=> ?_⟩
   induction hk with
   |refl=>simp
   | @step j k _ r ih=>
     obtain ⟨v,a,b,r1,r2,r3⟩:=r
     have hjn:j∉B1.flatten:=fun hj'=>(List.nodup_append.1 Dw).2.2 j ih j hj' rfl
     have hkn:k∉B1.flatten:=fun hk'=>by
      obtain ⟨b1,b7,gW⟩:=List.mem_flatten.1 hk'
      exact hjn (List.mem_flatten.2 ⟨b1,b7,(c9 b1 b7).step gW (R.symm ⟨v,a,b,r1,r2,r3⟩)⟩)
     have F1:k∈i::S1++B1.flatten:=by
      rw [c5]
      obtain ⟨d,c,h1,h2⟩:=(c5 j).1 (List.mem_append.2 (.inl ih))
      by_cases hv:dg s' s1 v
      ·exact ⟨v,b,hv,r2⟩
      ·rcases r1.two h2 with ⟨rfl,rfl⟩|⟨rfl,rfl⟩
       ·exact absurd h1 hv
       ·have F2:c=y:=(kP j d c h1 h2).resolve_left hv
        subst F2
        refine ⟨b,c, ?_,r2.symm⟩
        clear r2
        induction r3 with
        |refl _=>exact h1
        |step _ hj' hne BB=>exact (kP _ _ _ BB hj').resolve_right hne
     rcases List.mem_append.1 F1 with h1|h1
     ·exact h1
     ·exact absurd h1 hkn
  refine ⟨S,B++B1++ [so (i::S1)], ?_, ?_, ?_,fun e=> ?_,c6,fun b hb'=> ?_⟩
  ·show s1.stk.take (s1.stk.idxOf i)=_
   rw [EC,c1,List.take_left]
  ·show s1.blk++ [so (s1.stk.drop (s1.stk.idxOf i))]=_
   rw [EC,c1,List.drop_left,c2]
   simp
  ·refine (List.Perm.nodup_iff ?_).1 c3
   simp only [List.flatten_append,List.flatten_cons,List.flatten_nil,List.append_nil,List.append_assoc]
   refine List.Perm.append_left _ (List.Perm.append_left _ ?_)
   refine List.perm_append_comm.trans (List.Perm.append_left _ ?_)
   exact (hsp _).symm
  ·rw [← c4]
   simp only [List.flatten_append,List.flatten_cons,List.flatten_nil,List.append_nil,List.mem_append,(hsp (i::S1)).mem_iff]
   constructor
   ·rintro (h1|(h1|h1)|h1)
    ·exact .inl (.inl h1)
    ·exact .inl (.inr h1)
    ·exact .inr (.inr h1)
    ·exact .inr (.inl h1)
   ·rintro ((h1|h1)|(h1|h1))
    ·exact .inl h1
    ·exact .inr (.inl (.inl h1))
    ·exact .inr (.inr h1)
    ·exact .inr (.inl (.inr h1))
  ·simp only [List.mem_append,List.mem_singleton] at hb'
   rcases hb' with (h1|h1)|rfl
   ·exact c8 b h1
   ·exact c9 b h1
   ·exact Dx
 ·rw [if_neg hc]
  refine og hG hp hi hj hz hq rfl rfl rfl ?_
  obtain ⟨S,B,S1,B1,c1,c2,c3,c4,c5,c6,c7,c8,c9,EB⟩:=qD hG (s3:= {s1 with low:=s1.low.set y (min (s1.lw y) (s1.lw z))}) hp hi hj hz hb hq rfl
  have mS:∃b,aq=some b∧G.R b i:=by
   rcases hq.q3 with h2|⟨e,d,w,h2,hJ,hw,h3⟩
   ·rw [hq.ny] at h2
    simp only at h2
    omega
   ·have e4:s'.nm w=s1.lw z:=h3
    rcases List.mem_cons.1 hw with rfl|hw
    ·rw [hi.ny] at e4;omega
    ·obtain ⟨b,x,d1,d2,d3⟩:=uq hG hp hw
     refine ⟨b,d1,y,x,z,d2,hj, ?_⟩
     have F3:∀v,dg s' s1 v→v≠y:=fun v hv e=>rP (by rw [← e];exact hv.1)
     refine (Cn.trans ?_ d3).symm
     exact .step ((hq.yX d h2).mono fun v hv=>F3 v hv) hJ (fun e=>(hp.eW.met w hw).2 (by rw [e];exact hp.un))
  obtain ⟨b,b7,gW⟩:=mS
  refine ⟨S++i::S1,B++B1,by rw [← List.append_assoc];exact c1,by rw [← List.append_assoc];exact c2, ?_,fun e=> ?_,fun e he=> ?_,fun b' hb'=> ?_⟩
  ·refine (List.Perm.nodup_iff ?_).1 c3
   simp only [List.flatten_append,List.append_assoc]
   exact List.Perm.append_left _ (List.perm_append_comm_assoc _ _ _)
  ·rw [← c4]
   simp only [List.flatten_append,List.mem_append]
   constructor
   ·rintro ((h1|h1)|(h1|h1))
    ·exact .inl (.inl h1)
    ·exact .inr (.inl h1)
    ·exact .inl (.inr h1)
    ·exact .inr (.inr h1)
   ·rintro ((h1|h1)|(h1|h1))
    ·exact .inl (.inl h1)
    ·exact .inr (.inl h1)
    ·exact .inl (.inr h1)
    ·exact .inr (.inr h1)
  ·rcases List.mem_append.1 he with he|he
   ·exact c6 e he
   ·exact ⟨b,b7,(Sm.step .refl gW).trans (c7 e he)⟩
  ·rcases List.mem_append.1 hb' with h1|h1
   ·exact c8 b' h1
   ·exact c9 b' h1
theorem eM {s s':Sc} {y:Nat} {aq:Option Nat} {P:List Nat} {h k:Nat→Prop} (hk:∀e a,G.J e y a→(h e↔k e)) (hi:G.Inv s y aq P h s'):G.Inv s y aq P k s':=by
 have hf:∀e d a,G.J e d a→((d≠y∨h e)↔(d≠y∨k e)):=fun e d a hJ=>by
  by_cases e1:d=y
  ·subst e1;rw [hk e a hJ]
  ·simp [e1]
 refine ⟨hi.ln,hi.ll,hi.ny,hi.keep,hi.new,hi.le,hi.inj,hi.yX,fun e d a hd hh hJ=>hi.q1 e d a hd ((hf e d a hJ).2 hh) hJ,fun e d w hd hh hJ=>hi.q2 e d w hd ((hf e d w hJ).2 hh) hJ,hi.ly,hi.q3, ?_⟩
 obtain ⟨S,B,h1,h2,h3,h4,h5,h6⟩:=hi.sb
 refine ⟨S,B,h1,h2,h3,fun e=> ?_,h5,h6⟩
 rw [h4]
 constructor
 ·rintro ⟨hb,d,a,hd,hh,hJ⟩;exact ⟨hb,d,a,hd,(hf e d a hJ).1 hh,hJ⟩
 ·rintro ⟨hb,d,a,hd,hh,hJ⟩;exact ⟨hb,d,a,hd,(hf e d a hJ).2 hh,hJ⟩
theorem iB (hsp:∀l,(so l).Perm l) {vis:Nat→Nat→Sc→Sc} {s s':Sc} {y:Nat} {aq:Option Nat} {P:List Nat} {h:Nat→Prop} (hp:G.Pre s y aq P) (hi:G.Inv s y aq P h s')
 (hv:∀i z,G.J i y z→s'.nm z=0→G.Inv {s' with stk:=s'.stk++ [i]} z (some i) (y::P) (fun _=>True) (vis z i {s' with stk:=s'.stk++ [i]})) {i z:Nat} (hj:G.J i y z) (hni:¬h i):
 G.Inv s y aq P (fun e=>h e∨e=i) (bK G so vis y aq s' i):=by
 have kN:∀v,s.nm v≠0→s'.nm v=s.nm v:=fun v hv=>(hi.keep v hv).1
 have yY:∀w∈P,¬dg s s' w:=fun w hw hN=>(hp.eW.met w hw).2 hN.1
 have hyz:=(hj.lt hG).2.2
 unfold bK
 rw [mG hj]
 by_cases hb:some i=aq
 ·rw [if_pos hb]
  refine oe hG hi hj (.inr ?_) (.inl hb) yY
  rcases hp.bb with ⟨_,h0⟩|⟨x,r,k,rfl,hk,xm⟩
  ·rw [h0] at hb;cases hb
  ·rw [hk] at hb
   obtain rfl:=Option.some.inj hb
   obtain rfl:=hj.snd xm.symm
   simp
 rw [if_neg hb]
 by_cases hz:s'.nm z=0
 ·rw [if_pos hz]
  have hq:=hv i z hj hz
  generalize vis z i {s' with stk:=s'.stk++ [i]} =s1 at hq
  have e5:({s1 with low:=s1.low.set y (min (s1.lw y) (s1.lw z))} :Sc).lw z=s1.lw z:=by
   unfold Sc.lw
   rw [cq (by rw [hq.ll];exact hp.hy),if_neg (Ne.symm hyz)]
  have:=v7 hG hsp hp hi hj hz hb hq
  simp only [e5]
  exact this
 rw [if_neg hz]
 have Dy:s.nm z≠0→z∈P:=fun h0=>Decidable.byContradiction fun Dy=>hp.bl z i y h0 Dy hj.symm hp.un
 by_cases hlt:s'.nm z<s'.nm y
 ·rw [if_pos hlt]
  refine ur hG hp hi hj (Dy fun h0=> ?_) hb hni
  have:=hi.new z ⟨h0,hz⟩
  rw [hi.ny] at hlt
  omega
 ·rw [if_neg hlt]
  have hN:dg s s' z:=⟨Decidable.byContradiction fun h0=>by
   have h1:=kN z h0
   have h2:=hp.le z
   rw [hi.ny] at hlt
   omega,hz⟩
  exact oe hG hi hj (.inl hN) (.inr hN) yY
theorem jE (hsp:∀l,(so l).Perm l):∀(f:Nat) {s:Sc} {y:Nat} {aq:Option Nat} {P:List Nat},G.gO s≤f→G.Pre s y aq P→G.Inv s y aq P (fun _=>True) (cA G so f y aq s)
 |0,s,y,aq,P,hf,hp=>by
  exfalso
  have:G.gO s≠0:=by
   unfold gO
   intro h
   rw [List.countP_eq_zero] at h
   exact h y (List.mem_range.2 hp.hy) (decide_eq_true hp.un)
  omega
 |f+1,s,y,aq,P,hf,hp=>by
  have key:∀(R L:List Nat) (s':Sc),(∀e∈L++R,∃a,G.J e y a)→(L++R).Nodup→G.Inv s y aq P (fun e=>e∈L) s'→G.Inv s y aq P (fun e=>e∈L++R) (R.foldl (bK G so (fun y i=>cA G so f y (some i)) y aq) s'):=by
   intro R
   induction R with
   |nil=>intro L s' _ _ hi;simpa using hi
   |cons i R ih=>
    intro L s' hJ bU hi
    obtain ⟨z,hj⟩:=hJ i (by simp)
    have hni:i∉L:=fun hL=>(List.nodup_append.1 bU).2.2 i hL i (by simp) rfl
    have h1:=iB hG hsp (vis:=fun y i=>cA G so f y (some i)) hp hi (fun k u hk hu=>jE hsp f (by
     have h2:G.gO s'<G.gO s:=mH (fun v hv=>by rw [(hi.keep v hv).1];exact hv) hp.hy hp.un (by rw [hi.ny];omega)
     have h3:G.gO {s' with stk:=s'.stk++ [k]} =G.gO s':=rfl
     omega) (kC hG hp hi hk hu)) hj hni
    have h2:=ih (L++ [i]) _ (by simpa using hJ) (by simpa using bU) (eM hG (fun e a _=>by simp) h1)
    simpa using h2
  have:=key (G.ends y) [] (iP s y) (fun e he=>by simpa using eL.1 he) (by simpa using mF) (eM hG (fun e a _=>by simp) (lI hG hp))
  exact eM hG (fun e a hJ=>by simpa using eL.2 ⟨a,hJ⟩) this
structure ye (G:UG) (s:Sc) (k:Nat):Prop where
 ln:s.num.length=G.n
 ll:s.low.length=G.n
 met:∀v,v<k→s.nm v≠0
 bl:∀v i a,s.nm v≠0→G.J i v a→s.nm a≠0
 le:∀v,s.nm v≤s.cnt
 inj:∀u v,s.nm u≠0→s.nm u=s.nm v→u=v
 stk:s.stk= []
 nd:s.blk.flatten.Nodup
 mem:∀e,e∈s.blk.flatten↔∃d a,s.nm d≠0∧G.J e d a
 cls:∀b∈s.blk,G.sC b
theorem oh (hsp:∀l,(so l).Perm l) {s:Sc} {k:Nat} (hk:k<G.n) (h:G.ye s k):G.ye (k9 G so s k) (k+1):=by
 unfold k9
 by_cases h0:s.nm k=0
 rotate_left
 ·rw [if_neg h0]
  refine ⟨h.ln,h.ll,fun v hv=> ?_,h.bl,h.le,h.inj,h.stk,h.nd,h.mem,h.cls⟩
  by_cases e:v=k
  ·subst e;exact h0
  ·exact h.met v (by omega)
 rw [if_pos h0]
 have hp:G.Pre s k none []:=⟨h.ln,h.ll,hk,h0,⟨by simp,by simp,trivial⟩,fun v i a hv _ hJ=>h.bl v i a hv hJ,h.le,h.inj, .inl ⟨rfl,rfl⟩,fun e he=> .inr fun a b hJ=>by
  rw [h.stk,List.nil_append,h.mem] at he
  obtain ⟨d,c,h1,h2⟩:=he
  rcases h2.two hJ with ⟨rfl,rfl⟩|⟨rfl,rfl⟩
  ·exact h1
  ·exact h.bl _ _ _ h1 h2⟩
 have hu:G.gO s≤G.n+1:=by
  unfold gO
  have:=List.countP_le_length (l:=List.range G.n) (p:=fun v=>decide (s.nm v=0))
  rw [List.length_range] at this
  omega
 have hi:=jE hG hsp (G.n+1) hu hp
 generalize cA G so (G.n+1) k none s=s' at hi
 have kN:∀v,s.nm v≠0→s'.nm v=s.nm v:=fun v hv=>(hi.keep v hv).1
 obtain ⟨S,B,h1,h2,h3,h4,h5,h6⟩:=hi.sb
 have hS:S= []:=by
  refine List.eq_nil_iff_forall_not_mem.2 fun e he=> ?_
  obtain ⟨i,hi',_⟩:=h5 e he
  cases hi'
 subst hS
 simp only [List.nil_append] at h3 h4
 have hpart:∀v,s'.nm v≠0→s.nm v≠0∨dg s s' v:=fun v hv=>by unfold dg;omega
 refine ⟨hi.ln,hi.ll,fun v hv=> ?_,fun v i a hv hJ=> ?_,hi.le,hi.inj,by rw [h1,h.stk];rfl, ?_,fun e=> ?_,fun b hb=> ?_⟩
 ·by_cases e:v=k
  ·subst e;rw [hi.ny];omega
  ·have:=h.met v (by omega);rw [kN v this];exact this
 ·rcases hpart v hv with h7|h7
  ·have:=h.bl v i a h7 hJ
   rw [kN a this];exact this
  ·rcases hi.q1 i v a h7 (.inr trivial) hJ with h8|h8
   ·exact h8.2
   ·simp at h8
 ·rw [h2,List.flatten_append,List.nodup_append]
  refine ⟨h.nd,h3,fun a ha b hb=> ?_⟩
  rintro rfl
  obtain ⟨d,c,g1,g2⟩:=(h.mem a).1 ha
  obtain ⟨_,d',c',g3,_,g4⟩:=(h4 a).1 hb
  rcases g2.two g4 with ⟨rfl,rfl⟩|⟨rfl,rfl⟩
  ·exact g1 g3.1
  ·exact h.bl _ _ _ g1 g2 g3.1
 ·rw [h2,List.flatten_append,List.mem_append,h.mem,h4]
  constructor
  ·rintro (⟨d,a,g1,g2⟩|⟨_,d,a,g1,_,g2⟩)
   ·exact ⟨d,a,by rw [kN d g1];exact g1,g2⟩
   ·exact ⟨d,a,g1.2,g2⟩
  ·rintro ⟨d,a,g1,g2⟩
   rcases hpart d g1 with g3|g3
   ·exact .inl ⟨d,a,g3,g2⟩
   ·exact .inr ⟨by simp,d,a,g3, .inr trivial,g2⟩
 ·rw [h2] at hb
  rcases List.mem_append.1 hb with hb|hb
  ·exact h.cls b hb
  ·exact h6 b hb
theorem gr (hsp:∀l,(so l).Perm l):(bG G so).flatten.Nodup∧(∀e,e∈(bG G so).flatten↔e<G.m)∧∀b∈bG G so,G.sC b:=by
 have h0:∀v,G.bz.nm v=0:=fun v=>by
  unfold Sc.nm bz
  rw [List.getD_eq_getElem?_getD,List.getElem?_replicate]
  split<;>rfl
 have start:G.ye (bz G) 0:=⟨by simp [bz],by simp [bz],by simp,fun v i a hv=>absurd (h0 v) hv,fun v=>by rw [h0];exact Nat.zero_le _,fun u v hu=>absurd (h0 u) hu,rfl,by simp [bz],fun e=>by
  simp only [bz,List.flatten_nil,List.not_mem_nil,false_iff,not_exists,not_and]
  exact fun d a hd=>absurd (h0 d) hd,by simp [bz]⟩
 have key:∀k,k≤G.n→G.ye ((List.range k).foldl (k9 G so) (bz G)) k:=by
  intro k
  induction k with
  |zero=>intro _;exact start
  |succ k ih=>
   intro hk
   rw [List.range_succ,List.foldl_append]
   exact oh hG hsp (by omega) (ih (by omega))
 have h:=key G.n (Nat.le_refl _)
 refine ⟨h.nd,fun e=> ?_,h.cls⟩
 unfold bG
 rw [h.mem]
 constructor
 ·rintro ⟨d,a,_,h2⟩;exact h2.1
 ·intro he;exact ⟨G.T e,G.H e,h.met _ (hG.t e he),J.self he⟩
end
end UG
end Go.Ab
end
section
namespace Go.Ab
set_option maxRecDepth 10000
set_option linter.unusedSectionVars false
namespace UG
variable {G:UG}
theorem kD:∀ {a b:List Nat},a.Pairwise (· < ·)→b.Pairwise (· < ·)→(∀x,x∈a↔x∈b)→a=b
 | [], [],_,_,_=>rfl
 | [],y::b,_,_,h=>absurd ((h y).2 (by simp)) (by simp)
 |x::a, [],_,_,h=>absurd ((h x).1 (by simp)) (by simp)
 |x::a,y::b,ha,hb,h=>by
  rw [List.pairwise_cons] at ha hb
  have e:x=y:=by
   rcases List.mem_cons.1 ((h x).1 (by simp)) with h1|h1
   ·exact h1
   ·rcases List.mem_cons.1 ((h y).2 (by simp)) with h2|h2
    ·exact h2.symm
    ·have:=ha.1 y h2
     have:=hb.1 x h1
     omega
  subst e
  have:a=b:=kD ha.2 hb.2 fun z=>by
   constructor
   ·intro hz
    rcases List.mem_cons.1 ((h z).1 (List.mem_cons_of_mem _ hz)) with h1|h1
    ·subst h1;have:=ha.1 z hz;omega
    ·exact h1
   ·intro hz
    rcases List.mem_cons.1 ((h z).2 (List.mem_cons_of_mem _ hz)) with h1|h1
    ·subst h1;have:=hb.1 z hz;omega
    ·exact h1
  rw [this]
theorem gP {n:Nat} :(List.range n).Pairwise (· < ·):=List.pairwise_lt_range
open Classical in
noncomputable def sF (G:UG) (i:Nat):Bool:=decide (∀k,G.Sm i k→i≤k)
open Classical in
noncomputable def cL (G:UG) (i:Nat):List Nat:=(List.range G.m).filter fun k=>decide (G.Sm i k)
noncomputable def aM (G:UG):List (List Nat):=((List.range G.m).filter fun i=>G.sF i).map G.cL
theorem dn {i:Nat} :G.sF i=true↔∀k,G.Sm i k→i≤k:=by unfold sF;simp
theorem bT {i k:Nat} :k∈G.cL i↔k<G.m∧G.Sm i k:=by unfold cL;simp
theorem kE {i:Nat} :(G.cL i).Pairwise (· < ·):=gP.filter _
theorem uu {i:Nat} (hi:i<G.m) (hl:G.sF i=true):∃r,G.cL i=i::r:=by
 have h1:i∈G.cL i:=bT.2 ⟨hi, .refl⟩
 have h2:=kE (G:=G) (i:=i)
 cases hc:G.cL i with
 |nil=>rw [hc] at h1;simp at h1
 |cons a r=>
  rw [hc] at h1 h2
  have ha:a∈G.cL i:=by rw [hc];simp
  have h3:=dn.1 hl a (bT.1 ha).2
  rcases List.mem_cons.1 h1 with h4|h4
  ·exact ⟨r,by rw [h4]⟩
  ·have:=(List.pairwise_cons.1 h2).1 i h4
   omega
theorem uv {b:List Nat} (h:G.sC b) (hr:b.Pairwise (· < ·)):∃i r,b=i::r∧i<G.m∧G.sF i=true∧b=G.cL i:=by
 obtain ⟨j,hj,h1,h2⟩:=h
 have hb:∀i∈b,b=G.cL i:=fun i hi=>kD hr kE fun k=>by
  have h3:=(h2 i).1 hi
  rw [bT,h2]
  exact ⟨fun h4=>⟨h4.lt hj,h3.symm.trans h4⟩,fun h4=>h3.trans h4.2⟩
 cases b with
 |nil=>simp at h1
 |cons i r=>
  have hc:=hb i (by simp)
  have hi:=(h2 i).1 (by simp)
  refine ⟨i,r,rfl,hi.lt hj,dn.2 fun k hk=> ?_,hc⟩
  have:k∈i::r:=by rw [hc,bT];exact ⟨hk.lt (hi.lt hj),hk⟩
  rcases List.mem_cons.1 this with h4|h4
  ·omega
  ·have:=(List.pairwise_cons.1 hr).1 k h4
   omega
theorem qF {L:List (List Nat)} (h1:L.flatten.Nodup) (h2:∀e,e∈L.flatten↔e<G.m) (h3:∀b∈L,G.sC b) (h4:∀b∈L,b.Pairwise (· < ·)) (h5:L.Pairwise fun a b=>a.headD 0≤b.headD 0):L=G.aM:=by
 have hh:∀b∈L,b=G.cL (b.headD 0)∧b.headD 0<G.m∧G.sF (b.headD 0)=true∧b.headD 0∈b:=fun b hb=>by
  obtain ⟨i,r,rfl,e1,e2,e3⟩:=uv (h3 b hb) (h4 b hb)
  exact ⟨e3,e1,e2,by simp⟩
 have hd:L.map (fun b=>b.headD 0)=(List.range G.m).filter fun i=>G.sF i:=by
  refine kD ?_ (gP.filter _) fun i=> ?_
  ·rw [List.pairwise_map]
   have bU:L.Pairwise fun a b=>a.headD 0≠b.headD 0:=by
    have:∀M:List (List Nat),(∀b∈M,b.headD 0∈b)→M.flatten.Nodup→M.Pairwise fun a b=>a.headD 0≠b.headD 0:=by
     intro M
     induction M with
     |nil=>intro _ _;exact .nil
     |cons a M ih=>
      intro hM hN
      rw [List.flatten_cons,List.nodup_append] at hN
      refine List.pairwise_cons.2 ⟨fun b hb e=> ?_,ih (fun b hb=>hM b (List.mem_cons_of_mem _ hb)) hN.2.1⟩
      exact hN.2.2 _ (hM a (by simp)) _ (List.mem_flatten.2 ⟨b,hb,hM b (List.mem_cons_of_mem _ hb)⟩) e
    exact this L (fun b hb=>(hh b hb).2.2.2) h1
   refine h5.imp₂ (fun a b e1 e2=> ?_) bU
   omega
  ·simp only [List.mem_map,List.mem_filter,List.mem_range]
   constructor
   ·rintro ⟨b,hb,rfl⟩
    exact ⟨(hh b hb).2.1,(hh b hb).2.2.1⟩
   ·rintro ⟨e1,e2⟩
    obtain ⟨b,hb,hi⟩:=List.mem_flatten.1 ((h2 i).2 e1)
    refine ⟨b,hb, ?_⟩
    have h6:=hh b hb
    rw [h6.1] at hi
    have h7:=(bT.1 hi).2
    have h8:=dn.1 e2 _ h7.symm
    have h9:=dn.1 h6.2.2.1 _ h7
    omega
 unfold aM
 rw [← hd,List.map_map]
 have:L.map id=L.map (G.cL ∘ fun b=>b.headD 0):=List.map_congr_left fun b hb=>(hh b hb).1
 rw [List.map_id] at this
 exact this
theorem iE {b:List Nat} (hb:b∈G.aM):G.sC b∧b.Pairwise (· < ·):=by
 unfold aM at hb
 obtain ⟨i,hi,rfl⟩:=List.mem_map.1 hb
 rw [List.mem_filter,List.mem_range] at hi
 refine ⟨⟨i,hi.1,bT.2 ⟨hi.1, .refl⟩,fun k=> ?_⟩,kE⟩
 rw [bT]
 exact ⟨fun h=>h.2,fun h=>⟨h.lt hi.1,h⟩⟩
inductive iQ (G:UG) (D A:Nat→Prop) (x:Nat):Nat→Prop
 |refl:A x→iQ G D A x x
 |step {y z i:Nat} :iQ G D A x y→D i→G.J i y z→A z→iQ G D A x z
theorem iQ.yW {D A:Nat→Prop} {x y:Nat} (h:G.iQ D A x y):A y:=by
 cases h with
 |refl h=>exact h
 |step _ _ _ h=>exact h
theorem iQ.fst {D A:Nat→Prop} {x y:Nat} (h:G.iQ D A x y):A x:=by
 induction h with
 |refl h=>exact h
 |step _ _ _ _ ih=>exact ih
theorem iQ.trans {D A:Nat→Prop} {x y z:Nat} (h:G.iQ D A x y) (k:G.iQ D A y z):G.iQ D A x z:=by
 induction k with
 |refl _=>exact h
 |step _ d j a ih=>exact .step ih d j a
theorem iQ.one {D A:Nat→Prop} {x y i:Nat} (d:D i) (h:G.J i x y) (hx:A x) (hy:A y):G.iQ D A x y:= .step (.refl hx) d h hy
theorem iQ.symm {D A:Nat→Prop} {x y:Nat} (h:G.iQ D A x y):G.iQ D A y x:=by
 induction h with
 |refl h=>exact .refl h
 |step h d j a ih=>exact (iQ.one d j.symm a h.yW).trans ih
theorem iQ.cn {D A:Nat→Prop} {x y:Nat} (h:G.iQ D A x y):G.Cn A x y:=by
 induction h with
 |refl h=>exact .refl h
 |step _ _ j a ih=>exact .step ih j a
theorem iQ.mono {D D' A A':Nat→Prop} (hD:∀i,D i→D' i) (hA:∀i,A i→A' i) {x y:Nat} (h:G.iQ D A x y):G.iQ D' A' x y:=by
 induction h with
 |refl h=>exact .refl (hA _ h)
 |step _ d j a ih=>exact .step ih (hD _ d) j (hA _ a)
inductive Pa (G:UG) (b:Nat):Nat→List Nat→Prop
 |nil:Pa G b b []
 |cons {a c e:Nat} {r:List Nat} :G.J e a c→Pa G b c r→Pa G b a (c::r)
theorem Pa.cn {b a:Nat} {r:List Nat} (h:G.Pa b a r) {A:Nat→Prop} (hA:∀u∈a::r,A u):G.Cn A a b:=by
 induction h with
 |nil=>exact .refl (hA _ (by simp))
 |cons j _ ih=>
  exact (Cn.one j (hA _ (by simp)) (hA _ (by simp))).trans (ih fun u hu=>hA u (List.mem_cons_of_mem _ hu))
theorem Pa.last {b a:Nat} {r:List Nat} (h:G.Pa b a r):b∈a::r:=by
 induction h with
 |nil=>simp
 |cons _ _ ih=>exact List.mem_cons_of_mem _ ih
theorem Pa.cut {b a:Nat} {r:List Nat} (h:G.Pa b a r) {z:Nat} (hz:z∈a::r):∃r',G.Pa b z r'∧(z::r').Sublist (a::r):=by
 induction h with
 |nil=>
  rw [List.mem_singleton] at hz
  subst hz
  exact ⟨[], .nil,List.Sublist.refl _⟩
 | @cons a c e r j h ih=>
   rcases List.mem_cons.1 hz with rfl|hz
   ·exact ⟨c::r, .cons j h,List.Sublist.refl _⟩
   ·obtain ⟨r',h1,h2⟩:=ih hz
    exact ⟨r',h1,h2.cons a⟩
theorem Pa.of {A:Nat→Prop} {b a:Nat} (h:G.Cn A b a):∃r,G.Pa b a r∧(a::r).Nodup∧∀u∈a::r,A u:=by
 induction h with
 |refl h=>exact ⟨[], .nil,by simp,by simpa using h⟩
 | @step y z i _ j a ih=>
   obtain ⟨r,h1,h2,h3⟩:=ih
   by_cases hz:z∈y::r
   ·obtain ⟨r',h4,h5⟩:=h1.cut hz
    exact ⟨r',h4,h2.sublist h5,fun u hu=>h3 u (h5.subset hu)⟩
   ·refine ⟨y::r, .cons j.symm h1,List.nodup_cons.2 ⟨hz,h2⟩,fun u hu=> ?_⟩
    rcases List.mem_cons.1 hu with rfl|hu
    ·exact a
    ·exact h3 u hu
theorem uw {b:Nat} {a:Nat} {r:List Nat} (h:G.Pa b a r):∀ {i v:Nat},G.J i v a→(a::r).Nodup→v∉a::r→(∀u∈a::r,u≠b→G.Cn (fun w=>w≠u) v b)→G.iQ (G.Sm i) (fun u=>u∈a::r) a b:=by
 induction h with
 |nil=>intro i v _ _ _ _;exact .refl (by simp)
 | @cons a c e r j hP ih=>
   intro i v hi bU hv kP
   rw [List.nodup_cons] at bU
   have hba:a≠b:=fun e=>bU.1 (e ▸ hP.last)
   have hR:G.R i e:=by
    refine ⟨a,v,c,hi.symm,j,(kP a (by simp) hba).trans (hP.cn (A:=fun w=>w≠a) fun u hu e'=>bU.1 (e' ▸ hu)).symm⟩
   have Hj:v≠a:=fun e=>hv (by rw [e];simp)
   have h1:=ih (i:=e) (v:=a) j bU.2 bU.1 fun u hu F4=>by
    have h2:=kP u (List.mem_cons_of_mem _ hu) F4
    refine (Cn.one hi.symm (fun e=>bU.1 (by rw [e];exact hu)) (fun e=>hv (by rw [e];exact List.mem_cons_of_mem _ hu))).trans h2
   have hS:G.Sm i e:= .step .refl hR
   exact (iQ.one hS j (by simp) (by simp)).trans (h1.mono (fun k hk=>hS.trans hk) fun u hu=>List.mem_cons_of_mem _ hu)
section
variable (hG:G.Ok)
include hG
theorem Dz {i k gone u w:Nat} (r:G.R i k) (hu:∃u',G.J i u u') (hw:∃w',G.J k w w') (y3:u≠gone) (y4:w≠gone):G.iQ (G.Sm i) (fun v=>v≠gone) u w:=by
 obtain ⟨v,a,b,h1,h2,h3⟩:=r
 have hk:G.Sm i k:= .step .refl ⟨v,a,b,h1,h2,h3⟩
 obtain ⟨u',hu⟩:=hu
 obtain ⟨w',hw⟩:=hw
 by_cases hv:v=gone
 ·subst hv
  have eu:u=a:=by
   rcases h1.two hu with ⟨e,_⟩|⟨e,_⟩
   ·exact absurd e y3
   ·exact e
  have ew:w=b:=by
   rcases h2.two hw with ⟨e,_⟩|⟨e,_⟩
   ·exact absurd e y4
   ·exact e
  subst eu ew
  obtain ⟨r,h4,h5,h6⟩:=Pa.of h3.symm
  refine (uw h4 h1 h5 (fun hv=>h6 v hv rfl) fun x hx F5=> ?_).mono (fun _ h=>h) fun x hx=>h6 x hx
  exact .one h2 (Ne.symm (h6 x hx)) (Ne.symm F5)
 ·have huv:G.iQ (G.Sm i) (fun v=>v≠gone) u v:=by
   rcases h1.two hu with ⟨rfl,_⟩|⟨rfl,_⟩
   ·exact .refl y3
   ·exact .one .refl h1.symm y3 hv
  have DA:G.iQ (G.Sm i) (fun v=>v≠gone) v w:=by
   rcases h2.two hw with ⟨rfl,_⟩|⟨rfl,_⟩
   ·exact .refl y4
   ·exact .one hk h2 hv y4
  exact huv.trans DA
theorem lK {i k gone u w:Nat} (hi:i<G.m) (hS:G.Sm i k) (hu:∃u',G.J i u u') (hw:∃w',G.J k w w') (y3:u≠gone) (y4:w≠gone):G.iQ (G.Sm i) (fun v=>v≠gone) u w:=by
 induction hS generalizing w with
 |refl=>
  obtain ⟨u',hu⟩:=hu
  obtain ⟨w',hw⟩:=hw
  rcases hu.two hw with ⟨rfl,_⟩|⟨rfl,rfl⟩
  ·exact .refl y3
  ·exact .one .refl hu y3 y4
 | @step j k hS r ih=>
   have hj:=hS.lt hi
   obtain ⟨x,hx,ED⟩:∃x,(∃x',G.J j x x')∧x≠gone:=by
    by_cases e:G.T j=gone
    ·exact ⟨G.H j,⟨_,(J.self hj).symm⟩,fun e'=>hG.ne j hj (by rw [e,e'])⟩
    ·exact ⟨G.T j,⟨_,J.self hj⟩,e⟩
   exact (ih hx ED).trans ((Dz hG r hx hw ED y4).mono (fun _ h=>hS.trans h) fun _ h=>h)
theorem yf {i k x a b:Nat} (hS:G.Sm i k) (h1:G.J i x a) (h2:G.J k x b):G.Cn (fun v=>v≠x) a b:=
 (lK hG h1.1 hS ⟨x,h1.symm⟩ ⟨x,h2.symm⟩ (Ne.symm (h1.lt hG).2.2) (Ne.symm (h2.lt hG).2.2)).cn
end
end UG
end Go.Ab
end
section
namespace Go.Ab
set_option maxRecDepth 10000
set_option linter.unusedSectionVars false
namespace UG
variable {G:UG}
open Classical in
noncomputable def F6 (G:UG) (x i k:Nat):Bool:=decide (∃a b,G.J i x a∧G.J k x b∧G.Cn (fun u=>u≠x) a b)
def DB (a:List Nat) (i k:Nat):List Nat:=(a.set i (min (a.getD i 0) (a.getD k 0))).set k (min (a.getD i 0) (a.getD k 0))
noncomputable def AI (G:UG) (x i:Nat) (s:List Nat × Bool):Nat→List Nat × Bool
 |0=>s
 |k+1=>if (G.F6 x i k&&decide ((AI G x i s k).1.getD i 0≠(AI G x i s k).1.getD k 0))=true then (DB (AI G x i s k).1 i k,true) else AI G x i s k
noncomputable def AJ (G:UG) (x:Nat) (s:List Nat × Bool):Nat→List Nat × Bool
 |0=>s
 |i+1=>AI G x i (AJ G x s i) G.m
noncomputable def DC (G:UG) (s:List Nat × Bool):Nat→List Nat × Bool
 |0=>s
 |x+1=>AJ G x (DC G s x) G.m
structure Lb (G:UG) (a:List Nat):Prop where
 len:a.length=G.m
 vm:∀i,i<G.m→a.getD i 0≤i∧G.Sm i (a.getD i 0)
def Dn (s t:List Nat × Bool):Prop:=t=s∨(t.2=true∧t.1.sum<s.1.sum)
theorem Dn.trans {s t u:List Nat × Bool} (h:Dn s t) (k:Dn t u):Dn s u:=by
 rcases k with rfl|⟨k1,k2⟩
 ·exact h
 ·rcases h with rfl|⟨h1,h2⟩
  ·exact .inr ⟨k1,k2⟩
  ·exact .inr ⟨k1,by omega⟩
theorem Dn.same {s t:List Nat × Bool} (h:Dn s t) (hf:t.2=false):t=s:=by
 rcases h with h|⟨h,_⟩
 ·exact h
 ·rw [h] at hf;cases hf
structure Hl (G:UG) (a:List Nat):Prop extends Lb G a where
 eq:∀i k,i<G.m→G.Sm i k→a.getD i 0=a.getD k 0
def DD (G:UG):List Nat:=List.range G.m
end UG
end Go.Ab
end
section
namespace Go.Ab
set_option maxRecDepth 10000
set_option linter.unusedSectionVars false
namespace UG
variable {G:UG}
def Cut (G:UG) (x:Nat):Prop:=∃i k a b,G.J i x a∧G.J k x b∧¬G.Sm i k
def vi (G:UG) (A:Nat→Prop) (v:Nat):Prop:=A v∧∀y,G.Cn A v y→v≤y
open Classical in
noncomputable def lM (G:UG) (A:Nat→Prop):Nat:=((List.range G.n).filter fun v=>decide (G.vi A v)).length
theorem mK {A:Nat→Prop} :∀(v:Nat),A v→∃u,G.Cn A v u∧G.vi A u
 |v,hv=>by
  by_cases h:∀y,G.Cn A v y→v≤y
  ·exact ⟨v, .refl hv,hv,h⟩
  ·simp only [Classical.not_forall,Nat.not_le] at h
   obtain ⟨y,h1,h2⟩:=h
   obtain ⟨u,h3,h4⟩:=mK y h1.yW
   exact ⟨u,h1.trans h3,h4⟩
 termination_by v=>v
theorem qG {A:Nat→Prop} {u v:Nat} (hu:G.vi A u) (hv:G.vi A v) (h:G.Cn A u v):u=v:=
 Nat.le_antisymm (hu.2 v h) (hv.2 u h.symm)
theorem ux (hG:G.Ok) {A:Nat→Prop} {u v:Nat} (hu:u<G.n) (h:G.Cn A u v):v<G.n:=by
 cases h with
 |refl _=>exact hu
 |step _ j _=>exact (j.lt hG).2.1
theorem qH {f:Nat→Nat} :∀ {l:List Nat} {l':List Nat},l.Nodup→(∀a∈l,f a∈l')→(∀a∈l,∀b∈l,f a=f b→a=b)→(l.map f).Nodup∧l.length≤l'.length:=by
 intro l l' hn hm hi
 have h1:(l.map f).Nodup:=by
  induction l with
  |nil=>simp
  |cons a l ih=>
   rw [List.nodup_cons] at hn
   rw [List.map_cons,List.nodup_cons]
   refine ⟨fun h=> ?_,ih hn.2 (fun a ha=>hm a (List.mem_cons_of_mem _ ha)) fun a ha b hb=>hi a (List.mem_cons_of_mem _ ha) b (List.mem_cons_of_mem _ hb)⟩
   obtain ⟨b,hb,e⟩:=List.mem_map.1 h
   have:=hi b (List.mem_cons_of_mem _ hb) a (by simp) e
   exact hn.1 (by rw [← this];exact hb)
 refine ⟨h1, ?_⟩
 have:=h1.length_le_of_subset (l₂:=l') fun b hb=>by
  obtain ⟨a,ha,rfl⟩:=List.mem_map.1 hb
  exact hm a ha
 rwa [List.length_map] at this
open Classical in
theorem fu {A:Nat→Prop} {v:Nat} :v∈(List.range G.n).filter (fun v=>decide (G.vi A v))↔v<G.n∧G.vi A v:=by simp
section
variable (hG:G.Ok)
include hG
theorem beside {x v:Nat} (hx:¬G.Cut x) (hv:v≠x) {z:Nat} (h:G.Cn (fun _=>True) v z):(z≠x→G.Cn (fun u=>u≠x) v z)∧(z=x→∃e p,G.J e x p∧G.Cn (fun u=>u≠x) v p):=by
 induction h with
 |refl _=>exact ⟨fun h=> .refl h,fun h=>absurd h hv⟩
 | @step y z i _ j _ ih=>
   refine ⟨fun hz=> ?_,fun hz=> ?_⟩
   ·by_cases hy:y=x
    ·subst hy
     obtain ⟨e,p,h1,h2⟩:=ih.2 rfl
     have hS:G.Sm e i:=Classical.byContradiction fun h0=>hx ⟨e,i,p,z,h1,j,h0⟩
     exact h2.trans (yf hG hS h1 j)
    ·exact .step (ih.1 hy) j hz
   ·subst hz
    have hy:y≠z:=(j.lt hG).2.2
    exact ⟨i,y,j.symm,ih.1 hy⟩
open Classical in
theorem DE {x:Nat} (hx:¬G.Cut x):lM G (fun u=>u≠x)≤lM G (fun _=>True):=by
 unfold lM
 have hf:∀v,∃u,G.Cn (fun _=>True) v u∧G.vi (fun _=>True) u:=fun v=>mK v trivial
 refine (qH (f:=fun v=>(hf v).choose) (List.nodup_range.filter _) (fun v hv=> ?_) fun v hv w hw e=> ?_).2
 ·rw [fu] at hv ⊢
  have h1:=(hf v).choose_spec
  exact ⟨ux hG hv.1 h1.1,h1.2⟩
 ·rw [fu] at hv hw
  have h1:=(hf v).choose_spec.1
  have h2:=(hf w).choose_spec.1
  rw [← (show (hf v).choose=(hf w).choose from e)] at h2
  exact qG hv.2 hw.2 ((beside hG hx hv.2.1 (h1.trans h2.symm)).1 hw.2.1)
open Classical in
theorem AK {x:Nat} (hx:G.Cut x):lM G (fun _=>True)<lM G (fun u=>u≠x):=by
 obtain ⟨i,k,a,b,h1,h2,h3⟩:=hx
 have hab:¬G.Cn (fun u=>u≠x) a b:=fun h=>h3 (.step .refl ⟨x,a,b,h1,h2,h⟩)
 obtain ⟨u,DF,F7⟩:=mK (G:=G) (A:=fun u=>u≠x) a (Ne.symm (h1.lt hG).2.2)
 obtain ⟨w,hw1,F8⟩:=mK (G:=G) (A:=fun u=>u≠x) b (Ne.symm (h2.lt hG).2.2)
 have EE:G.Cn (fun _=>True) x u:=(Cn.one h1 trivial trivial).trans (DF.mono fun _ _=>trivial)
 have F9:G.Cn (fun _=>True) x w:=(Cn.one h2 trivial trivial).trans (hw1.mono fun _ _=>trivial)
 have hun:u<G.n:=ux hG (h1.lt hG).2.1 DF
 have hwn:w<G.n:=ux hG (h2.lt hG).2.1 hw1
 have Ga:u≠w:=fun e=>hab (DF.trans (by rw [e];exact hw1.symm))
 let f:Nat→Nat:=fun v=>if G.Cn (fun _=>True) x v then u else v
 have key:=qH (f:=f) (l:=(List.range G.n).filter fun v=>decide (G.vi (fun _=>True) v)) (l':=((List.range G.n).filter fun v=>decide (G.vi (fun u=>u≠x) v)).erase w) (List.nodup_range.filter _) (fun v hv=> ?_) fun v hv v' s9 e=> ?_
 ·have qC:w∈(List.range G.n).filter fun v=>decide (G.vi (fun u=>u≠x) v):=fu.2 ⟨hwn,F8⟩
  have:=key.2
  rw [List.length_erase_of_mem qC] at this
  have:=List.length_pos_of_mem qC
  unfold lM
  omega
 ·rw [fu] at hv
  show (if _ then _ else _)∈_
  split
  ·rw [List.mem_erase_of_ne Ga,fu]
   exact ⟨hun,F7⟩
  ·rename_i hc
   have DA:v≠w:=fun e=>hc (by rw [e];exact F9)
   rw [List.mem_erase_of_ne DA,fu]
   exact ⟨hv.1,fun e=>hc (by rw [e];exact .refl trivial),fun y hy=>hv.2.2 y (hy.mono fun _ _=>trivial)⟩
 ·rw [fu] at hv s9
  have e':(if G.Cn (fun _=>True) x v then u else v)=if G.Cn (fun _=>True) x v' then u else v':=e
  split at e'<;>split at e'
  ·rename_i c1 c2
   exact qG hv.2 s9.2 (c1.symm.trans c2)
  ·rename_i c1 c2
   exact absurd (by rw [← e'];exact EE) c2
  ·rename_i c1 c2
   exact absurd (by rw [e'];exact EE) c1
  ·exact e'
end
def bP (G:UG) (b:List Nat) (x:Nat):Bool:=b.any fun i=>decide (G.T i=x)||decide (G.H i=x)
theorem dO {b:List Nat} (hb:∀i∈b,i<G.m) {x:Nat} :bP G b x=true↔∃i∈b,∃a,G.J i x a:=by
 unfold bP
 simp only [List.any_eq_true,Bool.or_eq_true,decide_eq_true_eq]
 constructor
 ·rintro ⟨i,h1,h2|h2⟩
  ·exact ⟨i,h1,_,hb i h1, .inl ⟨h2,rfl⟩⟩
  ·exact ⟨i,h1,_,hb i h1, .inr ⟨rfl,h2⟩⟩
 ·rintro ⟨i,h1,a,_,h2|h2⟩
  ·exact ⟨i,h1, .inl h2.1⟩
  ·exact ⟨i,h1, .inr h2.2⟩
theorem dW {b:List Nat} (hb:b∈G.aM) {i:Nat} (hi:i∈b):i<G.m:=by
 unfold aM at hb
 obtain ⟨j,_,rfl⟩:=List.mem_map.1 hb
 exact (bT.1 hi).1
theorem qI {i:Nat} (hi:i<G.m):∃b∈G.aM,i∈b:=by
 obtain ⟨j,h1,h2⟩:∃j,G.Sm i j∧∀k,G.Sm i k→j≤k:=by
  have:∀n,∀j,j≤n→G.Sm i j→∃j,G.Sm i j∧∀k,G.Sm i k→j≤k:=by
   intro n
   induction n with
   |zero=>intro j hj hS;exact ⟨j,hS,fun k _=>by omega⟩
   |succ n ih=>
    intro j hj hS
    by_cases h:∀k,G.Sm i k→j≤k
    ·exact ⟨j,hS,h⟩
    ·simp only [Classical.not_forall,Nat.not_le] at h
     obtain ⟨k,h1,h2⟩:=h
     exact ih k (by omega) h1
  exact this i i (Nat.le_refl _) .refl
 refine ⟨G.cL j,List.mem_map_of_mem (List.mem_filter.2 ⟨List.mem_range.2 (h1.lt hi),dn.2 fun k hk=>h2 k (h1.trans hk)⟩),bT.2 ⟨hi,h1.symm⟩⟩
theorem uy {b c:List Nat} (hb:b∈G.aM) (hc:c∈G.aM) {i k:Nat} (hi:i∈b) (hk:k∈c) (hS:G.Sm i k):b=c:=by
 unfold aM at hb hc
 obtain ⟨x,hx,rfl⟩:=List.mem_map.1 hb
 obtain ⟨y,hy,rfl⟩:=List.mem_map.1 hc
 rw [List.mem_filter,List.mem_range] at hx hy
 have h1:=(bT.1 hi).2.trans (hS.trans (bT.1 hk).2.symm)
 have h2:=dn.1 hx.2 y h1
 have h3:=dn.1 hy.2 x h1.symm
 have:x=y:=by omega
 rw [this]
theorem v8:G.aM.Nodup:=by
 unfold aM
 have hn:((List.range G.m).filter fun i=>G.sF i).Nodup:=List.nodup_range.filter _
 unfold List.Nodup at hn ⊢
 rw [List.pairwise_map]
 refine hn.imp_of_mem fun {x y} hx hy hne e=>hne ?_
 rw [List.mem_filter,List.mem_range] at hx hy
 have h1:x∈G.cL y:=by rw [← e];exact bT.2 ⟨hx.1, .refl⟩
 have h2:=(bT.1 h1).2
 have h3:=dn.1 hx.2 y h2.symm
 have h4:=dn.1 hy.2 x h2
 omega
theorem l8 (hG:G.Ok) {x:Nat} :G.Cut x↔1<(G.aM.filter fun b=>bP G b x).length:=by
 constructor
 ·rintro ⟨i,k,a,b,h1,h2,h3⟩
  obtain ⟨bi,g1,g2⟩:=qI h1.1
  obtain ⟨bk,g3,g4⟩:=qI h2.1
  have hne:bi≠bk:=by
   rintro rfl
   obtain ⟨j,_,_,hj⟩:=(iE g1).1
   exact h3 (((hj i).1 g2).symm.trans ((hj k).1 g4))
  have:=List.Nodup.length_le_of_subset (l₁:= [bi,bk]) (l₂:=G.aM.filter fun b=>bP G b x) (by simp [hne]) fun b hb=>by
   rcases List.mem_cons.1 hb with rfl|hb
   ·exact List.mem_filter.2 ⟨g1,(dO fun i hi=>dW g1 hi).2 ⟨i,g2,a,h1⟩⟩
   ·rw [List.mem_singleton] at hb
    subst hb
    exact List.mem_filter.2 ⟨g3,(dO fun i hi=>dW g3 hi).2 ⟨k,g4,_,h2⟩⟩
  exact this
 ·intro h
  have bU:(G.aM.filter fun b=>bP G b x).Nodup:=v8.filter _
  match hl:G.aM.filter fun b=>bP G b x with
  | []=>rw [hl] at h;simp at h
  | [b]=>rw [hl] at h;simp at h
  |b::c::r=>
   have hb:b∈G.aM.filter fun b=>bP G b x:=by rw [hl];simp
   have hc:c∈G.aM.filter fun b=>bP G b x:=by rw [hl];simp
   rw [List.mem_filter] at hb hc
   obtain ⟨i,h1,a,h2⟩:=(dO fun i hi=>dW hb.1 hi).1 hb.2
   obtain ⟨k,h3,a',h4⟩:=(dO fun i hi=>dW hc.1 hi).1 hc.2
   refine ⟨i,k,a,a',h2,h4,fun hS=> ?_⟩
   have:=uy hb.1 hc.1 h1 h3 hS
   rw [hl,this] at bU
   simp at bU
end UG
end Go.Ab
end
section
namespace Go.Ab
open Go.Proofs
set_option maxRecDepth 10000
def uz (q:Nat→Bool):Nat→Nat
 |0=>0
 |n+1=>uz q n ||| (if q n then 2 ^ n else 0)
theorem iF {q:Nat→Bool} {y:Nat} :∀ {n:Nat},(uz q n).testBit y=(decide (y<n)&&q y)
 |0=>by simp [uz]
 |n+1=>by
  rw [uz,Nat.testBit_or,iF]
  by_cases h:y=n
  ·subst h
   cases hq:q y<;>simp [Nat.testBit_two_pow_self]
  ·have h2:(if q n then 2 ^ n else 0).testBit y=false:=by
    split
    ·rw [Nat.testBit_two_pow];exact decide_eq_false fun e=>h e.symm
    ·simp
   rw [h2,Bool.or_false]
   congr 1
   rw [decide_eq_decide];omega
inductive fI (g:Gr) (both:Bool) (c:Nat→Bool) (x:Nat):Nat→Prop
 |refl:fI g both c x x
 |fwd {i:Nat} :i<g.es.length→c i=true→fI g both c x (tl g i).toNat→fI g both c x (hd g i).toNat
 |vj {i:Nat} :i<g.es.length→c i=true→both=true→fI g both c x (hd g i).toNat→fI g both c x (tl g i).toNat
theorem fI.trans {g:Gr} {both:Bool} {c:Nat→Bool} {x y z:Nat} (h1:fI g both c x y) (h2:fI g both c y z):fI g both c x z:=by
 induction h2 with
 |refl=>exact h1
 |fwd a b _ ih=>exact .fwd a b ih
 |vj a b d _ ih=>exact .vj a b d ih
open Classical in
noncomputable def DG (g:Gr) (both:Bool) (c:Nat→Bool) (x:Nat):Nat:=uz (fun y=>decide (fI g both c x y)) g.n.toNat
noncomputable def EF (g:Gr) (both:Bool) (c:Nat→Bool):List Nat:=(List.range g.n.toNat).map (DG g both c)
open Classical in
theorem BL {g:Gr} {both:Bool} {c:Nat→Bool} {x y:Nat} :(DG g both c x).testBit y=true↔y<g.n.toNat∧fI g both c x y:=by
 unfold DG
 rw [iF]
 simp
def AL (g:Gr) (both:Bool) (c:Nat→Bool) (a:List Nat):Nat→List Nat × Bool
 |0=>(a,false)
 |k+1=>
  let s:=AL g both c a k
  if c k=true then
   let t:=s.1.getD (tl g k).toNat 0 ||| s.1.getD (hd g k).toNat 0
   let h:=if both=true then t else s.1.getD (hd g k).toNat 0
   ((s.1.set (tl g k).toNat t).set (hd g k).toNat h,s.2||(decide (t≠s.1.getD (tl g k).toNat 0)||decide (h≠s.1.getD (hd g k).toNat 0)))
  else s
theorem cq {l:List Nat} {i j:Nat} {a:Nat} (hi:i<l.length):(l.set i a).getD j 0=if j=i then a else l.getD j 0:=by
 rw [List.getD_eq_getElem?_getD,List.getElem?_set]
 by_cases h:i=j
 ·subst h;rw [if_pos rfl,if_pos hi,if_pos rfl];rfl
 ·rw [if_neg h,if_neg (Ne.symm h), ← List.getD_eq_getElem?_getD]
structure EG (g:Gr) (both:Bool) (c:Nat→Bool) (a:List Nat):Prop where
 len:a.length=g.n.toNat
 own:∀x,x<g.n.toNat→(a.getD x 0).testBit x=true
 snd:∀x y,x<g.n.toNat→(a.getD x 0).testBit y=true→y<g.n.toNat∧fI g both c x y
theorem EG.lt {g:Gr} {both:Bool} {c:Nat→Bool} {a:List Nat} (h:EG g both c a) (hn:g.n.toNat≤64) (x:Nat):a.getD x 0<18446744073709551616:=by
 by_cases hx:x<g.n.toNat
 ·have:a.getD x 0<2 ^ 64:=Nat.lt_pow_two_of_testBit _ fun i hi=>by
   cases hb:(a.getD x 0).testBit i with
   |false=>rfl
   |true=>have:=(h.snd x i hx hb).1;omega
  simpa using this
 ·rw [List.getD_eq_getElem?_getD,List.getElem?_eq_none (by rw [h.len];omega)];simp
def Gb (a:List Nat):Nat:=a.foldr (· + ·) 0
end Go.Ab
end
section
namespace Go.Ab
open Go.Proofs
attribute [local congr] ACall.congr gd.congr Nx.congr
set_option maxRecDepth 20000
set_option maxHeartbeats 8000000
def rU (n:Nat):List D:= [.sc (.int .u64 (n:Int))]
def eU (n:Nat):AV:= .d (.sc (.int .u64 (n:Int)))
def sU (l:List Nat):D:= .sl 1 (l.map rU)
theorem getD_rU (ps:List Nat) (i:Nat):(ps.map rU).getD i [.sc (.int .u64 0)]= [.sc (.int .u64 ((ps.getD i 0:Nat):Int))]:=by
 rw [List.getD_eq_getElem?_getD,List.getElem?_map,List.getD_eq_getElem?_getD]
 cases ps[i]? <;>rfl
attribute [go_sem] eU sU getD_rU InU
end Go.Ab
end
section
namespace Go.Ab
end Go.Ab
end
section
namespace Go.Ab
open Go.Proofs
attribute [local congr] ACall.congr gd.congr Nx.congr
set_option maxRecDepth 10000
def g0:Gr:=⟨3, [(0,1),(1,2),(2,1)]⟩
end Go.Ab
end
section
namespace Go.Ab
open Go.Proofs
attribute [local congr] ACall.congr gd.congr Nx.congr
set_option maxRecDepth 10000
def Gc (g:Gr):Bool:=decide (g.n≤((ua g).length:Int))
def Gd (g:Gr):List Int:=if Gc g then ua g else []
def AM (l:List Int) (n:Int):Bool:=decide ((l.length:Int)=n)&&(List.range n.toNat).all fun x:Nat=>decide ((x:Int)∈l)
end Go.Ab
end
section
namespace Go.Ab
open Go.Proofs
attribute [local congr] ACall.congr gd.congr Nx.congr
set_option maxRecDepth 10000
def DH (n:Nat):List Int:=(List.range n).map Int.ofNat
def y5 (n:Nat) (l:List Int):Nat→List Int
 |0=>List.replicate n 0
 |k+1=>(y5 n l k).set (l.getD k 0).toNat k
theorem atK_length {n:Nat} {l:List Int} :∀ {k:Nat},(y5 n l k).length=n
 |0=>by simp [y5]
 |k+1=>by simp [y5,atK_length (k:=k)]
def yg (g:Gr) (l:List Int) (j:Nat):Bool:=(List.range j).all fun i=>decide ((y5 g.n.toNat l l.length).getD (tl g i).toNat 0<(y5 g.n.toNat l l.length).getD (hd g i).toNat 0)
def DI (g:Gr) (l:List Int):Bool:=AM l g.n&&yg g l g.es.length
attribute [go_sem] atK_length
end Go.Ab
end
section
namespace Go.Ab
def Ho (g:Gr) (out:List Int):Prop:=∀p,p<out.length→out.getD p 0=iY (x9 g (out.take p)) 0∧0≤out.getD p 0
end Go.Ab
end
section
namespace Go.Ab
open Go.Proofs
attribute [local congr] ACall.congr gd.congr Nx.congr
set_option maxRecDepth 10000
end Go.Ab
end
section
namespace Go.Ab
open Go.Proofs
attribute [local congr] ACall.congr gd.congr Nx.congr
set_option maxRecDepth 10000
def gz:Gr:=⟨0, []⟩
def vz:D:= .pt [.sc (.int .i64 0), .sl 2 [], .sl 1 [], .sl 1 []]
def pU (f:Edge→Int) (g:Gr) (x:Int):List Int:=if 0≤x∧x<g.n then uh f g.es g.es.length x else []
end Go.Ab
end
section
namespace Go.Ab
open Go.Proofs
attribute [local congr] ACall.congr gd.congr Nx.congr
set_option maxRecDepth 10000
abbrev It:=Int × Int × Int
def rT (t:It):List D:= [.sc (.int .i64 t.1), .sc (.int .i64 t.2.1), .sc (.int .i64 t.2.2)]
def eT (t:It):AV:= .agg [.d (.sc (.int .i64 t.1)), .d (.sc (.int .i64 t.2.1)), .d (.sc (.int .i64 t.2.2))]
def sT (ts:List It):D:= .sl 3 (ts.map rT)
theorem getD_rT (ps:List It) (i:Nat):(ps.map rT).getD i [.sc (.int .i64 0), .sc (.int .i64 0), .sc (.int .i64 0)]=rT (ps.getD i (0,0,0)):=by
 simp only [List.getD_eq_getElem?_getD,List.getElem?_map]
 cases ps[i]? <;>rfl
theorem rT_eq (t:It):rT t= [.sc (.int .i64 t.1), .sc (.int .i64 t.2.1), .sc (.int .i64 t.2.2)]:=rfl
attribute [go_sem] getD_rT rT_eq eT sT
theorem AN {l:List Int} :∀r∈l.map rI,∀x∈r,∃v,x=D.sc v:=by
 intro r hr x hx
 obtain ⟨y,_,rfl⟩:=List.mem_map.1 hr
 simp only [rI,List.mem_singleton] at hx
 exact ⟨_,hx⟩
theorem AO {l:List It} :∀r∈l.map rT,∀x∈r,∃v,x=D.sc v:=by
 intro r hr x hx
 obtain ⟨y,_,rfl⟩:=List.mem_map.1 hr
 simp only [rT,List.mem_cons,List.not_mem_nil,or_false] at hx
 rcases hx with h|h|h<;>exact ⟨_,h⟩
def vT (ls:List (List It)):List (List D):=ls.map fun l=> [sT l]
theorem vT_length {ls:List (List It)} :(vT ls).length=ls.length:=by simp [vT]
attribute [go_sem] vT_length
end Go.Ab
end
section
namespace Go.Ab
open Go.Proofs
attribute [local congr] ACall.congr gd.congr Nx.congr
set_option maxRecDepth 20000
set_option maxHeartbeats 8000000
def DJ (k:Nat):List Nat:=(List.range k).map fun x=>2 ^ x
def EH (g:Gr):List Nat:=if aQ g=true then DJ g.n.toNat else []
theorem AP {l:List Nat} :∀r∈l.map rU,∀x∈r,∃v,x=D.sc v:=by
 intro r hr x hx
 obtain ⟨y,_,rfl⟩:=List.mem_map.1 hr
 simp only [rU,List.mem_singleton] at hx
 exact ⟨_,hx⟩
noncomputable def Hp (g:Gr):List Nat:=if aQ g=true then EF g false (fun _=>true) else []
end Go.Ab
end
section
namespace Go.Ab
open Go.Proofs
attribute [local congr] ACall.congr gd.congr Nx.congr
set_option maxRecDepth 20000
set_option maxHeartbeats 8000000
def ug (g:Gr):UG:=⟨g.n.toNat,g.es.length,fun i=>(tl g i).toNat,fun i=>(hd g i).toNat⟩
def rN (n:Nat):List D:= [.sc (.int .i64 (n:Int))]
def sN (l:List Nat):D:= .sl 1 (l.map rN)
def lp (l:List Nat):List D:= [sN l]
def sNL (l:List (List Nat)):D:= .sl 1 (l.map lp)
theorem getD_rN (ps:List Nat) (i:Nat):(ps.map rN).getD i [.sc (.int .i64 0)]= [.sc (.int .i64 ((ps.getD i 0:Nat):Int))]:=by
 rw [List.getD_eq_getElem?_getD,List.getElem?_map,List.getD_eq_getElem?_getD]
 cases ps[i]? <;>rfl
theorem aH (l:List Nat) (k:Nat) (v:Nat):(l.map rN).set k [.sc (.int .i64 (v:Int))]=(l.set k v).map rN:=by
 rw [List.map_set];rfl
attribute [go_sem] sN sNL getD_rN
theorem gQ {n:Nat} :List.replicate n [D.sc (.int .i64 0)]=(List.replicate n 0).map rN:=by simp [rN]
def aW (g:Gr):Bool:= !g.es.any fun e=>decide (e.1=e.2)
theorem lN {g:Gr} (hm:aQ g=true) (hl:aW g=true):(ug g).Ok:=by
 have key:∀i,i<g.es.length→(0≤tl g i∧tl g i<g.n)∧(0≤hd g i∧hd g i<g.n)∧tl g i≠hd g i:=fun i hi=>by
  refine ⟨oc hm hi,od hm hi,fun e=> ?_⟩
  simp only [aW,Bool.not_eq_true',List.any_eq_false,decide_eq_true_eq] at hl
  refine hl (g.es.getD i (0,0)) ?_ e
  rw [List.getD_eq_getElem?_getD,List.getElem?_eq_getElem hi]
  exact List.getElem_mem hi
 refine ⟨fun i hi=> ?_,fun i hi=> ?_,fun i hi=> ?_⟩<;>(have:=key i hi;simp only [ug];omega)
def dX (g:Gr) (k x:Nat):List Nat:=(List.range k).filter fun i=>decide ((tl g i).toNat=x)||decide ((hd g i).toNat=x)
def fC (g:Gr) (k:Nat):List (List (List D)):=(List.range g.n.toNat).map fun x=>(dX g k x).map rN
theorem eO {g:Gr} {k:Nat} :(fC g k).length=g.n.toNat:=by simp [fC]
theorem eP {g:Gr} {k x:Nat} (hx:x<g.n.toNat):(fC g k)[x]? =some ((dX g k x).map rN):=by
 simp [fC,List.getElem?_range hx]
theorem lP {g:Gr} {k x:Nat} :(dX g k x).length≤k:=by
 simpa [dX] using List.length_filter_le (fun i=>decide ((tl g i).toNat=x)||decide ((hd g i).toNat=x)) (List.range k)
theorem pV {g:Gr} {k x:Nat} :dX g (k+1) x=dX g k x++if (tl g k).toNat=x∨(hd g k).toNat=x then [k] else []:=by
 simp only [dX,List.range_succ,List.filter_append,List.filter_cons,List.filter_nil]
 split<;>simp_all
theorem pW {g:Gr} :List.replicate g.n.toNat []=fC g 0:=by
 refine List.ext_getElem? fun i=> ?_
 by_cases hi:i<g.n.toNat
 ·rw [eP hi];simp [hi,dX]
 ·rw [List.getElem?_eq_none (by simp;omega),List.getElem?_eq_none (by rw [eO];omega)]
theorem pX {g:Gr} {k t h:Nat} (ht:(tl g k).toNat=t) (hh:(hd g k).toNat=h) (hne:t≠h) (htn:t<g.n.toNat) (Ge:h<g.n.toNat):
 ((fC g k).set t ((dX g k t).map rN++ [[.sc (.int .i64 k)]])).set h ((dX g k h).map rN++ [[.sc (.int .i64 k)]])=fC g (k+1):=by
 refine List.ext_getElem? fun i=> ?_
 rw [List.getElem?_set,List.getElem?_set,List.length_set,eO]
 by_cases hi:i<g.n.toNat
 ·rw [eP hi,eP hi,pV,ht,hh]
  by_cases e1:h=i
  ·subst e1;simp [Ge,rN]
  ·by_cases e2:t=i
   ·subst e2;simp [htn,rN,e1]
   ·simp [e1,e2]
 ·rw [List.getElem?_eq_none (by rw [eO];omega),List.getElem?_eq_none (by rw [eO];omega)]
  rw [if_neg (by omega),if_neg (by omega)]
def bL (g:Gr) (cnt:Nat) (st bl:AV):List AV:= [eN g.n, .d (sE g.es), .d (sNL ((List.range g.n.toNat).map fun x=>(ug g).ends x)), .ref 10001, .ref 10002,eN cnt,st,bl]
theorem rQ {g:Gr} :(fC g g.es.length).map (fun r=> [D.sl 1 r])=((List.range g.n.toNat).map fun x=>(ug g).ends x).map lp:=by
 unfold fC
 rw [List.map_map,List.map_map]
 rfl
theorem pY (g:Gr) (hm:aQ g=true) (hl:aW g=true):Spec Try.prog 39 (Args [eG g]) [] (.ptr 10000 0)
 [(10000, .box (bL g 0 (.nil 3) (.nil 25))),(10001, .own 3 1 ((List.replicate g.n.toNat 0).map rN)),(10002, .own 3 1 ((List.replicate g.n.toNat 0).map rN))]:=by
 have hn:=eo hm
 (refine Spec.z6 (C:=T.cfg [12,15] [9]) (rs:= [.t 2]) [(10000,17),(10001,12),(10002,15)] (T.aI _ _) Try.func39 rfl rfl Try.ntmps39 Try.results39 (by simp [AObj.isNest]) (by simp [AObj.isNest]) (by first|(simp [look];done)|(simp [asN];done)|(intro l hl;simp only [asN];repeat (rw [if_neg (fun e=>by subst e;simp [look] at hl)]))) (by first|(simp [look];done)|(simp [asN];done)|(intro l hl;simp only [asN];repeat (rw [if_neg (fun e=>by subst e;simp [look] at hl)]))) (by kernel_rfl) T.mixed fun X hX hP hC cz gV=> ?_)
 repeat' (first|refine Rn.p ?_|(with_reducible apply And.intro)|((first|(refine hK _ ?_;clear hK K)|with_reducible intro K hK|refine Rs.p ?_|((with_reducible first|apply oP|apply oQ);exact rfl));try simp only [go_sem,simprocAttr,gQ])|((with_reducible refine oD ?_ ?_);first|(focus (simp only [jh,bF,bI,meets,cD,bW,gM,aP,cK,cE,Rec.rs,Rec.fG,Rec.nD,aV,Rec.aK,Rec.names,KV.ids,dG,dH,dI,dJ,dK,dL,List.zip_cons_cons,List.zip_nil_right,List.zipIdx_cons,List.zipIdx_nil,List.all_cons,List.all_nil,List.contains_cons,List.contains_nil,List.any_cons,List.any_nil,List.flatMap_nil,List.reverse_cons,List.reverse_nil,dS,eW,Region.binds,go_sem,simprocAttr,gQ];done))|kernel_rfl)|((with_reducible intro h);try simp only [go_sem,simprocAttr,gQ] at h)|omega|intro h)
 refine nP hX 9 (by simp [go_sem,simprocAttr,gQ];exact ⟨rfl,rfl,rfl,rfl⟩) (by decide) (by simp [go_sem,simprocAttr,gQ]) (by simp [go_sem,simprocAttr,gQ]) ?_
 simp only [go_sem,simprocAttr,gQ]
 refine au (fun k:Nat=>k≤g.es.length) (fun k=>⟨[(21,eN k),(20,eN g.es.length),(19, .d (sE g.es)),(3, .ptr 17 0)], [(17, .box [eN g.n, .d (sE g.es), .ref 9, .ref 12, .ref 15,eN 0, .nil 3, .nil 25]),(9, .nest 25 3 1 (fC g k) none),(12, .own 3 1 ((List.replicate g.n.toNat 0).map rN)),(15, .own 3 1 ((List.replicate g.n.toNat 0).map rN))]⟩) (fun k=>g.es.length - k) 0 (by simp) ?_ ?_
 ·refine Le.of ?_ ?_<;>simp [go_sem,simprocAttr]
  exact pW
 rintro k hk
 rcases Nat.lt_or_ge k g.es.length with hlt|hge
 ·have hb:decide ((k:Int)<(g.es.length:Int))=true:=decide_eq_true (by omega)
  obtain ⟨me,oT⟩:=fm hm hlt
  have hok:=(lN hm hl).ne k hlt
  obtain ⟨u,hu⟩:∃u:Nat,(g.es.getD k (0,0)).1=u:=⟨(g.es.getD k (0,0)).1.toNat,by omega⟩
  obtain ⟨v,hv⟩:∃v:Nat,(g.es.getD k (0,0)).2=v:=⟨(g.es.getD k (0,0)).2.toNat,by omega⟩
  have oR:(tl g k).toNat=u:=by show ((g.es.getD k (0,0)).1).toNat=u;rw [hu];rfl
  have rR:(hd g k).toNat=v:=by show ((g.es.getD k (0,0)).2).toNat=v;rw [hv];rfl
  have hne:u≠v:=fun e=>hok (by show (tl g k).toNat=(hd g k).toNat;rw [oR,rR,e])
  have hun:u<g.n.toNat:=by omega
  have AQ:v<g.n.toNat:=by omega
  have cT:=pX oR rR hne hun AQ
  have hg1:=eP (g:=g) (k:=k) hun
  have hg2:((fC g k).set u ((dX g k u).map rN++ [[.sc (.int .i64 k)]]))[v]? =some ((dX g k v).map rN):=by
   rw [List.getElem?_set,if_neg hne];exact eP AQ
  have gR:=lP (g:=g) (k:=k) (x:=u)
  have gA:=lP (g:=g) (k:=k) (x:=v)
  have hrl:=eO (g:=g) (k:=k)
  generalize dX g k u=eu at*
  generalize dX g k v=ev at*
  generalize fC g k=Hq at*
  repeat' (first|refine Rn.p ?_|(with_reducible apply And.intro)|((first|(refine hK _ ?_;clear hK K)|with_reducible intro K hK|refine Rs.p ?_|((with_reducible first|apply oP|apply oQ);exact rfl));try simp only [go_sem,simprocAttr,hb,hu,hv,hg1,hg2,hrl])|((with_reducible refine oD ?_ ?_);first|(focus (simp only [jh,bF,bI,meets,cD,bW,gM,aP,cK,cE,Rec.rs,Rec.fG,Rec.nD,aV,Rec.aK,Rec.names,KV.ids,dG,dH,dI,dJ,dK,dL,List.zip_cons_cons,List.zip_nil_right,List.zipIdx_cons,List.zipIdx_nil,List.all_cons,List.all_nil,List.contains_cons,List.contains_nil,List.any_cons,List.any_nil,List.flatMap_nil,List.reverse_cons,List.reverse_nil,dS,eW,Region.binds,go_sem,simprocAttr,hb,hu,hv,hg1,hg2,hrl];done))|kernel_rfl)|((with_reducible intro h);try simp only [go_sem,simprocAttr,hb,hu,hv,hg1,hg2,hrl] at h)|omega|intro h)
  refine ⟨k+1,by omega, ?_,by omega⟩
  rw [← cT]
  refine Le.of ?_ ?_<;>simp [go_sem,simprocAttr,hb,hu,hv,hg1,hg2,hrl]
 ·have hb:decide ((k:Int)<(g.es.length:Int))=false:=decide_eq_false (by omega)
  obtain rfl:k=g.es.length:=by omega
  (refine nR hX 9 rfl (by decide) ?_;simp only [go_sem,simprocAttr,hb])
  rw [rQ]
  repeat' (first|refine Rn.p ?_|(with_reducible apply And.intro)|((first|(refine hK _ ?_;clear hK K)|with_reducible intro K hK|refine Rs.p ?_|((with_reducible first|apply oP|apply oQ);exact rfl));try simp only [go_sem,simprocAttr,hb])|((with_reducible refine oD ?_ ?_);first|(focus (simp only [jh,bF,bI,meets,cD,bW,gM,aP,cK,cE,Rec.rs,Rec.fG,Rec.nD,aV,Rec.aK,Rec.names,KV.ids,dG,dH,dI,dJ,dK,dL,List.zip_cons_cons,List.zip_nil_right,List.zipIdx_cons,List.zipIdx_nil,List.all_cons,List.all_nil,List.contains_cons,List.contains_nil,List.any_cons,List.any_nil,List.flatMap_nil,List.reverse_cons,List.reverse_nil,dS,eW,Region.binds,go_sem,simprocAttr,hb];done))|kernel_rfl)|((with_reducible intro h);try simp only [go_sem,simprocAttr,hb] at h)|omega|intro h)
  all_goals (simp [go_sem,simprocAttr,hb,bL])
end Go.Ab
end
section
namespace Go.Ab
open Go.Proofs
attribute [local congr] ACall.congr gd.congr Nx.congr
set_option maxRecDepth 20000
set_option maxHeartbeats 8000000
def DK (i:Nat) (k:Nat):Bool:= !decide ((k:Int)=(i:Int))
noncomputable def Gf (g:Gr) (i:Nat):Bool:=((EF g false (DK i)).getD (tl g i).toNat 0).testBit (hd g i).toNat
noncomputable def Gg (g:Gr) (k:Nat):List Int:=((List.range k).filter fun i=>Gf g i).map fun i:Nat=>(i:Int)
noncomputable def Hr (g:Gr):List Int:=if aQ g=true then Gg g g.es.length else []
end Go.Ab
end
section
namespace Go.Ab
open Go.Proofs
set_option maxRecDepth 10000
def gF (g:Gr) (both:Bool) (c:Nat→Bool) (a:List Bool):Nat→List Bool
 |0=>a
 |k+1=>if c k&&((gF g both c a k).getD (tl g k).toNat false||both&&(gF g both c a k).getD (hd g k).toNat false) then
   ((gF g both c a k).set (hd g k).toNat true).set (tl g k).toNat (((gF g both c a k).set (hd g k).toNat true).getD (tl g k).toNat false||both) else gF g both c a k
def iV (g:Gr) (both:Bool) (c:Nat→Bool) (a:List Bool):Nat→List Bool
 |0=>a
 |r+1=>gF g both c (iV g both c a r) g.es.length
theorem gu {l:List Bool} {i j:Nat} {a:Bool} (hi:i<l.length):(l.set i a).getD j false=if j=i then a else l.getD j false:=by
 rw [List.getD_eq_getElem?_getD,List.getElem?_set]
 by_cases h:i=j
 ·subst h;simp [hi]
 ·rw [if_neg h,if_neg (fun e=>h e.symm),List.getD_eq_getElem?_getD]
theorem iG {g:Gr} {both:Bool} {c:Nat→Bool} {a:List Bool} :∀ {k:Nat},(gF g both c a k).length=a.length
 |0=>rfl
 |k+1=>by
  rw [gF]
  split
  ·rw [List.length_set,List.length_set];exact iG
  ·exact iG
theorem cc {g:Gr} {both:Bool} {c:Nat→Bool} {a:List Bool} :∀ {r:Nat},(iV g both c a r).length=a.length
 |0=>rfl
 |r+1=>by rw [iV,iG];exact cc
section
variable {g:Gr} (hm:aQ g=true) {both:Bool} {c:Nat→Bool}
include hm
theorem we {k:Nat} (hk:k<g.es.length):(tl g k).toNat<g.n.toNat∧(hd g k).toNat<g.n.toNat:=by
 have h1:=oc hm hk
 have h2:=od hm hk
 omega
theorem fW {a:List Bool} (ha:a.length=g.n.toNat) {k:Nat} (hk:k<g.es.length) {y:Nat} :(gF g both c a (k+1)).getD y false=true↔
 (gF g both c a k).getD y false=true∨c k=true∧((gF g both c a k).getD (tl g k).toNat false=true∧(y=(hd g k).toNat)∨both=true∧(gF g both c a k).getD (hd g k).toNat false=true∧y=(tl g k).toNat):=by
 obtain ⟨ht,hh⟩:=we hm hk
 have hl:(gF g both c a k).length=g.n.toNat:=by rw [iG,ha]
 rw [gF]
 generalize gF g both c a k=b at hl
 cases hc:c k with
 |false=>simp
 |true=>
  simp only [Bool.true_and]
  by_cases hq:(b.getD (tl g k).toNat false||both&&b.getD (hd g k).toNat false)=true
  ·rw [if_pos hq,gu (by rw [List.length_set,hl];exact ht),gu (by rw [hl];exact hh),gu (by rw [hl];exact hh)]
   by_cases e1:y=(tl g k).toNat
   ·subst e1
    rw [if_pos rfl]
    by_cases e2:(tl g k).toNat=(hd g k).toNat
    ·rw [if_pos e2]
     simp only [Bool.true_or,true_iff]
     cases hb:b.getD (tl g k).toNat false with
     |true=>exact .inl rfl
     |false=>
      rw [hb] at hq
      rw [← e2,hb] at hq
      simp at hq
    ·rw [if_neg e2]
     cases hb:b.getD (tl g k).toNat false with
     |true=>simp
     |false=>
      rw [hb] at hq
      simp only [Bool.false_or,Bool.and_eq_true] at hq
      exact ⟨fun _=> .inr ⟨by simp, .inr ⟨hq.1,hq.2,rfl⟩⟩,fun _=>by rw [hq.1];rfl⟩
   ·rw [if_neg e1]
    by_cases e2:y=(hd g k).toNat
    ·subst e2
     rw [if_pos rfl]
     simp only [true_iff]
     cases hb:b.getD (tl g k).toNat false with
     |true=>exact .inr ⟨by simp, .inl ⟨by simp,by simp⟩⟩
     |false=>
      rw [hb] at hq
      simp only [Bool.false_or,Bool.and_eq_true] at hq
      exact .inl hq.2
    ·rw [if_neg e2]
     constructor
     ·intro h;exact .inl h
     ·rintro (h|⟨_,⟨_,h⟩|⟨_,_,h⟩⟩)
      ·exact h
      ·exact absurd h e2
      ·exact absurd h e1
  ·rw [if_neg hq]
   simp only [Bool.or_eq_true,Bool.and_eq_true,not_or,not_and] at hq
   constructor
   ·intro h;exact .inl h
   ·rintro (h|⟨_,⟨h,_⟩|⟨h1,h2,_⟩⟩)
    ·exact h
    ·exact absurd h hq.1
    ·exact absurd h2 (hq.2 h1)
theorem dP {a:List Bool} (ha:a.length=g.n.toNat) {y:Nat} (hy:a.getD y false=true):∀ {k:Nat},k≤g.es.length→(gF g both c a k).getD y false=true
 |0,_=>hy
 |k+1,hk=>(fW hm ha hk).2 (.inl (dP ha hy (by omega)))
theorem qJ {a:List Bool} (ha:a.length=g.n.toNat) {x:Nat} (hs:∀y,a.getD y false=true→fI g both c x y):∀ {k:Nat},k≤g.es.length→∀y,(gF g both c a k).getD y false=true→fI g both c x y
 |0,_,y,h=>hs y h
 |k+1,hk,y,h=>by
  have ih:=qJ ha hs (k:=k) (by omega)
  rcases (fW hm ha hk).1 h with h|⟨hc,⟨h1,rfl⟩|⟨h0,h1,rfl⟩⟩
  ·exact ih y h
  ·exact .fwd hk hc (ih _ h1)
  ·exact .vj hk hc h0 (ih _ h1)
theorem wg {a:List Bool} (ha:a.length=g.n.toNat) (hf:∀y,(gF g both c a g.es.length).getD y false=true→a.getD y false=true) {x y:Nat} (hx:a.getD x false=true) (h:fI g both c x y):a.getD y false=true:=by
 have up:∀ {j k:Nat},j≤k→k≤g.es.length→∀y,(gF g both c a j).getD y false=true→(gF g both c a k).getD y false=true:=by
  intro j k hjk
  induction hjk with
  |refl=>intro _ y h;exact h
  |step _ ih=>intro hk y h;exact (fW hm ha hk).2 (.inl (ih (by omega) y h))
 induction h with
 |refl=>exact hx
 | @fwd k hk hc _ ih=>exact hf _ (up (show k+1≤g.es.length from hk) (Nat.le_refl _) _ ((fW hm ha hk).2 (.inr ⟨hc, .inl ⟨dP hm ha ih (by omega),rfl⟩⟩)))
 | @vj k hk hc Gh _ ih=>exact hf _ (up (show k+1≤g.es.length from hk) (Nat.le_refl _) _ ((fW hm ha hk).2 (.inr ⟨hc, .inr ⟨Gh,dP hm ha ih (by omega),rfl⟩⟩)))
theorem qK {a:List Bool} (ha:a.length=g.n.toNat) {x:Nat} (hs:∀y,a.getD y false=true→fI g both c x y):∀r y,(iV g both c a r).getD y false=true→fI g both c x y
 |0,y,h=>hs y h
 |r+1,y,h=>qJ hm (by rw [cc];exact ha) (qK ha hs r) (Nat.le_refl _) y h
def iH (a:List Bool):Nat:=a.countP id
omit hm in
theorem uA:∀ {a b:List Bool},a.length=b.length→(∀y,a.getD y false=true→b.getD y false=true)→(∃y,b.getD y false=true∧a.getD y false=false)→iH a<iH b∧True
 | [], [],_,_,⟨y,h,_⟩=>by simp at h
 |p::a,q::b,hl,h,⟨y,h1,h2⟩=>by
  have le:∀ {a b:List Bool},a.length=b.length→(∀y,a.getD y false=true→b.getD y false=true)→iH a≤iH b:=by
   intro a
   induction a with
   |nil=>intro b _ _;exact Nat.zero_le _
   |cons p a ih=>
    intro b hl h
    cases b with
    |nil=>simp at hl
    |cons q b=>
     have:=ih (b:=b) (by simpa using hl) fun y=>by simpa using h (y+1)
     have h0:=h 0
     simp only [List.getD_cons_zero] at h0
     unfold iH at this ⊢
     rw [List.countP_cons,List.countP_cons]
     cases p with
     |false=>simp;omega
     |true=>simp [h0 rfl];omega
  have hl':a.length=b.length:=by simpa using hl
  have h':∀y,a.getD y false=true→b.getD y false=true:=fun y=>by simpa using h (y+1)
  refine ⟨?_,trivial⟩
  have hle:=le hl' h'
  unfold iH at hle ⊢
  rw [List.countP_cons,List.countP_cons]
  cases y with
  |zero=>
   simp only [List.getD_cons_zero] at h1 h2
   subst h1 h2
   simp;omega
  |succ y=>
   have ih:=(uA hl' h' ⟨y,by simpa using h1,by simpa using h2⟩).1
   unfold iH at ih
   have h0:=h 0
   simp only [List.getD_cons_zero] at h0
   cases p with
   |false=>simp;omega
   |true=>simp [h0 rfl];omega
omit hm in
theorem yh (a:List Bool):iH a≤a.length:=List.countP_le_length
theorem uB {a:List Bool} (ha:a.length=g.n.toNat) (r:Nat):(∀y,(iV g both c a (r+1)).getD y false=true→(iV g both c a r).getD y false=true)∨iH (iV g both c a r)<iH (iV g both c a (r+1)):=by
 by_cases h:∀y,(iV g both c a (r+1)).getD y false=true→(iV g both c a r).getD y false=true
 ·exact .inl h
 ·refine .inr (uA (cc.trans (cc (r:=r+1)).symm) (fun y hy=>dP hm (by rw [cc];exact ha) hy (Nat.le_refl _)) ?_).1
  simp only [Classical.not_forall] at h
  obtain ⟨y,h1,h2⟩:=h
  exact ⟨y,h1,by simpa using h2⟩
theorem uC {a:List Bool} (ha:a.length=g.n.toNat) {x:Nat} (hx:a.getD x false=true) (hs:∀y,a.getD y false=true→fI g both c x y) (hc1:0<iH a) (y:Nat):(iV g both c a g.n.toNat).getD y false=true↔fI g both c x y:=by
 refine ⟨qK hm ha hs _ y,fun h=> ?_⟩
 have Gi:∀r,(iV g both c a r).getD x false=true:=fun r=>by
  induction r with
  |zero=>exact hx
  |succ r ih=>exact dP hm (by rw [cc];exact ha) ih (Nat.le_refl _)
 have key:∀r,(∀y,fI g both c x y→(iV g both c a r).getD y false=true)∨r<iH (iV g both c a r):=by
  intro r
  induction r with
  |zero=>exact .inr hc1
  |succ r ih=>
   rcases ih with ih|ih
   ·exact .inl fun y hy=>dP hm (by rw [cc];exact ha) (ih y hy) (Nat.le_refl _)
   ·rcases uB hm ha r with h|h
    ·exact .inl fun y hy=>dP hm (by rw [cc];exact ha) (wg hm (by rw [cc];exact ha) h (Gi r) hy) (Nat.le_refl _)
    ·exact .inr (by omega)
 rcases key g.n.toNat with h1|h1
 ·exact h1 y h
 ·have:=yh (iV g both c a g.n.toNat)
  rw [cc,ha] at this
  omega
end
end Go.Ab
end
section
namespace Go.Ab
open Go.Proofs
attribute [local congr] ACall.congr gd.congr Nx.congr
set_option maxRecDepth 20000
set_option maxHeartbeats 8000000
theorem pZ (g:Gr) (hl:g.es.length≤1000):Spec Try.prog 43 (Args [eG g]) [] (.ref 10000) [(10000, .own 4 1 ((dN g.es.length g.es.length).map rB))]:=by
 have hz:=pS (n:=g.es.length)
 (refine Spec.z6 (C:=T.cfg [8] []) (rs:= [.t 2]) [(10000,8)] (T.aI _ _) Try.func43 rfl rfl Try.ntmps43 Try.results43 (by simp [AObj.isNest]) (by simp [AObj.isNest]) (by first|(simp [look];done)|(simp [asN];done)|(intro l hl;simp only [asN];repeat (rw [if_neg (fun e=>by subst e;simp [look] at hl)]))) (by first|(simp [look];done)|(simp [asN];done)|(intro l hl;simp only [asN];repeat (rw [if_neg (fun e=>by subst e;simp [look] at hl)]))) (by kernel_rfl) T.mixed fun X hX hP hC cz gV=> ?_)
 repeat' (first|refine Rn.p ?_|(with_reducible apply And.intro)|((first|(refine hK _ ?_;clear hK K)|with_reducible intro K hK|refine Rs.p ?_|((with_reducible first|apply oP|apply oQ);exact rfl));try simp only [go_sem,simprocAttr,hz])|((with_reducible refine oD ?_ ?_);kernel_rfl)|((with_reducible intro h);try simp only [go_sem,simprocAttr,hz] at h)|omega|intro h)
 refine au (fun k:Nat=>k≤g.es.length) (fun k=>⟨[(3, .ref 8),(4,eN k)], [(8, .own 4 1 ((dN g.es.length k).map rB))]⟩) (fun k=>g.es.length - k) 0 (by omega) ?_ ?_
 ·refine Le.of ?_ ?_<;>simp [go_sem,simprocAttr,hz]
 rintro k hk
 have wj:=trueK_length (n:=g.es.length) (k:=k)
 rcases Nat.lt_or_ge k g.es.length with hlt|hge
 ·have hb:decide ((k:Int)<(g.es.length:Int))=true:=decide_eq_true (by omega)
  have cT:=pT (n:=g.es.length) (k:=k)
  generalize dN g.es.length k=L at wj cT
  repeat' (first|refine Rn.p ?_|(with_reducible apply And.intro)|((first|(refine hK _ ?_;clear hK K)|with_reducible intro K hK|refine Rs.p ?_|((with_reducible first|apply oP|apply oQ);exact rfl));try simp only [go_sem,simprocAttr,hb,wj,bJ])|((with_reducible refine oD ?_ ?_);kernel_rfl)|((with_reducible intro h);try simp only [go_sem,simprocAttr,hb,wj,bJ] at h)|omega|intro h)
  refine ⟨k+1,by omega, ?_,by omega⟩
  rw [← cT]
  refine Le.of ?_ ?_<;>simp [go_sem,simprocAttr,hb,wj,bJ]
 ·have hb:decide ((k:Int)<(g.es.length:Int))=false:=decide_eq_false (by omega)
  obtain rfl:k=g.es.length:=by omega
  repeat' (first|refine Rn.p ?_|(with_reducible apply And.intro)|((first|(refine hK _ ?_;clear hK K)|with_reducible intro K hK|refine Rs.p ?_|((with_reducible first|apply oP|apply oQ);exact rfl));try simp only [go_sem,simprocAttr,hb,wj])|((with_reducible refine oD ?_ ?_);kernel_rfl)|((with_reducible intro h);try simp only [go_sem,simprocAttr,hb,wj] at h)|omega|intro h)
def bX (n x:Nat):List Bool:=(List.replicate n false).set x true
theorem gT {n x:Nat} :(bX n x).length=n:=by simp [bX]
theorem uD {n:Nat} :List.replicate n [D.sc (.bool false)]=(List.replicate n false).map rB:=by simp [rB]
theorem p4 (g:Gr) (hm:aQ g=true) (x:Nat) (hx:x<g.n.toNat) (both:Bool) (cs:List Bool) (hcs:cs.length=g.es.length):
 Spec Try.prog 44 (Args [eG g,eN x,eB both, .d (sB cs)]) [] (.d (sB (iV g both (fun k=>cs.getD k false) (bX g.n.toNat x) g.n.toNat))) []:=by
 have hn:=eo hm
 have hst:(List.replicate g.n.toNat false).set x true=bX g.n.toNat x:=rfl
 have jQ:=gT (n:=g.n.toNat) (x:=x)
 generalize hc:(fun k=>cs.getD k false)=c
 (refine Spec.hd (C:=T.cfg [15] []) (rs:= [.t 8]) (T.aI _ _) Try.func44 rfl rfl Try.ntmps44 Try.results44 (by simp [AObj.isNest]) (by simp [AObj.isNest]) (by kernel_rfl) T.mixed fun X hX hP hC cz gV=> ?_)
 repeat' (first|refine Rn.p ?_|(with_reducible apply And.intro)|((first|(refine hK _ ?_;clear hK K)|with_reducible intro K hK|refine Rs.p ?_|((with_reducible first|apply oP|apply oQ);exact rfl));try simp only [go_sem,simprocAttr,uD,bJ,hst,List.length_replicate])|((with_reducible refine oD ?_ ?_);kernel_rfl)|((with_reducible intro h);try simp only [go_sem,simprocAttr,uD,bJ,hst,List.length_replicate] at h)|omega|intro h)
 refine au (fun r:Nat=>r≤g.n.toNat) (fun r=>⟨[(2,eB both),(3, .d (sB cs)),(4, .ptr 4 0),(9, .ref 15),(10,eN r)], [(4, .box [eN g.n, .d (sE g.es)]),(15, .own 4 1 ((iV g both c (bX g.n.toNat x) r).map rB))]⟩) (fun r=>g.n.toNat - r) 0 (by omega) ?_ ?_
 ·refine Le.of ?_ ?_<;>simp [go_sem,simprocAttr,iV]
 rintro r hr
 have EI:(iV g both c (bX g.n.toNat x) r).length=g.n.toNat:=by rw [cc];exact jQ
 rcases Nat.lt_or_ge r g.n.toNat with hlt|hge
 rotate_left
 ·have hb:decide ((r:Int)<g.n)=false:=decide_eq_false (by omega)
  obtain rfl:r=g.n.toNat:=by omega
  repeat' (first|refine Rn.p ?_|(with_reducible apply And.intro)|((first|(refine hK _ ?_;clear hK K)|with_reducible intro K hK|refine Rs.p ?_|((with_reducible first|apply oP|apply oQ);exact rfl));try simp only [go_sem,simprocAttr,hb])|((with_reducible refine oD ?_ ?_);kernel_rfl)|((with_reducible intro h);try simp only [go_sem,simprocAttr,hb] at h)|omega|intro h)
 have hb:decide ((r:Int)<g.n)=true:=decide_eq_true (by omega)
 have AR:iV g both c (bX g.n.toNat x) (r+1)=gF g both c (iV g both c (bX g.n.toNat x) r) g.es.length:=rfl
 generalize iV g both c (bX g.n.toNat x) r=a at EI AR ⊢
 repeat' (first|refine Rn.p ?_|(with_reducible apply And.intro)|((first|(refine hK _ ?_;clear hK K)|with_reducible intro K hK|refine Rs.p ?_|((with_reducible first|apply oP|apply oQ);exact rfl));try simp only [go_sem,simprocAttr,hb])|((with_reducible refine oD ?_ ?_);kernel_rfl)|((with_reducible intro h);try simp only [go_sem,simprocAttr,hb] at h)|omega|intro h)
 refine au (fun k:Nat=>k≤g.es.length) (fun k=>⟨[(2,eB both),(3, .d (sB cs)),(4, .ptr 4 0),(9, .ref 15),(10,eN r),(11,eN k)], [(4, .box [eN g.n, .d (sE g.es)]),(15, .own 4 1 ((gF g both c a k).map rB))]⟩) (fun k=>g.es.length - k) 0 (by omega) ?_ ?_
 ·refine Le.of ?_ ?_<;>simp [go_sem,simprocAttr,gF]
 rintro k hk
 rcases Nat.lt_or_ge k g.es.length with DL|Gj
 rotate_left
 ·have hbk:decide ((k:Int)<(g.es.length:Int))=false:=decide_eq_false (by omega)
  obtain rfl:k=g.es.length:=by omega
  repeat' (first|refine Rn.p ?_|(with_reducible apply And.intro)|((first|(refine hK _ ?_;clear hK K)|with_reducible intro K hK|refine Rs.p ?_|((with_reducible first|apply oP|apply oQ);exact rfl));try simp only [go_sem,simprocAttr,hbk])|((with_reducible refine oD ?_ ?_);kernel_rfl)|((with_reducible intro h);try simp only [go_sem,simprocAttr,hbk] at h)|omega|intro h)
  refine ⟨r+1,by omega, ?_,by omega⟩
  rw [AR]
  refine Le.of ?_ ?_<;>simp [go_sem,simprocAttr,hbk]
 have hbk:decide ((k:Int)<(g.es.length:Int))=true:=decide_eq_true (by omega)
 obtain ⟨ht,hh⟩:=fm hm DL
 obtain ⟨u,hu⟩:∃u:Nat,(g.es.getD k (0,0)).1=u:=⟨(g.es.getD k (0,0)).1.toNat,by omega⟩
 obtain ⟨v,hv⟩:∃v:Nat,(g.es.getD k (0,0)).2=v:=⟨(g.es.getD k (0,0)).2.toNat,by omega⟩
 rw [hu] at ht
 rw [hv] at hh
 have oR:(tl g k).toNat=u:=by show ((g.es.getD k (0,0)).1).toNat=u;rw [hu];rfl
 have rR:(hd g k).toNat=v:=by show ((g.es.getD k (0,0)).2).toNat=v;rw [hv];rfl
 have Gk:c k=cs.getD k false:=by rw [← hc]
 have cT:gF g both c a (k+1)=if (cs.getD k false&&((gF g both c a k).getD u false||both&&(gF g both c a k).getD v false))=true then ((gF g both c a k).set v true).set u (((gF g both c a k).set v true).getD u false||both) else gF g both c a k:=by
  rw [← Gk,gF,oR,rR]
 have AS:(gF g both c a k).length=g.n.toNat:=by rw [iG,EI]
 generalize gF g both c a k=b at cT AS
 generalize hq1:b.getD u false=q1 at cT
 generalize x2:b.getD v false=q2 at cT
 generalize DM:(b.set v true).getD u false=q3 at cT
 generalize q9:cs.getD k false=q0 at cT
 have zV:(b.set v true).length=g.n.toNat:=by rw [List.length_set];exact AS
 cases q0<;>cases q1<;>cases both<;>cases q2<;>cases q3<;>simp only [Bool.or_false,Bool.or_true,Bool.false_or,Bool.true_or,Bool.and_true,Bool.true_and,Bool.and_false,Bool.false_and,Bool.false_eq_true,if_true,if_false] at cT
 all_goals (repeat' (first|refine Rn.p ?_|(with_reducible apply And.intro)|((first|(refine hK _ ?_;clear hK K)|with_reducible intro K hK|refine Rs.p ?_|((with_reducible first|apply oP|apply oQ);exact rfl));try simp only [go_sem,simprocAttr,hbk,hu,hv,AS,hcs,q9,hq1,x2,DM,zV,bJ])|((with_reducible refine oD ?_ ?_);kernel_rfl)|((with_reducible intro h);try simp only [go_sem,simprocAttr,hbk,hu,hv,AS,hcs,q9,hq1,x2,DM,zV,bJ] at h)|omega|intro h))
 all_goals (refine ⟨k+1,by omega, ?_,by omega⟩)
 all_goals (rw [cT])
 all_goals (refine Le.of ?_ ?_<;>simp [go_sem,simprocAttr,hbk,hu,hv,AS,hcs,q9,hq1,x2,DM,zV,bJ])
theorem fI.congr {g:Gr} {both:Bool} {c c':Nat→Bool} (h:∀k,k<g.es.length→c k=c' k) {x y:Nat} (hr:fI g both c x y):fI g both c' x y:=by
 induction hr with
 |refl=>exact .refl
 | @fwd i a b _ ih=>exact .fwd a (by rw [← h i a];exact b) ih
 | @vj i a b d _ ih=>exact .vj a (by rw [← h i a];exact b) d ih
theorem lQ {n x y:Nat} (hx:x<n):(bX n x).getD y false=true↔y=x:=by
 unfold bX
 rw [gu (by simpa using hx)]
 by_cases h:y=x
 ·rw [if_pos h];simp [h]
 ·rw [if_neg h]
  simp only [h,iff_false,Bool.not_eq_true]
  rw [List.getD_eq_getElem?_getD,List.getElem?_replicate]
  split<;>rfl
theorem p5 {n x:Nat} (hx:x<n):0<iH (bX n x):=by
 unfold iH
 rw [List.countP_pos_iff]
 refine ⟨true, ?_,rfl⟩
 unfold bX
 rw [List.mem_iff_getElem?]
 exact ⟨x,by rw [List.getElem?_set_self (by simpa using hx)]⟩
def Gl (m i:Nat):List Bool:=(dN m m).set i false
end Go.Ab
end
section
namespace Go.Ab
open Go.Proofs
attribute [local congr] ACall.congr gd.congr Nx.congr
set_option maxRecDepth 20000
set_option maxHeartbeats 8000000
def cW (g:Gr) (wb:List Bool) (i:Nat):Bool:= !wb.getD (tl g i).toNat false&& !wb.getD (hd g i).toNat false
def uE (g:Gr) (wb:List Bool):List Bool:=(List.range g.es.length).map (cW g wb)
def uF (g:Gr) (wb:List Bool) (k:Nat):List Bool:=(List.range g.es.length).map fun i=>if i<k then cW g wb i else true
theorem iI {g:Gr} {wb:List Bool} {k:Nat} :(uF g wb k).length=g.es.length:=by simp [uF]
theorem uG {g:Gr} {wb:List Bool} :dN g.es.length g.es.length=uF g wb 0:=by
 refine List.ext_getElem? fun i=> ?_
 by_cases hi:i<g.es.length
 ·simp only [dN,uF,List.getElem?_map,List.getElem?_range hi,Option.map_some,decide_eq_true hi,Nat.not_lt_zero,if_false]
 ·rw [List.getElem?_eq_none (by rw [trueK_length];omega),List.getElem?_eq_none (by rw [iI];omega)]
theorem uH {g:Gr} {wb:List Bool} {k:Nat} (hk:k<g.es.length):(uF g wb k).set k (cW g wb k)=uF g wb (k+1):=by
 refine List.ext_getElem? fun i=> ?_
 rw [List.getElem?_set,iI]
 by_cases hi:i<g.es.length
 ·simp only [uF,List.getElem?_map,List.getElem?_range hi,Option.map_some]
  by_cases e:k=i
  ·subst e;simp [hi]
  ·rw [if_neg e]
   by_cases h2:i<k
   ·rw [if_pos h2,if_pos (by omega)]
   ·rw [if_neg h2,if_neg (by omega)]
 ·rw [List.getElem?_eq_none (by rw [iI];omega),List.getElem?_eq_none (by rw [iI];omega)]
  split
  ·omega
  ·rfl
theorem wk {g:Gr} {wb:List Bool} :uF g wb g.es.length=uE g wb:=by
 unfold uF uE
 refine List.map_congr_left fun i hi=> ?_
 rw [if_pos (List.mem_range.1 hi)]
theorem uI {g:Gr} {wb:List Bool} {i:Nat} (hi:i<g.es.length):(uE g wb).getD i false=cW g wb i:=by
 simp [uE,List.getD_eq_getElem?_getD,List.getElem?_range hi]
def sG (seen:List Bool) (w:Bool) (n:Nat):Nat→Int
 |0=> -1
 |k+1=>if (seen.getD (n - 1 - k) false&& !w)=true then ((n - 1 - k:Nat):Int) else sG seen w n k
theorem kF {seen:List Bool} {w:Bool} {n:Nat} :∀ {k:Nat},k≤n→(sG seen w n k= -1∧(w=true∨∀y,n - k≤y→y<n→seen.getD y false=false))∨(w=false∧∃v:Nat,sG seen w n k=(v:Int)∧n - k≤v∧v<n∧seen.getD v false=true∧∀y,n - k≤y→y<v→seen.getD y false=false)
 |0,_=> .inl ⟨rfl, .inr fun y h1 h2=>by omega⟩
 |k+1,hk=>by
  have ih:=kF (seen:=seen) (w:=w) (n:=n) (k:=k) (by omega)
  rw [sG]
  cases w with
  |true=>
   rw [if_neg (by simp)]
   rcases ih with ⟨h1,_⟩|⟨h1,_⟩
   ·exact .inl ⟨h1, .inl rfl⟩
   ·cases h1
  |false=>
   have e0:(seen.getD (n - 1 - k) false&& !false)=seen.getD (n - 1 - k) false:=by simp
   rw [e0]
   by_cases hs:seen.getD (n - 1 - k) false=true
   ·rw [if_pos hs]
    exact .inr ⟨rfl,n - 1 - k,rfl,by omega,by omega,hs,fun y h1 h2=>by omega⟩
   ·rw [if_neg hs]
    have hs':seen.getD (n - 1 - k) false=false:=by simpa using hs
    rcases ih with ⟨h1,h2⟩|⟨_,v,h1,h2,h3,h4,h5⟩
    ·refine .inl ⟨h1, .inr fun y h3 h4=> ?_⟩
     by_cases e:y=n - 1 - k
     ·rw [e];exact hs'
     ·rcases h2 with h2|h2
      ·cases h2
      ·exact h2 y (by omega) h4
    ·refine .inr ⟨rfl,v,h1,by omega,h3,h4,fun y h6 h7=> ?_⟩
     by_cases e:y=n - 1 - k
     ·rw [e];exact hs'
     ·exact h5 y (by omega) h7
def iJ (g:Gr) (wb:List Bool) (x:Nat):List Bool:=iV g true (fun k=>(uE g wb).getD k false) (bX g.n.toNat x) g.n.toNat
def dY (g:Gr) (wb:List Bool) (x:Nat):Int:=sG (iJ g wb x) (wb.getD x false) g.n.toNat g.n.toNat
def fZ (g:Gr) (wb:List Bool):List Int:=(List.range g.n.toNat).map (dY g wb)
theorem gv {g:Gr} (hm:aQ g=true) {wb:List Bool} {x:Nat} (hx:x<g.n.toNat) (y:Nat):(iJ g wb x).getD y false=true↔fI g true (cW g wb) x y:=by
 have h1:=uC hm (both:=true) (c:=fun k=>(uE g wb).getD k false) (a:=bX g.n.toNat x) gT (x:=x) ((lQ hx).2 rfl) (fun y hy=>by rw [(lQ hx).1 hy];exact .refl) (p5 hx) y
 unfold iJ
 rw [h1]
 exact ⟨fun h=>fI.congr (fun k hk=>uI hk) h,fun h=>fI.congr (fun k hk=>(uI hk).symm) h⟩
theorem qL {g:Gr} {c:Nat→Bool} {x y:Nat} (h:fI g true c x y):fI g true c y x:=by
 induction h with
 |refl=>exact .refl
 |fwd hi hc _ ih=>exact (fI.vj hi hc rfl .refl).trans ih
 |vj hi hc _ _ ih=>exact (fI.fwd hi hc .refl).trans ih
theorem wm {g:Gr} (hm:aQ g=true) {wb:List Bool} {a b:Nat} (ha:a<g.n.toNat) (hb:b<g.n.toNat) (wa:wb.getD a false=false) (Gm:wb.getD b false=false):dY g wb a=dY g wb b↔fI g true (cW g wb) a b:=by
 have key:∀x,x<g.n.toNat→wb.getD x false=false→∃v:Nat,dY g wb x=(v:Int)∧fI g true (cW g wb) x v∧∀y,fI g true (cW g wb) x y→v≤y:=by
  intro x hx hw
  have h:=kF (seen:=iJ g wb x) (w:=wb.getD x false) (n:=g.n.toNat) (k:=g.n.toNat) (Nat.le_refl _)
  rw [hw] at h
  rcases h with ⟨_,h2⟩|⟨_,v,h1,_,h3,h4,h5⟩
  ·rcases h2 with h2|h2
   ·cases h2
   ·have:=h2 x (by omega) hx
    rw [(gv hm hx x).2 .refl] at this
    cases this
  ·refine ⟨v,by unfold dY;rw [hw];exact h1,(gv hm hx v).1 h4,fun y hy=> ?_⟩
   refine Decidable.byContradiction fun hlt=> ?_
   have:=h5 y (by omega) (by omega)
   rw [(gv hm hx y).2 hy] at this
   cases this
 obtain ⟨u,u1,u2,u3⟩:=key a ha wa
 obtain ⟨v,v1,v2,v3⟩:=key b hb Gm
 rw [u1,v1]
 constructor
 ·intro e
  have:u=v:=by omega
  subst this
  exact u2.trans (qL v2)
 ·intro h
  have h1:=u3 v (h.trans v2)
  have h2:=v3 u ((qL h).trans u2)
  have:u=v:=by omega
  rw [this]
theorem uJ {g:Gr} {wb:List Bool} {x:Nat} (hx:x<g.n.toNat):(fZ g wb).getD x 0=dY g wb x:=by
 simp [fZ,List.getD_eq_getElem?_getD,List.getElem?_range hx]
def iK (g:Gr) (wb:List Bool) (k:Nat):List Int:=(List.range k).map (dY g wb)
theorem p6 {g:Gr} {wb:List Bool} {k:Nat} :iK g wb (k+1)=iK g wb k++ [dY g wb k]:=by simp [iK,List.range_succ]
theorem rS {g:Gr} {wb:List Bool} {k:Nat} :(iK g wb k).length=k:=by simp [iK]
theorem rV (g:Gr) (hm:aQ g=true) (wb:List Bool) (hw:wb.length=g.n.toNat):Spec Try.prog 17 (Args [eG g, .d (sB wb)]) [] (.d (sI (fZ g wb))) []:=by
 have hn:=eo hm
 have hE:=pZ g (by omega)
 (refine Spec.hd (C:=T.cfg [16] []) (rs:= [.t 4]) (T.aI _ _) Try.func17 rfl rfl Try.ntmps17 Try.results17 (by simp [AObj.isNest]) (by simp [AObj.isNest]) (by kernel_rfl) T.mixed fun X hX hP hC cz gV=> ?_)
 repeat' (first|(show bA _ (.seq (.region 6 _ _) _) _ _;(refine mB hX 16 rfl (.inl rfl) ?_;simp only [go_sem,simprocAttr]))|refine Rn.p ?_|(with_reducible apply And.intro)|((first|(refine hK _ ?_;clear hK K)|with_reducible intro K hK|refine Rs.p ?_|((with_reducible first|apply oP|apply oQ);exact rfl)|(refine bS hX hC hP [(10000,16)] (hE) rfl rfl rfl ?_ ?_ ?_ ?_ ?_ ?_ ?_ ?_ ?_ ?_ ?_ ?_ ?_ ?_;(focus (simp only [go_sem,simprocAttr];done));(iterate 12 (focus (simp [go_sem,simprocAttr];done)));try simp only [List.map_cons,List.map_nil]));try simp only [go_sem,simprocAttr])|((with_reducible refine oD ?_ ?_);kernel_rfl)|((with_reducible intro h);try simp only [go_sem,simprocAttr] at h)|omega|intro h)
 refine au (fun k:Nat=>k≤g.es.length) (fun k=>⟨[(1, .d (sB wb)),(2, .ptr 2 0),(5, .ref 16),(6,eN k)], [(16, .own 4 1 ((uF g wb k).map rB)),(2, .box [eN g.n, .d (sE g.es)])]⟩) (fun k=>g.es.length - k) 0 (Nat.zero_le _) ?_ ?_
 ·rw [← uG]
  refine Le.of ?_ ?_<;>simp [go_sem,simprocAttr]
 rintro k hk
 rcases Nat.lt_or_ge k g.es.length with hlt|hge
 ·have hb:decide ((k:Int)<(g.es.length:Int))=true:=decide_eq_true (by omega)
  obtain ⟨me,oT⟩:=fm hm hlt
  obtain ⟨u,hu⟩:∃u:Nat,(g.es.getD k (0,0)).1=u:=⟨(g.es.getD k (0,0)).1.toNat,by omega⟩
  obtain ⟨v,hv⟩:∃v:Nat,(g.es.getD k (0,0)).2=v:=⟨(g.es.getD k (0,0)).2.toNat,by omega⟩
  have oR:(tl g k).toNat=u:=by show ((g.es.getD k (0,0)).1).toNat=u;rw [hu];rfl
  have rR:(hd g k).toNat=v:=by show ((g.es.getD k (0,0)).2).toNat=v;rw [hv];rfl
  have cT:=uH (g:=g) (wb:=wb) hlt
  have kP:=iI (g:=g) (wb:=wb) (k:=k)
  have DN:cW g wb k=(!wb.getD u false&& !wb.getD v false):=by unfold cW;rw [oR,rR]
  rw [DN] at cT
  generalize q9:wb.getD u false=q0 at cT DN
  generalize hq1:wb.getD v false=q1 at cT DN
  generalize uF g wb k=C0 at cT kP ⊢
  cases q0<;>cases q1
  all_goals (repeat' (first|refine Rn.p ?_|(with_reducible apply And.intro)|((first|(refine hK _ ?_;clear hK K)|with_reducible intro K hK|refine Rs.p ?_|((with_reducible first|apply oP|apply oQ);exact rfl));try simp only [go_sem,simprocAttr,hb,hu,hv,q9,hq1,kP,hw,bJ])|((with_reducible refine oD ?_ ?_);kernel_rfl)|((with_reducible intro h);try simp only [go_sem,simprocAttr,hb,hu,hv,q9,hq1,kP,hw,bJ] at h)|omega|intro h))
  all_goals (refine ⟨k+1,by omega, ?_,by omega⟩)
  all_goals (rw [← cT])
  all_goals (refine Le.of ?_ ?_<;>simp [go_sem,simprocAttr,hb,hu,hv,q9,hq1,kP,hw,bJ])
 have hb:decide ((k:Int)<(g.es.length:Int))=false:=decide_eq_false (by omega)
 obtain rfl:k=g.es.length:=by omega
 rw [wk]
 (refine mB hX 16 rfl (.inl rfl) ?_;simp only [go_sem,simprocAttr,hb])
 repeat' (first|refine Rn.p ?_|(with_reducible apply And.intro)|((first|(refine hK _ ?_;clear hK K)|with_reducible intro K hK|refine Rs.p ?_|((with_reducible first|apply oP|apply oQ);exact rfl));try simp only [go_sem,simprocAttr,hb])|((with_reducible refine oD ?_ ?_);kernel_rfl)|((with_reducible intro h);try simp only [go_sem,simprocAttr,hb] at h)|omega|intro h)
 refine au (fun k:Nat=>k≤g.n.toNat) (fun k=>⟨[(1, .d (sB wb)),(2, .ptr 2 0),(5, .d (sB (uE g wb))),(7, .ref 46),(8,eN k)], [(46, .tip 3 1 ((iK g wb k).map rI)),(2, .box [eN g.n, .d (sE g.es)])]⟩) (fun k=>g.n.toNat - k) 0 (Nat.zero_le _) ?_ ?_
 ·refine Le.of ?_ ?_<;>simp [go_sem,simprocAttr,hb,iK]
 clear hb
 rintro x hx
 rcases Nat.lt_or_ge x g.n.toNat with hlt|AT
 rotate_left
 ·have hb:decide ((x:Int)<g.n)=false:=decide_eq_false (by omega)
  obtain rfl:x=g.n.toNat:=by omega
  have gl:iK g wb g.n.toNat=fZ g wb:=rfl
  repeat' (first|refine Rn.p ?_|(with_reducible apply And.intro)|((first|(refine hK _ ?_;clear hK K)|with_reducible intro K hK|refine Rs.p ?_|((with_reducible first|apply oP|apply oQ);exact rfl));try simp only [go_sem,simprocAttr,hb,gl])|((with_reducible refine oD ?_ ?_);kernel_rfl)|((with_reducible intro h);try simp only [go_sem,simprocAttr,hb,gl] at h)|omega|intro h)
 have hb:decide ((x:Int)<g.n)=true:=decide_eq_true (by omega)
 have BM:=p4 g hm x hlt true (uE g wb) (by simp [uE])
 have Bt:iV g true (fun k=>(uE g wb).getD k false) (bX g.n.toNat x) g.n.toNat=iJ g wb x:=rfl
 rw [Bt] at BM
 have jQ:(iJ g wb x).length=g.n.toNat:=by rw [← Bt,cc];exact gT
 have hpv:dY g wb x=sG (iJ g wb x) (wb.getD x false) g.n.toNat g.n.toNat:=rfl
 have BN:=p6 (g:=g) (wb:=wb) (k:=x)
 have hpk:=rS (g:=g) (wb:=wb) (k:=x)
 rw [hpv] at BN
 generalize iJ g wb x=sw at BM jQ BN
 generalize DO:wb.getD x false=q at BN
 have hj0:g.n - 1=((g.n.toNat:Int) - 1 - ((0:Nat):Int)):=by omega
 repeat' (first|refine Rn.p ?_|(with_reducible apply And.intro)|((first|(refine hK _ ?_;clear hK K)|with_reducible intro K hK|refine Rs.p ?_|((with_reducible first|apply oP|apply oQ);exact rfl)|refine ai hX hC hP (BM) rfl rfl rfl (by simp only [go_sem,simprocAttr,hb]) rfl ?_);try simp only [go_sem,simprocAttr,hb])|((with_reducible refine oD ?_ ?_);kernel_rfl)|((with_reducible intro h);try simp only [go_sem,simprocAttr,hb] at h)|omega|intro h)
 refine au (fun j:Nat=>j≤g.n.toNat) (fun j=>⟨[(1, .d (sB wb)),(2, .ptr 2 0),(5, .d (sB (uE g wb))),(7, .ref 46),(8,eN x),(9,eN (sG sw q g.n.toNat j)),(10, .d (sB sw)),(11,eN ((g.n.toNat:Int) - 1 - (j:Int)))], [(46, .tip 3 1 ((iK g wb x).map rI)),(2, .box [eN g.n, .d (sE g.es)])]⟩) (fun j=>g.n.toNat - j) 0 (Nat.zero_le _) ?_ ?_
 ·refine Le.of ?_ ?_<;>simp [go_sem,simprocAttr,hb,sG]
  all_goals omega
 rintro j hj
 rcases Nat.lt_or_ge j g.n.toNat with hjl|Hs
 rotate_left
 ·have gW:decide (0≤(g.n.toNat:Int) - 1 - (j:Int))=false:=decide_eq_false (by omega)
  obtain rfl:j=g.n.toNat:=by omega
  repeat' (first|(show bA _ (.region 9 _ _) _ _;(refine tQ hX 7 79 46 (by simp only [go_sem,simprocAttr,gW,hpk]) rfl (by first|exact .inl rfl|exact .inr rfl) (by decide) ?_;simp only [go_sem,simprocAttr,gW,hpk]))|refine Rn.p ?_|(with_reducible apply And.intro)|((first|(refine hK _ ?_;clear hK K)|with_reducible intro K hK|refine Rs.p ?_|((with_reducible first|apply oP|apply oQ);exact rfl)|refine ai hX hC hP (BM) rfl rfl rfl (by simp only [go_sem,simprocAttr,gW,hpk]) rfl ?_);try simp only [go_sem,simprocAttr,gW,hpk])|((with_reducible refine oD ?_ ?_);kernel_rfl)|((with_reducible intro h);try simp only [go_sem,simprocAttr,gW,hpk] at h)|omega|intro h)
  refine ⟨x+1,by omega, ?_,by omega⟩
  rw [BN]
  refine Le.of ?_ ?_<;>simp [go_sem,simprocAttr,gW,hpk,rI]
 obtain ⟨y,hy⟩:∃y:Nat,(g.n.toNat:Int) - 1 - (j:Int)=y:=⟨g.n.toNat - 1 - j,by omega⟩
 have Ht:y<g.n.toNat:=by omega
 have Gn:g.n.toNat - 1 - j=y:=by omega
 have gW:decide (0≤(g.n.toNat:Int) - 1 - (j:Int))=true:=decide_eq_true (by omega)
 have cT:sG sw q g.n.toNat (j+1)=if (sw.getD y false&& !q)=true then ((y:Nat):Int) else sG sw q g.n.toNat j:=by rw [sG,Gn]
 rw [hy] at gW ⊢
 have DP:(y:Int) - 1=(g.n.toNat:Int) - 1 - ((j+1:Nat):Int):=by omega
 generalize sG sw q g.n.toNat j=L0 at cT
 generalize DQ:sw.getD y false=q2 at cT
 cases q2<;>cases q
 all_goals (repeat' (first|refine Rn.p ?_|(with_reducible apply And.intro)|((first|(refine hK _ ?_;clear hK K)|with_reducible intro K hK|refine Rs.p ?_|((with_reducible first|apply oP|apply oQ);exact rfl));try simp only [go_sem,simprocAttr,gW,DQ,DO,jQ,hw,DP])|((with_reducible refine oD ?_ ?_);kernel_rfl)|((with_reducible intro h);try simp only [go_sem,simprocAttr,gW,DQ,DO,jQ,hw,DP] at h)|omega|intro h))
 all_goals (refine ⟨j+1,by omega, ?_,by omega⟩)
 all_goals (rw [cT])
 all_goals (refine Le.of ?_ ?_<;>simp [go_sem,simprocAttr,gW,DQ,DO,jQ,hw,DP])
end Go.Ab
end
section
namespace Go.Ab
open Go.Proofs
attribute [local congr] ACall.congr gd.congr Nx.congr
set_option maxRecDepth 20000
set_option maxHeartbeats 16000000
namespace UG
variable {G:UG}
noncomputable def Hu (G:UG):List Nat:=(List.range G.m).map fun i=>(G.cL i).headD 0
end UG
theorem AU {g:Gr} {wb:List Bool} {a b:Nat} (ha:wb.getD a false=false):fI g true (cW g wb) a b↔(ug g).Cn (fun v=>wb.getD v false=false) a b:=by
 constructor
 ·intro h
  induction h with
  |refl=>exact .refl ha
  | @fwd i hi hc _ ih=>
    unfold cW at hc
    simp only [Bool.and_eq_true,Bool.not_eq_true'] at hc
    exact .step ih (UG.J.self (G:=ug g) hi) hc.2
  | @vj i hi hc _ _ ih=>
    unfold cW at hc
    simp only [Bool.and_eq_true,Bool.not_eq_true'] at hc
    exact .step ih (UG.J.self (G:=ug g) hi).symm hc.1
 ·intro h
  induction h with
  |refl _=>exact .refl
  | @step y z i h j hz ih=>
    have hy:=h.yW
    obtain ⟨hi,j⟩:=j
    have hi:i<g.es.length:=hi
    simp only [ug] at j
    rcases j with ⟨h1,h2⟩|⟨h1,h2⟩
    ·have hc:cW g wb i=true:=by unfold cW;rw [h1,h2,hy,hz];rfl
     have:=fI.fwd hi hc (by rw [h1];exact ih)
     rw [h2] at this
     exact this
    ·have hc:cW g wb i=true:=by unfold cW;rw [h1,h2,hy,hz];rfl
     have:=fI.vj hi hc rfl (by rw [h2];exact ih)
     rw [h1] at this
     exact this
def Hv (m k:Nat):List Nat:=(List.range m).map fun i=>if i<k then i else 0
end Go.Ab
end
section
namespace Go.Ab
open Go.Proofs
attribute [local congr] ACall.congr gd.congr Nx.congr
set_option maxRecDepth 20000
set_option maxHeartbeats 16000000
def Hw (a:List Nat) (m i:Nat):List (List Nat):=((List.range i).filter fun i=>decide (a.getD i 0=i)).map fun i=>(List.range m).filter fun k=>decide (a.getD k 0=i)
def Hx (a:List Nat) (i k:Nat):List Nat:=(List.range k).filter fun k=>decide (a.getD k 0=i)
theorem ja {α:Type} {p:α→Bool} {l:List α} {k:Nat} (d:α) (hk:k<l.length):(l.take (k+1)).any p=((l.take k).any p||p (l.getD k d)):=by
 rw [List.take_add_one,List.getElem?_eq_getElem hk,Option.toList_some,List.any_append,List.getD_eq_getElem?_getD,List.getElem?_eq_getElem hk]
 simp
theorem wo {α:Type} {p:α→Bool} {l:List α} {k:Nat} (d:α) (hk:k<l.length) (hp:p (l.getD k d)=true):l.any p=true:=by
 rw [List.any_eq_true]
 refine ⟨l.getD k d, ?_,hp⟩
 rw [List.getD_eq_getElem?_getD,List.getElem?_eq_getElem hk]
 exact List.getElem_mem hk
theorem getD_rNL (ps:List (List Nat)) (i:Nat):(ps.map lp).getD i [.sl 1 []]= [sN (ps.getD i [])]:=by
 rw [List.getD_eq_getElem?_getD,List.getElem?_map,List.getD_eq_getElem?_getD]
 cases ps[i]? <;>rfl
attribute [go_sem] getD_rNL
def kG (g:Gr) (L:List (List Nat)) (x k:Nat):Nat:=((L.take k).filter fun b=>(ug g).bP b x).length
theorem rW {g:Gr} {L:List (List Nat)} {x k:Nat} (hk:k<L.length):kG g L x (k+1)=if (ug g).bP (L.getD k []) x=true then kG g L x k+1 else kG g L x k:=by
 unfold kG
 rw [List.take_add_one,List.getElem?_eq_getElem hk,Option.toList_some,List.filter_append,List.length_append,List.getD_eq_getElem?_getD,List.getElem?_eq_getElem hk]
 simp only [Option.getD_some,List.filter_cons,List.filter_nil]
 split<;>rfl
noncomputable def fD (g:Gr) (k:Nat):List Nat:=(List.range k).filter fun x=>decide (1<kG g (ug g).aM x (ug g).aM.length)
noncomputable def lR (g:Gr):List Nat:=fD g g.n.toNat
theorem p7 {g:Gr} {k:Nat} :fD g (k+1)=if 1<kG g (ug g).aM k (ug g).aM.length then fD g k++ [k] else fD g k:=by
 unfold fD
 rw [List.range_succ,List.filter_append,List.filter_cons]
 by_cases h:1<kG g (ug g).aM k (ug g).aM.length
 ·rw [if_pos (decide_eq_true h),if_pos h];rfl
 ·rw [if_neg (by rw [decide_eq_true_eq];exact h),if_neg h];simp
theorem rX {g:Gr} {k:Nat} :(fD g k).length≤k:=by
 have:=List.length_filter_le (fun x=>decide (1<kG g (ug g).aM x (ug g).aM.length)) (List.range k)
 rw [List.length_range] at this
 exact this
theorem kH {G:UG} :G.aM.length≤G.m:=by
 unfold UG.aM
 rw [List.length_map]
 have:=List.length_filter_le (fun i=>G.sF i) (List.range G.m)
 rw [List.length_range] at this
 exact this
theorem wq {G:UG} {b:List Nat} (hb:b∈G.aM):b.length≤G.m:=by
 unfold UG.aM at hb
 obtain ⟨i,_,rfl⟩:=List.mem_map.1 hb
 have:=List.length_filter_le (fun k=> @decide (G.Sm i k) (Classical.propDecidable _)) (List.range G.m)
 rw [List.length_range] at this
 exact this
theorem eR {α:Type} {l:List α} {k:Nat} (d:α) (hk:k<l.length):l.getD k d∈l:=by
 rw [List.getD_eq_getElem?_getD,List.getElem?_eq_getElem hk]
 exact List.getElem_mem hk
end Go.Ab
end
section
namespace Go.Ab
open Go.Proofs Go.RowKit
attribute [local congr] ACall.congr gd.congr Nx.congr
set_option maxRecDepth 20000
set_option maxHeartbeats 8000000
def nI (l:List Nat):List Int:=l.map fun n:Nat=>(n:Int)
theorem qM (l:List Nat):(nI l).map rI=l.map rN:=by simp [nI,rI,rN,Function.comp_def]
theorem lS (l:List Nat):sN l=sI (nI l):=by unfold sN sI;rw [qM]
def dZ (l:List Nat):List Nat:=(rL (nI l)).map Int.toNat
theorem xo (l:List Nat):nI (dZ l)=rL (nI l):=by
 unfold nI dZ
 rw [List.map_map]
 have:∀x∈rL (nI l),((fun n:Nat=>(n:Int)) ∘ Int.toNat) x=id x:=fun x hx=>by
  have h1:x∈nI l:=(List.mergeSort_perm (nI l) _).mem_iff.1 hx
  obtain ⟨n,_,rfl⟩:=List.mem_map.1 h1
  rfl
 rw [List.map_congr_left this,List.map_id]
 rfl
theorem dr (l:List Nat):(dZ l).Perm l:=by
 have h1:(rL (nI l)).Perm (nI l):=List.mergeSort_perm _ _
 have h2:=h1.map Int.toNat
 unfold dZ
 refine h2.trans ?_
 unfold nI
 rw [List.map_map]
 have:l.map (Int.toNat ∘ fun n:Nat=>(n:Int))=l.map id:=List.map_congr_left fun x _=>rfl
 rw [this,List.map_id]
theorem qN (l:List Nat) (hn:l.Nodup):(dZ l).Pairwise (· < ·):=by
 have h1:(rL (nI l)).Pairwise fun x y=>decide (x≤y)=true:=List.pairwise_mergeSort (fun a b c h1 h2=>by simp at h1 h2 ⊢;omega) (fun a b=>by simp;omega) _
 have h2:(dZ l).Pairwise (· ≤ ·):=by
  rw [← xo] at h1
  unfold nI at h1
  rw [List.pairwise_map] at h1
  exact h1.imp fun h=>by simpa using h
 have h3:(dZ l).Nodup:=(dr l).nodup_iff.2 hn
 exact h2.imp₂ (fun a b h1 h2=>by omega) h3
theorem AW {l:List Nat} :∀r∈l.map rN,∀x∈r,∃v,x=D.sc v:=by
 intro r hr x hx
 obtain ⟨y,_,rfl⟩:=List.mem_map.1 hr
 simp only [rN,List.mem_singleton] at hx
 exact ⟨_,hx⟩
theorem yj (l:List Nat) (i:Nat) (h:i∈l):iY (nI l) (i:Int)=((l.idxOf i:Nat):Int):=by
 unfold iY
 have hlt:l.idxOf i<l.length:=List.idxOf_lt_length_iff.2 h
 have hg:∀j,(nI l).getD j 0=((l.getD j 0:Nat):Int):=fun j=>by
  unfold nI
  rw [List.getD_eq_getElem?_getD,List.getElem?_map,List.getD_eq_getElem?_getD]
  cases l[j]? <;>rfl
 refine ku (d:=0) (by rw [nI,List.length_map];exact hlt) (fun j hj=> ?_) ?_
 ·rw [hg]
  refine decide_eq_false fun e=> ?_
  have e':l.getD j 0=i:=by omega
  rw [List.getD_eq_getElem?_getD,List.getElem?_eq_getElem (by omega)] at e'
  have h1:l[j]=i:=by simpa using e'
  have h2:l.idxOf i≤j:=by
   rw [List.idxOf]
   refine Decidable.byContradiction fun h=> ?_
   have:=List.not_of_lt_findIdx (p:=(· ==i)) (xs:=l) (i:=j) (by omega)
   simp [h1] at this
  omega
 ·rw [hg]
  refine decide_eq_true ?_
  rw [List.getD_eq_getElem?_getD,List.getElem?_eq_getElem hlt]
  simp
theorem om (ps:List Nat) (x:Nat) (hx:x∈ps) (hl:ps.length≤9223372036854775807):
 Spec Try.prog 74 (Args [.d (sN ps),eN x]) [] (eN ((ps.idxOf x:Nat):Int)) []:=by
 rw [lS, ← yj ps x hx]
 exact jl _ _ (by rw [nI,List.length_map];exact hl)
theorem mL (l:List Nat) (a:Nat):Spec Try.prog 81 (Args [.vw 10000 1 a]) [(10000, .own 3 1 (l.map rN))] (.fn 107 [] [.ptr 10001 0]) [(10000, .own 3 1 (l.map rN)),(10001, .box [.vw 10000 1 a])]:=by
 (refine Spec.z6 (C:=T.cfg [] []) (rs:= [.t 2]) [(10001,1)] (T.aI _ _) Try.func81 rfl rfl Try.ntmps81 Try.results81 (by simp [AObj.isNest]) (by simp [AObj.isNest]) (by first|(simp [look];done)|(simp [asN];done)|(intro l hl;simp only [asN];repeat (rw [if_neg (fun e=>by subst e;simp [look] at hl)]))) (by first|(simp [look];done)|(simp [asN];done)|(intro l hl;simp only [asN];repeat (rw [if_neg (fun e=>by subst e;simp [look] at hl)]))) (by kernel_rfl) T.mixed fun X hX hP hC cz gV=> ?_)
 repeat' (first|refine Rn.p ?_|(with_reducible apply And.intro)|((first|(refine hK _ ?_;clear hK K)|with_reducible intro K hK|refine Rs.p ?_|((with_reducible first|apply oP|apply oQ);exact rfl));try simp only [go_sem,simprocAttr])|((with_reducible refine oD ?_ ?_);kernel_rfl)|((with_reducible intro h);try simp only [go_sem,simprocAttr] at h)|omega|intro h)
theorem p8 (g:Gr) (hm:aQ g=true) (c1 c2 c3 c4 c5 c6:D) (i x:Nat) (hi:i<g.es.length) (hx:x=(tl g i).toNat∨x=(hd g i).toNat):
 Spec Try.prog 69 (Args [.d (.pt [.sc (.int .i64 g.n),sE g.es,c1,c2,c3,c4,c5,c6]),eN i,eN x]) [] (eN (((ug g).sD i x:Nat):Int)) []:=by
 have hn:=eo hm
 obtain ⟨me,oT⟩:=fm hm hi
 obtain ⟨u,hu⟩:∃u:Nat,(g.es.getD i (0,0)).1=u:=⟨(g.es.getD i (0,0)).1.toNat,by omega⟩
 obtain ⟨v,hv⟩:∃v:Nat,(g.es.getD i (0,0)).2=v:=⟨(g.es.getD i (0,0)).2.toNat,by omega⟩
 have oR:(tl g i).toNat=u:=by show ((g.es.getD i (0,0)).1).toNat=u;rw [hu];rfl
 have rR:(hd g i).toNat=v:=by show ((g.es.getD i (0,0)).2).toNat=v;rw [hv];rfl
 have ho:(((ug g).sD i x:Nat):Int)=(u:Int)+v - x:=by
  show ((((tl g i).toNat+(hd g i).toNat - x:Nat)):Int)=_
  rw [oR,rR] at hx
  rw [oR,rR]
  omega
 rw [ho]
 (refine Spec.hd (C:=T.cfg [] []) (rs:= [.t 6]) (T.aI _ _) Try.func69 rfl rfl Try.ntmps69 Try.results69 (by simp [AObj.isNest]) (by simp [AObj.isNest]) (by kernel_rfl) T.mixed fun X hX hP hC cz gV=> ?_)
 repeat' (first|refine Rn.p ?_|(with_reducible apply And.intro)|((first|(refine hK _ ?_;clear hK K)|with_reducible intro K hK|refine Rs.p ?_|((with_reducible first|apply oP|apply oQ);exact rfl));try simp only [go_sem,simprocAttr,hu,hv])|((with_reducible refine oD ?_ ?_);kernel_rfl)|((with_reducible intro h);try simp only [go_sem,simprocAttr,hu,hv] at h)|omega|intro h)
theorem mM (l:List Nat) (hl:l.length≤1000000):Spec Try.prog 80 (Args [.fn 107 [] [.d (.pt [sN l])]]) [] (.ref 10000) [(10000, .tip 3 1 ((dZ l).map rN))]:=by
 rw [lS, ← qM,xo]
 refine ⟨⟨Try.f80,_,Try.func80,by kernel_rfl,rfl⟩,fun E w vals hg hA=> ?_⟩
 obtain ⟨v,vs,rfl,h0,h3⟩:=hA
 obtain ⟨us,us',rfl,h1,h2⟩:=h0
 obtain ⟨u,zM,rfl,h4,h5⟩:=h2
 simp only [AVrs] at h1 h5 h3
 subst h1 h5 h3
 simp only [aN] at h4
 generalize hx:D.pt [sI (nI l)]=x at h4
 cases h4 with
 |sc v h=>cases hx
 |nil p sz=>cases hx
 |sl b off n cap sz rows vs hn hsz hz hcap hc hr=>cases hx
 |pt b off cells vs hz hc hr=>
 obtain rfl:=D.pt.inj hx
 have hc0:=hc 0 (by simp)
 have zo:=hr 0 _ rfl
 have hlt:b<w.heap.size:=by
  refine Decidable.byContradiction fun h=> ?_
  simp [World.cell?,Array.getElem?_eq_none (Nat.le_of_not_lt h)] at hc0
 refine (mE b (vs 0) (nI l) (by rw [nI,List.length_map];omega) w hlt (by simpa using hc0) (vY zo)).mono ?_
 rintro e w' ⟨v,rfl,hrow,hb⟩
 have cV:∀l,aD [] l=none:=fun l=>by unfold aD;split<;>rfl
 have hs1:∀(q:Nat) (ob o:AObj),ob.isNest=false→aD [(10000,ob)] q=some o→q=10000∧o=ob:=fun q ob o hn h=>by
  have hl:look [(10000,ob)] q=some o:=(cO (fun p hp=>by
   rw [List.mem_singleton] at hp
   subst hp
   exact hn) h).1
  simp only [look] at hl
  split at hl
  ·rename_i e;cases hl;exact ⟨e.symm,rfl⟩
  ·cases hl
 rw [← pP] at hrow
 generalize rL (nI l)=L at hrow
 obtain ⟨r,nh,vf⟩:∃r:Option Nat,(∀q,r=some q→w.heap.size≤q∧q<w'.heap.size)∧((r=none∧L.map rI= []∧∃p,v= .slice p 0 0)∨
  ∃b cur cap,r=some b∧w'.heap[b]? =some (.cells cur 3 (0,0))∧v= .slice (some ⟨b,0,none⟩) (L.map rI).length cap∧(L.map rI).length≤cap∧cap*1=cur.size∧cap≤maxLen∧
   ∀i,i<L.length→cur[i]? =some (.int .i64 (L.getD i 0))):=by
  rcases hrow.2 with ⟨rfl,h0⟩|⟨q,cap,cur,rfl,h1,h2,h3,h4,h5,h6⟩
  ·refine ⟨none,fun _ h=>(by cases h),Or.inl ⟨rfl,by rw [List.eq_nil_of_length_eq_zero h0];rfl,none,rfl⟩⟩
  ·refine ⟨some q,fun _ h=>by cases h;exact ⟨h1,(Array.getElem?_eq_some_iff.1 h2).1⟩,Or.inr ⟨q,cur,cap,rfl,h2,by rw [List.length_map],by rw [List.length_map];exact h3,h5.symm,h4,fun i hi=> ?_⟩⟩
   have h7:(cur.toList.take (L.length*1))[i]? =(L.map (Value.int .i64))[i]? :=by rw [h6]
   rw [List.getElem?_take_of_lt (by omega),Array.getElem?_toList] at h7
   rw [h7,List.getElem?_map,List.getElem?_eq_getElem hi,List.getD_eq_getElem?_getD,List.getElem?_eq_getElem hi]
   rfl
 have jQ:dh v:=by
  rcases vf with ⟨_,_,p,rfl⟩|⟨_,_,_,_,_,rfl,_⟩<;>trivial
 refine ⟨v,⟨fun q=>if q=10000 then r else none,fun q=>if q=10000 then v else E.σ q,fun b=>if b<w.heap.size then E.z b else if r=some b then L.length else 0⟩,rfl,⟨hb.os,hb.tape,hb.output,hb.size,fun b=> ?_,fun b h1 _=>⟨hb.block b h1,by simp [h1]⟩,fun q hq=>absurd (cV q) hq⟩,⟨fun q hq=> ?_,fun q q' b hq fH _ _=> ?_,fun q o hq=> ?_,fun b hb'=> ?_⟩,fun q o b hq _ hb'=> .inl ?_,⟨by simp,jQ⟩⟩
 ·by_cases h:b<w.heap.size
  ·exact ⟨by simp [h],fun o _=>hb.cell (p:=⟨b,o,none⟩) h⟩
  ·have h0:=hg.fresh b (by omega)
   exact ⟨by rw [h0];exact Nat.zero_le _,fun o ho=>by rw [h0] at ho;omega⟩
 ·simp only [look] at hq
  split at hq
  ·omega
  ·exact absurd rfl hq
 ·obtain ⟨o,ho⟩:=Option.ne_none_iff_exists'.1 hq
  obtain ⟨o',ho'⟩:=Option.ne_none_iff_exists'.1 fH
  rw [(hs1 q _ o rfl ho).1,(hs1 q' _ o' rfl ho').1]
 ·obtain ⟨rfl,rfl⟩:=hs1 q _ o rfl hq
  refine ⟨fun r hr=> ?_,by decide, ?_⟩
  ·obtain ⟨y,_,rfl⟩:=List.mem_map.1 hr
   rfl
  rcases vf with ⟨h1,h2,h3⟩|⟨b,cur,cap,h1,h2,h3,h4,h5,h6,h7⟩
  ·exact .inl ⟨by simp [h1],h2,by simpa using h3⟩
  ·refine .inr ⟨b,cur,cap,by simp [h1],h2,by simp [h3],h4,h5,h6, ?_,fun i j r x hi hj=> ?_⟩
   ·have:=(nh b h1).1
    simp only [h1,if_true,List.length_map,Nat.mul_one]
    rw [if_neg (by omega)]
   ·rw [List.getElem?_map] at hi
    obtain ⟨y,hy,rfl⟩:=Option.map_eq_some_iff.1 hi
    cases j with
    |succ j=>simp [rI] at hj
    |zero=>
     simp only [rI,List.getElem?_cons_zero,Option.some.injEq] at hj
     subst hj
     have hil:i<L.length:=(List.getElem?_eq_some_iff.1 hy).1
     have h8:=h7 i hil
     rw [List.getD_eq_getElem?_getD,hy] at h8
     exact ⟨_,by simpa using h8, .sc _ rfl⟩
 ·show (if _ then _ else _)=0
  rw [if_neg (by have:=hb.size;omega),if_neg fun h=>by have:=(nh b h).2;omega]
 ·obtain ⟨rfl,rfl⟩:=hs1 q _ o rfl hq
  simp only [if_true] at hb'
  exact (nh b hb').1
theorem p9 (g:Gr) (s:UG.Sc) (i:Nat) (hi:i∈s.stk) (h1:s.stk.length≤100000) (h2:s.blk.length≤100000):
 Spec Try.prog 70 (Args [.ptr 10000 0,eN i])
  [(10000, .box (bL g s.cnt (.ref 10003) (.ref 10004))),(10001, .own 3 1 (s.num.map rN)),(10002, .own 3 1 (s.low.map rN)),(10003, .own 3 1 (s.stk.map rN)),(10004, .own 25 1 (s.blk.map lp))] (.tup [])
  [(10000, .box (bL g s.cnt (.ref 10005) (.ref 10006))),(10001, .own 3 1 (s.num.map rN)),(10002, .own 3 1 (s.low.map rN)),(10005, .own 3 1 ((UG.fq dZ s i).stk.map rN)),(10006, .own 25 1 ((UG.fq dZ s i).blk.map lp))]:=by
 obtain ⟨num,low,cnt,stk,blk⟩:=s
 simp only at hi h1 h2 ⊢
 have hlt:stk.idxOf i<stk.length:=List.idxOf_lt_length_iff.2 hi
 have hI:=om stk i hi (by omega)
 have hV:=mL stk (stk.idxOf i)
 have hdl:(stk.drop (stk.idxOf i)).length≤1000000:=by rw [List.length_drop];omega
 have hT:=mM (stk.drop (stk.idxOf i)) hdl
 have e1:(UG.fq dZ ⟨num,low,cnt,stk,blk⟩ i).stk=stk.take (stk.idxOf i):=rfl
 have e2:(UG.fq dZ ⟨num,low,cnt,stk,blk⟩ i).blk=blk++ [dZ (stk.drop (stk.idxOf i))]:=rfl
 rw [e1,e2]
 have xq:∀a,(stk.map rN).drop a=(stk.drop a).map rN:=fun a=>(List.map_drop ..).symm
 generalize stk.idxOf i=a at*
 (refine Spec.z6 (C:=T.cfg [25] [21]) (rs:= []) [(10005,34),(10006,25)] (T.aI _ _) Try.func70 rfl rfl Try.ntmps70 Try.results70 (by simp [AObj.isNest]) (by simp [AObj.isNest]) (by first|(simp [look];done)|(simp [asN];done)|(intro l hl;simp only [asN];repeat (rw [if_neg (fun e=>by subst e;simp [look] at hl)]))) (by first|(simp [look];done)|(simp [asN];done)|(intro l hl;simp only [asN];repeat (rw [if_neg (fun e=>by subst e;simp [look] at hl)]))) (by kernel_rfl) T.mixed fun X hX hP hC cz gV=> ?_)
 repeat' (first|refine Rn.p ?_|(with_reducible apply And.intro)|((first|(refine hK _ ?_;clear hK K)|with_reducible intro K hK|refine Rs.p ?_|((with_reducible first|apply oP|apply oQ);exact rfl)|(refine cQ hX hC hP (hI) rfl rfl rfl ?_ ?_ ?_ ?_;iterate 3 (focus (simp only [go_sem,simprocAttr,bL,xq];done)))|(refine bS hX hC hP [(10000,10003),(10001,210)] (hV) rfl rfl rfl ?_ ?_ ?_ ?_ ?_ ?_ ?_ ?_ ?_ ?_ ?_ ?_ ?_ ?_;(focus (simp only [go_sem,simprocAttr,bL,xq];done));(iterate 12 (focus (simp [go_sem,simprocAttr,bL,xq];done)));try simp only [List.map_cons,List.map_nil])|(refine nQ hX hC hP 23 (hT) rfl rfl rfl ?_ ?_ (by first|exact ⟨_,_,_,rfl,AN⟩|exact ⟨_,_,_,rfl,AO⟩|exact ⟨_,_,_,rfl,AP⟩|exact ⟨_,_,_,rfl,AW⟩) rfl (by decide) ?_;(iterate 2 (focus (simp only [go_sem,simprocAttr,bL,xq];done)));simp only [go_sem,simprocAttr,bL,xq]));try simp only [go_sem,simprocAttr,bL,xq])|((with_reducible refine oD ?_ ?_);kernel_rfl)|((with_reducible intro h);try simp only [go_sem,simprocAttr,bL,xq] at h)|omega|intro h)
 all_goals (simp [go_sem,simprocAttr,bL,xq,lp])
end Go.Ab
end
section
namespace Go.Ab
set_option maxRecDepth 10000
set_option linter.unusedSectionVars false
namespace UG
variable {G:UG}
structure Bd (G:UG) (s:Sc):Prop where
 nd:(s.stk++s.blk.flatten).Nodup
 lt:∀e∈s.stk++s.blk.flatten,e<G.m
 ne:∀b∈s.blk,b≠ []
 cn:s.cnt+G.gO s≤G.n
theorem dA:∀ {L:List (List Nat)},(∀b∈L,b≠ [])→L.length≤L.flatten.length
 | [],_=>by simp
 |b::L,h=>by
  have h1:=dA (L:=L) fun c hc=>h c (List.mem_cons_of_mem _ hc)
  have h2:=List.length_pos_iff.2 (h b (by simp))
  simp only [List.length_cons,List.flatten_cons,List.length_append]
  omega
theorem Bd.len {s:Sc} (h:G.Bd s):s.stk.length≤G.m∧s.blk.length≤G.m∧s.cnt≤G.n:=by
 have h1:=h.nd.length_le_of_subset (l₂:=List.range G.m) fun e he=>List.mem_range.2 (h.lt e he)
 rw [List.length_range,List.length_append] at h1
 have h2:=dA h.ne
 have h3:=h.cn
 omega
section
variable (hG:G.Ok) {so:List Nat→List Nat} (hsp:∀l,(so l).Perm l)
include hG
structure Cq (G:UG) (s s':Sc):Prop where
 ln:s'.num.length=s.num.length
 kp:∀v,s.nm v≠0→s'.nm v≠0
 cn:s'.cnt+G.gO s'≤s.cnt+G.gO s
theorem Cq.refl (s:Sc):G.Cq s s:=⟨rfl,fun _ h=>h,Nat.le_refl _⟩
theorem Cq.trans {s t u:Sc} (h:G.Cq s t) (k:G.Cq t u):G.Cq s u:=⟨k.ln.trans h.ln,fun v hv=>k.kp v (h.kp v hv),Nat.le_trans k.cn h.cn⟩
theorem Cq.same {s t:Sc} (h1:t.num=s.num) (h2:t.cnt=s.cnt):G.Cq s t:=by
 have e:∀v,t.nm v=s.nm v:=fun v=>by unfold Sc.nm;rw [h1]
 refine ⟨by rw [h1],fun v hv=>by rw [e];exact hv, ?_⟩
 unfold gO
 simp only [e,h2]
 exact Nat.le_refl _
theorem xu {s:Sc} {x:Nat} (hl:s.num.length=G.n) (hx:x<G.n) (h0:s.nm x=0):G.Cq s (iP s x):=by
 have hn:∀v,(iP s x).nm v=if v=x then s.cnt+1 else s.nm v:=fun v=>cq (by rw [hl];exact hx)
 have hk:∀v,s.nm v≠0→(iP s x).nm v≠0:=fun v hv=>by rw [hn];split<;>omega
 refine ⟨by simp [iP],hk, ?_⟩
 have:=mH hk hx h0 (by rw [hn,if_pos rfl];omega)
 show s.cnt+1+_≤_
 omega
theorem mN:∀(f:Nat) (s:Sc) (x:Nat) (aq:Option Nat),s.num.length=G.n→x<G.n→s.nm x=0→G.Cq s (cA G so f x aq s)
 |0,s,x,aq,_,_,_=>Cq.refl hG s
 |f+1,s,x,aq,hl,hx,h0=>by
  have key:∀(L:List Nat) (s':Sc),(∀e∈L,∃a,G.J e x a)→s'.num.length=G.n→G.Cq s' (L.foldl (bK G so (fun y i=>cA G so f y (some i)) x aq) s'):=by
   intro L
   induction L with
   |nil=>intro s' _ _;exact Cq.refl hG s'
   |cons i L ih=>
    intro s' hJ hl'
    obtain ⟨z,hj⟩:=hJ i (by simp)
    have h1:G.Cq s' (bK G so (fun y i=>cA G so f y (some i)) x aq s' i):=by
     unfold bK
     rw [mG hj]
     split
     ·exact Cq.refl hG s'
     ·split
      ·rename_i hz
       have h2:=mN f {s' with stk:=s'.stk++ [i]} z (some i) hl' (hj.lt hG).2.1 hz
       have h3:G.Cq s' {s' with stk:=s'.stk++ [i]} :=Cq.same hG rfl rfl
       have h4:=Cq.trans hG h3 h2
       simp only
       split
       ·exact Cq.trans hG h4 (Cq.same hG rfl rfl)
       ·exact Cq.trans hG h4 (Cq.same hG rfl rfl)
      ·split
       ·exact Cq.same hG rfl rfl
       ·exact Cq.refl hG s'
    exact Cq.trans hG h1 (ih _ (fun e he=>hJ e (List.mem_cons_of_mem _ he)) (by rw [h1.ln];exact hl'))
  have h1:=xu hG hl hx h0
  exact Cq.trans hG h1 (key (G.ends x) (iP s x) (fun e he=>eL.1 he) (by rw [h1.ln];exact hl))
theorem wu (f:Nat) {s:Sc} {x:Nat} {aq:Option Nat} (hl:s.num.length=G.n) (hx:x<G.n) (h0:s.nm x=0) (k:Nat):G.Cq s (((G.ends x).take k).foldl (bK G so (fun y i=>cA G so f y (some i)) x aq) (iP s x)):=by
 have key:∀(L:List Nat) (s':Sc),(∀e∈L,∃a,G.J e x a)→s'.num.length=G.n→G.Cq s' (L.foldl (bK G so (fun y i=>cA G so f y (some i)) x aq) s'):=by
  intro L
  induction L with
  |nil=>intro s' _ _;exact Cq.refl hG s'
  |cons i L ih=>
   intro s' hJ hl'
   obtain ⟨z,hj⟩:=hJ i (by simp)
   have h1:G.Cq s' (bK G so (fun y i=>cA G so f y (some i)) x aq s' i):=by
    unfold bK
    rw [mG hj]
    split
    ·exact Cq.refl hG s'
    ·split
     ·rename_i hz
      have h2:=mN hG (so:=so) f {s' with stk:=s'.stk++ [i]} z (some i) hl' (hj.lt hG).2.1 hz
      have h3:G.Cq s' {s' with stk:=s'.stk++ [i]} :=Cq.same hG rfl rfl
      have h4:=Cq.trans hG h3 h2
      simp only
      split
      ·exact Cq.trans hG h4 (Cq.same hG rfl rfl)
      ·exact Cq.trans hG h4 (Cq.same hG rfl rfl)
     ·split
      ·exact Cq.same hG rfl rfl
      ·exact Cq.refl hG s'
   exact Cq.trans hG h1 (ih _ (fun e he=>hJ e (List.mem_cons_of_mem _ he)) (by rw [h1.ln];exact hl'))
 have h1:=xu hG hl hx h0
 exact Cq.trans hG h1 (key _ (iP s x) (fun e he=>eL.1 (List.mem_of_mem_take he)) (by rw [h1.ln];exact hl))
include hsp
theorem oo (f:Nat) {s:Sc} {y:Nat} {aq:Option Nat} {P:List Nat} (hf:G.gO s≤f+1) (hp:G.Pre s y aq P):∀k,k≤(G.ends y).length→G.Inv s y aq P (fun e=>e∈(G.ends y).take k) (((G.ends y).take k).foldl (bK G so (fun y i=>cA G so f y (some i)) y aq) (iP s y))
 |0,_=>eM hG (fun e a _=>by simp) (lI hG hp)
 |k+1,hk=>by
  have hi:=oo f hf hp k (by omega)
  have hlt:k<(G.ends y).length:=by omega
  obtain ⟨z,hj⟩:=eL.1 (List.getElem_mem hlt)
  have hni:(G.ends y)[k]∉(G.ends y).take k:=fun h=>by
   have bU:=mF (G:=G) (x:=y)
   obtain ⟨j,hj1,hj2⟩:=List.mem_iff_getElem.1 h
   rw [List.length_take] at hj1
   rw [List.getElem_take] at hj2
   have:=(List.getElem_inj (h₀:=by omega) (h₁:=hlt) bU).1 hj2
   omega
  have h1:=iB hG hsp (vis:=fun y i=>cA G so f y (some i)) hp hi (fun i u hk hu=>jE hG hsp f (by
   have h2:=mH (G:=G) (s:=s) (s':=(((G.ends y).take k).foldl (bK G so (fun y i=>cA G so f y (some i)) y aq) (iP s y))) (fun v hv=>by rw [(hi.keep v hv).1];exact hv) hp.hy hp.un (by rw [hi.ny];omega)
   unfold gO at h2 hf ⊢
   exact Nat.le_of_lt_succ (Nat.lt_of_lt_of_le h2 hf)) (kC hG hp hi hk hu)) hj hni
  rw [List.take_add_one,List.getElem?_eq_getElem hlt,Option.toList_some,List.foldl_append]
  exact eM hG (fun e a _=>by rw [List.mem_append,List.mem_singleton]) h1
theorem rY (f:Nat) {s:Sc} {y:Nat} {aq:Option Nat} {k:Nat} (hk:k<(G.ends y).length):((G.ends y).take (k+1)).foldl (bK G so (fun y i=>cA G so f y (some i)) y aq) (iP s y)=bK G so (fun y i=>cA G so f y (some i)) y aq (((G.ends y).take k).foldl (bK G so (fun y i=>cA G so f y (some i)) y aq) (iP s y)) ((G.ends y).getD k 0):=by
 rw [List.take_add_one,List.getElem?_eq_getElem hk,Option.toList_some,List.foldl_append,List.getD_eq_getElem?_getD,List.getElem?_eq_getElem hk]
 rfl
omit hsp in
theorem uK {s s':Sc} {y:Nat} {aq:Option Nat} {P:List Nat} {h:Nat→Prop} (hb:G.Bd s) (hp:G.Pre s y aq P) (hi:G.Inv s y aq P h s') (hc:G.Cq s s'):G.Bd s':=by
 obtain ⟨S,B,h1,h2,h3,h4,h5,h6⟩:=hi.sb
 have hnew:∀e∈S++B.flatten,some e≠aq∧∃d a,s.nm d=0∧G.J e d a:=fun e he=>by
  obtain ⟨g1,d,a,g2,_,g3⟩:=(h4 e).1 he
  exact ⟨g1,d,a,g2.1,g3⟩
 refine ⟨?_,fun e he=> ?_,fun b hb'=> ?_,Nat.le_trans hc.cn hb.cn⟩
 ·rw [h1,h2,List.flatten_append]
  refine (List.Perm.nodup_iff (l₁:=(s.stk++s.blk.flatten)++(S++B.flatten)) ?_).1 ?_
  ·simp only [List.append_assoc]
   exact List.Perm.append_left _ (List.perm_append_comm_assoc _ _ _)
  ·rw [List.nodup_append]
   refine ⟨hb.nd,h3,fun a ha b hb'=> ?_⟩
   rintro rfl
   obtain ⟨g1,d,c,g2,g3⟩:=hnew a hb'
   rcases hp.Dt a ha with h7|h7
   ·exact g1 h7
   ·exact h7 d c g3 g2
 ·simp only [h1,h2,List.flatten_append,List.mem_append] at he
  rcases he with (he|he)|(he|he)
  ·exact hb.lt e (by simp [he])
  ·obtain ⟨_,d,c,_,g3⟩:=hnew e (by simp [he]);exact g3.1
  ·exact hb.lt e (List.mem_append.2 (.inr he))
  ·obtain ⟨_,d,c,_,g3⟩:=hnew e (by simp only [List.mem_append];exact .inr he);exact g3.1
 ·rw [h2] at hb'
  rcases List.mem_append.1 hb' with hb'|hb'
  ·exact hb.ne b hb'
  ·obtain ⟨i,_,hi,_⟩:=h6 b hb'
   rintro rfl
   simp at hi
omit hsp in
theorem wv {s s':Sc} {y:Nat} {aq:Option Nat} {P:List Nat} {h:Nat→Prop} (hp:G.Pre s y aq P) (hi:G.Inv s y aq P h s') (hb:G.Bd s') {i z:Nat} (hj:G.J i y z) (hz:s'.nm z=0):G.Bd {s' with stk:=s'.stk++ [i]} :=by
 have hni:i∉s'.stk++s'.blk.flatten:=fun he=>mJ hG hp hi he z y hj.symm hz
 refine ⟨?_,fun e he=> ?_,hb.ne,hb.cn⟩
 ·refine (List.Perm.nodup_iff (l₁:=i::(s'.stk++s'.blk.flatten)) ?_).1 (List.nodup_cons.2 ⟨hni,hb.nd⟩)
  show (i::(s'.stk++s'.blk.flatten)).Perm ((s'.stk++ [i])++s'.blk.flatten)
  rw [List.append_assoc]
  exact List.perm_middle.symm
 ·have he:e∈(s'.stk++ [i])++s'.blk.flatten:=he
  simp only [List.mem_append,List.mem_singleton] at he
  rcases he with (he|rfl)|he
  ·exact hb.lt e (by simp [he])
  ·exact hj.1
  ·exact hb.lt e (List.mem_append.2 (.inr he))
end
end UG
end Go.Ab
end
