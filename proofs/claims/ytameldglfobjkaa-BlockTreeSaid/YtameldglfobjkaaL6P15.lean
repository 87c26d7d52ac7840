/- A part of the proof. -/
import Derived.Shelf.SlSortCmp.NoneTotal
import Derived.Test.YtameldglfobjkaaL6P14
set_option linter.unusedSimpArgs false
set_option linter.unusedVariables false
section
namespace Go.Ab
open Go.Proofs Go.RowKit Go.Shelf Go.Sort
set_option maxRecDepth 10000
theorem qC {α:Type} {R:α→α→Prop} {l m:List α} (hp:l.Perm m) (ha:∀a b,a∈l→b∈l→R a b→R b a→a=b) (h1:l.Pairwise R) (h2:m.Pairwise R):l=m:=by
 induction l generalizing m with
 |nil=>exact hp.symm.eq_nil.symm
 |cons a l ih=>
  cases m with
  |nil=>exact absurd hp.length_eq (by simp)
  |cons b m=>
   obtain ⟨a1,a2⟩:=List.pairwise_cons.1 h1
   obtain ⟨b1,b2⟩:=List.pairwise_cons.1 h2
   have hab:a=b:=by
    refine Classical.byContradiction fun hne=> ?_
    have ma:a∈b::m:=hp.mem_iff.1 (by simp)
    have mb:b∈a::l:=hp.mem_iff.2 (by simp)
    have ma:a∈m:=(List.mem_cons.1 ma).elim (fun e=>absurd e hne) id
    have HE:b∈l:=(List.mem_cons.1 mb).elim (fun e=>absurd e.symm hne) id
    exact hne (ha a b (by simp) mb (a1 b HE) (b1 a ma))
   subst hab
   rw [ih ((List.perm_cons a).1 hp) (fun c d hc hd=>ha c d (by simp [hc]) (by simp [hd])) a2 b2]
structure zJ (cf:Int→Int→Int) (l l':List Int):Prop where
 perm:l.Perm l'
 nd:l.Nodup
 ord:l'.Pairwise fun x y=>cf x y<0∧¬cf y x<0
 FW:∀x∈l,¬cf x x<0
section
variable {cf:Int→Int→Int} {l l':List Int} (S:zJ cf l l')
include S
theorem zJ.idx {x:Int} (h:x∈l):∃i,i<l'.length∧l'.getD i 0=x:=by
 obtain ⟨i,hi,e⟩:=List.mem_iff_getElem.1 (S.perm.mem_iff.1 h)
 exact ⟨i,hi,by rw [List.getD_eq_getElem?_getD,List.getElem?_eq_getElem hi];exact e⟩
theorem zJ.lt {i j:Nat} (hi:i<l'.length) (hj:j<l'.length):cf (l'.getD i 0) (l'.getD j 0)<0↔i<j:=by
 rw [List.getD_eq_getElem?_getD,List.getElem?_eq_getElem hi,List.getD_eq_getElem?_getD,List.getElem?_eq_getElem hj,Option.getD_some,Option.getD_some]
 rcases Nat.lt_trichotomy i j with h|h|h
 ·have:=List.pairwise_iff_getElem.1 S.ord i j hi hj h
  exact ⟨fun _=>h,fun _=>this.1⟩
 ·subst h
  have:=S.FW (l'[i]) (S.perm.mem_iff.2 (List.getElem_mem hi))
  exact ⟨fun h=>absurd h this,fun h=>by omega⟩
 ·have:=List.pairwise_iff_getElem.1 S.ord j i hj hi h
  exact ⟨fun h=>absurd h this.2,fun h=>by omega⟩
theorem zJ.swo:SWO (ltOf fun x y: {x // x∈l} =>cf x.1 y.1) where
 irrefl x:=decide_eq_false (S.FW x.1 x.2)
 trans x y z h1 h2:=by
  obtain ⟨i,hi,ei⟩:=S.idx x.2
  obtain ⟨j,hj,ej⟩:=S.idx y.2
  obtain ⟨k,hk,ek⟩:=S.idx z.2
  simp only [ltOf,decide_eq_true_eq, ← ei, ← ej, ← ek,S.lt hi hj,S.lt hj hk,S.lt hi hk] at h1 h2 ⊢
  omega
 ntrans x y z h1 h2:=by
  obtain ⟨i,hi,ei⟩:=S.idx x.2
  obtain ⟨j,hj,ej⟩:=S.idx y.2
  obtain ⟨k,hk,ek⟩:=S.idx z.2
  simp only [ltOf,decide_eq_false_iff_not, ← ei, ← ej, ← ek,S.lt hi hj,S.lt hj hk,S.lt hi hk] at h1 h2 ⊢
  omega
theorem zJ.eq {d d':Array {x // x∈l}} [Inhabited {x // x∈l}] (hd:d.toList=l.attach) (hp:PermIn 0 d.size d d') (hs:SortedIn (ltOf fun x y: {x // x∈l} =>cf x.1 y.1) 0 d.size d'):d'.toList.map (·.1)=l':=by
 obtain ⟨h1,_,h3⟩:=hp
 have e1:d'.extract 0 d.size=d':=by rw [← h1];exact Array.extract_size
 have e2:d.extract 0 d.size=d:=Array.extract_size
 rw [e1,e2,hd] at h3
 have h4:(d'.toList.map (·.1)).Perm l:=by
  have:=h3.map (fun x: {x // x∈l} =>x.1)
  rwa [List.attach_map_subtype_val] at this
 refine qC (R:=fun x y=>¬cf y x<0) (h4.trans S.perm) (fun a b ha hb r1 r2=> ?_) ?_ (S.ord.imp fun h=>h.2)
 ·obtain ⟨i,hi,ei⟩:=S.idx (h4.mem_iff.1 ha)
  obtain ⟨j,hj,ej⟩:=S.idx (h4.mem_iff.1 hb)
  rw [← ei, ← ej,S.lt hj hi] at r1
  rw [← ei, ← ej,S.lt hi hj] at r2
  rw [← ei, ← ej,show i=j by omega]
 ·rw [List.pairwise_map,List.pairwise_iff_getElem]
  intro i j hi hj hij
  have:=hs i j (by omega) hij (by simpa [h1] using hj)
  rw [getElem!_pos d' j (by simpa using hj),getElem!_pos d' i (by simpa using hi)] at this
  simpa [ltOf] using this
end
def FX (P:Program) (g:Nat) (cb:Array Value) (cf:Int→Int→Int) (l:List Int) (blk:Nat) (w:World):Prop:=
 ∀W:World,w.heap.size≤W.heap.size→(∀b,b<w.heap.size→b≠blk→W.heap[b]? =w.heap[b]?)→∀x,x∈l→∀y,y∈l→
  Calls P g (#[.int .i64 x, .int .i64 y]++cb) W fun e w'=>e= .returned (.int .i64 (cf x y))∧∃q os',w'=grow (W.drewN q) os'
theorem gv {α:Type} [Inhabited α] (enc:α→Value) (w:World) (blk m:Nat) (dk:Array α) (os:Array Obj) {b:Nat} (hb:b<w.heap.size) (hne:b≠blk):(sortWorld enc w blk 0 m dk os).heap[b]? =w.heap[b]? :=by
 show ((w.heap.modify blk _)++os)[b]? =_
 rw [Array.getElem?_append_left (by simpa using hb),Array.getElem?_modify,if_neg (by omega)]
theorem gw {α:Type} [Inhabited α] (enc:α→Value) (w:World) (blk m:Nat) (dk:Array α) (os:Array Obj):w.heap.size≤(sortWorld enc w blk 0 m dk os).heap.size:=by
 show _≤((w.heap.modify blk _)++os).size
 simp
theorem l7 {α:Type} [Inhabited α] (enc:α→Value) (w:World) (blk m:Nat) (dk:Array α) (os:Array Obj) {cur:Array Value} {e:TypeId} {fr:Nat × Nat} (hb:w.heap[blk]? =some (.cells cur e fr)):
 (sortWorld enc w blk 0 m dk os).heap[blk]? =some (.cells (putCells enc 0 dk cur) e fr):=by
 have hlt:blk<w.heap.size:=(Array.getElem?_eq_some_iff.1 hb).1
 show ((w.heap.modify blk _)++os)[blk]? =_
 rw [Array.getElem?_append_left (by simpa using hlt),Array.getElem?_modify,if_pos rfl,hb]
 rfl
end Go.Ab
end
section
namespace Go.Ab
open Go.Proofs Go.RowKit Go.Shelf Go.Sort
set_option maxRecDepth 10000
theorem BQ {w:World} {z:Nat→Nat} {v:Value} {l:List Int} (h:Rd w z v (sI l)) (hne:l≠ []):∃b off cap,v= .slice (some ⟨b,off,none⟩) l.length cap∧b<w.heap.size∧0<z b∧∀j,j<l.length→w.cell? ⟨b,off+j,none⟩=some (.int .i64 (l.getD j 0)):=by
 generalize hx:sI l=x at h
 cases h with
 |sc v h=>cases hx
 |pt b off cells vs hz hc hr=>cases hx
 |nil p sz=>
  simp only [sI,D.sl.injEq,List.map_eq_nil_iff] at hx
  exact absurd hx.2 hne
 |sl b off n cap sz rows vs hn hsz hz hcap hc hr=>
  simp only [sI,D.sl.injEq] at hx
  obtain ⟨rfl,rfl⟩:=hx
  rw [List.length_map] at hn
  subst hn
  have hpos:0<l.length:=List.length_pos_iff.2 hne
  refine ⟨b,off,cap,rfl, ?_,by omega,fun j hj=> ?_⟩
  ·have:=hc 0 (by omega)
   by_cases hlt:b<w.heap.size
   ·exact hlt
   ·exfalso
    simp [World.cell?,Array.getElem?_eq_none (Nat.le_of_not_lt hlt)] at this
  ·have h1:=hc j (by omega)
   have h2:=hr j 0 (rI l[j]) (.sc (.int .i64 l[j])) (by simp [List.getElem?_eq_getElem hj]) rfl
   have h3:=vi h2
   simp only [Nat.mul_one,Nat.add_zero] at h3
   rw [h1,h3]
   simp [List.getD_eq_getElem?_getD,List.getElem?_eq_getElem hj]
end Go.Ab
end
section
namespace Go.Ab
open Go.Proofs
attribute [local congr] ACall.congr gd.congr Nx.congr
set_option maxRecDepth 10000
set_option maxHeartbeats 8000000
def rV (f:Edge→Int) (es:List Edge) (k:Nat) (x:Nat):List Int:=((List.range k).filter fun i=>decide (f (es.getD i (0,0))=(x:Int))).map Int.ofNat
def FY (f:Edge→Int) (es:List Edge) (n k:Nat):List (List (List D)):=(List.range n).map fun x=>(rV f es k x).map rI
def sL (ls:List (List Int)):D:= .sl 1 (ls.map fun l=> [sI l])
def pG (f:Edge→Int) (g:Gr):List (List Int):=(List.range g.n.toNat).map (rV f g.es g.es.length)
def vw (g:Gr):D:= .pt [.sc (.int .i64 g.n),sE g.es,sL (pG (·.1) g),sL (pG (·.2) g)]
theorem cO {g:Gr} (h:aT g=true):0<g.n∧g.n≤64∧g.es.length≤128:=by
 simp [aT] at h;omega
theorem dU {g:Gr} (h:aT g=true) {k:Nat} (hk:k<g.es.length):(0≤(g.es.getD k (0,0)).1∧(g.es.getD k (0,0)).1<g.n)∧(0≤(g.es.getD k (0,0)).2∧(g.es.getD k (0,0)).2<g.n):=by
 have h2:=pn (g:=g) hk
 rw [h] at h2
 have h3:¬lD g (g.es.getD k (0,0))=true:=fun e=>by simpa using h2 e
 simp only [lD,pg,Bool.or_eq_true,decide_eq_true_eq] at h3
 omega
end Go.Ab
end
section
namespace Go.Ab
open Go.Proofs
attribute [local congr] ACall.congr gd.congr Nx.congr
set_option maxRecDepth 10000
def tl (g:Gr) (i:Nat):Int:=(g.es.getD i (0,0)).1
def hd (g:Gr) (i:Nat):Int:=(g.es.getD i (0,0)).2
def wt (g:Gr) (out:List Int) (y:Nat):Int:=
 if (y:Int)∈out then -1 else (((List.range g.es.length).countP fun i=>decide (hd g i=(y:Int))&& !decide (tl g i∈out):Nat):Int)
def zK (g:Gr) (out:List Int):List Int:=(List.range g.n.toNat).map (wt g out)
def BR (g:Gr):Nat→List Int→List Int
 |0,out=>out
 |f+1,out=>if jF (zK g out) 0<0 then out else BR g f (out++ [jF (zK g out) 0])
def vk (g:Gr):List Int:=BR g g.n.toNat []
structure jG (g:Gr) (out:List Int):Prop where
 lo:∀x∈out,0≤x∧x<g.n
 back:∀i,i<g.es.length→hd g i∈out→tl g i∈out
 fuel:out.length+(List.range g.n.toNat).countP (fun y:Nat=> !decide ((y:Int)∈out))=g.n.toNat
theorem wts_length {g:Gr} {out:List Int} :(zK g out).length=g.n.toNat:=by simp [zK]
theorem gy {p:Nat→Bool} {x:Nat} (hx:p x=true):∀ {n:Nat},x<n→(List.range n).countP (fun y=>p y&& !decide (y=x))+1=(List.range n).countP p
 |0,h=>by omega
 |n+1,h=>by
  rw [List.range_succ,List.countP_append,List.countP_append]
  by_cases BS:x=n
  ·subst BS
   have:(List.range x).countP (fun y=>p y&& !decide (y=x))=(List.range x).countP p:=by
    refine List.countP_congr fun y hy=> ?_
    have:y≠x:=by have:=List.mem_range.1 hy;omega
    simp [this]
   rw [this]
   simp [List.countP_cons,hx]
  ·have:=gy hx (n:=n) (by omega)
   have hn:n≠x:=fun e=>BS e.symm
   simp only [List.countP_cons,List.countP_nil,hn,decide_false,Bool.not_false,Bool.and_true]
   omega
theorem jG.nil (g:Gr):jG g []:=⟨by simp,by simp,by rw [List.countP_eq_length_filter,List.filter_eq_self.2 (by simp)];simp⟩
theorem jG.next {g:Gr} (hm:aT g=true) {out:List Int} (h:jG g out) {x:Nat} (hx:x<g.n.toNat) (hw:wt g out x=0):jG g (out++ [(x:Int)])∧(x:Int)∉out∧(∀i,i<g.es.length→hd g i=x→tl g i∈out):=by
 have zq:(x:Int)∉out:=fun hi=>by simp [wt,hi] at hw
 have hb:∀i,i<g.es.length→hd g i=x→tl g i∈out:=by
  intro i hi he
  simp only [wt,zq,if_false] at hw
  have:=List.countP_eq_zero.1 (Int.ofNat.inj hw) i (List.mem_range.2 hi)
  simpa [he] using this
 refine ⟨⟨?_, ?_, ?_⟩,zq,hb⟩
 ·intro y hy
  rcases List.mem_append.1 hy with hy|hy
  ·exact h.lo y hy
  ·simp at hy;omega
 ·intro i hi hh
  rcases List.mem_append.1 hh with hh|hh
  ·exact List.mem_append_left _ (h.back i hi hh)
  ·simp at hh
   exact List.mem_append_left _ (hb i hi hh)
 ·have h1:=h.fuel
  have h2:=gy (p:=fun y:Nat=> !decide ((y:Int)∈out)) (x:=x) (by simp [zq]) hx
  have h3:(List.range g.n.toNat).countP (fun y:Nat=> !decide ((y:Int)∈out++ [(x:Int)]))=(List.range g.n.toNat).countP (fun y:Nat=>(!decide ((y:Int)∈out))&& !decide (y=x)):=by
   refine List.countP_congr fun y _=> ?_
   simp;omega
  rw [h3,List.length_append,List.length_singleton]
  omega
def EO (g:Gr) (x:Nat):List Int:=rV (·.1) g.es g.es.length x
def HF (g:Gr) (x:Nat):List Int:=rV (·.2) g.es g.es.length x
def HG (g:Gr) (out:List Int) (x j y:Nat):Int:=
 if (y:Int)∈out++ [(x:Int)] then -1 else (((List.range g.es.length).countP fun i=>decide (hd g i=(y:Int))&& !decide (tl g i∈out):Nat):Int) - (((EO g x).take j).countP fun e=>decide (hd g e.toNat=(y:Int)):Nat)
def BT (g:Gr) (out:List Int) (x j:Nat):List Int:=(List.range g.n.toNat).map (HG g out x j)
theorem wtps_length {g:Gr} {out:List Int} {x j:Nat} :(BT g out x j).length=g.n.toNat:=by simp [BT]
def C9 (f:Edge→Int) (g:Gr):List (List D):=(pG f g).map fun l=> [sI l]
theorem vwl_length {f:Edge→Int} {g:Gr} :(C9 f g).length=g.n.toNat:=by simp [C9,pG]
def HH (g:Gr):D:= .pt [.sc (.int .i64 g.n),sE g.es, .sl 1 (C9 (·.1) g), .sl 1 (C9 (·.2) g)]
attribute [go_sem] HH wtps_length wts_length vwl_length
def left (g:Gr) (out:List Int):Nat:=(List.range g.n.toNat).countP (fun y:Nat=> !decide ((y:Int)∈out))
end Go.Ab
end
section
namespace Go.Ab
open Go.Proofs
attribute [local congr] ACall.congr gd.congr Nx.congr
set_option maxRecDepth 10000
def FZ (l:List Int) (k:Nat):List Int:=(List.range l.length).map fun p=>if p<k∨l.length - 1<p+k then l.getD (l.length - 1 - p) 0 else l.getD p 0
def zL:List Int→Int
 | []=>0
 |a::r=>r.foldl min a
end Go.Ab
end
section
namespace Go.Ab
open Go.Proofs
attribute [local congr] ACall.congr gd.congr Nx.congr
set_option maxRecDepth 10000
def vL (ls:List (List Int)):List (List D):=ls.map fun l=> [sI l]
theorem vL_length {ls:List (List Int)} :(vL ls).length=ls.length:=by simp [vL]
attribute [go_sem] vL_length
def BU (ls:List (List Int)) (k:Nat):List Int:=((List.range k).filter fun x=>decide ((ls.getD x []).length=0)).map Int.ofNat
def vl (f:Edge→Int) (g:Gr):List Int:=BU (pG f g) g.n.toNat
end Go.Ab
end
section
namespace Go.Ab
open Go.Proofs
attribute [local congr] ACall.congr gd.congr Nx.congr
set_option maxRecDepth 10000
def BW (g:Gr) (ws:List Int) (b:Int) (e:Int):Int:=if 0<ws.getD (tl g e.toNat).toNat 0∧(b<0∨tl g e.toNat<b) then tl g e.toNat else b
def BX (g:Gr) (ws:List Int) (es:List Int):Int:=es.foldl (BW g ws) (-1)
def BY (g:Gr) (ws:List Int) (at_:Int):Int:=BX g ws (HF g at_.toNat)
def BZ (g:Gr) (ws:List Int):Nat→List Int→Int→List Int × Int
 |0,way,at_=>(way,at_)
 |f+1,way,at_=>if at_<0∨at_∈way then (way,at_) else BZ g ws f (way++ [at_]) (BY g ws at_)
def xT (g:Gr):List Int × Int:=BZ g (zK g (vk g)) g.n.toNat [] (cU (fun n=>decide (0<n)) (zK g (vk g)))
def B2 (l:List Int):List Int:=l.drop (jF l (zL l)).toNat++l.take (jF l (zL l)).toNat
def EP (g:Gr):List Int:=if (xT g).2<0 then [] else B2 ((xT g).1.drop (jF (xT g).1 (xT g).2).toNat).reverse
structure Way (g:Gr) (way:List Int):Prop where
 lo:∀x∈way,0≤x∧x<g.n
 fuel:way.length+left g way=g.n.toNat
theorem vm {g:Gr} :left g []=g.n.toNat:=by
 have:=(jG.nil g).fuel
 rw [List.length_nil,Nat.zero_add] at this
 exact this
theorem vn {g:Gr} {way:List Int} {a:Nat} (ha:a<g.n.toNat) (hn:(a:Int)∉way):left g way=left g (way++ [(a:Int)])+1:=by
 unfold left
 rw [← gy (p:=fun y:Nat=> !decide ((y:Int)∈way)) (x:=a) (by simp [hn]) ha]
 congr 1
 refine List.countP_congr fun y _=> ?_
 simp;omega
theorem Way.nil (g:Gr):Way g []:=⟨by simp,by rw [vm];simp⟩
theorem Way.next {g:Gr} {way:List Int} {a:Nat} (h:Way g way) (ha:a<g.n.toNat) (hn:(a:Int)∉way):Way g (way++ [(a:Int)]):=by
 refine ⟨fun x hx=> ?_, ?_⟩
 ·rcases List.mem_append.1 hx with hx|hx
  ·exact h.lo x hx
  ·simp at hx;omega
 ·have h1:=h.fuel
  have h2:=vn ha hn
  rw [List.length_append,List.length_singleton];omega
end Go.Ab
end
section
namespace Go.Ab
open Go.Proofs
attribute [local congr] ACall.congr gd.congr Nx.congr
set_option maxRecDepth 10000
def eF (f:Int × Int × List Int):AV:= .agg [eN f.1,eN f.2.1, .d (sI f.2.2)]
attribute [go_sem] eF
def yJ (g:Gr):Int:=cU (fun e:Edge=>decide (e.1=e.2)) g.es
def zM (g:Gr) (i:Nat):Bool:=decide (g.es.getD i (0,0)∈g.es.take i)
def vo (g:Gr):Int:=cU (zM g) (List.range g.es.length)
def yK (g:Gr) (F2 bare:List Int):Int × Int × List Int:=
 if aT g=false then (1,0, []) else
 if 0≤yJ g then (13,yJ g, []) else
 if 0≤vo g then (14,vo g, []) else
 if 0<F2.length then (15,0,F2) else
 if 1<bare.length then (16,0,bare.take 2) else (0,0, [])
def B3 (g:Gr):Int × Int × List Int:=yK g (EP g) (vl (·.2) g)
end Go.Ab
end
section
namespace Go.Ab
open Go.Proofs
attribute [local congr] ACall.congr gd.congr Nx.congr
set_option maxRecDepth 10000
def vp (f:Edge→Int) (es:List Edge) (k:Nat) (x:Int):List Int:=((List.range k).filter fun i=>decide (f (es.getD i (0,0))=x)).map Int.ofNat
def HI (b:Bool) (e:Edge):Int:=if b then e.1 else e.2
end Go.Ab
end
section
namespace Go.Ab
open Go.Proofs
attribute [local congr] ACall.congr gd.congr Nx.congr
set_option maxRecDepth 10000
def rB (b:Bool):List D:= [.sc (.bool b)]
def sB (l:List Bool):D:= .sl 1 (l.map rB)
theorem getD_rB (l:List Bool) (i:Nat):(l.map rB).getD i [.sc (.bool false)]= [.sc (.bool (l.getD i false))]:=by
 simp only [List.getD_eq_getElem?_getD,List.getElem?_map]
 cases l[i]? <;>rfl
attribute [go_sem] getD_rB sB
theorem cD (l:List Bool) (k:Nat) (v:Bool):(l.map rB).set k [.sc (.bool v)]=(l.set k v).map rB:=by
 rw [List.map_set];rfl
theorem tg {α:Type} {n k:Nat} {f:Nat→α} {v:α} :((List.range n).map f).set k v=(List.range n).map fun y=>if y=k then v else f y:=by
 refine List.ext_getElem? fun i=> ?_
 rw [List.getElem?_set,List.length_map,List.length_range]
 by_cases hi:i<n
 ·rw [List.getElem?_map,List.getElem?_map,List.getElem?_range hi]
  by_cases h:k=i
  ·subst h;simp [hi]
  ·have:¬i=k:=fun e=>h e.symm
   simp [h,this]
 ·rw [List.getElem?_eq_none (by simp;omega),List.getElem?_eq_none (by simp;omega)]
  split
  ·rw [if_neg (by omega)]
  ·rfl
def dV (n k:Nat):List Bool:=(List.range n).map fun y=>decide (y<k)
def vq (g:Gr) (l:List Bool) (j:Nat):List Bool:=(List.range g.n.toNat).map fun y:Nat=>(List.range j).any fun i=>decide (hd g i=(y:Int))&&(l.getD (tl g i).toNat false&&l.getD (hd g i).toNat false)
def vr (g:Gr):Nat→List Bool
 |0=>dV g.n.toNat g.n.toNat
 |k+1=>vq g (vr g k) g.es.length
theorem trueK_length {n k:Nat} :(dV n k).length=n:=by simp [dV]
theorem nextK_length {g:Gr} {l:List Bool} {j:Nat} :(vq g l j).length=g.n.toNat:=by simp [vq]
theorem leftK_length {g:Gr} {k:Nat} :(vr g k).length=g.n.toNat:=by
 cases k
 ·exact trueK_length
 ·exact nextK_length
theorem qD {n:Nat} :List.replicate n [D.sc (.bool false)]=(dV n 0).map rB:=by
 refine List.ext_getElem? fun i=> ?_
 by_cases hi:i<n
 ·simp [dV,hi,rB,List.getElem?_range hi]
 ·rw [List.getElem?_eq_none (by simp;omega),List.getElem?_eq_none (by simp [dV];omega)]
theorem qE {n k:Nat} :(dV n k).set k true=dV n (k+1):=by
 unfold dV;rw [tg]
 refine List.map_congr_left fun y _=> ?_
 split
 ·rename_i h;subst h;simp
 ·rename_i h
  rw [Bool.eq_iff_iff];simp;omega
attribute [go_sem] trueK_length nextK_length leftK_length
end Go.Ab
end
section
namespace Go.Ab
open Go.Proofs
attribute [local congr] ACall.congr gd.congr Nx.congr
set_option maxRecDepth 10000
def ER (g:Gr):List Bool:=vr g g.n.toNat
def F3 (g:Gr):Int:=if cU (fun b:Bool=>b) (ER g)<0 then g.n else cU (fun b:Bool=>b) (ER g)
def zN (g:Gr) (x:Int) (b:Int) (i:Nat):Int:=if hd g i=x∧(ER g).getD (tl g i).toNat false=true then min b (tl g i) else b
def B4 (g:Gr) (x:Int) (k:Nat):Int:=(List.range k).foldl (zN g x) g.n
def B5 (g:Gr):Nat→List Int→Int→List Int × Int
 |0,way,x=>(way,x)
 |f+1,way,x=>if x∈way then (way,x) else B5 g f (way++ [x]) (B4 g x g.es.length)
def gx (g:Gr):Gr:=⟨g.n+1,g.es⟩
def vt (g:Gr):List Int × Int:=B5 g (g.n.toNat+1) [] (F3 g)
def ES (l:List Int) (m k:Nat):List Int:=(List.range k).map fun i=>l.getD ((m+l.length - i) % l.length) 0
def B6 (l:List Int):List Int:=ES l (jF l (zL l)).toNat l.length
def B7 (g:Gr):List Int:=if F3 g=g.n then [] else B6 ((vt g).1.drop (jF (vt g).1 (vt g).2).toNat)
end Go.Ab
end
section
namespace Go.Ab
open Go.Proofs
attribute [local congr] ACall.congr gd.congr Nx.congr
set_option maxRecDepth 10000
def F4 (g:Gr):Int × Int × List Int:=yK g (B7 g) (vl (·.2) g)
end Go.Ab
end
section
namespace Go.Ab
def Ord (g:Gr) (out:List Int):Prop:=∀p,p<out.length→∀i,i<g.es.length→hd g i=out.getD p 0→tl g i∈out.take p
theorem vu {l r:List Int} {p:Nat} (h:p<l.length):(l++r).getD p 0=l.getD p 0:=by
 rw [List.getD_eq_getElem?_getD,List.getD_eq_getElem?_getD,List.getElem?_append_left h]
theorem Ord.next {g:Gr} {out:List Int} (h:Ord g out) {x:Nat} (hb:∀i,i<g.es.length→hd g i=x→tl g i∈out):Ord g (out++ [(x:Int)]):=by
 intro p hp i hi hh
 rw [List.length_append,List.length_singleton] at hp
 by_cases iK:p<out.length
 ·rw [vu iK] at hh
  have:=h p iK i hi hh
  rw [List.take_append_of_le_length (by omega)]
  exact this
 ·have hpe:p=out.length:=by omega
  subst hpe
  rw [List.getD_eq_getElem?_getD,List.getElem?_append_right (by omega)] at hh
  simp at hh
  rw [List.take_append_of_le_length (by omega),List.take_of_length_le (by omega)]
  exact hb i hi hh
def Q (g:Gr) (a:Nat) (t:Int):Prop:=∃i,i<g.es.length∧hd g i=(a:Int)∧tl g i=t∧t∉vk g
theorem pH {g:Gr} (hm:aT g=true) {i:Nat} (hi:i<g.es.length):0≤tl g i∧tl g i<g.n:=(dU hm hi).1
theorem pI {g:Gr} (hm:aT g=true) {i:Nat} (hi:i<g.es.length):0≤hd g i∧hd g i<g.n:=(dU hm hi).2
end Go.Ab
end
section
namespace Go.Ab
set_option maxRecDepth 10000
set_option linter.unusedSectionVars false
structure UG where
 n:Nat
 m:Nat
 T:Nat→Nat
 H:Nat→Nat
namespace UG
structure Ok (G:UG):Prop where
 t:∀i,i<G.m→G.T i<G.n
 h:∀i,i<G.m→G.H i<G.n
 ne:∀i,i<G.m→G.T i≠G.H i
def J (G:UG) (i x y:Nat):Prop:=i<G.m∧(G.T i=x∧G.H i=y∨G.T i=y∧G.H i=x)
variable {G:UG}
theorem J.symm {i x y:Nat} (h:G.J i x y):G.J i y x:=⟨h.1,h.2.symm⟩
theorem J.two {i x y a b:Nat} (h:G.J i x y) (h':G.J i a b):a=x∧b=y∨a=y∧b=x:=by
 obtain ⟨_,h⟩:=h
 obtain ⟨_,h'⟩:=h'
 omega
theorem J.snd {i x y b:Nat} (h:G.J i x y) (h':G.J i x b):b=y:=by
 obtain ⟨_,h⟩:=h
 obtain ⟨_,h'⟩:=h'
 omega
theorem J.lt (hG:G.Ok) {i x y:Nat} (h:G.J i x y):x<G.n∧y<G.n∧x≠y:=by
 have h1:=hG.t i h.1
 have h2:=hG.h i h.1
 have h3:=hG.ne i h.1
 obtain ⟨_,h⟩:=h
 omega
theorem J.self {i:Nat} (h:i<G.m):G.J i (G.T i) (G.H i):=⟨h, .inl ⟨rfl,rfl⟩⟩
inductive Cn (G:UG) (A:Nat→Prop) (x:Nat):Nat→Prop
 |refl:A x→Cn G A x x
 |step {y z i:Nat} :Cn G A x y→G.J i y z→A z→Cn G A x z
theorem Cn.fst {A:Nat→Prop} {x y:Nat} (h:G.Cn A x y):A x:=by
 induction h with
 |refl h=>exact h
 |step _ _ _ ih=>exact ih
theorem Cn.AG {A:Nat→Prop} {x y:Nat} (h:G.Cn A x y):A y:=by
 cases h with
 |refl h=>exact h
 |step _ _ h=>exact h
theorem Cn.trans {A:Nat→Prop} {x y z:Nat} (h:G.Cn A x y) (k:G.Cn A y z):G.Cn A x z:=by
 induction k with
 |refl _=>exact h
 |step _ j a ih=>exact .step ih j a
theorem Cn.one {A:Nat→Prop} {x y i:Nat} (h:G.J i x y) (hx:A x) (hy:A y):G.Cn A x y:= .step (.refl hx) h hy
theorem Cn.symm {A:Nat→Prop} {x y:Nat} (h:G.Cn A x y):G.Cn A y x:=by
 induction h with
 |refl h=>exact .refl h
 |step h j a ih=>exact (Cn.one j.symm a h.AG).trans ih
theorem Cn.mono {A B:Nat→Prop} (F5:∀v,A v→B v) {x y:Nat} (h:G.Cn A x y):G.Cn B x y:=by
 induction h with
 |refl h=>exact .refl (F5 _ h)
 |step _ j a ih=>exact .step ih j (F5 _ a)
def R (G:UG) (i k:Nat):Prop:=∃v a b,G.J i v a∧G.J k v b∧G.Cn (fun u=>u≠v) a b
theorem R.symm {i k:Nat} (h:G.R i k):G.R k i:=by
 obtain ⟨v,a,b,h1,h2,h3⟩:=h
 exact ⟨v,b,a,h2,h1,h3.symm⟩
theorem R.lt {i k:Nat} (h:G.R i k):i<G.m∧k<G.m:=by
 obtain ⟨v,a,b,h1,h2,h3⟩:=h
 exact ⟨h1.1,h2.1⟩
inductive Sm (G:UG) (i:Nat):Nat→Prop
 |refl:Sm G i i
 |step {j k:Nat} :Sm G i j→G.R j k→Sm G i k
theorem Sm.trans {i j k:Nat} (h:G.Sm i j) (h':G.Sm j k):G.Sm i k:=by
 induction h' with
 |refl=>exact h
 |step _ r ih=>exact .step ih r
theorem Sm.symm {i j:Nat} (h:G.Sm i j):G.Sm j i:=by
 induction h with
 |refl=>exact .refl
 |step _ r ih=>exact (Sm.step .refl r.symm).trans ih
theorem Sm.lt {i j:Nat} (h:G.Sm i j) (hi:i<G.m):j<G.m:=by
 cases h with
 |refl=>exact hi
 |step _ r=>exact r.lt.2
def tT (G:UG) (b:List Nat):Prop:=∃i,i<G.m∧i∈b∧∀k,k∈b↔G.Sm i k
theorem tT.step {b:List Nat} (h:G.tT b) {j k:Nat} (hj:j∈b) (r:G.R j k):k∈b:=by
 obtain ⟨i,_,_,h2⟩:=h
 exact (h2 k).2 (.step ((h2 j).1 hj) r)
structure Sc where
 num:List Nat
 low:List Nat
 cnt:Nat
 stk:List Nat
 blk:List (List Nat)
def Sc.nm (s:Sc) (v:Nat):Nat:=s.num.getD v 0
def Sc.lw (s:Sc) (v:Nat):Nat:=s.low.getD v 0
def tU (G:UG) (i x:Nat):Nat:=G.T i+G.H i - x
def ends (G:UG) (x:Nat):List Nat:=(List.range G.m).filter fun i=>decide (G.T i=x)||decide (G.H i=x)
def fE (so:List Nat→List Nat) (s:Sc) (i:Nat):Sc:= {s with blk:=s.blk++ [so (s.stk.drop (s.stk.idxOf i))],stk:=s.stk.take (s.stk.idxOf i)}
def bW (G:UG) (so:List Nat→List Nat) (vis:Nat→Nat→Sc→Sc) (x:Nat) (az:Option Nat) (s:Sc) (i:Nat):Sc:=
 if some i=az then s
 else if s.nm (G.tU i x)=0 then
  let s1:=vis (G.tU i x) i {s with stk:=s.stk++ [i]}
  let s2:= {s1 with low:=s1.low.set x (min (s1.lw x) (s1.lw (G.tU i x)))}
  if s2.nm x≤s2.lw (G.tU i x) then fE so s2 i else s2
 else if s.nm (G.tU i x)<s.nm x then {s with stk:=s.stk++ [i],low:=s.low.set x (min (s.lw x) (s.nm (G.tU i x)))}
 else s
def jv (s:Sc) (x:Nat):Sc:= {s with cnt:=s.cnt+1,num:=s.num.set x (s.cnt+1),low:=s.low.set x (s.cnt+1)}
def cI (G:UG) (so:List Nat→List Nat):Nat→Nat→Option Nat→Sc→Sc
 |0,_,_,s=>s
 |f+1,x,az,s=>(G.ends x).foldl (bW G so (fun y i=>cI G so f y (some i)) x az) (jv s x)
def l8 (G:UG) (so:List Nat→List Nat) (s:Sc) (x:Nat):Sc:=if s.nm x=0 then cI G so (G.n+1) x none s else s
def bK (G:UG):Sc:=⟨List.replicate G.n 0,List.replicate G.n 0,0, [], []⟩
def bT (G:UG) (so:List Nat→List Nat):List (List Nat):=((List.range G.n).foldl (l8 G so) (bK G)).blk
theorem eW {i x:Nat} :i∈G.ends x↔∃y,G.J i x y:=by
 unfold ends J
 simp only [List.mem_filter,List.mem_range,Bool.or_eq_true,decide_eq_true_eq]
 constructor
 ·rintro ⟨h,h1|h1⟩
  ·exact ⟨_,h, .inl ⟨h1,rfl⟩⟩
  ·exact ⟨_,h, .inr ⟨rfl,h1⟩⟩
 ·rintro ⟨y,h,h1|h1⟩
  ·exact ⟨h, .inl h1.1⟩
  ·exact ⟨h, .inr h1.2⟩
theorem nA {x:Nat} :(G.ends x).Nodup:=List.nodup_range.filter _
theorem nB {i x y:Nat} (h:G.J i x y):G.tU i x=y:=by
 obtain ⟨_,h⟩:=h
 unfold tU
 omega
def B8 (G:UG):List Nat→Prop
 |a::b::r=>(∃k,G.J k b a)∧B8 G (b::r)
 |_=>True
theorem B8.cn:∀ {P:List Nat} {x:Nat},G.B8 (x::P)→∀w∈x::P,G.Cn (fun v=>v∈x::P) w x
 | [],x,_,w,hw=>by
   simp only [List.mem_singleton] at hw
   subst hw
   exact .refl (by simp)
 |b::r,x,h,w,hw=>by
  obtain ⟨⟨k,hk⟩,h2⟩:=h
  rcases List.mem_cons.1 hw with rfl|hw
  ·exact .refl (by simp)
  ·exact .step ((B8.cn h2 w hw).mono fun v hv=>List.mem_cons_of_mem _ hv) hk (by simp)
structure F6 (G:UG) (s:Sc) (P:List Nat):Prop where
 met:∀w∈P,w<G.n∧s.nm w≠0
 dec:P.Pairwise fun a b=>s.nm b<s.nm a
 ET:G.B8 P
structure Pre (G:UG) (s:Sc) (y:Nat) (az:Option Nat) (P:List Nat):Prop where
 ln:s.num.length=G.n
 ll:s.low.length=G.n
 hy:y<G.n
 un:s.nm y=0
 fh:G.F6 s P
 bl:∀v i a,s.nm v≠0→v∉P→G.J i v a→s.nm a≠0
 le:∀v,s.nm v≤s.cnt
 inj:∀u v,s.nm u≠0→s.nm u=s.nm v→u=v
 bb:(P= []∧az=none)∨∃x r i,P=x::r∧az=some i∧G.J i x y
 EU:∀e∈s.stk++s.blk.flatten,some e=az∨∀a b,G.J e a b→s.nm a≠0
def dw (s s':Sc) (v:Nat):Prop:=s.nm v=0∧s'.nm v≠0
structure Inv (G:UG) (s:Sc) (y:Nat) (az:Option Nat) (P:List Nat) (h:Nat→Prop) (s':Sc):Prop where
 ln:s'.num.length=G.n
 ll:s'.low.length=G.n
 ny:s'.nm y=s.cnt+1
 keep:∀v,s.nm v≠0→s'.nm v=s.nm v∧s'.lw v=s.lw v
 new:∀v,dw s s' v→s.cnt<s'.nm v
 le:∀v,s'.nm v≤s'.cnt
 inj:∀u v,s'.nm u≠0→s'.nm u=s'.nm v→u=v
 AH:∀v,dw s s' v→G.Cn (dw s s') y v
 q1:∀e d a,dw s s' d→(d≠y∨h e)→G.J e d a→dw s s' a∨a∈P
 q2:∀e d w,dw s s' d→(d≠y∨h e)→G.J e d w→w∈P→some e≠az→s'.lw y≤s.nm w
 ly:s'.lw y≤s'.nm y
 q3:s'.lw y=s'.nm y∨∃e d w,dw s s' d∧G.J e d w∧w∈P∧s.nm w=s'.lw y
 sb:∃S B,s'.stk=s.stk++S∧s'.blk=s.blk++B∧(S++B.flatten).Nodup∧(∀e,e∈S++B.flatten↔some e≠az∧∃d a,dw s s' d∧(d≠y∨h e)∧G.J e d a)∧
  (∀e∈S,∃i,az=some i∧G.Sm i e)∧∀b∈B,G.tT b
theorem dw.met {s s':Sc} {v:Nat} (h:dw s s' v):s'.nm v≠0:=h.2
theorem cg {l:List Nat} {i j a:Nat} (hi:i<l.length):(l.set i a).getD j 0=if j=i then a else l.getD j 0:=by
 rw [List.getD_eq_getElem?_getD,List.getElem?_set]
 by_cases h:i=j
 ·subst h;simp [hi]
 ·rw [if_neg h,if_neg (fun e=>h e.symm),List.getD_eq_getElem?_getD]
def iC (G:UG) (s:Sc):Nat:=(List.range G.n).countP fun v=>decide (s.nm v=0)
theorem nC {s s':Sc} (hk:∀v,s.nm v≠0→s'.nm v≠0) {y:Nat} (hy:y<G.n) (h0:s.nm y=0) (h1:s'.nm y≠0):G.iC s'<G.iC s:=by
 unfold iC
 have key:∀l:List Nat,l.countP (fun v=>decide (s'.nm v=0))+(if y∈l then 1 else 0)≤l.countP (fun v=>decide (s.nm v=0)):=by
  intro l
  induction l with
  |nil=>simp
  |cons a l ih=>
   rw [List.countP_cons,List.countP_cons]
   by_cases ha:y=a
   ·subst ha
    simp only [List.mem_cons,true_or,if_true,decide_eq_true_eq,h0,if_pos,if_neg h1]
    split at ih<;>omega
   ·have hk':=hk a
    simp only [List.mem_cons,ha,false_or]
    by_cases h2:s.nm a=0
    ·simp only [decide_eq_true_eq,h2,if_true]
     split<;>omega
    ·simp only [decide_eq_true_eq,if_neg h2,if_neg (hk' h2)]
     omega
 have:=key (List.range G.n)
 rw [if_pos (List.mem_range.2 hy)] at this
 omega
section
variable (hG:G.Ok) {so:List Nat→List Nat}
include hG
theorem mC {s:Sc} {y:Nat} {az:Option Nat} {P:List Nat} (hp:G.Pre s y az P):G.Inv s y az P (fun _=>False) (jv s y):=by
 have hn:∀v,(jv s y).nm v=if v=y then s.cnt+1 else s.nm v:=fun v=>cg (by rw [hp.ln];exact hp.hy)
 have hl:∀v,(jv s y).lw v=if v=y then s.cnt+1 else s.lw v:=fun v=>cg (by rw [hp.ll];exact hp.hy)
 have hN:∀v,dw s (jv s y) v↔v=y:=fun v=>by
  unfold dw
  rw [hn]
  constructor
  ·rintro ⟨h1,h2⟩
   refine Decidable.byContradiction fun h=> ?_
   rw [if_neg h] at h2
   exact h2 h1
  ·rintro rfl
   exact ⟨hp.un,by simp⟩
 have zO:∀v,s.nm v≠0→v≠y:=fun v hv e=>hv (by rw [e];exact hp.un)
 refine ⟨by simp [jv,hp.ln],by simp [jv,hp.ll],by rw [hn,if_pos rfl],fun v hv=>⟨by rw [hn,if_neg (zO v hv)],by rw [hl,if_neg (zO v hv)]⟩,fun v hv=> ?_,fun v=> ?_,fun u v hu huv=> ?_,fun v hv=> ?_,fun e d a hd hh=> ?_,fun e d w hd hh=> ?_, ?_, ?_, ?_⟩
 ·rw [(hN v).1 hv,hn,if_pos rfl];omega
 ·rw [hn]
  have:=hp.le v
  show _≤s.cnt+1
  split<;>omega
 ·rw [hn] at hu
  rw [hn,hn] at huv
  have h1:=hp.le u
  have h2:=hp.le v
  by_cases e1:u=y
  ·by_cases e2:v=y
   ·rw [e1,e2]
   ·rw [if_pos e1,if_neg e2] at huv;omega
  ·by_cases e2:v=y
   ·rw [if_neg e1,if_pos e2] at huv;omega
   ·rw [if_neg e1,if_neg e2] at huv
    rw [if_neg e1] at hu
    exact hp.inj u v hu huv
 ·rw [(hN v).1 hv];exact .refl ((hN y).2 rfl)
 ·rw [(hN d).1 hd] at hh;simp at hh
 ·rw [(hN d).1 hd] at hh;simp at hh
 ·rw [hl,hn,if_pos rfl,if_pos rfl];exact Nat.le_refl _
 ·rw [hl,hn,if_pos rfl,if_pos rfl];exact .inl rfl
 ·refine ⟨[], [],by simp [jv],by simp [jv],by simp,fun e=> ?_,by simp,by simp⟩
  simp only [List.append_nil,List.flatten_nil,List.not_mem_nil,false_iff,not_and]
  rintro _ ⟨d,a,hd,hh,_⟩
  rw [(hN d).1 hd] at hh;simp at hh
theorem nD {s s':Sc} {y:Nat} {az:Option Nat} {P:List Nat} {h:Nat→Prop} (hp:G.Pre s y az P) (hi:G.Inv s y az P h s'):G.F6 s' (y::P):=by
 have hk:∀w∈P,s'.nm w=s.nm w:=fun w hw=>(hi.keep w (hp.fh.met w hw).2).1
 refine ⟨fun w hw=> ?_,List.pairwise_cons.2 ⟨fun w hw=> ?_, ?_⟩, ?_⟩
 ·rcases List.mem_cons.1 hw with rfl|hw
  ·exact ⟨hp.hy,by rw [hi.ny];omega⟩
  ·rw [hk w hw];exact hp.fh.met w hw
 ·rw [hk w hw,hi.ny]
  have:=hp.le w
  omega
 ·refine hp.fh.dec.imp_of_mem fun ha hb h=> ?_
  rw [hk _ ha,hk _ hb];exact h
 ·rcases hp.bb with ⟨rfl,_⟩|⟨x,r,i,rfl,_,hj⟩
  ·trivial
  ·exact ⟨⟨i,hj⟩,hp.fh.ET⟩
theorem vv {s:Sc} {y:Nat} {az:Option Nat} {P:List Nat} (hp:G.Pre s y az P) {w:Nat} (hw:w∈P):∃b x,az=some b∧G.J b y x∧G.Cn (fun u=>u≠y) w x:=by
 rcases hp.bb with ⟨rfl,_⟩|⟨x,r,i,rfl,h1,hj⟩
 ·simp at hw
 ·refine ⟨i,x,h1,hj.symm,(hp.fh.ET.cn w hw).mono fun v hv e=> ?_⟩
  subst e
  exact (hp.fh.met v hv).2 hp.un
theorem mD {s s' s'':Sc} (h1:∀v,s.nm v≠0→s'.nm v=s.nm v) (h2:∀v,s'.nm v≠0→s''.nm v=s'.nm v) (v:Nat):dw s s'' v↔dw s s' v∨dw s' s'' v:=by
 unfold dw
 have:=h1 v
 have:=h2 v
 omega
theorem pJ {s s':Sc} {y:Nat} {az:Option Nat} {P:List Nat} {h:Nat→Prop} (hi:G.Inv s y az P h s') {i z:Nat} (hj:G.J i y z) (hz:dw s s' z∨z∈P) (hs:some i=az∨dw s s' z) (AI:∀w∈P,¬dw s s' w):
 G.Inv s y az P (fun e=>h e∨e=i) s':=by
 have hyz:=(hj.lt hG).2.2
 have l9:∀e d a,dw s s' d→(d≠y∨h e∨e=i)→G.J e d a→(d≠y∨h e)∨(e=i∧d=y∧a=z):=by
  intro e d a hd hh hJ
  by_cases e1:d=y
  ·rcases hh with hh|hh|rfl
   ·exact .inl (.inl hh)
   ·exact .inl (.inr hh)
   ·subst e1;exact .inr ⟨rfl,rfl,hj.snd hJ⟩
  ·exact .inl (.inl e1)
 refine ⟨hi.ln,hi.ll,hi.ny,hi.keep,hi.new,hi.le,hi.inj,hi.AH,fun e d a hd hh hJ=> ?_,fun e d w hd hh hJ hw hb=> ?_,hi.ly,hi.q3, ?_⟩
 ·rcases l9 e d a hd hh hJ with h1|⟨rfl,rfl,rfl⟩
  ·exact hi.q1 e d a hd h1 hJ
  ·exact hz
 ·rcases l9 e d w hd hh hJ with h1|⟨rfl,rfl,rfl⟩
  ·exact hi.q2 e d w hd h1 hJ hw hb
  ·rcases hs with hs|hs
   ·exact absurd hs hb
   ·exact absurd hs (AI _ hw)
 ·obtain ⟨S,B,h1,h2,h3,h4,h5,h6⟩:=hi.sb
  refine ⟨S,B,h1,h2,h3,fun e=> ?_,h5,h6⟩
  rw [h4]
  constructor
  ·rintro ⟨hb,d,a,hd,hh,hJ⟩
   exact ⟨hb,d,a,hd,hh.imp_right .inl,hJ⟩
  ·rintro ⟨hb,d,a,hd,hh,hJ⟩
   rcases l9 e d a hd hh hJ with h1|⟨rfl,rfl,rfl⟩
   ·exact ⟨hb,d,a,hd,h1,hJ⟩
   ·rcases hs with hs|hs
    ·exact absurd hs hb
    ·exact ⟨hb,a,d,hs, .inl (Ne.symm hyz),hJ.symm⟩
theorem vA {s s':Sc} {y:Nat} {az:Option Nat} {P:List Nat} {h:Nat→Prop} (hp:G.Pre s y az P) (hi:G.Inv s y az P h s') {i z:Nat} (hj:G.J i y z) (hz:z∈P) (hb:some i≠az) (hni:¬h i):
 G.Inv s y az P (fun e=>h e∨e=i) {s' with stk:=s'.stk++ [i],low:=s'.low.set y (min (s'.lw y) (s'.nm z))} :=by
 have hyz:=(hj.lt hG).2.2
 have hl:∀v,({s' with stk:=s'.stk++ [i],low:=s'.low.set y (min (s'.lw y) (s'.nm z))} :Sc).lw v=if v=y then min (s'.lw y) (s'.nm z) else s'.lw v:=fun v=>cg (by rw [hi.ll];exact hp.hy)
 have HJ:=hp.fh.met z hz
 have F7:=(hi.keep z HJ.2).1
 have AJ:dw s s' y:=⟨hp.un,by rw [hi.ny];omega⟩
 have AI:∀w∈P,¬dw s s' w:=fun w hw hN=>(hp.fh.met w hw).2 hN.1
 have l9:∀e d a,dw s s' d→(d≠y∨h e∨e=i)→G.J e d a→(d≠y∨h e)∨(e=i∧d=y∧a=z):=by
  intro e d a hd hh hJ
  by_cases e1:d=y
  ·rcases hh with hh|hh|rfl
   ·exact .inl (.inl hh)
   ·exact .inl (.inr hh)
   ·subst e1;exact .inr ⟨rfl,rfl,hj.snd hJ⟩
  ·exact .inl (.inl e1)
 refine ⟨hi.ln,by simp [hi.ll],hi.ny,fun v hv=>⟨(hi.keep v hv).1, ?_⟩,hi.new,hi.le,hi.inj,hi.AH,fun e d a hd hh hJ=> ?_,fun e d w hd hh hJ hw tV=> ?_, ?_, ?_, ?_⟩
 ·rw [hl,if_neg]
  ·exact (hi.keep v hv).2
  ·rintro rfl;exact hv hp.un
 ·rcases l9 e d a hd hh hJ with h1|⟨rfl,rfl,rfl⟩
  ·exact hi.q1 e d a hd h1 hJ
  ·exact .inr hz
 ·rw [hl,if_pos rfl]
  rcases l9 e d w hd hh hJ with h1|⟨rfl,rfl,rfl⟩
  ·have:=hi.q2 e d w hd h1 hJ hw tV
   omega
  ·rw [F7];omega
 ·rw [hl,if_pos rfl]
  have:=hi.ly
  show _≤s'.nm y
  omega
 ·rw [hl,if_pos rfl]
  show min (s'.lw y) (s'.nm z)=s'.nm y∨_
  rcases Nat.le_total (s'.lw y) (s'.nm z) with h1|h1
  ·rw [Nat.min_eq_left h1]
   exact hi.q3
  ·rw [Nat.min_eq_right h1]
   exact .inr ⟨i,y,z,AJ,hj,hz,F7.symm⟩
 ·obtain ⟨S,B,h1,h2,h3,h4,h5,h6⟩:=hi.sb
  have hnew:i∉S++B.flatten:=by
   rw [h4]
   rintro ⟨_,d,a,hd,hh,hJ⟩
   rcases hj.two hJ with ⟨rfl,rfl⟩|⟨rfl,rfl⟩
   ·rcases hh with hh|hh
    ·exact hh rfl
    ·exact hni hh
   ·exact AI _ hz hd
  refine ⟨S++ [i],B,by simp [h1],h2, ?_,fun e=> ?_,fun e he=> ?_,h6⟩
  ·rw [List.append_assoc,List.nodup_append]
   rw [List.nodup_append] at h3
   simp only [List.mem_append,not_or] at hnew
   refine ⟨h3.1, ?_, ?_⟩
   ·rw [List.singleton_append,List.nodup_cons]
    exact ⟨hnew.2,h3.2.1⟩
   ·intro a ha b hb
    rcases List.mem_append.1 hb with hb|hb
    ·rw [List.mem_singleton] at hb
     subst hb
     rintro rfl;exact hnew.1 ha
    ·exact h3.2.2 a ha b hb
  ·have e1:e∈S++ [i]++B.flatten↔e∈S++B.flatten∨e=i:=by
    simp only [List.mem_append,List.mem_singleton]
    constructor
    ·rintro ((h|h)|h)
     ·exact .inl (.inl h)
     ·exact .inr h
     ·exact .inl (.inr h)
    ·rintro ((h|h)|h)
     ·exact .inl (.inl h)
     ·exact .inr h
     ·exact .inl (.inr h)
   rw [e1,h4]
   constructor
   ·rintro (⟨hb,d,a,hd,hh,hJ⟩|rfl)
    ·exact ⟨hb,d,a,hd,hh.imp_right .inl,hJ⟩
    ·exact ⟨hb,y,z,AJ, .inr (.inr rfl),hj⟩
   ·rintro ⟨hb',d,a,hd,hh,hJ⟩
    rcases l9 e d a hd hh hJ with h1|⟨rfl,rfl,rfl⟩
    ·exact .inl ⟨hb',d,a,hd,h1,hJ⟩
    ·exact .inr rfl
  ·rcases List.mem_append.1 he with he|he
   ·exact h5 e he
   ·rw [List.mem_singleton] at he
    subst he
    obtain ⟨b,x,b7,lG,HK⟩:=vv hG hp hz
    exact ⟨b,b7, .step .refl ⟨y,x,z,lG,hj,HK.symm⟩⟩
theorem nE {s s':Sc} {y:Nat} {az:Option Nat} {P:List Nat} {h:Nat→Prop} (hp:G.Pre s y az P) (hi:G.Inv s y az P h s') {e:Nat} (he:e∈s'.stk++s'.blk.flatten):∀a b,G.J e a b→s'.nm a≠0:=by
 have th:s'.nm y≠0:=by rw [hi.ny];omega
 have hkm:∀v,s.nm v≠0→s'.nm v≠0:=fun v hv=>by rw [(hi.keep v hv).1];exact hv
 have hq1:∀e d a,dw s s' d→(d≠y∨h e)→G.J e d a→s'.nm a≠0:=fun e d a hd hh hJ=>by
  rcases hi.q1 e d a hd hh hJ with h1|h1
  ·exact h1.2
  ·exact hkm a (hp.fh.met a h1).2
 obtain ⟨S,B,h1,h2,h3,h4,h5,h6⟩:=hi.sb
 have hold:(some e=az∨∀a b,G.J e a b→s.nm a≠0)→∀a b,G.J e a b→s'.nm a≠0:=by
  rintro (he|he) a b hJ
  ·rcases hp.bb with ⟨_,h0⟩|⟨x,r,k,rfl,hk,B9⟩
   ·rw [h0] at he;cases he
   ·rw [hk] at he
    obtain rfl:=Option.some.inj he
    rcases B9.two hJ with ⟨rfl,rfl⟩|⟨rfl,rfl⟩
    ·exact hkm _ (hp.fh.met _ (by simp)).2
    ·exact th
  ·exact hkm a (he a b hJ)
 have hnew:e∈S++B.flatten→∀a b,G.J e a b→s'.nm a≠0:=fun he a b hJ=>by
  obtain ⟨_,d,c,hd,hh,F8⟩:=(h4 e).1 he
  rcases F8.two hJ with ⟨rfl,rfl⟩|⟨rfl,rfl⟩
  ·exact hd.2
  ·exact hq1 e _ _ hd hh F8
 simp only [h1,h2,List.flatten_append,List.mem_append] at he
 rcases he with (he|he)|(he|he)
 ·exact hold (hp.EU e (by simp [he]))
 ·exact hnew (by simp [he])
 ·exact hold (hp.EU e (List.mem_append.2 (.inr he)))
 ·exact hnew (by simp only [List.mem_append];exact .inr he)
theorem lH {s s':Sc} {y:Nat} {az:Option Nat} {P:List Nat} {h:Nat→Prop} (hp:G.Pre s y az P) (hi:G.Inv s y az P h s') {i z:Nat} (hj:G.J i y z) (hz:s'.nm z=0):
 G.Pre {s' with stk:=s'.stk++ [i]} z (some i) (y::P):=by
 have th:s'.nm y≠0:=by rw [hi.ny];omega
 have hkm:∀v,s.nm v≠0→s'.nm v≠0:=fun v hv=>by rw [(hi.keep v hv).1];exact hv
 have hq1:∀e d a,dw s s' d→(d≠y∨h e)→G.J e d a→s'.nm a≠0:=fun e d a hd hh hJ=>by
  rcases hi.q1 e d a hd hh hJ with h1|h1
  ·exact h1.2
  ·exact hkm a (hp.fh.met a h1).2
 refine ⟨hi.ln,hi.ll,(hj.lt hG).2.1,hz,⟨(nD hG hp hi).met,(nD hG hp hi).dec,(nD hG hp hi).ET⟩,fun v e a hv EV hJ=> ?_,hi.le,hi.inj, .inr ⟨y,P,i,rfl,rfl,hj⟩,fun e he=> ?_⟩
 ·simp only [List.mem_cons,not_or] at EV
  by_cases h0:s.nm v=0
  ·exact hq1 e v a ⟨h0,hv⟩ (.inl EV.1) hJ
  ·exact hkm a (hp.bl v e a h0 EV.2 hJ)
 ·have he':e∈s'.stk++s'.blk.flatten∨e=i:=by
   simp only [List.mem_append,List.mem_singleton] at he ⊢
   rcases he with (he|he)|he
   ·exact .inl (.inl he)
   ·exact .inr he
   ·exact .inl (.inr he)
  rcases he' with he'|rfl
  ·exact .inr (nE hG hp hi he')
  ·exact .inl rfl
theorem pK {s s' s1 s3:Sc} {y:Nat} {az:Option Nat} {P:List Nat} {h:Nat→Prop} (hp:G.Pre s y az P) (hi:G.Inv s y az P h s') {i z:Nat} (hj:G.J i y z) (hz:s'.nm z=0)
 (hq:G.Inv {s' with stk:=s'.stk++ [i]} z (some i) (y::P) (fun _=>True) s1) (e1:s3.num=s1.num) (e2:s3.low=s1.low.set y (min (s1.lw y) (s1.lw z))) (e3:s3.cnt=s1.cnt)
 (AA:∃S B,s3.stk=s.stk++S∧s3.blk=s.blk++B∧(S++B.flatten).Nodup∧(∀e,e∈S++B.flatten↔some e≠az∧∃d a,dw s s3 d∧(d≠y∨h e∨e=i)∧G.J e d a)∧
 (∀e∈S,∃i,az=some i∧G.Sm i e)∧∀b∈B,G.tT b):G.Inv s y az P (fun e=>h e∨e=i) s3:=by
 have th:s'.nm y≠0:=by rw [hi.ny];omega
 have hyz:=(hj.lt hG).2.2
 have j3:∀v,s.nm v≠0→s'.nm v=s.nm v:=fun v hv=>(hi.keep v hv).1
 have hk2:∀v,s'.nm v≠0→s1.nm v=s'.nm v:=fun v hv=>(hq.keep v hv).1
 have w6:∀v,s3.nm v=s1.nm v:=fun v=>by unfold Sc.nm;rw [e1]
 have AK:∀v,s3.lw v=if v=y then min (s'.lw y) (s1.lw z) else s1.lw v:=fun v=>by
  have HL:s1.lw y=s'.lw y:=(hq.keep y th).2
  rw [← HL]
  unfold Sc.lw
  rw [e2]
  exact cg (by rw [hq.ll];exact hp.hy)
 have hN:∀v,dw s s3 v↔dw s s' v∨dw s' s1 v:=fun v=>by
  rw [← mD hG j3 hk2 v];unfold dw;rw [w6]
 have AJ:dw s s' y:=⟨hp.un,th⟩
 have Ca:dw s' s1 z:=⟨hz,by rw [hq.ny];omega⟩
 have zO:s1.nm y=s.cnt+1:=by rw [hk2 y th,hi.ny]
 have Bz:s.cnt<s'.cnt:=by have:=hi.le y;rw [hi.ny] at this;omega
 have hlz:=hq.ly
 have l9:∀e d a,dw s s3 d→(d≠y∨h e∨e=i)→G.J e d a→(dw s s' d∧(d≠y∨h e))∨(e=i∧d=y∧a=z)∨dw s' s1 d:=by
  intro e d a hd hh hJ
  rcases (hN d).1 hd with hd|hd
  ·by_cases e1:d=y
   ·rcases hh with hh|hh|rfl
    ·exact .inl ⟨hd, .inl hh⟩
    ·exact .inl ⟨hd, .inr hh⟩
    ·subst e1;exact .inr (.inl ⟨rfl,rfl,hj.snd hJ⟩)
   ·exact .inl ⟨hd, .inl e1⟩
  ·exact .inr (.inr hd)
 refine ⟨by rw [e1];exact hq.ln,by rw [e2,List.length_set];exact hq.ll,by rw [w6,zO],fun v hv=> ?_,fun v hv=> ?_,fun v=>by rw [w6,e3];exact hq.le v,fun u v hu huv=>hq.inj u v (by rw [← w6];exact hu) (by rw [← w6, ← w6];exact huv),fun v hv=> ?_,fun e d a hd hh hJ=> ?_,fun e d w hd hh hJ hw hb=> ?_, ?_, ?_,AA⟩
 ·have iu:s'.nm v≠0:=by rw [j3 v hv];exact hv
  refine ⟨by rw [w6,hk2 v iu,j3 v hv], ?_⟩
  rw [AK,if_neg (by rintro rfl;exact hv hp.un),(hq.keep v iu).2]
  exact (hi.keep v hv).2
 ·rw [w6]
  rcases (hN v).1 hv with h1|h1
  ·rw [hk2 v h1.2];exact hi.new v h1
  ·have:=hq.new v h1
   simp only at this;omega
 ·rcases (hN v).1 hv with h1|h1
  ·exact (hi.AH v h1).mono fun u hu=>(hN u).2 (.inl hu)
  ·exact (Cn.one hj ((hN y).2 (.inl AJ)) ((hN z).2 (.inr Ca))).trans ((hq.AH v h1).mono fun u hu=>(hN u).2 (.inr hu))
 ·rcases l9 e d a hd hh hJ with ⟨h1,h2⟩|⟨rfl,rfl,rfl⟩|h1
  ·rcases hi.q1 e d a h1 h2 hJ with h3|h3
   ·exact .inl ((hN a).2 (.inl h3))
   ·exact .inr h3
  ·exact .inl ((hN a).2 (.inr Ca))
  ·rcases hq.q1 e d a h1 (.inr trivial) hJ with h3|h3
   ·exact .inl ((hN a).2 (.inr h3))
   ·rcases List.mem_cons.1 h3 with rfl|h3
    ·exact .inl ((hN a).2 (.inl AJ))
    ·exact .inr h3
 ·have rW:=hp.fh.met w hw
  have HM:w≠y:=by rintro rfl;exact rW.2 hp.un
  rw [AK,if_pos rfl]
  rcases l9 e d w hd hh hJ with ⟨h1,h2⟩|⟨rfl,rfl,rfl⟩|h1
  ·have:=hi.q2 e d w h1 h2 hJ hw hb
   omega
  ·exact absurd hz (by rw [j3 w rW.2];exact rW.2)
  ·have he:some e≠some i:=by
    rintro he
    obtain rfl:=Option.some.inj he
    rcases hj.two hJ with ⟨rfl,rfl⟩|⟨rfl,rfl⟩
    ·exact rW.2 (Decidable.byContradiction fun h0=>h0 (by have:=j3 w rW.2;omega))
    ·exact HM rfl
   have:=hq.q2 e d w h1 (.inr trivial) hJ (List.mem_cons_of_mem _ hw) he
   have e4:({s' with stk:=s'.stk++ [i]} :Sc).nm w=s.nm w:=j3 w rW.2
   rw [e4] at this
   omega
 ·rw [AK,if_pos rfl,w6,zO]
  have:=hi.ly
  rw [hi.ny] at this
  omega
 ·rw [AK,if_pos rfl,w6,zO]
  have HN:=hi.ly
  rw [hi.ny] at HN
  rcases Nat.le_total (s'.lw y) (s1.lw z) with h1|h1
  ·rw [Nat.min_eq_left h1]
   rcases hi.q3 with h2|⟨e,d,w,h2,h3⟩
   ·rw [hi.ny] at h2;exact .inl h2
   ·exact .inr ⟨e,d,w,(hN d).2 (.inl h2),h3⟩
  ·rw [Nat.min_eq_right h1]
   rcases hq.q3 with h2|⟨e,d,w,h2,hJ,hw,h3⟩
   ·rw [hq.ny] at h2
    simp only at h2;omega
   ·have e4:s'.nm w=s1.lw z:=h3
    rcases List.mem_cons.1 hw with rfl|hw
    ·left;rw [← e4,hi.ny]
    ·refine .inr ⟨e,d,w,(hN d).2 (.inr h2),hJ,hw, ?_⟩
     rw [← e4,j3 w (hp.fh.met w hw).2]
theorem rX {s s' s1 s3:Sc} {y:Nat} {az:Option Nat} {P:List Nat} {h:Nat→Prop} (hp:G.Pre s y az P) (hi:G.Inv s y az P h s') {i z:Nat} (hj:G.J i y z) (hz:s'.nm z=0) (hb:some i≠az)
 (hq:G.Inv {s' with stk:=s'.stk++ [i]} z (some i) (y::P) (fun _=>True) s1) (e1:s3.num=s1.num):
 ∃S B S1 B1,s1.stk=s.stk++S++i::S1∧s1.blk=s.blk++B++B1∧((S++B.flatten)++(i::S1++B1.flatten)).Nodup∧
  (∀e,e∈S++B.flatten∨e∈i::S1++B1.flatten↔some e≠az∧∃d a,dw s s3 d∧(d≠y∨h e∨e=i)∧G.J e d a)∧(∀e,e∈i::S1++B1.flatten↔∃d a,dw s' s1 d∧G.J e d a)∧
  (∀e∈S,∃i,az=some i∧G.Sm i e)∧(∀e∈i::S1,G.Sm i e)∧(∀b∈B,G.tT b)∧(∀b∈B1,G.tT b)∧i∉s.stk++S:=by
 have th:s'.nm y≠0:=by rw [hi.ny];omega
 have hyz:=(hj.lt hG).2.2
 have j3:∀v,s.nm v≠0→s'.nm v=s.nm v:=fun v hv=>(hi.keep v hv).1
 have hk2:∀v,s'.nm v≠0→s1.nm v=s'.nm v:=fun v hv=>(hq.keep v hv).1
 have hN:∀v,dw s s3 v↔dw s s' v∨dw s' s1 v:=fun v=>by
  rw [← mD hG j3 hk2 v];unfold dw Sc.nm;rw [e1]
 have Ca:dw s' s1 z:=⟨hz,by rw [hq.ny];omega⟩
 have AJ:dw s s' y:=⟨hp.un,th⟩
 have hold:∀e∈s'.stk++s'.blk.flatten,∀a b,G.J e a b→s'.nm a≠0:=fun e he=>nE hG hp hi he
 obtain ⟨S,B,a1,a2,a3,a4,a5,a6⟩:=hi.sb
 obtain ⟨S1,B1,b1,b2,b3,b4,b5,b6⟩:=hq.sb
 have EW:∀e,e∈i::S1++B1.flatten↔∃d a,dw s' s1 d∧G.J e d a:=fun e=>by
  rw [List.cons_append,List.mem_cons,b4]
  constructor
  ·rintro (rfl|⟨_,d,a,h1,_,h2⟩)
   ·exact ⟨z,y,Ca,hj.symm⟩
   ·exact ⟨d,a,h1,h2⟩
  ·rintro ⟨d,a,h1,h2⟩
   by_cases he:e=i
   ·exact .inl he
   ·exact .inr ⟨fun h=>he (Option.some.inj h),d,a,h1, .inr trivial,h2⟩
 have hin:∀e,e∈S++B.flatten→e∈s'.stk++s'.blk.flatten:=fun e he=>by
  rw [a1,a2,List.flatten_append]
  simp only [List.mem_append] at he ⊢
  rcases he with he|he
  ·exact .inl (.inr he)
  ·exact .inr (.inr he)
 refine ⟨S,B,S1,B1,by rw [b1,a1];simp,by rw [b2,a2], ?_,fun e=> ?_,EW,a5,fun e he=> ?_,a6,b6,fun hi'=> ?_⟩
 ·rw [List.nodup_append]
  refine ⟨a3, ?_,fun u hu v hv=> ?_⟩
  ·rw [List.cons_append,List.nodup_cons]
   exact ⟨fun h=>((b4 i).1 h).1 rfl,b3⟩
  ·rintro rfl
   obtain ⟨d,a,h1,h2⟩:=(EW u).1 hv
   exact hold u (hin u hu) d a h2 h1.1
 ·rw [a4,EW]
  constructor
  ·rintro (⟨h1,d,a,h2,h3,h4⟩|⟨d,a,h1,h2⟩)
   ·exact ⟨h1,d,a,(hN d).2 (.inl h2),h3.imp_right .inl,h4⟩
   ·refine ⟨fun he=> ?_,d,a,(hN d).2 (.inr h1), .inl fun e=>th (by rw [← e];exact h1.1),h2⟩
    rcases hp.bb with ⟨_,h0⟩|⟨x,r,k,rfl,hk,B9⟩
    ·rw [h0] at he;cases he
    ·rw [hk] at he
     obtain rfl:=Option.some.inj he
     have hx:=(hp.fh.met x (by simp)).2
     rcases B9.two h2 with ⟨rfl,rfl⟩|⟨rfl,rfl⟩
     ·exact hx (by rw [← j3 _ hx];exact h1.1)
     ·exact th h1.1
  ·rintro ⟨h1,d,a,h2,h3,h4⟩
   rcases (hN d).1 h2 with h5|h5
   ·by_cases e2:d=y
    ·rcases h3 with h3|h3|rfl
     ·exact .inl ⟨h1,d,a,h5, .inl h3,h4⟩
     ·exact .inl ⟨h1,d,a,h5, .inr h3,h4⟩
     ·exact .inr ⟨z,y,Ca,hj.symm⟩
    ·exact .inl ⟨h1,d,a,h5, .inl e2,h4⟩
   ·exact .inr ⟨d,a,h5,h4⟩
 ·rcases List.mem_cons.1 he with rfl|he
  ·exact .refl
  ·obtain ⟨k,h1,h2⟩:=b5 e he
   rw [Option.some.inj h1];exact h2
 ·rw [← a1] at hi'
  exact hold i (List.mem_append.2 (.inl hi')) z y hj.symm hz
theorem rY {i:Nat} :∀ {A B:List Nat},i∉A→(A++i::B).idxOf i=A.length
 | [],B,_=>by simp
 |a::A,B,h=>by
  simp only [List.mem_cons,not_or] at h
  have e:(a==i)=false:=beq_false_of_ne (Ne.symm h.1)
  rw [List.cons_append,List.idxOf_cons,rY h.2,List.length_cons,e]
  rfl
theorem xU (hsp:∀l,(so l).Perm l) {s s' s1:Sc} {y:Nat} {az:Option Nat} {P:List Nat} {h:Nat→Prop} (hp:G.Pre s y az P) (hi:G.Inv s y az P h s') {i z:Nat} (hj:G.J i y z) (hz:s'.nm z=0) (hb:some i≠az)
 (hq:G.Inv {s' with stk:=s'.stk++ [i]} z (some i) (y::P) (fun _=>True) s1):
 G.Inv s y az P (fun e=>h e∨e=i) (if s1.nm y≤s1.lw z then fE so {s1 with low:=s1.low.set y (min (s1.lw y) (s1.lw z))} i else {s1 with low:=s1.low.set y (min (s1.lw y) (s1.lw z))}):=by
 have th:s'.nm y≠0:=by rw [hi.ny];omega
 have hyz:=(hj.lt hG).2.2
 have j3:∀v,s.nm v≠0→s'.nm v=s.nm v:=fun v hv=>(hi.keep v hv).1
 have hk2:∀v,s'.nm v≠0→s1.nm v=s'.nm v:=fun v hv=>(hq.keep v hv).1
 have zO:s1.nm y=s.cnt+1:=by rw [hk2 y th,hi.ny]
 have Bz:s.cnt<s'.cnt:=by have:=hi.le y;rw [hi.ny] at this;omega
 by_cases hc:s1.nm y≤s1.lw z
 ·rw [if_pos hc]
  refine pK hG hp hi hj hz hq rfl rfl rfl ?_
  obtain ⟨S,B,S1,B1,c1,c2,c3,c4,c5,c6,c7,c8,c9,F9⟩:=rX hG (s3:=fE so {s1 with low:=s1.low.set y (min (s1.lw y) (s1.lw z))} i) hp hi hj hz hb hq rfl
  have Ga:s1.stk.idxOf i=(s.stk++S).length:=by rw [c1];exact rY hG F9
  have fV:∀e d a,dw s' s1 d→G.J e d a→dw s' s1 a∨a=y:=fun e d a hd hJ=>by
   rcases hq.q1 e d a hd (.inr trivial) hJ with h1|h1
   ·exact .inl h1
   ·rcases List.mem_cons.1 h1 with rfl|h1
    ·exact .inr rfl
    ·exfalso
     have rW:=hp.fh.met a h1
     have he:some e≠some i:=by
      intro he
      obtain rfl:=Option.some.inj he
      rcases hj.two hJ with ⟨rfl,rfl⟩|⟨rfl,rfl⟩
      ·exact rW.2 (by rw [← j3 _ rW.2];exact hz)
      ·exact rW.2 hp.un
     have h2:=hq.q2 e d a hd (.inr trivial) hJ (List.mem_cons_of_mem _ h1) he
     have e4:({s' with stk:=s'.stk++ [i]} :Sc).nm a=s.nm a:=j3 a rW.2
     have h3:=hp.le a
     rw [e4] at h2
     omega
  have EX:(i::S1++B1.flatten).Nodup:=(List.nodup_append.1 c3).2.1
  have EY:G.tT (so (i::S1)):=by
   refine ⟨i,hj.1,(hsp _).mem_iff.2 (by simp),fun k=> ?_⟩
   rw [(hsp _).mem_iff]
   refine ⟨c7 k,fun hk=> ?_⟩
   induction hk with
   |refl=>simp
   | @step j k _ r ih=>
     obtain ⟨v,a,b,r1,r2,r3⟩:=r
     have hjn:j∉B1.flatten:=fun hj'=>(List.nodup_append.1 EX).2.2 j ih j hj' rfl
     have hkn:k∉B1.flatten:=fun hk'=>by
      obtain ⟨b1,b7,lG⟩:=List.mem_flatten.1 hk'
      exact hjn (List.mem_flatten.2 ⟨b1,b7,(c9 b1 b7).step lG (R.symm ⟨v,a,b,r1,r2,r3⟩)⟩)
     have HO:k∈i::S1++B1.flatten:=by
      rw [c5]
      obtain ⟨d,c,h1,h2⟩:=(c5 j).1 (List.mem_append.2 (.inl ih))
      by_cases hv:dw s' s1 v
      ·exact ⟨v,b,hv,r2⟩
      ·rcases r1.two h2 with ⟨rfl,rfl⟩|⟨rfl,rfl⟩
       ·exact absurd h1 hv
       ·have HP:c=y:=(fV j d c h1 h2).resolve_left hv
        subst HP
        refine ⟨b,c, ?_,r2.symm⟩
        clear r2
        induction r3 with
        |refl _=>exact h1
        |step _ hj' hne C1=>exact (fV _ _ _ C1 hj').resolve_right hne
     rcases List.mem_append.1 HO with h1|h1
     ·exact h1
     ·exact absurd h1 hkn
  refine ⟨S,B++B1++ [so (i::S1)], ?_, ?_, ?_,fun e=> ?_,c6,fun b hb'=> ?_⟩
  ·show s1.stk.take (s1.stk.idxOf i)=_
   rw [Ga,c1,List.take_left]
  ·show s1.blk++ [so (s1.stk.drop (s1.stk.idxOf i))]=_
   rw [Ga,c1,List.drop_left,c2]
   simp
  ·refine (List.Perm.nodup_iff ?_).1 c3
   simp only [List.flatten_append,List.flatten_cons,List.flatten_nil,List.append_nil,List.append_assoc]
   refine List.Perm.append_left _ (List.Perm.append_left _ ?_)
   refine List.perm_append_comm.trans (List.Perm.append_left _ ?_)
   exact (hsp _).symm
  ·rw [← c4]
   simp only [List.flatten_append,List.flatten_cons,List.flatten_nil,List.append_nil,List.mem_append,(hsp (i::S1)).mem_iff]
   constructor
   ·rintro (h1|(h1|h1)|h1)
    ·exact .inl (.inl h1)
    ·exact .inl (.inr h1)
    ·exact .inr (.inr h1)
    ·exact .inr (.inl h1)
   ·rintro ((h1|h1)|(h1|h1))
    ·exact .inl h1
    ·exact .inr (.inl (.inl h1))
    ·exact .inr (.inr h1)
    ·exact .inr (.inl (.inr h1))
  ·simp only [List.mem_append,List.mem_singleton] at hb'
   rcases hb' with (h1|h1)|rfl
   ·exact c8 b h1
   ·exact c9 b h1
   ·exact EY
 ·rw [if_neg hc]
  refine pK hG hp hi hj hz hq rfl rfl rfl ?_
  obtain ⟨S,B,S1,B1,c1,c2,c3,c4,c5,c6,c7,c8,c9,F9⟩:=rX hG (s3:= {s1 with low:=s1.low.set y (min (s1.lw y) (s1.lw z))}) hp hi hj hz hb hq rfl
  have nT:∃b,az=some b∧G.R b i:=by
   rcases hq.q3 with h2|⟨e,d,w,h2,hJ,hw,h3⟩
   ·rw [hq.ny] at h2
    simp only at h2
    omega
   ·have e4:s'.nm w=s1.lw z:=h3
    rcases List.mem_cons.1 hw with rfl|hw
    ·rw [hi.ny] at e4;omega
    ·obtain ⟨b,x,d1,d2,d3⟩:=vv hG hp hw
     refine ⟨b,d1,y,x,z,d2,hj, ?_⟩
     have HQ:∀v,dw s' s1 v→v≠y:=fun v hv e=>th (by rw [← e];exact hv.1)
     refine (Cn.trans ?_ d3).symm
     exact .step ((hq.AH d h2).mono fun v hv=>HQ v hv) hJ (fun e=>(hp.fh.met w hw).2 (by rw [e];exact hp.un))
  obtain ⟨b,b7,lG⟩:=nT
  refine ⟨S++i::S1,B++B1,by rw [← List.append_assoc];exact c1,by rw [← List.append_assoc];exact c2, ?_,fun e=> ?_,fun e he=> ?_,fun b' hb'=> ?_⟩
  ·refine (List.Perm.nodup_iff ?_).1 c3
   simp only [List.flatten_append,List.append_assoc]
   exact List.Perm.append_left _ (List.perm_append_comm_assoc _ _ _)
  ·rw [← c4]
   simp only [List.flatten_append,List.mem_append]
   constructor
   ·rintro ((h1|h1)|(h1|h1))
    ·exact .inl (.inl h1)
    ·exact .inr (.inl h1)
    ·exact .inl (.inr h1)
    ·exact .inr (.inr h1)
   ·rintro ((h1|h1)|(h1|h1))
    ·exact .inl (.inl h1)
    ·exact .inr (.inl h1)
    ·exact .inl (.inr h1)
    ·exact .inr (.inr h1)
  ·rcases List.mem_append.1 he with he|he
   ·exact c6 e he
   ·exact ⟨b,b7,(Sm.step .refl lG).trans (c7 e he)⟩
  ·rcases List.mem_append.1 hb' with h1|h1
   ·exact c8 b' h1
   ·exact c9 b' h1
theorem eX {s s':Sc} {y:Nat} {az:Option Nat} {P:List Nat} {h k:Nat→Prop} (hk:∀e a,G.J e y a→(h e↔k e)) (hi:G.Inv s y az P h s'):G.Inv s y az P k s':=by
 have hf:∀e d a,G.J e d a→((d≠y∨h e)↔(d≠y∨k e)):=fun e d a hJ=>by
  by_cases e1:d=y
  ·subst e1;rw [hk e a hJ]
  ·simp [e1]
 refine ⟨hi.ln,hi.ll,hi.ny,hi.keep,hi.new,hi.le,hi.inj,hi.AH,fun e d a hd hh hJ=>hi.q1 e d a hd ((hf e d a hJ).2 hh) hJ,fun e d w hd hh hJ=>hi.q2 e d w hd ((hf e d w hJ).2 hh) hJ,hi.ly,hi.q3, ?_⟩
 obtain ⟨S,B,h1,h2,h3,h4,h5,h6⟩:=hi.sb
 refine ⟨S,B,h1,h2,h3,fun e=> ?_,h5,h6⟩
 rw [h4]
 constructor
 ·rintro ⟨hb,d,a,hd,hh,hJ⟩;exact ⟨hb,d,a,hd,(hf e d a hJ).1 hh,hJ⟩
 ·rintro ⟨hb,d,a,hd,hh,hJ⟩;exact ⟨hb,d,a,hd,(hf e d a hJ).2 hh,hJ⟩
theorem iZ (hsp:∀l,(so l).Perm l) {vis:Nat→Nat→Sc→Sc} {s s':Sc} {y:Nat} {az:Option Nat} {P:List Nat} {h:Nat→Prop} (hp:G.Pre s y az P) (hi:G.Inv s y az P h s')
 (hv:∀i z,G.J i y z→s'.nm z=0→G.Inv {s' with stk:=s'.stk++ [i]} z (some i) (y::P) (fun _=>True) (vis z i {s' with stk:=s'.stk++ [i]})) {i z:Nat} (hj:G.J i y z) (hni:¬h i):
 G.Inv s y az P (fun e=>h e∨e=i) (bW G so vis y az s' i):=by
 have j3:∀v,s.nm v≠0→s'.nm v=s.nm v:=fun v hv=>(hi.keep v hv).1
 have AI:∀w∈P,¬dw s s' w:=fun w hw hN=>(hp.fh.met w hw).2 hN.1
 have hyz:=(hj.lt hG).2.2
 unfold bW
 rw [nB hj]
 by_cases hb:some i=az
 ·rw [if_pos hb]
  refine pJ hG hi hj (.inr ?_) (.inl hb) AI
  rcases hp.bb with ⟨_,h0⟩|⟨x,r,k,rfl,hk,B9⟩
  ·rw [h0] at hb;cases hb
  ·rw [hk] at hb
   obtain rfl:=Option.some.inj hb
   obtain rfl:=hj.snd B9.symm
   simp
 rw [if_neg hb]
 by_cases hz:s'.nm z=0
 ·rw [if_pos hz]
  have hq:=hv i z hj hz
  generalize vis z i {s' with stk:=s'.stk++ [i]} =s1 at hq
  have e5:({s1 with low:=s1.low.set y (min (s1.lw y) (s1.lw z))} :Sc).lw z=s1.lw z:=by
   unfold Sc.lw
   rw [cg (by rw [hq.ll];exact hp.hy),if_neg (Ne.symm hyz)]
  have:=xU hG hsp hp hi hj hz hb hq
  simp only [e5]
  exact this
 rw [if_neg hz]
 have EZ:s.nm z≠0→z∈P:=fun h0=>Decidable.byContradiction fun EZ=>hp.bl z i y h0 EZ hj.symm hp.un
 by_cases hlt:s'.nm z<s'.nm y
 ·rw [if_pos hlt]
  refine vA hG hp hi hj (EZ fun h0=> ?_) hb hni
  have:=hi.new z ⟨h0,hz⟩
  rw [hi.ny] at hlt
  omega
 ·rw [if_neg hlt]
  have hN:dw s s' z:=⟨Decidable.byContradiction fun h0=>by
   have h1:=j3 z h0
   have h2:=hp.le z
   rw [hi.ny] at hlt
   omega,hz⟩
  exact pJ hG hi hj (.inl hN) (.inr hN) AI
theorem kr (hsp:∀l,(so l).Perm l):∀(f:Nat) {s:Sc} {y:Nat} {az:Option Nat} {P:List Nat},G.iC s≤f→G.Pre s y az P→G.Inv s y az P (fun _=>True) (cI G so f y az s)
 |0,s,y,az,P,hf,hp=>by
  exfalso
  have:G.iC s≠0:=by
   unfold iC
   intro h
   rw [List.countP_eq_zero] at h
   exact h y (List.mem_range.2 hp.hy) (decide_eq_true hp.un)
  omega
 |f+1,s,y,az,P,hf,hp=>by
  have key:∀(R L:List Nat) (s':Sc),(∀e∈L++R,∃a,G.J e y a)→(L++R).Nodup→G.Inv s y az P (fun e=>e∈L) s'→G.Inv s y az P (fun e=>e∈L++R) (R.foldl (bW G so (fun y i=>cI G so f y (some i)) y az) s'):=by
   intro R
   induction R with
   |nil=>intro L s' _ _ hi;simpa using hi
   |cons i R ih=>
    intro L s' hJ bG hi
    obtain ⟨z,hj⟩:=hJ i (by simp)
    have hni:i∉L:=fun hL=>(List.nodup_append.1 bG).2.2 i hL i (by simp) rfl
    have h1:=iZ hG hsp (vis:=fun y i=>cI G so f y (some i)) hp hi (fun k u hk hu=>kr hsp f (by
     have h2:G.iC s'<G.iC s:=nC (fun v hv=>by rw [(hi.keep v hv).1];exact hv) hp.hy hp.un (by rw [hi.ny];omega)
     have h3:G.iC {s' with stk:=s'.stk++ [k]} =G.iC s':=rfl
     omega) (lH hG hp hi hk hu)) hj hni
    have h2:=ih (L++ [i]) _ (by simpa using hJ) (by simpa using bG) (eX hG (fun e a _=>by simp) h1)
    simpa using h2
  have:=key (G.ends y) [] (jv s y) (fun e he=>by simpa using eW.1 he) (by simpa using nA) (eX hG (fun e a _=>by simp) (mC hG hp))
  exact eX hG (fun e a hJ=>by simpa using eW.2 ⟨a,hJ⟩) this
structure zP (G:UG) (s:Sc) (k:Nat):Prop where
 ln:s.num.length=G.n
 ll:s.low.length=G.n
 met:∀v,v<k→s.nm v≠0
 bl:∀v i a,s.nm v≠0→G.J i v a→s.nm a≠0
 le:∀v,s.nm v≤s.cnt
 inj:∀u v,s.nm u≠0→s.nm u=s.nm v→u=v
 stk:s.stk= []
 nd:s.blk.flatten.Nodup
 mem:∀e,e∈s.blk.flatten↔∃d a,s.nm d≠0∧G.J e d a
 cls:∀b∈s.blk,G.tT b
theorem pL (hsp:∀l,(so l).Perm l) {s:Sc} {k:Nat} (hk:k<G.n) (h:G.zP s k):G.zP (l8 G so s k) (k+1):=by
 unfold l8
 by_cases h0:s.nm k=0
 rotate_left
 ·rw [if_neg h0]
  refine ⟨h.ln,h.ll,fun v hv=> ?_,h.bl,h.le,h.inj,h.stk,h.nd,h.mem,h.cls⟩
  by_cases e:v=k
  ·subst e;exact h0
  ·exact h.met v (by omega)
 rw [if_pos h0]
 have hp:G.Pre s k none []:=⟨h.ln,h.ll,hk,h0,⟨by simp,by simp,trivial⟩,fun v i a hv _ hJ=>h.bl v i a hv hJ,h.le,h.inj, .inl ⟨rfl,rfl⟩,fun e he=> .inr fun a b hJ=>by
  rw [h.stk,List.nil_append,h.mem] at he
  obtain ⟨d,c,h1,h2⟩:=he
  rcases h2.two hJ with ⟨rfl,rfl⟩|⟨rfl,rfl⟩
  ·exact h1
  ·exact h.bl _ _ _ h1 h2⟩
 have hu:G.iC s≤G.n+1:=by
  unfold iC
  have:=List.countP_le_length (l:=List.range G.n) (p:=fun v=>decide (s.nm v=0))
  rw [List.length_range] at this
  omega
 have hi:=kr hG hsp (G.n+1) hu hp
 generalize cI G so (G.n+1) k none s=s' at hi
 have j3:∀v,s.nm v≠0→s'.nm v=s.nm v:=fun v hv=>(hi.keep v hv).1
 obtain ⟨S,B,h1,h2,h3,h4,h5,h6⟩:=hi.sb
 have hS:S= []:=by
  refine List.eq_nil_iff_forall_not_mem.2 fun e he=> ?_
  obtain ⟨i,hi',_⟩:=h5 e he
  cases hi'
 subst hS
 simp only [List.nil_append] at h3 h4
 have hpart:∀v,s'.nm v≠0→s.nm v≠0∨dw s s' v:=fun v hv=>by unfold dw;omega
 refine ⟨hi.ln,hi.ll,fun v hv=> ?_,fun v i a hv hJ=> ?_,hi.le,hi.inj,by rw [h1,h.stk];rfl, ?_,fun e=> ?_,fun b hb=> ?_⟩
 ·by_cases e:v=k
  ·subst e;rw [hi.ny];omega
  ·have:=h.met v (by omega);rw [j3 v this];exact this
 ·rcases hpart v hv with h7|h7
  ·have:=h.bl v i a h7 hJ
   rw [j3 a this];exact this
  ·rcases hi.q1 i v a h7 (.inr trivial) hJ with h8|h8
   ·exact h8.2
   ·simp at h8
 ·rw [h2,List.flatten_append,List.nodup_append]
  refine ⟨h.nd,h3,fun a ha b hb=> ?_⟩
  rintro rfl
  obtain ⟨d,c,g1,g2⟩:=(h.mem a).1 ha
  obtain ⟨_,d',c',g3,_,g4⟩:=(h4 a).1 hb
  rcases g2.two g4 with ⟨rfl,rfl⟩|⟨rfl,rfl⟩
  ·exact g1 g3.1
  ·exact h.bl _ _ _ g1 g2 g3.1
 ·rw [h2,List.flatten_append,List.mem_append,h.mem,h4]
  constructor
  ·rintro (⟨d,a,g1,g2⟩|⟨_,d,a,g1,_,g2⟩)
   ·exact ⟨d,a,by rw [j3 d g1];exact g1,g2⟩
   ·exact ⟨d,a,g1.2,g2⟩
  ·rintro ⟨d,a,g1,g2⟩
   rcases hpart d g1 with g3|g3
   ·exact .inl ⟨d,a,g3,g2⟩
   ·exact .inr ⟨by simp,d,a,g3, .inr trivial,g2⟩
 ·rw [h2] at hb
  rcases List.mem_append.1 hb with hb|hb
  ·exact h.cls b hb
  ·exact h6 b hb
theorem mE (hsp:∀l,(so l).Perm l):(bT G so).flatten.Nodup∧(∀e,e∈(bT G so).flatten↔e<G.m)∧∀b∈bT G so,G.tT b:=by
 have h0:∀v,G.bK.nm v=0:=fun v=>by
  unfold Sc.nm bK
  rw [List.getD_eq_getElem?_getD,List.getElem?_replicate]
  split<;>rfl
 have start:G.zP (bK G) 0:=⟨by simp [bK],by simp [bK],by simp,fun v i a hv=>absurd (h0 v) hv,fun v=>by rw [h0];exact Nat.zero_le _,fun u v hu=>absurd (h0 u) hu,rfl,by simp [bK],fun e=>by
  simp only [bK,List.flatten_nil,List.not_mem_nil,false_iff,not_exists,not_and]
  exact fun d a hd=>absurd (h0 d) hd,by simp [bK]⟩
 have key:∀k,k≤G.n→G.zP ((List.range k).foldl (l8 G so) (bK G)) k:=by
  intro k
  induction k with
  |zero=>intro _;exact start
  |succ k ih=>
   intro hk
   rw [List.range_succ,List.foldl_append]
   exact pL hG hsp (by omega) (ih (by omega))
 have h:=key G.n (Nat.le_refl _)
 refine ⟨h.nd,fun e=> ?_,h.cls⟩
 unfold bT
 rw [h.mem]
 constructor
 ·rintro ⟨d,a,_,h2⟩;exact h2.1
 ·intro he;exact ⟨G.T e,G.H e,h.met _ (hG.t e he),J.self he⟩
end
end UG
end Go.Ab
end
section
namespace Go.Ab
set_option maxRecDepth 10000
set_option linter.unusedSectionVars false
namespace UG
variable {G:UG}
theorem jd:∀ {a b:List Nat},a.Pairwise (· < ·)→b.Pairwise (· < ·)→(∀x,x∈a↔x∈b)→a=b
 | [], [],_,_,_=>rfl
 | [],y::b,_,_,h=>absurd ((h y).2 (by simp)) (by simp)
 |x::a, [],_,_,h=>absurd ((h x).1 (by simp)) (by simp)
 |x::a,y::b,ha,hb,h=>by
  rw [List.pairwise_cons] at ha hb
  have e:x=y:=by
   rcases List.mem_cons.1 ((h x).1 (by simp)) with h1|h1
   ·exact h1
   ·rcases List.mem_cons.1 ((h y).2 (by simp)) with h2|h2
    ·exact h2.symm
    ·have:=ha.1 y h2
     have:=hb.1 x h1
     omega
  subst e
  have:a=b:=jd ha.2 hb.2 fun z=>by
   constructor
   ·intro hz
    rcases List.mem_cons.1 ((h z).1 (List.mem_cons_of_mem _ hz)) with h1|h1
    ·subst h1;have:=ha.1 z hz;omega
    ·exact h1
   ·intro hz
    rcases List.mem_cons.1 ((h z).2 (List.mem_cons_of_mem _ hz)) with h1|h1
    ·subst h1;have:=hb.1 z hz;omega
    ·exact h1
  rw [this]
theorem iD {n:Nat} :(List.range n).Pairwise (· < ·):=List.pairwise_lt_range
open Classical in
noncomputable def qF (G:UG) (i:Nat):Bool:=decide (∀k,G.Sm i k→i≤k)
open Classical in
noncomputable def bC (G:UG) (i:Nat):List Nat:=(List.range G.m).filter fun k=>decide (G.Sm i k)
noncomputable def aB (G:UG):List (List Nat):=((List.range G.m).filter fun i=>G.qF i).map G.bC
theorem dh {i:Nat} :G.qF i=true↔∀k,G.Sm i k→i≤k:=by unfold qF;simp
theorem aX {i k:Nat} :k∈G.bC i↔k<G.m∧G.Sm i k:=by unfold bC;simp
theorem eY {i:Nat} :(G.bC i).Pairwise (· < ·):=iD.filter _
theorem vB {i:Nat} (hi:i<G.m) (hl:G.qF i=true):∃r,G.bC i=i::r:=by
 have h1:i∈G.bC i:=aX.2 ⟨hi, .refl⟩
 have h2:=eY (G:=G) (i:=i)
 cases hc:G.bC i with
 |nil=>rw [hc] at h1;simp at h1
 |cons a r=>
  rw [hc] at h1 h2
  have ha:a∈G.bC i:=by rw [hc];simp
  have h3:=dh.1 hl a (aX.1 ha).2
  rcases List.mem_cons.1 h1 with h4|h4
  ·exact ⟨r,by rw [h4]⟩
  ·have:=(List.pairwise_cons.1 h2).1 i h4
   omega
theorem vC {b:List Nat} (h:G.tT b) (hr:b.Pairwise (· < ·)):∃i r,b=i::r∧i<G.m∧G.qF i=true∧b=G.bC i:=by
 obtain ⟨j,hj,h1,h2⟩:=h
 have hb:∀i∈b,b=G.bC i:=fun i hi=>jd hr eY fun k=>by
  have h3:=(h2 i).1 hi
  rw [aX,h2]
  exact ⟨fun h4=>⟨h4.lt hj,h3.symm.trans h4⟩,fun h4=>h3.trans h4.2⟩
 cases b with
 |nil=>simp at h1
 |cons i r=>
  have hc:=hb i (by simp)
  have hi:=(h2 i).1 (by simp)
  refine ⟨i,r,rfl,hi.lt hj,dh.2 fun k hk=> ?_,hc⟩
  have:k∈i::r:=by rw [hc,aX];exact ⟨hk.lt (hi.lt hj),hk⟩
  rcases List.mem_cons.1 this with h4|h4
  ·omega
  ·have:=(List.pairwise_cons.1 hr).1 k h4
   omega
theorem rZ {L:List (List Nat)} (h1:L.flatten.Nodup) (h2:∀e,e∈L.flatten↔e<G.m) (h3:∀b∈L,G.tT b) (h4:∀b∈L,b.Pairwise (· < ·)) (h5:L.Pairwise fun a b=>a.headD 0≤b.headD 0):L=G.aB:=by
 have hh:∀b∈L,b=G.bC (b.headD 0)∧b.headD 0<G.m∧G.qF (b.headD 0)=true∧b.headD 0∈b:=fun b hb=>by
  obtain ⟨i,r,rfl,e1,e2,e3⟩:=vC (h3 b hb) (h4 b hb)
  exact ⟨e3,e1,e2,by simp⟩
 have hd:L.map (fun b=>b.headD 0)=(List.range G.m).filter fun i=>G.qF i:=by
  refine jd ?_ (iD.filter _) fun i=> ?_
  ·rw [List.pairwise_map]
   have bG:L.Pairwise fun a b=>a.headD 0≠b.headD 0:=by
    have:∀M:List (List Nat),(∀b∈M,b.headD 0∈b)→M.flatten.Nodup→M.Pairwise fun a b=>a.headD 0≠b.headD 0:=by
     intro M
     induction M with
     |nil=>intro _ _;exact .nil
     |cons a M ih=>
      intro hM hN
      rw [List.flatten_cons,List.nodup_append] at hN
      refine List.pairwise_cons.2 ⟨fun b hb e=> ?_,ih (fun b hb=>hM b (List.mem_cons_of_mem _ hb)) hN.2.1⟩
      exact hN.2.2 _ (hM a (by simp)) _ (List.mem_flatten.2 ⟨b,hb,hM b (List.mem_cons_of_mem _ hb)⟩) e
    exact this L (fun b hb=>(hh b hb).2.2.2) h1
   refine h5.imp₂ (fun a b e1 e2=> ?_) bG
   omega
  ·simp only [List.mem_map,List.mem_filter,List.mem_range]
   constructor
   ·rintro ⟨b,hb,rfl⟩
    exact ⟨(hh b hb).2.1,(hh b hb).2.2.1⟩
   ·rintro ⟨e1,e2⟩
    obtain ⟨b,hb,hi⟩:=List.mem_flatten.1 ((h2 i).2 e1)
    refine ⟨b,hb, ?_⟩
    have h6:=hh b hb
    rw [h6.1] at hi
    have h7:=(aX.1 hi).2
    have h8:=dh.1 e2 _ h7.symm
    have h9:=dh.1 h6.2.2.1 _ h7
    omega
 unfold aB
 rw [← hd,List.map_map]
 have:L.map id=L.map (G.bC ∘ fun b=>b.headD 0):=List.map_congr_left fun b hb=>(hh b hb).1
 rw [List.map_id] at this
 exact this
theorem lI {b:List Nat} (hb:b∈G.aB):G.tT b∧b.Pairwise (· < ·):=by
 unfold aB at hb
 obtain ⟨i,hi,rfl⟩:=List.mem_map.1 hb
 rw [List.mem_filter,List.mem_range] at hi
 refine ⟨⟨i,hi.1,aX.2 ⟨hi.1, .refl⟩,fun k=> ?_⟩,eY⟩
 rw [aX]
 exact ⟨fun h=>h.2,fun h=>⟨h.lt hi.1,h⟩⟩
inductive jw (G:UG) (D A:Nat→Prop) (x:Nat):Nat→Prop
 |refl:A x→jw G D A x x
 |step {y z i:Nat} :jw G D A x y→D i→G.J i y z→A z→jw G D A x z
theorem jw.AG {D A:Nat→Prop} {x y:Nat} (h:G.jw D A x y):A y:=by
 cases h with
 |refl h=>exact h
 |step _ _ _ h=>exact h
theorem jw.fst {D A:Nat→Prop} {x y:Nat} (h:G.jw D A x y):A x:=by
 induction h with
 |refl h=>exact h
 |step _ _ _ _ ih=>exact ih
theorem jw.trans {D A:Nat→Prop} {x y z:Nat} (h:G.jw D A x y) (k:G.jw D A y z):G.jw D A x z:=by
 induction k with
 |refl _=>exact h
 |step _ d j a ih=>exact .step ih d j a
theorem jw.one {D A:Nat→Prop} {x y i:Nat} (d:D i) (h:G.J i x y) (hx:A x) (hy:A y):G.jw D A x y:= .step (.refl hx) d h hy
theorem jw.symm {D A:Nat→Prop} {x y:Nat} (h:G.jw D A x y):G.jw D A y x:=by
 induction h with
 |refl h=>exact .refl h
 |step h d j a ih=>exact (jw.one d j.symm a h.AG).trans ih
theorem jw.cn {D A:Nat→Prop} {x y:Nat} (h:G.jw D A x y):G.Cn A x y:=by
 induction h with
 |refl h=>exact .refl h
 |step _ _ j a ih=>exact .step ih j a
theorem jw.mono {D D' A A':Nat→Prop} (hD:∀i,D i→D' i) (hA:∀i,A i→A' i) {x y:Nat} (h:G.jw D A x y):G.jw D' A' x y:=by
 induction h with
 |refl h=>exact .refl (hA _ h)
 |step _ d j a ih=>exact .step ih (hD _ d) j (hA _ a)
inductive Pa (G:UG) (b:Nat):Nat→List Nat→Prop
 |nil:Pa G b b []
 |cons {a c e:Nat} {r:List Nat} :G.J e a c→Pa G b c r→Pa G b a (c::r)
theorem Pa.cn {b a:Nat} {r:List Nat} (h:G.Pa b a r) {A:Nat→Prop} (hA:∀u∈a::r,A u):G.Cn A a b:=by
 induction h with
 |nil=>exact .refl (hA _ (by simp))
 |cons j _ ih=>
  exact (Cn.one j (hA _ (by simp)) (hA _ (by simp))).trans (ih fun u hu=>hA u (List.mem_cons_of_mem _ hu))
theorem Pa.last {b a:Nat} {r:List Nat} (h:G.Pa b a r):b∈a::r:=by
 induction h with
 |nil=>simp
 |cons _ _ ih=>exact List.mem_cons_of_mem _ ih
theorem Pa.cut {b a:Nat} {r:List Nat} (h:G.Pa b a r) {z:Nat} (hz:z∈a::r):∃r',G.Pa b z r'∧(z::r').Sublist (a::r):=by
 induction h with
 |nil=>
  rw [List.mem_singleton] at hz
  subst hz
  exact ⟨[], .nil,List.Sublist.refl _⟩
 | @cons a c e r j h ih=>
   rcases List.mem_cons.1 hz with rfl|hz
   ·exact ⟨c::r, .cons j h,List.Sublist.refl _⟩
   ·obtain ⟨r',h1,h2⟩:=ih hz
    exact ⟨r',h1,h2.cons a⟩
theorem Pa.of {A:Nat→Prop} {b a:Nat} (h:G.Cn A b a):∃r,G.Pa b a r∧(a::r).Nodup∧∀u∈a::r,A u:=by
 induction h with
 |refl h=>exact ⟨[], .nil,by simp,by simpa using h⟩
 | @step y z i _ j a ih=>
   obtain ⟨r,h1,h2,h3⟩:=ih
   by_cases hz:z∈y::r
   ·obtain ⟨r',h4,h5⟩:=h1.cut hz
    exact ⟨r',h4,h2.sublist h5,fun u hu=>h3 u (h5.subset hu)⟩
   ·refine ⟨y::r, .cons j.symm h1,List.nodup_cons.2 ⟨hz,h2⟩,fun u hu=> ?_⟩
    rcases List.mem_cons.1 hu with rfl|hu
    ·exact a
    ·exact h3 u hu
theorem vD {b:Nat} {a:Nat} {r:List Nat} (h:G.Pa b a r):∀ {i v:Nat},G.J i v a→(a::r).Nodup→v∉a::r→(∀u∈a::r,u≠b→G.Cn (fun w=>w≠u) v b)→G.jw (G.Sm i) (fun u=>u∈a::r) a b:=by
 induction h with
 |nil=>intro i v _ _ _ _;exact .refl (by simp)
 | @cons a c e r j hP ih=>
   intro i v hi bG hv fV
   rw [List.nodup_cons] at bG
   have hba:a≠b:=fun e=>bG.1 (e ▸ hP.last)
   have hR:G.R i e:=by
    refine ⟨a,v,c,hi.symm,j,(fV a (by simp) hba).trans (hP.cn (A:=fun w=>w≠a) fun u hu e'=>bG.1 (e' ▸ hu)).symm⟩
   have I6:v≠a:=fun e=>hv (by rw [e];simp)
   have h1:=ih (i:=e) (v:=a) j bG.2 bG.1 fun u hu HR=>by
    have h2:=fV u (List.mem_cons_of_mem _ hu) HR
    refine (Cn.one hi.symm (fun e=>bG.1 (by rw [e];exact hu)) (fun e=>hv (by rw [e];exact List.mem_cons_of_mem _ hu))).trans h2
   have hS:G.Sm i e:= .step .refl hR
   exact (jw.one hS j (by simp) (by simp)).trans (h1.mono (fun k hk=>hS.trans hk) fun u hu=>List.mem_cons_of_mem _ hu)
section
variable (hG:G.Ok)
include hG
theorem E1 {i k gone u w:Nat} (r:G.R i k) (hu:∃u',G.J i u u') (hw:∃w',G.J k w w') (AL:u≠gone) (AM:w≠gone):G.jw (G.Sm i) (fun v=>v≠gone) u w:=by
 obtain ⟨v,a,b,h1,h2,h3⟩:=r
 have hk:G.Sm i k:= .step .refl ⟨v,a,b,h1,h2,h3⟩
 obtain ⟨u',hu⟩:=hu
 obtain ⟨w',hw⟩:=hw
 by_cases hv:v=gone
 ·subst hv
  have eu:u=a:=by
   rcases h1.two hu with ⟨e,_⟩|⟨e,_⟩
   ·exact absurd e AL
   ·exact e
  have ew:w=b:=by
   rcases h2.two hw with ⟨e,_⟩|⟨e,_⟩
   ·exact absurd e AM
   ·exact e
  subst eu ew
  obtain ⟨r,h4,h5,h6⟩:=Pa.of h3.symm
  refine (vD h4 h1 h5 (fun hv=>h6 v hv rfl) fun x hx HS=> ?_).mono (fun _ h=>h) fun x hx=>h6 x hx
  exact .one h2 (Ne.symm (h6 x hx)) (Ne.symm HS)
 ·have huv:G.jw (G.Sm i) (fun v=>v≠gone) u v:=by
   rcases h1.two hu with ⟨rfl,_⟩|⟨rfl,_⟩
   ·exact .refl AL
   ·exact .one .refl h1.symm AL hv
  have E3:G.jw (G.Sm i) (fun v=>v≠gone) v w:=by
   rcases h2.two hw with ⟨rfl,_⟩|⟨rfl,_⟩
   ·exact .refl AM
   ·exact .one hk h2 hv AM
  exact huv.trans E3
theorem tj {i k gone u w:Nat} (hi:i<G.m) (hS:G.Sm i k) (hu:∃u',G.J i u u') (hw:∃w',G.J k w w') (AL:u≠gone) (AM:w≠gone):G.jw (G.Sm i) (fun v=>v≠gone) u w:=by
 induction hS generalizing w with
 |refl=>
  obtain ⟨u',hu⟩:=hu
  obtain ⟨w',hw⟩:=hw
  rcases hu.two hw with ⟨rfl,_⟩|⟨rfl,rfl⟩
  ·exact .refl AL
  ·exact .one .refl hu AL AM
 | @step j k hS r ih=>
   have hj:=hS.lt hi
   obtain ⟨x,hx,Gb⟩:∃x,(∃x',G.J j x x')∧x≠gone:=by
    by_cases e:G.T j=gone
    ·exact ⟨G.H j,⟨_,(J.self hj).symm⟩,fun e'=>hG.ne j hj (by rw [e,e'])⟩
    ·exact ⟨G.T j,⟨_,J.self hj⟩,e⟩
   exact (ih hx Gb).trans ((E1 hG r hx hw Gb AM).mono (fun _ h=>hS.trans h) fun _ h=>h)
theorem zQ {i k x a b:Nat} (hS:G.Sm i k) (h1:G.J i x a) (h2:G.J k x b):G.Cn (fun v=>v≠x) a b:=
 (tj hG h1.1 hS ⟨x,h1.symm⟩ ⟨x,h2.symm⟩ (Ne.symm (h1.lt hG).2.2) (Ne.symm (h2.lt hG).2.2)).cn
end
end UG
end Go.Ab
end
section
namespace Go.Ab
set_option maxRecDepth 10000
set_option linter.unusedSectionVars false
namespace UG
variable {G:UG}
open Classical in
noncomputable def xV (G:UG) (x i k:Nat):Bool:=decide (∃a b,G.J i x a∧G.J k x b∧G.Cn (fun u=>u≠x) a b)
def tq (a:List Nat) (i k:Nat):List Nat:=(a.set i (min (a.getD i 0) (a.getD k 0))).set k (min (a.getD i 0) (a.getD k 0))
noncomputable def lV (G:UG) (x i:Nat) (s:List Nat × Bool):Nat→List Nat × Bool
 |0=>s
 |k+1=>if (G.xV x i k&&decide ((lV G x i s k).1.getD i 0≠(lV G x i s k).1.getD k 0))=true then (tq (lV G x i s k).1 i k,true) else lV G x i s k
noncomputable def je (G:UG) (x:Nat) (s:List Nat × Bool):Nat→List Nat × Bool
 |0=>s
 |i+1=>lV G x i (je G x s i) G.m
noncomputable def gV (G:UG) (s:List Nat × Bool):Nat→List Nat × Bool
 |0=>s
 |x+1=>je G x (gV G s x) G.m
structure Lb (G:UG) (a:List Nat):Prop where
 len:a.length=G.m
 nV:∀i,i<G.m→a.getD i 0≤i∧G.Sm i (a.getD i 0)
theorem jH {l:List Nat} {i j a:Nat} (hi:i<l.length):(l.set i a).getD j 0=if j=i then a else l.getD j 0:=cg hi
theorem r8 {l:List Nat} :∀ {i v:Nat},i<l.length→v≤l.getD i 0→(l.set i v).sum+l.getD i 0=l.sum+v:=by
 induction l with
 |nil=>intro i v h;simp at h
 |cons a l ih=>
  intro i v h hv
  cases i with
  |zero=>simp;omega
  |succ i=>
   have:=ih (i:=i) (v:=v) (by simpa using h) (by simpa using hv)
   simp only [List.set_cons_succ,List.sum_cons,List.getD_cons_succ]
   omega
theorem zR {a:List Nat} (h:G.Lb a) {x i k:Nat} (hi:i<G.m) (hk:k<G.m) (hr:G.R i k) (hne:a.getD i 0≠a.getD k 0):G.Lb (tq a i k)∧(tq a i k).sum<a.sum:=by
 have h1:=h.nV i hi
 have h2:=h.nV k hk
 have hS:G.Sm i k:= .step .refl hr
 have hik:i≠k:=fun e=>hne (by rw [e])
 unfold tq
 generalize hm:min (a.getD i 0) (a.getD k 0)=q
 have hq:q≤a.getD i 0∧q≤a.getD k 0∧(q=a.getD i 0∨q=a.getD k 0):=by omega
 have hqi:G.Sm i q:=by
  rcases hq.2.2 with e|e
  ·rw [e];exact h1.2
  ·rw [e];exact hS.trans h2.2
 have hl:(a.set i q).length=G.m:=by rw [List.length_set,h.len]
 have hg:∀j,((a.set i q).set k q).getD j 0=if j=k then q else if j=i then q else a.getD j 0:=fun j=>by
  rw [jH (by rw [hl];exact hk),jH (by rw [h.len];exact hi)]
 refine ⟨⟨by rw [List.length_set,hl],fun j hj=> ?_⟩, ?_⟩
 ·rw [hg]
  by_cases e1:j=k
  ·subst e1
   rw [if_pos rfl]
   exact ⟨by omega,hS.symm.trans hqi⟩
  ·rw [if_neg e1]
   by_cases e2:j=i
   ·subst e2
    rw [if_pos rfl]
    exact ⟨by omega,hqi⟩
   ·rw [if_neg e2]
    exact h.nV j hj
 ·have s1:=r8 (l:=a) (i:=i) (v:=q) (by rw [h.len];exact hi) hq.1
  have hk':(a.set i q).getD k 0=a.getD k 0:=by rw [jH (by rw [h.len];exact hi),if_neg (Ne.symm hik)]
  have s2:=r8 (l:=a.set i q) (i:=k) (v:=q) (by rw [hl];exact hk) (by rw [hk'];exact hq.2.1)
  rw [hk'] at s2
  omega
def Dn (s t:List Nat × Bool):Prop:=t=s∨(t.2=true∧t.1.sum<s.1.sum)
theorem Dn.trans {s t u:List Nat × Bool} (h:Dn s t) (k:Dn t u):Dn s u:=by
 rcases k with rfl|⟨k1,k2⟩
 ·exact h
 ·rcases h with rfl|⟨h1,h2⟩
  ·exact .inr ⟨k1,k2⟩
  ·exact .inr ⟨k1,by omega⟩
theorem Dn.same {s t:List Nat × Bool} (h:Dn s t) (hf:t.2=false):t=s:=by
 rcases h with h|⟨h,_⟩
 ·exact h
 ·rw [h] at hf;cases hf
theorem nF {x i k:Nat} :G.xV x i k=true↔∃a b,G.J i x a∧G.J k x b∧G.Cn (fun u=>u≠x) a b:=by unfold xV;simp
theorem lJ {x i:Nat} {s:List Nat × Bool} (hs:G.Lb s.1) (hi:i<G.m):∀ {k:Nat},k≤G.m→G.Lb (lV G x i s k).1∧Dn s (lV G x i s k)
 |0,_=>⟨hs, .inl rfl⟩
 |k+1,hk=>by
  obtain ⟨h1,h2⟩:=lJ hs hi (k:=k) (by omega)
  rw [lV]
  split
  ·rename_i hc
   rw [Bool.and_eq_true,decide_eq_true_eq,nF] at hc
   obtain ⟨h3,h4⟩:=zR (x:=x) h1 hi (show k<G.m by omega) ⟨x,hc.1⟩ hc.2
   exact ⟨h3,h2.trans (.inr ⟨rfl,h4⟩)⟩
  ·exact ⟨h1,h2⟩
theorem jf {x:Nat} {s:List Nat × Bool} (hs:G.Lb s.1):∀ {k:Nat},k≤G.m→G.Lb (je G x s k).1∧Dn s (je G x s k)
 |0,_=>⟨hs, .inl rfl⟩
 |k+1,hk=>by
  obtain ⟨h1,h2⟩:=jf hs (k:=k) (by omega)
  obtain ⟨h3,h4⟩:=lJ (x:=x) h1 (show k<G.m by omega) (Nat.le_refl G.m)
  exact ⟨h3,h2.trans h4⟩
theorem fF {s:List Nat × Bool} (hs:G.Lb s.1):∀ {k:Nat},G.Lb (gV G s k).1∧Dn s (gV G s k)
 |0=>⟨hs, .inl rfl⟩
 |k+1=>by
  obtain ⟨h1,h2⟩:=fF hs (k:=k)
  obtain ⟨h3,h4⟩:=jf (x:=k) h1 (Nat.le_refl G.m)
  exact ⟨h3,h2.trans h4⟩
theorem zS {s:List Nat × Bool} (hs:G.Lb s.1) (hf:(gV G s G.n).2=false) {x i k:Nat} (hx:x<G.n) (hi:i<G.m) (hk:k<G.m) (hr:G.xV x i k=true):s.1.getD i 0=s.1.getD k 0:=by
 have e1:∀d y,y+d=G.n→gV G s y=s:=by
  intro d
  induction d with
  |zero=>
   intro y e
   have:y=G.n:=by omega
   subst this
   exact (fF hs).2.same hf
  |succ d ih=>
   intro y e
   have h1:=ih (y+1) (by omega)
   have hs2:s.2=false:=by rw [← (fF hs).2.same hf];exact hf
   have h2:=(jf (x:=y) (fF hs (k:=y)).1 (Nat.le_refl G.m)).2
   rw [gV] at h1
   have h3:=h2.same (by rw [h1];exact hs2)
   rw [← h3,h1]
 have hs2:s.2=false:=by rw [← (fF hs).2.same hf];exact hf
 have hx1:=e1 (G.n - x) x (by omega)
 have hx2:=e1 (G.n - (x+1)) (x+1) (by omega)
 rw [gV,hx1] at hx2
 have e2:∀d y,y+d=G.m→je G x s y=s:=by
  intro d
  induction d with
  |zero=>
   intro y e
   have:y=G.m:=by omega
   subst this
   exact hx2
  |succ d ih=>
   intro y e
   have h1:=ih (y+1) (by omega)
   have h2:=(lJ (x:=x) (jf (x:=x) hs (k:=y) (by omega)).1 (show y<G.m by omega) (Nat.le_refl G.m)).2
   rw [je] at h1
   have h3:=h2.same (by rw [h1];exact hs2)
   rw [← h3,h1]
 have hi1:=e2 (G.m - i) i (by omega)
 have hi2:=e2 (G.m - (i+1)) (i+1) (by omega)
 rw [je,hi1] at hi2
 have e3:∀d y,y+d=G.m→lV G x i s y=s:=by
  intro d
  induction d with
  |zero=>
   intro y e
   have:y=G.m:=by omega
   subst this
   exact hi2
  |succ d ih=>
   intro y e
   have h1:=ih (y+1) (by omega)
   have h4:=(lJ (x:=x) (s:=s) hs hi (k:=y) (by omega)).1
   rw [lV] at h1
   split at h1
   ·rename_i hc
    rw [← h1] at hs2
    cases hs2
   ·exact h1
 have j3:=e3 (G.m - k) k (by omega)
 have hk2:=e3 (G.m - (k+1)) (k+1) (by omega)
 rw [lV,j3] at hk2
 split at hk2
 ·rw [← hk2] at hs2;cases hs2
 ·rename_i hc
  rw [hr,Bool.true_and,decide_eq_true_eq] at hc
  exact Decidable.byContradiction hc
structure yL (G:UG) (a:List Nat):Prop extends Lb G a where
 eq:∀i k,i<G.m→G.Sm i k→a.getD i 0=a.getD k 0
theorem xW (hG:G.Ok) {s:List Nat × Bool} (hs:G.Lb s.1) (hf:(gV G s G.n).2=false):G.yL s.1:=by
 refine ⟨hs,fun i k hi hS=> ?_⟩
 induction hS with
 |refl=>rfl
 |step h r ih=>
  obtain ⟨v,a,b,h1,h2,h3⟩:=r
  exact ih.trans (zS hs hf (h1.lt hG).1 h1.1 h2.1 (nF.2 ⟨a,b,h1,h2,h3⟩))
theorem r9 {a:List Nat} (h:G.yL a) {i:Nat} (hi:i<G.m):G.qF i=decide (a.getD i 0=i):=by
 rw [Bool.eq_iff_iff,dh,decide_eq_true_eq]
 constructor
 ·intro h1
  have h2:=h.nV i hi
  have:=h1 _ h2.2
  omega
 ·intro h1 k hk
  have h2:=h.eq i k hi hk
  have:=(h.nV k (hk.lt hi)).1
  omega
theorem xX {a:List Nat} (h:G.yL a) {i:Nat} (hi:i<G.m) (hl:G.qF i=true):G.bC i=(List.range G.m).filter fun k=>decide (a.getD k 0=i):=by
 rw [r9 h hi,decide_eq_true_eq] at hl
 unfold bC
 refine List.filter_congr fun k hk=> ?_
 rw [List.mem_range] at hk
 rw [decide_eq_decide]
 constructor
 ·intro hS
  rw [← h.eq i k hi hS,hl]
 ·intro e
  have:=(h.nV k hk).2
  rw [e] at this
  exact this.symm
theorem xY {a:List Nat} (h:G.yL a):G.aB=((List.range G.m).filter fun i=>decide (a.getD i 0=i)).map fun i=>(List.range G.m).filter fun k=>decide (a.getD k 0=i):=by
 unfold aB
 have e:(List.range G.m).filter (fun i=>G.qF i)=(List.range G.m).filter fun i=>decide (a.getD i 0=i):=List.filter_congr fun i hi=>r9 h (List.mem_range.1 hi)
 rw [← e]
 refine List.map_congr_left fun i hi=> ?_
 rw [List.mem_filter,List.mem_range] at hi
 exact xX h hi.1 hi.2
def nG (G:UG):List Nat:=List.range G.m
theorem vE:G.Lb (nG G):=⟨by simp [nG],fun i hi=>by
 have e:(nG G).getD i 0=i:=by simp [nG,List.getD_eq_getElem?_getD,List.getElem?_range hi]
 rw [e];exact ⟨Nat.le_refl _, .refl⟩⟩
end UG
end Go.Ab
end
section
namespace Go.Ab
set_option maxRecDepth 10000
set_option linter.unusedSectionVars false
namespace UG
variable {G:UG}
def Cut (G:UG) (x:Nat):Prop:=∃i k a b,G.J i x a∧G.J k x b∧¬G.Sm i k
def w8 (G:UG) (A:Nat→Prop) (v:Nat):Prop:=A v∧∀y,G.Cn A v y→v≤y
open Classical in
noncomputable def mF (G:UG) (A:Nat→Prop):Nat:=((List.range G.n).filter fun v=>decide (G.w8 A v)).length
theorem nH {A:Nat→Prop} :∀(v:Nat),A v→∃u,G.Cn A v u∧G.w8 A u
 |v,hv=>by
  by_cases h:∀y,G.Cn A v y→v≤y
  ·exact ⟨v, .refl hv,hv,h⟩
  ·simp only [Classical.not_forall,Nat.not_le] at h
   obtain ⟨y,h1,h2⟩:=h
   obtain ⟨u,h3,h4⟩:=nH y h1.AG
   exact ⟨u,h1.trans h3,h4⟩
 termination_by v=>v
theorem sg {A:Nat→Prop} {u v:Nat} (hu:G.w8 A u) (hv:G.w8 A v) (h:G.Cn A u v):u=v:=
 Nat.le_antisymm (hu.2 v h) (hv.2 u h.symm)
theorem vF (hG:G.Ok) {A:Nat→Prop} {u v:Nat} (hu:u<G.n) (h:G.Cn A u v):v<G.n:=by
 cases h with
 |refl _=>exact hu
 |step _ j _=>exact (j.lt hG).2.1
theorem si {f:Nat→Nat} :∀ {l:List Nat} {l':List Nat},l.Nodup→(∀a∈l,f a∈l')→(∀a∈l,∀b∈l,f a=f b→a=b)→(l.map f).Nodup∧l.length≤l'.length:=by
 intro l l' hn hm hi
 have h1:(l.map f).Nodup:=by
  induction l with
  |nil=>simp
  |cons a l ih=>
   rw [List.nodup_cons] at hn
   rw [List.map_cons,List.nodup_cons]
   refine ⟨fun h=> ?_,ih hn.2 (fun a ha=>hm a (List.mem_cons_of_mem _ ha)) fun a ha b hb=>hi a (List.mem_cons_of_mem _ ha) b (List.mem_cons_of_mem _ hb)⟩
   obtain ⟨b,hb,e⟩:=List.mem_map.1 h
   have:=hi b (List.mem_cons_of_mem _ hb) a (by simp) e
   exact hn.1 (by rw [← this];exact hb)
 refine ⟨h1, ?_⟩
 have:=h1.length_le_of_subset (l₂:=l') fun b hb=>by
  obtain ⟨a,ha,rfl⟩:=List.mem_map.1 hb
  exact hm a ha
 rwa [List.length_map] at this
open Classical in
theorem fG {A:Nat→Prop} {v:Nat} :v∈(List.range G.n).filter (fun v=>decide (G.w8 A v))↔v<G.n∧G.w8 A v:=by simp
section
variable (hG:G.Ok)
include hG
theorem beside {x v:Nat} (hx:¬G.Cut x) (hv:v≠x) {z:Nat} (h:G.Cn (fun _=>True) v z):(z≠x→G.Cn (fun u=>u≠x) v z)∧(z=x→∃e p,G.J e x p∧G.Cn (fun u=>u≠x) v p):=by
 induction h with
 |refl _=>exact ⟨fun h=> .refl h,fun h=>absurd h hv⟩
 | @step y z i _ j _ ih=>
   refine ⟨fun hz=> ?_,fun hz=> ?_⟩
   ·by_cases hy:y=x
    ·subst hy
     obtain ⟨e,p,h1,h2⟩:=ih.2 rfl
     have hS:G.Sm e i:=Classical.byContradiction fun h0=>hx ⟨e,i,p,z,h1,j,h0⟩
     exact h2.trans (zQ hG hS h1 j)
    ·exact .step (ih.1 hy) j hz
   ·subst hz
    have hy:y≠z:=(j.lt hG).2.2
    exact ⟨i,y,j.symm,ih.1 hy⟩
open Classical in
theorem E4 {x:Nat} (hx:¬G.Cut x):mF G (fun u=>u≠x)≤mF G (fun _=>True):=by
 unfold mF
 have hf:∀v,∃u,G.Cn (fun _=>True) v u∧G.w8 (fun _=>True) u:=fun v=>nH v trivial
 refine (si (f:=fun v=>(hf v).choose) (List.nodup_range.filter _) (fun v hv=> ?_) fun v hv w hw e=> ?_).2
 ·rw [fG] at hv ⊢
  have h1:=(hf v).choose_spec
  exact ⟨vF hG hv.1 h1.1,h1.2⟩
 ·rw [fG] at hv hw
  have h1:=(hf v).choose_spec.1
  have h2:=(hf w).choose_spec.1
  rw [← (show (hf v).choose=(hf w).choose from e)] at h2
  exact sg hv.2 hw.2 ((beside hG hx hv.2.1 (h1.trans h2.symm)).1 hw.2.1)
open Classical in
theorem Cb {x:Nat} (hx:G.Cut x):mF G (fun _=>True)<mF G (fun u=>u≠x):=by
 obtain ⟨i,k,a,b,h1,h2,h3⟩:=hx
 have hab:¬G.Cn (fun u=>u≠x) a b:=fun h=>h3 (.step .refl ⟨x,a,b,h1,h2,h⟩)
 obtain ⟨u,E5,HT⟩:=nH (G:=G) (A:=fun u=>u≠x) a (Ne.symm (h1.lt hG).2.2)
 obtain ⟨w,hw1,HU⟩:=nH (G:=G) (A:=fun u=>u≠x) b (Ne.symm (h2.lt hG).2.2)
 have Gc:G.Cn (fun _=>True) x u:=(Cn.one h1 trivial trivial).trans (E5.mono fun _ _=>trivial)
 have HV:G.Cn (fun _=>True) x w:=(Cn.one h2 trivial trivial).trans (hw1.mono fun _ _=>trivial)
 have hun:u<G.n:=vF hG (h1.lt hG).2.1 E5
 have hwn:w<G.n:=vF hG (h2.lt hG).2.1 hw1
 have HW:u≠w:=fun e=>hab (E5.trans (by rw [e];exact hw1.symm))
 let f:Nat→Nat:=fun v=>if G.Cn (fun _=>True) x v then u else v
 have key:=si (f:=f) (l:=(List.range G.n).filter fun v=>decide (G.w8 (fun _=>True) v)) (l':=((List.range G.n).filter fun v=>decide (G.w8 (fun u=>u≠x) v)).erase w) (List.nodup_range.filter _) (fun v hv=> ?_) fun v hv v' iu e=> ?_
 ·have rW:w∈(List.range G.n).filter fun v=>decide (G.w8 (fun u=>u≠x) v):=fG.2 ⟨hwn,HU⟩
  have:=key.2
  rw [List.length_erase_of_mem rW] at this
  have:=List.length_pos_of_mem rW
  unfold mF
  omega
 ·rw [fG] at hv
  show (if _ then _ else _)∈_
  split
  ·rw [List.mem_erase_of_ne HW,fG]
   exact ⟨hun,HT⟩
  ·rename_i hc
   have E3:v≠w:=fun e=>hc (by rw [e];exact HV)
   rw [List.mem_erase_of_ne E3,fG]
   exact ⟨hv.1,fun e=>hc (by rw [e];exact .refl trivial),fun y hy=>hv.2.2 y (hy.mono fun _ _=>trivial)⟩
 ·rw [fG] at hv iu
  have e':(if G.Cn (fun _=>True) x v then u else v)=if G.Cn (fun _=>True) x v' then u else v':=e
  split at e'<;>split at e'
  ·rename_i c1 c2
   exact sg hv.2 iu.2 (c1.symm.trans c2)
  ·rename_i c1 c2
   exact absurd (by rw [← e'];exact Gc) c2
  ·rename_i c1 c2
   exact absurd (by rw [e'];exact Gc) c1
  ·exact e'
end
def bw (G:UG) (b:List Nat) (x:Nat):Bool:=b.any fun i=>decide (G.T i=x)||decide (G.H i=x)
theorem jg {b:List Nat} (hb:∀i∈b,i<G.m) {x:Nat} :bw G b x=true↔∃i∈b,∃a,G.J i x a:=by
 unfold bw
 simp only [List.any_eq_true,Bool.or_eq_true,decide_eq_true_eq]
 constructor
 ·rintro ⟨i,h1,h2|h2⟩
  ·exact ⟨i,h1,_,hb i h1, .inl ⟨h2,rfl⟩⟩
  ·exact ⟨i,h1,_,hb i h1, .inr ⟨rfl,h2⟩⟩
 ·rintro ⟨i,h1,a,_,h2|h2⟩
  ·exact ⟨i,h1, .inl h2.1⟩
  ·exact ⟨i,h1, .inr h2.2⟩
theorem gK {b:List Nat} (hb:b∈G.aB) {i:Nat} (hi:i∈b):i<G.m:=by
 unfold aB at hb
 obtain ⟨j,_,rfl⟩:=List.mem_map.1 hb
 exact (aX.1 hi).1
theorem ku {i:Nat} (hi:i<G.m):∃b∈G.aB,i∈b:=by
 obtain ⟨j,h1,h2⟩:∃j,G.Sm i j∧∀k,G.Sm i k→j≤k:=by
  have:∀n,∀j,j≤n→G.Sm i j→∃j,G.Sm i j∧∀k,G.Sm i k→j≤k:=by
   intro n
   induction n with
   |zero=>intro j hj hS;exact ⟨j,hS,fun k _=>by omega⟩
   |succ n ih=>
    intro j hj hS
    by_cases h:∀k,G.Sm i k→j≤k
    ·exact ⟨j,hS,h⟩
    ·simp only [Classical.not_forall,Nat.not_le] at h
     obtain ⟨k,h1,h2⟩:=h
     exact ih k (by omega) h1
  exact this i i (Nat.le_refl _) .refl
 refine ⟨G.bC j,List.mem_map_of_mem (List.mem_filter.2 ⟨List.mem_range.2 (h1.lt hi),dh.2 fun k hk=>h2 k (h1.trans hk)⟩),aX.2 ⟨hi,h1.symm⟩⟩
theorem vG {b c:List Nat} (hb:b∈G.aB) (hc:c∈G.aB) {i k:Nat} (hi:i∈b) (hk:k∈c) (hS:G.Sm i k):b=c:=by
 unfold aB at hb hc
 obtain ⟨x,hx,rfl⟩:=List.mem_map.1 hb
 obtain ⟨y,hy,rfl⟩:=List.mem_map.1 hc
 rw [List.mem_filter,List.mem_range] at hx hy
 have h1:=(aX.1 hi).2.trans (hS.trans (aX.1 hk).2.symm)
 have h2:=dh.1 hx.2 y h1
 have h3:=dh.1 hy.2 x h1.symm
 have:x=y:=by omega
 rw [this]
theorem xZ:G.aB.Nodup:=by
 unfold aB
 have hn:((List.range G.m).filter fun i=>G.qF i).Nodup:=List.nodup_range.filter _
 unfold List.Nodup at hn ⊢
 rw [List.pairwise_map]
 refine hn.imp_of_mem fun {x y} hx hy hne e=>hne ?_
 rw [List.mem_filter,List.mem_range] at hx hy
 have h1:x∈G.bC y:=by rw [← e];exact aX.2 ⟨hx.1, .refl⟩
 have h2:=(aX.1 h1).2
 have h3:=dh.1 hx.2 y h2.symm
 have h4:=dh.1 hy.2 x h2
 omega
theorem mT (hG:G.Ok) {x:Nat} :G.Cut x↔1<(G.aB.filter fun b=>bw G b x).length:=by
 constructor
 ·rintro ⟨i,k,a,b,h1,h2,h3⟩
  obtain ⟨bi,g1,g2⟩:=ku h1.1
  obtain ⟨bk,g3,g4⟩:=ku h2.1
  have hne:bi≠bk:=by
   rintro rfl
   obtain ⟨j,_,_,hj⟩:=(lI g1).1
   exact h3 (((hj i).1 g2).symm.trans ((hj k).1 g4))
  have:=List.Nodup.length_le_of_subset (l₁:= [bi,bk]) (l₂:=G.aB.filter fun b=>bw G b x) (by simp [hne]) fun b hb=>by
   rcases List.mem_cons.1 hb with rfl|hb
   ·exact List.mem_filter.2 ⟨g1,(jg fun i hi=>gK g1 hi).2 ⟨i,g2,a,h1⟩⟩
   ·rw [List.mem_singleton] at hb
    subst hb
    exact List.mem_filter.2 ⟨g3,(jg fun i hi=>gK g3 hi).2 ⟨k,g4,_,h2⟩⟩
  exact this
 ·intro h
  have bG:(G.aB.filter fun b=>bw G b x).Nodup:=xZ.filter _
  match hl:G.aB.filter fun b=>bw G b x with
  | []=>rw [hl] at h;simp at h
  | [b]=>rw [hl] at h;simp at h
  |b::c::r=>
   have hb:b∈G.aB.filter fun b=>bw G b x:=by rw [hl];simp
   have hc:c∈G.aB.filter fun b=>bw G b x:=by rw [hl];simp
   rw [List.mem_filter] at hb hc
   obtain ⟨i,h1,a,h2⟩:=(jg fun i hi=>gK hb.1 hi).1 hb.2
   obtain ⟨k,h3,a',h4⟩:=(jg fun i hi=>gK hc.1 hi).1 hc.2
   refine ⟨i,k,a,a',h2,h4,fun hS=> ?_⟩
   have:=vG hb.1 hc.1 h1 h3 hS
   rw [hl,this] at bG
   simp at bG
end UG
end Go.Ab
end
section
namespace Go.Ab
open Go.Proofs
set_option maxRecDepth 10000
def vH (q:Nat→Bool):Nat→Nat
 |0=>0
 |n+1=>vH q n ||| (if q n then 2 ^ n else 0)
theorem jh {q:Nat→Bool} {y:Nat} :∀ {n:Nat},(vH q n).testBit y=(decide (y<n)&&q y)
 |0=>by simp [vH]
 |n+1=>by
  rw [vH,Nat.testBit_or,jh]
  by_cases h:y=n
  ·subst h
   cases hq:q y<;>simp [Nat.testBit_two_pow_self]
  ·have h2:(if q n then 2 ^ n else 0).testBit y=false:=by
    split
    ·rw [Nat.testBit_two_pow];exact decide_eq_false fun e=>h e.symm
    ·simp
   rw [h2,Bool.or_false]
   congr 1
   rw [decide_eq_decide];omega
inductive fW (g:Gr) (both:Bool) (c:Nat→Bool) (x:Nat):Nat→Prop
 |refl:fW g both c x x
 |fwd {i:Nat} :i<g.es.length→c i=true→fW g both c x (tl g i).toNat→fW g both c x (hd g i).toNat
 |w9 {i:Nat} :i<g.es.length→c i=true→both=true→fW g both c x (hd g i).toNat→fW g both c x (tl g i).toNat
theorem fW.trans {g:Gr} {both:Bool} {c:Nat→Bool} {x y z:Nat} (h1:fW g both c x y) (h2:fW g both c y z):fW g both c x z:=by
 induction h2 with
 |refl=>exact h1
 |fwd a b _ ih=>exact .fwd a b ih
 |w9 a b d _ ih=>exact .w9 a b d ih
open Classical in
noncomputable def E6 (g:Gr) (both:Bool) (c:Nat→Bool) (x:Nat):Nat:=vH (fun y=>decide (fW g both c x y)) g.n.toNat
noncomputable def Gd (g:Gr) (both:Bool) (c:Nat→Bool):List Nat:=(List.range g.n.toNat).map (E6 g both c)
open Classical in
theorem Da {g:Gr} {both:Bool} {c:Nat→Bool} {x y:Nat} :(E6 g both c x).testBit y=true↔y<g.n.toNat∧fW g both c x y:=by
 unfold E6
 rw [jh]
 simp
def Cc (g:Gr) (both:Bool) (c:Nat→Bool) (a:List Nat):Nat→List Nat × Bool
 |0=>(a,false)
 |k+1=>
  let s:=Cc g both c a k
  if c k=true then
   let t:=s.1.getD (tl g k).toNat 0 ||| s.1.getD (hd g k).toNat 0
   let h:=if both=true then t else s.1.getD (hd g k).toNat 0
   ((s.1.set (tl g k).toNat t).set (hd g k).toNat h,s.2||(decide (t≠s.1.getD (tl g k).toNat 0)||decide (h≠s.1.getD (hd g k).toNat 0)))
  else s
theorem cg {l:List Nat} {i j:Nat} {a:Nat} (hi:i<l.length):(l.set i a).getD j 0=if j=i then a else l.getD j 0:=by
 rw [List.getD_eq_getElem?_getD,List.getElem?_set]
 by_cases h:i=j
 ·subst h;rw [if_pos rfl,if_pos hi,if_pos rfl];rfl
 ·rw [if_neg h,if_neg (Ne.symm h), ← List.getD_eq_getElem?_getD]
structure Ge (g:Gr) (both:Bool) (c:Nat→Bool) (a:List Nat):Prop where
 len:a.length=g.n.toNat
 own:∀x,x<g.n.toNat→(a.getD x 0).testBit x=true
 snd:∀x y,x<g.n.toNat→(a.getD x 0).testBit y=true→y<g.n.toNat∧fW g both c x y
theorem Ge.lt {g:Gr} {both:Bool} {c:Nat→Bool} {a:List Nat} (h:Ge g both c a) (hn:g.n.toNat≤64) (x:Nat):a.getD x 0<18446744073709551616:=by
 by_cases hx:x<g.n.toNat
 ·have:a.getD x 0<2 ^ 64:=Nat.lt_pow_two_of_testBit _ fun i hi=>by
   cases hb:(a.getD x 0).testBit i with
   |false=>rfl
   |true=>have:=(h.snd x i hx hb).1;omega
  simpa using this
 ·rw [List.getD_eq_getElem?_getD,List.getElem?_eq_none (by rw [h.len];omega)];simp
def HX (a:List Nat):Nat:=a.foldr (· + ·) 0
end Go.Ab
end
section
namespace Go.Ab
open Go.Proofs
attribute [local congr] ACall.congr gd.congr Nx.congr
set_option maxRecDepth 20000
set_option maxHeartbeats 8000000
def rU (n:Nat):List D:= [.sc (.int .u64 (n:Int))]
def eU (n:Nat):AV:= .d (.sc (.int .u64 (n:Int)))
def sU (l:List Nat):D:= .sl 1 (l.map rU)
theorem getD_rU (ps:List Nat) (i:Nat):(ps.map rU).getD i [.sc (.int .u64 0)]= [.sc (.int .u64 ((ps.getD i 0:Nat):Int))]:=by
 rw [List.getD_eq_getElem?_getD,List.getElem?_map,List.getD_eq_getElem?_getD]
 cases ps[i]? <;>rfl
attribute [go_sem] eU sU getD_rU InU
end Go.Ab
end
section
namespace Go.Ab
end Go.Ab
end
section
namespace Go.Ab
open Go.Proofs
attribute [local congr] ACall.congr gd.congr Nx.congr
set_option maxRecDepth 10000
def g0:Gr:=⟨3, [(0,1),(1,2),(2,1)]⟩
end Go.Ab
end
section
namespace Go.Ab
open Go.Proofs
attribute [local congr] ACall.congr gd.congr Nx.congr
set_option maxRecDepth 10000
def HY (g:Gr):Bool:=decide (g.n≤((vk g).length:Int))
def HZ (g:Gr):List Int:=if HY g then vk g else []
def Cd (l:List Int) (n:Int):Bool:=decide ((l.length:Int)=n)&&(List.range n.toNat).all fun x:Nat=>decide ((x:Int)∈l)
end Go.Ab
end
section
namespace Go.Ab
open Go.Proofs
attribute [local congr] ACall.congr gd.congr Nx.congr
set_option maxRecDepth 10000
def E7 (n:Nat):List Int:=(List.range n).map Int.ofNat
def AN (n:Nat) (l:List Int):Nat→List Int
 |0=>List.replicate n 0
 |k+1=>(AN n l k).set (l.getD k 0).toNat k
theorem atK_length {n:Nat} {l:List Int} :∀ {k:Nat},(AN n l k).length=n
 |0=>by simp [AN]
 |k+1=>by simp [AN,atK_length (k:=k)]
def zT (g:Gr) (l:List Int) (j:Nat):Bool:=(List.range j).all fun i=>decide ((AN g.n.toNat l l.length).getD (tl g i).toNat 0<(AN g.n.toNat l l.length).getD (hd g i).toNat 0)
def E8 (g:Gr) (l:List Int):Bool:=Cd l g.n&&zT g l g.es.length
attribute [go_sem] atK_length
end Go.Ab
end
section
namespace Go.Ab
def I7 (g:Gr) (out:List Int):Prop:=∀p,p<out.length→out.getD p 0=jF (zK g (out.take p)) 0∧0≤out.getD p 0
end Go.Ab
end
section
namespace Go.Ab
open Go.Proofs
attribute [local congr] ACall.congr gd.congr Nx.congr
set_option maxRecDepth 10000
end Go.Ab
end
section
namespace Go.Ab
open Go.Proofs
attribute [local congr] ACall.congr gd.congr Nx.congr
set_option maxRecDepth 10000
def gz:Gr:=⟨0, []⟩
def vz:D:= .pt [.sc (.int .i64 0), .sl 2 [], .sl 1 [], .sl 1 []]
def qG (f:Edge→Int) (g:Gr) (x:Int):List Int:=if 0≤x∧x<g.n then vp f g.es g.es.length x else []
end Go.Ab
end
section
namespace Go.Ab
open Go.Proofs
attribute [local congr] ACall.congr gd.congr Nx.congr
set_option maxRecDepth 10000
abbrev It:=Int × Int × Int
def rT (t:It):List D:= [.sc (.int .i64 t.1), .sc (.int .i64 t.2.1), .sc (.int .i64 t.2.2)]
def eT (t:It):AV:= .agg [.d (.sc (.int .i64 t.1)), .d (.sc (.int .i64 t.2.1)), .d (.sc (.int .i64 t.2.2))]
def sT (ts:List It):D:= .sl 3 (ts.map rT)
theorem getD_rT (ps:List It) (i:Nat):(ps.map rT).getD i [.sc (.int .i64 0), .sc (.int .i64 0), .sc (.int .i64 0)]=rT (ps.getD i (0,0,0)):=by
 simp only [List.getD_eq_getElem?_getD,List.getElem?_map]
 cases ps[i]? <;>rfl
theorem rT_eq (t:It):rT t= [.sc (.int .i64 t.1), .sc (.int .i64 t.2.1), .sc (.int .i64 t.2.2)]:=rfl
attribute [go_sem] getD_rT rT_eq eT sT
theorem Ce {l:List Int} :∀r∈l.map rI,∀x∈r,∃v,x=D.sc v:=by
 intro r hr x hx
 obtain ⟨y,_,rfl⟩:=List.mem_map.1 hr
 simp only [rI,List.mem_singleton] at hx
 exact ⟨_,hx⟩
theorem Cf {l:List It} :∀r∈l.map rT,∀x∈r,∃v,x=D.sc v:=by
 intro r hr x hx
 obtain ⟨y,_,rfl⟩:=List.mem_map.1 hr
 simp only [rT,List.mem_cons,List.not_mem_nil,or_false] at hx
 rcases hx with h|h|h<;>exact ⟨_,h⟩
def vT (ls:List (List It)):List (List D):=ls.map fun l=> [sT l]
theorem vT_length {ls:List (List It)} :(vT ls).length=ls.length:=by simp [vT]
attribute [go_sem] vT_length
end Go.Ab
end
section
namespace Go.Ab
open Go.Proofs
attribute [local congr] ACall.congr gd.congr Nx.congr
set_option maxRecDepth 20000
set_option maxHeartbeats 8000000
def E9 (k:Nat):List Nat:=(List.range k).map fun x=>2 ^ x
def Gf (g:Gr):List Nat:=if aT g=true then E9 g.n.toNat else []
theorem Cg {l:List Nat} :∀r∈l.map rU,∀x∈r,∃v,x=D.sc v:=by
 intro r hr x hx
 obtain ⟨y,_,rfl⟩:=List.mem_map.1 hr
 simp only [rU,List.mem_singleton] at hx
 exact ⟨_,hx⟩
noncomputable def I8 (g:Gr):List Nat:=if aT g=true then Gd g false (fun _=>true) else []
end Go.Ab
end
section
namespace Go.Ab
open Go.Proofs
attribute [local congr] ACall.congr gd.congr Nx.congr
set_option maxRecDepth 20000
set_option maxHeartbeats 8000000
def ug (g:Gr):UG:=⟨g.n.toNat,g.es.length,fun i=>(tl g i).toNat,fun i=>(hd g i).toNat⟩
def rN (n:Nat):List D:= [.sc (.int .i64 (n:Int))]
def sN (l:List Nat):D:= .sl 1 (l.map rN)
def kz (l:List Nat):List D:= [sN l]
def sNL (l:List (List Nat)):D:= .sl 1 (l.map kz)
theorem getD_rN (ps:List Nat) (i:Nat):(ps.map rN).getD i [.sc (.int .i64 0)]= [.sc (.int .i64 ((ps.getD i 0:Nat):Int))]:=by
 rw [List.getD_eq_getElem?_getD,List.getElem?_map,List.getD_eq_getElem?_getD]
 cases ps[i]? <;>rfl
theorem aD (l:List Nat) (k:Nat) (v:Nat):(l.map rN).set k [.sc (.int .i64 (v:Int))]=(l.set k v).map rN:=by
 rw [List.map_set];rfl
attribute [go_sem] sN sNL getD_rN
theorem iE {n:Nat} :List.replicate n [D.sc (.int .i64 0)]=(List.replicate n 0).map rN:=by simp [rN]
def aR (g:Gr):Bool:= !g.es.any fun e=>decide (e.1=e.2)
theorem mG {g:Gr} (hm:aT g=true) (hl:aR g=true):(ug g).Ok:=by
 have key:∀i,i<g.es.length→(0≤tl g i∧tl g i<g.n)∧(0≤hd g i∧hd g i<g.n)∧tl g i≠hd g i:=fun i hi=>by
  refine ⟨pH hm hi,pI hm hi,fun e=> ?_⟩
  simp only [aR,Bool.not_eq_true',List.any_eq_false,decide_eq_true_eq] at hl
  refine hl (g.es.getD i (0,0)) ?_ e
  rw [List.getD_eq_getElem?_getD,List.getElem?_eq_getElem hi]
  exact List.getElem_mem hi
 refine ⟨fun i hi=> ?_,fun i hi=> ?_,fun i hi=> ?_⟩<;>(have:=key i hi;simp only [ug];omega)
def er (g:Gr) (k x:Nat):List Nat:=(List.range k).filter fun i=>decide ((tl g i).toNat=x)||decide ((hd g i).toNat=x)
def fN (g:Gr) (k:Nat):List (List (List D)):=(List.range g.n.toNat).map fun x=>(er g k x).map rN
theorem eZ {g:Gr} {k:Nat} :(fN g k).length=g.n.toNat:=by simp [fN]
theorem e8 {g:Gr} {k x:Nat} (hx:x<g.n.toNat):(fN g k)[x]? =some ((er g k x).map rN):=by
 simp [fN,List.getElem?_range hx]
theorem mH {g:Gr} {k x:Nat} :(er g k x).length≤k:=by
 simpa [er] using List.length_filter_le (fun i=>decide ((tl g i).toNat=x)||decide ((hd g i).toNat=x)) (List.range k)
theorem qH {g:Gr} {k x:Nat} :er g (k+1) x=er g k x++if (tl g k).toNat=x∨(hd g k).toNat=x then [k] else []:=by
 simp only [er,List.range_succ,List.filter_append,List.filter_cons,List.filter_nil]
 split<;>simp_all
theorem qI {g:Gr} :List.replicate g.n.toNat []=fN g 0:=by
 refine List.ext_getElem? fun i=> ?_
 by_cases hi:i<g.n.toNat
 ·rw [e8 hi];simp [hi,er]
 ·rw [List.getElem?_eq_none (by simp;omega),List.getElem?_eq_none (by rw [eZ];omega)]
theorem qJ {g:Gr} {k t h:Nat} (ht:(tl g k).toNat=t) (hh:(hd g k).toNat=h) (hne:t≠h) (htn:t<g.n.toNat) (Fa:h<g.n.toNat):
 ((fN g k).set t ((er g k t).map rN++ [[.sc (.int .i64 k)]])).set h ((er g k h).map rN++ [[.sc (.int .i64 k)]])=fN g (k+1):=by
 refine List.ext_getElem? fun i=> ?_
 rw [List.getElem?_set,List.getElem?_set,List.length_set,eZ]
 by_cases hi:i<g.n.toNat
 ·rw [e8 hi,e8 hi,qH,ht,hh]
  by_cases e1:h=i
  ·subst e1;simp [Fa,rN]
  ·by_cases e2:t=i
   ·subst e2;simp [htn,rN,e1]
   ·simp [e1,e2]
 ·rw [List.getElem?_eq_none (by rw [eZ];omega),List.getElem?_eq_none (by rw [eZ];omega)]
  rw [if_neg (by omega),if_neg (by omega)]
def bX (g:Gr) (cnt:Nat) (st bl:AV):List AV:= [eN g.n, .d (sE g.es), .d (sNL ((List.range g.n.toNat).map fun x=>(ug g).ends x)), .ref 10001, .ref 10002,eN cnt,st,bl]
theorem tu {g:Gr} :(fN g g.es.length).map (fun r=> [D.sl 1 r])=((List.range g.n.toNat).map fun x=>(ug g).ends x).map kz:=by
 unfold fN
 rw [List.map_map,List.map_map]
 rfl
theorem qK (g:Gr) (hm:aT g=true) (hl:aR g=true):Spec Try.prog 39 (Args [eG g]) [] (.ptr 10000 0)
 [(10000, .box (bX g 0 (.nil 3) (.nil 25))),(10001, .own 3 1 ((List.replicate g.n.toNat 0).map rN)),(10002, .own 3 1 ((List.replicate g.n.toNat 0).map rN))]:=by
 have hn:=cO hm
 (refine Spec.zC (C:=T.cfg [12,15] [9]) (rs:= [.t 2]) [(10000,17),(10001,12),(10002,15)] (T.au _ _) Try.func39 rfl rfl Try.ntmps39 Try.results39 (by simp [AObj.isNest]) (by simp [AObj.isNest]) (by first|(simp [look];done)|(simp [asN];done)|(intro l hl;simp only [asN];repeat (rw [if_neg (fun e=>by subst e;simp [look] at hl)]))) (by first|(simp [look];done)|(simp [asN];done)|(intro l hl;simp only [asN];repeat (rw [if_neg (fun e=>by subst e;simp [look] at hl)]))) (by kernel_rfl) T.mixed fun X hX hP hC bf dB=> ?_)
 repeat' (first|refine Rn.p ?_|(with_reducible apply And.intro)|((first|(refine hK _ ?_;clear hK K)|with_reducible intro K hK|refine Rs.p ?_|((with_reducible first|apply oP|apply oQ);exact rfl));try simp only [go_sem,simprocAttr,iE])|((with_reducible refine oD ?_ ?_);first|(focus (simp only [jU,bR,bV,meets,cM,cm,iz,aU,cT,cN,Rec.rs,Rec.fT,Rec.oM,bh,Rec.aO,Rec.names,KV.ids,dM,dN,dO,dP,dQ,dR,List.zip_cons_cons,List.zip_nil_right,List.zipIdx_cons,List.zipIdx_nil,List.all_cons,List.all_nil,List.contains_cons,List.contains_nil,List.any_cons,List.any_nil,List.flatMap_nil,List.reverse_cons,List.reverse_nil,ee,fh,Region.binds,go_sem,simprocAttr,iE];done))|kernel_rfl)|((with_reducible intro h);try simp only [go_sem,simprocAttr,iE] at h)|omega|intro h)
 refine o4 hX 9 (by simp [go_sem,simprocAttr,iE];exact ⟨rfl,rfl,rfl,rfl⟩) (by decide) (by simp [go_sem,simprocAttr,iE]) (by simp [go_sem,simprocAttr,iE]) ?_
 simp only [go_sem,simprocAttr,iE]
 refine ah (fun k:Nat=>k≤g.es.length) (fun k=>⟨[(21,eN k),(20,eN g.es.length),(19, .d (sE g.es)),(3, .ptr 17 0)], [(17, .box [eN g.n, .d (sE g.es), .ref 9, .ref 12, .ref 15,eN 0, .nil 3, .nil 25]),(9, .nest 25 3 1 (fN g k) none),(12, .own 3 1 ((List.replicate g.n.toNat 0).map rN)),(15, .own 3 1 ((List.replicate g.n.toNat 0).map rN))]⟩) (fun k=>g.es.length - k) 0 (by simp) ?_ ?_
 ·refine Le.of ?_ ?_<;>simp [go_sem,simprocAttr]
  exact qI
 rintro k hk
 rcases Nat.lt_or_ge k g.es.length with hlt|hge
 ·have hb:decide ((k:Int)<(g.es.length:Int))=true:=decide_eq_true (by omega)
  obtain ⟨mX,qd⟩:=dU hm hlt
  have hok:=(mG hm hl).ne k hlt
  obtain ⟨u,hu⟩:∃u:Nat,(g.es.getD k (0,0)).1=u:=⟨(g.es.getD k (0,0)).1.toNat,by omega⟩
  obtain ⟨v,hv⟩:∃v:Nat,(g.es.getD k (0,0)).2=v:=⟨(g.es.getD k (0,0)).2.toNat,by omega⟩
  have kg:(tl g k).toNat=u:=by show ((g.es.getD k (0,0)).1).toNat=u;rw [hu];rfl
  have tv:(hd g k).toNat=v:=by show ((g.es.getD k (0,0)).2).toNat=v;rw [hv];rfl
  have hne:u≠v:=fun e=>hok (by show (tl g k).toNat=(hd g k).toNat;rw [kg,tv,e])
  have hun:u<g.n.toNat:=by omega
  have Gg:v<g.n.toNat:=by omega
  have bz:=qJ kg tv hne hun Gg
  have hg1:=e8 (g:=g) (k:=k) hun
  have hg2:((fN g k).set u ((er g k u).map rN++ [[.sc (.int .i64 k)]]))[v]? =some ((er g k v).map rN):=by
   rw [List.getElem?_set,if_neg hne];exact e8 Gg
  have iF:=mH (g:=g) (k:=k) (x:=u)
  have gU:=mH (g:=g) (k:=k) (x:=v)
  have hrl:=eZ (g:=g) (k:=k)
  generalize er g k u=eu at*
  generalize er g k v=ev at*
  generalize fN g k=I9 at*
  repeat' (first|refine Rn.p ?_|(with_reducible apply And.intro)|((first|(refine hK _ ?_;clear hK K)|with_reducible intro K hK|refine Rs.p ?_|((with_reducible first|apply oP|apply oQ);exact rfl));try simp only [go_sem,simprocAttr,hb,hu,hv,hg1,hg2,hrl])|((with_reducible refine oD ?_ ?_);first|(focus (simp only [jU,bR,bV,meets,cM,cm,iz,aU,cT,cN,Rec.rs,Rec.fT,Rec.oM,bh,Rec.aO,Rec.names,KV.ids,dM,dN,dO,dP,dQ,dR,List.zip_cons_cons,List.zip_nil_right,List.zipIdx_cons,List.zipIdx_nil,List.all_cons,List.all_nil,List.contains_cons,List.contains_nil,List.any_cons,List.any_nil,List.flatMap_nil,List.reverse_cons,List.reverse_nil,ee,fh,Region.binds,go_sem,simprocAttr,hb,hu,hv,hg1,hg2,hrl];done))|kernel_rfl)|((with_reducible intro h);try simp only [go_sem,simprocAttr,hb,hu,hv,hg1,hg2,hrl] at h)|omega|intro h)
  refine ⟨k+1,by omega, ?_,by omega⟩
  rw [← bz]
  refine Le.of ?_ ?_<;>simp [go_sem,simprocAttr,hb,hu,hv,hg1,hg2,hrl]
 ·have hb:decide ((k:Int)<(g.es.length:Int))=false:=decide_eq_false (by omega)
  obtain rfl:k=g.es.length:=by omega
  (refine o7 hX 9 rfl (by decide) ?_;simp only [go_sem,simprocAttr,hb])
  rw [tu]
  repeat' (first|refine Rn.p ?_|(with_reducible apply And.intro)|((first|(refine hK _ ?_;clear hK K)|with_reducible intro K hK|refine Rs.p ?_|((with_reducible first|apply oP|apply oQ);exact rfl));try simp only [go_sem,simprocAttr,hb])|((with_reducible refine oD ?_ ?_);first|(focus (simp only [jU,bR,bV,meets,cM,cm,iz,aU,cT,cN,Rec.rs,Rec.fT,Rec.oM,bh,Rec.aO,Rec.names,KV.ids,dM,dN,dO,dP,dQ,dR,List.zip_cons_cons,List.zip_nil_right,List.zipIdx_cons,List.zipIdx_nil,List.all_cons,List.all_nil,List.contains_cons,List.contains_nil,List.any_cons,List.any_nil,List.flatMap_nil,List.reverse_cons,List.reverse_nil,ee,fh,Region.binds,go_sem,simprocAttr,hb];done))|kernel_rfl)|((with_reducible intro h);try simp only [go_sem,simprocAttr,hb] at h)|omega|intro h)
  all_goals (simp [go_sem,simprocAttr,hb,bX])
end Go.Ab
end
section
namespace Go.Ab
open Go.Proofs
attribute [local congr] ACall.congr gd.congr Nx.congr
set_option maxRecDepth 20000
set_option maxHeartbeats 8000000
def Fb (i:Nat) (k:Nat):Bool:= !decide ((k:Int)=(i:Int))
noncomputable def H6 (g:Gr) (i:Nat):Bool:=((Gd g false (Fb i)).getD (tl g i).toNat 0).testBit (hd g i).toNat
noncomputable def H7 (g:Gr) (k:Nat):List Int:=((List.range k).filter fun i=>H6 g i).map fun i:Nat=>(i:Int)
noncomputable def Ja (g:Gr):List Int:=if aT g=true then H7 g g.es.length else []
end Go.Ab
end
section
namespace Go.Ab
open Go.Proofs
set_option maxRecDepth 10000
def ia (g:Gr) (both:Bool) (c:Nat→Bool) (a:List Bool):Nat→List Bool
 |0=>a
 |k+1=>if c k&&((ia g both c a k).getD (tl g k).toNat false||both&&(ia g both c a k).getD (hd g k).toNat false) then
   ((ia g both c a k).set (hd g k).toNat true).set (tl g k).toNat (((ia g both c a k).set (hd g k).toNat true).getD (tl g k).toNat false||both) else ia g both c a k
def jC (g:Gr) (both:Bool) (c:Nat→Bool) (a:List Bool):Nat→List Bool
 |0=>a
 |r+1=>ia g both c (jC g both c a r) g.es.length
theorem gL {l:List Bool} {i j:Nat} {a:Bool} (hi:i<l.length):(l.set i a).getD j false=if j=i then a else l.getD j false:=by
 rw [List.getD_eq_getElem?_getD,List.getElem?_set]
 by_cases h:i=j
 ·subst h;simp [hi]
 ·rw [if_neg h,if_neg (fun e=>h e.symm),List.getD_eq_getElem?_getD]
theorem ji {g:Gr} {both:Bool} {c:Nat→Bool} {a:List Bool} :∀ {k:Nat},(ia g both c a k).length=a.length
 |0=>rfl
 |k+1=>by
  rw [ia]
  split
  ·rw [List.length_set,List.length_set];exact ji
  ·exact ji
theorem cB {g:Gr} {both:Bool} {c:Nat→Bool} {a:List Bool} :∀ {r:Nat},(jC g both c a r).length=a.length
 |0=>rfl
 |r+1=>by rw [jC,ji];exact cB
section
variable {g:Gr} (hm:aT g=true) {both:Bool} {c:Nat→Bool}
include hm
theorem x2 {k:Nat} (hk:k<g.es.length):(tl g k).toNat<g.n.toNat∧(hd g k).toNat<g.n.toNat:=by
 have h1:=pH hm hk
 have h2:=pI hm hk
 omega
theorem gA {a:List Bool} (ha:a.length=g.n.toNat) {k:Nat} (hk:k<g.es.length) {y:Nat} :(ia g both c a (k+1)).getD y false=true↔
 (ia g both c a k).getD y false=true∨c k=true∧((ia g both c a k).getD (tl g k).toNat false=true∧(y=(hd g k).toNat)∨both=true∧(ia g both c a k).getD (hd g k).toNat false=true∧y=(tl g k).toNat):=by
 obtain ⟨ht,hh⟩:=x2 hm hk
 have hl:(ia g both c a k).length=g.n.toNat:=by rw [ji,ha]
 rw [ia]
 generalize ia g both c a k=b at hl
 cases hc:c k with
 |false=>simp
 |true=>
  simp only [Bool.true_and]
  by_cases hq:(b.getD (tl g k).toNat false||both&&b.getD (hd g k).toNat false)=true
  ·rw [if_pos hq,gL (by rw [List.length_set,hl];exact ht),gL (by rw [hl];exact hh),gL (by rw [hl];exact hh)]
   by_cases e1:y=(tl g k).toNat
   ·subst e1
    rw [if_pos rfl]
    by_cases e2:(tl g k).toNat=(hd g k).toNat
    ·rw [if_pos e2]
     simp only [Bool.true_or,true_iff]
     cases hb:b.getD (tl g k).toNat false with
     |true=>exact .inl rfl
     |false=>
      rw [hb] at hq
      rw [← e2,hb] at hq
      simp at hq
    ·rw [if_neg e2]
     cases hb:b.getD (tl g k).toNat false with
     |true=>simp
     |false=>
      rw [hb] at hq
      simp only [Bool.false_or,Bool.and_eq_true] at hq
      exact ⟨fun _=> .inr ⟨by simp, .inr ⟨hq.1,hq.2,rfl⟩⟩,fun _=>by rw [hq.1];rfl⟩
   ·rw [if_neg e1]
    by_cases e2:y=(hd g k).toNat
    ·subst e2
     rw [if_pos rfl]
     simp only [true_iff]
     cases hb:b.getD (tl g k).toNat false with
     |true=>exact .inr ⟨by simp, .inl ⟨by simp,by simp⟩⟩
     |false=>
      rw [hb] at hq
      simp only [Bool.false_or,Bool.and_eq_true] at hq
      exact .inl hq.2
    ·rw [if_neg e2]
     constructor
     ·intro h;exact .inl h
     ·rintro (h|⟨_,⟨_,h⟩|⟨_,_,h⟩⟩)
      ·exact h
      ·exact absurd h e2
      ·exact absurd h e1
  ·rw [if_neg hq]
   simp only [Bool.or_eq_true,Bool.and_eq_true,not_or,not_and] at hq
   constructor
   ·intro h;exact .inl h
   ·rintro (h|⟨_,⟨h,_⟩|⟨h1,h2,_⟩⟩)
    ·exact h
    ·exact absurd h hq.1
    ·exact absurd h2 (hq.2 h1)
theorem dW {a:List Bool} (ha:a.length=g.n.toNat) {y:Nat} (hy:a.getD y false=true):∀ {k:Nat},k≤g.es.length→(ia g both c a k).getD y false=true
 |0,_=>hy
 |k+1,hk=>(gA hm ha hk).2 (.inl (dW ha hy (by omega)))
theorem sj {a:List Bool} (ha:a.length=g.n.toNat) {x:Nat} (hs:∀y,a.getD y false=true→fW g both c x y):∀ {k:Nat},k≤g.es.length→∀y,(ia g both c a k).getD y false=true→fW g both c x y
 |0,_,y,h=>hs y h
 |k+1,hk,y,h=>by
  have ih:=sj ha hs (k:=k) (by omega)
  rcases (gA hm ha hk).1 h with h|⟨hc,⟨h1,rfl⟩|⟨h0,h1,rfl⟩⟩
  ·exact ih y h
  ·exact .fwd hk hc (ih _ h1)
  ·exact .w9 hk hc h0 (ih _ h1)
theorem x3 {a:List Bool} (ha:a.length=g.n.toNat) (hf:∀y,(ia g both c a g.es.length).getD y false=true→a.getD y false=true) {x y:Nat} (hx:a.getD x false=true) (h:fW g both c x y):a.getD y false=true:=by
 have up:∀ {j k:Nat},j≤k→k≤g.es.length→∀y,(ia g both c a j).getD y false=true→(ia g both c a k).getD y false=true:=by
  intro j k hjk
  induction hjk with
  |refl=>intro _ y h;exact h
  |step _ ih=>intro hk y h;exact (gA hm ha hk).2 (.inl (ih (by omega) y h))
 induction h with
 |refl=>exact hx
 | @fwd k hk hc _ ih=>exact hf _ (up (show k+1≤g.es.length from hk) (Nat.le_refl _) _ ((gA hm ha hk).2 (.inr ⟨hc, .inl ⟨dW hm ha ih (by omega),rfl⟩⟩)))
 | @w9 k hk hc H8 _ ih=>exact hf _ (up (show k+1≤g.es.length from hk) (Nat.le_refl _) _ ((gA hm ha hk).2 (.inr ⟨hc, .inr ⟨H8,dW hm ha ih (by omega),rfl⟩⟩)))
theorem sk {a:List Bool} (ha:a.length=g.n.toNat) {x:Nat} (hs:∀y,a.getD y false=true→fW g both c x y):∀r y,(jC g both c a r).getD y false=true→fW g both c x y
 |0,y,h=>hs y h
 |r+1,y,h=>sj hm (by rw [cB];exact ha) (sk ha hs r) (Nat.le_refl _) y h
def jj (a:List Bool):Nat:=a.countP id
omit hm in
theorem vJ:∀ {a b:List Bool},a.length=b.length→(∀y,a.getD y false=true→b.getD y false=true)→(∃y,b.getD y false=true∧a.getD y false=false)→jj a<jj b∧True
 | [], [],_,_,⟨y,h,_⟩=>by simp at h
 |p::a,q::b,hl,h,⟨y,h1,h2⟩=>by
  have le:∀ {a b:List Bool},a.length=b.length→(∀y,a.getD y false=true→b.getD y false=true)→jj a≤jj b:=by
   intro a
   induction a with
   |nil=>intro b _ _;exact Nat.zero_le _
   |cons p a ih=>
    intro b hl h
    cases b with
    |nil=>simp at hl
    |cons q b=>
     have:=ih (b:=b) (by simpa using hl) fun y=>by simpa using h (y+1)
     have h0:=h 0
     simp only [List.getD_cons_zero] at h0
     unfold jj at this ⊢
     rw [List.countP_cons,List.countP_cons]
     cases p with
     |false=>simp;omega
     |true=>simp [h0 rfl];omega
  have hl':a.length=b.length:=by simpa using hl
  have h':∀y,a.getD y false=true→b.getD y false=true:=fun y=>by simpa using h (y+1)
  refine ⟨?_,trivial⟩
  have hle:=le hl' h'
  unfold jj at hle ⊢
  rw [List.countP_cons,List.countP_cons]
  cases y with
  |zero=>
   simp only [List.getD_cons_zero] at h1 h2
   subst h1 h2
   simp;omega
  |succ y=>
   have ih:=(vJ hl' h' ⟨y,by simpa using h1,by simpa using h2⟩).1
   unfold jj at ih
   have h0:=h 0
   simp only [List.getD_cons_zero] at h0
   cases p with
   |false=>simp;omega
   |true=>simp [h0 rfl];omega
omit hm in
theorem zU (a:List Bool):jj a≤a.length:=List.countP_le_length
theorem vK {a:List Bool} (ha:a.length=g.n.toNat) (r:Nat):(∀y,(jC g both c a (r+1)).getD y false=true→(jC g both c a r).getD y false=true)∨jj (jC g both c a r)<jj (jC g both c a (r+1)):=by
 by_cases h:∀y,(jC g both c a (r+1)).getD y false=true→(jC g both c a r).getD y false=true
 ·exact .inl h
 ·refine .inr (vJ (cB.trans (cB (r:=r+1)).symm) (fun y hy=>dW hm (by rw [cB];exact ha) hy (Nat.le_refl _)) ?_).1
  simp only [Classical.not_forall] at h
  obtain ⟨y,h1,h2⟩:=h
  exact ⟨y,h1,by simpa using h2⟩
theorem vM {a:List Bool} (ha:a.length=g.n.toNat) {x:Nat} (hx:a.getD x false=true) (hs:∀y,a.getD y false=true→fW g both c x y) (hc1:0<jj a) (y:Nat):(jC g both c a g.n.toNat).getD y false=true↔fW g both c x y:=by
 refine ⟨sk hm ha hs _ y,fun h=> ?_⟩
 have H9:∀r,(jC g both c a r).getD x false=true:=fun r=>by
  induction r with
  |zero=>exact hx
  |succ r ih=>exact dW hm (by rw [cB];exact ha) ih (Nat.le_refl _)
 have key:∀r,(∀y,fW g both c x y→(jC g both c a r).getD y false=true)∨r<jj (jC g both c a r):=by
  intro r
  induction r with
  |zero=>exact .inr hc1
  |succ r ih=>
   rcases ih with ih|ih
   ·exact .inl fun y hy=>dW hm (by rw [cB];exact ha) (ih y hy) (Nat.le_refl _)
   ·rcases vK hm ha r with h|h
    ·exact .inl fun y hy=>dW hm (by rw [cB];exact ha) (x3 hm (by rw [cB];exact ha) h (H9 r) hy) (Nat.le_refl _)
    ·exact .inr (by omega)
 rcases key g.n.toNat with h1|h1
 ·exact h1 y h
 ·have:=zU (jC g both c a g.n.toNat)
  rw [cB,ha] at this
  omega
end
end Go.Ab
end
section
namespace Go.Ab
open Go.Proofs
attribute [local congr] ACall.congr gd.congr Nx.congr
set_option maxRecDepth 20000
set_option maxHeartbeats 8000000
theorem qL (g:Gr) (hl:g.es.length≤1000):Spec Try.prog 43 (Args [eG g]) [] (.ref 10000) [(10000, .own 4 1 ((dV g.es.length g.es.length).map rB))]:=by
 have hz:=qD (n:=g.es.length)
 (refine Spec.zC (C:=T.cfg [8] []) (rs:= [.t 2]) [(10000,8)] (T.au _ _) Try.func43 rfl rfl Try.ntmps43 Try.results43 (by simp [AObj.isNest]) (by simp [AObj.isNest]) (by first|(simp [look];done)|(simp [asN];done)|(intro l hl;simp only [asN];repeat (rw [if_neg (fun e=>by subst e;simp [look] at hl)]))) (by first|(simp [look];done)|(simp [asN];done)|(intro l hl;simp only [asN];repeat (rw [if_neg (fun e=>by subst e;simp [look] at hl)]))) (by kernel_rfl) T.mixed fun X hX hP hC bf dB=> ?_)
 repeat' (first|refine Rn.p ?_|(with_reducible apply And.intro)|((first|(refine hK _ ?_;clear hK K)|with_reducible intro K hK|refine Rs.p ?_|((with_reducible first|apply oP|apply oQ);exact rfl));try simp only [go_sem,simprocAttr,hz])|((with_reducible refine oD ?_ ?_);kernel_rfl)|((with_reducible intro h);try simp only [go_sem,simprocAttr,hz] at h)|omega|intro h)
 refine ah (fun k:Nat=>k≤g.es.length) (fun k=>⟨[(3, .ref 8),(4,eN k)], [(8, .own 4 1 ((dV g.es.length k).map rB))]⟩) (fun k=>g.es.length - k) 0 (by omega) ?_ ?_
 ·refine Le.of ?_ ?_<;>simp [go_sem,simprocAttr,hz]
 rintro k hk
 have x4:=trueK_length (n:=g.es.length) (k:=k)
 rcases Nat.lt_or_ge k g.es.length with hlt|hge
 ·have hb:decide ((k:Int)<(g.es.length:Int))=true:=decide_eq_true (by omega)
  have bz:=qE (n:=g.es.length) (k:=k)
  generalize dV g.es.length k=L at x4 bz
  repeat' (first|refine Rn.p ?_|(with_reducible apply And.intro)|((first|(refine hK _ ?_;clear hK K)|with_reducible intro K hK|refine Rs.p ?_|((with_reducible first|apply oP|apply oQ);exact rfl));try simp only [go_sem,simprocAttr,hb,x4,cD])|((with_reducible refine oD ?_ ?_);kernel_rfl)|((with_reducible intro h);try simp only [go_sem,simprocAttr,hb,x4,cD] at h)|omega|intro h)
  refine ⟨k+1,by omega, ?_,by omega⟩
  rw [← bz]
  refine Le.of ?_ ?_<;>simp [go_sem,simprocAttr,hb,x4,cD]
 ·have hb:decide ((k:Int)<(g.es.length:Int))=false:=decide_eq_false (by omega)
  obtain rfl:k=g.es.length:=by omega
  repeat' (first|refine Rn.p ?_|(with_reducible apply And.intro)|((first|(refine hK _ ?_;clear hK K)|with_reducible intro K hK|refine Rs.p ?_|((with_reducible first|apply oP|apply oQ);exact rfl));try simp only [go_sem,simprocAttr,hb,x4])|((with_reducible refine oD ?_ ?_);kernel_rfl)|((with_reducible intro h);try simp only [go_sem,simprocAttr,hb,x4] at h)|omega|intro h)
def aN (n x:Nat):List Bool:=(List.replicate n false).set x true
theorem fH {n x:Nat} :(aN n x).length=n:=by simp [aN]
theorem jI {n:Nat} :List.replicate n [D.sc (.bool false)]=(List.replicate n false).map rB:=by simp [rB]
theorem qM (g:Gr) (hm:aT g=true) (x:Nat) (hx:x<g.n.toNat) (both:Bool) (cs:List Bool) (hcs:cs.length=g.es.length):
 Spec Try.prog 44 (Args [eG g,eN x,eB both, .d (sB cs)]) [] (.d (sB (jC g both (fun k=>cs.getD k false) (aN g.n.toNat x) g.n.toNat))) []:=by
 have hn:=cO hm
 have hst:(List.replicate g.n.toNat false).set x true=aN g.n.toNat x:=rfl
 have oh:=fH (n:=g.n.toNat) (x:=x)
 generalize hc:(fun k=>cs.getD k false)=c
 (refine Spec.hd (C:=T.cfg [15] []) (rs:= [.t 8]) (T.au _ _) Try.func44 rfl rfl Try.ntmps44 Try.results44 (by simp [AObj.isNest]) (by simp [AObj.isNest]) (by kernel_rfl) T.mixed fun X hX hP hC bf dB=> ?_)
 repeat' (first|refine Rn.p ?_|(with_reducible apply And.intro)|((first|(refine hK _ ?_;clear hK K)|with_reducible intro K hK|refine Rs.p ?_|((with_reducible first|apply oP|apply oQ);exact rfl));try simp only [go_sem,simprocAttr,jI,cD,hst,List.length_replicate])|((with_reducible refine oD ?_ ?_);kernel_rfl)|((with_reducible intro h);try simp only [go_sem,simprocAttr,jI,cD,hst,List.length_replicate] at h)|omega|intro h)
 refine ah (fun r:Nat=>r≤g.n.toNat) (fun r=>⟨[(2,eB both),(3, .d (sB cs)),(4, .ptr 4 0),(9, .ref 15),(10,eN r)], [(4, .box [eN g.n, .d (sE g.es)]),(15, .own 4 1 ((jC g both c (aN g.n.toNat x) r).map rB))]⟩) (fun r=>g.n.toNat - r) 0 (by omega) ?_ ?_
 ·refine Le.of ?_ ?_<;>simp [go_sem,simprocAttr,jC]
 rintro r hr
 have Gh:(jC g both c (aN g.n.toNat x) r).length=g.n.toNat:=by rw [cB];exact oh
 rcases Nat.lt_or_ge r g.n.toNat with hlt|hge
 rotate_left
 ·have hb:decide ((r:Int)<g.n)=false:=decide_eq_false (by omega)
  obtain rfl:r=g.n.toNat:=by omega
  repeat' (first|refine Rn.p ?_|(with_reducible apply And.intro)|((first|(refine hK _ ?_;clear hK K)|with_reducible intro K hK|refine Rs.p ?_|((with_reducible first|apply oP|apply oQ);exact rfl));try simp only [go_sem,simprocAttr,hb])|((with_reducible refine oD ?_ ?_);kernel_rfl)|((with_reducible intro h);try simp only [go_sem,simprocAttr,hb] at h)|omega|intro h)
 have hb:decide ((r:Int)<g.n)=true:=decide_eq_true (by omega)
 have Ch:jC g both c (aN g.n.toNat x) (r+1)=ia g both c (jC g both c (aN g.n.toNat x) r) g.es.length:=rfl
 generalize jC g both c (aN g.n.toNat x) r=a at Gh Ch ⊢
 repeat' (first|refine Rn.p ?_|(with_reducible apply And.intro)|((first|(refine hK _ ?_;clear hK K)|with_reducible intro K hK|refine Rs.p ?_|((with_reducible first|apply oP|apply oQ);exact rfl));try simp only [go_sem,simprocAttr,hb])|((with_reducible refine oD ?_ ?_);kernel_rfl)|((with_reducible intro h);try simp only [go_sem,simprocAttr,hb] at h)|omega|intro h)
 refine ah (fun k:Nat=>k≤g.es.length) (fun k=>⟨[(2,eB both),(3, .d (sB cs)),(4, .ptr 4 0),(9, .ref 15),(10,eN r),(11,eN k)], [(4, .box [eN g.n, .d (sE g.es)]),(15, .own 4 1 ((ia g both c a k).map rB))]⟩) (fun k=>g.es.length - k) 0 (by omega) ?_ ?_
 ·refine Le.of ?_ ?_<;>simp [go_sem,simprocAttr,ia]
 rintro k hk
 rcases Nat.lt_or_ge k g.es.length with Fc|Ia
 rotate_left
 ·have hbk:decide ((k:Int)<(g.es.length:Int))=false:=decide_eq_false (by omega)
  obtain rfl:k=g.es.length:=by omega
  repeat' (first|refine Rn.p ?_|(with_reducible apply And.intro)|((first|(refine hK _ ?_;clear hK K)|with_reducible intro K hK|refine Rs.p ?_|((with_reducible first|apply oP|apply oQ);exact rfl));try simp only [go_sem,simprocAttr,hbk])|((with_reducible refine oD ?_ ?_);kernel_rfl)|((with_reducible intro h);try simp only [go_sem,simprocAttr,hbk] at h)|omega|intro h)
  refine ⟨r+1,by omega, ?_,by omega⟩
  rw [Ch]
  refine Le.of ?_ ?_<;>simp [go_sem,simprocAttr,hbk]
 have hbk:decide ((k:Int)<(g.es.length:Int))=true:=decide_eq_true (by omega)
 obtain ⟨ht,hh⟩:=dU hm Fc
 obtain ⟨u,hu⟩:∃u:Nat,(g.es.getD k (0,0)).1=u:=⟨(g.es.getD k (0,0)).1.toNat,by omega⟩
 obtain ⟨v,hv⟩:∃v:Nat,(g.es.getD k (0,0)).2=v:=⟨(g.es.getD k (0,0)).2.toNat,by omega⟩
 rw [hu] at ht
 rw [hv] at hh
 have kg:(tl g k).toNat=u:=by show ((g.es.getD k (0,0)).1).toNat=u;rw [hu];rfl
 have tv:(hd g k).toNat=v:=by show ((g.es.getD k (0,0)).2).toNat=v;rw [hv];rfl
 have zV:c k=cs.getD k false:=by rw [← hc]
 have bz:ia g both c a (k+1)=if (cs.getD k false&&((ia g both c a k).getD u false||both&&(ia g both c a k).getD v false))=true then ((ia g both c a k).set v true).set u (((ia g both c a k).set v true).getD u false||both) else ia g both c a k:=by
  rw [← zV,ia,kg,tv]
 have Ci:(ia g both c a k).length=g.n.toNat:=by rw [ji,Gh]
 generalize ia g both c a k=b at bz Ci
 generalize hq1:b.getD u false=q1 at bz
 generalize zx:b.getD v false=q2 at bz
 generalize Fe:(b.set v true).getD u false=q3 at bz
 generalize qx:cs.getD k false=q0 at bz
 have By:(b.set v true).length=g.n.toNat:=by rw [List.length_set];exact Ci
 cases q0<;>cases q1<;>cases both<;>cases q2<;>cases q3<;>simp only [Bool.or_false,Bool.or_true,Bool.false_or,Bool.true_or,Bool.and_true,Bool.true_and,Bool.and_false,Bool.false_and,Bool.false_eq_true,if_true,if_false] at bz
 all_goals (repeat' (first|refine Rn.p ?_|(with_reducible apply And.intro)|((first|(refine hK _ ?_;clear hK K)|with_reducible intro K hK|refine Rs.p ?_|((with_reducible first|apply oP|apply oQ);exact rfl));try simp only [go_sem,simprocAttr,hbk,hu,hv,Ci,hcs,qx,hq1,zx,Fe,By,cD])|((with_reducible refine oD ?_ ?_);kernel_rfl)|((with_reducible intro h);try simp only [go_sem,simprocAttr,hbk,hu,hv,Ci,hcs,qx,hq1,zx,Fe,By,cD] at h)|omega|intro h))
 all_goals (refine ⟨k+1,by omega, ?_,by omega⟩)
 all_goals (rw [bz])
 all_goals (refine Le.of ?_ ?_<;>simp [go_sem,simprocAttr,hbk,hu,hv,Ci,hcs,qx,hq1,zx,Fe,By,cD])
theorem fW.congr {g:Gr} {both:Bool} {c c':Nat→Bool} (h:∀k,k<g.es.length→c k=c' k) {x y:Nat} (hr:fW g both c x y):fW g both c' x y:=by
 induction hr with
 |refl=>exact .refl
 | @fwd i a b _ ih=>exact .fwd a (by rw [← h i a];exact b) ih
 | @w9 i a b d _ ih=>exact .w9 a (by rw [← h i a];exact b) d ih
theorem jJ {n x y:Nat} (hx:x<n):(aN n x).getD y false=true↔y=x:=by
 unfold aN
 rw [gL (by simpa using hx)]
 by_cases h:y=x
 ·rw [if_pos h];simp [h]
 ·rw [if_neg h]
  simp only [h,iff_false,Bool.not_eq_true]
  rw [List.getD_eq_getElem?_getD,List.getElem?_replicate]
  split<;>rfl
theorem qN {n x:Nat} (hx:x<n):0<jj (aN n x):=by
 unfold jj
 rw [List.countP_pos_iff]
 refine ⟨true, ?_,rfl⟩
 unfold aN
 rw [List.mem_iff_getElem?]
 exact ⟨x,by rw [List.getElem?_set_self (by simpa using hx)]⟩
def Ib (m i:Nat):List Bool:=(dV m m).set i false
end Go.Ab
end
section
namespace Go.Ab
open Go.Proofs
attribute [local congr] ACall.congr gd.congr Nx.congr
set_option maxRecDepth 20000
set_option maxHeartbeats 8000000
def cW (g:Gr) (wb:List Bool) (i:Nat):Bool:= !wb.getD (tl g i).toNat false&& !wb.getD (hd g i).toNat false
def vN (g:Gr) (wb:List Bool):List Bool:=(List.range g.es.length).map (cW g wb)
def vO (g:Gr) (wb:List Bool) (k:Nat):List Bool:=(List.range g.es.length).map fun i=>if i<k then cW g wb i else true
theorem jk {g:Gr} {wb:List Bool} {k:Nat} :(vO g wb k).length=g.es.length:=by simp [vO]
theorem vP {g:Gr} {wb:List Bool} :dV g.es.length g.es.length=vO g wb 0:=by
 refine List.ext_getElem? fun i=> ?_
 by_cases hi:i<g.es.length
 ·simp only [dV,vO,List.getElem?_map,List.getElem?_range hi,Option.map_some,decide_eq_true hi,Nat.not_lt_zero,if_false]
 ·rw [List.getElem?_eq_none (by rw [trueK_length];omega),List.getElem?_eq_none (by rw [jk];omega)]
theorem vQ {g:Gr} {wb:List Bool} {k:Nat} (hk:k<g.es.length):(vO g wb k).set k (cW g wb k)=vO g wb (k+1):=by
 refine List.ext_getElem? fun i=> ?_
 rw [List.getElem?_set,jk]
 by_cases hi:i<g.es.length
 ·simp only [vO,List.getElem?_map,List.getElem?_range hi,Option.map_some]
  by_cases e:k=i
  ·subst e;simp [hi]
  ·rw [if_neg e]
   by_cases h2:i<k
   ·rw [if_pos h2,if_pos (by omega)]
   ·rw [if_neg h2,if_neg (by omega)]
 ·rw [List.getElem?_eq_none (by rw [jk];omega),List.getElem?_eq_none (by rw [jk];omega)]
  split
  ·omega
  ·rfl
theorem x5 {g:Gr} {wb:List Bool} :vO g wb g.es.length=vN g wb:=by
 unfold vO vN
 refine List.map_congr_left fun i hi=> ?_
 rw [if_pos (List.mem_range.1 hi)]
theorem vR {g:Gr} {wb:List Bool} {i:Nat} (hi:i<g.es.length):(vN g wb).getD i false=cW g wb i:=by
 simp [vN,List.getD_eq_getElem?_getD,List.getElem?_range hi]
def tW (seen:List Bool) (w:Bool) (n:Nat):Nat→Int
 |0=> -1
 |k+1=>if (seen.getD (n - 1 - k) false&& !w)=true then ((n - 1 - k:Nat):Int) else tW seen w n k
theorem pM {seen:List Bool} {w:Bool} {n:Nat} :∀ {k:Nat},k≤n→(tW seen w n k= -1∧(w=true∨∀y,n - k≤y→y<n→seen.getD y false=false))∨(w=false∧∃v:Nat,tW seen w n k=(v:Int)∧n - k≤v∧v<n∧seen.getD v false=true∧∀y,n - k≤y→y<v→seen.getD y false=false)
 |0,_=> .inl ⟨rfl, .inr fun y h1 h2=>by omega⟩
 |k+1,hk=>by
  have ih:=pM (seen:=seen) (w:=w) (n:=n) (k:=k) (by omega)
  rw [tW]
  cases w with
  |true=>
   rw [if_neg (by simp)]
   rcases ih with ⟨h1,_⟩|⟨h1,_⟩
   ·exact .inl ⟨h1, .inl rfl⟩
   ·cases h1
  |false=>
   have e0:(seen.getD (n - 1 - k) false&& !false)=seen.getD (n - 1 - k) false:=by simp
   rw [e0]
   by_cases hs:seen.getD (n - 1 - k) false=true
   ·rw [if_pos hs]
    exact .inr ⟨rfl,n - 1 - k,rfl,by omega,by omega,hs,fun y h1 h2=>by omega⟩
   ·rw [if_neg hs]
    have hs':seen.getD (n - 1 - k) false=false:=by simpa using hs
    rcases ih with ⟨h1,h2⟩|⟨_,v,h1,h2,h3,h4,h5⟩
    ·refine .inl ⟨h1, .inr fun y h3 h4=> ?_⟩
     by_cases e:y=n - 1 - k
     ·rw [e];exact hs'
     ·rcases h2 with h2|h2
      ·cases h2
      ·exact h2 y (by omega) h4
    ·refine .inr ⟨rfl,v,h1,by omega,h3,h4,fun y h6 h7=> ?_⟩
     by_cases e:y=n - 1 - k
     ·rw [e];exact hs'
     ·exact h5 y (by omega) h7
def jZ (g:Gr) (wb:List Bool) (x:Nat):List Bool:=jC g true (fun k=>(vN g wb).getD k false) (aN g.n.toNat x) g.n.toNat
def e9 (g:Gr) (wb:List Bool) (x:Nat):Int:=tW (jZ g wb x) (wb.getD x false) g.n.toNat g.n.toNat
def jl (g:Gr) (wb:List Bool):List Int:=(List.range g.n.toNat).map (e9 g wb)
theorem jK {g:Gr} (hm:aT g=true) {wb:List Bool} {x:Nat} (hx:x<g.n.toNat) (y:Nat):(jZ g wb x).getD y false=true↔fW g true (cW g wb) x y:=by
 have h1:=vM hm (both:=true) (c:=fun k=>(vN g wb).getD k false) (a:=aN g.n.toNat x) fH (x:=x) ((jJ hx).2 rfl) (fun y hy=>by rw [(jJ hx).1 hy];exact .refl) (qN hx) y
 unfold jZ
 rw [h1]
 exact ⟨fun h=>fW.congr (fun k hk=>vR hk) h,fun h=>fW.congr (fun k hk=>(vR hk).symm) h⟩
theorem sn {g:Gr} {c:Nat→Bool} {x y:Nat} (h:fW g true c x y):fW g true c y x:=by
 induction h with
 |refl=>exact .refl
 |fwd hi hc _ ih=>exact (fW.w9 hi hc rfl .refl).trans ih
 |w9 hi hc _ _ ih=>exact (fW.fwd hi hc .refl).trans ih
theorem x6 {g:Gr} (hm:aT g=true) {wb:List Bool} {a b:Nat} (ha:a<g.n.toNat) (hb:b<g.n.toNat) (wa:wb.getD a false=false) (Ic:wb.getD b false=false):e9 g wb a=e9 g wb b↔fW g true (cW g wb) a b:=by
 have key:∀x,x<g.n.toNat→wb.getD x false=false→∃v:Nat,e9 g wb x=(v:Int)∧fW g true (cW g wb) x v∧∀y,fW g true (cW g wb) x y→v≤y:=by
  intro x hx hw
  have h:=pM (seen:=jZ g wb x) (w:=wb.getD x false) (n:=g.n.toNat) (k:=g.n.toNat) (Nat.le_refl _)
  rw [hw] at h
  rcases h with ⟨_,h2⟩|⟨_,v,h1,_,h3,h4,h5⟩
  ·rcases h2 with h2|h2
   ·cases h2
   ·have:=h2 x (by omega) hx
    rw [(jK hm hx x).2 .refl] at this
    cases this
  ·refine ⟨v,by unfold e9;rw [hw];exact h1,(jK hm hx v).1 h4,fun y hy=> ?_⟩
   refine Decidable.byContradiction fun hlt=> ?_
   have:=h5 y (by omega) (by omega)
   rw [(jK hm hx y).2 hy] at this
   cases this
 obtain ⟨u,u1,u2,u3⟩:=key a ha wa
 obtain ⟨v,v1,v2,v3⟩:=key b hb Ic
 rw [u1,v1]
 constructor
 ·intro e
  have:u=v:=by omega
  subst this
  exact u2.trans (sn v2)
 ·intro h
  have h1:=u3 v (h.trans v2)
  have h2:=v3 u ((sn h).trans u2)
  have:u=v:=by omega
  rw [this]
theorem pN {g:Gr} {wb:List Bool} {x:Nat} (hx:x<g.n.toNat):(jl g wb).getD x 0=e9 g wb x:=by
 simp [jl,List.getD_eq_getElem?_getD,List.getElem?_range hx]
def jm (g:Gr) (wb:List Bool) (k:Nat):List Int:=(List.range k).map (e9 g wb)
theorem qO {g:Gr} {wb:List Bool} {k:Nat} :jm g wb (k+1)=jm g wb k++ [e9 g wb k]:=by simp [jm,List.range_succ]
theorem tw {g:Gr} {wb:List Bool} {k:Nat} :(jm g wb k).length=k:=by simp [jm]
theorem tA (g:Gr) (hm:aT g=true) (wb:List Bool) (hw:wb.length=g.n.toNat):Spec Try.prog 17 (Args [eG g, .d (sB wb)]) [] (.d (sI (jl g wb))) []:=by
 have hn:=cO hm
 have hE:=qL g (by omega)
 (refine Spec.hd (C:=T.cfg [16] []) (rs:= [.t 4]) (T.au _ _) Try.func17 rfl rfl Try.ntmps17 Try.results17 (by simp [AObj.isNest]) (by simp [AObj.isNest]) (by kernel_rfl) T.mixed fun X hX hP hC bf dB=> ?_)
 repeat' (first|(show bB _ (.seq (.region 6 _ _) _) _ _;(refine nu hX 16 rfl (.inl rfl) ?_;simp only [go_sem,simprocAttr]))|refine Rn.p ?_|(with_reducible apply And.intro)|((first|(refine hK _ ?_;clear hK K)|with_reducible intro K hK|refine Rs.p ?_|((with_reducible first|apply oP|apply oQ);exact rfl)|(refine aZ hX hC hP [(10000,16)] (hE) rfl rfl rfl ?_ ?_ ?_ ?_ ?_ ?_ ?_ ?_ ?_ ?_ ?_ ?_ ?_ ?_;(focus (simp only [go_sem,simprocAttr];done));(iterate 12 (focus (simp [go_sem,simprocAttr];done)));try simp only [List.map_cons,List.map_nil]));try simp only [go_sem,simprocAttr])|((with_reducible refine oD ?_ ?_);kernel_rfl)|((with_reducible intro h);try simp only [go_sem,simprocAttr] at h)|omega|intro h)
 refine ah (fun k:Nat=>k≤g.es.length) (fun k=>⟨[(1, .d (sB wb)),(2, .ptr 2 0),(5, .ref 16),(6,eN k)], [(16, .own 4 1 ((vO g wb k).map rB)),(2, .box [eN g.n, .d (sE g.es)])]⟩) (fun k=>g.es.length - k) 0 (Nat.zero_le _) ?_ ?_
 ·rw [← vP]
  refine Le.of ?_ ?_<;>simp [go_sem,simprocAttr]
 rintro k hk
 rcases Nat.lt_or_ge k g.es.length with hlt|hge
 ·have hb:decide ((k:Int)<(g.es.length:Int))=true:=decide_eq_true (by omega)
  obtain ⟨mX,qd⟩:=dU hm hlt
  obtain ⟨u,hu⟩:∃u:Nat,(g.es.getD k (0,0)).1=u:=⟨(g.es.getD k (0,0)).1.toNat,by omega⟩
  obtain ⟨v,hv⟩:∃v:Nat,(g.es.getD k (0,0)).2=v:=⟨(g.es.getD k (0,0)).2.toNat,by omega⟩
  have kg:(tl g k).toNat=u:=by show ((g.es.getD k (0,0)).1).toNat=u;rw [hu];rfl
  have tv:(hd g k).toNat=v:=by show ((g.es.getD k (0,0)).2).toNat=v;rw [hv];rfl
  have bz:=vQ (g:=g) (wb:=wb) hlt
  have fV:=jk (g:=g) (wb:=wb) (k:=k)
  have Ff:cW g wb k=(!wb.getD u false&& !wb.getD v false):=by unfold cW;rw [kg,tv]
  rw [Ff] at bz
  generalize qx:wb.getD u false=q0 at bz Ff
  generalize hq1:wb.getD v false=q1 at bz Ff
  generalize vO g wb k=C0 at bz fV ⊢
  cases q0<;>cases q1
  all_goals (repeat' (first|refine Rn.p ?_|(with_reducible apply And.intro)|((first|(refine hK _ ?_;clear hK K)|with_reducible intro K hK|refine Rs.p ?_|((with_reducible first|apply oP|apply oQ);exact rfl));try simp only [go_sem,simprocAttr,hb,hu,hv,qx,hq1,fV,hw,cD])|((with_reducible refine oD ?_ ?_);kernel_rfl)|((with_reducible intro h);try simp only [go_sem,simprocAttr,hb,hu,hv,qx,hq1,fV,hw,cD] at h)|omega|intro h))
  all_goals (refine ⟨k+1,by omega, ?_,by omega⟩)
  all_goals (rw [← bz])
  all_goals (refine Le.of ?_ ?_<;>simp [go_sem,simprocAttr,hb,hu,hv,qx,hq1,fV,hw,cD])
 have hb:decide ((k:Int)<(g.es.length:Int))=false:=decide_eq_false (by omega)
 obtain rfl:k=g.es.length:=by omega
 rw [x5]
 (refine nu hX 16 rfl (.inl rfl) ?_;simp only [go_sem,simprocAttr,hb])
 repeat' (first|refine Rn.p ?_|(with_reducible apply And.intro)|((first|(refine hK _ ?_;clear hK K)|with_reducible intro K hK|refine Rs.p ?_|((with_reducible first|apply oP|apply oQ);exact rfl));try simp only [go_sem,simprocAttr,hb])|((with_reducible refine oD ?_ ?_);kernel_rfl)|((with_reducible intro h);try simp only [go_sem,simprocAttr,hb] at h)|omega|intro h)
 refine ah (fun k:Nat=>k≤g.n.toNat) (fun k=>⟨[(1, .d (sB wb)),(2, .ptr 2 0),(5, .d (sB (vN g wb))),(7, .ref 46),(8,eN k)], [(46, .tip 3 1 ((jm g wb k).map rI)),(2, .box [eN g.n, .d (sE g.es)])]⟩) (fun k=>g.n.toNat - k) 0 (Nat.zero_le _) ?_ ?_
 ·refine Le.of ?_ ?_<;>simp [go_sem,simprocAttr,hb,jm]
 clear hb
 rintro x hx
 rcases Nat.lt_or_ge x g.n.toNat with hlt|Fg
 rotate_left
 ·have hb:decide ((x:Int)<g.n)=false:=decide_eq_false (by omega)
  obtain rfl:x=g.n.toNat:=by omega
  have iK:jm g wb g.n.toNat=jl g wb:=rfl
  repeat' (first|refine Rn.p ?_|(with_reducible apply And.intro)|((first|(refine hK _ ?_;clear hK K)|with_reducible intro K hK|refine Rs.p ?_|((with_reducible first|apply oP|apply oQ);exact rfl));try simp only [go_sem,simprocAttr,hb,iK])|((with_reducible refine oD ?_ ?_);kernel_rfl)|((with_reducible intro h);try simp only [go_sem,simprocAttr,hb,iK] at h)|omega|intro h)
 have hb:decide ((x:Int)<g.n)=true:=decide_eq_true (by omega)
 have Db:=qM g hm x hlt true (vN g wb) (by simp [vN])
 have CT:jC g true (fun k=>(vN g wb).getD k false) (aN g.n.toNat x) g.n.toNat=jZ g wb x:=rfl
 rw [CT] at Db
 have oh:(jZ g wb x).length=g.n.toNat:=by rw [← CT,cB];exact fH
 have hpv:e9 g wb x=tW (jZ g wb x) (wb.getD x false) g.n.toNat g.n.toNat:=rfl
 have Dc:=qO (g:=g) (wb:=wb) (k:=x)
 have hpk:=tw (g:=g) (wb:=wb) (k:=x)
 rw [hpv] at Dc
 generalize jZ g wb x=sw at Db oh Dc
 generalize Fh:wb.getD x false=q at Dc
 have hj0:g.n - 1=((g.n.toNat:Int) - 1 - ((0:Nat):Int)):=by omega
 repeat' (first|refine Rn.p ?_|(with_reducible apply And.intro)|((first|(refine hK _ ?_;clear hK K)|with_reducible intro K hK|refine Rs.p ?_|((with_reducible first|apply oP|apply oQ);exact rfl)|refine aa hX hC hP (Db) rfl rfl rfl (by simp only [go_sem,simprocAttr,hb]) rfl ?_);try simp only [go_sem,simprocAttr,hb])|((with_reducible refine oD ?_ ?_);kernel_rfl)|((with_reducible intro h);try simp only [go_sem,simprocAttr,hb] at h)|omega|intro h)
 refine ah (fun j:Nat=>j≤g.n.toNat) (fun j=>⟨[(1, .d (sB wb)),(2, .ptr 2 0),(5, .d (sB (vN g wb))),(7, .ref 46),(8,eN x),(9,eN (tW sw q g.n.toNat j)),(10, .d (sB sw)),(11,eN ((g.n.toNat:Int) - 1 - (j:Int)))], [(46, .tip 3 1 ((jm g wb x).map rI)),(2, .box [eN g.n, .d (sE g.es)])]⟩) (fun j=>g.n.toNat - j) 0 (Nat.zero_le _) ?_ ?_
 ·refine Le.of ?_ ?_<;>simp [go_sem,simprocAttr,hb,tW]
  all_goals omega
 rintro j hj
 rcases Nat.lt_or_ge j g.n.toNat with hjl|Jb
 rotate_left
 ·have lG:decide (0≤(g.n.toNat:Int) - 1 - (j:Int))=false:=decide_eq_false (by omega)
  obtain rfl:j=g.n.toNat:=by omega
  repeat' (first|(show bB _ (.region 9 _ _) _ _;(refine gu hX 7 79 46 (by simp only [go_sem,simprocAttr,lG,hpk]) rfl (by first|exact .inl rfl|exact .inr rfl) (by decide) ?_;simp only [go_sem,simprocAttr,lG,hpk]))|refine Rn.p ?_|(with_reducible apply And.intro)|((first|(refine hK _ ?_;clear hK K)|with_reducible intro K hK|refine Rs.p ?_|((with_reducible first|apply oP|apply oQ);exact rfl)|refine aa hX hC hP (Db) rfl rfl rfl (by simp only [go_sem,simprocAttr,lG,hpk]) rfl ?_);try simp only [go_sem,simprocAttr,lG,hpk])|((with_reducible refine oD ?_ ?_);kernel_rfl)|((with_reducible intro h);try simp only [go_sem,simprocAttr,lG,hpk] at h)|omega|intro h)
  refine ⟨x+1,by omega, ?_,by omega⟩
  rw [Dc]
  refine Le.of ?_ ?_<;>simp [go_sem,simprocAttr,lG,hpk,rI]
 obtain ⟨y,hy⟩:∃y:Nat,(g.n.toNat:Int) - 1 - (j:Int)=y:=⟨g.n.toNat - 1 - j,by omega⟩
 have Jc:y<g.n.toNat:=by omega
 have Ie:g.n.toNat - 1 - j=y:=by omega
 have lG:decide (0≤(g.n.toNat:Int) - 1 - (j:Int))=true:=decide_eq_true (by omega)
 have bz:tW sw q g.n.toNat (j+1)=if (sw.getD y false&& !q)=true then ((y:Nat):Int) else tW sw q g.n.toNat j:=by rw [tW,Ie]
 rw [hy] at lG ⊢
 have Fi:(y:Int) - 1=(g.n.toNat:Int) - 1 - ((j+1:Nat):Int):=by omega
 generalize tW sw q g.n.toNat j=L0 at bz
 generalize Fj:sw.getD y false=q2 at bz
 cases q2<;>cases q
 all_goals (repeat' (first|refine Rn.p ?_|(with_reducible apply And.intro)|((first|(refine hK _ ?_;clear hK K)|with_reducible intro K hK|refine Rs.p ?_|((with_reducible first|apply oP|apply oQ);exact rfl));try simp only [go_sem,simprocAttr,lG,Fj,Fh,oh,hw,Fi])|((with_reducible refine oD ?_ ?_);kernel_rfl)|((with_reducible intro h);try simp only [go_sem,simprocAttr,lG,Fj,Fh,oh,hw,Fi] at h)|omega|intro h))
 all_goals (refine ⟨j+1,by omega, ?_,by omega⟩)
 all_goals (rw [bz])
 all_goals (refine Le.of ?_ ?_<;>simp [go_sem,simprocAttr,lG,Fj,Fh,oh,hw,Fi])
end Go.Ab
end
section
namespace Go.Ab
open Go.Proofs
attribute [local congr] ACall.congr gd.congr Nx.congr
set_option maxRecDepth 20000
set_option maxHeartbeats 16000000
namespace UG
variable {G:UG}
noncomputable def vS (G:UG):List Nat:=(List.range G.m).map fun i=>(G.bC i).headD 0
theorem nJ {i:Nat} (hi:i<G.m):G.vS.getD i 0=(G.bC i).headD 0:=by
 simp [vS,List.getD_eq_getElem?_getD,List.getElem?_range hi]
theorem jo:G.vS.length=G.m:=by simp [vS]
theorem pO {i:Nat} (hi:i<G.m):(G.bC i).headD 0∈G.bC i∧∀k∈G.bC i,(G.bC i).headD 0≤k:=by
 have h1:i∈G.bC i:=aX.2 ⟨hi, .refl⟩
 have h2:=eY (G:=G) (i:=i)
 cases hc:G.bC i with
 |nil=>rw [hc] at h1;simp at h1
 |cons a r=>
  rw [hc] at h2
  refine ⟨by simp,fun k hk=> ?_⟩
  rcases List.mem_cons.1 hk with rfl|hk
  ·exact Nat.le_refl _
  ·exact Nat.le_of_lt ((List.pairwise_cons.1 h2).1 k hk)
theorem zW:G.yL G.vS:=by
 refine ⟨⟨jo,fun i hi=> ?_⟩,fun i k hi hS=> ?_⟩
 ·rw [nJ hi]
  have h:=pO hi
  exact ⟨h.2 i (aX.2 ⟨hi, .refl⟩),(aX.1 h.1).2⟩
 ·have hk:=hS.lt hi
  rw [nJ hi,nJ hk]
  have:G.bC i=G.bC k:=jd eY eY fun j=>by
   rw [aX,aX]
   exact ⟨fun h=>⟨h.1,hS.symm.trans h.2⟩,fun h=>⟨h.1,hS.trans h.2⟩⟩
  rw [this]
theorem vU {a:List Nat} (h:G.yL a):a=G.vS:=by
 refine List.ext_getElem? fun i=> ?_
 by_cases hi:i<G.m
 ·have h1:a.getD i 0=G.vS.getD i 0:=by
   rw [nJ hi]
   have h2:=pO hi
   have h3:=h.nV i hi
   have h4:=(aX.1 h2.1)
   have h5:=h.eq i _ hi h4.2
   have h6:=(h.nV _ h4.1).1
   have h7:=h2.2 _ (aX.2 ⟨h3.2.lt hi,h3.2⟩)
   omega
  rw [List.getD_eq_getElem?_getD,List.getD_eq_getElem?_getD,List.getElem?_eq_getElem (by rw [h.len];exact hi),List.getElem?_eq_getElem (by rw [jo];exact hi)] at h1
  rw [List.getElem?_eq_getElem (by rw [h.len];exact hi),List.getElem?_eq_getElem (by rw [jo];exact hi)]
  simpa using h1
 ·rw [List.getElem?_eq_none (by rw [h.len];omega),List.getElem?_eq_none (by rw [jo];omega)]
end UG
theorem Cj {g:Gr} {wb:List Bool} {a b:Nat} (ha:wb.getD a false=false):fW g true (cW g wb) a b↔(ug g).Cn (fun v=>wb.getD v false=false) a b:=by
 constructor
 ·intro h
  induction h with
  |refl=>exact .refl ha
  | @fwd i hi hc _ ih=>
    unfold cW at hc
    simp only [Bool.and_eq_true,Bool.not_eq_true'] at hc
    exact .step ih (UG.J.self (G:=ug g) hi) hc.2
  | @w9 i hi hc _ _ ih=>
    unfold cW at hc
    simp only [Bool.and_eq_true,Bool.not_eq_true'] at hc
    exact .step ih (UG.J.self (G:=ug g) hi).symm hc.1
 ·intro h
  induction h with
  |refl _=>exact .refl
  | @step y z i h j hz ih=>
    have hy:=h.AG
    obtain ⟨hi,j⟩:=j
    have hi:i<g.es.length:=hi
    simp only [ug] at j
    rcases j with ⟨h1,h2⟩|⟨h1,h2⟩
    ·have hc:cW g wb i=true:=by unfold cW;rw [h1,h2,hy,hz];rfl
     have:=fW.fwd hi hc (by rw [h1];exact ih)
     rw [h2] at this
     exact this
    ·have hc:cW g wb i=true:=by unfold cW;rw [h1,h2,hy,hz];rfl
     have:=fW.w9 hi hc rfl (by rw [h2];exact ih)
     rw [h1] at this
     exact this
theorem nK {n x v:Nat} (hx:x<n):(aN n x).getD v false=false↔v≠x:=by
 have:=jJ (y:=v) hx
 cases h:(aN n x).getD v false with
 |false=>rw [h] at this;simp at this;simp;exact this
 |true=>rw [h] at this;simp at this;simp [this]
theorem x7 {g:Gr} (hm:aT g=true) (hl:aR g=true) {x i k a b:Nat} (hx:x<g.n.toNat) (h1:(ug g).J i x a) (h2:(ug g).J k x b):(ug g).xV x i k=decide (e9 g (aN g.n.toNat x) a=e9 g (aN g.n.toNat x) b):=by
 have hG:=mG hm hl
 have e1:=h1.lt hG
 have e2:=h2.lt hG
 have wa:=(nK (v:=a) hx).2 (Ne.symm e1.2.2)
 have wb:=(nK (v:=b) hx).2 (Ne.symm e2.2.2)
 rw [Bool.eq_iff_iff,decide_eq_true_eq,UG.nF,x6 hm e1.2.1 e2.2.1 wa wb,Cj wa]
 constructor
 ·rintro ⟨a',b',j1,j2,h⟩
  rw [h1.snd j1,h2.snd j2] at h
  exact h.mono fun v hv=>(nK hx).2 hv
 ·intro h
  exact ⟨a,b,h1,h2,h.mono fun v hv=>(nK hx).1 hv⟩
theorem vV {a b:Nat} :min (a:Int) (b:Int)=((min a b:Nat):Int):=by omega
def tX (m k:Nat):List Nat:=(List.range m).map fun i=>if i<k then i else 0
theorem kA {m k:Nat} :(tX m k).length=m:=by simp [tX]
theorem vW {m:Nat} :List.replicate m [D.sc (.int .i64 0)]=(tX m 0).map rN:=by
 refine List.ext_getElem? fun i=> ?_
 by_cases hi:i<m
 ·simp [tX,hi,rN,List.getElem?_range hi]
 ·rw [List.getElem?_eq_none (by simp;omega),List.getElem?_eq_none (by simp [tX];omega)]
theorem vX {m k:Nat} (hk:k<m):(tX m k).set k k=tX m (k+1):=by
 refine List.ext_getElem? fun i=> ?_
 rw [List.getElem?_set,kA]
 by_cases hi:i<m
 ·simp only [tX,List.getElem?_map,List.getElem?_range hi,Option.map_some]
  by_cases e:k=i
  ·subst e;simp [hi]
  ·rw [if_neg e]
   by_cases h2:i<k
   ·rw [if_pos h2,if_pos (by omega)]
   ·rw [if_neg h2,if_neg (by omega)]
 ·rw [List.getElem?_eq_none (by rw [kA];omega),List.getElem?_eq_none (by rw [kA];omega)]
  split
  ·omega
  ·rfl
theorem x8 {m:Nat} :tX m m=List.range m:=by
 unfold tX
 have:(List.range m).map (fun i=>if i<m then i else 0)=(List.range m).map id:=List.map_congr_left fun i hi=>if_pos (List.mem_range.1 hi)
 rw [this,List.map_id]
theorem pP (g:Gr) (hm:aT g=true) (hl:aR g=true):Spec Try.prog 51 (Args [eG g]) [] (.d (sN (ug g).vS)) []:=by
 have hn:=cO hm
 have hG:=mG hm hl
 (refine Spec.hd (C:=T.cfg [19,38] []) (rs:= [.t 2]) (T.au _ _) Try.func51 rfl rfl Try.ntmps51 Try.results51 (by simp [AObj.isNest]) (by simp [AObj.isNest]) (by kernel_rfl) T.mixed fun X hX hP hC bf dB=> ?_)
 repeat' (first|refine Rn.p ?_|(with_reducible apply And.intro)|((first|(refine hK _ ?_;clear hK K)|with_reducible intro K hK|refine Rs.p ?_|((with_reducible first|apply oP|apply oQ);exact rfl));try simp only [go_sem,simprocAttr])|((with_reducible refine oD ?_ ?_);kernel_rfl)|((with_reducible intro h);try simp only [go_sem,simprocAttr] at h)|omega|intro h)
 refine ah (fun k:Nat=>k≤g.es.length) (fun k=>⟨[(1, .ptr 1 0),(3,eN g.es.length),(4, .ref 19),(5,eN k)], [(19, .own 3 1 ((tX g.es.length k).map rN)),(1, .box [eN g.n, .d (sE g.es)])]⟩) (fun k=>g.es.length - k) 0 (Nat.zero_le _) ?_ ?_
 ·rw [← vW]
  refine Le.of ?_ ?_<;>simp [go_sem,simprocAttr]
 rintro k hk
 rcases Nat.lt_or_ge k g.es.length with hlt|hge
 ·have hb:decide ((k:Int)<(g.es.length:Int))=true:=decide_eq_true (by omega)
  have bz:=vX hlt
  have bp:=kA (m:=g.es.length) (k:=k)
  generalize tX g.es.length k=C0 at bz bp ⊢
  repeat' (first|refine Rn.p ?_|(with_reducible apply And.intro)|((first|(refine hK _ ?_;clear hK K)|with_reducible intro K hK|refine Rs.p ?_|((with_reducible first|apply oP|apply oQ);exact rfl));try simp only [go_sem,simprocAttr,hb,bp,aD])|((with_reducible refine oD ?_ ?_);kernel_rfl)|((with_reducible intro h);try simp only [go_sem,simprocAttr,hb,bp,aD] at h)|omega|intro h)
  refine ⟨k+1,by omega, ?_,by omega⟩
  rw [← bz]
  refine Le.of ?_ ?_<;>simp [go_sem,simprocAttr,hb,bp,aD]
 have hb:decide ((k:Int)<(g.es.length:Int))=false:=decide_eq_false (by omega)
 obtain rfl:k=g.es.length:=by omega
 rw [x8]
 repeat' (first|refine Rn.p ?_|(with_reducible apply And.intro)|((first|(refine hK _ ?_;clear hK K)|with_reducible intro K hK|refine Rs.p ?_|((with_reducible first|apply oP|apply oQ);exact rfl));try simp only [go_sem,simprocAttr,hb])|((with_reducible refine oD ?_ ?_);kernel_rfl)|((with_reducible intro h);try simp only [go_sem,simprocAttr,hb] at h)|omega|intro h)
 clear hb
 refine ah (fun s:List Nat × Bool=>(ug g).Lb s.1∧(s.2=false→(ug g).yL s.1)) (fun s=>⟨[(1, .ptr 1 0),(3,eN g.es.length),(4, .ref 19),(6,eB s.2)], [(19, .own 3 1 (s.1.map rN)),(1, .box [eN g.n, .d (sE g.es)])]⟩) (fun s=>2*s.1.sum+(if s.2=true then 1 else 0)) (List.range g.es.length,true) ⟨UG.vE,by simp⟩ ?_ ?_
 ·refine Le.of ?_ ?_<;>simp [go_sem,simprocAttr]
 rintro ⟨a,more⟩ ⟨Dd,j4⟩
 simp only at Dd j4 ⊢
 cases more with
 |false=>
  have:=UG.vU (j4 rfl)
  rw [this]
  repeat' (first|refine Rn.p ?_|(with_reducible apply And.intro)|((first|(refine hK _ ?_;clear hK K)|with_reducible intro K hK|refine Rs.p ?_|((with_reducible first|apply oP|apply oQ);exact rfl));try simp only [go_sem,simprocAttr])|((with_reducible refine oD ?_ ?_);kernel_rfl)|((with_reducible intro h);try simp only [go_sem,simprocAttr] at h)|omega|intro h)
 |true=>
 repeat' (first|refine Rn.p ?_|(with_reducible apply And.intro)|((first|(refine hK _ ?_;clear hK K)|with_reducible intro K hK|refine Rs.p ?_|((with_reducible first|apply oP|apply oQ);exact rfl));try simp only [go_sem,simprocAttr])|((with_reducible refine oD ?_ ?_);kernel_rfl)|((with_reducible intro h);try simp only [go_sem,simprocAttr] at h)|omega|intro h)
 refine ah (fun x:Nat=>x≤g.n.toNat) (fun x=>⟨[(1, .ptr 1 0),(3,eN g.es.length),(4, .ref 19),(6,eB ((ug g).gV (a,false) x).2),(7,eN x)], [(19, .own 3 1 (((ug g).gV (a,false) x).1.map rN)),(1, .box [eN g.n, .d (sE g.es)])]⟩) (fun x=>g.n.toNat - x) 0 (Nat.zero_le _) ?_ ?_
 ·refine Le.of ?_ ?_<;>simp [go_sem,simprocAttr,UG.gV]
 rintro x hx
 rcases Nat.lt_or_ge x g.n.toNat with Fk|Ig
 rotate_left
 ·have hb:decide ((x:Int)<g.n)=false:=decide_eq_false (by omega)
  obtain rfl:x=g.n.toNat:=by omega
  have hdn:=UG.fF (G:=ug g) (s:=(a,false)) Dd (k:=g.n.toNat)
  have Gi:((ug g).gV (a,false) g.n.toNat).2=false→(ug g).yL a:=fun h=>UG.xW hG (s:=(a,false)) Dd h
  generalize (ug g).gV (a,false) g.n.toNat=R at hdn Gi
  obtain ⟨a',Ck⟩:=R
  repeat' (first|refine Rn.p ?_|(with_reducible apply And.intro)|((first|(refine hK _ ?_;clear hK K)|with_reducible intro K hK|refine Rs.p ?_|((with_reducible first|apply oP|apply oQ);exact rfl));try simp only [go_sem,simprocAttr,hb])|((with_reducible refine oD ?_ ?_);kernel_rfl)|((with_reducible intro h);try simp only [go_sem,simprocAttr,hb] at h)|omega|intro h)
  refine ⟨(a',Ck),⟨hdn.1,fun h=> ?_⟩, ?_, ?_⟩
  ·have:=hdn.2.same h
   simp only [Prod.mk.injEq] at this
   simp only
   rw [this.1]
   exact Gi h
  ·refine Le.of ?_ ?_<;>simp [go_sem,simprocAttr,hb]
  ·rcases hdn.2 with h|⟨h1,h2⟩
   ·simp only [Prod.mk.injEq] at h
    simp [h.1,h.2]
   ·simp only at h1 h2
    simp [h1];omega
 have hb:decide ((x:Int)<g.n)=true:=decide_eq_true (by omega)
 have Gj:=tA g hm (aN g.n.toNat x) fH
 have iK:(jl g (aN g.n.toNat x)).length=g.n.toNat:=by simp [jl]
 have hst:(List.replicate g.n.toNat false).set x true=aN g.n.toNat x:=rfl
 have og:=(UG.fF (G:=ug g) (s:=(a,false)) Dd (k:=x)).1
 have Cl:(ug g).gV (a,false) (x+1)=(ug g).je x ((ug g).gV (a,false) x) g.es.length:=rfl
 generalize (ug g).gV (a,false) x=s1 at og Cl ⊢
 repeat' (first|(show bB _ (.seq (.region 15 _ _) _) _ _;(refine nu hX 38 rfl (.inl rfl) ?_;simp only [go_sem,simprocAttr,hb,jI,cD,hst,List.length_replicate]))|refine Rn.p ?_|(with_reducible apply And.intro)|((first|(refine hK _ ?_;clear hK K)|with_reducible intro K hK|refine Rs.p ?_|((with_reducible first|apply oP|apply oQ);exact rfl)|refine aa hX hC hP (Gj) rfl rfl rfl (by simp only [go_sem,simprocAttr,hb,jI,cD,hst,List.length_replicate]) rfl ?_);try simp only [go_sem,simprocAttr,hb,jI,cD,hst,List.length_replicate])|((with_reducible refine oD ?_ ?_);kernel_rfl)|((with_reducible intro h);try simp only [go_sem,simprocAttr,hb,jI,cD,hst,List.length_replicate] at h)|omega|intro h)
 clear hb
 refine ah (fun i:Nat=>i≤g.es.length) (fun i=>⟨[(1, .ptr 1 0),(3,eN g.es.length),(4, .ref 19),(6,eB ((ug g).je x s1 i).2),(7,eN x),(9, .d (sI (jl g (aN g.n.toNat x)))),(10,eN i)], [(19, .own 3 1 (((ug g).je x s1 i).1.map rN)),(1, .box [eN g.n, .d (sE g.es)])]⟩) (fun i=>g.es.length - i) 0 (Nat.zero_le _) ?_ ?_
 ·refine Le.of ?_ ?_<;>simp [go_sem,simprocAttr,UG.je]
 rintro i hi
 rcases Nat.lt_or_ge i g.es.length with AO|Gk
 rotate_left
 ·have hb:decide ((i:Int)<(g.es.length:Int))=false:=decide_eq_false (by omega)
  obtain rfl:i=g.es.length:=by omega
  repeat' (first|refine Rn.p ?_|(with_reducible apply And.intro)|((first|(refine hK _ ?_;clear hK K)|with_reducible intro K hK|refine Rs.p ?_|((with_reducible first|apply oP|apply oQ);exact rfl));try simp only [go_sem,simprocAttr,hb])|((with_reducible refine oD ?_ ?_);kernel_rfl)|((with_reducible intro h);try simp only [go_sem,simprocAttr,hb] at h)|omega|intro h)
  refine ⟨x+1,by omega, ?_,by omega⟩
  rw [Cl]
  refine Le.of ?_ ?_<;>simp [go_sem,simprocAttr,hb]
 have hb:decide ((i:Int)<(g.es.length:Int))=true:=decide_eq_true (by omega)
 have hmn:=(UG.jf (G:=ug g) (x:=x) og (k:=i) hi).1
 have Cm:(ug g).je x s1 (i+1)=(ug g).lV x i ((ug g).je x s1 i) g.es.length:=rfl
 generalize (ug g).je x s1 i=s2 at hmn Cm ⊢
 repeat' (first|refine Rn.p ?_|(with_reducible apply And.intro)|((first|(refine hK _ ?_;clear hK K)|with_reducible intro K hK|refine Rs.p ?_|((with_reducible first|apply oP|apply oQ);exact rfl));try simp only [go_sem,simprocAttr,hb])|((with_reducible refine oD ?_ ?_);kernel_rfl)|((with_reducible intro h);try simp only [go_sem,simprocAttr,hb] at h)|omega|intro h)
 clear hb
 refine ah (fun k:Nat=>k≤g.es.length) (fun k=>⟨[(1, .ptr 1 0),(3,eN g.es.length),(4, .ref 19),(6,eB ((ug g).lV x i s2 k).2),(7,eN x),(9, .d (sI (jl g (aN g.n.toNat x)))),(10,eN i),(11,eN k)], [(19, .own 3 1 (((ug g).lV x i s2 k).1.map rN)),(1, .box [eN g.n, .d (sE g.es)])]⟩) (fun k=>g.es.length - k) 0 (Nat.zero_le _) ?_ ?_
 ·refine Le.of ?_ ?_<;>simp [go_sem,simprocAttr,UG.lV]
 rintro k hk
 rcases Nat.lt_or_ge k g.es.length with hlk|Gl
 rotate_left
 ·have hb:decide ((k:Int)<(g.es.length:Int))=false:=decide_eq_false (by omega)
  obtain rfl:k=g.es.length:=by omega
  repeat' (first|refine Rn.p ?_|(with_reducible apply And.intro)|((first|(refine hK _ ?_;clear hK K)|with_reducible intro K hK|refine Rs.p ?_|((with_reducible first|apply oP|apply oQ);exact rfl));try simp only [go_sem,simprocAttr,hb])|((with_reducible refine oD ?_ ?_);kernel_rfl)|((with_reducible intro h);try simp only [go_sem,simprocAttr,hb] at h)|omega|intro h)
  refine ⟨i+1,by omega, ?_,by omega⟩
  rw [Cm]
  refine Le.of ?_ ?_<;>simp [go_sem,simprocAttr,hb]
 have hb:decide ((k:Int)<(g.es.length:Int))=true:=decide_eq_true (by omega)
 have hin:=(UG.lJ (G:=ug g) (x:=x) (s:=s2) hmn AO (k:=k) hk).1
 have bz:(ug g).lV x i s2 (k+1)=if ((ug g).xV x i k&&decide (((ug g).lV x i s2 k).1.getD i 0≠((ug g).lV x i s2 k).1.getD k 0))=true then (UG.tq ((ug g).lV x i s2 k).1 i k,true) else (ug g).lV x i s2 k:=rfl
 generalize (ug g).lV x i s2 k=s3 at hin bz ⊢
 obtain ⟨c,m0⟩:=s3
 simp only at hin bz ⊢
 have fV:c.length=g.es.length:=hin.len
 obtain ⟨hi1,hi2⟩:=dU hm AO
 obtain ⟨j3,hk2⟩:=dU hm hlk
 obtain ⟨u,hu⟩:∃u:Nat,(g.es.getD i (0,0)).1=u:=⟨(g.es.getD i (0,0)).1.toNat,by omega⟩
 obtain ⟨v,hv⟩:∃v:Nat,(g.es.getD i (0,0)).2=v:=⟨(g.es.getD i (0,0)).2.toNat,by omega⟩
 obtain ⟨u',gi⟩:∃u:Nat,(g.es.getD k (0,0)).1=u:=⟨(g.es.getD k (0,0)).1.toNat,by omega⟩
 obtain ⟨v',iu⟩:∃v:Nat,(g.es.getD k (0,0)).2=v:=⟨(g.es.getD k (0,0)).2.toNat,by omega⟩
 have gR:(ug g).T i=u:=by show ((g.es.getD i (0,0)).1).toNat=u;rw [hu];rfl
 have hhi:(ug g).H i=v:=by show ((g.es.getD i (0,0)).2).toNat=v;rw [hv];rfl
 have Gm:(ug g).T k=u':=by show ((g.es.getD k (0,0)).1).toNat=u';rw [gi];rfl
 have Gn:(ug g).H k=v':=by show ((g.es.getD k (0,0)).2).toNat=v';rw [iu];rfl
 have hnot:∀j a b,(ug g).T j=a→(ug g).H j=b→a≠x→b≠x→∀w,¬(ug g).J j x w:=fun j a b h1 h2 h3 h4 w hJ=>by
  have:=hJ.2
  omega
 have zX:(∀w,¬(ug g).J i x w)∨(∀w,¬(ug g).J k x w)→(ug g).xV x i k=false:=fun h=>by
  cases hr:(ug g).xV x i k with
  |false=>rfl
  |true=>
   obtain ⟨a1,b1,j1,j2,_⟩:=UG.nF.1 hr
   rcases h with h|h
   ·exact absurd j1 (h _)
   ·exact absurd j2 (h _)
 have yM:∀p q:Nat,decide ((p:Int)=(q:Int))=decide (p=q):=fun p q=>by
  rw [decide_eq_decide];omega
 have d1:=yM u x
 have d2:=yM v x
 have d3:=yM u' x
 have d4:=yM v' x
 have skip:(ug g).xV x i k=false→(ug g).lV x i s2 (k+1)=(c,m0):=fun h=>by rw [bz,h];rfl
 by_cases hai:u≠x∧v≠x
 ·have hr:=skip (zX (.inl (hnot i u v gR hhi hai.1 hai.2)))
  rw [decide_eq_false hai.1] at d1
  rw [decide_eq_false hai.2] at d2
  repeat' (first|refine Rn.p ?_|(with_reducible apply And.intro)|((first|(refine hK _ ?_;clear hK K)|with_reducible intro K hK|refine Rs.p ?_|((with_reducible first|apply oP|apply oQ);exact rfl));try simp only [go_sem,simprocAttr,hb,hu,hv,gi,iu,d1,d2])|((with_reducible refine oD ?_ ?_);kernel_rfl)|((with_reducible intro h);try simp only [go_sem,simprocAttr,hb,hu,hv,gi,iu,d1,d2] at h)|omega|intro h)
  refine ⟨k+1,by omega, ?_,by omega⟩
  rw [hr]
  refine Le.of ?_ ?_<;>simp [go_sem,simprocAttr,hb,hu,hv,gi,iu,d1,d2]
 by_cases xb:u'≠x∧v'≠x
 ·have hr:=skip (zX (.inr (hnot k u' v' Gm Gn xb.1 xb.2)))
  rw [decide_eq_false xb.1] at d3
  rw [decide_eq_false xb.2] at d4
  have hcs:(decide (u=x)=true)∨(decide (u=x)=false∧decide (v=x)=true):=by
   by_cases e:u=x
   ·exact .inl (decide_eq_true e)
   ·exact .inr ⟨decide_eq_false e,decide_eq_true (Decidable.byContradiction fun h=>hai ⟨e,h⟩)⟩
  rcases hcs with hc1|⟨hc1,x9⟩
  ·rw [hc1] at d1
   repeat' (first|refine Rn.p ?_|(with_reducible apply And.intro)|((first|(refine hK _ ?_;clear hK K)|with_reducible intro K hK|refine Rs.p ?_|((with_reducible first|apply oP|apply oQ);exact rfl));try simp only [go_sem,simprocAttr,hb,hu,hv,gi,iu,d1,d2,d3,d4])|((with_reducible refine oD ?_ ?_);kernel_rfl)|((with_reducible intro h);try simp only [go_sem,simprocAttr,hb,hu,hv,gi,iu,d1,d2,d3,d4] at h)|omega|intro h)
   refine ⟨k+1,by omega, ?_,by omega⟩
   rw [hr]
   refine Le.of ?_ ?_<;>simp [go_sem,simprocAttr,hb,hu,hv,gi,iu,d1,d2,d3,d4]
  ·rw [hc1] at d1
   rw [x9] at d2
   repeat' (first|refine Rn.p ?_|(with_reducible apply And.intro)|((first|(refine hK _ ?_;clear hK K)|with_reducible intro K hK|refine Rs.p ?_|((with_reducible first|apply oP|apply oQ);exact rfl));try simp only [go_sem,simprocAttr,hb,hu,hv,gi,iu,d1,d2,d3,d4])|((with_reducible refine oD ?_ ?_);kernel_rfl)|((with_reducible intro h);try simp only [go_sem,simprocAttr,hb,hu,hv,gi,iu,d1,d2,d3,d4] at h)|omega|intro h)
   refine ⟨k+1,by omega, ?_,by omega⟩
   rw [hr]
   refine Le.of ?_ ?_<;>simp [go_sem,simprocAttr,hb,hu,hv,gi,iu,d1,d2,d3,d4]
 have Co:(decide (u=x)=true)∨(decide (u=x)=false∧decide (v=x)=true):=by
  by_cases e:u=x
  ·exact .inl (decide_eq_true e)
  ·exact .inr ⟨decide_eq_false e,decide_eq_true (Decidable.byContradiction fun h=>hai ⟨e,h⟩)⟩
 have zV:(decide (u'=x)=true)∨(decide (u'=x)=false∧decide (v'=x)=true):=by
  by_cases e:u'=x
  ·exact .inl (decide_eq_true e)
  ·exact .inr ⟨decide_eq_false e,decide_eq_true (Decidable.byContradiction fun h=>xb ⟨e,h⟩)⟩
 obtain ⟨a1,ha1⟩:∃a1:Nat,(u:Int)+v - x=a1:=⟨u+v - x,by
  rcases Co with h|⟨_,h⟩<;>(have:=of_decide_eq_true h;omega)⟩
 obtain ⟨a2,ha2⟩:∃a2:Nat,(u':Int)+v' - x=a2:=⟨u'+v' - x,by
  rcases zV with h|⟨_,h⟩<;>(have:=of_decide_eq_true h;omega)⟩
 have Gp:(ug g).J i x a1:=⟨AO,by
  rw [gR,hhi]
  rcases Co with h|⟨_,h⟩<;>(have:=of_decide_eq_true h;omega)⟩
 have Gq:(ug g).J k x a2:=⟨hlk,by
  rw [Gm,Gn]
  rcases zV with h|⟨_,h⟩<;>(have:=of_decide_eq_true h;omega)⟩
 have hr:=x7 hm hl Fk Gp Gq
 have Gs:a1<g.n.toNat:=(Gp.lt hG).2.1
 have hn2:a2<g.n.toNat:=(Gq.lt hG).2.1
 have hp1:=pN (g:=g) (wb:=aN g.n.toNat x) Gs
 have hp2:=pN (g:=g) (wb:=aN g.n.toNat x) hn2
 rw [hr] at bz
 clear hr skip zX hnot Gj hst
 generalize e9 g (aN g.n.toNat x) a1=p1 at hp1 bz
 generalize e9 g (aN g.n.toNat x) a2=p2 at hp2 bz
 generalize jl g (aN g.n.toNat x)=PL at hp1 hp2 iK ⊢
 generalize hdp:decide (p1=p2)=t at bz
 have ds:=yM (c.getD i 0) (c.getD k 0)
 cases t with
 |false=>
  rw [if_neg (by simp)] at bz
  rcases Co with hc1|⟨hc1,x9⟩<;>rcases zV with xd|⟨xd,Cp⟩
  all_goals (first|rw [hc1] at d1|skip)
  all_goals (first|rw [x9] at d2|skip)
  all_goals (first|rw [xd] at d3|skip)
  all_goals (first|rw [Cp] at d4|skip)
  all_goals (repeat' (first|refine Rn.p ?_|(with_reducible apply And.intro)|((first|(refine hK _ ?_;clear hK K)|with_reducible intro K hK|refine Rs.p ?_|((with_reducible first|apply oP|apply oQ);exact rfl));try simp only [go_sem,simprocAttr,hb,hu,hv,gi,iu,d1,d2,d3,d4,ha1,ha2,hp1,hp2,hdp])|((with_reducible refine oD ?_ ?_);kernel_rfl)|((with_reducible intro h);try simp only [go_sem,simprocAttr,hb,hu,hv,gi,iu,d1,d2,d3,d4,ha1,ha2,hp1,hp2,hdp] at h)|omega|intro h))
  all_goals (refine ⟨k+1,by omega, ?_,by omega⟩)
  all_goals (rw [bz])
  all_goals (refine Le.of ?_ ?_<;>simp [go_sem,simprocAttr,hb,hu,hv,gi,iu,d1,d2,d3,d4,ha1,ha2,hp1,hp2,hdp])
 |true=>
  by_cases hc:c.getD i 0=c.getD k 0
  ·rw [decide_eq_true hc] at ds
   rw [if_neg (by rw [Bool.true_and,decide_eq_true_eq];exact fun h=>h hc)] at bz
   rcases Co with hc1|⟨hc1,x9⟩<;>rcases zV with xd|⟨xd,Cp⟩
   all_goals (first|rw [hc1] at d1|skip)
   all_goals (first|rw [x9] at d2|skip)
   all_goals (first|rw [xd] at d3|skip)
   all_goals (first|rw [Cp] at d4|skip)
   all_goals (repeat' (first|refine Rn.p ?_|(with_reducible apply And.intro)|((first|(refine hK _ ?_;clear hK K)|with_reducible intro K hK|refine Rs.p ?_|((with_reducible first|apply oP|apply oQ);exact rfl));try simp only [go_sem,simprocAttr,hb,hu,hv,gi,iu,d1,d2,d3,d4,ha1,ha2,hp1,hp2,hdp,ds,fV])|((with_reducible refine oD ?_ ?_);kernel_rfl)|((with_reducible intro h);try simp only [go_sem,simprocAttr,hb,hu,hv,gi,iu,d1,d2,d3,d4,ha1,ha2,hp1,hp2,hdp,ds,fV] at h)|omega|intro h))
   all_goals (refine ⟨k+1,by omega, ?_,by omega⟩)
   all_goals (rw [bz])
   all_goals (refine Le.of ?_ ?_<;>simp [go_sem,simprocAttr,hb,hu,hv,gi,iu,d1,d2,d3,d4,ha1,ha2,hp1,hp2,hdp,ds,fV])
  ·rw [decide_eq_false hc] at ds
   rw [if_pos (by rw [Bool.true_and,decide_eq_true_eq];exact hc)] at bz
   rcases Co with hc1|⟨hc1,x9⟩<;>rcases zV with xd|⟨xd,Cp⟩
   all_goals (first|rw [hc1] at d1|skip)
   all_goals (first|rw [x9] at d2|skip)
   all_goals (first|rw [xd] at d3|skip)
   all_goals (first|rw [Cp] at d4|skip)
   all_goals (repeat' (first|refine Rn.p ?_|(with_reducible apply And.intro)|((first|(refine hK _ ?_;clear hK K)|with_reducible intro K hK|refine Rs.p ?_|((with_reducible first|apply oP|apply oQ);exact rfl));try simp only [go_sem,simprocAttr,hb,hu,hv,gi,iu,d1,d2,d3,d4,ha1,ha2,hp1,hp2,hdp,ds,fV,vV,aD])|((with_reducible refine oD ?_ ?_);kernel_rfl)|((with_reducible intro h);try simp only [go_sem,simprocAttr,hb,hu,hv,gi,iu,d1,d2,d3,d4,ha1,ha2,hp1,hp2,hdp,ds,fV,vV,aD] at h)|omega|intro h))
   all_goals (refine ⟨k+1,by omega, ?_,by omega⟩)
   all_goals (rw [bz])
   all_goals (refine Le.of ?_ ?_<;>simp [go_sem,simprocAttr,hb,hu,hv,gi,iu,d1,d2,d3,d4,ha1,ha2,hp1,hp2,hdp,ds,fV,vV,aD,UG.tq])
end Go.Ab
end
