/- A part of the proof. -/
import Derived.RangeFuncBox
import Derived.RangeFuncLeaves
import Derived.Shelf.Abstract
import Derived.WalkKit
import Derived.OwnWalkIn
import Derived.TacticsInMore
import Derived.LoopNIn
import Derived.LoopIn
import Derived.Maps.AppendAt
import Derived.Sort.OwnSortedInts
import Derived.Test.YtchjjbfhlchpfaaGreatL9P13
set_option linter.unusedSimpArgs false
set_option linter.unusedVariables false
section
namespace Go.Ab
open Go.Proofs Go.RowKit Go.Shelf Go.Sort
attribute [local go_sem] Oper.semAt_some
def upto {α:Type} (f:Nat→α) (k:Nat):List α:=(List.range k).map f
def Ints (n₀:Nat) (W:World) (sv:Value) (zs:List Int):Prop:=
 (∃p c,sv= .slice p 0 c∧zs= [])∨∃b off cap,sv= .slice (some ⟨b,off,none⟩) zs.length cap∧b<n₀∧∀j,j<zs.length→W.cell? ⟨b,off+j,none⟩=some (.int .i64 (zs[j]?.getD 0))
theorem Ints.below {n₀:Nat} {A B:World} (h:Below n₀ A B) {sv:Value} {zs:List Int} :Ints n₀ A sv zs→Ints n₀ B sv zs
 | .inl e=> .inl e
 | .inr ⟨b,off,cap,e,hb,hc⟩=> .inr ⟨b,off,cap,e,hb,fun j hj=>(h.cell (p:=⟨b,off+j,none⟩) hb).trans (hc j hj)⟩
def NA (l:List Int):List Int:=l.mergeSort fun x y=>decide (x≤y)
end Go.Ab
end
section
namespace Go.Ab
open Go.Proofs Go.RowKit
attribute [local congr] ACall.congr gd.congr Nx.congr
set_option maxRecDepth 10000
def O9 (E:Env) (w w':World):Env:=⟨E.ρ,E.σ,fun b=>if b<w.heap.size then E.z b else dg w' b⟩
theorem uC {w:World} {z:Nat→Nat} {v:Value} {x:Int} (h:Rd w z v (.sc (.int .i64 x))):v= .int .i64 x:=by cases h;rfl
end Go.Ab
end
section
namespace Go.Ab
open Go.Proofs
attribute [local congr] ACall.congr gd.congr Nx.congr
set_option maxRecDepth 10000
def g0:Gr:=⟨3, [(0,1),(1,2),(2,1)]⟩
end Go.Ab
end
section
namespace Go.Ab
open Go.Proofs
attribute [local congr] ACall.congr gd.congr Nx.congr
set_option maxRecDepth 10000
def Bk (g:Gr):Bool:=decide (g.n≤((aI g).length:Int))
def Et (g:Gr):List Int:=if Bk g then aI g else []
def kT (l:List Int) (n:Int):Bool:=decide ((l.length:Int)=n)&&(List.range n.toNat).all fun x:Nat=>decide ((x:Int)∈l)
end Go.Ab
end
section
namespace Go.Ab
open Go.Proofs
attribute [local congr] ACall.congr gd.congr Nx.congr
set_option maxRecDepth 10000
theorem count_le:∀(xs l:List Int),xs.Nodup→(∀x∈xs,x∈l)→xs.length≤l.countP (fun y=>decide (y∈xs))
 | [],_,_,_=>Nat.zero_le _
 |a::r,l,hd,h=>by
  obtain ⟨h1,h2⟩:=List.nodup_cons.1 hd
  have ih:=count_le r l h2 fun x hx=>h x (List.mem_cons_of_mem _ hx)
  have hp:=jQ (p:=fun y=>decide (y∈a::r)) (q:=fun y=>decide (y∈r)) (r:=fun y=>decide (y=a)) (l:=l) (fun y _=>by
   by_cases hy:y=a
   ·subst hy;simp [h1]
   ·simp [hy])
  have ha:0<l.countP (fun y=>decide (y=a)):=List.countP_pos_iff.2 ⟨a,h a List.mem_cons_self,by simp⟩
  rw [hp,List.length_cons];omega
def ef (n:Nat):List Int:=(List.range n).map Int.ofNat
theorem cO {n:Nat} {x:Int} :x∈ef n↔0≤x∧x<n:=by
 simp only [ef,List.mem_map,List.mem_range]
 constructor
 ·rintro ⟨a,h,rfl⟩;simp;omega
 ·intro h;exact ⟨x.toNat,by omega,by simp;omega⟩
theorem fG {n:Nat} :(ef n).Nodup:=by
 unfold ef
 exact List.Pairwise.map _ (fun a b h e=>h (Int.ofNat.inj e)) List.nodup_range
theorem cu {l:List Int} {n:Int} :kT l n=true↔(l.length:Int)=n∧∀x∈ef n.toNat,x∈l:=by
 simp only [kT,Bool.and_eq_true,decide_eq_true_eq,List.all_eq_true,List.mem_range]
 constructor
 ·rintro ⟨h1,h2⟩
  refine ⟨h1,fun x hx=> ?_⟩
  obtain ⟨a,b⟩:=cO.1 hx
  have:=h2 x.toNat (by omega)
  rwa [show ((x.toNat:Nat):Int)=x from by omega] at this
 ·rintro ⟨h1,h2⟩
  exact ⟨h1,fun x hx=>h2 _ (cO.2 (by omega))⟩
theorem qZ {l:List Int} {n:Int} (h:kT l n=true):∀x∈l,0≤x∧x<n:=by
 obtain ⟨h1,h2⟩:=cu.1 h
 have hc:=count_le (ef n.toNat) l fG h2
 have hlen:(ef n.toNat).length=n.toNat:=by simp [ef]
 have he:l.countP (fun y=>decide (y∈ef n.toNat))=l.length:=by
  have:=List.countP_le_length (p:=fun y=>decide (y∈ef n.toNat)) (l:=l)
  omega
 intro x hx
 have:=List.countP_eq_length.1 he x hx
 have:=cO.1 (of_decide_eq_true this)
 omega
def xm (n:Nat) (l:List Int):Nat→List Int
 |0=>List.replicate n 0
 |k+1=>(xm n l k).set (l.getD k 0).toNat k
theorem atK_length {n:Nat} {l:List Int} :∀ {k:Nat},(xm n l k).length=n
 |0=>by simp [xm]
 |k+1=>by simp [xm,atK_length (k:=k)]
def CT (g:Gr) (l:List Int) (j:Nat):Bool:=(List.range j).all fun i=>decide ((xm g.n.toNat l l.length).getD (tl g i).toNat 0<(xm g.n.toNat l l.length).getD (hd g i).toNat 0)
def uD (g:Gr) (l:List Int):Bool:=kT l g.n&&CT g l g.es.length
attribute [go_sem] atK_length
end Go.Ab
end
section
namespace Go.Ab
def Pa (g:Gr) (out:List Int):Prop:=∀p,p<out.length→out.getD p 0=eY (cw g (out.take p)) 0∧0≤out.getD p 0
theorem zh {g:Gr} (hm:aV g=true) (h:Bk g=true):kT (aI g) g.n=true:=by
 obtain ⟨hP,_,_⟩:=fC hm
 have hn:=bL hm
 have hf:=hP.fuel
 have hok:=of_decide_eq_true h
 refine cu.2 ⟨by omega,fun x hx=> ?_⟩
 obtain ⟨h1,h2⟩:=cO.1 hx
 have h0:(List.range g.n.toNat).countP (fun y:Nat=> !decide ((y:Int)∈aI g))=0:=by omega
 have:=List.countP_eq_zero.1 h0 x.toNat (List.mem_range.2 (by omega))
 rw [show ((x.toNat:Nat):Int)=x from by omega] at this
 simpa using this
theorem zi {g:Gr} (hm:aV g=true) (h:Bk g=false):∃y:Nat,y<g.n.toNat∧(y:Int)∉aI g:=by
 obtain ⟨hP,_,_⟩:=fC hm
 have hn:=bL hm
 have hf:=hP.fuel
 have hok:=of_decide_eq_false h
 have h0:0<(List.range g.n.toNat).countP (fun y:Nat=> !decide ((y:Int)∈aI g)):=by omega
 obtain ⟨y,hy,hp⟩:=List.countP_pos_iff.1 h0
 exact ⟨y,List.mem_range.1 hy,by simpa using hp⟩
theorem CU {g:Gr} {l:List Int} (h:uD g l=true) {i:Nat} (hi:i<g.es.length):(xm g.n.toNat l l.length).getD (tl g i).toNat 0<(xm g.n.toNat l l.length).getD (hd g i).toNat 0:=by
 simp only [uD,Bool.and_eq_true] at h
 have:=List.all_eq_true.1 h.2 i (List.mem_range.2 hi)
 exact of_decide_eq_true this
theorem q6 {n:Nat} {l:List Int} :∀ {k:Nat} {y:Nat},0≤(xm n l k).getD y 0
 |0,y=>by
  simp only [xm,List.getD_eq_getElem?_getD,List.getElem?_replicate]
  split<;>simp
 |k+1,y=>by
  have ih:=q6 (n:=n) (l:=l) (k:=k) (y:=y)
  simp only [xm,List.getD_eq_getElem?_getD,List.getElem?_set] at ih ⊢
  split
  ·split<;>simp
  ·exact ih
theorem uE {l:List Int} {i j:Nat} (hij:i<j) (hj:j<l.length) (e:l.getD i 0=l.getD j 0):∀x∈l,x∈l.eraseIdx i:=by
 intro x hx
 obtain ⟨k,hk,rfl⟩:=List.getElem_of_mem hx
 rw [List.mem_iff_getElem?]
 rcases Nat.lt_trichotomy k i with h|h|h
 ·exact ⟨k,by rw [List.getElem?_eraseIdx,if_pos h,List.getElem?_eq_getElem hk]⟩
 ·subst h
  refine ⟨j - 1, ?_⟩
  rw [List.getElem?_eraseIdx,if_neg (by omega),show j - 1+1=j from by omega,List.getElem?_eq_getElem hj]
  rw [List.getD_eq_getElem?_getD,List.getD_eq_getElem?_getD,List.getElem?_eq_getElem hk,List.getElem?_eq_getElem hj] at e
  exact congrArg some e.symm
 ·exact ⟨k - 1,by rw [List.getElem?_eraseIdx,if_neg (by omega),show k - 1+1=k from by omega,List.getElem?_eq_getElem hk]⟩
theorem jX {l:List Int} {n:Int} (h:kT l n=true) {i j:Nat} (hi:i<l.length) (hj:j<l.length) (e:l.getD i 0=l.getD j 0):i=j:=by
 obtain ⟨h1,h2⟩:=cu.1 h
 have key:∀i j,i<j→j<l.length→l.getD i 0=l.getD j 0→False:=by
  intro i j hij hj e
  have hc:=count_le (ef n.toNat) (l.eraseIdx i) fG fun x hx=>uE hij hj e x (h2 x hx)
  have hlen:(ef n.toNat).length=n.toNat:=by simp [ef]
  have hle:=List.countP_le_length (p:=fun y=>decide (y∈ef n.toNat)) (l:=l.eraseIdx i)
  rw [List.length_eraseIdx_of_lt (by omega)] at hle
  omega
 rcases Nat.lt_trichotomy i j with h|h|h
 ·exact (key i j h hj e).elim
 ·exact h
 ·exact (key j i h hi e.symm).elim
theorem x3 {l:List Int} {n:Int} (h:kT l n=true) {p:Nat} :∀ {k:Nat},p<k→k≤l.length→(xm n.toNat l k).getD (l.getD p 0).toNat 0=p
 |0,hp,_=>by omega
 |k+1,hp,hk=>by
  have hlo:=qZ h
  have hp1:=hlo _ (gQ (l:=l) (m:=p) (by omega))
  have zU:=hlo _ (gQ (l:=l) (m:=k) (by omega))
  simp only [xm,List.getD_eq_getElem?_getD (l:=(xm n.toNat l k).set _ _),List.getElem?_set,atK_length]
  by_cases hpk:p=k
  ·subst hpk
   rw [if_pos rfl,if_pos (by omega)];rfl
  ·have hne:¬(l.getD k 0).toNat=(l.getD p 0).toNat:=fun e=>hpk (jX h (i:=p) (j:=k) (by omega) (by omega) (by omega))
   rw [if_neg hne, ← List.getD_eq_getElem?_getD]
   exact x3 h (by omega) (by omega)
theorem AB {g:Gr} (hm:aV g=true) (h:Bk g=true):uD g (aI g)=true:=by
 have he:=zh hm h
 obtain ⟨hP,hO,_⟩:=fC hm
 have hall:=(cu.1 he).2
 simp only [uD,he,Bool.true_and,CT,List.all_eq_true,List.mem_range,decide_eq_true_eq]
 intro i hi
 have hh:=fO hm hi
 obtain ⟨p,hp,e⟩:=List.getElem_of_mem (hall (hd g i) (cO.2 (by omega)))
 have e':(aI g).getD p 0=hd g i:=by rw [List.getD_eq_getElem?_getD,List.getElem?_eq_getElem hp];exact e
 have ht:=hO p hp i hi e'.symm
 rw [List.mem_iff_getElem?] at ht
 obtain ⟨q,hq⟩:=ht
 rw [List.getElem?_take] at hq
 split at hq
 ·rename_i Nw
  have e2:(aI g).getD q 0=tl g i:=by rw [List.getD_eq_getElem?_getD,hq];rfl
  rw [← e', ← e2,x3 he hp (Nat.le_refl _),x3 he (by omega) (Nat.le_refl _)]
  omega
 ·cases hq
end Go.Ab
end
section
namespace Go.Ab
open Go.Proofs
attribute [local congr] ACall.congr gd.congr Nx.congr
set_option maxRecDepth 10000
end Go.Ab
end
section
namespace Go.Ab
open Go.Proofs
attribute [local congr] ACall.congr gd.congr Nx.congr
set_option maxRecDepth 10000
def gz:Gr:=⟨0, []⟩
def vz:D:= .pt [.sc (.int .i64 0), .sl 2 [], .sl 1 [], .sl 1 []]
def uF (f:Edge→Int) (g:Gr) (x:Int):List Int:=if 0≤x∧x<g.n then aU f g.es g.es.length x else []
end Go.Ab
end
section
namespace Go.Ab
open Go.Proofs
attribute [local congr] ACall.congr gd.congr Nx.congr
set_option maxRecDepth 10000
abbrev It:=Int × Int × Int
def rT (t:It):List D:= [.sc (.int .i64 t.1), .sc (.int .i64 t.2.1), .sc (.int .i64 t.2.2)]
def eT (t:It):AV:= .agg [.d (.sc (.int .i64 t.1)), .d (.sc (.int .i64 t.2.1)), .d (.sc (.int .i64 t.2.2))]
def sT (ts:List It):D:= .sl 3 (ts.map rT)
theorem getD_rT (ps:List It) (i:Nat):(ps.map rT).getD i [.sc (.int .i64 0), .sc (.int .i64 0), .sc (.int .i64 0)]=rT (ps.getD i (0,0,0)):=by
 simp only [List.getD_eq_getElem?_getD,List.getElem?_map]
 cases ps[i]? <;>rfl
theorem rT_eq (t:It):rT t= [.sc (.int .i64 t.1), .sc (.int .i64 t.2.1), .sc (.int .i64 t.2.2)]:=rfl
attribute [go_sem] getD_rT rT_eq eT sT
theorem zj {l:List Int} :∀r∈l.map rI,∀x∈r,∃v,x=D.sc v:=by
 intro r hr x hx
 obtain ⟨y,_,rfl⟩:=List.mem_map.1 hr
 simp only [rI,List.mem_singleton] at hx
 exact ⟨_,hx⟩
theorem zk {l:List It} :∀r∈l.map rT,∀x∈r,∃v,x=D.sc v:=by
 intro r hr x hx
 obtain ⟨y,_,rfl⟩:=List.mem_map.1 hr
 simp only [rT,List.mem_cons,List.not_mem_nil,or_false] at hx
 rcases hx with h|h|h<;>exact ⟨_,h⟩
def vT (ls:List (List It)):List (List D):=ls.map fun l=> [sT l]
theorem vT_length {ls:List (List It)} :(vT ls).length=ls.length:=by simp [vT]
attribute [go_sem] vT_length
end Go.Ab
end
section
namespace Go.Ab
open Go.Proofs
attribute [local congr] ACall.congr gd.congr Nx.congr
set_option maxRecDepth 10000
set_option maxHeartbeats 1000000
structure Fr where
 row:List It
 pl:List Int
def Pb (g:Gr) (f:Fr):D:= .pt [sT f.row,vw g,sI f.pl]
def iJ (row:List It) (x:Int):Nat→Int × Int × Int
 |0=>(-1,0,0)
 |k+1=>if (row.getD k (0,0,0)).2.2=x then (if (iJ row x k).1= -1 then (k:Int) else (iJ row x k).1,(k:Int)+1,(iJ row x k).2.2+1) else iJ row x k
def cr (row:List It) (x:Int):Int × Int × Int:=iJ row x row.length
theorem q7 {row:List It} {x:Int} {k:Nat} :iJ row x (k+1)=if (row.getD k (0,0,0)).2.2=x then (if (iJ row x k).1= -1 then (k:Int) else (iJ row x k).1,(k:Int)+1,(iJ row x k).2.2+1) else iJ row x k:=rfl
theorem fR {row:List It} {x:Int} :∀k:Nat,(iJ row x k=(-1,0,0)∧∀j,j<k→(row.getD j (0,0,0)).2.2≠x)∨
 ∃a b c:Nat,iJ row x k=((a:Int),(b:Int),(c:Int))∧a<b∧b≤k∧0<c∧c≤k∧(row.getD a (0,0,0)).2.2=x∧(row.getD (b - 1) (0,0,0)).2.2=x∧(∀j,j<a→(row.getD j (0,0,0)).2.2≠x)∧(∀j,b≤j→j<k→(row.getD j (0,0,0)).2.2≠x)
 |0=> .inl ⟨rfl,fun j hj=>by omega⟩
 |k+1=>by
  rw [q7]
  by_cases hx:(row.getD k (0,0,0)).2.2=x
  ·rw [if_pos hx]
   right
   rcases fR (row:=row) (x:=x) k with ⟨h1,h2⟩|⟨a,b,c,h1,h2,h3,h4,h5,h6,h7,h8,h9⟩
   ·refine ⟨k,k+1,1,by rw [h1];rfl,by omega,by omega,by omega,by omega,hx,hx,h2,fun j h1 h2=>by omega⟩
   ·refine ⟨a,k+1,c+1,by rw [h1];simp only [Prod.mk.injEq];exact ⟨by rw [if_neg (by omega)],by omega,by omega⟩,by omega,by omega,by omega,by omega,h6,hx,h8,fun j h1 h2=>by omega⟩
  ·rw [if_neg hx]
   rcases fR (row:=row) (x:=x) k with ⟨h1,h2⟩|⟨a,b,c,h1,h2,h3,h4,h5,h6,h7,h8,h9⟩
   ·refine .inl ⟨h1,fun j hj=> ?_⟩
    by_cases hjk:j=k
    ·subst hjk;exact hx
    ·exact h2 j (by omega)
   ·refine .inr ⟨a,b,c,h1,h2,by omega,h4,by omega,h6,h7,h8,fun j Jr Pd=> ?_⟩
    by_cases hjk:j=k
    ·subst hjk;exact hx
    ·exact h9 j Jr (by omega)
def ox (x:Int) (t:It):Bool:=decide (t.2.2≠x)&&decide (t.2.2≠ -1)
def s7 (row:List It) (x:Int) (a b:Nat):Bool:= !((row.take b).drop a).any (ox x)
end Go.Ab
end
section
namespace Go.Ab
open Go.Proofs
attribute [local congr] ACall.congr gd.congr Nx.congr
set_option maxRecDepth 10000
set_option maxHeartbeats 2000000
def kU (g:Gr) (f:Fr) (x:Int):Bool:=
 if x<0∨g.n≤x∨x∈f.pl then false else
 decide ((cr f.row x).2.2=((uF (·.2) g x).length:Int))&&(decide ((uF (·.2) g x).length=0)||s7 f.row x (cr f.row x).1.toNat (cr f.row x).2.1.toNat)
end Go.Ab
end
section
namespace Go.Ab
open Go.Proofs
attribute [local congr] ACall.congr gd.congr Nx.congr
set_option maxRecDepth 10000
set_option maxHeartbeats 2000000
def zm (g:Gr) (x:Int) (i:Int):It:=(i,x,(g.es.getD i.toNat (0,0)).2)
def bH (g:Gr) (x:Int) (outs:List Int):List It:=if outs= [] then [(-1,x, -1)] else outs.map (zm g x)
theorem x4 {α β:Type} {f:α→β} {l:List α} {d:α} {k:Nat} (h:k<l.length):(l.take (k+1)).map f=(l.take k).map f++ [f (l.getD k d)]:=by
 rw [List.take_add_one,List.map_append,List.getElem?_eq_getElem h,List.getD_eq_getElem?_getD,List.getElem?_eq_getElem h]
 rfl
def Pe (g:Gr) (f:Fr):List (Nat × AObj):= [(10000, .box [.d (sT f.row), .d (vw g), .ref 10001]),(10001, .tip 3 1 (f.pl.map rI))]
end Go.Ab
end
section
namespace Go.Ab
open Go.Proofs
attribute [local congr] ACall.congr gd.congr Nx.congr
set_option maxRecDepth 10000
set_option maxHeartbeats 4000000
def Pf (g:Gr) (f:Fr):List (Nat × AObj):= [(10000, .box [.d (sT f.row), .d (vw g), .ref 10002]),(10002, .tip 3 1 (f.pl.map rI))]
def La (g:Gr) (f:Fr) (x:Int) (outs:List Int):(List It × Int) × Fr:=
 if kU g f x=false then (([],3),f) else if NA outs≠uF (·.1) g x then (([],1),f) else
 (((f.row.take (cr f.row x).2.1.toNat).drop (max (cr f.row x).1 0).toNat,0),⟨f.row.take (max (cr f.row x).1 0).toNat++bH g x outs++f.row.drop (cr f.row x).2.1.toNat,f.pl++ [x]⟩)
theorem gC {f:Edge→Int} {es:List Edge} {k:Nat} {x i:Int} (h:i∈aU f es k x):(0≤i∧i<k)∧f (es.getD i.toNat (0,0))=x:=by
 simp only [aU,List.mem_map,List.mem_filter,List.mem_range,decide_eq_true_eq] at h
 obtain ⟨j,⟨h1,h2⟩,rfl⟩:=h
 exact ⟨⟨Int.natCast_nonneg j,by simp;omega⟩,h2⟩
theorem AD (row:List It) (x:Int):∃a b:Nat,max (cr row x).1 0=(a:Int)∧(cr row x).2.1=(b:Int)∧a≤b∧b≤row.length:=by
 rcases fR (row:=row) (x:=x) row.length with ⟨h,_⟩|⟨a,b,c,h,h1,h2,_⟩
 ·exact ⟨0,0,by unfold cr;rw [h];rfl,by unfold cr;rw [h];rfl,by omega,by omega⟩
 ·exact ⟨a,b,by unfold cr;rw [h];simp only;omega,by unfold cr;rw [h],by omega,by omega⟩
theorem x5 {g:Gr} {x:Int} {outs:List Int} :0<(bH g x outs).length∧(bH g x outs).length≤outs.length+1:=by
 unfold bH
 split
 ·simp
 ·rename_i h
  have:=List.length_pos_iff.2 h
  simp;omega
end Go.Ab
end
section
namespace Go.Ab
open Go.Proofs
attribute [local congr] ACall.congr gd.congr Nx.congr
set_option maxRecDepth 10000
set_option maxHeartbeats 4000000
def Gf (g:Gr) (f:Fr) (k:Nat):List Int:=((List.range k).filter fun x:Nat=>kU g f (x:Int)).map Int.ofNat
def Gg (g:Gr) (f:Fr):List Int:=Gf g f g.n.toNat
end Go.Ab
end
section
namespace Go.Ab
open Go.Proofs
attribute [local congr] ACall.congr gd.congr Nx.congr
set_option maxRecDepth 10000
set_option maxHeartbeats 4000000
def Pg (g:Gr) (f:Fr):List AV:= [eN g.n, .d (sE g.es), .d (sT f.row), .d (sI f.pl)]
def gr (row:List It) (x:Int):Nat→Int
 |0=>0
 |k+1=>if (row.getD k (0,0,0)).2.2=x then gr row x k+1 else gr row x k
theorem fH {row:List It} {x:Int} {k:Nat} :gr row x (k+1)=if (row.getD k (0,0,0)).2.2=x then gr row x k+1 else gr row x k:=rfl
def CV (row:List It) (x:Int) (need:Nat) (j:Nat):Bool:=decide ((row.getD j (0,0,0)).2.2≠x)&&decide (0≤(row.getD j (0,0,0)).1)&&decide (0<gr row x j)&&decide (gr row x j<need)
theorem s8 {row:List It} {x:Int} {need j:Nat} :CV row x need j=true↔((row.getD j (0,0,0)).2.2≠x∧0≤(row.getD j (0,0,0)).1)∧0<gr row x j∧gr row x j<need:=by
 simp only [CV,Bool.and_eq_true,decide_eq_true_eq,and_assoc]
def bM (g:Gr) (x:Int):Nat:=(aU (·.2) g.es g.es.length x).length
def aJ (g:Gr) (f:Fr) (x:Int):Bool:=
 if x<0∨g.n≤x∨x∈f.pl then false else if bM g x=0 then true else
 !(List.range f.row.length).any (CV f.row x (bM g x))&&decide (gr f.row x f.row.length=bM g x)
end Go.Ab
end
section
namespace Go.Ab
open Go.Proofs
attribute [local congr] ACall.congr gd.congr Nx.congr
set_option maxRecDepth 10000
set_option maxHeartbeats 4000000
end Go.Ab
end
section
namespace Go.Ab
open Go.Proofs
attribute [local congr] ACall.congr gd.congr Nx.congr
set_option maxRecDepth 10000
set_option maxHeartbeats 8000000
def cS (g:Gr) (x:Int):List Int:=aU (·.1) g.es g.es.length x
def aL (g:Gr) (f:Fr) (x:Int) (outs:List Int):(List It × Int) × Fr:=
 (((f.row.take (cr f.row x).2.1.toNat).drop (max (cr f.row x).1 0).toNat,0),⟨f.row.take (max (cr f.row x).1 0).toNat++bH g x outs++f.row.drop (cr f.row x).2.1.toNat,f.pl++ [x]⟩)
def Eu (g:Gr) (f:Fr) (x:Int) (outs:List Int):(List It × Int) × Fr:=
 if aJ g f x=false then (([],3),f) else
 if outs.length≠(cS g x).length∨∃i∈cS g x,i∉outs then (([],1),f) else aL g f x outs
theorem iL {f:Edge→Int} {es:List Edge} {k:Nat} {x:Int} :(aU f es k x).Nodup:=by
 unfold aU
 exact List.Pairwise.map _ (fun a b h e=>h (Int.ofNat.inj e)) (List.Pairwise.filter _ List.nodup_range)
theorem x6:∀ {ms os:List Int},ms.Nodup→(∀i∈ms,i∈os)→os.length=ms.length→∀i∈os,i∈ms
 | [],os,_,_,hl,i,hi=>by
   have:os= []:=List.eq_nil_of_length_eq_zero (by simpa using hl)
   rw [this] at hi;exact hi
 |m::ms,os,hn,hs,hl,i,hi=>by
  rw [List.nodup_cons] at hn
  have hm:=hs m (List.mem_cons_self ..)
  by_cases h:i=m
  ·rw [h];exact List.mem_cons_self ..
  ·refine List.mem_cons_of_mem _ (x6 hn.2 (os:=os.erase m) (fun j hj=> ?_) ?_ i ?_)
   ·have:j≠m:=fun e=>hn.1 (e ▸ hj)
    exact (List.mem_erase_of_ne this).2 (hs j (List.mem_cons_of_mem _ hj))
   ·rw [List.length_erase_of_mem hm,hl];simp
   ·exact (List.mem_erase_of_ne h).2 hi
theorem wk {g:Gr} {x:Int} :(cS g x).length≤g.es.length:=gB
end Go.Ab
end
section
namespace Go.Ab
open Go.Proofs
attribute [local congr] ACall.congr gd.congr Nx.congr
set_option maxRecDepth 10000
set_option maxHeartbeats 4000000
def vI (ls:List (List Int)):List (List D):=ls.map fun l=> [sI l]
theorem vI_length {ls:List (List Int)} :(vI ls).length=ls.length:=by simp [vI]
theorem zn {ls:List (List Int)} {k:Nat} (h:k<ls.length) (d:List D):(vI ls).getD k d= [sI (ls.getD k [])]:=by
 simp [vI,List.getD_eq_getElem?_getD,List.getElem?_eq_getElem h]
attribute [go_sem] vI_length
def zo (l:List Int) (i:Nat):List Int:=l.take i++l.drop (i+1)
def Ev:Nat→List Int→List (List Int)
 |0,_=> [[]]
 |n+1,l=>(List.range l.length).flatMap fun i=>(Ev n (zo l i)).map fun t=>l.getD i 0::t
def NB (n:Nat) (l:List Int) (k:Nat):List (List Int):=(List.range k).flatMap fun i=>(Ev n (zo l i)).map fun t=>l.getD i 0::t
def NC:Nat→Nat
 |0=>1
 |n+1=>(n+1)*NC n
end Go.Ab
end
section
namespace Go.Ab
open Go.Proofs
attribute [local congr] ACall.congr gd.congr Nx.congr
set_option maxRecDepth 10000
set_option maxHeartbeats 8000000
def Iz (g:Gr):Nat→Fr→Bool
 |0,f=>decide ((f.pl.length:Int)=g.n)
 |m+1,f=>decide ((f.pl.length:Int)=g.n)||(List.range g.n.toNat).any fun x=>aJ g f (x:Int)&&(Ev (cS g (x:Int)).length (cS g (x:Int))).any fun o=>Iz g m (aL g f (x:Int) o).2
def ND (g:Gr) (m:Nat) (f:Fr) (x:Nat):Bool:=aJ g f (x:Int)&&(Ev (cS g (x:Int)).length (cS g (x:Int))).any fun o=>Iz g m (aL g f (x:Int) o).2
theorem AE {g:Gr} {f:Fr} {x:Int} {o:List Int} :(aL g f x o).2.row.length≤f.row.length+o.length+1∧(aL g f x o).2.pl.length=f.pl.length+1:=by
 obtain ⟨a,b,ha,hb,hab,Bg⟩:=AD f.row x
 have:=x5 (g:=g) (x:=x) (outs:=o)
 have e:aL g f x o=(((f.row.take b).drop a,0),⟨f.row.take a++bH g x o++f.row.drop b,f.pl++ [x]⟩):=by
  simp only [aL,ha,hb,Int.toNat_natCast]
 rw [e]
 refine ⟨?_,by simp⟩
 show (f.row.take a++bH g x o++f.row.drop b).length≤_
 rw [List.length_append,List.length_append,List.length_take,List.length_drop]
 omega
end Go.Ab
end
section
namespace Go.Ab
open Go.Proofs
attribute [local congr] ACall.congr gd.congr Nx.congr
set_option maxRecDepth 10000
set_option maxHeartbeats 4000000
end Go.Ab
end
section
namespace Go.Ab
open Go.Proofs
attribute [local congr] ACall.congr gd.congr Nx.congr
set_option maxRecDepth 10000
set_option maxHeartbeats 4000000
def g9:Gr:=⟨3, [(0,1),(0,2),(1,2)]⟩
def Ph:Fr:=⟨[], []⟩
def Pj:Fr:=⟨[(0,0,1),(1,0,2)], [0]⟩
def Pm:Fr:=⟨[(2,1,2),(1,0,2)], [0,1]⟩
def Pn:Fr:=⟨[(-1,2, -1)], [0,1,2]⟩
end Go.Ab
end
section
namespace Go.Ab
open Go.Proofs
set_option maxRecDepth 10000
def AF (g:Gr) (t:It):Prop:=(t.1= -1∧t.2.2= -1)∨(0≤t.1∧t.1<g.es.length∧t.2.1=(g.es.getD t.1.toNat (0,0)).1∧t.2.2=(g.es.getD t.1.toNat (0,0)).2)
structure iM (g:Gr) (f:Fr):Prop where
 it:∀t∈f.row,AF g t
 pl:f.pl.Nodup
 F9:∀x∈f.pl,0≤x∧x<g.n
theorem jq {row:List It} {x:Int} :∀k:Nat,(iJ row x k).2.2=gr row x k
 |0=>rfl
 |k+1=>by
  rw [q7,fH]
  split
  ·show (iJ row x k).2.2+1=_
   rw [jq k]
  ·exact jq k
theorem oy {row:List It} {x:Int} {j:Nat} :∀d:Nat,gr row x j≤gr row x (j+d)
 |0=>Int.le_refl _
 |d+1=>by
  have:=oy (row:=row) (x:=x) (j:=j) d
  rw [← Nat.add_assoc,fH]
  split<;>omega
theorem jr {row:List It} {x:Int} :∀ {k:Nat},(∀j,j<k→(row.getD j (0,0,0)).2.2≠x)→gr row x k=0
 |0,_=>rfl
 |k+1,h=>by
  rw [fH,if_neg (h k (by omega))]
  exact jr fun j hj=>h j (by omega)
theorem oz {row:List It} {x:Int} {b:Nat} :∀ {d:Nat},(∀j,b≤j→j<b+d→(row.getD j (0,0,0)).2.2≠x)→gr row x (b+d)=gr row x b
 |0,_=>rfl
 |d+1,h=>by
  rw [← Nat.add_assoc,fH,if_neg (h (b+d) (by omega) (by omega))]
  exact oz fun j h1 h2=>h j h1 (by omega)
theorem lM {f:Edge→Int} {g:Gr} {x:Int} (h0:0≤x) (h1:x<g.n):uF f g x=aU f g.es g.es.length x:=if_pos ⟨h0,h1⟩
theorem oL {g:Gr} {e:Int} (h0:0≤e) (h1:e<g.es.length):0<bM g (g.es.getD e.toNat (0,0)).2:=by
 refine List.length_pos_iff.2 fun h=> ?_
 have hm:e∈aU (·.2) g.es g.es.length (g.es.getD e.toNat (0,0)).2:=by
  simp only [aU,List.mem_map,List.mem_filter,List.mem_range,decide_eq_true_eq]
  exact ⟨e.toNat,⟨by omega,rfl⟩,by simp;omega⟩
 rw [h] at hm;cases hm
theorem s9 {row:List It} {p:It→Bool} {a b:Nat} (hb:b≤row.length):((row.take b).drop a).any p=true↔∃j,a≤j∧j<b∧p (row.getD j (0,0,0))=true:=by
 rw [List.any_eq_true]
 constructor
 ·rintro ⟨t,ht,hp⟩
  obtain ⟨k,hk,rfl⟩:=List.mem_iff_getElem.1 ht
  simp only [List.length_drop,List.length_take] at hk
  refine ⟨a+k,by omega,by omega, ?_⟩
  rw [List.getD_eq_getElem?_getD,List.getElem?_eq_getElem (show a+k<row.length by omega)]
  simpa using hp
 ·rintro ⟨j,h1,h2,hp⟩
  rw [List.getD_eq_getElem?_getD,List.getElem?_eq_getElem (show j<row.length by omega)] at hp
  refine ⟨row[j], ?_,hp⟩
  refine List.mem_iff_getElem.2 ⟨j - a,by simp;omega, ?_⟩
  simp only [List.getElem_drop,List.getElem_take]
  congr 1;omega
theorem AF.head {g:Gr} (hm:aV g=true) {t:It} (h:AF g t):(0≤t.1↔t.2.2≠ -1)∧ -1≤t.2.2:=by
 rcases h with ⟨h1,h2⟩|⟨h1,h2,_,h4⟩
 ·omega
 ·obtain ⟨_,h5,_⟩:=dX hm (k:=t.1.toNat) (by omega)
  omega
theorem q8 {g:Gr} (hm:aV g=true) {f:Fr} (hi:iM g f) (x:Int):kU g f x=aJ g f x:=by
 by_cases hx:x<0∨g.n≤x∨x∈f.pl
 ·rw [kU,aJ,if_pos hx,if_pos hx]
 rw [kU,aJ,if_neg hx,if_neg hx]
 have hx0:0≤x∧x<g.n:=by
  constructor
  ·exact Int.not_lt.1 fun h=>hx (.inl h)
  ·exact Int.not_le.1 fun h=>hx (.inr (.inl h))
 have hmem:∀j,j<f.row.length→AF g (f.row.getD j (0,0,0)):=fun j hj=>hi.it _ (bf hj)
 rw [lM hx0.1 hx0.2]
 have hN:(aU (fun e=>e.2) g.es g.es.length x).length=bM g x:=rfl
 rw [hN]
 have Gh:(cr f.row x).2.2=gr f.row x f.row.length:=jq _
 by_cases h0:bM g x=0
 ·rw [if_pos h0,h0,decide_eq_true rfl,Bool.true_or,Bool.and_true,decide_eq_true_eq,Gh,jr]
  ·rfl
  ·intro j hj he
   rcases hmem j hj with ⟨_,h2⟩|⟨h1,h2,_,h4⟩
   ·omega
   ·have:=oL h1 h2
    rw [← h4,he] at this
    omega
 ·rw [if_neg h0,decide_eq_false h0,Bool.false_or,Gh]
  generalize bM g x=need at h0
  rcases fR (row:=f.row) (x:=x) f.row.length with ⟨hs,hno⟩|⟨a,b,c,hs,hab,Bg,hc0,xg,ha,hb,hlo,hhi⟩
  ·rw [jr hno]
   have e1:decide ((0:Int)=(need:Int))=false:=decide_eq_false (by omega)
   rw [e1,Bool.false_and,Bool.and_false]
  ·have hs':cr f.row x=((a:Int),(b:Int),(c:Int)):=hs
   have Js:gr f.row x f.row.length=c:=by rw [← Gh,hs']
   rw [hs',Js]
   simp only [Int.toNat_natCast]
   rw [Bool.and_comm]
   by_cases Jc:¬(c:Int)=need
   ·rw [decide_eq_false Jc,Bool.and_false,Bool.and_false]
   rw [Decidable.not_not] at Jc
   rw [decide_eq_true Jc,Bool.and_true,Bool.and_true,s7]
   congr 1
   rw [Bool.eq_iff_iff,s9 Bg,List.any_eq_true]
   have ma:gr f.row x a=0:=jr hlo
   have Po:gr f.row x (a+1)=1:=by rw [fH,if_pos ha,ma];rfl
   have mb:gr f.row x b=need:=by
    have h:=oz (row:=f.row) (x:=x) (b:=b) (d:=f.row.length - b) fun j h1 h2=>hhi j h1 (by omega)
    rw [show b+(f.row.length - b)=f.row.length by omega,Js] at h
    omega
   have Pp:gr f.row x (b - 1)+1=need:=by
    have h:=fH (row:=f.row) (x:=x) (k:=b - 1)
    rw [if_pos hb,show b - 1+1=b by omega,mb] at h
    omega
   constructor
   ·rintro ⟨j,h1,h2,hp⟩
    simp only [ox,Bool.and_eq_true,decide_eq_true_eq] at hp
    have hja:j≠a:=fun e=>hp.1 (by rw [e];exact ha)
    have hjb:j≠b - 1:=fun e=>hp.1 (by rw [e];exact hb)
    have g1:=oy (row:=f.row) (x:=x) (j:=a+1) (j - (a+1))
    rw [show a+1+(j - (a+1))=j by omega] at g1
    have g2:=oy (row:=f.row) (x:=x) (j:=j) (b - 1 - j)
    rw [show j+(b - 1 - j)=b - 1 by omega] at g2
    exact ⟨j,List.mem_range.2 (by omega),s8.2 ⟨⟨hp.1,((hmem j (by omega)).head hm).1.2 hp.2⟩,by omega,by omega⟩⟩
   ·rintro ⟨j,hj,hl⟩
    have hj:=List.mem_range.1 hj
    obtain ⟨⟨h1,h2⟩,h3,h4⟩:=s8.1 hl
    refine ⟨j, ?_, ?_, ?_⟩
    ·refine Nat.not_lt.1 fun h=> ?_
     have:=jr (row:=f.row) (x:=x) (k:=j) fun i hi=>hlo i (by omega)
     omega
    ·refine Nat.not_le.1 fun h=> ?_
     have:=oz (row:=f.row) (x:=x) (b:=b) (d:=j - b) fun i h1 h2=>hhi i h1 (by omega)
     rw [show b+(j - b)=j by omega] at this
     omega
    ·simp only [ox,Bool.and_eq_true,decide_eq_true_eq]
     exact ⟨h1,((hmem j hj).head hm).1.1 h2⟩
theorem zq:∀ {ms os:List Int},ms.Nodup→(∀i∈ms,i∈os)→os.length=ms.length→os.Perm ms
 | [],os,_,_,hl=>by
   have h:os= []:=List.eq_nil_of_length_eq_zero (by simpa using hl)
   rw [h]
 |m::ms,os,hn,hs,hl=>by
  rw [List.nodup_cons] at hn
  have hm:=hs m (List.mem_cons_self ..)
  refine (List.perm_cons_erase hm).trans (List.Perm.cons m (zq hn.2 (fun j hj=> ?_) ?_))
  ·have:j≠m:=fun e=>hn.1 (e ▸ hj)
   exact (List.mem_erase_of_ne this).2 (hs j (List.mem_cons_of_mem _ hj))
  ·rw [List.length_erase_of_mem hm,hl];simp
theorem aP {g:Gr} {f:Fr} {x:Int} (h:aJ g f x=true):0≤x∧x<g.n∧x∉f.pl:=by
 unfold aJ at h
 by_cases hx:x<0∨g.n≤x∨x∈f.pl
 ·rw [if_pos hx] at h;cases h
 ·exact ⟨Int.not_lt.1 fun h=>hx (.inl h),Int.not_le.1 fun h=>hx (.inr (.inl h)),fun h=>hx (.inr (.inr h))⟩
theorem CW {g:Gr} {x:Int} {outs:List Int} (ho:∀i∈outs,i∈cS g x):∀t∈bH g x outs,AF g t:=by
 intro t ht
 unfold bH at ht
 split at ht
 ·rw [List.mem_singleton] at ht
  rw [ht];exact .inl ⟨rfl,rfl⟩
 ·obtain ⟨i,hi,rfl⟩:=List.mem_map.1 ht
  obtain ⟨⟨h1,h2⟩,h3⟩:=gC (ho i hi)
  exact .inr ⟨h1,h2,h3.symm,rfl⟩
theorem CX {g:Gr} {f:Fr} (hi:iM g f) {x:Int} (hR:aJ g f x=true) {outs:List Int} (ho:∀i∈outs,i∈cS g x):iM g (aL g f x outs).2:=by
 obtain ⟨h0,h1,h2⟩:=aP hR
 refine ⟨fun t ht=> ?_, ?_,fun y hy=> ?_⟩
 ·simp only [aL,List.mem_append] at ht
  rcases ht with (ht|ht)|ht
  ·exact hi.it t (List.mem_of_mem_take ht)
  ·exact CW ho t ht
  ·exact hi.it t (List.mem_of_mem_drop ht)
 ·show (f.pl++ [x]).Nodup
  rw [List.nodup_append]
  refine ⟨hi.pl,by simp,fun a ha b hb e=>h2 ?_⟩
  rw [List.mem_singleton] at hb
  rw [← hb, ← e];exact ha
 ·have hy:y∈f.pl++ [x]:=hy
  rcases List.mem_append.1 hy with h|h
  ·exact hi.F9 y h
  ·rw [List.mem_singleton] at h
   rw [h];exact ⟨h0,h1⟩
end Go.Ab
end
section
namespace Go.Ab
open Go.Proofs
set_option maxRecDepth 10000
def kr (x:Int) (t:It):Bool:=decide (t.2.2=x)
structure AG (x:Int) (X:List It):Prop where
 fst:∃p X',X=p::X'∧p.2.2=x
 Fb:∃X' q,X=X'++ [q]∧q.2.2=x
 al:∀t∈X,t.2.2=x∨t.2.2= -1
def fI (x:Int) (l:List It):Prop:=∀t∈l,t.2.2≠x
theorem fI.app {x:Int} {l m:List It} (h:fI x l) (h':fI x m):fI x (l++m):=fun t ht=>(List.mem_append.1 ht).elim (h t) (h' t)
theorem fI.left {x:Int} {l m:List It} (h:fI x (l++m)):fI x l:=fun t ht=>h t (List.mem_append.2 (.inl ht))
theorem fI.right {x:Int} {l m:List It} (h:fI x (l++m)):fI x m:=fun t ht=>h t (List.mem_append.2 (.inr ht))
theorem AG.Mh {x y:Int} {X:List It} (h:AG x X) (hxy:x≠y) (hy:0≤y):fI y X:=fun t ht e=>by
 rcases h.al t ht with h1|h1<;>omega
theorem jY {row:List It} {x:Int} :∀ {k:Nat},k≤row.length→gr row x k=((row.take k).countP (kr x):Nat)
 |0,_=>by simp [gr]
 |k+1,h=>by
  rw [fH,jY (k:=k) (by omega),List.take_add_one,List.getElem?_eq_getElem (show k<row.length by omega),List.countP_append]
  simp only [Option.toList,List.countP_cons,List.countP_nil,kr,decide_eq_true_eq,List.getD_eq_getElem?_getD,List.getElem?_eq_getElem (show k<row.length by omega),Option.getD_some]
  split<;>simp
theorem AH {A X C:List It} {p:It} {X':List It} (h:X=p::X'):(A++X++C).getD A.length (0,0,0)=p:=by
 subst h;simp [List.getD_eq_getElem?_getD]
theorem AI {A X C:List It} {q:It} {X':List It} (h:X=X'++ [q]):(A++X++C).getD (A.length+X.length - 1) (0,0,0)=q:=by
 subst h
 have e:A.length+(X'++ [q]).length - 1=(A++X').length:=by simp
 rw [e,show A++(X'++ [q])++C=(A++X')++([q]++C) by simp]
 simp [List.getD_eq_getElem?_getD]
theorem AJ {A L:List It} {j:Nat} (h:j<A.length):(A++L).getD j (0,0,0)∈A:=by
 rw [List.getD_eq_getElem?_getD,List.getElem?_append_left h,List.getElem?_eq_getElem h]
 exact List.getElem_mem h
theorem AK {A L:List It} {j:Nat} (h:A.length≤j) (h':j<(A++L).length):(A++L).getD j (0,0,0)∈L:=by
 rw [List.length_append] at h'
 rw [List.getD_eq_getElem?_getD,List.getElem?_append_right h,List.getElem?_eq_getElem (by omega)]
 exact List.getElem_mem _
theorem zu {A X C:List It} {x:Int} (hA:fI x A) (hC:fI x C) (hX:AG x X):
 (cr (A++X++C) x).1=(A.length:Int)∧(cr (A++X++C) x).2.1=((A.length+X.length:Nat):Int)∧(cr (A++X++C) x).2.2=(X.countP (kr x):Nat):=by
 have Ae:(cr (A++X++C) x).2.2=(X.countP (kr x):Nat):=by
  unfold cr
  rw [jq,jY (Nat.le_refl _),List.take_length,List.countP_append,List.countP_append]
  have h1:A.countP (kr x)=0:=List.countP_eq_zero.2 fun t ht=>by simp [kr,hA t ht]
  have h2:C.countP (kr x)=0:=List.countP_eq_zero.2 fun t ht=>by simp [kr,hC t ht]
  rw [h1,h2];simp
 obtain ⟨p,X',e1,hp⟩:=hX.fst
 obtain ⟨Pq,q,e2,hq⟩:=hX.Fb
 have g1:=AH (A:=A) (C:=C) e1
 have g2:=AI (A:=A) (C:=C) e2
 have IA:0<X.length:=by rw [e1];simp
 have hlen:(A++X++C).length=A.length+X.length+C.length:=by simp;omega
 rcases fR (row:=A++X++C) (x:=x) (A++X++C).length with ⟨_,hno⟩|⟨a,b,c,hs,hab,Bg,hc0,xg,ha,hb,hlo,hhi⟩
 ·exact absurd (by rw [g1];exact hp) (hno A.length (by omega))
 ·have hs':cr (A++X++C) x=((a:Int),(b:Int),(c:Int)):=hs
  refine ⟨?_, ?_,Ae⟩
  ·rw [hs']
   have h1:¬A.length<a:=fun h=>hlo _ h (by rw [g1];exact hp)
   have h2:¬a<A.length:=fun h=>hA _ (by have:=AJ (L:=X++C) h;rw [← List.append_assoc] at this;exact this) ha
   simp only;omega
  ·rw [hs']
   have h1:¬b<A.length+X.length:=fun h=>hhi (A.length+X.length - 1) (by omega) (by omega) (by rw [g2];exact hq)
   have h2:¬A.length+X.length<b:=fun h=>hC _ (AK (A:=A++X) (j:=b - 1) (by simp;omega) (by omega)) hb
   simp only;omega
theorem q9 {g:Gr} (hm:aV g=true) {f:Fr} (hi:iM g f) {A X C:List It} {x:Int} (h0:0≤x) (h1:x<g.n) (hp:x∉f.pl) (hr:f.row=A++X++C) (hA:fI x A) (hC:fI x C) (hX:AG x X)
 (hc:X.countP (kr x)=bM g x):aJ g f x=true:=by
 rw [← q8 hm hi,kU,if_neg (by rintro (h|h|h);omega;omega;exact hp h)]
 obtain ⟨e1,e2,e3⟩:=zu hA hC hX
 rw [hr,e1,e2,e3,lM h0 h1,Bool.and_eq_true,decide_eq_true_eq]
 refine ⟨by rw [hc];rfl, ?_⟩
 rw [Bool.or_eq_true];right
 simp only [s7,Int.toNat_natCast]
 rw [List.take_append_of_le_length (by simp),List.take_of_length_le (by simp),List.drop_left,Bool.not_eq_true',List.any_eq_false]
 intro t ht
 simp only [ox,Bool.and_eq_true,decide_eq_true_eq]
 rcases hX.al t ht with h|h<;>simp [h]
theorem cQ {g:Gr} (hm:aV g=true) {f:Fr} (hi:iM g f) {x:Int} (hR:aJ g f x=true) (hn:bM g x≠0):
 ∃A X C,f.row=A++X++C∧fI x A∧fI x C∧AG x X∧X.countP (kr x)=bM g x:=by
 obtain ⟨h0,h1,h2⟩:=aP hR
 rw [← q8 hm hi,kU,if_neg (by rintro (h|h|h);omega;omega;exact h2 h),lM h0 h1,Bool.and_eq_true,decide_eq_true_eq] at hR
 have hN:(aU (fun e=>e.2) g.es g.es.length x).length=bM g x:=rfl
 rw [hN,decide_eq_false hn,Bool.false_or] at hR
 obtain ⟨hc,hb⟩:=hR
 have Ae:(f.row.countP (kr x):Int)=bM g x:=by
  rw [← hc];unfold cr
  rw [jq,jY (Nat.le_refl _),List.take_length]
 rcases fR (row:=f.row) (x:=x) f.row.length with ⟨hs,hno⟩|⟨a,b,c,hs,hab,Bg,hc0,xg,ha,hb',hlo,hhi⟩
 ·have:cr f.row x=(-1,0,0):=hs
  rw [this] at hc
  exfalso;simp only at hc;omega
 ·have hs':cr f.row x=((a:Int),(b:Int),(c:Int)):=hs
  rw [hs'] at hb
  simp only [Int.toNat_natCast] at hb
  have hA:fI x (f.row.take a):=fun t ht=>by
   obtain ⟨j,hj,rfl⟩:=List.mem_iff_getElem.1 ht
   simp only [List.length_take] at hj
   have:=hlo j (by omega)
   rw [List.getD_eq_getElem?_getD,List.getElem?_eq_getElem (show j<f.row.length by omega)] at this
   simpa using this
  have hC:fI x (f.row.drop b):=fun t ht=>by
   obtain ⟨j,hj,rfl⟩:=List.mem_iff_getElem.1 ht
   simp only [List.length_drop] at hj
   have:=hhi (b+j) (by omega) (by omega)
   rw [List.getD_eq_getElem?_getD,List.getElem?_eq_getElem (show b+j<f.row.length by omega)] at this
   simpa using this
  have hrow:f.row=f.row.take a++(f.row.take b).drop a++f.row.drop b:=by
   have e1:f.row.take a=(f.row.take b).take a:=by rw [List.take_take,Nat.min_eq_left (by omega)]
   rw [e1,List.take_append_drop,List.take_append_drop]
  refine ⟨f.row.take a,(f.row.take b).drop a,f.row.drop b,hrow,hA,hC,⟨?_, ?_, ?_⟩, ?_⟩
  ·refine ⟨f.row.getD a (0,0,0),(f.row.take b).drop (a+1), ?_,ha⟩
   rw [List.drop_eq_getElem_cons (by simp;omega)]
   congr 1
   rw [List.getD_eq_getElem?_getD,List.getElem?_eq_getElem (show a<f.row.length by omega)]
   simp
  ·refine ⟨(f.row.take (b - 1)).drop a,f.row.getD (b - 1) (0,0,0), ?_,hb'⟩
   have e:f.row.take b=f.row.take (b - 1)++ [f.row.getD (b - 1) (0,0,0)]:=by
    conv=>lhs;rw [show b=b - 1+1 by omega]
    rw [List.take_add_one,List.getD_eq_getElem?_getD,List.getElem?_eq_getElem (show b - 1<f.row.length by omega)]
    rfl
   rw [e,List.drop_append_of_le_length (by simp;omega)]
  ·intro t ht
   rw [s7,Bool.not_eq_true',List.any_eq_false] at hb
   have:=hb t ht
   simp only [ox,Bool.and_eq_true,decide_eq_true_eq,not_and] at this
   by_cases h:t.2.2=x
   ·exact .inl h
   ·exact .inr (Decidable.byContradiction fun h'=>this h h')
  ·have h1:(f.row.take a).countP (kr x)=0:=List.countP_eq_zero.2 fun t ht=>by simp [kr,hA t ht]
   have h2:(f.row.drop b).countP (kr x)=0:=List.countP_eq_zero.2 fun t ht=>by simp [kr,hC t ht]
   rw [hrow,List.countP_append,List.countP_append,h1,h2] at Ae
   omega
theorem jZ {g:Gr} {f:Fr} {A X C:List It} {x:Int} (o:List Int) (hr:f.row=A++X++C) (hA:fI x A) (hC:fI x C) (hX:AG x X):
 aL g f x o=((X,0),⟨A++bH g x o++C,f.pl++ [x]⟩):=by
 obtain ⟨e1,e2,e3⟩:=zu hA hC hX
 have e4:max (A.length:Int) 0=(A.length:Int):=by omega
 unfold aL
 rw [hr,e1,e2,e4,Int.toNat_natCast,Int.toNat_natCast]
 rw [List.take_append_of_le_length (show A.length+X.length≤(A++X).length by simp),List.take_of_length_le (show (A++X).length≤A.length+X.length by simp),List.drop_left]
 rw [show (A++X++C).take A.length=A by rw [List.append_assoc,List.take_left]]
 rw [show (A++X++C).drop (A.length+X.length)=C by rw [← List.length_append,List.drop_left]]
theorem ta {g:Gr} {f:Fr} {x:Int} (o:List Int) (hr:fI x f.row):aL g f x o=(([],0),⟨bH g x o++f.row,f.pl++ [x]⟩):=by
 have hs:cr f.row x=(-1,0,0):=by
  rcases fR (row:=f.row) (x:=x) f.row.length with ⟨hs,_⟩|⟨a,b,c,hs,hab,Bg,hc0,xg,ha,hb',hlo,hhi⟩
  ·exact hs
  ·exact absurd ha (hr _ (bf (by omega)))
 have e4:max (-1:Int) 0=0:=by omega
 unfold aL
 rw [hs]
 simp [e4]
end Go.Ab
end
section
namespace Go.Ab
open Go.Proofs
set_option maxRecDepth 10000
structure x7 (g:Gr) (f:Fr):Prop extends iM g f where
 tail:∀t∈f.row,0≤t.1→t.2.1∈f.pl
 head:∀t∈f.row,0≤t.1→t.2.2∉f.pl
 once:f.row.Pairwise fun s t=>0≤s.1→s.1≠t.1
 low:∀i,i<g.es.length→hd g i∈f.pl→tl g i∈f.pl
 src:(f.pl= []∧f.row= [])∨∃s∈f.pl,bM g s=0
theorem zv (g:Gr):x7 g ⟨[], []⟩:=
 {it:=by simp,pl:=by simp,F9:=by simp,tail:=by simp,head:=by simp,once:=by simp,low:=by simp,src:= .inl ⟨rfl,rfl⟩}
theorem x8 {g:Gr} (hm:aV g=true) {f:Fr} (hi:x7 g f) {x:Int} (hR:aJ g f x=true) {i:Nat} (hl:i<g.es.length) (hx:hd g i=x):∃t∈f.row,t.1=i∧t.2.1=tl g i∧t.2.2=x:=by
 have hn:bM g x≠0:=by
  have:=oL (g:=g) (e:=(i:Int)) (by omega) (by omega)
  rw [Int.toNat_natCast,show (g.es.getD i (0,0)).2=x from hx] at this
  omega
 obtain ⟨A,X,C,hr,hA,hC,hX,hc⟩:=cQ hm hi.toiM hR hn
 have hN:(aU (fun e=>e.2) g.es g.es.length x).length=bM g x:=rfl
 have hok:∀t∈f.row,t.2.2=x→0≤t.1∧t.1<g.es.length∧t.2.1=(g.es.getD t.1.toNat (0,0)).1∧t.2.2=(g.es.getD t.1.toNat (0,0)).2:=fun t ht he=>by
  rcases hi.it t ht with ⟨_,h2⟩|h
  ·have:=(aP hR).1;omega
  ·exact h
 have hmem:∀t∈X,t∈f.row:=fun t ht=>by rw [hr];simp [ht]
 have Mi:=zq (ms:=(X.filter (kr x)).map (·.1)) (os:=aU (fun e=>e.2) g.es g.es.length x)
 have key:∀i∈aU (fun e=>e.2) g.es g.es.length x,i∈(X.filter (kr x)).map (·.1):=by
  refine x6 (ms:=(X.filter (kr x)).map (·.1)) (os:=aU (fun e=>e.2) g.es g.es.length x) ?_ ?_ ?_
  ·have h1:X.Pairwise fun s t=>0≤s.1→s.1≠t.1:=by
    have:=hi.once
    rw [hr,List.pairwise_append,List.pairwise_append] at this
    exact this.1.2.1
   have h2:=h1.filter (kr x)
   rw [List.Nodup,List.pairwise_map]
   refine h2.imp_of_mem fun {a b} ha hb h=>h ?_
   obtain ⟨ha1,ha2⟩:=List.mem_filter.1 ha
   exact (hok a (hmem a ha1) (by simpa [kr] using ha2)).1
  ·intro e he
   obtain ⟨t,ht,rfl⟩:=List.mem_map.1 he
   obtain ⟨ht1,ht2⟩:=List.mem_filter.1 ht
   have ht2:t.2.2=x:=by simpa [kr] using ht2
   obtain ⟨h1,h2,h3,h4⟩:=hok t (hmem t ht1) ht2
   simp only [aU,List.mem_map,List.mem_filter,List.mem_range,decide_eq_true_eq]
   exact ⟨t.1.toNat,⟨by omega,by rw [← h4];exact ht2⟩,by simp;omega⟩
  ·rw [hN, ← hc,List.length_map,List.countP_eq_length_filter]
 have hie:(i:Int)∈aU (fun e=>e.2) g.es g.es.length x:=by
  simp only [aU,List.mem_map,List.mem_filter,List.mem_range,decide_eq_true_eq]
  exact ⟨i,⟨hl,hx⟩,rfl⟩
 obtain ⟨t,ht,he⟩:=List.mem_map.1 (key _ hie)
 obtain ⟨ht1,ht2⟩:=List.mem_filter.1 ht
 have ht2:t.2.2=x:=by simpa [kr] using ht2
 obtain ⟨h1,h2,h3,h4⟩:=hok t (hmem t ht1) ht2
 refine ⟨t,hmem t ht1,he, ?_,ht2⟩
 rw [h3,he,Int.toNat_natCast];rfl
theorem rq {g:Gr} (hm:aV g=true) {f:Fr} (hi:iM g f) {x:Int} (h0:0≤x) (hn:bM g x=0):fI x f.row:=by
 intro t ht he
 rcases hi.it t ht with ⟨_,h2⟩|⟨h1,h2,_,h4⟩
 ·omega
 ·have:=oL h1 h2
  rw [← h4,he] at this
  omega
theorem ru {g:Gr} (hm:aV g=true) {f:Fr} (hi:iM g f) {x:Int} (hR:aJ g f x=true):
 ∃A X C,f.row=A++X++C∧fI x A∧fI x C∧(∀t∈X,t.2.2=x∨t.2.2= -1)∧∀o,aL g f x o=((X,0),⟨A++bH g x o++C,f.pl++ [x]⟩):=by
 by_cases hn:bM g x=0
 ·have h:=rq hm hi (aP hR).1 hn
  exact ⟨[], [],f.row,by simp,fun t ht=>(by cases ht),h,fun t ht=>(by cases ht),fun o=>by rw [ta o h];simp⟩
 ·obtain ⟨A,X,C,hr,hA,hC,hX,_⟩:=cQ hm hi hR hn
  exact ⟨A,X,C,hr,hA,hC,hX.al,fun o=>jZ o hr hA hC hX⟩
theorem CY {g:Gr} {x i:Int} (h:i∈cS g x):∃k:Nat,i=k∧k<g.es.length∧tl g k=x:=by
 obtain ⟨⟨h1,h2⟩,h3⟩:=gC h
 exact ⟨i.toNat,by omega,by omega,h3⟩
theorem js {g:Gr} {x:Int} {o:List Int} (ho:∀i∈o,i∈cS g x) {t:It} (h:t∈bH g x o):(t.1= -1∧t.2.2= -1)∨∃k:Nat,k<g.es.length∧t.1=k∧t.2.1=x∧t.2.2=hd g k∧tl g k=x∧t.1∈o:=by
 unfold bH at h
 split at h
 ·rw [List.mem_singleton] at h
  rw [h];exact .inl ⟨rfl,rfl⟩
 ·obtain ⟨i,Mj,rfl⟩:=List.mem_map.1 h
  obtain ⟨k,rfl,h1,h2⟩:=CY (ho i Mj)
  exact .inr ⟨k,h1,rfl,rfl,by simp [zm];rfl,h2,Mj⟩
theorem oM {g:Gr} (hm:aV g=true) {f:Fr} (hi:x7 g f) {x y:Int} (hx:x∉f.pl) (hR:aJ g f y=true) {o:List Int} (ho:∀i∈o,i∈cS g x):fI y (bH g x o):=by
 intro t ht he
 rcases js ho ht with ⟨_,h⟩|⟨k,h1,h2,h3,h4,h5,_⟩
 ·have:=(aP hR).1;omega
 ·obtain ⟨s,hs,e1,e2,e3⟩:=x8 hm hi hR h1 (by rw [← h4];exact he)
  refine hx ?_
  rw [← h5, ← e2]
  exact hi.tail s hs (by omega)
theorem jt {g:Gr} (hm:aV g=true) {f:Fr} (hi:x7 g f) {x:Int} (hR:aJ g f x=true) {o:List Int} (ho:o.Perm (cS g x)):x7 g (aL g f x o).2:=by
 have IB:∀i∈o,i∈cS g x:=fun i h=>ho.mem_iff.1 h
 have hx:=(aP hR).2.2
 have h0:=CX hi.toiM hR IB
 obtain ⟨A,X,C,hr,hA,hC,hX,hs⟩:=ru hm hi.toiM hR
 have ij:(aL g f x o).2.pl=f.pl++ [x]:=rfl
 have hrow:(aL g f x o).2.row=A++bH g x o++C:=by rw [hs o]
 have Lb:∀t∈A,t∈f.row:=fun t ht=>by rw [hr];simp [ht]
 have Lc:∀t∈C,t∈f.row:=fun t ht=>by rw [hr];simp [ht]
 have IC:=oM hm hi hx hR IB
 refine {toiM:=h0,tail:= ?_,head:= ?_,once:= ?_,low:= ?_,src:= .inr ?_}
 ·intro t ht h1
  rw [ij]
  rw [hrow,List.mem_append,List.mem_append] at ht
  rcases ht with (ht|ht)|ht
  ·exact List.mem_append_left _ (hi.tail t (Lb t ht) h1)
  ·rcases js IB ht with ⟨h,_⟩|⟨k,_,_,h3,_⟩
   ·omega
   ·rw [h3];simp
  ·exact List.mem_append_left _ (hi.tail t (Lc t ht) h1)
 ·intro t ht h1
  rw [ij,List.mem_append,List.mem_singleton]
  rw [hrow,List.mem_append,List.mem_append] at ht
  rcases ht with (ht|ht)|ht
  ·rintro (h|h)
   ·exact hi.head t (Lb t ht) h1 h
   ·exact hA t ht h
  ·rintro (h|h)
   ·rcases js IB ht with ⟨h',_⟩|⟨k,hk,_,_,h4,h5,_⟩
    ·omega
    ·rw [h4] at h
     have:=hi.low k hk h
     rw [h5] at this;exact hx this
   ·exact IC t ht h
  ·rintro (h|h)
   ·exact hi.head t (Lc t ht) h1 h
   ·exact hC t ht h
 ·have sJ:=hi.once
  rw [hr,List.pairwise_append,List.pairwise_append] at sJ
  obtain ⟨⟨NF,_,_⟩,NG,Ld⟩:=sJ
  have old:∀s∈f.row,0≤s.1→∀t∈bH g x o,s.1≠t.1:=fun s hs h1 t ht e=>by
   rcases js IB ht with ⟨h,_⟩|⟨k,hk,h2,h3,h4,h5,_⟩
   ·omega
   ·rcases hi.it s hs with ⟨h,_⟩|⟨_,_,h6,_⟩
    ·omega
    ·have:=hi.tail s hs h1
     rw [h6,e,h2,Int.toNat_natCast] at this
     exact hx (h5 ▸ this)
  rw [hrow,List.pairwise_append,List.pairwise_append]
  refine ⟨⟨NF, ?_,fun s hs t ht h1=>old s (Lb s hs) h1 t ht⟩,NG, ?_⟩
  ·unfold bH
   split
   ·simp
   ·refine List.pairwise_map.2 ((ho.nodup_iff.2 iL).imp fun {i j} (h:i≠j) _=> ?_)
    exact h
  ·intro s hs t ht h1
   rcases List.mem_append.1 hs with hs|hs
   ·exact Ld s (List.mem_append_left _ hs) t ht h1
   ·intro e
    exact old t (Lc t ht) (by omega) s hs e.symm
 ·intro i hl h
  rw [ij,List.mem_append,List.mem_singleton] at h ⊢
  left
  rcases h with h|h
  ·exact hi.low i hl h
  ·obtain ⟨t,ht,e1,e2,_⟩:=x8 hm hi hR hl h
   rw [← e2]
   exact hi.tail t ht (by omega)
 ·rcases hi.src with ⟨h1,h2⟩|⟨s,hs,h⟩
  ·refine ⟨x,by rw [ij];simp, ?_⟩
   refine Decidable.byContradiction fun hn=> ?_
   obtain ⟨A,X,C,hr,_,_,hX,_⟩:=cQ hm hi.toiM hR hn
   obtain ⟨p,X',e,_⟩:=hX.fst
   rw [h2,e] at hr
   simp at hr
  ·exact ⟨s,by rw [ij];simp [hs],h⟩
theorem apart {x y:Int} (hx:0≤x) (hy:0≤y) (hxy:x≠y) {A X C B Y D:List It} (h:A++X++C=B++Y++D) (hX:AG x X) (hY:AG y Y):
 (∃M,B=A++X++M∧C=M++Y++D)∨(∃M,A=B++Y++M∧D=M++X++C):=by
 obtain ⟨p,X',NH,hp⟩:=hX.fst
 obtain ⟨q,Y',NI,hq⟩:=hY.fst
 have nX:q∉X:=fun h=>hX.Mh hxy hy q h hq
 have nY:p∉Y:=fun h=>hY.Mh (Ne.symm hxy) hx p h hp
 rw [show B++Y++D=B++(Y++D) by simp,List.append_eq_append_iff] at h
 rcases h with ⟨es,h1,h2⟩|⟨cs,h1,h2⟩
 ·exact .inl ⟨es,h1,by rw [h2];simp⟩
 ·match cs,h1,h2 with
  | [],h1,h2=>exact .inl ⟨[],by simpa using h1.symm,by simpa using h2.symm⟩
  |c::cs,h1,h2=>
   have NJ:c=q:=by rw [NI] at h2;simp at h2;exact h2.1.symm
   rw [List.append_eq_append_iff] at h1
   rcases h1 with ⟨es,h3,h4⟩|⟨ds,h3,h4⟩
   ·exfalso;refine nX ?_
    rw [h4, ← NJ];simp
   ·rw [h4,List.append_assoc,List.append_eq_append_iff] at h2
    rcases h2 with ⟨es,h5,h6⟩|⟨bs,h5,h6⟩
    ·exact .inr ⟨es,by rw [h3,h5];simp,by rw [h6];simp⟩
    ·match bs,h5,h6 with
     | [],h5,h6=>exact .inr ⟨[],by rw [h3,h5];simp,by simpa using h6.symm⟩
     |b::bs,h5,h6=>
      exfalso;refine nY ?_
      have NK:b=p:=by rw [NH] at h6;simp at h6;exact h6.1.symm
      rw [h5, ← NK];simp
theorem wm {g:Gr} (hm:aV g=true) {f:Fr} (hi:x7 g f) {x y:Int} (hxy:x≠y) (zw:aJ g f x=true) (tc:aJ g f y=true)
 {a b:List Int} (ha:a.Perm (cS g x)) (hb:b.Perm (cS g y)) {A X M Y D:List It} (hr:f.row=A++X++M++Y++D) (hX:AG x X) (hY:AG y Y)
 (cX:X.countP (kr x)=bM g x) (cY:Y.countP (kr y)=bM g y)
 (nA:fI x A) (nC:fI x (M++Y++D)) (nB:fI y (A++X++M)) (nD:fI y D):
 aJ g (aL g f x a).2 y=true∧aJ g (aL g f y b).2 x=true∧(aL g (aL g f x a).2 y b).2.row=(aL g (aL g f y b).2 x a).2.row∧
 (aL g f x a).1=(aL g (aL g f y b).2 x a).1∧(aL g f y b).1=(aL g (aL g f x a).2 y b).1:=by
 obtain ⟨x0,x1,x2⟩:=aP zw
 obtain ⟨y0,y1,y2⟩:=aP tc
 have i1:=(jt hm hi zw ha).toiM
 have i2:=(jt hm hi tc hb).toiM
 have ux:=oM hm hi x2 tc (fun i h=>ha.mem_iff.1 h)
 have uy:=oM hm hi y2 zw (fun i h=>hb.mem_iff.1 h)
 have r1:f.row=A++X++(M++Y++D):=by rw [hr];simp
 have r2:f.row=(A++X++M)++Y++D:=by rw [hr]
 have e1:=jZ (g:=g) a r1 nA nC hX
 have e2:=jZ (g:=g) b r2 nB nD hY
 rw [e1] at i1 ⊢;rw [e2] at i2 ⊢
 have r3:A++bH g x a++(M++Y++D)=(A++bH g x a++M)++Y++D:=by simp
 have r4:A++X++M++bH g y b++D=A++X++(M++bH g y b++D):=by simp
 have n3:fI y (A++bH g x a++M):=((nB.left.left).app ux).app nB.right
 have n4:fI x (M++bH g y b++D):=(nC.left.left.app uy).app nC.right
 have e3:=jZ (g:=g) (f:=⟨A++bH g x a++(M++Y++D),f.pl++ [x]⟩) b r3 n3 nD hY
 have e4:=jZ (g:=g) (f:=⟨A++X++M++bH g y b++D,f.pl++ [y]⟩) a r4 nA n4 hX
 refine ⟨q9 hm i1 y0 y1 ?_ r3 n3 nD hY cY,q9 hm i2 x0 x1 ?_ r4 nA n4 hX cX, ?_, ?_, ?_⟩
 ·simp [y2,Ne.symm hxy]
 ·simp [x2,hxy]
 ·simp only [e3,e4];simp
 ·simp only [e4]
 ·simp only [e3]
theorem AL {g:Gr} (hm:aV g=true) {f:Fr} (hi:x7 g f) {x y:Int} (hxy:x≠y) (zw:aJ g f x=true) (tc:aJ g f y=true)
 {a b:List Int} (ha:a.Perm (cS g x)) (hb:b.Perm (cS g y)) (nx:bM g x≠0) (ny:bM g y≠0):
 aJ g (aL g f x a).2 y=true∧aJ g (aL g f y b).2 x=true∧(aL g (aL g f x a).2 y b).2.row=(aL g (aL g f y b).2 x a).2.row∧
 (aL g f x a).1=(aL g (aL g f y b).2 x a).1∧(aL g f y b).1=(aL g (aL g f x a).2 y b).1:=by
 obtain ⟨A,X,C,hr,hA,hC,hX,cX⟩:=cQ hm hi.toiM zw nx
 obtain ⟨B,Y,D,hr',hB,hD,hY,cY⟩:=cQ hm hi.toiM tc ny
 rcases apart (aP zw).1 (aP tc).1 hxy (hr.symm.trans hr') hX hY with ⟨M,rfl,rfl⟩|⟨M,rfl,rfl⟩
 ·exact wm hm hi hxy zw tc ha hb (by rw [hr];simp) hX hY cX cY hA hC hB hD
 ·obtain ⟨h1,h2,h3,h4,h5⟩:=wm hm hi (Ne.symm hxy) tc zw hb ha (by rw [hr'];simp) hY hX cY cX hB hD hA hC
  exact ⟨h2,h1,h3.symm,h5,h4⟩
theorem tf {g:Gr} {y:Int} :y∈c9 (·.2) g↔(0≤y∧y<g.n)∧bM g y=0:=by
 simp only [c9,iB,List.mem_map,List.mem_filter,List.mem_range,decide_eq_true_eq]
 have he:∀x:Nat,x<g.n.toNat→(((dH (·.2) g).getD x []).length=bM g (x:Int)):=by
  intro x hx
  have e:(dH (·.2) g).getD x []=aU (·.2) g.es g.es.length (x:Int):=by
   simp [dH,List.getD_eq_getElem?_getD,List.getElem?_range hx,nv]
  rw [e];rfl
 constructor
 ·rintro ⟨x,⟨hx,h0⟩,rfl⟩
  refine ⟨by simp;omega,by rw [he x hx] at h0;exact h0⟩
 ·rintro ⟨⟨h1,h2⟩,h3⟩
  have e:((y.toNat:Nat):Int)=y:=by omega
  exact ⟨y.toNat,⟨by omega,by rw [he _ (by omega),e];exact h3⟩,e⟩
theorem uG {g:Gr} (hc:(dR g).1=0) {x y:Int} (hx:0≤x∧x<g.n) (hy:0≤y∧y<g.n) (nx:bM g x=0) (ny:bM g y=0):x=y:=by
 have h1:(c9 (·.2) g).length≤1:=by
  unfold dR gh at hc
  refine Nat.not_lt.1 fun h=> ?_
  split at hc
  ·cases hc
  split at hc
  ·cases hc
  split at hc
  ·cases hc
  split at hc
  ·cases hc
  cases hc
 have h2:=tf.2 ⟨hx,nx⟩
 have h3:=tf.2 ⟨hy,ny⟩
 match hb:c9 (·.2) g with
 | []=>rw [hb] at h2;cases h2
 | [z]=>rw [hb,List.mem_singleton] at h2 h3;rw [h2,h3]
 |_::_::_=>rw [hb] at h1;simp at h1
theorem dc {g:Gr} (hc:(dR g).1=0):aV g=true:=by
 unfold dR gh at hc
 split at hc
 ·cases hc
 ·rename_i h;simpa using h
theorem wo {g:Gr} (hc:(dR g).1=0) {f:Fr} (hi:x7 g f) {x y:Int} (hxy:x≠y) (zw:aJ g f x=true) (tc:aJ g f y=true):bM g x≠0:=by
 intro nx
 have hm:=dc hc
 obtain ⟨x0,x1,x2⟩:=aP zw
 obtain ⟨y0,y1,y2⟩:=aP tc
 rcases hi.src with ⟨h1,h2⟩|⟨s,hs,h⟩
 ·have ny:bM g y≠0:=fun ny=>hxy (uG hc ⟨x0,x1⟩ ⟨y0,y1⟩ nx ny)
  obtain ⟨A,X,C,hr,_,_,hX,_⟩:=cQ hm hi.toiM tc ny
  obtain ⟨p,X',e,_⟩:=hX.fst
  rw [h2,e] at hr
  simp at hr
 ·exact x2 (uG hc (hi.F9 s hs) ⟨x0,x1⟩ h nx ▸ hs)
theorem AM {g:Gr} (hc:(dR g).1=0) {f:Fr} (hi:x7 g f) {x y:Int} (hxy:x≠y) (zw:aJ g f x=true) (tc:aJ g f y=true)
 {a b:List Int} (ha:a.Perm (cS g x)) (hb:b.Perm (cS g y)):
 aJ g (aL g f x a).2 y=true∧aJ g (aL g f y b).2 x=true∧(aL g (aL g f x a).2 y b).2.row=(aL g (aL g f y b).2 x a).2.row∧
 (aL g f x a).1=(aL g (aL g f y b).2 x a).1∧(aL g f y b).1=(aL g (aL g f x a).2 y b).1:=
 AL (dc hc) hi hxy zw tc ha hb (wo hc hi hxy zw tc) (wo hc hi (Ne.symm hxy) tc zw)
end Go.Ab
end
section
namespace Go.Ab
open Go.Proofs
attribute [local congr] ACall.congr gd.congr Nx.congr
set_option maxRecDepth 10000
set_option maxHeartbeats 4000000
def zx (row:List It) (a b:Int):Nat→Int × Int
 |0=>(-1,0)
 |k+1=>if ((row.getD k (0,0,0)).2.2=a∨(row.getD k (0,0,0)).2.2=b)∧(row.getD k (0,0,0)).2.2≠(zx row a b k).1 then ((row.getD k (0,0,0)).2.2,(zx row a b k).2+1) else zx row a b k
end Go.Ab
end
section
namespace Go.Ab
open Go.Proofs
attribute [local congr] ACall.congr gd.congr Nx.congr
set_option maxRecDepth 10000
set_option maxHeartbeats 4000000
def GW (row:List It) (i:Nat):Int:=(row.getD i (0,0,0)).2.2
def Lg (row:List It) (i j:Nat):Bool:=decide (GW row i≠ -1)&&decide (GW row j≠ -1)&&decide (GW row i≠GW row j)&&decide (4≤(zx row (GW row i) (GW row j) row.length).2)
def Mk (row:List It):Bool:=(List.range row.length).any fun i=>(List.range row.length).any (Lg row i)
end Go.Ab
end
section
namespace Go.Ab
open Go.Proofs
attribute [local congr] ACall.congr gd.congr Nx.congr
set_option maxRecDepth 10000
set_option maxHeartbeats 8000000
def T4 (row:List It) (a b c d:Nat):Prop:=0≤(row.getD a (0,0,0)).2.2∧0≤(row.getD b (0,0,0)).2.2∧(row.getD a (0,0,0)).2.2≠(row.getD b (0,0,0)).2.2∧(row.getD a (0,0,0)).2.2=(row.getD c (0,0,0)).2.2∧(row.getD b (0,0,0)).2.2=(row.getD d (0,0,0)).2.2
def NL (row:List It):Prop:=∃a b c d,a<b∧b<c∧c<d∧d<row.length∧T4 row a b c d
end Go.Ab
end
section
namespace Go.Ab
open Go.Proofs
set_option maxRecDepth 10000
theorem wq {g:Gr} {f f':Fr} (hr:f.row=f'.row) (hp:f.pl.Perm f'.pl) (x:Int):aJ g f x=aJ g f' x:=by
 unfold aJ
 rw [hr]
 by_cases h:x<0∨g.n≤x∨x∈f.pl
 ·rw [if_pos h,if_pos (by rw [← hp.mem_iff];exact h)]
 ·have h':¬(x<0∨g.n≤x∨x∈f'.pl):=by rw [← hp.mem_iff];exact h
  rw [if_neg h,if_neg h']
theorem ry:∀ {l m:List Int},l.Nodup→(∀i∈l,i∈m)→l.length≤m.length
 | [],_,_,_=>by simp
 |a::l,m,hn,hs=>by
  rw [List.nodup_cons] at hn
  have ha:=hs a (List.mem_cons_self ..)
  have:=ry hn.2 (m:=m.erase a) fun i hi=>(List.mem_erase_of_ne (fun e:i=a=>hn.1 (e ▸ hi))).2 (hs i (List.mem_cons_of_mem _ hi))
  rw [List.length_erase_of_mem ha] at this
  have:=List.length_pos_of_mem ha
  rw [List.length_cons];omega
theorem oN {g:Gr} {f:Fr} (hi:iM g f) (hf:(f.pl.length:Int)=g.n) {x:Int} (hx:0≤x∧x<g.n):x∈f.pl:=by
 refine Decidable.byContradiction fun h=> ?_
 have h1:(x::f.pl).Nodup:=List.nodup_cons.2 ⟨h,hi.pl⟩
 have h2:((List.range g.n.toNat).map Int.ofNat).length=g.n.toNat:=by simp
 have h3:=ry h1 (m:=(List.range g.n.toNat).map Int.ofNat) (fun y hy=>by
  rw [List.mem_map]
  have:0≤y∧y<g.n:=by
   rcases List.mem_cons.1 hy with h|h
   ·rw [h];exact hx
   ·exact hi.F9 y h
  exact ⟨y.toNat,List.mem_range.2 (by omega),by simp;omega⟩)
 rw [h2,List.length_cons] at h3
 omega
def Tg (a b:Int) (row:List It):Prop:=∃l:List It,l.Sublist row∧l.map (fun t=>t.2.2)= [a,b,a,b]
def CZ (a b:Int) (t:It):Bool:=decide (t.2.2=a)||decide (t.2.2=b)
theorem Tg.Lh {a b:Int} {row:List It} :Tg a b row↔Tg a b (row.filter (CZ a b)):=by
 constructor
 ·rintro ⟨l,h,e⟩
  refine ⟨l, ?_,e⟩
  have h1:=h.filter (CZ a b)
  rw [List.filter_eq_self.2] at h1
  ·exact h1
  ·intro t ht
   have:t.2.2∈l.map (fun t=>t.2.2):=List.mem_map.2 ⟨t,ht,rfl⟩
   rw [e] at this
   simp only [CZ,Bool.or_eq_true,decide_eq_true_eq]
   simp only [List.mem_cons,List.not_mem_nil,or_false] at this
   omega
 ·rintro ⟨l,h,e⟩
  exact ⟨l,h.trans List.filter_sublist,e⟩
theorem Tg.keep {a b x:Int} (ha:0≤a) (hb:0≤b) (GM:a≠x) (gL:b≠x) {A X C u:List It} (hX:∀t∈X,t.2.2=x∨t.2.2= -1) (h:Tg a b (A++X++C)):Tg a b (A++u++C):=by
 rw [Tg.Lh] at h ⊢
 obtain ⟨l,h,e⟩:=h
 refine ⟨l,h.trans ?_,e⟩
 rw [List.filter_append,List.filter_append,List.filter_append,List.filter_append]
 have:X.filter (CZ a b)= []:=List.filter_eq_nil_iff.2 fun t ht=>by
  simp only [CZ,Bool.or_eq_true,decide_eq_true_eq]
  rcases hX t ht with h|h<;>omega
 rw [this,List.append_nil]
 exact List.Sublist.append_right (List.sublist_append_left _ _) _
theorem Tg.not {a b x:Int} (hab:a≠b) (hb0:0≤b) (ha0:0≤a) (hx:x=a∨x=b) {A X C:List It} (hA:fI x A) (hC:fI x C) (hX:∀t∈X,t.2.2=x∨t.2.2= -1):¬Tg a b (A++X++C):=by
 rintro ⟨l,h,e⟩
 rw [List.append_assoc,List.sublist_append_iff] at h
 obtain ⟨l1,l',rfl,h1,h'⟩:=h
 rw [List.sublist_append_iff] at h'
 obtain ⟨l2,l3,rfl,h2,h3⟩:=h'
 have k1:∀t∈l1,t.2.2≠x:=fun t ht=>hA t (h1.subset ht)
 have k2:∀t∈l2,t.2.2=x∨t.2.2= -1:=fun t ht=>hX t (h2.subset ht)
 have k3:∀t∈l3,t.2.2≠x:=fun t ht=>hC t (h3.subset ht)
 clear h1 h2 h3
 match l1,k1,e with
 |t1::t2::_,k1,e=>
  simp only [List.cons_append,List.map_cons,List.cons.injEq] at e
  rcases hx with h|h
  ·exact k1 t1 (by simp) (by omega)
  ·exact k1 t2 (by simp) (by omega)
 | [t1],k1,e=>
   simp only [List.cons_append,List.nil_append,List.map_cons,List.cons.injEq] at e
   rcases hx with h|h
   ·exact k1 t1 (by simp) (by omega)
   ·match l2,k2,e with
    | [],_,e=>
      match l3,k3,e with
      | [s1,s2,s3],k3,e=>
        simp only [List.nil_append,List.map_cons,List.map_nil,List.cons.injEq,and_true] at e
        exact k3 s1 (by simp) (by omega)
      | [],_,e=>simp at e
      | [_],_,e=>simp at e
      | [_,_],_,e=>simp at e
      |_::_::_::_::_,_,e=>simp at e
    |s1::s2::_,k2,e=>
     simp only [List.cons_append,List.map_cons,List.cons.injEq] at e
     rcases k2 s2 (by simp) with h|h<;>omega
    | [s1],k2,e=>
      match l3,k3,e with
      | [u1,u2],k3,e=>
        simp only [List.cons_append,List.nil_append,List.map_cons,List.map_nil,List.cons.injEq,and_true] at e
        exact k3 u2 (by simp) (by omega)
      | [],_,e=>simp at e
      | [_],_,e=>simp at e
      |_::_::_::_,_,e=>simp at e
 | [],_,e=>
   simp only [List.nil_append] at e
   match l2,k2,e with
   | [],_,e=>
     match l3,k3,e with
     | [],_,e=>simp at e
     | [_],_,e=>simp at e
     |s1::s2::_,k3,e=>
      simp only [List.nil_append,List.map_cons,List.cons.injEq] at e
      rcases hx with h|h
      ·exact k3 s1 (by simp) (by omega)
      ·exact k3 s2 (by simp) (by omega)
   |s1::s2::_,k2,e=>
    simp only [List.cons_append,List.map_cons,List.cons.injEq] at e
    have q1:=k2 s1 (by simp)
    have q2:=k2 s2 (by simp)
    omega
   | [s1],k2,e=>
     match l3,k3,e with
     | [],_,e=>simp at e
     | [_],_,e=>simp at e
     | [_,_],_,e=>simp at e
     |u1::u2::u3::_,k3,e=>
      simp only [List.cons_append,List.nil_append,List.map_cons,List.cons.injEq] at e
      have q1:=k2 s1 (by simp)
      exact k3 u2 (by simp) (by omega)
end Go.Ab
end
section
namespace Go.Ab
open Go.Proofs
set_option maxRecDepth 10000
theorem AN {row:List It} {k:Nat} (h:k<row.length):row.take (k+1)=row.take k++ [row.getD k (0,0,0)]:=by
 rw [List.take_add_one,List.getD_eq_getElem?_getD,List.getElem?_eq_getElem h];rfl
theorem C0 {row:List It} {i j:Nat} (h:i≤j):(row.take i).Sublist (row.take j):=by
 rw [show row.take i=(row.take j).take i by rw [List.take_take,Nat.min_eq_left h]]
 exact List.take_sublist _ _
theorem rz {row l:List It} {i j:Nat} (h:l.Sublist (row.take i)) (hij:i≤j) (hj:j<row.length):(l++ [row.getD j (0,0,0)]).Sublist (row.take (j+1)):=by
 rw [AN hj]
 exact List.Sublist.append (h.trans (C0 hij)) (List.Sublist.refl _)
def Lj (a b:Int):List It→Prop
 | []=>True
 | [t]=>t.2.2=a∨t.2.2=b
 |s::t::l=>(s.2.2=a∨s.2.2=b)∧s.2.2≠t.2.2∧Lj a b (t::l)
end Go.Ab
end
section
namespace Go.Ab
open Go.Proofs
attribute [local congr] ACall.congr gd.congr Nx.congr
set_option maxRecDepth 10000
end Go.Ab
end
section
namespace Go.Ab
open Go.Proofs
attribute [local congr] ACall.congr gd.congr Nx.congr
set_option maxRecDepth 10000
def Ll (g:Gr) (out:List Int) (x:Nat) (i:Nat):Bool:=(List.range i).all fun j=> !decide (hd g j=(x:Int))||decide (tl g j∈out)
def NM (g:Gr) (out:List Int) (k:Nat) (f:Bool):Prop:=k≤g.n.toNat∧(if f then 0<k∧wt g out (k - 1)=0∧∀j,j<k - 1→wt g out j≠0 else ∀j,j<k→wt g out j≠0)
def NN (out:List Int) (k:Nat) (f:Bool):List Int:=if f then out++ [((k - 1:Nat):Int)] else out
end Go.Ab
end
section
namespace Go.Ab
open Go.Proofs
attribute [local congr] ACall.congr gd.congr Nx.congr
set_option maxRecDepth 10000
end Go.Ab
end
section
namespace Go.Ab
open Go.Proofs
set_option maxRecDepth 10000
structure Pl where
 ord:List Int
 outs:List (List Int)
def dM (p:Pl) (k:Nat):Int:=p.ord.getD k 0
def oO (p:Pl) (x:Int):List Int:=p.outs.getD x.toNat []
def fJ (g:Gr) (p:Pl):Prop:=p.outs.length=g.n.toNat∧p.ord.Perm (ef g.n.toNat)∧∀x:Nat,x<g.n.toNat→(p.outs.getD x []).Perm (cS g x)
def fK (g:Gr) (p:Pl):Nat→Fr
 |0=>⟨[], []⟩
 |k+1=>(aL g (fK g p k) (dM p k) (oO p (dM p k))).2
def C1 (g:Gr) (p:Pl) (k:Nat):List It:=(aL g (fK g p k) (dM p k) (oO p (dM p k))).1.1
def Lm (g:Gr) (p:Pl) (k:Nat):Bool:=aJ g (fK g p k) (dM p k)
def wu (g:Gr) (p:Pl):Nat→List (List It)
 |0=>List.replicate g.n.toNat []
 |k+1=>(wu g p k).set (dM p k).toNat (C1 g p k)
def Fe (g:Gr) (p:Pl):Nat→Option Nat
 |0=>none
 |k+1=>match Fe g p k with
  |some i=>some i
  |none=>if Lm g p k=true then none else some k
def jv (g:Gr) (p:Pl):Prop:=(dR g).1=0∧fJ g p∧∀k,k<g.n.toNat→Lm g p k=true
theorem dN {n:Nat} :(ef n).length=n:=by simp [ef]
theorem gX {g:Gr} {p:Pl} (h:fJ g p):p.ord.length=g.n.toNat:=by rw [h.2.1.length_eq,dN]
theorem x9 {g:Gr} {p:Pl} (h:fJ g p):p.ord.Nodup:=h.2.1.nodup_iff.2 fG
theorem uH {g:Gr} {p:Pl} (h:fJ g p) {k:Nat} (hk:k<g.n.toNat):0≤dM p k∧dM p k<g.n:=by
 have h1:dM p k∈p.ord:=bf (by rw [gX h];exact hk)
 have:=cO.1 (h.2.1.mem_iff.1 h1)
 omega
theorem Ew {g:Gr} {p:Pl} (h:fJ g p) {i j:Nat} (hi:i<g.n.toNat) (hj:j<g.n.toNat) (e:dM p i=dM p j):i=j:=
 mH (x9 h) (by rw [gX h];exact hi) (by rw [gX h];exact hj) e
theorem Ex {g:Gr} {p:Pl} (h:fJ g p) {x:Int} (h0:0≤x) (h1:x<g.n):∃k,k<g.n.toNat∧dM p k=x:=by
 have:x∈p.ord:=h.2.1.mem_iff.2 (cO.2 (by omega))
 obtain ⟨k,hk,e⟩:=List.mem_iff_getElem.1 this
 refine ⟨k,by rw [← gX h];exact hk, ?_⟩
 rw [dM,List.getD_eq_getElem?_getD,List.getElem?_eq_getElem hk,Option.getD_some,e]
theorem jw {g:Gr} {p:Pl} (h:fJ g p) {x:Int} (h0:0≤x) (h1:x<g.n):(oO p x).Perm (cS g x):=by
 have:=h.2.2 x.toNat (by omega)
 rwa [show ((x.toNat:Nat):Int)=x by omega] at this
theorem Ey {g:Gr} {p:Pl} (h:fJ g p) {x:Int} (h0:0≤x) (h1:x<g.n):(oO p x).length≤g.es.length:=by
 rw [(jw h h0 h1).length_eq];exact wk
theorem zy {g:Gr} (hm:aV g=true) {p:Pl} (h:fJ g p):∀ {k:Nat},k≤g.n.toNat→(∀j,j<k→Lm g p j=true)→x7 g (fK g p k)∧(fK g p k).pl=p.ord.take k∧(fK g p k).row.length≤k*(g.es.length+1)
 |0,_,_=>⟨zv g,by simp [fK],by simp [fK]⟩
 |k+1,hk,hok=>by
  obtain ⟨h1,h2,h3⟩:=zy hm h (k:=k) (by omega) fun j hj=>hok j (by omega)
  obtain ⟨x0,x1⟩:=uH h (k:=k) (by omega)
  have hl:=AE (g:=g) (f:=fK g p k) (x:=dM p k) (o:=oO p (dM p k))
  have Nq:=Ey h x0 x1
  refine ⟨jt hm h1 (hok k (by omega)) (jw h x0 x1), ?_, ?_⟩
  ·show (fK g p k).pl++ [dM p k]=_
   rw [h2,List.take_add_one,List.getElem?_eq_getElem (by rw [gX h];omega),dM,List.getD_eq_getElem?_getD,List.getElem?_eq_getElem (by rw [gX h];omega)]
   rfl
  ·show (aL _ _ _ _).2.row.length≤_
   rw [Nat.add_mul];omega
theorem wv {g:Gr} {p:Pl} :∀ {k:Nat},(wu g p k).length=g.n.toNat
 |0=>by simp [wu]
 |k+1=>by rw [wu,List.length_set,wv]
theorem AO {α:Type} {l:List α} {i j:Nat} {a d:α} (hi:i<l.length):(l.set i a).getD j d=if j=i then a else l.getD j d:=by
 rw [List.getD_eq_getElem?_getD,List.getElem?_set,List.getD_eq_getElem?_getD]
 by_cases h:i=j
 ·subst h;simp [hi]
 ·rw [if_neg h,if_neg (Ne.symm h)]
theorem zA {g:Gr} {p:Pl} (h:fJ g p):∀ {k:Nat},k≤g.n.toNat→∀ {i:Nat},i<k→(wu g p k).getD (dM p i).toNat []=C1 g p i
 |0,_,i,hi=>by omega
 |k+1,hk,i,hi=>by
  have hm:=uH h (k:=k) (by omega)
  rw [wu,AO (by rw [wv];omega)]
  by_cases e:i=k
  ·subst e;rw [if_pos rfl]
  ·have Jg:=uH h (k:=i) (by omega)
   rw [if_neg (fun h2=>e (Ew h (by omega) (by omega) (by omega)))]
   exact zA h (by omega) (by omega)
end Go.Ab
end
section
namespace Go.Ab
open Go.Proofs
set_option maxRecDepth 10000
set_option linter.unusedSectionVars false
def b7 (lt:Int→Int→Bool) (us:List Int):Nat→Int
 |0=> -1
 |k+1=>if (!decide ((k:Int)∈us))&&(decide (b7 lt us k<0)||lt k (b7 lt us k)) then k else b7 lt us k
def ID (lt:Int→Int→Bool) (n:Nat):Nat→List Int
 |0=> []
 |j+1=>ID lt n j++ [b7 lt (ID lt n j) n]
def Ln (lt:Int→Int→Bool) (u v:Int):Prop:=lt u v=true∧lt v u=false
section
variable {lt:Int→Int→Bool} {n:Nat} {ord:List Int} (hp:ord.Perm (ef n)) (hs:ord.Pairwise (Ln lt))
include hp hs
theorem rC {i j:Nat} (hi:i<n) (hj:j<n) (hne:i≠j):lt (ord.getD i 0) (ord.getD j 0)=decide (i<j):=by
 have hl:ord.length=n:=by rw [hp.length_eq,dN]
 have gi:ord.getD i 0=ord[i]'(by omega):=by rw [List.getD_eq_getElem?_getD,List.getElem?_eq_getElem (by omega)];rfl
 have gj:ord.getD j 0=ord[j]'(by omega):=by rw [List.getD_eq_getElem?_getD,List.getElem?_eq_getElem (by omega)];rfl
 rw [gi,gj]
 rcases Nat.lt_or_gt_of_ne hne with h|h
 ·rw [decide_eq_true h];exact (List.pairwise_iff_getElem.1 hs i j (by omega) (by omega) h).1
 ·rw [decide_eq_false (by omega)];exact (List.pairwise_iff_getElem.1 hs j i (by omega) (by omega) h).2
theorem pY {x:Int} (h0:0≤x) (h1:x<n):∃i,i<n∧ord.getD i 0=x:=by
 have:x∈ord:=hp.mem_iff.2 (cO.2 ⟨h0,h1⟩)
 obtain ⟨i,hi,e⟩:=List.mem_iff_getElem.1 this
 have hl:ord.length=n:=by rw [hp.length_eq,dN]
 exact ⟨i,by omega,by rw [List.getD_eq_getElem?_getD,List.getElem?_eq_getElem hi];exact e⟩
theorem zB {i:Nat} (hi:i<n):0≤ord.getD i 0∧ord.getD i 0<n:=by
 have hl:ord.length=n:=by rw [hp.length_eq,dN]
 exact cO.1 (hp.mem_iff.1 (bf (by omega)))
theorem zC {i j:Nat} (hi:i<n) (hj:j<n) (e:ord.getD i 0=ord.getD j 0):i=j:=by
 have hl:ord.length=n:=by rw [hp.length_eq,dN]
 exact mH (hp.nodup_iff.2 fG) (by omega) (by omega) e
theorem C2 {i j:Nat} (hi:i<n) (hj:j≤n):ord.getD i 0∈ord.take j↔i<j:=by
 have hl:ord.length=n:=by rw [hp.length_eq,dN]
 constructor
 ·intro h
  obtain ⟨k,hk,e⟩:=List.mem_iff_getElem.1 h
  simp only [List.length_take] at hk
  rw [List.getElem_take] at e
  have:ord.getD k 0=ord.getD i 0:=by rw [← e,List.getD_eq_getElem?_getD,List.getElem?_eq_getElem (by omega)];rfl
  have:=zC hp hs (by omega) hi this
  omega
 ·intro h
  rw [List.getD_eq_getElem?_getD,List.getElem?_eq_getElem (by omega),Option.getD_some]
  exact List.mem_iff_getElem.2 ⟨i,by simp;omega,by simp⟩
theorem rD {j:Nat} (hj:j≤n):∀ {k:Nat},k≤n→(b7 lt (ord.take j) k= -1∧∀x:Nat,x<k→(x:Int)∈ord.take j)∨
 (0≤b7 lt (ord.take j) k∧b7 lt (ord.take j) k<k∧b7 lt (ord.take j) k∉ord.take j∧∀x:Nat,x<k→(x:Int)∉ord.take j→(x:Int)=b7 lt (ord.take j) k∨lt (b7 lt (ord.take j) k) x=true)
 |0,_=> .inl ⟨rfl,fun x hx=>by omega⟩
 |k+1,hk=>by
  have ih:=rD hj (k:=k) (by omega)
  by_cases hu:(k:Int)∈ord.take j
  ·have e:b7 lt (ord.take j) (k+1)=b7 lt (ord.take j) k:=by rw [b7,decide_eq_true hu];rfl
   rw [e]
   rcases ih with ⟨h1,h2⟩|⟨h1,h2,h3,h4⟩
   ·refine .inl ⟨h1,fun x hx=> ?_⟩
    by_cases Ez:x=k
    ·subst Ez;exact hu
    ·exact h2 x (by omega)
   ·refine .inr ⟨h1,by omega,h3,fun x hx hn=> ?_⟩
    by_cases Ez:x=k
    ·subst Ez;exact absurd hu hn
    ·exact h4 x (by omega) hn
  ·rcases ih with ⟨h1,h2⟩|⟨h1,h2,h3,h4⟩
   ·have e:b7 lt (ord.take j) (k+1)=k:=by rw [b7,decide_eq_false hu,h1];rfl
    rw [e]
    refine .inr ⟨by omega,by omega,hu,fun x hx hn=> ?_⟩
    by_cases Ez:x=k
    ·exact .inl (by rw [Ez])
    ·exact absurd (h2 x (by omega)) hn
   ·have hd:decide (b7 lt (ord.take j) k<0)=false:=decide_eq_false (by omega)
    have e:b7 lt (ord.take j) (k+1)=if lt k (b7 lt (ord.take j) k)=true then (k:Int) else b7 lt (ord.take j) k:=by
     rw [b7,decide_eq_false hu,hd];simp
    obtain ⟨a,ha,ea⟩:=pY hp hs (x:=b7 lt (ord.take j) k) h1 (by omega)
    obtain ⟨c,hc,ec⟩:=pY hp hs (x:=(k:Int)) (by omega) (by omega)
    have hca:c≠a:=fun e=>by rw [e,ea] at ec;omega
    have hkb:lt k (b7 lt (ord.take j) k)=decide (c<a):=by rw [← ea, ← ec];exact rC hp hs hc ha hca
    have hbk:lt (b7 lt (ord.take j) k) k=decide (a<c):=by rw [← ea, ← ec];exact rC hp hs ha hc (Ne.symm hca)
    rw [e,hkb]
    by_cases hlt:c<a
    ·rw [if_pos (decide_eq_true hlt)]
     refine .inr ⟨by omega,by omega,hu,fun x hx hn=> ?_⟩
     by_cases Ez:x=k
     ·exact .inl (by rw [Ez])
     ·right
      obtain ⟨d,hd,ed⟩:=pY hp hs (x:=(x:Int)) (by omega) (by omega)
      have hcd:c≠d:=fun e=>by rw [e,ed] at ec;omega
      rw [← ec, ← ed,rC hp hs hc hd hcd]
      refine decide_eq_true ?_
      rcases h4 x (by omega) hn with h5|h5
      ·have:d=a:=zC hp hs hd ha (by rw [ed,ea,h5])
       omega
      ·by_cases hda:a=d
       ·omega
       ·rw [← ea, ← ed,rC hp hs ha hd hda,decide_eq_true_eq] at h5
        omega
    ·rw [if_neg (by simp [hlt])]
     refine .inr ⟨h1,by omega,h3,fun x hx hn=> ?_⟩
     by_cases Ez:x=k
     ·subst Ez
      exact .inr (by rw [hbk];exact decide_eq_true (by omega))
     ·exact h4 x (by omega) hn
theorem EA {j:Nat} (hj:j<n):b7 lt (ord.take j) n=ord.getD j 0:=by
 have hr:=zB hp hs hj
 have Jk:ord.getD j 0∉ord.take j:=fun h=>by have:=(C2 hp hs hj (by omega)).1 h;omega
 have hc:(((ord.getD j 0).toNat:Nat):Int)=ord.getD j 0:=by omega
 rcases rD hp hs (j:=j) (by omega) (k:=n) (by omega) with ⟨_,h2⟩|⟨h1,h2,h3,h4⟩
 ·have:=h2 (ord.getD j 0).toNat (by omega)
  rw [hc] at this
  exact absurd this Jk
 ·have h5:=h4 (ord.getD j 0).toNat (by omega) (by rw [hc];exact Jk)
  rw [hc] at h5
  rcases h5 with h5|h5
  ·exact h5.symm
  ·refine Decidable.byContradiction fun hne=> ?_
   obtain ⟨i,hi,ei⟩:=pY hp hs h1 h2
   rw [← ei] at h3 h5 hne
   have h6:¬i<j:=fun h=>h3 ((C2 hp hs hi (by omega)).2 h)
   have hij:i≠j:=fun e=>hne (by rw [e])
   rw [rC hp hs hi hj hij,decide_eq_true_eq] at h5
   exact h6 h5
end
def pZ (sw:Int→Int→Bool):Int→List Int→Int × List Int
 |a, []=>(a, [])
 |a,c::r=>if sw a c then ((pZ sw c r).1,a::(pZ sw c r).2) else ((pZ sw a r).1,c::(pZ sw a r).2)
def ya (sw:Int→Int→Bool):Nat→List Int→List Int
 |0,l=>l
 |_+1, []=> []
 |n+1,a::r=>(pZ sw a r).1::ya sw n (pZ sw a r).2
theorem gY {sw:Int→Int→Bool} :∀ {l:List Int} {a:Int},((pZ sw a l).1::(pZ sw a l).2).Perm (a::l)
 | [],a=>List.Perm.refl _
 |c::r,a=>by
  rw [pZ]
  split
  ·exact (List.Perm.swap ..).trans ((List.Perm.cons a (gY (l:=r) (a:=c))))
  ·exact (List.Perm.swap ..).trans ((List.Perm.cons c (gY (l:=r) (a:=a))).trans (List.Perm.swap ..))
theorem EB {sw:Int→Int→Bool} {l:List Int} {a:Int} :(pZ sw a l).2.length=l.length:=by
 have:=(gY (sw:=sw) (l:=l) (a:=a)).length_eq
 simpa using this
theorem kX {sw:Int→Int→Bool} :∀ {n:Nat} {l:List Int},(ya sw n l).Perm l
 |0,l=>List.Perm.refl _
 |_+1, []=>List.Perm.refl _
 |n+1,a::r=>by
  rw [ya]
  exact (List.Perm.cons _ kX).trans gY
section
variable {sw:Int→Int→Bool} {R:Int→Int→Prop} {S:Int→Prop} (htr:∀a b c,S a→S b→S c→R a b→R b c→R a c) (hsw:∀a c,S a→S c→a≠c→if sw a c=true then R c a else R a c)
include htr hsw
theorem uI:∀ {l:List Int} {a:Int},(a::l).Nodup→(∀x∈a::l,S x)→((pZ sw a l).1=a∨R (pZ sw a l).1 a)∧∀y∈(pZ sw a l).2,R (pZ sw a l).1 y
 | [],a,_,_=>⟨.inl rfl,fun y hy=>by cases hy⟩
 |c::r,a,hn,hS=>by
  have hac:a≠c:=fun e=>by subst e;simp at hn
  have h0:=hsw a c (hS a (by simp)) (hS c (by simp)) hac
  have n1:(c::r).Nodup:=(List.nodup_cons.1 hn).2
  have n2:(a::r).Nodup:=by
   rw [List.nodup_cons] at hn ⊢
   exact ⟨fun h=>hn.1 (by simp [h]),(List.nodup_cons.1 hn.2).2⟩
  rw [pZ]
  split at h0<;>rename_i hs
  ·rw [if_pos hs]
   obtain ⟨h1,h2⟩:=uI (l:=r) (a:=c) n1 fun x hx=>hS x (by simp at hx ⊢;rcases hx with h|h<;>simp [h])
   have Lo:S (pZ sw c r).1:=hS _ (by have:=(gY (sw:=sw) (l:=r) (a:=c)).mem_iff.1 (List.mem_cons_self ..);simp at this ⊢;rcases this with h|h<;>simp [h])
   have hma:R (pZ sw c r).1 a:=by
    rcases h1 with h1|h1
    ·rw [h1];exact h0
    ·exact htr _ _ _ Lo (hS c (by simp)) (hS a (by simp)) h1 h0
   exact ⟨.inr hma,fun y hy=>(List.mem_cons.1 hy).elim (fun e=>e ▸ hma) (h2 y)⟩
  ·rw [if_neg hs]
   obtain ⟨h1,h2⟩:=uI (l:=r) (a:=a) n2 fun x hx=>hS x (by simp at hx ⊢;rcases hx with h|h<;>simp [h])
   have Lo:S (pZ sw a r).1:=hS _ (by have:=(gY (sw:=sw) (l:=r) (a:=a)).mem_iff.1 (List.mem_cons_self ..);simp at this ⊢;rcases this with h|h<;>simp [h])
   have Js:R (pZ sw a r).1 c:=by
    rcases h1 with h1|h1
    ·rw [h1];exact h0
    ·exact htr _ _ _ Lo (hS a (by simp)) (hS c (by simp)) h1 h0
   exact ⟨h1,fun y hy=>(List.mem_cons.1 hy).elim (fun e=>e ▸ Js) (h2 y)⟩
theorem mI:∀ {n:Nat} {l:List Int},l.length≤n→l.Nodup→(∀x∈l,S x)→(ya sw n l).Pairwise R
 |0,l,h,_,_=>by
  have:l= []:=List.eq_nil_of_length_eq_zero (by omega)
  subst this;exact List.Pairwise.nil
 |n+1, [],_,_,_=>List.Pairwise.nil
 |n+1,a::r,h,hn,hS=>by
  rw [ya,List.pairwise_cons]
  have hp:=gY (sw:=sw) (l:=r) (a:=a)
  refine ⟨fun y hy=>(uI htr hsw hn hS).2 y (kX.mem_iff.1 hy),mI (by rw [EB];simpa using h) (List.nodup_cons.1 (hp.nodup_iff.2 hn)).2 fun x hx=>hS x (hp.mem_iff.1 (by simp [hx]))⟩
end
theorem AP {R:Int→Int→Prop} {l m:List Int} (hp:l.Perm m) (ha:∀a b,R a b→R b a→False) (h1:l.Pairwise R) (h2:m.Pairwise R):l=m:=by
 induction l generalizing m with
 |nil=>exact hp.symm.eq_nil.symm
 |cons a l ih=>
  cases m with
  |nil=>exact absurd hp.length_eq (by simp)
  |cons b m=>
   obtain ⟨a1,a2⟩:=List.pairwise_cons.1 h1
   obtain ⟨b1,b2⟩:=List.pairwise_cons.1 h2
   have hab:a=b:=by
    refine Decidable.byContradiction fun hne=> ?_
    have ma:a∈b::m:=hp.mem_iff.1 (by simp)
    have mb:b∈a::l:=hp.mem_iff.2 (by simp)
    have ma:a∈m:=(List.mem_cons.1 ma).elim (fun e=>absurd e hne) id
    have mb:b∈l:=(List.mem_cons.1 mb).elim (fun e=>absurd e.symm hne) id
    exact ha a b (a1 b mb) (b1 a ma)
   subst hab
   rw [ih ((List.perm_cons a).1 hp) a2 b2]
def Bl (sw:Int→Int→Bool) (a:Int) (done todo:List Int):List Int:=(pZ sw a todo).1::ya sw (done.length+todo.length) (done++(pZ sw a todo).2)
theorem EC {sw:Int→Int→Bool} {a:Int} {r:List Int} :Bl sw a [] r=ya sw (a::r).length (a::r):=by
 simp only [Bl,List.length_nil,Nat.zero_add,List.nil_append,List.length_cons,ya]
theorem C3 {sw:Int→Int→Bool} {a c:Int} {d r:List Int} (h:sw a c=true):Bl sw a d (c::r)=Bl sw c (d++ [a]) r:=by
 simp only [Bl,pZ,h,if_true,List.length_append,List.length_cons,List.length_nil,List.append_assoc,List.singleton_append]
 congr 2;omega
theorem C4 {sw:Int→Int→Bool} {a c:Int} {d r:List Int} (h:sw a c=false):Bl sw a d (c::r)=Bl sw a (d++ [c]) r:=by
 simp only [Bl,pZ,h,Bool.false_eq_true,if_false,List.length_append,List.length_cons,List.length_nil,List.append_assoc,List.singleton_append]
 congr 2;omega
theorem ED {sw:Int→Int→Bool} {a:Int} {d:List Int} :Bl sw a d []=a::ya sw d.length d:=by
 simp only [Bl,pZ,List.length_nil,Nat.add_zero,List.append_nil]
theorem EE {pre d r:List Int} {a c:Int} :((pre++a::(d++c::r)).set pre.length c).set (pre.length+1+d.length) a=pre++c::(d++ [a]++r):=by
 have e1:(pre++a::(d++c::r)).set pre.length c=pre++c::(d++c::r):=by
  rw [List.set_append_right _ _ (Nat.le_refl _),Nat.sub_self];rfl
 rw [e1,List.set_append_right _ _ (by omega),show pre.length+1+d.length - pre.length=d.length+1 by omega,List.set_cons_succ,List.set_append_right _ _ (Nat.le_refl _),Nat.sub_self]
 simp
theorem Gi {pre r:List Int} {a:Int} {d:Int} :(pre++a::r).getD pre.length d=a:=by
 simp [List.getD_eq_getElem?_getD]
theorem Gj {pre q r:List Int} {a c:Int} {d:Int} :(pre++a::(q++c::r)).getD (pre.length+1+q.length) d=c:=by
 rw [List.getD_eq_getElem?_getD,List.getElem?_append_right (by omega),show pre.length+1+q.length - pre.length=q.length+1 by omega]
 simp
end Go.Ab
end
section
namespace Go.Ab
set_option maxRecDepth 10000
structure PS where
 m:Nat
 src:Int
 IE:Int
 tl:Int→Int
 hd:Int→Int
 ins:Int→List Int
 outs:Int→List Int
 Lq:Int→Nat
 Row:Nat→List Int→List Int→Prop
 k0:Nat
def PS.E (P:PS) (e:Int):Prop:=0≤e∧e<P.m
structure PS.Ok (P:PS):Prop where
 wz:∀x e,e∈P.outs x↔P.E e∧P.tl e=x
 j0:∀x e,e∈P.ins x↔P.E e∧P.hd e=x
 p4:∀x,(P.outs x).Nodup
 C5:∀x,(P.ins x).Nodup
 C6:∀e,P.E e→P.Lq (P.tl e)<P.Lq (P.hd e)
 Gk:P.Row P.k0 (P.outs P.src) [P.src]
 yb:∀ {k W D},P.Row k W D→W.Nodup
 p5:∀ {k W D},P.Row k W D→∀e,e∈W↔P.E e∧P.tl e∈D∧P.hd e∉D
 rH:∀ {k W D},P.Row (k+1) W D→∃x A C,W=A++P.ins x++C∧P.ins x≠ []
 rJ:∀ {k W D x A C},P.Row k W D→W=A++P.ins x++C→P.ins x≠ []→∃k',k=k'+1∧P.Row k' (A++P.outs x++C) (D++ [x])
 uJ:∀ {W D},P.Row 0 W D→∀e,P.E e→P.hd e∈D
 zD:∀ {k W D},P.Row k W D→P.src∈D
 zF:∀ {k W D},P.Row k W D→P.IE∈D→k=0
 yc:P.ins P.src= []
 zG:∀x,P.ins x≠ []→(P.outs x= []↔x=P.IE)
theorem oR {l:List Int} :l.reverse.Nodup↔l.Nodup:=(List.reverse_perm l).nodup_iff
def PS.Bm (P:PS):PS:= {P with ins:=fun x=>(P.ins x).reverse,outs:=fun x=>(P.outs x).reverse,Row:=fun k W D=>P.Row k W.reverse D}
theorem PS.Ok.Bm {P:PS} (h:P.Ok):P.Bm.Ok:=
 {wz:=fun x e=>by show e∈(P.outs x).reverse↔_;rw [List.mem_reverse];exact h.wz x e
  j0:=fun x e=>by show e∈(P.ins x).reverse↔_;rw [List.mem_reverse];exact h.j0 x e
  p4:=fun x=>by show (P.outs x).reverse.Nodup;exact oR.2 (h.p4 x)
  C5:=fun x=>by show (P.ins x).reverse.Nodup;exact oR.2 (h.C5 x)
  C6:=h.C6
  Gk:=by show P.Row _ (P.outs P.src).reverse.reverse _;rw [List.reverse_reverse];exact h.Gk
  yb:=fun {k W D} hr=>oR.1 (h.yb (show P.Row k W.reverse D from hr))
  p5:=fun {k W D} hr e=>by
   have:=h.p5 (show P.Row k W.reverse D from hr) e
   rw [List.mem_reverse] at this
   exact this
  rH:=fun {k W D} hr=>by
   obtain ⟨x,A,C,h1,h2⟩:=h.rH (show P.Row (k+1) W.reverse D from hr)
   refine ⟨x,C.reverse,A.reverse, ?_,fun h3=>h2 (List.reverse_eq_nil_iff.1 h3)⟩
   show W=C.reverse++(P.ins x).reverse++A.reverse
   rw [← List.reverse_reverse W,h1]
   simp
  rJ:=fun {k W D x A C} hr h1 h2=>by
   have h1:W=A++(P.ins x).reverse++C:=h1
   obtain ⟨k',h3,h4⟩:=h.rJ (x:=x) (A:=C.reverse) (C:=A.reverse) (show P.Row k W.reverse D from hr) (by rw [h1];simp) (fun h3=>h2 (List.reverse_eq_nil_iff.2 h3))
   refine ⟨k',h3, ?_⟩
   show P.Row k' (A++(P.outs x).reverse++C).reverse (D++ [x])
   have e:(A++(P.outs x).reverse++C).reverse=C.reverse++P.outs x++A.reverse:=by simp
   rw [e];exact h4
  uJ:=fun {W D} hr=>h.uJ (show P.Row 0 W.reverse D from hr)
  zD:=fun {k W D} hr=>h.zD (show P.Row k W.reverse D from hr)
  zF:=fun {k W D} hr=>h.zF (show P.Row k W.reverse D from hr)
  yc:=by show (P.ins P.src).reverse= [];rw [h.yc];rfl
  zG:=fun x hx=>by
   have h2:P.ins x≠ []:=fun h3=>hx (by show (P.ins x).reverse= [];rw [h3];rfl)
   show (P.outs x).reverse= []↔_
   rw [List.reverse_eq_nil_iff];exact h.zG x h2}
structure MS where
 A:List Int
 B:List Int
 D:List Int
def PS.next (P:PS) (s:MS):MS:=
 match s.B with
 | []=>s
 |e::B=>if P.ins (P.hd e)<:+s.A++ [e] then ⟨(s.A++ [e]).take (s.A.length+1 - (P.ins (P.hd e)).length),P.outs (P.hd e)++B,s.D++ [P.hd e]⟩ else ⟨s.A++ [e],B,s.D⟩
def PS.st (P:PS):Nat→MS
 |0=>⟨[],P.outs P.src, [P.src]⟩
 |j+1=>P.next (P.st j)
def PS.sh (P:PS) (j:Nat):Int:=(P.st j).B.headD 0
def PS.Bn (P:PS) (j:Nat):List Int:=(List.range j).map P.sh
variable {P:PS}
theorem PS.rK {j:Nat} :P.Bn (j+1)=P.Bn j++ [P.sh j]:=by simp [PS.Bn,List.range_succ]
theorem PS.EF {j:Nat} :(P.Bn j).length=j:=by simp [PS.Bn]
structure PS.Inv (P:PS) (j:Nat) (s:MS):Prop where
 row:∃k,P.Row k (s.A++s.B) s.D
 no:∀h,P.ins h≠ []→¬P.ins h<:+:s.A
 nd:(P.Bn j).Nodup
 sh:∀e,e∈P.Bn j↔P.E e∧(e∈s.A∨P.hd e∈s.D)
 len:j≤P.m
theorem lN:∀ {l m:List Int},l.Nodup→(∀i∈l,i∈m)→l.length≤m.length
 | [],_,_,_=>Nat.zero_le _
 |a::l,m,hn,h=>by
  rw [List.nodup_cons] at hn
  have ha:=h a (List.mem_cons_self ..)
  have:=lN (m:=m.erase a) hn.2 fun i hi=>(List.mem_erase_of_ne (show i≠a from fun e=>hn.1 (by rw [← e];exact hi))).2 (h i (List.mem_cons_of_mem _ hi))
  rw [List.length_erase_of_mem ha] at this
  have:=List.length_pos_of_mem ha
  rw [List.length_cons];omega
theorem AQ {l:List Int} {m:Nat} (hall:∀e:Int,0≤e→e<m→e∈l):m≤l.length:=by
 have:=lN (l:=(List.range m).map Int.ofNat) (m:=l) (List.pairwise_map.2 (List.nodup_range.imp fun hab e=>hab (Int.ofNat.inj e))) fun x hx=>by
  obtain ⟨a,ha,rfl⟩:=List.mem_map.1 hx
  have:=List.mem_range.1 ha
  exact hall _ (by simp) (by simp;omega)
 simpa using this
theorem wN {X Y:List Int} (h:X<:+Y):Y=Y.take (Y.length - X.length)++X:=by
 obtain ⟨t,rfl⟩:=h
 simp
theorem PS.Inv.more (h:P.Ok) {j:Nat} {s:MS} (hi:P.Inv j s) (hj:j<P.m):∃e B,s.B=e::B:=by
 cases hB:s.B with
 |cons e B=>exact ⟨e,B,rfl⟩
 |nil=>
  exfalso
  obtain ⟨k,hr⟩:=hi.row
  rw [hB,List.append_nil] at hr
  cases k with
  |succ k=>
   obtain ⟨x,A,C,h1,h2⟩:=h.rH hr
   exact hi.no x h2 ⟨A,C,h1.symm⟩
  |zero=>
   have hall:∀e,P.E e→e∈P.Bn j:=fun e he=>(hi.sh e).2 ⟨he, .inr (h.uJ hr e he)⟩
   have:=AQ (fun e h1 h2=>hall e ⟨h1,h2⟩)
   rw [PS.EF] at this
   omega
theorem PS.AR {s:MS} {e:Int} {B:List Int} (hB:s.B=e::B):P.next s=if P.ins (P.hd e)<:+s.A++ [e] then ⟨(s.A++ [e]).take (s.A.length+1 - (P.ins (P.hd e)).length),P.outs (P.hd e)++B,s.D++ [P.hd e]⟩ else ⟨s.A++ [e],B,s.D⟩:=by
 unfold PS.next;rw [hB]
theorem PS.yd (h:P.Ok) {s:MS} {k:Nat} {e:Int} {B:List Int} (hr:P.Row k (s.A++s.B) s.D) (hB:s.B=e::B):
 P.E e∧((∃A',s.A++ [e]=A'++P.ins (P.hd e)∧P.ins (P.hd e)≠ []∧P.next s=⟨A',P.outs (P.hd e)++B,s.D++ [P.hd e]⟩)∨(¬P.ins (P.hd e)<:+s.A++ [e]∧P.next s=⟨s.A++ [e],B,s.D⟩)):=by
 have he:P.E e:=((h.p5 hr e).1 (by rw [hB];simp)).1
 refine ⟨he, ?_⟩
 rw [PS.AR hB]
 by_cases hs:P.ins (P.hd e)<:+s.A++ [e]
 ·rw [if_pos hs]
  refine .inl ⟨_, ?_,fun h0=> ?_,rfl⟩
  ·have:=wN hs
   simpa using this
  ·have:=(h.j0 (P.hd e) e).2 ⟨he,rfl⟩
   rw [h0] at this;cases this
 ·rw [if_neg hs];exact .inr ⟨hs,rfl⟩
theorem ye {X A:List Int} {e:Int} (h:X<:+:A++ [e]):X<:+:A∨X<:+A++ [e]:=by
 obtain ⟨s,t,ht⟩:=h
 rcases List.eq_nil_or_concat t with rfl|⟨t',a,rfl⟩
 ·rw [List.append_nil] at ht;exact .inr ⟨s,ht⟩
 ·left
  refine ⟨s,t', ?_⟩
  have:s++X++t'++ [a]=A++ [e]:=by rw [← ht];simp
  exact (List.append_inj' this rfl).1
theorem PS.inv (h:P.Ok):∀j,j≤P.m→P.Inv j (P.st j)
 |0,_=>⟨⟨_,h.Gk⟩,fun x hx hs=>hx (by
    have:P.ins x<:+: []:=hs
    simpa using this),by simp [PS.Bn],fun e=>(by
     simp only [PS.Bn,List.range_zero,List.map_nil,List.not_mem_nil,false_iff]
     rintro ⟨he,h1|h1⟩
     ·cases h1
     ·have h1:P.hd e∈ [P.src]:=h1
      have h2:P.hd e=P.src:=by simpa using h1
      have:=(h.j0 P.src e).2 ⟨he,h2⟩
      rw [h.yc] at this;cases this),Nat.zero_le _⟩
 |j+1,hj=>by
  have hi:=PS.inv h j (by omega)
  obtain ⟨e,B,hB⟩:=hi.more h (by omega)
  obtain ⟨k,hr⟩:=hi.row
  have hsh:P.sh j=e:=by unfold PS.sh;rw [hB];rfl
  have NO:e∈(P.st j).A++(P.st j).B:=by rw [hB];simp
  have hm:=(h.p5 hr e).1 NO
  have eW:=h.yb hr
  have NP:e∉(P.st j).A:=fun hA=>by
   rw [List.nodup_append] at eW
   exact eW.2.2 e hA e (by rw [hB];simp) rfl
  have hnew:e∉P.Bn j:=fun h1=>by
   rcases ((hi.sh e).1 h1).2 with h2|h2
   ·exact NP h2
   ·exact hm.2.2 h2
  have IF:(P.Bn (j+1)).Nodup:=by
   rw [PS.rK,hsh,List.nodup_append]
   exact ⟨hi.nd,by simp,fun a ha b hb=>by
    rw [List.mem_singleton] at hb
    subst hb
    intro e2;exact hnew (e2 ▸ ha)⟩
  obtain ⟨he,hc⟩:=PS.yd h hr hB
  have hst:P.st (j+1)=P.next (P.st j):=rfl
  rw [hst]
  rcases hc with ⟨A',h1,h2,h3⟩|⟨h1,h3⟩
  ·rw [h3]
   have hrow:(P.st j).A++(P.st j).B=A'++P.ins (P.hd e)++B:=by rw [hB, ← h1];simp
   obtain ⟨k',rfl,hr'⟩:=h.rJ hr hrow h2
   refine ⟨⟨k',by simpa using hr'⟩,fun x hx hs=> ?_,IF,fun f=> ?_,hj⟩
   ·have hs:P.ins x<:+:A':=hs
    have hA:¬P.ins x<:+:(P.st j).A:=hi.no x hx
    obtain ⟨u,v,huv⟩:=hs
    rcases List.eq_nil_or_concat (P.ins (P.hd e)) with h0|⟨I',a,h0⟩
    ·exact h2 h0
    ·rw [h0, ← List.concat_eq_append,List.concat_eq_append] at h1
     have h4:(P.st j).A++ [e]=(A'++I')++ [a]:=by rw [h1];simp
     have h5:=(List.append_inj' h4 rfl).1
     exact hA ⟨u,v++I',by rw [h5, ← huv];simp⟩
   ·rw [PS.rK,hsh,List.mem_append,List.mem_singleton,hi.sh f]
    show _↔P.E f∧(f∈A'∨P.hd f∈(P.st j).D++ [P.hd e])
    constructor
    ·rintro (⟨h4,h5|h5⟩|rfl)
     ·have:f∈A'++P.ins (P.hd e):=by rw [← h1];exact List.mem_append.2 (.inl h5)
      rcases List.mem_append.1 this with h6|h6
      ·exact ⟨h4, .inl h6⟩
      ·exact ⟨h4, .inr (by rw [((h.j0 _ _).1 h6).2];simp)⟩
     ·exact ⟨h4, .inr (List.mem_append.2 (.inl h5))⟩
     ·exact ⟨he, .inr (by simp)⟩
    ·rintro ⟨h4,h5|h5⟩
     ·have:f∈(P.st j).A++ [e]:=by rw [h1];exact List.mem_append.2 (.inl h5)
      rcases List.mem_append.1 this with h6|h6
      ·exact .inl ⟨h4, .inl h6⟩
      ·exact .inr (by simpa using h6)
     ·rcases List.mem_append.1 h5 with h6|h6
      ·exact .inl ⟨h4, .inr h6⟩
      ·have h6:P.hd f=P.hd e:=by simpa using h6
       have h7:f∈P.ins (P.hd e):=(h.j0 _ _).2 ⟨h4,h6⟩
       have:f∈(P.st j).A++ [e]:=by rw [h1];exact List.mem_append.2 (.inr h7)
       rcases List.mem_append.1 this with h8|h8
       ·exact .inl ⟨h4, .inl h8⟩
       ·exact .inr (by simpa using h8)
  ·rw [h3]
   refine ⟨⟨k,by simpa [hB] using hr⟩,fun x hx hs=> ?_,IF,fun f=> ?_,hj⟩
   ·rcases ye hs with h4|h4
    ·exact hi.no x hx h4
    ·have hne:e∈P.ins x:=by
      obtain ⟨t,ht⟩:=h4
      rcases List.eq_nil_or_concat (P.ins x) with h0|⟨I',a,h0⟩
      ·exact absurd h0 hx
      ·rw [h0] at ht
       have h5:(t++I')++ [a]=(P.st j).A++ [e]:=by rw [← ht];simp
       have:=(List.append_inj' h5 rfl).2
       rw [h0];simp at this ⊢;exact .inr this.symm
     rw [((h.j0 _ _).1 hne).2] at h1
     exact h1 h4
   ·rw [PS.rK,hsh,List.mem_append,List.mem_singleton,hi.sh f]
    show _↔P.E f∧(f∈(P.st j).A++ [e]∨P.hd f∈(P.st j).D)
    rw [List.mem_append,List.mem_singleton]
    constructor
    ·rintro (⟨h4,h5|h5⟩|rfl)
     ·exact ⟨h4, .inl (.inl h5)⟩
     ·exact ⟨h4, .inr h5⟩
     ·exact ⟨he, .inl (.inr rfl)⟩
    ·rintro ⟨h4,(h5|h5)|h5⟩
     ·exact .inl ⟨h4, .inl h5⟩
     ·exact .inr h5
     ·exact .inl ⟨h4, .inr h5⟩
end Go.Ab
end
section
namespace Go.Ab
set_option maxRecDepth 10000
set_option linter.unusedSectionVars false
variable {P:PS}
structure PS.jx (P:PS) (L R:Int→Int) (f0 f1:Int) (low:Int→Int):Prop where
 ne:f0≠f1
 lP:∀ {x u a b v},P.outs x=u++a::b::v→R a=L b
 yf:∀ {x u a b v},P.ins x=u++a::b::v→R a=L b
 fst:∀ {x a u b v},P.ins x=a::u→P.outs x=b::v→L a=L b
 Fb:∀ {x a u b v},P.ins x=u++ [a]→P.outs x=v++ [b]→R a=R b
 s0:∀ {b v},P.outs P.src=b::v→L b=f0
 s1:∀ {b v},P.outs P.src=v++ [b]→R b=f1
 new:∀ {x u a b v},P.outs x=u++a::b::v→low (R a)=x∧R a≠f0∧R a≠f1
 new1:∀ {x u a b v u' a' b' v'},P.outs x=u++a::b::v→P.outs x=u'++a'::b'::v'→R a=R a'→a=a'
theorem C7 {l u v u' v':List Int} {a:Int} (hn:l.Nodup) (h1:l=u++a::v) (h2:l=u'++a::v'):u=u'∧v=v':=by
 induction u generalizing l u' with
 |nil=>
  cases u' with
  |nil=>rw [h1] at h2;simpa using h2
  |cons b u'=>
   rw [h1] at h2
   simp only [List.nil_append,List.cons_append,List.cons.injEq] at h2
   rw [h1,h2.2] at hn
   simp at hn
 |cons b u ih=>
  cases u' with
  |nil=>
   rw [h2] at h1
   simp only [List.nil_append,List.cons_append,List.cons.injEq] at h1
   rw [h2,h1.2] at hn
   simp at hn
  |cons b' u'=>
   have h3:=h1.symm.trans h2
   simp only [List.cons_append,List.cons.injEq] at h3
   rw [h1,List.cons_append,List.nodup_cons] at hn
   obtain ⟨h4,h5⟩:=ih hn.2 rfl h3.2
   exact ⟨by rw [h3.1,h4],h5⟩
theorem gD {l u v:List Int} {a b:Int} (h:l.reverse=u++a::b::v):l=v.reverse++b::a::u.reverse:=by
 have:=congrArg List.reverse h
 simpa using this
theorem PS.jx.Bm (h:P.Ok) {L R:Int→Int} {f0 f1:Int} {low:Int→Int} (F:P.jx L R f0 f1 low):P.Bm.jx R L f1 f0 low:=
 {ne:=F.ne.symm
  lP:=fun {x u a b v} h=>(F.lP (gD (show (P.outs x).reverse=_ from h))).symm
  yf:=fun {x u a b v} h=>(F.yf (gD (show (P.ins x).reverse=_ from h))).symm
  fst:=fun {x a u b v} h1 h2=>F.Fb (x:=x) (u:=u.reverse) (v:=v.reverse) (by
     have:=congrArg List.reverse (show (P.ins x).reverse=_ from h1);simpa using this) (by
     have:=congrArg List.reverse (show (P.outs x).reverse=_ from h2);simpa using this)
  Fb:=fun {x a u b v} h1 h2=>F.fst (x:=x) (u:=u.reverse) (v:=v.reverse) (by
    have:=congrArg List.reverse (show (P.ins x).reverse=_ from h1);simpa using this) (by
    have:=congrArg List.reverse (show (P.outs x).reverse=_ from h2);simpa using this)
  s0:=fun {b v} h1=>F.s1 (v:=v.reverse) (by
     have:=congrArg List.reverse (show (P.outs P.src).reverse=_ from h1);simpa using this)
  s1:=fun {b v} h1=>F.s0 (v:=v.reverse) (by
     have:=congrArg List.reverse (show (P.outs P.src).reverse=_ from h1);simpa using this)
  new:=fun {x u a b v} h1=>by
   have h2:=gD (show (P.outs x).reverse=_ from h1)
   obtain ⟨h3,h4,h5⟩:=F.new h2
   have h6:=F.lP h2
   rw [← h6];exact ⟨h3,h5,h4⟩
  new1:=fun {x u a b v u' a' b' v'} h1 h2 h3=>by
   have g1:=gD (show (P.outs x).reverse=_ from h1)
   have g2:=gD (show (P.outs x).reverse=_ from h2)
   rw [← F.lP g1, ← F.lP g2] at h3
   have h4:=F.new1 g1 g2 h3
   subst h4
   have:=(C7 (h.p4 x) g1 g2).2
   simp only [List.cons.injEq] at this
   exact this.1}
def nM (L R:Int→Int):Int→List Int→Prop
 |_, []=>True
 |f,a::W=>L a=f∧nM L R (R a) W
def oS (R:Int→Int):Int→List Int→Int
 |f, []=>f
 |_,a::W=>oS R (R a) W
theorem jy {L R:Int→Int} :∀ {A B:List Int} {f:Int},nM L R f (A++B)↔nM L R f A∧nM L R (oS R f A) B
 | [],B,f=>by simp [nM,oS]
 |a::A,B,f=>by simp [nM,oS,jy,and_assoc]
theorem fS {R:Int→Int} :∀ {A B:List Int} {f:Int},oS R f (A++B)=oS R (oS R f A) B
 | [],B,f=>rfl
 |a::A,B,f=>by simp [oS,fS]
theorem tg {R:Int→Int} {A:List Int} {a f:Int} :oS R f (A++ [a])=R a:=by rw [fS];rfl
theorem wO {L R:Int→Int} :∀ {X:List Int} {f:Int},(∀u a b v,X=u++a::b::v→R a=L b)→(∀a u,X=a::u→L a=f)→nM L R f X
 | [],f,_,_=>trivial
 |a::X,f,h,h1=>⟨h1 a X rfl,wO (fun u b c v e=>h (a::u) b c v (by rw [e];rfl)) fun b v e=>(h [] a b v (by rw [e];rfl)).symm⟩
theorem zH {l:List Int} (h:l≠ []):∃u a,l=u++ [a]:=by
 rcases List.eq_nil_or_concat l with h1|⟨u,a,h1⟩
 ·exact absurd h1 h
 ·exact ⟨u,a,by rw [h1,List.concat_eq_append]⟩
theorem uK {l:List Int} (h:l≠ []):∃a u,l=a::u:=by
 cases l with
 |nil=>exact absurd rfl h
 |cons a u=>exact ⟨a,u,rfl⟩
structure Gl (L R:Int→Int) (f0 f1:Int) (low:Int→Int) (W D:List Int):Prop where
 lk:nM L R f0 W
 en:oS R f0 W=f1
 nd:(W.map R).Nodup
 lo:∀a∈W,R a≠f0∧(R a=f1∨(R a≠f1∧low (R a)∈D))
theorem AS {X U V Y:List Int} {r:Int} (h:(X++(U++ [r])++Y).Nodup) (hV:V.Nodup) (hd:∀z∈V,z∉X∧z≠r∧z∉Y):(X++(V++ [r])++Y).Nodup:=by
 have h1:(X++ [r]++Y).Nodup:=by
  refine List.Nodup.sublist ?_ h
  refine List.Sublist.append (List.Sublist.append (List.Sublist.refl _) ?_) (List.Sublist.refl _)
  exact List.sublist_append_right ..
 have h2:(V++(X++ [r]++Y)).Nodup:=by
  rw [List.nodup_append]
  refine ⟨hV,h1,fun a ha b hb e=> ?_⟩
  subst e
  obtain ⟨g1,g2,g3⟩:=hd a ha
  simp only [List.mem_append,List.mem_singleton] at hb
  rcases hb with (hb|hb)|hb
  ·exact g1 hb
  ·exact g2 hb
  ·exact g3 hb
 refine (List.Perm.nodup_iff ?_).1 h2
 have:X++(V++ [r])++Y=(X++V)++([r]++Y):=by simp
 rw [this]
 have:V++(X++ [r]++Y)=(V++X)++([r]++Y):=by simp
 rw [this]
 exact List.Perm.append_right _ List.perm_append_comm
theorem l8 {R:Int→Int} :∀ {l:List Int},l.Nodup→(∀a∈l,∀b∈l,R a=R b→a=b)→(l.map R).Nodup
 | [],_,_=>by simp
 |a::l,hn,h=>by
  rw [List.nodup_cons] at hn
  rw [List.map_cons,List.nodup_cons]
  refine ⟨fun hm=> ?_,l8 hn.2 fun x hx y hy=>h x (List.mem_cons_of_mem _ hx) y (List.mem_cons_of_mem _ hy)⟩
  obtain ⟨b,hb,e⟩:=List.mem_map.1 hm
  have:=h b (List.mem_cons_of_mem _ hb) a (List.mem_cons_self ..) e
  exact hn.1 (this ▸ hb)
section
variable (h:P.Ok) {L R:Int→Int} {f0 f1:Int} {low:Int→Int} (F:P.jx L R f0 f1 low)
include h F
theorem mJ {v:List Int} {b:Int} {x:Int} (hv:P.outs x=v++ [b]) {a:Int} (ha:a∈v):∃u c w,P.outs x=u++a::c::w:=by
 obtain ⟨s,t,rfl⟩:=List.append_of_mem ha
 cases t with
 |nil=>exact ⟨s,b, [],by rw [hv];simp⟩
 |cons c t=>exact ⟨s,c,t++ [b],by rw [hv];simp⟩
theorem AT {x f:Int} (hf:∀b v,P.outs x=b::v→L b=f):nM L R f (P.outs x):=wO (fun u a b v e=>F.lP e) fun a u e=>hf a u e
theorem EG {x:Int} {v:List Int} {b:Int} (hv:P.outs x=v++ [b]):(v.map R).Nodup∧∀z∈v.map R,low z=x∧z≠f0∧z≠f1:=by
 have hn:=h.p4 x
 rw [hv,List.nodup_append] at hn
 refine ⟨l8 hn.1 fun a ha a' Lr e=> ?_,fun z hz=> ?_⟩
 ·obtain ⟨u,c,w,h1⟩:=mJ h F hv ha
  obtain ⟨u',c',w',h2⟩:=mJ h F hv Lr
  exact F.new1 h1 h2 e
 ·obtain ⟨a,ha,rfl⟩:=List.mem_map.1 hz
  obtain ⟨u,c,w,h1⟩:=mJ h F hv ha
  exact F.new h1
theorem Gl.step {A C D:List Int} {x:Int} (hi:Gl L R f0 f1 low (A++P.ins x++C) D) (hI:P.ins x≠ []) (hO:P.outs x≠ []) (hx:x∉D):Gl L R f0 f1 low (A++P.outs x++C) (D++ [x]):=by
 obtain ⟨u,a,hu⟩:=zH hI
 obtain ⟨v,b,hv⟩:=zH hO
 obtain ⟨a0,u0,Ls⟩:=uK hI
 obtain ⟨b0,v0,He⟩:=uK hO
 have hab:=F.Fb hu hv
 have h0:=F.fst Ls He
 obtain ⟨l1,l2⟩:=jy.1 hi.lk
 obtain ⟨l3,l4⟩:=jy.1 l1
 have Ml:∀f,oS R f (P.ins x)=R a:=fun f=>by rw [hu,tg]
 have Mm:∀f,oS R f (P.outs x)=R b:=fun f=>by rw [hv,tg]
 have hL:L a0=oS R f0 A:=by rw [Ls] at l4;exact l4.1
 obtain ⟨n1,n2⟩:=EG h F hv
 have eW:=hi.nd
 have hlo:=hi.lo
 refine ⟨?_, ?_, ?_,fun c hc=> ?_⟩
 ·rw [jy,jy]
  refine ⟨⟨l3,AT h F fun b' v' e=> ?_⟩, ?_⟩
  ·rw [He] at e
   simp only [List.cons.injEq] at e
   rw [← e.1, ← h0,hL]
  ·rw [fS,Mm]
   rw [fS,Ml] at l2
   rw [← hab];exact l2
 ·have:=hi.en
  rw [fS,fS,Ml] at this
  rw [fS,fS,Mm, ← hab];exact this
 ·rw [List.map_append,List.map_append,hv,List.map_append]
  rw [List.map_append,List.map_append,hu,List.map_append] at eW
  simp only [List.map_cons,List.map_nil] at eW ⊢
  rw [← hab]
  have hold:∀c∈A++P.ins x++C,R c∉v.map R:=fun c hc hz=>by
   obtain ⟨g1,g2,g3⟩:=n2 _ hz
   rcases (hlo c hc).2 with h1|⟨_,h1⟩
   ·exact g3 h1
   ·rw [g1] at h1;exact hx h1
  refine AS eW n1 fun z hz=>⟨fun E3=> ?_,fun E3=> ?_,fun E3=> ?_⟩
  ·obtain ⟨c,hc,rfl⟩:=List.mem_map.1 E3
   exact hold c (by simp [hc]) hz
  ·exact hold a (by rw [hu];simp) (E3 ▸ hz)
  ·obtain ⟨c,hc,rfl⟩:=List.mem_map.1 E3
   exact hold c (by simp [hc]) hz
 ·have hold:∀c∈A++P.ins x++C,R c≠f0∧(R c=f1∨(R c≠f1∧low (R c)∈D++ [x])):=fun c hc=>by
   obtain ⟨g1,g2⟩:=hlo c hc
   exact ⟨g1,g2.imp id fun ⟨g3,g4⟩=>⟨g3,List.mem_append.2 (.inl g4)⟩⟩
  simp only [List.mem_append] at hc
  rcases hc with (hc|hc)|hc
  ·exact hold c (by simp [hc])
  ·rw [hv,List.mem_append,List.mem_singleton] at hc
   rcases hc with hc|rfl
   ·obtain ⟨g1,g2,g3⟩:=n2 (R c) (List.mem_map_of_mem hc)
    exact ⟨g2, .inr ⟨g3,by rw [g1];simp⟩⟩
   ·have:=hold a (by rw [hu];simp)
    rw [hab] at this;exact this
  ·exact hold c (by simp [hc])
end
end Go.Ab
end
section
namespace Go.Ab
set_option maxRecDepth 10000
set_option linter.unusedSectionVars false
variable {P:PS}
inductive PS.C8 (P:PS) (x:Int):Int→Prop
 |refl:P.C8 x x
 |step {e:Int} :P.C8 x (P.tl e)→P.E e→P.C8 x (P.hd e)
theorem PS.C8.trans {x y z:Int} (h1:P.C8 x y) (h2:P.C8 y z):P.C8 x z:=by
 induction h2 with
 |refl=>exact h1
 |step _ he ih=>exact .step ih he
inductive PS.Lp (P:PS) (L R:Int→Int) (F:Int):Int→Prop
 |refl:P.Lp L R F F
 |step {e:Int} :P.Lp L R F (L e)→P.E e→P.Lp L R F (R e)
theorem PS.Lp.trans {L R:Int→Int} {x y z:Int} (h1:P.Lp L R x y) (h2:P.Lp L R y z):P.Lp L R x z:=by
 induction h2 with
 |refl=>exact h1
 |step _ he ih=>exact .step ih he
theorem PS.Lp.head {L R:Int→Int} {e z:Int} (he:P.E e) (h2:P.Lp L R (R e) z):P.Lp L R (L e) z:=(PS.Lp.step .refl he).trans h2
theorem PS.Lp.Bm {L R:Int→Int} {x y:Int} (h1:P.Lp L R x y):P.Bm.Lp R L y x:=by
 induction h1 with
 |refl=>exact .refl
 | @step e h1 he ih=>exact PS.Lp.head (P:=P.Bm) (L:=R) (R:=L) (e:=e) he ih
theorem PS.C8.Bm {x y:Int} (h1:P.C8 x y):P.Bm.C8 x y:=by
 induction h1 with
 |refl=>exact .refl
 |step h1 he ih=>exact PS.C8.step (P:=P.Bm) ih he
section
variable (h:P.Ok)
include h
variable {L R:Int→Int} {f0 f1:Int} {low:Int→Int} (F:P.jx L R f0 f1 low)
include F
end
end Go.Ab
end
section
namespace Go.Ab
set_option maxRecDepth 10000
set_option linter.unusedSectionVars false
variable {P:PS}
section
variable (h:P.Ok) {L R:Int→Int} {f0 f1:Int} {low:Int→Int} (F:P.jx L R f0 f1 low)
include h F
end
section
variable (h:P.Ok) {L R:Int→Int} {f0 f1:Int} {low:Int→Int} (F:P.jx L R f0 f1 low) {e f:Int} (he:P.E e) (hf:P.E f)
include h F he hf
end
section
variable (h:P.Ok) {L R:Int→Int} {f0 f1:Int} {low:Int→Int} (F:P.jx L R f0 f1 low) {e f:Int} (he:P.E e) (hf:P.E f)
include h F he hf
end
end Go.Ab
end
section
namespace Go.Ab
open Go.Proofs
set_option maxRecDepth 10000
def th (g:Gr) (p:Pl) (f:Fr) (x:Int):Fr:=(aL g f x (oO p x)).2
def IG (g:Gr) (p:Pl):Nat→Fr→Prop
 |0,f=>(f.pl.length:Int)=g.n
 |m+1,f=>∃x,aJ g f x=true∧IG g p m (th g p f x)
def II (rev:Bool) (l:List It):List It:=if rev=true then l.reverse else l
def C9 (g:Gr) (f:Fr) (rev:Bool):Int:=match (II rev f.row).find? (fun t=>aJ g f t.2.2) with
 |some t=>t.2.2
 |none=>(Gg g f).headD (-1)
def zI (g:Gr) (p:Pl) (rev:Bool):Nat→Fr
 |0=>⟨[], []⟩
 |k+1=>th g p (zI g p rev k) (C9 g (zI g p rev k) rev)
def Da (g:Gr) (p:Pl) (rev:Bool):Nat→List Int
 |0=>List.replicate g.n.toNat 0
 |k+1=>(Da g p rev k).set (C9 g (zI g p rev k) rev).toNat (k:Int)
def NQ (g:Gr) (p:Pl) (rev:Bool):List Int:=(List.range g.n.toNat).map fun k=>C9 g (zI g p rev k) rev
end Go.Ab
end
section
namespace Go.Ab
open Go.Proofs
set_option maxRecDepth 10000
def NR (f:Fr):Fr:=⟨f.row.reverse,f.pl⟩
def NS (p:Pl):Pl:=⟨p.ord,p.outs.map List.reverse⟩
theorem fI.rev {x:Int} {l:List It} (h:fI x l):fI x l.reverse:=fun t ht=>h t (List.mem_reverse.1 ht)
theorem AG.rev {x:Int} {X:List It} (h:AG x X):AG x X.reverse:=
 ⟨by obtain ⟨X',q,h1,h2⟩:=h.Fb;exact ⟨q,X'.reverse,by simp [h1],h2⟩,by obtain ⟨p,X',h1,h2⟩:=h.fst;exact ⟨X'.reverse,p,by simp [h1],h2⟩,fun t ht=>h.al t (List.mem_reverse.1 ht)⟩
end Go.Ab
end
section
namespace Go.Ab
open Go.Proofs
set_option maxRecDepth 10000
def loose (l:List It):List Int:=(l.filter fun t=>decide (t.1<0)).map fun t=>t.2.1
def IJ (g:Gr) (p:Pl):Nat→List Edge
 |0=> []
 |k+1=>IJ g p k++(loose (C1 g p k)).map fun v=>(v,dM p k)
def wQ (g:Gr) (p:Pl):List It:=(fK g p g.n.toNat).row
def newL (g:Gr) (p:Pl):List Edge:=if 1<(wQ g p).length then (loose (wQ g p)).map fun v=>(v,g.n) else []
def IK (g:Gr) (p:Pl):List Edge:=IJ g p g.n.toNat++newL g p
def Db (g:Gr) (p:Pl):Gr:=⟨if 1<(wQ g p).length then g.n+1 else g.n,g.es++IK g p⟩
def IL:Nat→List Edge→List (List Int)→List (List Int)
 |_, [],O=>O
 |m,e::N,O=>IL (m+1) N (O.set e.1.toNat [(m:Int)])
def Lt (g:Gr) (p:Pl):Pl:=⟨if 1<(wQ g p).length then p.ord++ [g.n] else p.ord,IL g.es.length (IK g p) (if 1<(wQ g p).length then p.outs++ [[]] else p.outs)⟩
def NT (g:Gr) (p:Pl) (x:Gr):List (List Int):=(List.range x.n.toNat).map fun v=>if 0<(p.outs.getD v []).length then p.outs.getD v [] else cS x (v:Int)
end Go.Ab
end
section
namespace Go.Ab
open Go.Proofs
set_option maxRecDepth 10000
abbrev Act:=Int × List Int
def rA (a:Act):List D:= [.sc (.int .i64 a.1),sI a.2]
def sA (as':List Act):D:= .sl 2 (as'.map rA)
attribute [go_sem] sA
def IM (g:Gr) (Gm:List Act):Nat→Fr
 |0=>⟨[], []⟩
 |k+1=>(Eu g (IM g Gm k) (Gm.getD k (0, [])).1 (Gm.getD k (0, [])).2).2
end Go.Ab
end
section
namespace Go.Ab
open Go.Proofs
attribute [local congr] ACall.congr gd.congr Nx.congr
set_option maxRecDepth 10000
set_option maxHeartbeats 4000000
def ePl (p:Pl):AV:= .agg [.d (sI p.ord), .d (.sl 1 (vI p.outs))]
attribute [go_sem] ePl
structure IN (p:Pl):Prop where
 ord:p.ord.length≤17592186043904
 outs:p.outs.length≤9223372036854775807
 each:∀l∈p.outs,l.length≤17592186043904
end Go.Ab
end
section
namespace Go.Ab
open Go.Proofs
attribute [local congr] ACall.congr gd.congr Nx.congr
set_option maxRecDepth 10000
set_option maxHeartbeats 8000000
def NU (m:Nat) (fl:List Int):List Int:=(List.range m).map fun i:Nat=>if (i:Int)∈fl then (1:Int) else 0
end Go.Ab
end
section
namespace Go.Ab
open Go.Proofs
attribute [local congr] ACall.congr gd.congr Nx.congr
set_option maxRecDepth 10000
set_option maxHeartbeats 8000000
def uL (b:Bool) (g:Gr) (p:Pl):(List (List It) × List It) × Int × Int:=
 if b=false then (([], []),(1,0)) else
 match Fe g p g.n.toNat with
 |some i=>(([], []),(3,(i:Int)))
 |none=>((wu g p g.n.toNat,(fK g p g.n.toNat).row),(0,0))
end Go.Ab
end
section
namespace Go.Ab
open Go.Proofs
attribute [local congr] ACall.congr gd.congr Nx.congr
set_option maxRecDepth 10000
set_option maxHeartbeats 8000000
end Go.Ab
end
section
namespace Go.Ab
open Go.Proofs
attribute [local congr] ACall.congr gd.congr Nx.congr
set_option maxRecDepth 10000
set_option maxHeartbeats 8000000
def Pr (n:Int) (es:List Edge) (ord:List Int) (O:List (List Int)):List (Nat × AObj):= [(10000, .box [eN n, .ref 10001, .ref 10002, .ref 10003]),(10001, .tip 73 2 (es.map rE)),(10002, .tip 3 1 (ord.map rI)),(10003, .own 31 1 (vI O))]
def Pu (n:Int) (es:List Edge) (ord:List Int) (O:List (List Int)):List (Nat × AObj):= [(10000, .box [eN n, .ref 10004, .ref 10002, .ref 10003]),(10004, .tip 73 2 (es.map rE)),(10002, .tip 3 1 (ord.map rI)),(10003, .own 31 1 (vI O))]
def NV (x:Int) (items:List It):List Edge:=(loose items).map fun v=>(v,x)
end Go.Ab
end
section
namespace Go.Ab
open Go.Proofs
attribute [local congr] ACall.congr gd.congr Nx.congr
set_option maxRecDepth 10000
set_option maxHeartbeats 16000000
def pz:Pl:=⟨[], []⟩
def NW (b:Bool) (g:Gr) (p:Pl):Gr × Pl × Int:=
 if (uL b g p).2.1≠0 then (gz,pz,1) else if 64<(Db g p).n∨128<(Db g p).es.length then (gz,pz,10) else (Db g p,Lt g p,0)
end Go.Ab
end
section
namespace Go.Ab
open Go.Proofs
attribute [local congr] ACall.congr gd.congr Nx.congr
set_option maxRecDepth 10000
set_option maxHeartbeats 16000000
def NX (p:Pl) (x:Gr) (k:Nat):List (List Int):=(List.range k).map fun v=>if 0<(p.outs.getD v []).length then p.outs.getD v [] else cS x (v:Int)
end Go.Ab
end
section
namespace Go.Ab
open Go.Proofs
attribute [local congr] ACall.congr gd.congr Nx.congr
set_option maxRecDepth 10000
set_option maxHeartbeats 8000000
def Lu (g:Gr) (p:Pl):Bool:=decide (200<g.es.length)||decide (100<p.ord.length)||decide (100<p.outs.length)||p.outs.any fun l=>decide (200<l.length)
structure Ff (p:Pl):Prop where
 ord:p.ord.length≤9223372036854775807
 outs:p.outs.length≤9223372036854775807
 each:∀l∈p.outs,l.length≤9223372036854775807
theorem l9 (p:Pl) (hp:Ff p):Spec Tryz.prog 18 (Args [ePl p,ePl p]) [] (eB true) []:=by
 have ho:=hp.ord
 have hu:=hp.outs
 (refine Spec.hd (C:=T.cfg [] []) (rs:= [.t 4]) (T.ai _ _) Tryz.func18 rfl rfl Tryz.ntmps18 Tryz.results18 (by simp [AObj.isNest]) (by simp [AObj.isNest]) (by kernel_rfl) T.mixed fun X hX hP hC aG b9=> ?_)
 repeat' (first|refine Rn.p ?_|(with_reducible apply And.intro)|((first|(refine hK _ ?_;clear hK K)|with_reducible intro K hK|refine Rs.p ?_|((with_reducible first|apply oP|apply oQ);exact rfl));try simp only [go_sem,simprocAttr,decide_true])|((with_reducible refine oD ?_ ?_);kernel_rfl)|((with_reducible intro h);try simp only [go_sem,simprocAttr,decide_true] at h)|omega|intro h)
 refine ag (fun k:Nat=>k≤p.ord.length) (fun k=>⟨[(2, .ptr 2 0),(3, .ptr 3 0),(5,eN k)], [(2, .box [.d (sI p.ord), .d (.sl 1 (vI p.outs))]),(3, .box [.d (sI p.ord), .d (.sl 1 (vI p.outs))])]⟩) (fun k=>p.ord.length - k) 0 (by simp) ?_ ?_
 ·(refine Le.of ?_ ?_<;>simp [go_sem,simprocAttr,decide_true])
 rintro k hk
 rcases Nat.lt_or_ge k p.ord.length with b8|DA
 ·have hb:decide ((k:Int)<(p.ord.length:Int))=true:=decide_eq_true (by omega)
  repeat' (first|refine Rn.p ?_|(with_reducible apply And.intro)|((first|(refine hK _ ?_;clear hK K)|with_reducible intro K hK|refine Rs.p ?_|((with_reducible first|apply oP|apply oQ);exact rfl));try simp only [go_sem,simprocAttr,decide_true,hb])|((with_reducible refine oD ?_ ?_);kernel_rfl)|((with_reducible intro h);try simp only [go_sem,simprocAttr,decide_true,hb] at h)|omega|intro h)
  refine ⟨k+1,by omega, ?_,by omega⟩
  (refine Le.of ?_ ?_<;>simp [go_sem,simprocAttr,decide_true,hb])
 have hb:decide ((k:Int)<(p.ord.length:Int))=false:=decide_eq_false (by omega)
 repeat' (first|refine Rn.p ?_|(with_reducible apply And.intro)|((first|(refine hK _ ?_;clear hK K)|with_reducible intro K hK|refine Rs.p ?_|((with_reducible first|apply oP|apply oQ);exact rfl));try simp only [go_sem,simprocAttr,decide_true,hb])|((with_reducible refine oD ?_ ?_);kernel_rfl)|((with_reducible intro h);try simp only [go_sem,simprocAttr,decide_true,hb] at h)|omega|intro h)
 clear hb hk DA
 refine ag (fun k:Nat=>k≤p.outs.length) (fun k=>⟨[(2, .ptr 2 0),(3, .ptr 3 0),(6,eN k)], [(2, .box [.d (sI p.ord), .d (.sl 1 (vI p.outs))]),(3, .box [.d (sI p.ord), .d (.sl 1 (vI p.outs))])]⟩) (fun k=>p.outs.length - k) 0 (by simp) ?_ ?_
 ·(refine Le.of ?_ ?_<;>simp [go_sem,simprocAttr])
 rintro k hk
 rcases Nat.lt_or_ge k p.outs.length with b8|DA
 ·have hb:decide ((k:Int)<(p.outs.length:Int))=true:=decide_eq_true (by omega)
  have hv:=zn b8
  have mL:=hp.each _ (bf (d:= []) b8)
  generalize p.outs.getD k []=l at hv mL
  repeat' (first|refine Rn.p ?_|(with_reducible apply And.intro)|((first|(refine hK _ ?_;clear hK K)|with_reducible intro K hK|refine Rs.p ?_|((with_reducible first|apply oP|apply oQ);exact rfl));try simp only [go_sem,simprocAttr,decide_true,hb,hv])|((with_reducible refine oD ?_ ?_);kernel_rfl)|((with_reducible intro h);try simp only [go_sem,simprocAttr,decide_true,hb,hv] at h)|omega|intro h)
  refine ag (fun j:Nat=>j≤l.length) (fun j=>⟨[(2, .ptr 2 0),(3, .ptr 3 0),(6,eN k),(7,eN j)], [(2, .box [.d (sI p.ord), .d (.sl 1 (vI p.outs))]),(3, .box [.d (sI p.ord), .d (.sl 1 (vI p.outs))])]⟩) (fun j=>l.length - j) 0 (by simp) ?_ ?_
  ·(refine Le.of ?_ ?_<;>simp [go_sem,simprocAttr])
  rintro j hj
  rcases Nat.lt_or_ge j l.length with hjl|Jm
  ·have Gn:decide ((j:Int)<(l.length:Int))=true:=decide_eq_true (by omega)
   repeat' (first|refine Rn.p ?_|(with_reducible apply And.intro)|((first|(refine hK _ ?_;clear hK K)|with_reducible intro K hK|refine Rs.p ?_|((with_reducible first|apply oP|apply oQ);exact rfl));try simp only [go_sem,simprocAttr,decide_true,Gn,hv])|((with_reducible refine oD ?_ ?_);kernel_rfl)|((with_reducible intro h);try simp only [go_sem,simprocAttr,decide_true,Gn,hv] at h)|omega|intro h)
   refine ⟨j+1,by omega, ?_,by omega⟩
   (refine Le.of ?_ ?_<;>simp [go_sem,simprocAttr,decide_true,Gn,hv])
  ·have Gn:decide ((j:Int)<(l.length:Int))=false:=decide_eq_false (by omega)
   repeat' (first|refine Rn.p ?_|(with_reducible apply And.intro)|((first|(refine hK _ ?_;clear hK K)|with_reducible intro K hK|refine Rs.p ?_|((with_reducible first|apply oP|apply oQ);exact rfl));try simp only [go_sem,simprocAttr,decide_true,Gn,hv])|((with_reducible refine oD ?_ ?_);kernel_rfl)|((with_reducible intro h);try simp only [go_sem,simprocAttr,decide_true,Gn,hv] at h)|omega|intro h)
   refine ⟨k+1,by omega, ?_,by omega⟩
   (refine Le.of ?_ ?_<;>simp [go_sem,simprocAttr,decide_true,Gn,hv])
 ·have hb:decide ((k:Int)<(p.outs.length:Int))=false:=decide_eq_false (by omega)
  repeat' (first|refine Rn.p ?_|(with_reducible apply And.intro)|((first|(refine hK _ ?_;clear hK K)|with_reducible intro K hK|refine Rs.p ?_|((with_reducible first|apply oP|apply oQ);exact rfl));try simp only [go_sem,simprocAttr,decide_true,hb])|((with_reducible refine oD ?_ ?_);kernel_rfl)|((with_reducible intro h);try simp only [go_sem,simprocAttr,decide_true,hb] at h)|omega|intro h)
def IP (g:Gr):Bool:=decide ((dR g).1=0)&&decide ((c9 (·.1) g).length=1)
end Go.Ab
end
section
namespace Go.Ab
open Go.Proofs
attribute [local congr] ACall.congr gd.congr Nx.congr
set_option maxRecDepth 10000
set_option maxHeartbeats 8000000
def g16:Gr:=⟨3, [(0,1),(0,2)]⟩
def Pv:Pl:=⟨[0,1,2], [[0,1], [], []]⟩
def Pw:Gr:=⟨4, [(0,1),(0,2),(1,3),(2,3)]⟩
def Px:Pl:=⟨[0,1,2,3], [[0,1], [2], [3], []]⟩
end Go.Ab
end
section
namespace Go.Ab
open Go.Proofs
attribute [local congr] ACall.congr gd.congr Nx.congr
set_option maxRecDepth 10000
def Py (l:List Int) (k:Nat):Bool:=(List.range k).all fun i=>decide (l.getD i 0=(i:Int))
def EH (g:Gr) (names order:List Int) (k:Nat):List Edge:=(List.range k).map fun i=>(names.getD (g.es.getD (order.getD i 0).toNat (0,0)).1.toNat 0,names.getD (g.es.getD (order.getD i 0).toNat (0,0)).2.toNat 0)
def fW (g:Gr) (names order:List Int):Gr:=⟨g.n,EH g names order order.length⟩
theorem wR {g:Gr} {names order:List Int} {k:Nat} :(EH g names order k).length=k:=by simp [EH]
def IQ (g:Gr) (names order:List Int):Bool:=aV g&&kT names g.n&&kT order g.es.length
def NY (g:Gr) (names order:List Int):Gr:=if IQ g names order then fW g names order else ⟨0, []⟩
end Go.Ab
end
section
namespace Go.Ab
def Ed (g:Gr) (a b:Int):Prop:=∃i,i<g.es.length∧tl g i=a∧hd g i=b
def Jt (g:Gr) (l:List Int):Prop:=∀i,i<l.length→Ed g (l.getD i 0) (l.getD ((i+1) % l.length) 0)
def Dc (g:Gr) (way:List Int) (at_:Int):Prop:=∀p,p<way.length→Ed g ((way++ [at_]).getD (p+1) 0) (way.getD p 0)
theorem oT {l:List Int} {a:Int} :(l++ [a]).getD l.length 0=a:=by
 rw [List.getD_eq_getElem?_getD,List.getElem?_append_right (Nat.le_refl _)];simp
theorem rL {g:Gr} (hm:aV g=true):∀(f:Nat) (way:List Int) (a:Nat),a<g.n.toNat→(a:Int)∉aI g→Dc g way a→left g way≤f→
 Dc g (jR g (cw g (aI g)) f way a).1 (jR g (cw g (aI g)) f way a).2∧0≤(jR g (cw g (aI g)) f way a).2∧(jR g (cw g (aI g)) f way a).2∈(jR g (cw g (aI g)) f way a).1
 |f,way,a,ha,hn,hc,hl=>by
  by_cases hmem:(a:Int)∈way
  ·rw [jh (.inr hmem)]
   exact ⟨hc,by simp only;omega,hmem⟩
  ·have hla:=gN ha hmem
   cases f with
   |zero=>omega
   |succ f=>
    obtain ⟨⟨i,hi,NZ,lS,Iu⟩,_⟩:=qN hm (F3 hm ha hn)
    have htr:=cM hm hi
    rw [lS] at htr
    obtain ⟨b,mM⟩:∃b:Nat,iC g (cw g (aI g)) a=b:=⟨(iC g (cw g (aI g)) a).toNat,by omega⟩
    rw [mM] at Iu htr lS
    have e1:jR g (cw g (aI g)) (f+1) way a=jR g (cw g (aI g)) f (way++ [(a:Int)]) b:=by
     simp only [jR];rw [if_neg (by intro h;rcases h with h|h;omega;exact hmem h),mM]
    rw [e1]
    refine rL hm f (way++ [(a:Int)]) b (by omega) Iu ?_ (by omega)
    intro p hp
    rw [List.length_append,List.length_singleton] at hp
    by_cases ij:p<way.length
    ·have:=hc p ij
     rw [nE (by simp;omega),nE ij]
     exact this
    ·have:p=way.length:=by omega
     subst this
     have e2:=oT (l:=way++ [(a:Int)]) (a:=(b:Int))
     rw [List.length_append,List.length_singleton] at e2
     rw [e2,oT]
     exact ⟨i,hi,lS,NZ⟩
theorem oU {l:List Int} {k p:Nat} :(l.drop k).getD p 0=l.getD (k+p) 0:=by
 rw [List.getD_eq_getElem?_getD,List.getElem?_drop, ← List.getD_eq_getElem?_getD]
theorem Jt.Lv {g:Gr} {l:List Int} (h:∀p,p<l.length→Ed g (l.getD ((p+1) % l.length) 0) (l.getD p 0)) (h0:0<l.length):Jt g (j9 l.reverse):=by
 have Jn:0<l.reverse.length:=by simpa using h0
 obtain ⟨k,zU,hk2,_⟩:=dI (gO Jn)
 rw [List.length_reverse] at hk2
 have e1:j9 l.reverse=l.reverse.drop k++l.reverse.take k:=by simp only [j9,zU,Int.toNat_natCast]
 have hlen:(j9 l.reverse).length=l.length:=by rw [e1];simp;omega
 have hg:∀i,i<l.length→(j9 l.reverse).getD i 0=l.getD (l.length - 1 - (i+k) % l.length) 0:=by
  intro i hi
  rw [e1,List.getD_eq_getElem?_getD]
  by_cases hik:i<l.length - k
  ·rw [List.getElem?_append_left (by simp;omega),List.getElem?_drop,List.getElem?_reverse (by omega),Nat.mod_eq_of_lt (by omega), ← List.getD_eq_getElem?_getD]
   congr 1;omega
  ·rw [List.getElem?_append_right (by simp;omega),List.length_drop,List.length_reverse,List.getElem?_take,if_pos (by omega),List.getElem?_reverse (by omega), ← List.getD_eq_getElem?_getD]
   have:(i+k) % l.length=i+k - l.length:=by rw [Nat.mod_eq_sub_mod (by omega),Nat.mod_eq_of_lt (by omega)]
   rw [this];congr 1;omega
 intro i hi
 rw [hlen] at hi ⊢
 rw [hg i hi,hg _ (Nat.mod_lt _ h0)]
 have hmm:((i+1) % l.length+k) % l.length=((i+k) % l.length+1) % l.length:=by
  rw [Nat.mod_add_mod,Nat.mod_add_mod];congr 1;omega
 rw [hmm]
 have hj:=Nat.mod_lt (i+k) h0
 generalize (i+k) % l.length=j at hj ⊢
 by_cases Dd:j+1<l.length
 ·rw [Nat.mod_eq_of_lt Dd]
  have:=h (l.length - 1 - (j+1)) (by omega)
  rw [Nat.mod_eq_of_lt (by omega),show l.length - 1 - (j+1)+1=l.length - 1 - j from by omega] at this
  exact this
 ·have:j+1=l.length:=by omega
  rw [this,Nat.mod_self]
  have:=h (l.length - 1) (by omega)
  rw [show l.length - 1+1=l.length from by omega,Nat.mod_self] at this
  rw [show l.length - 1 - j=0 from by omega]
  exact this
def Lw (g:Gr):Prop:=∃r:Int→Nat,∀i,i<g.es.length→r (tl g i)<r (hd g i)
theorem zJ {g:Gr} (hm:aV g=true):Bk g=true↔Lw g:=by
 constructor
 ·intro h
  refine ⟨fun v=>((xm g.n.toNat (aI g) (aI g).length).getD v.toNat 0).toNat,fun i hi=> ?_⟩
  have h1:=CU (AB hm h) hi
  have h2:=q6 (n:=g.n.toNat) (l:=aI g) (k:=(aI g).length) (y:=(tl g i).toNat)
  simp only;omega
 ·rintro ⟨r,hr⟩
  cases h:Bk g with
  |true=>rfl
  |false=>
   exfalso
   obtain ⟨y,hy,hn⟩:=zi hm h
   have key:∀(p:Nat) (y:Nat),y<g.n.toNat→(y:Int)∉aI g→r y=p→False:=by
    intro p
    induction p using Nat.strongRecOn with
    |_ p ih=>
     intro y hy hn hp
     obtain ⟨t,i,hi,h1,rfl,h2⟩:=F3 hm hy hn
     have htr:=cM hm hi
     have hlt:=hr i hi
     rw [h1,hp] at hlt
     have e:((tl g i).toNat:Int)=tl g i:=by omega
     exact ih (r (tl g i)) hlt (tl g i).toNat (by omega) (by rw [e];exact h2) (by rw [e])
   exact key _ y hy hn rfl
theorem EI {g:Gr} (hm:aV g=true) (h:Bk g=true):jg g= []:=by
 have hall:=(cu.1 (zh hm h)).2
 have hn:=bL hm
 rcases start_eq hm with ⟨h1,h2⟩|⟨a,ha,h1,h2,h3⟩
 ·have:jf g=([], -1):=by
   unfold jf;rw [h1];exact jh (.inl (by omega)) _
  simp only [jg,this]
  rw [if_pos (by omega)]
 ·exact absurd (hall a (cO.2 (by omega))) h3
theorem De {g:Gr} (hm:aV g=true) (h:Bk g=false):0<(jg g).length∧Jt g (jg g):=by
 obtain ⟨y,hy,N0⟩:=zi hm h
 have hn:=bL hm
 rcases start_eq hm with ⟨h1,h2⟩|⟨a,ha,h1,h2,h3⟩
 ·exfalso
  rcases fA (f:=fun n:Int=>decide (0<n)) (l:=cw g (aI g)) 0 with ⟨_,h4⟩|⟨k,h4,_⟩
  ·have h5:=(oh hm hy).2 N0
   have h6:=h4 ((cw g (aI g)).getD y 0) (by rw [List.getD_eq_getElem?_getD,jP hy];exact List.mem_of_getElem? (jP hy))
   rw [kH hy] at h6
   exact absurd h5 (of_decide_eq_false h6)
  ·omega
 ·obtain ⟨h4,h5,h6⟩:=rL hm g.n.toNat [] a ha h3 (fun p hp=>by simp at hp) ug
  have hw:jf g=jR g (cw g (aI g)) g.n.toNat [] a:=by unfold jf;rw [h1]
  rw [← hw] at h4 h5 h6
  obtain ⟨k,zU,hk2,Jo⟩:=dI h6
  have hc:jg g=j9 ((jf g).1.drop k).reverse:=by
   simp only [jg]
   rw [if_neg (by omega),zU,Int.toNat_natCast]
  have hlen:((jf g).1.drop k).length=(jf g).1.length - k:=by simp
  have h0:0<((jf g).1.drop k).length:=by omega
  refine ⟨?_, ?_⟩
  ·rw [hc]
   simp only [j9,List.length_append,List.length_drop,List.length_take,List.length_reverse]
   omega
  ·rw [hc]
   refine Jt.Lv (fun p hp=> ?_) h0
   rw [hlen] at hp ⊢
   have h7:=h4 (k+p) (by omega)
   rw [oU (p:=p)]
   by_cases Dd:p+1<(jf g).1.length - k
   ·rw [Nat.mod_eq_of_lt Dd,oU]
    rw [nE (by omega)] at h7
    exact h7
   ·have:p+1=(jf g).1.length - k:=by omega
    rw [this,Nat.mod_self,oU,Nat.add_zero,Jo]
    rw [show k+p+1=(jf g).1.length from by omega,oT] at h7
    exact h7
end Go.Ab
end
section
namespace Go.Ab
def nm (names:List Int) (v:Int):Int:=names.getD v.toNat 0
structure iN (g:Gr) (names order:List Int):Prop where
 may:aV g=true
 Gp:kT names g.n=true
 ord:kT order (g.es.length:Int)=true
section
variable {g:Gr} {names order:List Int} (h:iN g names order)
include h
theorem iN.len:(fW g names order).es.length=g.es.length:=by
 have:=(cu.1 h.ord).1
 simp only [fW,wR];omega
theorem iN.iQ {i:Nat} (hi:i<g.es.length):∃j,j<g.es.length∧order.getD i 0=(j:Int)∧(fW g names order).es.getD i (0,0)=(nm names (tl g j),nm names (hd g j)):=by
 have DC:=(cu.1 h.ord).1
 have:=qZ h.ord _ (gQ (l:=order) (m:=i) (by omega))
 refine ⟨(order.getD i 0).toNat,by omega,by omega, ?_⟩
 simp only [fW,EH,nm,tl,hd]
 rw [List.getD_eq_getElem?_getD,List.getElem?_map,List.getElem?_range (by omega)]
 rfl
theorem iN.back {j:Nat} (hj:j<g.es.length):∃i,i<g.es.length∧order.getD i 0=(j:Int)∧(fW g names order).es.getD i (0,0)=(nm names (tl g j),nm names (hd g j)):=by
 obtain ⟨DC,hall⟩:=cu.1 h.ord
 obtain ⟨i,hi,hil,he⟩:=dI (hall (j:Int) (cO.2 (by omega)))
 obtain ⟨j',_,h2,h3⟩:=h.iQ (i:=i) (by omega)
 have:j'=j:=by omega
 subst this
 exact ⟨i,by omega,he,h3⟩
theorem iN.inj {a b:Int} (ha:0≤a∧a<g.n) (hb:0≤b∧b<g.n) (e:nm names a=nm names b):a=b:=by
 have hnl:=(cu.1 h.Gp).1
 have:=jX h.Gp (i:=a.toNat) (j:=b.toNat) (by omega) (by omega) e
 omega
theorem iN.range {a:Int} (ha:0≤a∧a<g.n):0≤nm names a∧nm names a<g.n:=by
 have hnl:=(cu.1 h.Gp).1
 exact qZ h.Gp _ (gQ (by omega))
theorem iN.inv {a:Int} (ha:0≤a∧a<g.n):eY names (nm names a)=a:=by
 have hnl:=(cu.1 h.Gp).1
 obtain ⟨k,hk,b8,he⟩:=dI (gQ (l:=names) (m:=a.toNat) (by omega))
 have h2:=jX h.Gp b8 (j:=a.toNat) (by omega) he
 have h3:eY names (nm names a)=k:=hk
 omega
theorem iN.of {v:Int} (hv:0≤v∧v<g.n):∃a,(0≤a∧a<g.n)∧nm names a=v:=by
 obtain ⟨hnl,hall⟩:=cu.1 h.Gp
 obtain ⟨k,hk,b8,he⟩:=dI (hall v (cO.2 (by omega)))
 exact ⟨k,by omega,he⟩
theorem iN.may':aV (fW g names order)=true:=by
 have hn:=bL h.may
 have hlen:=h.len
 have hall:(fW g names order).es.any (oe (fW g names order))=false:=by
  rw [List.any_eq_false]
  intro e he
  obtain ⟨i,hi,rfl⟩:=List.getElem_of_mem he
  obtain ⟨j,hj,_,h3⟩:=h.iQ (i:=i) (by omega)
  rw [List.getD_eq_getElem?_getD,List.getElem?_eq_getElem hi,Option.getD_some] at h3
  rw [h3]
  have h4:=h.range (cM h.may hj)
  have h5:=h.range (fO h.may hj)
  have e1:(fW g names order).n=g.n:=rfl
  simp only [oe,tX,e1,Bool.or_eq_true,decide_eq_true_eq]
  omega
 have e1:(fW g names order).n=g.n:=rfl
 simp only [aV,hall,e1,Bool.not_false,Bool.and_true,Bool.and_eq_true,decide_eq_true_eq]
 omega
omit h in
theorem oV {i j:Nat} (e:(fW g names order).es.getD i (0,0)=(nm names (tl g j),nm names (hd g j))):tl (fW g names order) i=nm names (tl g j)∧hd (fW g names order) i=nm names (hd g j):=⟨congrArg Prod.fst e,congrArg Prod.snd e⟩
theorem iN.loop:(0≤ji (fW g names order))↔0≤ji g:=by
 have key:∀g:Gr,(0≤ji g)↔∃i,i<g.es.length∧tl g i=hd g i:=by
  intro g
  have:=c7 (fun e:Edge=>decide (e.1=e.2)) g.es
  rw [show (0≤ji g)↔g.es.any (fun e:Edge=>decide (e.1=e.2))=true from by rw [← this];simp [ji],List.any_eq_true]
  constructor
  ·rintro ⟨e,he,h2⟩
   obtain ⟨i,hi,rfl⟩:=List.getElem_of_mem he
   refine ⟨i,hi, ?_⟩
   simpa [tl,hd,List.getD_eq_getElem?_getD,List.getElem?_eq_getElem hi] using h2
  ·rintro ⟨i,hi,h2⟩
   refine ⟨_,List.getElem_mem hi, ?_⟩
   simpa [tl,hd,List.getD_eq_getElem?_getD,List.getElem?_eq_getElem hi] using h2
 rw [key,key,h.len]
 constructor
 ·rintro ⟨i,hi,e⟩
  obtain ⟨j,hj,_,h3⟩:=h.iQ hi
  obtain ⟨e1,e2⟩:=oV h3
  exact ⟨j,hj,h.inj (cM h.may hj) (fO h.may hj) (by rw [← e1, ← e2,e])⟩
 ·rintro ⟨j,hj,e⟩
  obtain ⟨i,hi,_,h3⟩:=h.back hj
  obtain ⟨e1,e2⟩:=oV h3
  exact ⟨i,hi,by rw [e1,e2,e]⟩
omit h in
theorem tj (g:Gr):(0≤eA g)↔∃i k,i<g.es.length∧k<g.es.length∧i≠k∧g.es.getD i (0,0)=g.es.getD k (0,0):=by
 have:=c7 (mC g) (List.range g.es.length)
 rw [show (0≤eA g)↔(List.range g.es.length).any (mC g)=true from by rw [← this];simp [eA],List.any_eq_true]
 constructor
 ·rintro ⟨i,hi,h2⟩
  have hil:=List.mem_range.1 hi
  have h3:=of_decide_eq_true h2
  rw [List.mem_iff_getElem?] at h3
  obtain ⟨k,hk⟩:=h3
  rw [List.getElem?_take] at hk
  split at hk
  ·rename_i hki
   exact ⟨i,k,hil,by omega,by omega,by rw [List.getD_eq_getElem?_getD (i:=k),hk];rfl⟩
  ·cases hk
 ·rintro ⟨i,k,hi,hk,hne,e⟩
  have main:∀i k,k<i→i<g.es.length→g.es.getD i (0,0)=g.es.getD k (0,0)→mC g i=true:=by
   intro i k hki hi e
   refine decide_eq_true ?_
   rw [e,List.mem_iff_getElem?]
   refine ⟨k, ?_⟩
   rw [List.getElem?_take,if_pos hki,List.getD_eq_getElem?_getD,List.getElem?_eq_getElem (by omega)];rfl
  rcases Nat.lt_or_gt_of_ne hne with hlt|hgt
  ·exact ⟨k,List.mem_range.2 hk,main k i hlt hk e.symm⟩
  ·exact ⟨i,List.mem_range.2 hi,main i k hgt hi e⟩
theorem iN.IS:(0≤eA (fW g names order))↔0≤eA g:=by
 have DC:=(cu.1 h.ord).1
 rw [tj,tj,h.len]
 constructor
 ·rintro ⟨i,k,hi,hk,hne,e⟩
  obtain ⟨j,hj,ho,h3⟩:=h.iQ hi
  obtain ⟨j',hj',ho',D3⟩:=h.iQ hk
  refine ⟨j,j',hj,hj',fun e'=> ?_, ?_⟩
  ·subst e'
   exact hne (jX h.ord (by omega) (by omega) (by rw [ho,ho']))
  ·rw [h3,D3,Prod.mk.injEq] at e
   have e1:=h.inj (cM h.may hj) (cM h.may hj') e.1
   have e2:=h.inj (fO h.may hj) (fO h.may hj') e.2
   exact Prod.ext e1 e2
 ·rintro ⟨j,j',hj,hj',hne,e⟩
  obtain ⟨i,hi,ho,h3⟩:=h.back hj
  obtain ⟨k,hk,ho',D3⟩:=h.back hj'
  refine ⟨i,k,hi,hk,fun e'=> ?_, ?_⟩
  ·subst e';omega
  ·have e1:tl g j=tl g j':=congrArg Prod.fst e
   have e2:hd g j=hd g j':=congrArg Prod.snd e
   rw [h3,D3,e1,e2]
theorem iN.Lx:Bk (fW g names order)=Bk g:=by
 rw [Bool.eq_iff_iff,zJ h.may',zJ h.may]
 constructor
 ·rintro ⟨r,hr⟩
  refine ⟨fun v=>r (nm names v),fun j hj=> ?_⟩
  obtain ⟨i,hi,_,h3⟩:=h.back hj
  obtain ⟨e1,e2⟩:=oV h3
  have:=hr i (by rw [h.len];exact hi)
  rwa [e1,e2] at this
 ·rintro ⟨r,hr⟩
  refine ⟨fun v=>r (eY names v),fun i hi=> ?_⟩
  rw [h.len] at hi
  obtain ⟨j,hj,_,h3⟩:=h.iQ hi
  obtain ⟨e1,e2⟩:=oV h3
  have:=hr j hj
  rw [e1,e2];simp only;rw [h.inv (cM h.may hj),h.inv (fO h.may hj)]
  exact this
omit h in
theorem gZ {g:Gr} {y:Int} :y∈c9 (·.2) g↔(0≤y∧y<g.n)∧∀i,i<g.es.length→hd g i≠y:=by
 simp only [c9,iB,List.mem_map,List.mem_filter,List.mem_range,decide_eq_true_eq]
 have he:∀x:Nat,x<g.n.toNat→(((dH (·.2) g).getD x []).length=0↔∀i,i<g.es.length→hd g i≠(x:Int)):=by
  intro x hx
  have e:(dH (·.2) g).getD x []=aU (·.2) g.es g.es.length (x:Int):=by
   simp [dH,List.getD_eq_getElem?_getD,List.getElem?_range hx,nv]
  rw [e,List.length_eq_zero_iff]
  simp only [aU,List.map_eq_nil_iff,List.filter_eq_nil_iff,List.mem_range,decide_eq_true_eq]
  rfl
 constructor
 ·rintro ⟨x,⟨hx,h0⟩,rfl⟩
  refine ⟨by simp;omega,(he x hx).1 h0⟩
 ·rintro ⟨⟨h1,h2⟩,h3⟩
  have e:((y.toNat:Nat):Int)=y:=by omega
  exact ⟨y.toNat,⟨by omega,(he _ (by omega)).2 (by rw [e];exact h3)⟩,e⟩
omit h in
theorem rM {f:Edge→Int} {g:Gr} :(c9 f g).Nodup:=by
 unfold c9 iB
 refine List.Pairwise.map _ (fun a b h e=>h (Int.ofNat.inj e)) (List.Pairwise.filter _ List.nodup_range)
theorem iN.bare:(c9 (·.2) (fW g names order)).length=(c9 (·.2) g).length:=by
 have e1:(fW g names order).n=g.n:=rfl
 have h1:((c9 (·.2) g).map (nm names)).length≤(c9 (·.2) (fW g names order)).length:=by
  refine Nat.le_trans (count_le _ (c9 (·.2) (fW g names order)) ?_ ?_) List.countP_le_length
  ·rw [List.nodup_iff_pairwise_ne]
   refine List.Pairwise.map _ (fun a b h=>h) ?_
   refine List.Pairwise.imp_of_mem ?_ rM
   intro a b ha hb hab e
   exact hab (h.inj (gZ.1 ha).1 (gZ.1 hb).1 e)
  ·intro v hv
   obtain ⟨y,hy,rfl⟩:=List.mem_map.1 hv
   obtain ⟨hy1,hy2⟩:=gZ.1 hy
   refine gZ.2 ⟨h.range hy1,fun i hi e=> ?_⟩
   rw [h.len] at hi
   obtain ⟨j,hj,_,h3⟩:=h.iQ hi
   rw [(oV h3).2] at e
   exact hy2 j hj (h.inj (fO h.may hj) hy1 e)
 have h2:((c9 (·.2) (fW g names order)).map (eY names)).length≤(c9 (·.2) g).length:=by
  have hsplit:∀v∈c9 (·.2) (fW g names order),∃a,(0≤a∧a<g.n)∧nm names a=v:=fun v hv=>h.of (gZ.1 hv).1
  refine Nat.le_trans (count_le _ (c9 (·.2) g) ?_ ?_) List.countP_le_length
  ·rw [List.nodup_iff_pairwise_ne]
   refine List.Pairwise.map _ (fun a b h=>h) ?_
   refine List.Pairwise.imp_of_mem ?_ rM
   intro a b ha hb hab e
   obtain ⟨a',Lr,rfl⟩:=hsplit a ha
   obtain ⟨b',hb',rfl⟩:=hsplit b hb
   rw [h.inv Lr,h.inv hb'] at e
   exact hab (by rw [e])
  ·intro v hv
   obtain ⟨y,hy,rfl⟩:=List.mem_map.1 hv
   obtain ⟨a,ha,rfl⟩:=hsplit y hy
   rw [h.inv ha]
   refine gZ.2 ⟨ha,fun j hj e=> ?_⟩
   obtain ⟨i,hi,_,h3⟩:=h.back hj
   refine (gZ.1 hy).2 i (by rw [h.len];exact hi) ?_
   rw [(oV h3).2,e]
 simp only [List.length_map] at h1 h2
 omega
theorem iN.kind:(dR (fW g names order)).1=(dR g).1:=by
 have hm:=h.may'
 have hc:(0<(jg (fW g names order)).length)↔0<(jg g).length:=by
  have key:∀g:Gr,aV g=true→((0<(jg g).length)↔Bk g=false):=by
   intro g hm
   cases ho:Bk g with
   |true=>rw [EI hm ho];simp
   |false=>simp [(De hm ho).1]
  rw [key _ hm,key _ h.may,h.Lx]
 have h1:=h.loop
 have h2:=h.IS
 have h3:=h.bare
 simp only [dR,gh,hm,h.may]
 simp only [Bool.true_eq_false,if_false,h1,h2,hc,h3]
 split
 ·rfl
 split
 ·rfl
 split
 ·rfl
 split<;>rfl
end
end Go.Ab
end
section
namespace Go.Ab
open Go.Proofs
set_option maxRecDepth 10000
def Mn:Nat→List Edge→Int→Option (Int × Int)
 |_, [],_=>none
 |m,e::N,v=>if e.1=v then some ((m:Int),e.2) else Mn (m+1) N v
def Pz (m:Nat) (N:List Edge) (t:It):It:=if 0≤t.1 then t else match Mn m N t.2.1 with
 |some (i,h)=>(i,t.2.1,h)
 |none=>t
structure Mo (g:Gr) (p:Pl):Prop where
 run:jv g p
 n:(Db g p).n≤64
 es:(Db g p).es.length≤128
variable {g:Gr} {p:Pl}
end Go.Ab
end
section
namespace Go.Ab
open Go.Proofs
set_option maxRecDepth 10000
variable {g:Gr} {p:Pl}
end Go.Ab
end
section
namespace Go.Ab
open Go.Proofs
set_option maxRecDepth 10000
variable {g:Gr} {p:Pl}
end Go.Ab
end
section
namespace Go.Ab
open Go.Proofs
set_option maxRecDepth 10000
def jE (l:List It):List It:=l.filter fun t=>decide (0≤t.1)
theorem lQ {a b:List It} :jE (a++b)=jE a++jE b:=by simp [jE]
theorem j3 {l:List It} {t:It} :t∈jE l↔t∈l∧0≤t.1:=by simp [jE]
theorem p6 {x:Int} {l:List It} (h:fI x l):fI x (jE l):=fun t ht=>h t (j3.1 ht).1
def uM (x:Int) (l:List It):Prop:=∀t∈l,t.2.2=x
theorem AU {g:Gr} {x:Int} {o:List Int} (ho:∀i∈o,0≤i):jE (bH g x o)=o.map (zm g x):=by
 unfold bH
 split
 ·rename_i h;subst h;rfl
 ·refine List.filter_eq_self.2 fun t ht=> ?_
  obtain ⟨i,hi,rfl⟩:=List.mem_map.1 ht
  exact decide_eq_true (ho i hi)
theorem tq {x:Int} :∀ {X Y c d:List It},uM x X→uM x Y→fI x c→fI x d→X++c=Y++d→X=Y∧c=d
 | [], [],c,d,_,_,_,_,e=>⟨rfl,e⟩
 | [],u::Y,c,d,_,hY,hc,_,e=>by
   simp only [List.nil_append] at e
   exact absurd (hY u (by simp)) (hc u (by rw [e];simp))
 |t::X, [],c,d,hX,_,_,hd,e=>by
  simp only [List.nil_append] at e
  exact absurd (hX t (by simp)) (hd t (by rw [← e];simp))
 |t::X,u::Y,c,d,hX,hY,hc,hd,e=>by
  simp only [List.cons_append,List.cons.injEq] at e
  obtain ⟨e1,e2⟩:=tq (fun s hs=>hX s (by simp [hs])) (fun s hs=>hY s (by simp [hs])) hc hd e.2
  exact ⟨by rw [e.1,e1],e2⟩
theorem wS {x:Int} :∀ {a b X Y c d:List It},fI x a→fI x b→uM x X→uM x Y→fI x c→fI x d→X≠ []→Y≠ []→a++X++c=b++Y++d→a=b∧X=Y∧c=d
 |t::a, [],X,u::Y,c,d,ha,_,_,hY,_,_,_,_,e=>by
  simp only [List.cons_append,List.nil_append,List.cons.injEq] at e
  exact absurd (by rw [e.1];exact hY u (by simp)) (ha t (by simp))
 | [],t::b,u::X,Y,c,d,_,hb,hX,_,_,_,_,_,e=>by
   simp only [List.cons_append,List.nil_append,List.cons.injEq] at e
   exact absurd (by rw [← e.1];exact hX u (by simp)) (hb t (by simp))
 |t::a,u::b,X,Y,c,d,ha,hb,hX,hY,hc,hd,nX,nY,e=>by
  simp only [List.cons_append,List.cons.injEq] at e
  obtain ⟨e1,e2,e3⟩:=wS (fun s hs=>ha s (by simp [hs])) (fun s hs=>hb s (by simp [hs])) hX hY hc hd nX nY e.2
  exact ⟨by rw [e.1,e1],e2,e3⟩
 | [], [],X,Y,c,d,_,_,hX,hY,hc,hd,_,_,e=>by
   refine ⟨rfl, ?_⟩
   simp only [List.nil_append] at e
   exact tq hX hY hc hd e
 | [],_::_, [],_,_,_,_,_,_,_,_,_,h,_,_=>absurd rfl h
 |_::_, [],_, [],_,_,_,_,_,_,_,_,_,h,_=>absurd rfl h
theorem Df {g:Gr} (hm:aV g=true) {f:Fr} (hi:iM g f) {x:Int} (hR:aJ g f x=true) (hn:bM g x≠0):
 ∃a X c,jE f.row=a++X++c∧fI x a∧fI x c∧uM x X∧X.length=bM g x∧∀o,jE (aL g f x o).2.row=a++jE (bH g x o)++c:=by
 obtain ⟨A,X,C,hr,hA,hC,hX,cX⟩:=cQ hm hi hR hn
 have hx:=(aP hR).1
 have hmem:∀t∈X,t∈f.row:=fun t ht=>by rw [hr];simp [ht]
 have hiff:∀t∈X,(0≤t.1↔t.2.2=x):=fun t ht=>by
  have h1:=(hi.it t (hmem t ht)).head hm
  have h2:=hX.al t ht
  omega
 refine ⟨jE A,jE X,jE C,by rw [hr,lQ,lQ],p6 hA,p6 hC,fun t ht=> ?_, ?_,fun o=> ?_⟩
 ·obtain ⟨h1,h2⟩:=j3.1 ht
  exact (hiff t h1).1 h2
 ·rw [← cX,jE, ← List.countP_eq_length_filter]
  refine List.countP_congr fun t ht=> ?_
  simp only [kr,decide_eq_true_eq]
  exact hiff t ht
 ·rw [jZ o hr hA hC hX]
  simp only [lQ]
theorem EJ {g:Gr} (hm:aV g=true) {f:Fr} (hi:iM g f) {x:Int} (hR:aJ g f x=true) (hn:bM g x≠0) {a X c:List It} (e:jE f.row=a++X++c) (ha:fI x a) (hc:fI x c) (hX:uM x X) (nX:X≠ []) (o:List Int):
 jE (aL g f x o).2.row=a++jE (bH g x o)++c:=by
 obtain ⟨b,Y,d,e',hb,hd,hY,lY,hs⟩:=Df hm hi hR hn
 have nY:Y≠ []:=fun h=>hn (by rw [← lY,h];rfl)
 obtain ⟨e1,_,e3⟩:=wS hb ha hY hX hd hc nY nX (e'.symm.trans e)
 rw [hs o,e1,e3]
theorem Dg {g:Gr} (hm:aV g=true) {f:Fr} (hi:iM g f) {x:Int} (h0:0≤x) (h1:x<g.n) (hp:x∉f.pl) {a X c:List It} (e:jE f.row=a++X++c) (ha:fI x a) (hc:fI x c) (hX:uM x X) (nX:X≠ []) (hl:X.length=bM g x):aJ g f x=true:=by
 have hmem:∀j,j<f.row.length→AF g (f.row.getD j (0,0,0)):=fun j hj=>hi.it _ (bf hj)
 have Ae:f.row.countP (kr x)=X.length:=by
  have h2:f.row.countP (kr x)=(jE f.row).countP (kr x):=by
   rw [jE,List.countP_filter]
   refine List.countP_congr fun t ht=> ?_
   have:=(hi.it t ht).head hm
   simp only [kr,Bool.and_eq_true,decide_eq_true_eq]
   omega
  have c1:a.countP (kr x)=0:=List.countP_eq_zero.2 fun t ht=>by simp [kr,ha t ht]
  have c2:c.countP (kr x)=0:=List.countP_eq_zero.2 fun t ht=>by simp [kr,hc t ht]
  have c3:X.countP (kr x)=X.length:=List.countP_eq_length.2 fun t ht=>by simp [kr,hX t ht]
  rw [h2,e,List.countP_append,List.countP_append,c1,c2,c3]
  omega
 rw [← q8 hm hi,kU,if_neg (by rintro (h|h|h);omega;omega;exact hp h),lM h0 h1,Bool.and_eq_true,decide_eq_true_eq]
 have hN:(aU (fun e=>e.2) g.es g.es.length x).length=bM g x:=rfl
 rw [hN]
 refine ⟨?_, ?_⟩
 ·unfold cr
  rw [jq,jY (Nat.le_refl _),List.take_length,Ae,hl]
 ·rw [Bool.or_eq_true];right
  rcases fR (row:=f.row) (x:=x) f.row.length with ⟨hs,hno⟩|⟨p,q,n,hs,hab,Bg,hc0,xg,hpx,Lz,hlo,hhi⟩
  ·have hs':cr f.row x=(-1,0,0):=hs
   rw [hs'];simp [s7]
  ·have hs':cr f.row x=((p:Int),(q:Int),(n:Int)):=hs
   rw [hs']
   simp only [Int.toNat_natCast,s7,Bool.not_eq_true']
   rw [← Bool.not_eq_true,s9 Bg]
   rintro ⟨j,h2,h3,h4⟩
   simp only [ox,Bool.and_eq_true,decide_eq_true_eq] at h4
   have hja:p<j:=by
    refine Nat.lt_of_le_of_ne h2 fun e=> ?_
    subst e;exact h4.1 hpx
   have hjb:j<q - 1:=by
    refine Nat.lt_of_le_of_ne (by omega) fun e=> ?_
    subst e;exact h4.1 Lz
   have hsub:=((rz (i:=j+1) (j:=q - 1) (rz (i:=p+1) (j:=j) (rz (i:=0) (j:=p) (List.nil_sublist _) (by omega) (by omega)) (by omega) (by omega)) (by omega) (by omega)).trans (List.take_sublist _ f.row)).filter fun t=>decide (0≤t.1)
   have hp1:=(hmem p (by omega)).head hm
   have hj1:=(hmem j (by omega)).head hm
   have hq1:=(hmem (q - 1) (by omega)).head hm
   generalize f.row.getD p (0,0,0)=s1 at hsub hp1 hpx
   generalize f.row.getD j (0,0,0)=s2 at hsub hj1 h4
   generalize f.row.getD (q - 1) (0,0,0)=s3 at hsub hq1 Lz
   have hf:([]++ [s1]++ [s2]++ [s3]).filter (fun t=>decide (0≤t.1))= [s1,s2,s3]:=List.filter_eq_self.2 fun t ht=>by
    simp only [List.nil_append,List.cons_append,List.mem_cons,List.not_mem_nil,or_false] at ht
    rcases ht with rfl|rfl|rfl
    ·exact decide_eq_true (hp1.1.2 (by omega))
    ·exact decide_eq_true (hj1.1.2 h4.2)
    ·exact decide_eq_true (hq1.1.2 (by omega))
   rw [hf] at hsub
   have hsub: [s1,s2,s3].Sublist (a++(X++c)):=by rw [← List.append_assoc, ← e];exact hsub
   rw [List.sublist_append_iff] at hsub
   obtain ⟨l1,l',el,k1,k'⟩:=hsub
   rw [List.sublist_append_iff] at k'
   obtain ⟨l2,l3,rfl,k2,k3⟩:=k'
   match l1,el,k1 with
   |t::l1,el,k1=>
    simp only [List.cons_append,List.cons.injEq] at el
    exact ha t (k1.subset (by simp)) (by rw [← el.1];exact hpx)
   | [],el,_=>
     match l2,el,k2 with
     | [],el,_=>
       simp only [List.nil_append] at el
       exact hc s1 (k3.subset (by rw [← el];simp)) hpx
     | [t],el,_=>
       simp only [List.nil_append,List.cons_append,List.cons.injEq] at el
       exact hc s3 (k3.subset (by rw [← el.2];simp)) Lz
     |t::u::l2,el,k2=>
      simp only [List.nil_append,List.cons_append,List.cons.injEq] at el
      exact h4.1 (by rw [el.2.1];exact hX u (k2.subset (by simp)))
end Go.Ab
end
section
namespace Go.Ab
open Go.Proofs
set_option maxRecDepth 10000
def IT (gone:List Int) (i:Nat):Bool:= !decide ((i:Int)∈gone)
def GG (gone:List Int) (k:Nat):List Nat:=(List.range k).filter (IT gone)
def N1 (gone:List Int) (k:Nat):Nat:=(GG gone k).length
def LB (gone:List Int) (es:List Edge) (k:Nat):List Edge:=(GG gone k).map fun i=>es.getD i (0,0)
def N2 (g:Gr) (gone:List Int):Gr:=⟨g.n,LB gone g.es g.es.length⟩
def Mp (gone:List Int) (i:Int):Int:=if i∈gone then -1 else (N1 gone i.toNat:Int)
def LC (gone:List Int) (l:List Int):List Int:=(l.filter fun i=>decide (i∉gone)).map (Mp gone)
def N3 (p:Pl) (gone:List Int):Pl:=⟨p.ord,p.outs.map (LC gone)⟩
variable {g:Gr} {p:Pl} {gone:List Int}
def N4 (gone:List Int) (t:It):It:=(Mp gone t.1,t.2.1,t.2.2)
def N5 (gone:List Int) (l:List It):List It:=(l.filter fun t=>decide (t.1∉gone)).map (N4 gone)
theorem AW (hr:jv g p):bM g (dM p 0)=0:=by
 have hm:=dc hr.1
 have hn:=bL hm
 refine Decidable.byContradiction fun hnz=> ?_
 obtain ⟨A,X,C,hrw,_,_,hX,_⟩:=cQ hm (zv g).toiM (hr.2.2 0 (by omega)) hnz
 obtain ⟨q,X0,e1,_⟩:=hX.fst
 rw [e1] at hrw
 simp at hrw
end Go.Ab
end
section
namespace Go.Ab
open Go.Proofs
set_option maxRecDepth 10000
theorem zK {g:Gr} (hm:aV g=true) {f:Fr} (hi:iM g f) {x:Int} (hR:aJ g f x=true) (hn:bM g x≠0) (o:List Int):
 ∃a c,jE f.row=a++jE (aL g f x o).1.1++c∧fI x a∧fI x c∧uM x (jE (aL g f x o).1.1)∧(jE (aL g f x o).1.1).length=bM g x∧jE (aL g f x o).2.row=a++jE (bH g x o)++c:=by
 obtain ⟨A,X,C,hr,hA,hC,hX,hc⟩:=cQ hm hi hR hn
 have hx:=(aP hR).1
 have hmem:∀t∈X,t∈f.row:=fun t ht=>by rw [hr];simp [ht]
 have hiff:∀t∈X,(0≤t.1↔t.2.2=x):=fun t ht=>by
  have h1:=(hi.it t (hmem t ht)).head hm
  have h2:=hX.al t ht
  constructor
  ·intro h;rcases h2 with h2|h2
   ·exact h2
   ·exact absurd h2 (h1.1.1 h)
  ·intro h;exact h1.1.2 (by omega)
 rw [jZ o hr hA hC hX]
 refine ⟨jE A,jE C,by rw [hr,lQ,lQ],p6 hA,p6 hC,fun t ht=> ?_, ?_,by simp only [lQ]⟩
 ·obtain ⟨h1,h2⟩:=j3.1 ht
  exact (hiff t h1).1 h2
 ·rw [← hc,jE, ← List.countP_eq_length_filter]
  refine List.countP_congr fun t ht=> ?_
  simp only [kr,decide_eq_true_eq]
  exact hiff t ht
def lW (g:Gr) (p:Pl) (x:Int):List Int:=(jE ((wu g p g.n.toNat).getD x.toNat [])).map (·.1)
def nN (g:Gr) (p:Pl) (f:Fr) (x:Int):List Int:=(jE (aL g f x (oO p x)).1.1).map (·.1)
def rN (g:Gr) (p:Pl):Nat→Fr→Prop
 |0,f=>(f.pl.length:Int)=g.n
 |m+1,f=>∃x,aJ g f x=true∧nN g p f x=lW g p x∧rN g p m (th g p f x)
theorem rO {g:Gr} {p:Pl} :∀ {m:Nat} {f f':Fr},f.row=f'.row→f.pl.Perm f'.pl→rN g p m f→rN g p m f'
 |0,f,f',_,hp,h=>by
  have h:(f.pl.length:Int)=g.n:=h
  show (f'.pl.length:Int)=g.n
  rw [← hp.length_eq];exact h
 |m+1,f,f',hr,hp,⟨x,h1,h3,h2⟩=>by
  refine ⟨x,by rw [← wq hr hp];exact h1, ?_,rO ?_ ?_ h2⟩
  ·simp only [nN,aL,hr] at h3 ⊢;exact h3
  ·simp only [th,aL,hr]
  ·exact hp.append_right _
theorem tr {g:Gr} (hc:(dR g).1=0) {p:Pl} (hp:fJ g p):∀ {m:Nat} {f:Fr},x7 g f→(f.pl.length:Int)+(m+1:Nat)=g.n→rN g p (m+1) f→∀ {x:Int},aJ g f x=true→nN g p f x=lW g p x∧rN g p m (th g p f x)
 |m,f,hi,hl,⟨y,tc,Ju,hcan⟩,x,hR=>by
  have hm:=dc hc
  by_cases hxy:x=y
  ·subst hxy;exact ⟨Ju,hcan⟩
  have py:=jw hp (aP tc).1 (aP tc).2.1
  have px:=jw hp (aP hR).1 (aP hR).2.1
  have i2:=jt hm hi tc py
  match m,hl,hcan with
  |0,hl,hcan=>
   exfalso
   have h1:=oN i2.toiM (by show ((f.pl++ [y]).length:Int)=g.n;simp;omega) (x:=x) ⟨(aP hR).1,(aP hR).2.1⟩
   have h2:x∈f.pl++ [y]:=h1
   simp [(aP hR).2.2,hxy] at h2
  |m+1,hl,hcan=>
   obtain ⟨h4,h5,h6,h7,h8⟩:=AM hc hi hxy hR tc px py
   obtain ⟨h9,h3⟩:=tr hc hp i2 (by show (((f.pl++ [y]).length:Nat):Int)+_=_;simp;omega) hcan h5
   refine ⟨?_,y,h4, ?_,rO h6.symm ?_ h3⟩
   ·unfold nN at h9 ⊢;rw [h7];exact h9
   ·unfold nN at Ju ⊢;rw [h8] at Ju;exact Ju
   show (f.pl++ [y]++ [x]).Perm (f.pl++ [x]++ [y])
   rw [List.append_assoc,List.append_assoc]
   exact List.Perm.append_left _ (List.Perm.swap ..)
theorem zL {g:Gr} (hc:(dR g).1=0) {p:Pl} (hp:fJ g p):∀ {m:Nat} {f:Fr},x7 g f→rN g p m f→∀ {i:Nat},i<g.es.length→tl g i∈f.pl→hd g i∉f.pl→∃t∈f.row,t.1=(i:Int)
 |0,f,hi,h,i,hil,_,hh=>by
  have hr:=fO (dc hc) hil
  exact absurd (oN hi.toiM h (x:=hd g i) hr) hh
 |m+1,f,hi,⟨x,hR,_,h⟩,i,hil,ht,hh=>by
  have hm:=dc hc
  have px:=jw hp (aP hR).1 (aP hR).2.1
  by_cases hx:hd g i=x
  ·obtain ⟨t,h1,h2,_⟩:=x8 hm hi hR hil hx
   exact ⟨t,h1,h2⟩
  ·obtain ⟨t,h1,h2⟩:=zL hc hp (jt hm hi hR px) h hil (List.mem_append.2 (.inl ht)) (fun h1=>by
    rcases List.mem_append.1 h1 with h1|h1
    ·exact hh h1
    ·exact hx (by simpa using h1))
   obtain ⟨A,X,C,hr,_,_,_,hs⟩:=ru hm hi.toiM hR
   rw [hs] at h1
   simp only [List.mem_append] at h1
   rcases h1 with (h1|h1)|h1
   ·exact ⟨t,by rw [hr];simp [h1],h2⟩
   ·rcases js (fun i hi=>px.mem_iff.1 hi) h1 with ⟨h3,_⟩|⟨k,h3,h4,h5,_,h6,_⟩
    ·omega
    ·have:k=i:=by omega
     subst this
     exact absurd (h6 ▸ ht) (aP hR).2.2
   ·exact ⟨t,by rw [hr];simp [h1],h2⟩
def uN (g:Gr) (e:Int):Int:=(g.es.getD e.toNat (0,0)).1
def wT (g:Gr) (e:Int):Int:=(g.es.getD e.toNat (0,0)).2
def AX (g:Gr) (x:Int):Prop:=0≤x∧x<g.n
instance {g:Gr} {x:Int} :Decidable (AX g x):=inferInstanceAs (Decidable (0≤x∧x<g.n))
def rR (g:Gr) (p:Pl) (k:Nat) (W D:List Int):Prop:=∃f,x7 g f∧f.pl=D∧W=(jE f.row).map (·.1)∧rN g p k f∧(D.length:Int)+k=g.n∧dM p 0∈D
def LD (g:Gr) (p:Pl) (x:Int):Nat:=((xm g.n.toNat p.ord p.ord.length).getD x.toNat 0).toNat
def wU (g:Gr) (p:Pl):PS:=
 {m:=g.es.length,src:=dM p 0,IE:=dM p (g.n.toNat - 1),tl:=uN g,hd:=wT g,ins:=fun x=>if AX g x then lW g p x else [],outs:=fun x=>if AX g x then oO p x else [],Lq:=LD g p,Row:=rR g p,k0:=g.n.toNat - 1}
theorem yg {g:Gr} {p:Pl} {x:Int} (h:AX g x):(wU g p).ins x=lW g p x:=if_pos h
theorem EK {g:Gr} {p:Pl} {x:Int} (h:¬AX g x):(wU g p).ins x= []:=if_neg h
theorem EL {g:Gr} {p:Pl} {x:Int} (h:AX g x):(wU g p).outs x=oO p x:=if_pos h
theorem ia {f:Edge→Int} {es:List Edge} {x e:Int} :e∈aU f es es.length x↔(0≤e∧e<es.length)∧f (es.getD e.toNat (0,0))=x:=by
 refine ⟨gC,fun ⟨h1,h2⟩=> ?_⟩
 simp only [aU,List.mem_map,List.mem_filter,List.mem_range,decide_eq_true_eq]
 exact ⟨e.toNat,⟨by omega,h2⟩,by simp;omega⟩
section
variable {g:Gr} {p:Pl}
theorem uO (hm:aV g=true) {f:Fr} (hi:iM g f) {t:It} (ht:t∈jE f.row):(0≤t.1∧t.1<g.es.length)∧t.2.1=uN g t.1∧t.2.2=wT g t.1:=by
 obtain ⟨h1,h2⟩:=j3.1 ht
 rcases hi.it t h1 with h3|h3
 ·omega
 ·exact ⟨⟨h3.1,h3.2.1⟩,h3.2.2.1,h3.2.2.2⟩
theorem Fg {f:Fr} (hi:x7 g f):((jE f.row).map (·.1)).Nodup:=by
 refine List.pairwise_map.2 ?_
 have:=hi.once.filter (fun t:It=>decide (0≤t.1))
 refine List.Pairwise.imp_of_mem (fun {s t} hs ht h1=>h1 (j3.1 hs).2) this
theorem EM (hm:aV g=true) {f:Fr} (hi:x7 g f) {x:Int} (hR:aJ g f x=true):(nN g p f x).Nodup∧∀e,e∈nN g p f x↔(0≤e∧e<g.es.length)∧wT g e=x:=by
 by_cases hn:bM g x=0
 ·have hno:=rq hm hi.toiM (aP hR).1 hn
  have e0:nN g p f x= []:=by unfold nN;rw [ta _ hno];rfl
  rw [e0]
  refine ⟨List.nodup_nil,fun e=>⟨fun h=>by (cases h),fun ⟨h1,h2⟩=> ?_⟩⟩
  have:=ia.2 ⟨h1,h2⟩
  have h3:aU (·.2) g.es g.es.length x= []:=List.eq_nil_of_length_eq_zero hn
  rw [h3] at this;cases this
 ·obtain ⟨a,c,e1,ha,hc,hX,hl,_⟩:=zK hm hi.toiM hR hn (oO p x)
  have eW:=Fg hi
  have hmem:∀t∈jE (aL g f x (oO p x)).1.1,t∈jE f.row:=fun t ht=>by rw [e1];simp [ht]
  rw [e1,List.map_append,List.map_append,List.nodup_append] at eW
  have Mq:(nN g p f x).Nodup:=(List.nodup_append.1 eW.1).2.1
  have hsub:∀e∈nN g p f x,e∈aU (·.2) g.es g.es.length x:=fun e he=>by
   obtain ⟨t,ht,rfl⟩:=List.mem_map.1 he
   obtain ⟨h1,_,h3⟩:=uO hm hi.toiM (hmem t ht)
   exact ia.2 ⟨h1,by rw [← hX t ht,h3];rfl⟩
  have hlen:(aU (·.2) g.es g.es.length x).length=(nN g p f x).length:=by
   unfold nN;rw [List.length_map,hl];rfl
  exact ⟨Mq,fun e=>⟨fun he=>ia.1 (hsub e he),fun he=>x6 Mq hsub hlen e (ia.2 he)⟩⟩
theorem EN (h:jv g p) {k:Nat} (hk:k<g.n.toNat):lW g p (dM p k)=nN g p (fK g p k) (dM p k):=by
 unfold lW
 rw [zA h.2.1 (Nat.le_refl _) hk];rfl
theorem wV (h:jv g p) {x:Int} (hx:AX g x):(lW g p x).Nodup∧∀e,e∈lW g p x↔(0≤e∧e<g.es.length)∧wT g e=x:=by
 obtain ⟨k,hk,rfl⟩:=Ex h.2.1 hx.1 hx.2
 have hm:=dc h.1
 obtain ⟨hi,_,_⟩:=zy hm h.2.1 (k:=k) (by omega) fun j hj=>h.2.2 j (by omega)
 rw [EN h hk]
 exact EM hm hi (h.2.2 k hk)
theorem wW (h:jv g p) {x:Int} (hx:AX g x):(lW g p x).length=bM g x:=by
 obtain ⟨h1,h2⟩:=wV h hx
 refine Nat.le_antisymm ?_ ?_
 ·exact lN h1 fun e he=>ia.2 ((h2 e).1 he)
 ·exact lN iL fun e he=>(h2 e).2 (ia.1 he)
theorem rR.nd {k:Nat} {W D:List Int} (h:rR g p k W D):W.Nodup:=by
 obtain ⟨f,hi,_,rfl,_⟩:=h;exact Fg hi
theorem rR.mem (h:jv g p) {k:Nat} {W D:List Int} (hr:rR g p k W D) (e:Int):e∈W↔(0≤e∧e<g.es.length)∧uN g e∈D∧wT g e∉D:=by
 have hm:=dc h.1
 obtain ⟨f,hi,rfl,rfl,hc,_⟩:=hr
 constructor
 ·intro he
  obtain ⟨t,ht,rfl⟩:=List.mem_map.1 he
  obtain ⟨h1,h2,h3⟩:=uO hm hi.toiM ht
  obtain ⟨h4,h5⟩:=j3.1 ht
  exact ⟨h1,h2 ▸ hi.tail t h4 h5,h3 ▸ hi.head t h4 h5⟩
 ·rintro ⟨h1,h2,h3⟩
  obtain ⟨t,h4,h5⟩:=zL h.1 h.2.1 hi hc (i:=e.toNat) (by omega) h2 h3
  exact List.mem_map.2 ⟨t,j3.2 ⟨h4,by omega⟩,by omega⟩
theorem rR.next (h:jv g p) {k:Nat} {W D:List Int} (hr:rR g p (k+1) W D):∃x A C,W=A++(wU g p).ins x++C∧(wU g p).ins x≠ []:=by
 have hm:=dc h.1
 obtain ⟨f,hi,rfl,rfl,⟨x,hR,hg,_⟩,_,hs⟩:=hr
 obtain ⟨x0,x1,x2⟩:=aP hR
 have hx:AX g x:=⟨x0,x1⟩
 have hn:bM g x≠0:=fun h0=>by
  have:=uG h.1 (x:=x) (y:=dM p 0) hx (hi.F9 _ hs) h0 (AW h)
  exact x2 (this ▸ hs)
 obtain ⟨a,c,e1,_,_,_,hl,_⟩:=zK hm hi.toiM hR hn (oO p x)
 refine ⟨x,a.map (·.1),c.map (·.1), ?_, ?_⟩
 ·rw [yg hx, ← hg,e1,List.map_append,List.map_append];rfl
 ·rw [yg hx]
  intro h0
  have:=wW h hx
  rw [h0] at this
  exact hn this.symm
theorem rR.step (h:jv g p) {k:Nat} {W D A C:List Int} {x:Int} (hr:rR g p k W D) (hW:W=A++(wU g p).ins x++C) (hI:(wU g p).ins x≠ []):∃k',k=k'+1∧rR g p k' (A++(wU g p).outs x++C) (D++ [x]):=by
 have hm:=dc h.1
 have hx:AX g x:=Decidable.byContradiction fun h0=>hI (EK h0)
 have eW:=hr.nd
 have hmem:=rR.mem h hr
 rw [yg hx] at hW hI
 rw [EL hx]
 obtain ⟨i1,i2⟩:=wV h hx
 obtain ⟨e0,u0,Ct⟩:=uK hI
 have Mr:x∉D:=by
  have h1:=(i2 e0).1 (by rw [Ct];simp)
  have h2:=(hmem e0).1 (by rw [hW,Ct];simp)
  rw [h1.2] at h2;exact h2.2.2
 obtain ⟨f,hi,rfl,N6,hc,hD,hs⟩:=hr
 rw [N6] at hW eW
 obtain ⟨l1,c,e1,e2,e3⟩:=List.map_eq_append_iff.1 hW
 obtain ⟨a,X,e4,e5,e6⟩:=List.map_eq_append_iff.1 e2
 have hrow:jE f.row=a++X++c:=by rw [e1,e4]
 rw [hrow,List.map_append,List.map_append,e5,e6,e3] at eW
 have hit:∀t∈a++X++c,(0≤t.1∧t.1<g.es.length)∧t.2.1=uN g t.1∧t.2.2=wT g t.1:=fun t ht=>uO hm hi.toiM (by rw [hrow];exact ht)
 have hX:uM x X:=fun t ht=>by
  have h1:t.1∈lW g p x:=by rw [← e6];exact List.mem_map_of_mem ht
  rw [(hit t (by simp [ht])).2.2,((i2 _).1 h1).2]
 have hin:∀t∈a++X++c,t.2.2=x→t.1∈lW g p x:=fun t ht e=>by
  obtain ⟨h1,_,h3⟩:=hit t ht
  exact (i2 _).2 ⟨h1,by rw [← h3,e]⟩
 have ha:fI x a:=fun t ht e=>by
  have h1:=hin t (by simp [ht]) e
  have h2:t.1∈A:=by rw [← e5];exact List.mem_map_of_mem ht
  exact (List.nodup_append.1 (List.nodup_append.1 eW).1).2.2 _ h2 _ h1 rfl
 have Ms:fI x c:=fun t ht e=>by
  have h1:=hin t (by simp [ht]) e
  have h2:t.1∈C:=by rw [← e3];exact List.mem_map_of_mem ht
  exact (List.nodup_append.1 eW).2.2 _ (List.mem_append.2 (.inr h1)) _ h2 rfl
 have IA:X.length=bM g x:=by rw [← wW h hx, ← e6,List.length_map]
 have nX:X≠ []:=fun h0=>hI (by rw [← e6,h0];rfl)
 have hR:=Dg hm hi.toiM hx.1 hx.2 Mr hrow ha Ms hX nX IA
 have hn:bM g x≠0:=fun h0=>nX (List.eq_nil_of_length_eq_zero (IA.trans h0))
 have px:=jw h.2.1 hx.1 hx.2
 cases k with
 |zero=>exact absurd (oN hi.toiM (by omega) hx) Mr
 |succ k=>
  refine ⟨k,rfl,th g p f x,jt hm hi hR px,rfl, ?_,(tr h.1 h.2.1 hi (by omega) hc hR).2, ?_,List.mem_append.2 (.inl hs)⟩
  ·have:=EJ hm hi.toiM hR hn hrow ha Ms hX nX (oO p x)
   show _=(jE (aL g f x (oO p x)).2.row).map (·.1)
   rw [this,List.map_append,List.map_append,e5,e3,AU (fun i hi=>by
    have:=ia.1 (px.mem_iff.1 hi);exact this.1.1),List.map_map]
   have e7:((fun t:It=>t.1) ∘ zm g x)=id:=rfl
   rw [e7,List.map_id]
  ·show (((f.pl++ [x]).length:Nat):Int)+_=_
   rw [List.length_append,List.length_singleton];omega
end
end Go.Ab
end
section
namespace Go.Ab
open Go.Proofs
set_option maxRecDepth 10000
set_option linter.unusedSectionVars false
def fq (d:Dr) (x:Int):Pt:=d.pts.getD x.toNat (0,0)
def r8 (d:Dr) (e:Int):List Pt:=d.ls.getD e.toNat []
structure sD (g:Gr) (d:Dr):Prop where
 qj:(dR g).1=0
 np:(d.pts.length:Int)=g.n
 nl:d.ls.length=g.es.length
 LF:∀q∈d.pts,bw q
 len:∀l∈d.ls,2≤l.length∧l.length≤8
 kJ:∀l∈d.ls,∀q∈l,bw q
 fst:∀i,i<g.es.length→(d.ls.getD i []).getD 0 (0,0)=fq d (tl g i)
 Fb:∀i,i<g.es.length→(d.ls.getD i []).getD ((d.ls.getD i []).length - 1) (0,0)=fq d (hd g i)
 IU:∀i,i<g.es.length→∀k,k+1<(d.ls.getD i []).length→((d.ls.getD i []).getD k (0,0)).2<((d.ls.getD i []).getD (k+1) (0,0)).2
 alone:∀x z:Nat,x<z→z<d.pts.length→d.pts.getD x (0,0)≠d.pts.getD z (0,0)
 free:∀i x:Nat,i<g.es.length→x<d.pts.length→(x:Int)≠tl g i→(x:Int)≠hd g i→GS (d.ls.getD i []) (d.pts.getD x (0,0))=false
 apart:∀i k:Nat,i<g.es.length→k<i→∀a∈ee (d.ls.getD i []),∀b∈ee (d.ls.getD k []),fm (fD g d i k) a b=false
theorem jA {n:Nat} {f:Nat→Bool} (h:¬0≤bt n f) {i:Nat} (hi:i<n):f i=true:=by
 refine Decidable.byContradiction fun hf=>h ?_
 have h1:=c7 (fun i=> !f i) (List.range n)
 have h2:(List.range n).any (fun i=> !f i)=true:=List.any_eq_true.2 ⟨i,List.mem_range.2 hi,by simp [hf]⟩
 rw [h2] at h1
 exact of_decide_eq_true h1
theorem tu {p:Pt} (h:kN p=false):bw p:=by
 rw [uh] at h
 simpa using h
theorem uP {l:List Pt} {k:Nat} (h:k+1<l.length):(l.getD k (0,0),l.getD (k+1) (0,0))∈ee l:=by
 unfold ee DI
 exact List.mem_map.2 ⟨k,List.mem_range.2 (by omega),rfl⟩
theorem IV {g:Gr} {d:Dr} (h:(fF g d).1=0):fF g d=(0,0)∧sD g d:=by
 unfold fF at h ⊢
 split at h
 ·cases h
 rename_i h1
 split at h
 ·cases h
 rename_i h2
 split at h
 ·cases h
 rename_i h3
 split at h
 ·cases h
 rename_i h4
 split at h
 ·cases h
 rename_i h5
 split at h
 ·cases h
 rename_i h6
 split at h
 ·cases h
 rename_i h7
 rw [if_neg h1,if_neg h2,if_neg h3,if_neg h4,if_neg h5,if_neg h6,if_neg h7]
 refine ⟨rfl, ?_⟩
 simp only [Bool.not_eq_false] at h1 h2
 simp only [fV,Bool.and_eq_true,decide_eq_true_eq] at h1
 simp only [dU,Bool.and_eq_true,Bool.not_eq_true',List.any_eq_false] at h2
 obtain ⟨⟨c1,c2⟩,c3⟩:=h1
 have hb:∀l∈d.ls,2≤l.length∧l.length≤8∧∀q∈l,kN q=false:=fun l hl=>by
  have:=h2.2 l hl
  simp only [gV,Bool.or_eq_true,decide_eq_true_eq,not_or,List.any_eq_true,not_exists,not_and,Bool.not_eq_true] at this
  exact ⟨by omega,by omega,this.2⟩
 have he:∀i,i<g.es.length→(d.ls.getD i []).getD 0 (0,0)=fq d (tl g i)∧(d.ls.getD i []).getD ((d.ls.getD i []).length - 1) (0,0)=fq d (hd g i):=fun i hi=>by
  have:=jA h3 hi
  simp only [nH,Bool.and_eq_true,decide_eq_true_eq] at this
  exact this
 exact {
  qj:=c1,np:=c2,nl:=c3
  LF:=fun q hq=>tu (by have:=h2.1 q hq;simpa using this)
  len:=fun l hl=>⟨(hb l hl).1,(hb l hl).2.1⟩
  kJ:=fun l hl q hq=>tu ((hb l hl).2.2 q hq)
  fst:=fun i hi=>(he i hi).1
  Fb:=fun i hi=>(he i hi).2
  IU:=fun i hi k hk=>by
   have:=jA h4 hi
   simp only [fk,Bool.not_eq_true',List.any_eq_false,decide_eq_true_eq,Int.not_le] at this
   exact this _ (uP hk)
  alone:=fun x z hx hz e=>by
   have:=jA h5 hz
   simp only [dL,Bool.not_eq_true',decide_eq_false_iff_not] at this
   refine this ?_
   rw [← e,List.getD_eq_getElem?_getD,List.getElem?_eq_getElem (by omega)]
   exact List.mem_iff_getElem.2 ⟨x,by simp;omega,by simp⟩
  free:=fun i x hi hx h8 h9=>by
   have:=jA h6 hi
   simp only [jo,kQ,List.all_eq_true,List.mem_range,Bool.or_eq_true,decide_eq_true_eq,Bool.not_eq_true'] at this
   rcases this x hx with (h|h)|h
   ·exact absurd h h8
   ·exact absurd h h9
   ·exact h
  apart:=fun i k hi hk a ha b hb'=>by
   have:=jA h7 hi
   simp only [fE,gT,List.all_eq_true,List.mem_range,Bool.not_eq_true'] at this
   exact this k hk a ha b hb'}
def fe (d:Dr) (e:Int):Pt:=(r8 d e).getD 1 (0,0)
def DK (d:Dr) (x i k:Int):Int:=tm (fq d x) (fe d k) (fq d x) (fe d i)
def j4 (d:Dr) (x i k:Int):Prop:=0<DK d x i k
theorem EO {a b c:Pt} :tm a b a c= -tm a c a b:=by unfold tm;grind
theorem rS {d:Dr} {x i k:Int} :DK d x i k= -DK d x k i:=EO
theorem yh {u1 u2 v1 v2 w1 w2:Int} (hu:0<u2) (hv:0<v2) (hw:0<w2) (h1:0<v1*u2 - v2*u1) (h2:0<w1*v2 - w2*v1):0<w1*u2 - w2*u1:=by
 have e:(v1*u2 - v2*u1)*w2+(w1*v2 - w2*v1)*u2=v2*(w1*u2 - w2*u1):=by grind
 have p1:=Int.mul_pos h1 hw
 have p2:=Int.mul_pos h2 hu
 have p3:0<v2*(w1*u2 - w2*u1):=by omega
 exact Int.pos_of_mul_pos_right p3 hv
section
variable {g:Gr} {d:Dr} (h:sD g d)
include h
theorem eC {e:Int} (h0:0≤e) (h1:e<g.es.length):r8 d e∈d.ls:=by
 unfold r8
 exact bf (by have:=h.nl;omega)
theorem rV {e x:Int} (h0:0≤e) (h1:e<g.es.length) (hx:uN g e=x):(fq d x).2<(fe d e).2:=by
 have hl:=(h.len _ (eC h h0 h1)).1
 have h2:=h.IU e.toNat (by omega) 0 (by show 0+1<(r8 d e).length;omega)
 have h3:=h.fst e.toNat (by omega)
 have h4:tl g e.toNat=x:=hx
 rw [h3,h4] at h2
 exact h2
theorem AY {x i k j:Int} (hi:0≤i∧i<g.es.length) (hk:0≤k∧k<g.es.length) (hj:0≤j∧j<g.es.length) (xi:uN g i=x) (xk:uN g k=x) (xj:uN g j=x) (h1:j4 d x i k) (h2:j4 d x k j):j4 d x i j:=by
 have u:=rV h hi.1 hi.2 xi
 have v:=rV h hk.1 hk.2 xk
 have w:=rV h hj.1 hj.2 xj
 unfold j4 DK tm at*
 exact yh (u1:=(fe d i).1 - (fq d x).1) (v1:=(fe d k).1 - (fq d x).1) (w1:=(fe d j).1 - (fq d x).1) (by omega) (by omega) (by omega) h1 h2
end
theorem nO {d:Dr} {x i k:Int} (h1:j4 d x i k) (h2:j4 d x k i):False:=by
 unfold j4 at*
 rw [rS] at h2
 omega
theorem Dh {p a b:Pt} (hp:bw p) (ha:bw a) (hb:bw b) (ua:p.2<a.2) (ub:p.2<b.2) (h0:tm p a p b=0):fh p a p b=2:=by
 rw [← zg]
 unfold fc
 have e1:p≠a:=fun e=>by rw [e] at ua;omega
 have e2:p≠b:=fun e=>by rw [e] at ub;omega
 have hA:aq p a p=0:=by unfold aq;grind
 have hB:aq p a b=0:=by unfold aq;unfold tm at h0;grind
 have c0:e9 0 0=0:=by decide
 rw [if_pos ⟨hp,ha,hp,hb⟩,if_neg e1,if_neg e2,hA,hB,c0,if_pos ⟨rfl,rfl⟩]
 have d1:aj p a p=0:=by unfold aj;grind
 have d2:0<aj p a a:=by
  unfold aj
  have h1:0<(a.2 - p.2)*(a.2 - p.2):=Int.mul_pos (by omega) (by omega)
  have h2:0≤(a.1 - p.1)*(a.1 - p.1):=by
   rcases Int.le_total 0 (a.1 - p.1) with h|h
   ·exact Int.mul_nonneg h h
   ·exact Int.mul_nonneg_of_nonpos_of_nonpos h h
  omega
 have d3:0<aj p a b:=by
  unfold aj
  unfold tm at h0
  have hab:0<(a.2 - p.2)*(b.2 - p.2):=Int.mul_pos (by omega) (by omega)
  have e:((b.1 - p.1)*(a.1 - p.1)+(b.2 - p.2)*(a.2 - p.2))*((a.2 - p.2)*(b.2 - p.2))=((a.1 - p.1)*(b.2 - p.2))*((a.1 - p.1)*(b.2 - p.2))+((a.2 - p.2)*(b.2 - p.2))*((a.2 - p.2)*(b.2 - p.2)):=by grind
  have h2:0≤((a.1 - p.1)*(b.2 - p.2))*((a.1 - p.1)*(b.2 - p.2)):=by
   rcases Int.le_total 0 ((a.1 - p.1)*(b.2 - p.2)) with h|h
   ·exact Int.mul_nonneg h h
   ·exact Int.mul_nonneg_of_nonpos_of_nonpos h h
  have h3:=Int.mul_pos hab hab
  have h4:0<((b.1 - p.1)*(a.1 - p.1)+(b.2 - p.2)*(a.2 - p.2))*((a.2 - p.2)*(b.2 - p.2)):=by omega
  exact Int.pos_of_mul_pos_left h4 hab
 rw [d1]
 rw [if_neg (by omega),if_neg (by omega)]
section
variable {g:Gr} {d:Dr} (h:sD g d)
include h
theorem AZ {x i k:Int} (hi:0≤i∧i<g.es.length) (hk:0≤k∧k<g.es.length) (xi:uN g i=x) (xk:uN g k=x) (hne:i≠k):j4 d x i k∨j4 d x k i:=by
 have key:∀ {i k:Int},(0≤i∧i<g.es.length)→(0≤k∧k<g.es.length)→uN g i=x→uN g k=x→k<i→DK d x i k≠0:=fun {i k} hi hk xi xk hlt e=>by
  have hx:bw (fq d x):=by
   have:=h.fst i.toNat (by omega)
   have e2:tl g i.toNat=x:=xi
   rw [e2] at this
   rw [← this]
   exact h.kJ _ (eC h hi.1 hi.2) _ (bf (by have:=(h.len _ (eC h hi.1 hi.2)).1;show 0<(r8 d i).length;omega))
  have li:=(h.len _ (eC h hi.1 hi.2)).1
  have lk:=(h.len _ (eC h hk.1 hk.2)).1
  have p1:=uP (l:=r8 d i) (k:=0) (by omega)
  have p2:=uP (l:=r8 d k) (k:=0) (by omega)
  have f1:(r8 d i).getD 0 (0,0)=fq d x:=by rw [← xi];exact h.fst i.toNat (by omega)
  have f2:(r8 d k).getD 0 (0,0)=fq d x:=by rw [← xk];exact h.fst k.toNat (by omega)
  have hb:=h.apart i.toNat k.toNat (by omega) (by omega) _ p1 _ p2
  rw [f1,f2] at hb
  have m2:=Dh (p:=fq d x) (a:=fe d i) (b:=fe d k) hx (h.kJ _ (eC h hi.1 hi.2) _ (bf (by omega))) (h.kJ _ (eC h hk.1 hk.2) _ (bf (by omega))) (rV h hi.1 hi.2 xi) (rV h hk.1 hk.2 xk) (by
   have:DK d x i k=0:=e
   rw [rS] at this
   unfold DK at this
   omega)
  have m3:fh (fq d x) ((r8 d i).getD (0+1) (0,0)) (fq d x) ((r8 d k).getD (0+1) (0,0))=2:=m2
  unfold fm at hb
  simp only [m3] at hb
  simp at hb
 have e0:=rS (d:=d) (x:=x) (i:=i) (k:=k)
 rcases Int.lt_trichotomy i k with hlt|he|hlt
 ·have:=key hk hi xk xi hlt
  unfold j4
  omega
 ·exact absurd he hne
 ·have:=key hi hk xi xk hlt
  unfold j4
  omega
end
end Go.Ab
end
