/- A part of the proof. -/
import Derived.RangeFuncBox
import Derived.RangeFuncLeaves
import Derived.Shelf.Abstract
import Derived.WalkKit
import Derived.OwnWalkIn
import Derived.TacticsInMore
import Derived.LoopNIn
import Derived.LoopIn
import Derived.Maps.AppendAt
import Derived.Sort.OwnSortedInts
import Derived.Test.YtchjjbfhlchpfaaGreatL10P13
set_option linter.unusedSimpArgs false
set_option linter.unusedVariables false
section
namespace Go.Ab
open Go.Proofs Go.RowKit Go.Shelf Go.Sort
attribute [local go_sem] Oper.semAt_some
def upto {α:Type} (f:Nat→α) (k:Nat):List α:=(List.range k).map f
def Ints (n₀:Nat) (W:World) (sv:Value) (zs:List Int):Prop:=
 (∃p c,sv= .slice p 0 c∧zs= [])∨∃b off cap,sv= .slice (some ⟨b,off,none⟩) zs.length cap∧b<n₀∧∀j,j<zs.length→W.cell? ⟨b,off+j,none⟩=some (.int .i64 (zs[j]?.getD 0))
theorem Ints.below {n₀:Nat} {A B:World} (h:Below n₀ A B) {sv:Value} {zs:List Int} :Ints n₀ A sv zs→Ints n₀ B sv zs
 | .inl e=> .inl e
 | .inr ⟨b,off,cap,e,hb,hc⟩=> .inr ⟨b,off,cap,e,hb,fun j hj=>(h.cell (p:=⟨b,off+j,none⟩) hb).trans (hc j hj)⟩
def OQ (l:List Int):List Int:=l.mergeSort fun x y=>decide (x≤y)
end Go.Ab
end
section
namespace Go.Ab
open Go.Proofs Go.RowKit
attribute [local congr] ACall.congr gd.congr Nx.congr
set_option maxRecDepth 10000
def Qt (E:Env) (w w':World):Env:=⟨E.ρ,E.σ,fun b=>if b<w.heap.size then E.z b else dF w' b⟩
theorem vY {w:World} {z:Nat→Nat} {v:Value} {x:Int} (h:Rd w z v (.sc (.int .i64 x))):v= .int .i64 x:=by cases h;rfl
end Go.Ab
end
section
namespace Go.Ab
open Go.Proofs
attribute [local congr] ACall.congr gd.congr Nx.congr
set_option maxRecDepth 10000
def g0:Gr:=⟨3, [(0,1),(1,2),(2,1)]⟩
end Go.Ab
end
section
namespace Go.Ab
open Go.Proofs
attribute [local congr] ACall.congr gd.congr Nx.congr
set_option maxRecDepth 10000
def Cu (g:Gr):Bool:=decide (g.n≤((aL g).length:Int))
def FJ (g:Gr):List Int:=if Cu g then aL g else []
def gm (l:List Int) (n:Int):Bool:=decide ((l.length:Int)=n)&&(List.range n.toNat).all fun x:Nat=>decide ((x:Int)∈l)
theorem gH {l:List Int} {x:Int} :decide (fc l x<0)= !decide (x∈l):=by
 rw [Bool.eq_iff_iff]
 simp only [decide_eq_true_eq,Bool.not_eq_true',decide_eq_false_iff_not]
 constructor
 ·intro h hm
  obtain ⟨k,hk,_⟩:=dN hm
  omega
 ·intro h
  rcases fe (f:=fun y:Int=>decide (x=y)) (l:=l) 0 with ⟨h1,_⟩|⟨q,_,h2,h3,_⟩
  ·unfold fc;omega
  ·exact absurd (by rw [of_decide_eq_true h3];exact gE h2) h
theorem cw (l:List Int) (n:Int) (hl:l.length≤9223372036854775807):Spec Tryz.prog 163 (Args [.d (sI l),eN n]) [] (eB (gm l n)) []:=by
 (refine Spec.hd (C:=T.cfg [] []) (rs:= [.t 4]) (T.ai _ _) Tryz.func163 rfl rfl Tryz.ntmps163 Tryz.results163 (by simp [AObj.isNest]) (by simp [AObj.isNest]) (by kernel_rfl) T.mixed fun X hX hP hC aF bY=> ?_)
 repeat' (first|refine Rn.p ?_|(with_reducible apply And.intro)|((first|(refine hK _ ?_;clear hK K)|with_reducible intro K hK|refine Rs.p ?_|((with_reducible first|apply oP|apply oQ);exact rfl)|refine aa hX hC hP (bh l (k:Int) hl) rfl rfl rfl (by simp only [go_sem,simprocAttr,gH]) rfl ?_);try simp only [go_sem,simprocAttr,gH])|((with_reducible refine oD ?_ ?_);kernel_rfl)|((with_reducible intro h);try simp only [go_sem,simprocAttr,gH] at h)|omega|intro h)
 ·have hne:¬(l.length:Int)=n:=by assumption
  simp [gm,hne]
 have Mo:(l.length:Int)=n:=by assumption
 refine ag (fun k:Nat=>(k:Int)≤n∧∀j,j<k→(j:Int)∈l) (fun k=>⟨[(0, .d (sI l)),(1,eN n),(5,eN k)], []⟩) (fun k=>n.toNat - k) 0 (by simp;omega) ?_ ?_
 ·(refine ⟨bz ?_,fun _ _ h=>h⟩;simp [go_sem,simprocAttr,gH])
 rintro k ⟨hk,hin⟩
 repeat' (first|refine Rn.p ?_|(with_reducible apply And.intro)|((first|(refine hK _ ?_;clear hK K)|with_reducible intro K hK|refine Rs.p ?_|((with_reducible first|apply oP|apply oQ);exact rfl)|refine aa hX hC hP (bh l (k:Int) hl) rfl rfl rfl (by simp only [go_sem,simprocAttr,gH]) rfl ?_);try simp only [go_sem,simprocAttr,gH])|((with_reducible refine oD ?_ ?_);kernel_rfl)|((with_reducible intro h);try simp only [go_sem,simprocAttr,gH] at h)|omega|intro h)
 ·have hlt:(k:Int)<n:=by assumption
  have hm:(List.range n.toNat).all (fun x:Nat=>decide ((x:Int)∈l))=false:=by
   rw [List.all_eq_false]
   exact ⟨k,List.mem_range.2 (by omega),by simpa using h⟩
  simp only [gm,hm,Bool.and_false]
 ·refine ⟨k+1,⟨by omega,fun j hj=> ?_⟩, ?_,by omega⟩
  ·by_cases hjk:j=k
   ·subst hjk;exact h
   ·exact hin j (by omega)
  ·(refine ⟨bz ?_,fun _ _ h=>h⟩;simp [go_sem,simprocAttr,gH])
 ·have hm:(List.range n.toNat).all (fun x:Nat=>decide ((x:Int)∈l))=true:=by
   rw [List.all_eq_true]
   intro x hx
   exact decide_eq_true (hin x (by have:=List.mem_range.1 hx;omega))
  simp only [gm,hm,Bool.and_true]
  exact (decide_eq_true Mo).symm
end Go.Ab
end
section
namespace Go.Ab
open Go.Proofs
attribute [local congr] ACall.congr gd.congr Nx.congr
set_option maxRecDepth 10000
theorem count_le:∀(xs l:List Int),xs.Nodup→(∀x∈xs,x∈l)→xs.length≤l.countP (fun y=>decide (y∈xs))
 | [],_,_,_=>Nat.zero_le _
 |a::r,l,hd,h=>by
  obtain ⟨h1,h2⟩:=List.nodup_cons.1 hd
  have ih:=count_le r l h2 fun x hx=>h x (List.mem_cons_of_mem _ hx)
  have hp:=j8 (p:=fun y=>decide (y∈a::r)) (q:=fun y=>decide (y∈r)) (r:=fun y=>decide (y=a)) (l:=l) (fun y _=>by
   by_cases hy:y=a
   ·subst hy;simp [h1]
   ·simp [hy])
  have ha:0<l.countP (fun y=>decide (y=a)):=List.countP_pos_iff.2 ⟨a,h a List.mem_cons_self,by simp⟩
  rw [hp,List.length_cons];omega
def fh (n:Nat):List Int:=(List.range n).map Int.ofNat
theorem dP {n:Nat} {x:Int} :x∈fh n↔0≤x∧x<n:=by
 simp only [fh,List.mem_map,List.mem_range]
 constructor
 ·rintro ⟨a,h,rfl⟩;simp;omega
 ·intro h;exact ⟨x.toNat,by omega,by simp;omega⟩
theorem gw {n:Nat} :(fh n).Nodup:=by
 unfold fh
 exact List.Pairwise.map _ (fun a b h e=>h (Int.ofNat.inj e)) List.nodup_range
theorem bZ {l:List Int} {n:Int} :gm l n=true↔(l.length:Int)=n∧∀x∈fh n.toNat,x∈l:=by
 simp only [gm,Bool.and_eq_true,decide_eq_true_eq,List.all_eq_true,List.mem_range]
 constructor
 ·rintro ⟨h1,h2⟩
  refine ⟨h1,fun x hx=> ?_⟩
  obtain ⟨a,b⟩:=dP.1 hx
  have:=h2 x.toNat (by omega)
  rwa [show ((x.toNat:Nat):Int)=x from by omega] at this
 ·rintro ⟨h1,h2⟩
  exact ⟨h1,fun x hx=>h2 _ (dP.2 (by omega))⟩
theorem sY {l:List Int} {n:Int} (h:gm l n=true):∀x∈l,0≤x∧x<n:=by
 obtain ⟨h1,h2⟩:=bZ.1 h
 have hc:=count_le (fh n.toNat) l gw h2
 have hlen:(fh n.toNat).length=n.toNat:=by simp [fh]
 have he:l.countP (fun y=>decide (y∈fh n.toNat))=l.length:=by
  have:=List.countP_le_length (p:=fun y=>decide (y∈fh n.toNat)) (l:=l)
  omega
 intro x hx
 have:=List.countP_eq_length.1 he x hx
 have:=dP.1 (of_decide_eq_true this)
 omega
def yJ (n:Nat) (l:List Int):Nat→List Int
 |0=>List.replicate n 0
 |k+1=>(yJ n l k).set (l.getD k 0).toNat k
theorem atK_length {n:Nat} {l:List Int} :∀ {k:Nat},(yJ n l k).length=n
 |0=>by simp [yJ]
 |k+1=>by simp [yJ,atK_length (k:=k)]
def D3 (g:Gr) (l:List Int) (j:Nat):Bool:=(List.range j).all fun i=>decide ((yJ g.n.toNat l l.length).getD (tl g i).toNat 0<(yJ g.n.toNat l l.length).getD (hd g i).toNat 0)
def vZ (g:Gr) (l:List Int):Bool:=gm l g.n&&D3 g l g.es.length
attribute [go_sem] atK_length
end Go.Ab
end
section
namespace Go.Ab
def Qu (g:Gr) (out:List Int):Prop:=∀p,p<out.length→out.getD p 0=fc (cH g (out.take p)) 0∧0≤out.getD p 0
theorem AB {g:Gr} (hm:aY g=true) (h:Cu g=true):gm (aL g) g.n=true:=by
 obtain ⟨hP,_,_⟩:=gu hm
 have hn:=bM hm
 have hf:=hP.fuel
 have hok:=of_decide_eq_true h
 refine bZ.2 ⟨by omega,fun x hx=> ?_⟩
 obtain ⟨h1,h2⟩:=dP.1 hx
 have h0:(List.range g.n.toNat).countP (fun y:Nat=> !decide ((y:Int)∈aL g))=0:=by omega
 have:=List.countP_eq_zero.1 h0 x.toNat (List.mem_range.2 (by omega))
 rw [show ((x.toNat:Nat):Int)=x from by omega] at this
 simpa using this
theorem AD {g:Gr} (hm:aY g=true) (h:Cu g=false):∃y:Nat,y<g.n.toNat∧(y:Int)∉aL g:=by
 obtain ⟨hP,_,_⟩:=gu hm
 have hn:=bM hm
 have hf:=hP.fuel
 have hok:=of_decide_eq_false h
 have h0:0<(List.range g.n.toNat).countP (fun y:Nat=> !decide ((y:Int)∈aL g)):=by omega
 obtain ⟨y,hy,hp⟩:=List.countP_pos_iff.1 h0
 exact ⟨y,List.mem_range.1 hy,by simpa using hp⟩
theorem D4 {g:Gr} {l:List Int} (h:vZ g l=true) {i:Nat} (hi:i<g.es.length):(yJ g.n.toNat l l.length).getD (tl g i).toNat 0<(yJ g.n.toNat l l.length).getD (hd g i).toNat 0:=by
 simp only [vZ,Bool.and_eq_true] at h
 have:=List.all_eq_true.1 h.2 i (List.mem_range.2 hi)
 exact of_decide_eq_true this
theorem sZ {n:Nat} {l:List Int} :∀ {k:Nat} {y:Nat},0≤(yJ n l k).getD y 0
 |0,y=>by
  simp only [yJ,List.getD_eq_getElem?_getD,List.getElem?_replicate]
  split<;>simp
 |k+1,y=>by
  have ih:=sZ (n:=n) (l:=l) (k:=k) (y:=y)
  simp only [yJ,List.getD_eq_getElem?_getD,List.getElem?_set] at ih ⊢
  split
  ·split<;>simp
  ·exact ih
theorem v7 {l:List Int} {i j:Nat} (hij:i<j) (hj:j<l.length) (e:l.getD i 0=l.getD j 0):∀x∈l,x∈l.eraseIdx i:=by
 intro x hx
 obtain ⟨k,hk,rfl⟩:=List.getElem_of_mem hx
 rw [List.mem_iff_getElem?]
 rcases Nat.lt_trichotomy k i with h|h|h
 ·exact ⟨k,by rw [List.getElem?_eraseIdx,if_pos h,List.getElem?_eq_getElem hk]⟩
 ·subst h
  refine ⟨j - 1, ?_⟩
  rw [List.getElem?_eraseIdx,if_neg (by omega),show j - 1+1=j from by omega,List.getElem?_eq_getElem hj]
  rw [List.getD_eq_getElem?_getD,List.getD_eq_getElem?_getD,List.getElem?_eq_getElem hk,List.getElem?_eq_getElem hj] at e
  exact congrArg some e.symm
 ·exact ⟨k - 1,by rw [List.getElem?_eraseIdx,if_neg (by omega),show k - 1+1=k from by omega,List.getElem?_eq_getElem hk]⟩
theorem ku {l:List Int} {n:Int} (h:gm l n=true) {i j:Nat} (hi:i<l.length) (hj:j<l.length) (e:l.getD i 0=l.getD j 0):i=j:=by
 obtain ⟨h1,h2⟩:=bZ.1 h
 have key:∀i j,i<j→j<l.length→l.getD i 0=l.getD j 0→False:=by
  intro i j hij hj e
  have hc:=count_le (fh n.toNat) (l.eraseIdx i) gw fun x hx=>v7 hij hj e x (h2 x hx)
  have hlen:(fh n.toNat).length=n.toNat:=by simp [fh]
  have hle:=List.countP_le_length (p:=fun y=>decide (y∈fh n.toNat)) (l:=l.eraseIdx i)
  rw [List.length_eraseIdx_of_lt (by omega)] at hle
  omega
 rcases Nat.lt_trichotomy i j with h|h|h
 ·exact (key i j h hj e).elim
 ·exact h
 ·exact (key j i h hi e.symm).elim
theorem zu {l:List Int} {n:Int} (h:gm l n=true) {p:Nat} :∀ {k:Nat},p<k→k≤l.length→(yJ n.toNat l k).getD (l.getD p 0).toNat 0=p
 |0,hp,_=>by omega
 |k+1,hp,hk=>by
  have hlo:=sY h
  have hp1:=hlo _ (gE (l:=l) (m:=p) (by omega))
  have Bc:=hlo _ (gE (l:=l) (m:=k) (by omega))
  simp only [yJ,List.getD_eq_getElem?_getD (l:=(yJ n.toNat l k).set _ _),List.getElem?_set,atK_length]
  by_cases hpk:p=k
  ·subst hpk
   rw [if_pos rfl,if_pos (by omega)];rfl
  ·have hne:¬(l.getD k 0).toNat=(l.getD p 0).toNat:=fun e=>hpk (ku h (i:=p) (j:=k) (by omega) (by omega) (by omega))
   rw [if_neg hne, ← List.getD_eq_getElem?_getD]
   exact zu h (by omega) (by omega)
theorem BM {g:Gr} (hm:aY g=true) (h:Cu g=true):vZ g (aL g)=true:=by
 have he:=AB hm h
 obtain ⟨hP,hO,_⟩:=gu hm
 have hall:=(bZ.1 he).2
 simp only [vZ,he,Bool.true_and,D3,List.all_eq_true,List.mem_range,decide_eq_true_eq]
 intro i hi
 have hh:=fM hm hi
 obtain ⟨p,hp,e⟩:=List.getElem_of_mem (hall (hd g i) (dP.2 (by omega)))
 have e':(aL g).getD p 0=hd g i:=by rw [List.getD_eq_getElem?_getD,List.getElem?_eq_getElem hp];exact e
 have ht:=hO p hp i hi e'.symm
 rw [List.mem_iff_getElem?] at ht
 obtain ⟨q,hq⟩:=ht
 rw [List.getElem?_take] at hq
 split at hq
 ·rename_i OM
  have e2:(aL g).getD q 0=tl g i:=by rw [List.getD_eq_getElem?_getD,hq];rfl
  rw [← e', ← e2,zu he hp (Nat.le_refl _),zu he (by omega) (Nat.le_refl _)]
  omega
 ·cases hq
end Go.Ab
end
section
namespace Go.Ab
open Go.Proofs
attribute [local congr] ACall.congr gd.congr Nx.congr
set_option maxRecDepth 10000
end Go.Ab
end
section
namespace Go.Ab
open Go.Proofs
attribute [local congr] ACall.congr gd.congr Nx.congr
set_option maxRecDepth 10000
def gz:Gr:=⟨0, []⟩
def vz:D:= .pt [.sc (.int .i64 0), .sl 2 [], .sl 1 [], .sl 1 []]
def v8 (f:Edge→Int) (g:Gr) (x:Int):List Int:=if 0≤x∧x<g.n then aX f g.es g.es.length x else []
end Go.Ab
end
section
namespace Go.Ab
open Go.Proofs
attribute [local congr] ACall.congr gd.congr Nx.congr
set_option maxRecDepth 10000
abbrev It:=Int × Int × Int
def rT (t:It):List D:= [.sc (.int .i64 t.1), .sc (.int .i64 t.2.1), .sc (.int .i64 t.2.2)]
def eT (t:It):AV:= .agg [.d (.sc (.int .i64 t.1)), .d (.sc (.int .i64 t.2.1)), .d (.sc (.int .i64 t.2.2))]
def sT (ts:List It):D:= .sl 3 (ts.map rT)
theorem getD_rT (ps:List It) (i:Nat):(ps.map rT).getD i [.sc (.int .i64 0), .sc (.int .i64 0), .sc (.int .i64 0)]=rT (ps.getD i (0,0,0)):=by
 simp only [List.getD_eq_getElem?_getD,List.getElem?_map]
 cases ps[i]? <;>rfl
theorem rT_eq (t:It):rT t= [.sc (.int .i64 t.1), .sc (.int .i64 t.2.1), .sc (.int .i64 t.2.2)]:=rfl
attribute [go_sem] getD_rT rT_eq eT sT
theorem D5 {l:List Int} :∀r∈l.map rI,∀x∈r,∃v,x=D.sc v:=by
 intro r hr x hx
 obtain ⟨y,_,rfl⟩:=List.mem_map.1 hr
 simp only [rI,List.mem_singleton] at hx
 exact ⟨_,hx⟩
theorem D6 {l:List It} :∀r∈l.map rT,∀x∈r,∃v,x=D.sc v:=by
 intro r hr x hx
 obtain ⟨y,_,rfl⟩:=List.mem_map.1 hr
 simp only [rT,List.mem_cons,List.not_mem_nil,or_false] at hx
 rcases hx with h|h|h<;>exact ⟨_,h⟩
def vT (ls:List (List It)):List (List D):=ls.map fun l=> [sT l]
theorem vT_length {ls:List (List It)} :(vT ls).length=ls.length:=by simp [vT]
theorem FK {ls:List (List It)} {k:Nat} (h:k<ls.length) (d:List D):(vT ls).getD k d= [sT (ls.getD k [])]:=by
 simp [vT,List.getD_eq_getElem?_getD,List.getElem?_eq_getElem h]
attribute [go_sem] vT_length
end Go.Ab
end
section
namespace Go.Ab
open Go.Proofs
attribute [local congr] ACall.congr gd.congr Nx.congr
set_option maxRecDepth 10000
set_option maxHeartbeats 1000000
structure Fr where
 row:List It
 pl:List Int
def Qv (g:Gr) (f:Fr):D:= .pt [sT f.row,vw g,sI f.pl]
def dU (row:List It) (x:Int):Nat→Int × Int × Int
 |0=>(-1,0,0)
 |k+1=>if (row.getD k (0,0,0)).2.2=x then (if (dU row x k).1= -1 then (k:Int) else (dU row x k).1,(k:Int)+1,(dU row x k).2.2+1) else dU row x k
def b8 (row:List It) (x:Int):Int × Int × Int:=dU row x row.length
theorem kz {row:List It} {x:Int} {k:Nat} :dU row x (k+1)=if (row.getD k (0,0,0)).2.2=x then (if (dU row x k).1= -1 then (k:Int) else (dU row x k).1,(k:Int)+1,(dU row x k).2.2+1) else dU row x k:=rfl
theorem dQ {row:List It} {x:Int} :∀k:Nat,(dU row x k=(-1,0,0)∧∀j,j<k→(row.getD j (0,0,0)).2.2≠x)∨
 ∃a b c:Nat,dU row x k=((a:Int),(b:Int),(c:Int))∧a<b∧b≤k∧0<c∧c≤k∧(row.getD a (0,0,0)).2.2=x∧(row.getD (b - 1) (0,0,0)).2.2=x∧(∀j,j<a→(row.getD j (0,0,0)).2.2≠x)∧(∀j,b≤j→j<k→(row.getD j (0,0,0)).2.2≠x)
 |0=> .inl ⟨rfl,fun j hj=>by omega⟩
 |k+1=>by
  rw [kz]
  by_cases hx:(row.getD k (0,0,0)).2.2=x
  ·rw [if_pos hx]
   right
   rcases dQ (row:=row) (x:=x) k with ⟨h1,h2⟩|⟨a,b,c,h1,h2,h3,h4,h5,h6,h7,h8,h9⟩
   ·refine ⟨k,k+1,1,by rw [h1];rfl,by omega,by omega,by omega,by omega,hx,hx,h2,fun j h1 h2=>by omega⟩
   ·refine ⟨a,k+1,c+1,by rw [h1];simp only [Prod.mk.injEq];exact ⟨by rw [if_neg (by omega)],by omega,by omega⟩,by omega,by omega,by omega,by omega,h6,hx,h8,fun j h1 h2=>by omega⟩
  ·rw [if_neg hx]
   rcases dQ (row:=row) (x:=x) k with ⟨h1,h2⟩|⟨a,b,c,h1,h2,h3,h4,h5,h6,h7,h8,h9⟩
   ·refine .inl ⟨h1,fun j hj=> ?_⟩
    by_cases hjk:j=k
    ·subst hjk;exact hx
    ·exact h2 j (by omega)
   ·refine .inr ⟨a,b,c,h1,h2,by omega,h4,by omega,h6,h7,h8,fun j KE Qw=> ?_⟩
    by_cases hjk:j=k
    ·subst hjk;exact hx
    ·exact h9 j KE (by omega)
def pS (x:Int) (t:It):Bool:=decide (t.2.2≠x)&&decide (t.2.2≠ -1)
def uE (row:List It) (x:Int) (a b:Nat):Bool:= !((row.take b).drop a).any (pS x)
end Go.Ab
end
section
namespace Go.Ab
open Go.Proofs
attribute [local congr] ACall.congr gd.congr Nx.congr
set_option maxRecDepth 10000
set_option maxHeartbeats 2000000
def lN (g:Gr) (f:Fr) (x:Int):Bool:=
 if x<0∨g.n≤x∨x∈f.pl then false else
 decide ((b8 f.row x).2.2=((v8 (·.2) g x).length:Int))&&(decide ((v8 (·.2) g x).length=0)||uE f.row x (b8 f.row x).1.toNat (b8 f.row x).2.1.toNat)
end Go.Ab
end
section
namespace Go.Ab
open Go.Proofs
attribute [local congr] ACall.congr gd.congr Nx.congr
set_option maxRecDepth 10000
set_option maxHeartbeats 2000000
def mR (g:Gr) (x:Int) (i:Int):It:=(i,x,(g.es.getD i.toNat (0,0)).2)
def bg (g:Gr) (x:Int) (outs:List Int):List It:=if outs= [] then [(-1,x, -1)] else outs.map (mR g x)
theorem s4 {α β:Type} {f:α→β} {l:List α} {d:α} {k:Nat} (h:k<l.length):(l.take (k+1)).map f=(l.take k).map f++ [f (l.getD k d)]:=by
 rw [List.take_add_one,List.map_append,List.getElem?_eq_getElem h,List.getD_eq_getElem?_getD,List.getElem?_eq_getElem h]
 rfl
def Qx (g:Gr) (f:Fr):List (Nat × AObj):= [(10000, .box [.d (sT f.row), .d (vw g), .ref 10001]),(10001, .tip 3 1 (f.pl.map rI))]
end Go.Ab
end
section
namespace Go.Ab
open Go.Proofs
attribute [local congr] ACall.congr gd.congr Nx.congr
set_option maxRecDepth 10000
set_option maxHeartbeats 4000000
def Qy (g:Gr) (f:Fr):List (Nat × AObj):= [(10000, .box [.d (sT f.row), .d (vw g), .ref 10002]),(10002, .tip 3 1 (f.pl.map rI))]
def Mz (g:Gr) (f:Fr) (x:Int) (outs:List Int):(List It × Int) × Fr:=
 if lN g f x=false then (([],3),f) else if OQ outs≠v8 (·.1) g x then (([],1),f) else
 (((f.row.take (b8 f.row x).2.1.toNat).drop (max (b8 f.row x).1 0).toNat,0),⟨f.row.take (max (b8 f.row x).1 0).toNat++bg g x outs++f.row.drop (b8 f.row x).2.1.toNat,f.pl++ [x]⟩)
theorem gy {f:Edge→Int} {es:List Edge} {k:Nat} {x i:Int} (h:i∈aX f es k x):(0≤i∧i<k)∧f (es.getD i.toNat (0,0))=x:=by
 simp only [aX,List.mem_map,List.mem_filter,List.mem_range,decide_eq_true_eq] at h
 obtain ⟨j,⟨h1,h2⟩,rfl⟩:=h
 exact ⟨⟨Int.natCast_nonneg j,by simp;omega⟩,h2⟩
theorem BN (row:List It) (x:Int):∃a b:Nat,max (b8 row x).1 0=(a:Int)∧(b8 row x).2.1=(b:Int)∧a≤b∧b≤row.length:=by
 rcases dQ (row:=row) (x:=x) row.length with ⟨h,_⟩|⟨a,b,c,h,h1,h2,_⟩
 ·exact ⟨0,0,by unfold b8;rw [h];rfl,by unfold b8;rw [h];rfl,by omega,by omega⟩
 ·exact ⟨a,b,by unfold b8;rw [h];simp only;omega,by unfold b8;rw [h],by omega,by omega⟩
theorem nv {g:Gr} {x:Int} {outs:List Int} :0<(bg g x outs).length∧(bg g x outs).length≤outs.length+1:=by
 unfold bg
 split
 ·simp
 ·rename_i h
  have:=List.length_pos_iff.2 h
  simp;omega
end Go.Ab
end
section
namespace Go.Ab
open Go.Proofs
attribute [local congr] ACall.congr gd.congr Nx.congr
set_option maxRecDepth 10000
set_option maxHeartbeats 4000000
def Hz (g:Gr) (f:Fr) (k:Nat):List Int:=((List.range k).filter fun x:Nat=>lN g f (x:Int)).map Int.ofNat
def HA (g:Gr) (f:Fr):List Int:=Hz g f g.n.toNat
end Go.Ab
end
section
namespace Go.Ab
open Go.Proofs
attribute [local congr] ACall.congr gd.congr Nx.congr
set_option maxRecDepth 10000
set_option maxHeartbeats 4000000
theorem bn (ps:List Int) (x:Int) (hl:ps.length≤9223372036854775807):Spec Tryz.prog 165 (Args [.d (sI ps),eN x]) [] (eB (decide (x∈ps))) []:=by
 (refine Spec.hd (C:=T.cfg [] []) (rs:= [.t 4]) (T.ai _ _) Tryz.func165 rfl rfl Tryz.ntmps165 Tryz.results165 (by simp [AObj.isNest]) (by simp [AObj.isNest]) (by kernel_rfl) T.mixed fun X hX hP hC aF bY=> ?_)
 repeat' (first|refine Rn.p ?_|(with_reducible apply And.intro)|((first|(refine hK _ ?_;clear hK K)|with_reducible intro K hK|refine Rs.p ?_|((with_reducible first|apply oP|apply oQ);exact rfl));try simp only [go_sem,simprocAttr])|((with_reducible refine oD ?_ ?_);kernel_rfl)|((with_reducible intro h);try simp only [go_sem,simprocAttr] at h)|omega|intro h)
 refine ag (fun k:Nat=>k≤ps.length∧∀j,j<k→ps.getD j 0≠x) (fun k=>⟨[(0, .d (sI ps)),(1,eN x),(5,eN k)], []⟩) (fun k=>ps.length - k) 0 (by simp) ?_ ?_
 ·(refine ⟨bz ?_,fun _ _ h=>h⟩;simp [go_sem,simprocAttr])
 rintro k ⟨hk,hg⟩
 rcases Nat.lt_or_ge k ps.length with hlt|hge
 ·have hb:decide ((k:Int)<(ps.length:Int))=true:=decide_eq_true (by omega)
  repeat' (first|refine Rn.p ?_|(with_reducible apply And.intro)|((first|(refine hK _ ?_;clear hK K)|with_reducible intro K hK|refine Rs.p ?_|((with_reducible first|apply oP|apply oQ);exact rfl));try simp only [go_sem,simprocAttr,hb])|((with_reducible refine oD ?_ ?_);kernel_rfl)|((with_reducible intro h);try simp only [go_sem,simprocAttr,hb] at h)|omega|intro h)
  ·have hm:=aO (d:=0) hlt
   rw [h] at hm
   exact (decide_eq_true hm).symm
  ·refine ⟨k+1,⟨by omega,fun j hj=> ?_⟩, ?_,by omega⟩
   ·by_cases hjk:j=k
    ·subst hjk;assumption
    ·exact hg j (by omega)
   ·(refine ⟨bz ?_,fun _ _ h=>h⟩;simp [go_sem,simprocAttr,hb])
 ·have hb:decide ((k:Int)<(ps.length:Int))=false:=decide_eq_false (by omega)
  repeat' (first|refine Rn.p ?_|(with_reducible apply And.intro)|((first|(refine hK _ ?_;clear hK K)|with_reducible intro K hK|refine Rs.p ?_|((with_reducible first|apply oP|apply oQ);exact rfl));try simp only [go_sem,simprocAttr,hb])|((with_reducible refine oD ?_ ?_);kernel_rfl)|((with_reducible intro h);try simp only [go_sem,simprocAttr,hb] at h)|omega|intro h)
  refine (decide_eq_false fun hm=> ?_).symm
  obtain ⟨j,hj,hx⟩:=List.mem_iff_getElem.1 hm
  exact hg j (by omega) (by rw [List.getD_eq_getElem?_getD,List.getElem?_eq_getElem hj];exact hx)
def jT (g:Gr) (f:Fr):List AV:= [eN g.n, .d (sE g.es), .d (sT f.row), .d (sI f.pl)]
def fG (row:List It) (x:Int):Nat→Int
 |0=>0
 |k+1=>if (row.getD k (0,0,0)).2.2=x then fG row x k+1 else fG row x k
theorem eD {row:List It} {x:Int} {k:Nat} :fG row x (k+1)=if (row.getD k (0,0,0)).2.2=x then fG row x k+1 else fG row x k:=rfl
theorem AE {row:List It} {x:Int} :∀k:Nat,0≤fG row x k∧fG row x k≤k
 |0=>by simp [fG]
 |k+1=>by
  have:=AE (row:=row) (x:=x) k
  rw [eD]
  split<;>omega
def s5 (row:List It) (x:Int) (need:Nat) (j:Nat):Bool:=decide ((row.getD j (0,0,0)).2.2≠x)&&decide (0≤(row.getD j (0,0,0)).1)&&decide (0<fG row x j)&&decide (fG row x j<need)
theorem mu {row:List It} {x:Int} {need j:Nat} :s5 row x need j=true↔((row.getD j (0,0,0)).2.2≠x∧0≤(row.getD j (0,0,0)).1)∧0<fG row x j∧fG row x j<need:=by
 simp only [s5,Bool.and_eq_true,decide_eq_true_eq,and_assoc]
def bA (g:Gr) (x:Int):Nat:=(aX (·.2) g.es g.es.length x).length
def aC (g:Gr) (f:Fr) (x:Int):Bool:=
 if x<0∨g.n≤x∨x∈f.pl then false else if bA g x=0 then true else
 !(List.range f.row.length).any (s5 f.row x (bA g x))&&decide (fG f.row x f.row.length=bA g x)
theorem oW:kO false=(fun e:Edge=>e.2):=rfl
theorem jJ:kO true=(fun e:Edge=>e.1):=rfl
theorem FL {n j:Nat} {p:Nat→Bool} (h:j<n) (hp:p j=true):(List.range n).any p=true:=List.any_eq_true.2 ⟨j,List.mem_range.2 h,hp⟩
theorem FM {n:Nat} {p:Nat→Bool} (h:∀j,j<n→p j=false):(List.range n).any p=false:=by
 rw [List.any_eq_false]
 intro j hj
 rw [h j (List.mem_range.1 hj)];simp
theorem bF (g:Gr) (hl:g.es.length≤1000) (f:Fr) (x:Int) (hr:f.row.length≤1000000) (fH:f.pl.length≤1000000):Spec Tryz.prog 164 (Args [.ptr 10000 0,eN x]) [(10000, .rob (jT g f))] (eB (aC g f x)) [(10000, .rob (jT g f))]:=by
 have hp:f.pl.length≤9223372036854775807:=by omega
 unfold jT
 by_cases hx:x<0∨g.n≤x∨x∈f.pl
 ·have hR:aC g f x=false:=if_pos hx
  (refine Spec.hd (C:=T.cfg [] []) (rs:= [.t 4]) (T.ai _ _) Tryz.func164 rfl rfl Tryz.ntmps164 Tryz.results164 (by simp [AObj.isNest]) (by simp [AObj.isNest]) (by kernel_rfl) T.mixed fun X hX hP hC aF bY=> ?_)
  by_cases h1:x<0
  ·have aJ:decide (x<0)=true:=decide_eq_true h1
   repeat' (first|refine Rn.p ?_|(with_reducible apply And.intro)|((first|(refine hK _ ?_;clear hK K)|with_reducible intro K hK|refine Rs.p ?_|((with_reducible first|apply oP|apply oQ);exact rfl)|refine aa hX hC hP (bn f.pl x hp) rfl rfl rfl (by simp only [go_sem,simprocAttr,hR,aJ]) rfl ?_|refine aa hX hC hP (aT g x false hl) rfl rfl rfl (by simp only [go_sem,simprocAttr,hR,aJ]) rfl ?_);try simp only [go_sem,simprocAttr,hR,aJ])|((with_reducible refine oD ?_ ?_);kernel_rfl)|((with_reducible intro h);try simp only [go_sem,simprocAttr,hR,aJ] at h)|omega|intro h)
  have aJ:decide (x<0)=false:=decide_eq_false h1
  by_cases h2:g.n≤x
  ·have aK:decide (g.n≤x)=true:=decide_eq_true h2
   repeat' (first|refine Rn.p ?_|(with_reducible apply And.intro)|((first|(refine hK _ ?_;clear hK K)|with_reducible intro K hK|refine Rs.p ?_|((with_reducible first|apply oP|apply oQ);exact rfl)|refine aa hX hC hP (bn f.pl x hp) rfl rfl rfl (by simp only [go_sem,simprocAttr,hR,aJ,aK]) rfl ?_|refine aa hX hC hP (aT g x false hl) rfl rfl rfl (by simp only [go_sem,simprocAttr,hR,aJ,aK]) rfl ?_);try simp only [go_sem,simprocAttr,hR,aJ,aK])|((with_reducible refine oD ?_ ?_);kernel_rfl)|((with_reducible intro h);try simp only [go_sem,simprocAttr,hR,aJ,aK] at h)|omega|intro h)
  have aK:decide (g.n≤x)=false:=decide_eq_false h2
  have h3:x∈f.pl:=by rcases hx with h|h|h;exact absurd h h1;exact absurd h h2;exact h
  have cQ:decide (x∈f.pl)=true:=decide_eq_true h3
  repeat' (first|refine Rn.p ?_|(with_reducible apply And.intro)|((first|(refine hK _ ?_;clear hK K)|with_reducible intro K hK|refine Rs.p ?_|((with_reducible first|apply oP|apply oQ);exact rfl)|refine aa hX hC hP (bn f.pl x hp) rfl rfl rfl (by simp only [go_sem,simprocAttr,hR,aJ,aK,cQ]) rfl ?_|refine aa hX hC hP (aT g x false hl) rfl rfl rfl (by simp only [go_sem,simprocAttr,hR,aJ,aK,cQ]) rfl ?_);try simp only [go_sem,simprocAttr,hR,aJ,aK,cQ])|((with_reducible refine oD ?_ ?_);kernel_rfl)|((with_reducible intro h);try simp only [go_sem,simprocAttr,hR,aJ,aK,cQ] at h)|omega|intro h)
 ·have aJ:decide (x<0)=false:=decide_eq_false fun h=>hx (.inl h)
  have aK:decide (g.n≤x)=false:=decide_eq_false fun h=>hx (.inr (.inl h))
  have cQ:decide (x∈f.pl)=false:=decide_eq_false fun h=>hx (.inr (.inr h))
  have hR:aC g f x=if bA g x=0 then true else !(List.range f.row.length).any (s5 f.row x (bA g x))&&decide (fG f.row x f.row.length=bA g x):=if_neg hx
  have dB:(aX (·.2) g.es g.es.length x).length=bA g x:=rfl
  have hnl:bA g x≤1000:=Nat.le_trans jE hl
  generalize bA g x=need at hR dB hnl
  by_cases h4:need=0
  ·have hb4:decide ((need:Int)=0)=true:=decide_eq_true (by omega)
   rw [if_pos h4] at hR
   (refine Spec.hd (C:=T.cfg [] []) (rs:= [.t 4]) (T.ai _ _) Tryz.func164 rfl rfl Tryz.ntmps164 Tryz.results164 (by simp [AObj.isNest]) (by simp [AObj.isNest]) (by kernel_rfl) T.mixed fun X hX hP hC aF bY=> ?_)
   repeat' (first|refine Rn.p ?_|(with_reducible apply And.intro)|((first|(refine hK _ ?_;clear hK K)|with_reducible intro K hK|refine Rs.p ?_|((with_reducible first|apply oP|apply oQ);exact rfl)|refine aa hX hC hP (bn f.pl x hp) rfl rfl rfl (by simp only [go_sem,simprocAttr,hR,aJ,aK,cQ,hb4,oW,dB]) rfl ?_|refine aa hX hC hP (aT g x false hl) rfl rfl rfl (by simp only [go_sem,simprocAttr,hR,aJ,aK,cQ,hb4,oW,dB]) rfl ?_);try simp only [go_sem,simprocAttr,hR,aJ,aK,cQ,hb4,oW,dB])|((with_reducible refine oD ?_ ?_);kernel_rfl)|((with_reducible intro h);try simp only [go_sem,simprocAttr,hR,aJ,aK,cQ,hb4,oW,dB] at h)|omega|intro h)
  ·have hb4:decide ((need:Int)=0)=false:=decide_eq_false (by omega)
   rw [if_neg h4] at hR
   generalize aC g f x=res at hR
   (refine Spec.hd (C:=T.cfg [] []) (rs:= [.t 4]) (T.ai _ _) Tryz.func164 rfl rfl Tryz.ntmps164 Tryz.results164 (by simp [AObj.isNest]) (by simp [AObj.isNest]) (by kernel_rfl) T.mixed fun X hX hP hC aF bY=> ?_)
   repeat' (first|refine Rn.p ?_|(with_reducible apply And.intro)|((first|(refine hK _ ?_;clear hK K)|with_reducible intro K hK|refine Rs.p ?_|((with_reducible first|apply oP|apply oQ);exact rfl)|refine aa hX hC hP (bn f.pl x hp) rfl rfl rfl (by simp only [go_sem,simprocAttr,aJ,aK,cQ,hb4,oW,dB]) rfl ?_|refine aa hX hC hP (aT g x false hl) rfl rfl rfl (by simp only [go_sem,simprocAttr,aJ,aK,cQ,hb4,oW,dB]) rfl ?_);try simp only [go_sem,simprocAttr,aJ,aK,cQ,hb4,oW,dB])|((with_reducible refine oD ?_ ?_);kernel_rfl)|((with_reducible intro h);try simp only [go_sem,simprocAttr,aJ,aK,cQ,hb4,oW,dB] at h)|omega|intro h)
   refine ag (fun k:Nat=>k≤f.row.length∧∀j,j<k→s5 f.row x need j=false) (fun k=>⟨[(0, .ptr 10000 0),(1,eN x),(5,eN need),(6,eN (fG f.row x k)),(7,eN k)], [(10000, .rob [eN g.n, .d (sE g.es), .d (sT f.row), .d (sI f.pl)])]⟩) (fun k=>f.row.length - k) 0 (by simp) ?_ ?_
   ·refine Le.of ?_ ?_<;>simp [go_sem,simprocAttr,aJ,aK,cQ,hb4,oW,dB,fG]
   rintro k ⟨hk,hg⟩
   rcases Nat.lt_or_ge k f.row.length with hlt|hge
   ·have hb:decide ((k:Int)<(f.row.length:Int))=true:=decide_eq_true (by omega)
    have hmk:=AE (row:=f.row) (x:=x) k
    have ga:=eD (row:=f.row) (x:=x) (k:=k)
    have step:s5 f.row x need k=false→∀j,j<k+1→s5 f.row x need j=false:=fun h j hj=>by
     by_cases hjk:j=k
     ·subst hjk;exact h
     ·exact hg j (by omega)
    repeat' (first|refine Rn.p ?_|(with_reducible apply And.intro)|((first|(refine hK _ ?_;clear hK K)|with_reducible intro K hK|refine Rs.p ?_|((with_reducible first|apply oP|apply oQ);exact rfl)|refine aa hX hC hP (bn f.pl x hp) rfl rfl rfl (by simp only [go_sem,simprocAttr,hb]) rfl ?_|refine aa hX hC hP (aT g x false hl) rfl rfl rfl (by simp only [go_sem,simprocAttr,hb]) rfl ?_);try simp only [go_sem,simprocAttr,hb])|((with_reducible refine oD ?_ ?_);kernel_rfl)|((with_reducible intro h);try simp only [go_sem,simprocAttr,hb] at h)|omega|intro h)
    all_goals (first|(rw [hR,FL hlt (mu.2 ⟨⟨by assumption,by assumption⟩,by assumption,by assumption⟩)];rfl)|skip)
    all_goals (first|rw [if_neg (by assumption)] at ga|rw [if_pos (by assumption)] at ga)
    all_goals (refine ⟨k+1,⟨by omega,step (by rw [← Bool.not_eq_true];intro hh;obtain ⟨⟨_,_⟩,_,_⟩:=mu.1 hh;contradiction)⟩, ?_,by omega⟩;refine Le.of ?_ ?_<;>simp [go_sem,simprocAttr,hb,ga])
   ·have hb:decide ((k:Int)<(f.row.length:Int))=false:=decide_eq_false (by omega)
    obtain rfl:k=f.row.length:=by omega
    rw [FM hg] at hR
    repeat' (first|refine Rn.p ?_|(with_reducible apply And.intro)|((first|(refine hK _ ?_;clear hK K)|with_reducible intro K hK|refine Rs.p ?_|((with_reducible first|apply oP|apply oQ);exact rfl)|refine aa hX hC hP (bn f.pl x hp) rfl rfl rfl (by simp only [go_sem,simprocAttr,hb,hR]) rfl ?_|refine aa hX hC hP (aT g x false hl) rfl rfl rfl (by simp only [go_sem,simprocAttr,hb,hR]) rfl ?_);try simp only [go_sem,simprocAttr,hb,hR])|((with_reducible refine oD ?_ ?_);kernel_rfl)|((with_reducible intro h);try simp only [go_sem,simprocAttr,hb,hR] at h)|omega|intro h)
end Go.Ab
end
section
namespace Go.Ab
open Go.Proofs
attribute [local congr] ACall.congr gd.congr Nx.congr
set_option maxRecDepth 10000
set_option maxHeartbeats 4000000
end Go.Ab
end
section
namespace Go.Ab
open Go.Proofs
attribute [local congr] ACall.congr gd.congr Nx.congr
set_option maxRecDepth 10000
set_option maxHeartbeats 8000000
def bq (g:Gr) (x:Int):List Int:=aX (·.1) g.es g.es.length x
def aD (g:Gr) (f:Fr) (x:Int) (outs:List Int):(List It × Int) × Fr:=
 (((f.row.take (b8 f.row x).2.1.toNat).drop (max (b8 f.row x).1 0).toNat,0),⟨f.row.take (max (b8 f.row x).1 0).toNat++bg g x outs++f.row.drop (b8 f.row x).2.1.toNat,f.pl++ [x]⟩)
def eY (g:Gr) (f:Fr) (x:Int) (outs:List Int):(List It × Int) × Fr:=
 if aC g f x=false then (([],3),f) else
 if outs.length≠(bq g x).length∨∃i∈bq g x,i∉outs then (([],1),f) else aD g f x outs
theorem dI {f:Edge→Int} {es:List Edge} {k:Nat} {x:Int} :(aX f es k x).Nodup:=by
 unfold aX
 exact List.Pairwise.map _ (fun a b h e=>h (Int.ofNat.inj e)) (List.Pairwise.filter _ List.nodup_range)
theorem we:∀ {ms os:List Int},ms.Nodup→(∀i∈ms,i∈os)→os.length=ms.length→∀i∈os,i∈ms
 | [],os,_,_,hl,i,hi=>by
   have:os= []:=List.eq_nil_of_length_eq_zero (by simpa using hl)
   rw [this] at hi;exact hi
 |m::ms,os,hn,hs,hl,i,hi=>by
  rw [List.nodup_cons] at hn
  have hm:=hs m (List.mem_cons_self ..)
  by_cases h:i=m
  ·rw [h];exact List.mem_cons_self ..
  ·refine List.mem_cons_of_mem _ (we hn.2 (os:=os.erase m) (fun j hj=> ?_) ?_ i ?_)
   ·have:j≠m:=fun e=>hn.1 (e ▸ hj)
    exact (List.mem_erase_of_ne this).2 (hs j (List.mem_cons_of_mem _ hj))
   ·rw [List.length_erase_of_mem hm,hl];simp
   ·exact (List.mem_erase_of_ne h).2 hi
theorem s6 {g:Gr} {x:Int} :(bq g x).length≤g.es.length:=jE
theorem x3 (g:Gr) (hl:g.es.length≤1000) (f:Fr) (x:Int) (outs:List Int) (hr:f.row.length≤300000) (hp:f.pl.length≤100000) (ho:outs.length≤9223372036854775807):
 Spec Tryz.prog 111 (Args [.ptr 10000 0,eN x, .d (sI outs)]) [(10000, .box (jT g f))] (.tup [.d (sT (eY g f x outs).1.1),eN (eY g f x outs).1.2]) [(10000, .box (jT g (eY g f x outs).2))]:=by
 have lX:f.row.length≤1000000:=by omega
 have hp1:f.pl.length≤1000000:=by omega
 have tN:outs.length≤9223372036854775807:=by omega
 have hml:=s6 (g:=g) (x:=x)
 have yV:aX (fun e=>e.1) g.es g.es.length x=bq g x:=rfl
 cases hR:aC g f x with
 |false=>
  have hP:eY g f x outs=(([],3),f):=if_pos hR
  rw [hP]
  unfold jT
  (refine Spec.hd (C:=T.cfg [] []) (rs:= [.t 6, .t 7]) (T.ai _ _) Tryz.func111 rfl rfl Tryz.ntmps111 Tryz.results111 (by simp [AObj.isNest]) (by simp [AObj.isNest]) (by kernel_rfl) T.mixed fun X hX hP hC aF bY=> ?_)
  repeat' (first|refine Rn.p ?_|(with_reducible apply And.intro)|((first|(refine hK _ ?_;clear hK K)|with_reducible intro K hK|refine Rs.p ?_|((with_reducible first|apply oP|apply oQ);exact rfl)|(refine aS hX hC hP [(10000,10000)] (bF g hl f x lX hp1) rfl rfl rfl ?_ ?_ ?_ ?_ ?_ ?_ rfl rfl ?_ ?_;(focus (simp only [go_sem,simprocAttr,hR,jT];done));(iterate 6 (focus (simp [go_sem,simprocAttr,hR,jT];done)));try simp only [List.map_cons,List.map_nil])|refine aa hX hC hP (aT g x true hl) rfl rfl rfl (by simp only [go_sem,simprocAttr,hR,jT]) rfl ?_|refine aa hX hC hP (bn outs ((bq g x).getD k 0) tN) rfl rfl rfl (by simp only [go_sem,simprocAttr,hR,jT]) rfl ?_);try simp only [go_sem,simprocAttr,hR,jT])|((with_reducible refine oD ?_ ?_);kernel_rfl)|((with_reducible intro h);try simp only [go_sem,simprocAttr,hR,jT] at h)|omega|intro h)
 |true=>
 have KF:¬aC g f x=false:=by rw [hR];simp
 by_cases hlen:outs.length≠(bq g x).length
 ·have hP:eY g f x outs=(([],1),f):=by unfold eY;rw [if_neg KF,if_pos (.inl hlen)]
  have aJ:decide ((outs.length:Int)=((bq g x).length:Int))=false:=decide_eq_false (by omega)
  rw [hP]
  unfold jT
  (refine Spec.hd (C:=T.cfg [] []) (rs:= [.t 6, .t 7]) (T.ai _ _) Tryz.func111 rfl rfl Tryz.ntmps111 Tryz.results111 (by simp [AObj.isNest]) (by simp [AObj.isNest]) (by kernel_rfl) T.mixed fun X hX hP hC aF bY=> ?_)
  repeat' (first|refine Rn.p ?_|(with_reducible apply And.intro)|((first|(refine hK _ ?_;clear hK K)|with_reducible intro K hK|refine Rs.p ?_|((with_reducible first|apply oP|apply oQ);exact rfl)|(refine aS hX hC hP [(10000,10000)] (bF g hl f x lX hp1) rfl rfl rfl ?_ ?_ ?_ ?_ ?_ ?_ rfl rfl ?_ ?_;(focus (simp only [go_sem,simprocAttr,hR,jT,jJ,yV,aJ];done));(iterate 6 (focus (simp [go_sem,simprocAttr,hR,jT,jJ,yV,aJ];done)));try simp only [List.map_cons,List.map_nil])|refine aa hX hC hP (aT g x true hl) rfl rfl rfl (by simp only [go_sem,simprocAttr,hR,jT,jJ,yV,aJ]) rfl ?_|refine aa hX hC hP (bn outs ((bq g x).getD k 0) tN) rfl rfl rfl (by simp only [go_sem,simprocAttr,hR,jT,jJ,yV,aJ]) rfl ?_);try simp only [go_sem,simprocAttr,hR,jT,jJ,yV,aJ])|((with_reducible refine oD ?_ ?_);kernel_rfl)|((with_reducible intro h);try simp only [go_sem,simprocAttr,hR,jT,jJ,yV,aJ] at h)|omega|intro h)
 rw [ne_eq,Decidable.not_not] at hlen
 have aJ:decide ((outs.length:Int)=((bq g x).length:Int))=true:=decide_eq_true (by omega)
 have hP:eY g f x outs=if ∃i∈bq g x,i∉outs then (([],1),f) else aD g f x outs:=by
  unfold eY
  rw [if_neg KF]
  by_cases hE:∃i∈bq g x,i∉outs
  ·rw [if_pos (.inr hE),if_pos hE]
  ·rw [if_neg (fun h=>by rcases h with h|h;exact h hlen;exact hE h),if_neg hE]
 rw [hP]
 generalize EU:(if ∃i∈bq g x,i∉outs then (([],1),f) else aD g f x outs:(List It × Int) × Fr)=pp
 unfold jT
 (refine Spec.hd (C:=T.cfg [] []) (rs:= [.t 6, .t 7]) (T.ai _ _) Tryz.func111 rfl rfl Tryz.ntmps111 Tryz.results111 (by simp [AObj.isNest]) (by simp [AObj.isNest]) (by kernel_rfl) T.mixed fun X hX hP hC aF bY=> ?_)
 repeat' (first|refine Rn.p ?_|(with_reducible apply And.intro)|((first|(refine hK _ ?_;clear hK K)|with_reducible intro K hK|refine Rs.p ?_|((with_reducible first|apply oP|apply oQ);exact rfl)|(refine aS hX hC hP [(10000,10000)] (bF g hl f x lX hp1) rfl rfl rfl ?_ ?_ ?_ ?_ ?_ ?_ rfl rfl ?_ ?_;(focus (simp only [go_sem,simprocAttr,hR,jT,jJ,yV,aJ];done));(iterate 6 (focus (simp [go_sem,simprocAttr,hR,jT,jJ,yV,aJ];done)));try simp only [List.map_cons,List.map_nil])|refine aa hX hC hP (aT g x true hl) rfl rfl rfl (by simp only [go_sem,simprocAttr,hR,jT,jJ,yV,aJ]) rfl ?_|refine aa hX hC hP (bn outs ((bq g x).getD k 0) tN) rfl rfl rfl (by simp only [go_sem,simprocAttr,hR,jT,jJ,yV,aJ]) rfl ?_);try simp only [go_sem,simprocAttr,hR,jT,jJ,yV,aJ])|((with_reducible refine oD ?_ ?_);kernel_rfl)|((with_reducible intro h);try simp only [go_sem,simprocAttr,hR,jT,jJ,yV,aJ] at h)|omega|intro h)
 refine ag (fun k:Nat=>k≤(bq g x).length∧∀j,j<k→(bq g x).getD j 0∈outs) (fun k=>⟨[(0, .ptr 10000 0),(1,eN x),(2, .d (sI outs)),(8, .d (sI (bq g x))),(9,eN k)], [(10000, .box [eN g.n, .d (sE g.es), .d (sT f.row), .d (sI f.pl)])]⟩) (fun k=>(bq g x).length - k) 0 (by simp) ?_ ?_
 ·(refine Le.of ?_ ?_<;>simp [go_sem,simprocAttr,hR,jT,jJ,yV,aJ])
 rintro k ⟨hk,hg⟩
 rcases Nat.lt_or_ge k (bq g x).length with hlt|hge
 ·have hb:decide ((k:Int)<((bq g x).length:Int))=true:=decide_eq_true (by omega)
  by_cases hin:(bq g x).getD k 0∈outs
  ·have aK:decide ((bq g x).getD k 0∈outs)=true:=decide_eq_true hin
   repeat' (first|refine Rn.p ?_|(with_reducible apply And.intro)|((first|(refine hK _ ?_;clear hK K)|with_reducible intro K hK|refine Rs.p ?_|((with_reducible first|apply oP|apply oQ);exact rfl)|(refine aS hX hC hP [(10000,10000)] (bF g hl f x lX hp1) rfl rfl rfl ?_ ?_ ?_ ?_ ?_ ?_ rfl rfl ?_ ?_;(focus (simp only [go_sem,simprocAttr,hb,aK];done));(iterate 6 (focus (simp [go_sem,simprocAttr,hb,aK];done)));try simp only [List.map_cons,List.map_nil])|refine aa hX hC hP (aT g x true hl) rfl rfl rfl (by simp only [go_sem,simprocAttr,hb,aK]) rfl ?_|refine aa hX hC hP (bn outs ((bq g x).getD k 0) tN) rfl rfl rfl (by simp only [go_sem,simprocAttr,hb,aK]) rfl ?_);try simp only [go_sem,simprocAttr,hb,aK])|((with_reducible refine oD ?_ ?_);kernel_rfl)|((with_reducible intro h);try simp only [go_sem,simprocAttr,hb,aK] at h)|omega|intro h)
   refine ⟨k+1,⟨by omega,fun j hj=> ?_⟩, ?_,by omega⟩
   ·by_cases hjk:j=k
    ·subst hjk;exact hin
    ·exact hg j (by omega)
   ·(refine Le.of ?_ ?_<;>simp [go_sem,simprocAttr,hb,aK])
  ·have aK:decide ((bq g x).getD k 0∈outs)=false:=decide_eq_false hin
   rw [if_pos ⟨_,aO (d:=0) hlt,hin⟩] at EU
   subst EU
   repeat' (first|refine Rn.p ?_|(with_reducible apply And.intro)|((first|(refine hK _ ?_;clear hK K)|with_reducible intro K hK|refine Rs.p ?_|((with_reducible first|apply oP|apply oQ);exact rfl)|(refine aS hX hC hP [(10000,10000)] (bF g hl f x lX hp1) rfl rfl rfl ?_ ?_ ?_ ?_ ?_ ?_ rfl rfl ?_ ?_;(focus (simp only [go_sem,simprocAttr,hb,aK];done));(iterate 6 (focus (simp [go_sem,simprocAttr,hb,aK];done)));try simp only [List.map_cons,List.map_nil])|refine aa hX hC hP (aT g x true hl) rfl rfl rfl (by simp only [go_sem,simprocAttr,hb,aK]) rfl ?_|refine aa hX hC hP (bn outs ((bq g x).getD k 0) tN) rfl rfl rfl (by simp only [go_sem,simprocAttr,hb,aK]) rfl ?_);try simp only [go_sem,simprocAttr,hb,aK])|((with_reducible refine oD ?_ ?_);kernel_rfl)|((with_reducible intro h);try simp only [go_sem,simprocAttr,hb,aK] at h)|omega|intro h)
 have hb:decide ((k:Int)<((bq g x).length:Int))=false:=decide_eq_false (by omega)
 have hsub:∀i∈bq g x,i∈outs:=fun i hi=>by
  obtain ⟨j,hj,rfl⟩:=List.mem_iff_getElem.1 hi
  have:=hg j (by omega)
  rwa [List.getD_eq_getElem?_getD,List.getElem?_eq_getElem hj] at this
 have HB:∀i∈outs,0≤i∧i<g.es.length:=fun i hi=>(gy (we dI hsub hlen i hi)).1
 rw [if_neg (fun ⟨i,h1,h2⟩=>h2 (hsub i h1))] at EU
 subst EU
 clear hk hg hge hsub hP
 repeat' (first|refine Rn.p ?_|(with_reducible apply And.intro)|((first|(refine hK _ ?_;clear hK K)|with_reducible intro K hK|refine Rs.p ?_|((with_reducible first|apply oP|apply oQ);exact rfl)|(refine aS hX hC hP [(10000,10000)] (bF g hl f x lX hp1) rfl rfl rfl ?_ ?_ ?_ ?_ ?_ ?_ rfl rfl ?_ ?_;(focus (simp only [go_sem,simprocAttr,hb];done));(iterate 6 (focus (simp [go_sem,simprocAttr,hb];done)));try simp only [List.map_cons,List.map_nil])|refine aa hX hC hP (aT g x true hl) rfl rfl rfl (by simp only [go_sem,simprocAttr,hb]) rfl ?_|refine aa hX hC hP (bn outs ((bq g x).getD k 0) tN) rfl rfl rfl (by simp only [go_sem,simprocAttr,hb]) rfl ?_);try simp only [go_sem,simprocAttr,hb])|((with_reducible refine oD ?_ ?_);kernel_rfl)|((with_reducible intro h);try simp only [go_sem,simprocAttr,hb] at h)|omega|intro h)
 (refine pJ hX 10 45 72 (by simp only [go_sem,simprocAttr,hb]) rfl (by first|exact .inl rfl|exact .inr rfl) (by decide) ?_;simp only [go_sem,simprocAttr,hb])
 refine ag (fun k:Nat=>k≤outs.length) (fun k=>⟨[(0, .ptr 10000 0),(1,eN x),(2, .d (sI outs)),(11,eN k),(10, .ref 72)], [(10000, .box [eN g.n, .d (sE g.es), .d (sT f.row), .d (sI f.pl)]),(72, .tip 100 3 (((outs.take k).map (mR g x)).map rT))]⟩) (fun k=>outs.length - k) 0 (by omega) ?_ ?_
 ·refine Le.of ?_ ?_<;>simp [go_sem,simprocAttr,hb]
 clear hb
 rintro k hk
 rcases Nat.lt_or_ge k outs.length with hlt|hge
 ·have hb:decide ((k:Int)<(outs.length:Int))=true:=decide_eq_true (by omega)
  have ga:=s4 (f:=mR g x) (d:=0) hlt
  have Kx:=HB _ (aO (d:=0) hlt)
  have hlk:(outs.take k).length=k:=by simp;omega
  repeat' (first|refine Rn.p ?_|(with_reducible apply And.intro)|((first|(refine hK _ ?_;clear hK K)|with_reducible intro K hK|refine Rs.p ?_|((with_reducible first|apply oP|apply oQ);exact rfl)|(refine aS hX hC hP [(10000,10000)] (bF g hl f x lX hp1) rfl rfl rfl ?_ ?_ ?_ ?_ ?_ ?_ rfl rfl ?_ ?_;(focus (simp only [go_sem,simprocAttr,hb,hlk];done));(iterate 6 (focus (simp [go_sem,simprocAttr,hb,hlk];done)));try simp only [List.map_cons,List.map_nil])|refine aa hX hC hP (aT g x true hl) rfl rfl rfl (by simp only [go_sem,simprocAttr,hb,hlk]) rfl ?_|refine aa hX hC hP (bn outs ((bq g x).getD k 0) tN) rfl rfl rfl (by simp only [go_sem,simprocAttr,hb,hlk]) rfl ?_);try simp only [go_sem,simprocAttr,hb,hlk])|((with_reducible refine oD ?_ ?_);kernel_rfl)|((with_reducible intro h);try simp only [go_sem,simprocAttr,hb,hlk] at h)|omega|intro h)
  refine ⟨k+1,by omega, ?_,by omega⟩
  refine Le.of ?_ ?_<;>simp [go_sem,simprocAttr,hb,hlk,ga,mR]
 have hb:decide ((k:Int)<(outs.length:Int))=false:=decide_eq_false (by omega)
 obtain rfl:k=outs.length:=by omega
 have ht:outs.take outs.length=outs:=List.take_of_length_le (by omega)
 clear hk hge
 by_cases h0:outs= []
 ·have hA:bg g x outs= [(-1,x, -1)]:=if_pos h0
  have hb0:decide ((outs.length:Int)=0)=true:=decide_eq_true (by rw [h0];rfl)
  have hm0:(outs.map (mR g x)).map rT= []:=by rw [h0];rfl
  repeat' (first|refine Rn.p ?_|(with_reducible apply And.intro)|((first|(refine hK _ ?_;clear hK K)|with_reducible intro K hK|refine Rs.p ?_|((with_reducible first|apply oP|apply oQ);exact rfl)|(refine aS hX hC hP [(10000,10000)] (bF g hl f x lX hp1) rfl rfl rfl ?_ ?_ ?_ ?_ ?_ ?_ rfl rfl ?_ ?_;(focus (simp only [go_sem,simprocAttr,hb,ht,hb0,hm0,List.nil_append];done));(iterate 6 (focus (simp [go_sem,simprocAttr,hb,ht,hb0,hm0,List.nil_append];done)));try simp only [List.map_cons,List.map_nil])|refine aa hX hC hP (aT g x true hl) rfl rfl rfl (by simp only [go_sem,simprocAttr,hb,ht,hb0,hm0,List.nil_append]) rfl ?_|refine aa hX hC hP (bn outs ((bq g x).getD k 0) tN) rfl rfl rfl (by simp only [go_sem,simprocAttr,hb,ht,hb0,hm0,List.nil_append]) rfl ?_);try simp only [go_sem,simprocAttr,hb,ht,hb0,hm0,List.nil_append])|((with_reducible refine oD ?_ ?_);kernel_rfl)|((with_reducible intro h);try simp only [go_sem,simprocAttr,hb,ht,hb0,hm0,List.nil_append] at h)|omega|intro h)
  (refine pJ hX 10 80 72 (by simp only [go_sem,simprocAttr,hb,ht,hb0,hm0,List.nil_append]) rfl (by first|exact .inl rfl|exact .inr rfl) (by decide) ?_;simp only [go_sem,simprocAttr,hb,ht,hb0,hm0,List.nil_append])
  refine ag (fun k:Nat=>k≤f.row.length) (fun k=>⟨[(0, .ptr 10000 0),(1,eN x),(10, .ref 72),(12,eN (dU f.row x k).1),(13,eN ((dU f.row x k).2.1 - 1)),(14,eN k)], [(10000, .box [eN g.n, .d (sE g.es), .d (sT f.row), .d (sI f.pl)]),(72, .tip 100 3 ((bg g x outs).map rT))]⟩) (fun k=>f.row.length - k) 0 (by omega) ?_ ?_
  ·refine Le.of ?_ ?_<;>simp [go_sem,simprocAttr,hb,ht,hb0,hm0,List.nil_append,dU,hA]
  rintro k hk
  rcases Nat.lt_or_ge k f.row.length with hlt|hge
  ·have hb:decide ((k:Int)<(f.row.length:Int))=true:=decide_eq_true (by omega)
   have hok:=dQ (row:=f.row) (x:=x) k
   have ga:=kz (row:=f.row) (x:=x) (k:=k)
   have tP:(dU f.row x k).1<0↔(dU f.row x k).1= -1:=by
    rcases hok with ⟨h1,_⟩|⟨a,b,c,h1,_⟩
    ·rw [h1];exact ⟨fun _=>rfl,fun _=>by decide⟩
    ·rw [h1];show (a:Int)<0↔(a:Int)= -1;omega
   repeat' (first|refine Rn.p ?_|(with_reducible apply And.intro)|((first|(refine hK _ ?_;clear hK K)|with_reducible intro K hK|refine Rs.p ?_|((with_reducible first|apply oP|apply oQ);exact rfl)|(refine aS hX hC hP [(10000,10000)] (bF g hl f x lX hp1) rfl rfl rfl ?_ ?_ ?_ ?_ ?_ ?_ rfl rfl ?_ ?_;(focus (simp only [go_sem,simprocAttr,hb];done));(iterate 6 (focus (simp [go_sem,simprocAttr,hb];done)));try simp only [List.map_cons,List.map_nil])|refine aa hX hC hP (aT g x true hl) rfl rfl rfl (by simp only [go_sem,simprocAttr,hb]) rfl ?_|refine aa hX hC hP (bn outs ((bq g x).getD k 0) tN) rfl rfl rfl (by simp only [go_sem,simprocAttr,hb]) rfl ?_);try simp only [go_sem,simprocAttr,hb])|((with_reducible refine oD ?_ ?_);kernel_rfl)|((with_reducible intro h);try simp only [go_sem,simprocAttr,hb] at h)|omega|intro h)
   all_goals (try rw [tP] at*)
   all_goals (first|rw [if_neg (by assumption)] at ga|(rw [if_pos (by assumption)] at ga;first|rw [if_pos (by assumption)] at ga|rw [if_neg (by assumption)] at ga))
   all_goals (refine ⟨k+1,by omega, ?_,by omega⟩;refine Le.of ?_ ?_<;>simp [go_sem,simprocAttr,hb,ga])
  have hb:decide ((k:Int)<(f.row.length:Int))=false:=decide_eq_false (by omega)
  obtain rfl:k=f.row.length:=by omega
  clear hk hge
  have htr:List.take f.row.length (f.row.map rT)=f.row.map rT:=List.take_of_length_le (by simp)
  have BO:=nv (g:=g) (x:=x) (outs:=outs)
  rcases dQ (row:=f.row) (x:=x) f.row.length with ⟨hs,_⟩|⟨a,b,c,hs,hab,z7,_⟩
  ·have hS:aD g f x outs=(([],0),⟨bg g x outs++f.row,f.pl++ [x]⟩):=by
    have e:b8 f.row x=(-1,0,0):=hs
    unfold aD
    rw [e];simp;exact .inl (by decide)
   repeat' (first|(show cG _ .ret _ _;(try simp only [go_sem,simprocAttr,hb,hs,hS,htr,List.map_append,List.map_cons,List.map_nil,rI,List.length_append,List.length_map,List.length_take,List.length_drop]);(refine dM hX 113 rfl ?_;simp only [go_sem,simprocAttr,hb,hs,hS,htr,List.map_append,List.map_cons,List.map_nil,rI,List.length_append,List.length_map,List.length_take,List.length_drop]);first|(refine dM hX 124 rfl ?_;simp only [go_sem,simprocAttr,hb,hs,hS,htr,List.map_append,List.map_cons,List.map_nil,rI,List.length_append,List.length_map,List.length_take,List.length_drop])|(refine dM hX 156 rfl ?_;simp only [go_sem,simprocAttr,hb,hs,hS,htr,List.map_append,List.map_cons,List.map_nil,rI,List.length_append,List.length_map,List.length_take,List.length_drop]))|refine Rn.p ?_|(with_reducible apply And.intro)|((first|(refine hK _ ?_;clear hK K)|with_reducible intro K hK|refine Rs.p ?_|((with_reducible first|apply oP|apply oQ);exact rfl)|(refine aS hX hC hP [(10000,10000)] (bF g hl f x lX hp1) rfl rfl rfl ?_ ?_ ?_ ?_ ?_ ?_ rfl rfl ?_ ?_;(focus (simp only [go_sem,simprocAttr,hb,hs,hS,htr,List.map_append,List.map_cons,List.map_nil,rI,List.length_append,List.length_map,List.length_take,List.length_drop];done));(iterate 6 (focus (simp [go_sem,simprocAttr,hb,hs,hS,htr,List.map_append,List.map_cons,List.map_nil,rI,List.length_append,List.length_map,List.length_take,List.length_drop];done)));try simp only [List.map_cons,List.map_nil])|refine aa hX hC hP (aT g x true hl) rfl rfl rfl (by simp only [go_sem,simprocAttr,hb,hs,hS,htr,List.map_append,List.map_cons,List.map_nil,rI,List.length_append,List.length_map,List.length_take,List.length_drop]) rfl ?_|refine aa hX hC hP (bn outs ((bq g x).getD k 0) tN) rfl rfl rfl (by simp only [go_sem,simprocAttr,hb,hs,hS,htr,List.map_append,List.map_cons,List.map_nil,rI,List.length_append,List.length_map,List.length_take,List.length_drop]) rfl ?_);try simp only [go_sem,simprocAttr,hb,hs,hS,htr,List.map_append,List.map_cons,List.map_nil,rI,List.length_append,List.length_map,List.length_take,List.length_drop])|((with_reducible refine oD ?_ ?_);kernel_rfl)|((with_reducible intro h);try simp only [go_sem,simprocAttr,hb,hs,hS,htr,List.map_append,List.map_cons,List.map_nil,rI,List.length_append,List.length_map,List.length_take,List.length_drop] at h)|omega|intro h)
  ·have hS:aD g f x outs=(((f.row.take b).drop a,0),⟨f.row.take a++bg g x outs++f.row.drop b,f.pl++ [x]⟩):=by
    have e:b8 f.row x=((a:Int),(b:Int),(c:Int)):=hs
    unfold aD
    rw [e]
    have e1:(max (a:Int) 0).toNat=a:=by omega
    simp only [e1,Int.toNat_natCast]
   have mQ:((b:Int) - 1+1)=b:=by omega
   repeat' (first|(show cG _ .ret _ _;(try simp only [go_sem,simprocAttr,hb,hs,hS,mQ,htr,List.map_append,List.map_cons,List.map_nil,List.map_take,List.map_drop,rI,List.length_append,List.length_map,List.length_take,List.length_drop]);(refine dM hX 113 rfl ?_;simp only [go_sem,simprocAttr,hb,hs,hS,mQ,htr,List.map_append,List.map_cons,List.map_nil,List.map_take,List.map_drop,rI,List.length_append,List.length_map,List.length_take,List.length_drop]);first|(refine dM hX 124 rfl ?_;simp only [go_sem,simprocAttr,hb,hs,hS,mQ,htr,List.map_append,List.map_cons,List.map_nil,List.map_take,List.map_drop,rI,List.length_append,List.length_map,List.length_take,List.length_drop])|(refine dM hX 156 rfl ?_;simp only [go_sem,simprocAttr,hb,hs,hS,mQ,htr,List.map_append,List.map_cons,List.map_nil,List.map_take,List.map_drop,rI,List.length_append,List.length_map,List.length_take,List.length_drop]))|refine Rn.p ?_|(with_reducible apply And.intro)|((first|(refine hK _ ?_;clear hK K)|with_reducible intro K hK|refine Rs.p ?_|((with_reducible first|apply oP|apply oQ);exact rfl)|(refine aS hX hC hP [(10000,10000)] (bF g hl f x lX hp1) rfl rfl rfl ?_ ?_ ?_ ?_ ?_ ?_ rfl rfl ?_ ?_;(focus (simp only [go_sem,simprocAttr,hb,hs,hS,mQ,htr,List.map_append,List.map_cons,List.map_nil,List.map_take,List.map_drop,rI,List.length_append,List.length_map,List.length_take,List.length_drop];done));(iterate 6 (focus (simp [go_sem,simprocAttr,hb,hs,hS,mQ,htr,List.map_append,List.map_cons,List.map_nil,List.map_take,List.map_drop,rI,List.length_append,List.length_map,List.length_take,List.length_drop];done)));try simp only [List.map_cons,List.map_nil])|refine aa hX hC hP (aT g x true hl) rfl rfl rfl (by simp only [go_sem,simprocAttr,hb,hs,hS,mQ,htr,List.map_append,List.map_cons,List.map_nil,List.map_take,List.map_drop,rI,List.length_append,List.length_map,List.length_take,List.length_drop]) rfl ?_|refine aa hX hC hP (bn outs ((bq g x).getD k 0) tN) rfl rfl rfl (by simp only [go_sem,simprocAttr,hb,hs,hS,mQ,htr,List.map_append,List.map_cons,List.map_nil,List.map_take,List.map_drop,rI,List.length_append,List.length_map,List.length_take,List.length_drop]) rfl ?_);try simp only [go_sem,simprocAttr,hb,hs,hS,mQ,htr,List.map_append,List.map_cons,List.map_nil,List.map_take,List.map_drop,rI,List.length_append,List.length_map,List.length_take,List.length_drop])|((with_reducible refine oD ?_ ?_);kernel_rfl)|((with_reducible intro h);try simp only [go_sem,simprocAttr,hb,hs,hS,mQ,htr,List.map_append,List.map_cons,List.map_nil,List.map_take,List.map_drop,rI,List.length_append,List.length_map,List.length_take,List.length_drop] at h)|omega|intro h)
 ·have hA:bg g x outs=outs.map (mR g x):=if_neg h0
  have hb0:decide ((outs.length:Int)=0)=false:=decide_eq_false fun h=>h0 (List.eq_nil_of_length_eq_zero (by omega))
  repeat' (first|refine Rn.p ?_|(with_reducible apply And.intro)|((first|(refine hK _ ?_;clear hK K)|with_reducible intro K hK|refine Rs.p ?_|((with_reducible first|apply oP|apply oQ);exact rfl)|(refine aS hX hC hP [(10000,10000)] (bF g hl f x lX hp1) rfl rfl rfl ?_ ?_ ?_ ?_ ?_ ?_ rfl rfl ?_ ?_;(focus (simp only [go_sem,simprocAttr,hb,ht,hb0];done));(iterate 6 (focus (simp [go_sem,simprocAttr,hb,ht,hb0];done)));try simp only [List.map_cons,List.map_nil])|refine aa hX hC hP (aT g x true hl) rfl rfl rfl (by simp only [go_sem,simprocAttr,hb,ht,hb0]) rfl ?_|refine aa hX hC hP (bn outs ((bq g x).getD k 0) tN) rfl rfl rfl (by simp only [go_sem,simprocAttr,hb,ht,hb0]) rfl ?_);try simp only [go_sem,simprocAttr,hb,ht,hb0])|((with_reducible refine oD ?_ ?_);kernel_rfl)|((with_reducible intro h);try simp only [go_sem,simprocAttr,hb,ht,hb0] at h)|omega|intro h)
  refine ag (fun k:Nat=>k≤f.row.length) (fun k=>⟨[(0, .ptr 10000 0),(1,eN x),(10, .ref 72),(12,eN (dU f.row x k).1),(13,eN ((dU f.row x k).2.1 - 1)),(14,eN k)], [(10000, .box [eN g.n, .d (sE g.es), .d (sT f.row), .d (sI f.pl)]),(72, .tip 100 3 ((bg g x outs).map rT))]⟩) (fun k=>f.row.length - k) 0 (by omega) ?_ ?_
  ·refine Le.of ?_ ?_<;>simp [go_sem,simprocAttr,hb,ht,hb0,dU,hA]
  rintro k hk
  rcases Nat.lt_or_ge k f.row.length with hlt|hge
  ·have hb:decide ((k:Int)<(f.row.length:Int))=true:=decide_eq_true (by omega)
   have hok:=dQ (row:=f.row) (x:=x) k
   have ga:=kz (row:=f.row) (x:=x) (k:=k)
   have tP:(dU f.row x k).1<0↔(dU f.row x k).1= -1:=by
    rcases hok with ⟨h1,_⟩|⟨a,b,c,h1,_⟩
    ·rw [h1];exact ⟨fun _=>rfl,fun _=>by decide⟩
    ·rw [h1];show (a:Int)<0↔(a:Int)= -1;omega
   repeat' (first|refine Rn.p ?_|(with_reducible apply And.intro)|((first|(refine hK _ ?_;clear hK K)|with_reducible intro K hK|refine Rs.p ?_|((with_reducible first|apply oP|apply oQ);exact rfl)|(refine aS hX hC hP [(10000,10000)] (bF g hl f x lX hp1) rfl rfl rfl ?_ ?_ ?_ ?_ ?_ ?_ rfl rfl ?_ ?_;(focus (simp only [go_sem,simprocAttr,hb];done));(iterate 6 (focus (simp [go_sem,simprocAttr,hb];done)));try simp only [List.map_cons,List.map_nil])|refine aa hX hC hP (aT g x true hl) rfl rfl rfl (by simp only [go_sem,simprocAttr,hb]) rfl ?_|refine aa hX hC hP (bn outs ((bq g x).getD k 0) tN) rfl rfl rfl (by simp only [go_sem,simprocAttr,hb]) rfl ?_);try simp only [go_sem,simprocAttr,hb])|((with_reducible refine oD ?_ ?_);kernel_rfl)|((with_reducible intro h);try simp only [go_sem,simprocAttr,hb] at h)|omega|intro h)
   all_goals (try rw [tP] at*)
   all_goals (first|rw [if_neg (by assumption)] at ga|(rw [if_pos (by assumption)] at ga;first|rw [if_pos (by assumption)] at ga|rw [if_neg (by assumption)] at ga))
   all_goals (refine ⟨k+1,by omega, ?_,by omega⟩;refine Le.of ?_ ?_<;>simp [go_sem,simprocAttr,hb,ga])
  have hb:decide ((k:Int)<(f.row.length:Int))=false:=decide_eq_false (by omega)
  obtain rfl:k=f.row.length:=by omega
  clear hk hge
  have htr:List.take f.row.length (f.row.map rT)=f.row.map rT:=List.take_of_length_le (by simp)
  have BO:=nv (g:=g) (x:=x) (outs:=outs)
  rcases dQ (row:=f.row) (x:=x) f.row.length with ⟨hs,_⟩|⟨a,b,c,hs,hab,z7,_⟩
  ·have hS:aD g f x outs=(([],0),⟨bg g x outs++f.row,f.pl++ [x]⟩):=by
    have e:b8 f.row x=(-1,0,0):=hs
    unfold aD
    rw [e];simp;exact .inl (by decide)
   repeat' (first|(show cG _ .ret _ _;(try simp only [go_sem,simprocAttr,hb,hs,hS,htr,List.map_append,List.map_cons,List.map_nil,rI,List.length_append,List.length_map,List.length_take,List.length_drop]);(refine dM hX 113 rfl ?_;simp only [go_sem,simprocAttr,hb,hs,hS,htr,List.map_append,List.map_cons,List.map_nil,rI,List.length_append,List.length_map,List.length_take,List.length_drop]);first|(refine dM hX 124 rfl ?_;simp only [go_sem,simprocAttr,hb,hs,hS,htr,List.map_append,List.map_cons,List.map_nil,rI,List.length_append,List.length_map,List.length_take,List.length_drop])|(refine dM hX 156 rfl ?_;simp only [go_sem,simprocAttr,hb,hs,hS,htr,List.map_append,List.map_cons,List.map_nil,rI,List.length_append,List.length_map,List.length_take,List.length_drop]))|refine Rn.p ?_|(with_reducible apply And.intro)|((first|(refine hK _ ?_;clear hK K)|with_reducible intro K hK|refine Rs.p ?_|((with_reducible first|apply oP|apply oQ);exact rfl)|(refine aS hX hC hP [(10000,10000)] (bF g hl f x lX hp1) rfl rfl rfl ?_ ?_ ?_ ?_ ?_ ?_ rfl rfl ?_ ?_;(focus (simp only [go_sem,simprocAttr,hb,hs,hS,htr,List.map_append,List.map_cons,List.map_nil,rI,List.length_append,List.length_map,List.length_take,List.length_drop];done));(iterate 6 (focus (simp [go_sem,simprocAttr,hb,hs,hS,htr,List.map_append,List.map_cons,List.map_nil,rI,List.length_append,List.length_map,List.length_take,List.length_drop];done)));try simp only [List.map_cons,List.map_nil])|refine aa hX hC hP (aT g x true hl) rfl rfl rfl (by simp only [go_sem,simprocAttr,hb,hs,hS,htr,List.map_append,List.map_cons,List.map_nil,rI,List.length_append,List.length_map,List.length_take,List.length_drop]) rfl ?_|refine aa hX hC hP (bn outs ((bq g x).getD k 0) tN) rfl rfl rfl (by simp only [go_sem,simprocAttr,hb,hs,hS,htr,List.map_append,List.map_cons,List.map_nil,rI,List.length_append,List.length_map,List.length_take,List.length_drop]) rfl ?_);try simp only [go_sem,simprocAttr,hb,hs,hS,htr,List.map_append,List.map_cons,List.map_nil,rI,List.length_append,List.length_map,List.length_take,List.length_drop])|((with_reducible refine oD ?_ ?_);kernel_rfl)|((with_reducible intro h);try simp only [go_sem,simprocAttr,hb,hs,hS,htr,List.map_append,List.map_cons,List.map_nil,rI,List.length_append,List.length_map,List.length_take,List.length_drop] at h)|omega|intro h)
  ·have hS:aD g f x outs=(((f.row.take b).drop a,0),⟨f.row.take a++bg g x outs++f.row.drop b,f.pl++ [x]⟩):=by
    have e:b8 f.row x=((a:Int),(b:Int),(c:Int)):=hs
    unfold aD
    rw [e]
    have e1:(max (a:Int) 0).toNat=a:=by omega
    simp only [e1,Int.toNat_natCast]
   have mQ:((b:Int) - 1+1)=b:=by omega
   repeat' (first|(show cG _ .ret _ _;(try simp only [go_sem,simprocAttr,hb,hs,hS,mQ,htr,List.map_append,List.map_cons,List.map_nil,List.map_take,List.map_drop,rI,List.length_append,List.length_map,List.length_take,List.length_drop]);(refine dM hX 113 rfl ?_;simp only [go_sem,simprocAttr,hb,hs,hS,mQ,htr,List.map_append,List.map_cons,List.map_nil,List.map_take,List.map_drop,rI,List.length_append,List.length_map,List.length_take,List.length_drop]);first|(refine dM hX 124 rfl ?_;simp only [go_sem,simprocAttr,hb,hs,hS,mQ,htr,List.map_append,List.map_cons,List.map_nil,List.map_take,List.map_drop,rI,List.length_append,List.length_map,List.length_take,List.length_drop])|(refine dM hX 156 rfl ?_;simp only [go_sem,simprocAttr,hb,hs,hS,mQ,htr,List.map_append,List.map_cons,List.map_nil,List.map_take,List.map_drop,rI,List.length_append,List.length_map,List.length_take,List.length_drop]))|refine Rn.p ?_|(with_reducible apply And.intro)|((first|(refine hK _ ?_;clear hK K)|with_reducible intro K hK|refine Rs.p ?_|((with_reducible first|apply oP|apply oQ);exact rfl)|(refine aS hX hC hP [(10000,10000)] (bF g hl f x lX hp1) rfl rfl rfl ?_ ?_ ?_ ?_ ?_ ?_ rfl rfl ?_ ?_;(focus (simp only [go_sem,simprocAttr,hb,hs,hS,mQ,htr,List.map_append,List.map_cons,List.map_nil,List.map_take,List.map_drop,rI,List.length_append,List.length_map,List.length_take,List.length_drop];done));(iterate 6 (focus (simp [go_sem,simprocAttr,hb,hs,hS,mQ,htr,List.map_append,List.map_cons,List.map_nil,List.map_take,List.map_drop,rI,List.length_append,List.length_map,List.length_take,List.length_drop];done)));try simp only [List.map_cons,List.map_nil])|refine aa hX hC hP (aT g x true hl) rfl rfl rfl (by simp only [go_sem,simprocAttr,hb,hs,hS,mQ,htr,List.map_append,List.map_cons,List.map_nil,List.map_take,List.map_drop,rI,List.length_append,List.length_map,List.length_take,List.length_drop]) rfl ?_|refine aa hX hC hP (bn outs ((bq g x).getD k 0) tN) rfl rfl rfl (by simp only [go_sem,simprocAttr,hb,hs,hS,mQ,htr,List.map_append,List.map_cons,List.map_nil,List.map_take,List.map_drop,rI,List.length_append,List.length_map,List.length_take,List.length_drop]) rfl ?_);try simp only [go_sem,simprocAttr,hb,hs,hS,mQ,htr,List.map_append,List.map_cons,List.map_nil,List.map_take,List.map_drop,rI,List.length_append,List.length_map,List.length_take,List.length_drop])|((with_reducible refine oD ?_ ?_);kernel_rfl)|((with_reducible intro h);try simp only [go_sem,simprocAttr,hb,hs,hS,mQ,htr,List.map_append,List.map_cons,List.map_nil,List.map_take,List.map_drop,rI,List.length_append,List.length_map,List.length_take,List.length_drop] at h)|omega|intro h)
end Go.Ab
end
section
namespace Go.Ab
open Go.Proofs
attribute [local congr] ACall.congr gd.congr Nx.congr
set_option maxRecDepth 10000
set_option maxHeartbeats 4000000
def vI (ls:List (List Int)):List (List D):=ls.map fun l=> [sI l]
theorem vI_length {ls:List (List Int)} :(vI ls).length=ls.length:=by simp [vI]
theorem AF {ls:List (List Int)} {k:Nat} (h:k<ls.length) (d:List D):(vI ls).getD k d= [sI (ls.getD k [])]:=by
 simp [vI,List.getD_eq_getElem?_getD,List.getElem?_eq_getElem h]
attribute [go_sem] vI_length
def AG (l:List Int) (i:Nat):List Int:=l.take i++l.drop (i+1)
def FN:Nat→List Int→List (List Int)
 |0,_=> [[]]
 |n+1,l=>(List.range l.length).flatMap fun i=>(FN n (AG l i)).map fun t=>l.getD i 0::t
def OR (n:Nat) (l:List Int) (k:Nat):List (List Int):=(List.range k).flatMap fun i=>(FN n (AG l i)).map fun t=>l.getD i 0::t
def OS:Nat→Nat
 |0=>1
 |n+1=>(n+1)*OS n
end Go.Ab
end
section
namespace Go.Ab
open Go.Proofs
attribute [local congr] ACall.congr gd.congr Nx.congr
set_option maxRecDepth 10000
set_option maxHeartbeats 8000000
def JH (g:Gr):Nat→Fr→Bool
 |0,f=>decide ((f.pl.length:Int)=g.n)
 |m+1,f=>decide ((f.pl.length:Int)=g.n)||(List.range g.n.toNat).any fun x=>aC g f (x:Int)&&(FN (bq g (x:Int)).length (bq g (x:Int))).any fun o=>JH g m (aD g f (x:Int) o).2
def OU (g:Gr) (m:Nat) (f:Fr) (x:Nat):Bool:=aC g f (x:Int)&&(FN (bq g (x:Int)).length (bq g (x:Int))).any fun o=>JH g m (aD g f (x:Int) o).2
theorem BP {g:Gr} {f:Fr} {x:Int} {o:List Int} :(aD g f x o).2.row.length≤f.row.length+o.length+1∧(aD g f x o).2.pl.length=f.pl.length+1:=by
 obtain ⟨a,b,ha,hb,hab,z7⟩:=BN f.row x
 have:=nv (g:=g) (x:=x) (outs:=o)
 have e:aD g f x o=(((f.row.take b).drop a,0),⟨f.row.take a++bg g x o++f.row.drop b,f.pl++ [x]⟩):=by
  simp only [aD,ha,hb,Int.toNat_natCast]
 rw [e]
 refine ⟨?_,by simp⟩
 show (f.row.take a++bg g x o++f.row.drop b).length≤_
 rw [List.length_append,List.length_append,List.length_take,List.length_drop]
 omega
end Go.Ab
end
section
namespace Go.Ab
open Go.Proofs
attribute [local congr] ACall.congr gd.congr Nx.congr
set_option maxRecDepth 10000
set_option maxHeartbeats 4000000
theorem s7 (g:Gr) (hl:g.es.length≤9223372036854775807) (hm:aY g=false):Spec Tryz.prog 104 (Args [eG g]) [] (.tup [eN (gj g).1,eN (gj g).2.1, .d (sI (gj g).2.2)]) []:=by
 (refine Spec.hd (C:=T.cfg [] []) (rs:= [.t 2, .t 3, .t 4]) (T.ai _ _) Tryz.func104 rfl rfl Tryz.ntmps104 Tryz.results104 (by simp [AObj.isNest]) (by simp [AObj.isNest]) (by kernel_rfl) T.mixed fun X hX hP hC aF bY=> ?_)
 repeat' (first|refine Rn.p ?_|(with_reducible apply And.intro)|((first|(refine hK _ ?_;clear hK K)|with_reducible intro K hK|refine Rs.p ?_|((with_reducible first|apply oP|apply oQ);exact rfl)|refine aa hX hC hP (cW g hl) rfl rfl rfl (by simp only [go_sem,simprocAttr,hm]) rfl ?_);try simp only [go_sem,simprocAttr,hm])|((with_reducible refine oD ?_ ?_);kernel_rfl)|((with_reducible intro h);try simp only [go_sem,simprocAttr,hm] at h)|omega|intro h)
 all_goals simp [gj,gD,hm]
theorem s8 (g:Gr) (hl:g.es.length≤9223372036854775807):Spec Tryz.prog 104 (Args [eG g]) [] (.tup [eN (gj g).1,eN (gj g).2.1, .d (sI (gj g).2.2)]) []:=by
 cases hm:aY g with
 |false=>exact s7 g hl hm
 |true=>exact mP g (by have:=bM hm;omega)
theorem aW (g:Gr) (hl:g.es.length≤9223372036854775807):Spec Tryz.prog 52 (Args [eG g]) [] (eB (decide ((cR g).1=0))) []:=by
 rw [DK]
 (refine Spec.hd (C:=T.cfg [] []) (rs:= [.t 2]) (T.ai _ _) Tryz.func52 rfl rfl Tryz.ntmps52 Tryz.results52 (by simp [AObj.isNest]) (by simp [AObj.isNest]) (by kernel_rfl) T.mixed fun X hX hP hC aF bY=> ?_)
 repeat' (first|refine Rn.p ?_|(with_reducible apply And.intro)|((first|(refine hK _ ?_;clear hK K)|with_reducible intro K hK|refine Rs.p ?_|((with_reducible first|apply oP|apply oQ);exact rfl)|refine aa hX hC hP (s8 g hl) rfl rfl rfl (by simp only [go_sem,simprocAttr]) rfl ?_);try simp only [go_sem,simprocAttr])|((with_reducible refine oD ?_ ?_);kernel_rfl)|((with_reducible intro h);try simp only [go_sem,simprocAttr] at h)|omega|intro h)
end Go.Ab
end
section
namespace Go.Ab
open Go.Proofs
attribute [local congr] ACall.congr gd.congr Nx.congr
set_option maxRecDepth 10000
set_option maxHeartbeats 4000000
def g9:Gr:=⟨3, [(0,1),(0,2),(1,2)]⟩
def Qz:Fr:=⟨[], []⟩
def QA:Fr:=⟨[(0,0,1),(1,0,2)], [0]⟩
def QB:Fr:=⟨[(2,1,2),(1,0,2)], [0,1]⟩
def QC:Fr:=⟨[(-1,2, -1)], [0,1,2]⟩
end Go.Ab
end
section
namespace Go.Ab
open Go.Proofs
set_option maxRecDepth 10000
def BQ (g:Gr) (t:It):Prop:=(t.1= -1∧t.2.2= -1)∨(0≤t.1∧t.1<g.es.length∧t.2.1=(g.es.getD t.1.toNat (0,0)).1∧t.2.2=(g.es.getD t.1.toNat (0,0)).2)
structure iL (g:Gr) (f:Fr):Prop where
 it:∀t∈f.row,BQ g t
 pl:f.pl.Nodup
 zm:∀x∈f.pl,0≤x∧x<g.n
theorem jK {row:List It} {x:Int} :∀k:Nat,(dU row x k).2.2=fG row x k
 |0=>rfl
 |k+1=>by
  rw [kz,eD]
  split
  ·show (dU row x k).2.2+1=_
   rw [jK k]
  ·exact jK k
theorem pT {row:List It} {x:Int} {j:Nat} :∀d:Nat,fG row x j≤fG row x (j+d)
 |0=>Int.le_refl _
 |d+1=>by
  have:=pT (row:=row) (x:=x) (j:=j) d
  rw [← Nat.add_assoc,eD]
  split<;>omega
theorem jL {row:List It} {x:Int} :∀ {k:Nat},(∀j,j<k→(row.getD j (0,0,0)).2.2≠x)→fG row x k=0
 |0,_=>rfl
 |k+1,h=>by
  rw [eD,if_neg (h k (by omega))]
  exact jL fun j hj=>h j (by omega)
theorem pU {row:List It} {x:Int} {b:Nat} :∀ {d:Nat},(∀j,b≤j→j<b+d→(row.getD j (0,0,0)).2.2≠x)→fG row x (b+d)=fG row x b
 |0,_=>rfl
 |d+1,h=>by
  rw [← Nat.add_assoc,eD,if_neg (h (b+d) (by omega) (by omega))]
  exact pU fun j h1 h2=>h j h1 (by omega)
theorem mw {f:Edge→Int} {g:Gr} {x:Int} (h0:0≤x) (h1:x<g.n):v8 f g x=aX f g.es g.es.length x:=if_pos ⟨h0,h1⟩
theorem pV {g:Gr} {e:Int} (h0:0≤e) (h1:e<g.es.length):0<bA g (g.es.getD e.toNat (0,0)).2:=by
 refine List.length_pos_iff.2 fun h=> ?_
 have hm:e∈aX (·.2) g.es g.es.length (g.es.getD e.toNat (0,0)).2:=by
  simp only [aX,List.mem_map,List.mem_filter,List.mem_range,decide_eq_true_eq]
  exact ⟨e.toNat,⟨by omega,rfl⟩,by simp;omega⟩
 rw [h] at hm;cases hm
theorem uF {row:List It} {p:It→Bool} {a b:Nat} (hb:b≤row.length):((row.take b).drop a).any p=true↔∃j,a≤j∧j<b∧p (row.getD j (0,0,0))=true:=by
 rw [List.any_eq_true]
 constructor
 ·rintro ⟨t,ht,hp⟩
  obtain ⟨k,hk,rfl⟩:=List.mem_iff_getElem.1 ht
  simp only [List.length_drop,List.length_take] at hk
  refine ⟨a+k,by omega,by omega, ?_⟩
  rw [List.getD_eq_getElem?_getD,List.getElem?_eq_getElem (show a+k<row.length by omega)]
  simpa using hp
 ·rintro ⟨j,h1,h2,hp⟩
  rw [List.getD_eq_getElem?_getD,List.getElem?_eq_getElem (show j<row.length by omega)] at hp
  refine ⟨row[j], ?_,hp⟩
  refine List.mem_iff_getElem.2 ⟨j - a,by simp;omega, ?_⟩
  simp only [List.getElem_drop,List.getElem_take]
  congr 1;omega
theorem BQ.head {g:Gr} (hm:aY g=true) {t:It} (h:BQ g t):(0≤t.1↔t.2.2≠ -1)∧ -1≤t.2.2:=by
 rcases h with ⟨h1,h2⟩|⟨h1,h2,_,h4⟩
 ·omega
 ·obtain ⟨_,h5,_⟩:=dZ hm (k:=t.1.toNat) (by omega)
  omega
theorem s9 {g:Gr} (hm:aY g=true) {f:Fr} (hi:iL g f) (x:Int):lN g f x=aC g f x:=by
 by_cases hx:x<0∨g.n≤x∨x∈f.pl
 ·rw [lN,aC,if_pos hx,if_pos hx]
 rw [lN,aC,if_neg hx,if_neg hx]
 have hx0:0≤x∧x<g.n:=by
  constructor
  ·exact Int.not_lt.1 fun h=>hx (.inl h)
  ·exact Int.not_le.1 fun h=>hx (.inr (.inl h))
 have hmem:∀j,j<f.row.length→BQ g (f.row.getD j (0,0,0)):=fun j hj=>hi.it _ (aO hj)
 rw [mw hx0.1 hx0.2]
 have hN:(aX (fun e=>e.2) g.es g.es.length x).length=bA g x:=rfl
 rw [hN]
 have HC:(b8 f.row x).2.2=fG f.row x f.row.length:=jK _
 by_cases h0:bA g x=0
 ·rw [if_pos h0,h0,decide_eq_true rfl,Bool.true_or,Bool.and_true,decide_eq_true_eq,HC,jL]
  ·rfl
  ·intro j hj he
   rcases hmem j hj with ⟨_,h2⟩|⟨h1,h2,_,h4⟩
   ·omega
   ·have:=pV h1 h2
    rw [← h4,he] at this
    omega
 ·rw [if_neg h0,decide_eq_false h0,Bool.false_or,HC]
  generalize bA g x=need at h0
  rcases dQ (row:=f.row) (x:=x) f.row.length with ⟨hs,hno⟩|⟨a,b,c,hs,hab,z7,hc0,gY,ha,hb,hlo,hhi⟩
  ·rw [jL hno]
   have e1:decide ((0:Int)=(need:Int))=false:=decide_eq_false (by omega)
   rw [e1,Bool.false_and,Bool.and_false]
  ·have hs':b8 f.row x=((a:Int),(b:Int),(c:Int)):=hs
   have E3:fG f.row x f.row.length=c:=by rw [← HC,hs']
   rw [hs',E3]
   simp only [Int.toNat_natCast]
   rw [Bool.and_comm]
   by_cases Ko:¬(c:Int)=need
   ·rw [decide_eq_false Ko,Bool.and_false,Bool.and_false]
   rw [Decidable.not_not] at Ko
   rw [decide_eq_true Ko,Bool.and_true,Bool.and_true,uE]
   congr 1
   rw [Bool.eq_iff_iff,uF z7,List.any_eq_true]
   have ma:fG f.row x a=0:=jL hlo
   have QD:fG f.row x (a+1)=1:=by rw [eD,if_pos ha,ma];rfl
   have mb:fG f.row x b=need:=by
    have h:=pU (row:=f.row) (x:=x) (b:=b) (d:=f.row.length - b) fun j h1 h2=>hhi j h1 (by omega)
    rw [show b+(f.row.length - b)=f.row.length by omega,E3] at h
    omega
   have QE:fG f.row x (b - 1)+1=need:=by
    have h:=eD (row:=f.row) (x:=x) (k:=b - 1)
    rw [if_pos hb,show b - 1+1=b by omega,mb] at h
    omega
   constructor
   ·rintro ⟨j,h1,h2,hp⟩
    simp only [pS,Bool.and_eq_true,decide_eq_true_eq] at hp
    have hja:j≠a:=fun e=>hp.1 (by rw [e];exact ha)
    have hjb:j≠b - 1:=fun e=>hp.1 (by rw [e];exact hb)
    have g1:=pT (row:=f.row) (x:=x) (j:=a+1) (j - (a+1))
    rw [show a+1+(j - (a+1))=j by omega] at g1
    have g2:=pT (row:=f.row) (x:=x) (j:=j) (b - 1 - j)
    rw [show j+(b - 1 - j)=b - 1 by omega] at g2
    exact ⟨j,List.mem_range.2 (by omega),mu.2 ⟨⟨hp.1,((hmem j (by omega)).head hm).1.2 hp.2⟩,by omega,by omega⟩⟩
   ·rintro ⟨j,hj,hl⟩
    have hj:=List.mem_range.1 hj
    obtain ⟨⟨h1,h2⟩,h3,h4⟩:=mu.1 hl
    refine ⟨j, ?_, ?_, ?_⟩
    ·refine Nat.not_lt.1 fun h=> ?_
     have:=jL (row:=f.row) (x:=x) (k:=j) fun i hi=>hlo i (by omega)
     omega
    ·refine Nat.not_le.1 fun h=> ?_
     have:=pU (row:=f.row) (x:=x) (b:=b) (d:=j - b) fun i h1 h2=>hhi i h1 (by omega)
     rw [show b+(j - b)=j by omega] at this
     omega
    ·simp only [pS,Bool.and_eq_true,decide_eq_true_eq]
     exact ⟨h1,((hmem j hj).head hm).1.1 h2⟩
theorem wg:∀ {ms os:List Int},ms.Nodup→(∀i∈ms,i∈os)→os.length=ms.length→os.Perm ms
 | [],os,_,_,hl=>by
   have h:os= []:=List.eq_nil_of_length_eq_zero (by simpa using hl)
   rw [h]
 |m::ms,os,hn,hs,hl=>by
  rw [List.nodup_cons] at hn
  have hm:=hs m (List.mem_cons_self ..)
  refine (List.perm_cons_erase hm).trans (List.Perm.cons m (wg hn.2 (fun j hj=> ?_) ?_))
  ·have:j≠m:=fun e=>hn.1 (e ▸ hj)
   exact (List.mem_erase_of_ne this).2 (hs j (List.mem_cons_of_mem _ hj))
  ·rw [List.length_erase_of_mem hm,hl];simp
theorem aR {g:Gr} {f:Fr} {x:Int} (h:aC g f x=true):0≤x∧x<g.n∧x∉f.pl:=by
 unfold aC at h
 by_cases hx:x<0∨g.n≤x∨x∈f.pl
 ·rw [if_pos hx] at h;cases h
 ·exact ⟨Int.not_lt.1 fun h=>hx (.inl h),Int.not_le.1 fun h=>hx (.inr (.inl h)),fun h=>hx (.inr (.inr h))⟩
theorem D7 {g:Gr} {x:Int} {outs:List Int} (ho:∀i∈outs,i∈bq g x):∀t∈bg g x outs,BQ g t:=by
 intro t ht
 unfold bg at ht
 split at ht
 ·rw [List.mem_singleton] at ht
  rw [ht];exact .inl ⟨rfl,rfl⟩
 ·obtain ⟨i,hi,rfl⟩:=List.mem_map.1 ht
  obtain ⟨⟨h1,h2⟩,h3⟩:=gy (ho i hi)
  exact .inr ⟨h1,h2,h3.symm,rfl⟩
theorem D8 {g:Gr} {f:Fr} (hi:iL g f) {x:Int} (hR:aC g f x=true) {outs:List Int} (ho:∀i∈outs,i∈bq g x):iL g (aD g f x outs).2:=by
 obtain ⟨h0,h1,h2⟩:=aR hR
 refine ⟨fun t ht=> ?_, ?_,fun y hy=> ?_⟩
 ·simp only [aD,List.mem_append] at ht
  rcases ht with (ht|ht)|ht
  ·exact hi.it t (List.mem_of_mem_take ht)
  ·exact D7 ho t ht
  ·exact hi.it t (List.mem_of_mem_drop ht)
 ·show (f.pl++ [x]).Nodup
  rw [List.nodup_append]
  refine ⟨hi.pl,by simp,fun a ha b hb e=>h2 ?_⟩
  rw [List.mem_singleton] at hb
  rw [← hb, ← e];exact ha
 ·have hy:y∈f.pl++ [x]:=hy
  rcases List.mem_append.1 hy with h|h
  ·exact hi.zm y h
  ·rw [List.mem_singleton] at h
   rw [h];exact ⟨h0,h1⟩
end Go.Ab
end
section
namespace Go.Ab
open Go.Proofs
set_option maxRecDepth 10000
def kT (x:Int) (t:It):Bool:=decide (t.2.2=x)
structure BR (x:Int) (X:List It):Prop where
 fst:∃p X',X=p::X'∧p.2.2=x
 FO:∃X' q,X=X'++ [q]∧q.2.2=x
 al:∀t∈X,t.2.2=x∨t.2.2= -1
def gh (x:Int) (l:List It):Prop:=∀t∈l,t.2.2≠x
theorem gh.app {x:Int} {l m:List It} (h:gh x l) (h':gh x m):gh x (l++m):=fun t ht=>(List.mem_append.1 ht).elim (h t) (h' t)
theorem gh.left {x:Int} {l m:List It} (h:gh x (l++m)):gh x l:=fun t ht=>h t (List.mem_append.2 (.inl ht))
theorem gh.right {x:Int} {l m:List It} (h:gh x (l++m)):gh x m:=fun t ht=>h t (List.mem_append.2 (.inr ht))
theorem BR.Nz {x y:Int} {X:List It} (h:BR x X) (hxy:x≠y) (hy:0≤y):gh y X:=fun t ht e=>by
 rcases h.al t ht with h1|h1<;>omega
theorem kA {row:List It} {x:Int} :∀ {k:Nat},k≤row.length→fG row x k=((row.take k).countP (kT x):Nat)
 |0,_=>by simp [fG]
 |k+1,h=>by
  rw [eD,kA (k:=k) (by omega),List.take_add_one,List.getElem?_eq_getElem (show k<row.length by omega),List.countP_append]
  simp only [Option.toList,List.countP_cons,List.countP_nil,kT,decide_eq_true_eq,List.getD_eq_getElem?_getD,List.getElem?_eq_getElem (show k<row.length by omega),Option.getD_some]
  split<;>simp
theorem BS {A X C:List It} {p:It} {X':List It} (h:X=p::X'):(A++X++C).getD A.length (0,0,0)=p:=by
 subst h;simp [List.getD_eq_getElem?_getD]
theorem BT {A X C:List It} {q:It} {X':List It} (h:X=X'++ [q]):(A++X++C).getD (A.length+X.length - 1) (0,0,0)=q:=by
 subst h
 have e:A.length+(X'++ [q]).length - 1=(A++X').length:=by simp
 rw [e,show A++(X'++ [q])++C=(A++X')++([q]++C) by simp]
 simp [List.getD_eq_getElem?_getD]
theorem BU {A L:List It} {j:Nat} (h:j<A.length):(A++L).getD j (0,0,0)∈A:=by
 rw [List.getD_eq_getElem?_getD,List.getElem?_append_left h,List.getElem?_eq_getElem h]
 exact List.getElem_mem h
theorem BW {A L:List It} {j:Nat} (h:A.length≤j) (h':j<(A++L).length):(A++L).getD j (0,0,0)∈L:=by
 rw [List.length_append] at h'
 rw [List.getD_eq_getElem?_getD,List.getElem?_append_right h,List.getElem?_eq_getElem (by omega)]
 exact List.getElem_mem _
theorem AH {A X C:List It} {x:Int} (hA:gh x A) (hC:gh x C) (hX:BR x X):
 (b8 (A++X++C) x).1=(A.length:Int)∧(b8 (A++X++C) x).2.1=((A.length+X.length:Nat):Int)∧(b8 (A++X++C) x).2.2=(X.countP (kT x):Nat):=by
 have Bp:(b8 (A++X++C) x).2.2=(X.countP (kT x):Nat):=by
  unfold b8
  rw [jK,kA (Nat.le_refl _),List.take_length,List.countP_append,List.countP_append]
  have h1:A.countP (kT x)=0:=List.countP_eq_zero.2 fun t ht=>by simp [kT,hA t ht]
  have h2:C.countP (kT x)=0:=List.countP_eq_zero.2 fun t ht=>by simp [kT,hC t ht]
  rw [h1,h2];simp
 obtain ⟨p,X',e1,hp⟩:=hX.fst
 obtain ⟨QF,q,e2,hq⟩:=hX.FO
 have g1:=BS (A:=A) (C:=C) e1
 have g2:=BT (A:=A) (C:=C) e2
 have JI:0<X.length:=by rw [e1];simp
 have hlen:(A++X++C).length=A.length+X.length+C.length:=by simp;omega
 rcases dQ (row:=A++X++C) (x:=x) (A++X++C).length with ⟨_,hno⟩|⟨a,b,c,hs,hab,z7,hc0,gY,ha,hb,hlo,hhi⟩
 ·exact absurd (by rw [g1];exact hp) (hno A.length (by omega))
 ·have hs':b8 (A++X++C) x=((a:Int),(b:Int),(c:Int)):=hs
  refine ⟨?_, ?_,Bp⟩
  ·rw [hs']
   have h1:¬A.length<a:=fun h=>hlo _ h (by rw [g1];exact hp)
   have h2:¬a<A.length:=fun h=>hA _ (by have:=BU (L:=X++C) h;rw [← List.append_assoc] at this;exact this) ha
   simp only;omega
  ·rw [hs']
   have h1:¬b<A.length+X.length:=fun h=>hhi (A.length+X.length - 1) (by omega) (by omega) (by rw [g2];exact hq)
   have h2:¬A.length+X.length<b:=fun h=>hC _ (BW (A:=A++X) (j:=b - 1) (by simp;omega) (by omega)) hb
   simp only;omega
theorem td {g:Gr} (hm:aY g=true) {f:Fr} (hi:iL g f) {A X C:List It} {x:Int} (h0:0≤x) (h1:x<g.n) (hp:x∉f.pl) (hr:f.row=A++X++C) (hA:gh x A) (hC:gh x C) (hX:BR x X)
 (hc:X.countP (kT x)=bA g x):aC g f x=true:=by
 rw [← s9 hm hi,lN,if_neg (by rintro (h|h|h);omega;omega;exact hp h)]
 obtain ⟨e1,e2,e3⟩:=AH hA hC hX
 rw [hr,e1,e2,e3,mw h0 h1,Bool.and_eq_true,decide_eq_true_eq]
 refine ⟨by rw [hc];rfl, ?_⟩
 rw [Bool.or_eq_true];right
 simp only [uE,Int.toNat_natCast]
 rw [List.take_append_of_le_length (by simp),List.take_of_length_le (by simp),List.drop_left,Bool.not_eq_true',List.any_eq_false]
 intro t ht
 simp only [pS,Bool.and_eq_true,decide_eq_true_eq]
 rcases hX.al t ht with h|h<;>simp [h]
theorem c8 {g:Gr} (hm:aY g=true) {f:Fr} (hi:iL g f) {x:Int} (hR:aC g f x=true) (hn:bA g x≠0):
 ∃A X C,f.row=A++X++C∧gh x A∧gh x C∧BR x X∧X.countP (kT x)=bA g x:=by
 obtain ⟨h0,h1,h2⟩:=aR hR
 rw [← s9 hm hi,lN,if_neg (by rintro (h|h|h);omega;omega;exact h2 h),mw h0 h1,Bool.and_eq_true,decide_eq_true_eq] at hR
 have hN:(aX (fun e=>e.2) g.es g.es.length x).length=bA g x:=rfl
 rw [hN,decide_eq_false hn,Bool.false_or] at hR
 obtain ⟨hc,hb⟩:=hR
 have Bp:(f.row.countP (kT x):Int)=bA g x:=by
  rw [← hc];unfold b8
  rw [jK,kA (Nat.le_refl _),List.take_length]
 rcases dQ (row:=f.row) (x:=x) f.row.length with ⟨hs,hno⟩|⟨a,b,c,hs,hab,z7,hc0,gY,ha,hb',hlo,hhi⟩
 ·have:b8 f.row x=(-1,0,0):=hs
  rw [this] at hc
  exfalso;simp only at hc;omega
 ·have hs':b8 f.row x=((a:Int),(b:Int),(c:Int)):=hs
  rw [hs'] at hb
  simp only [Int.toNat_natCast] at hb
  have hA:gh x (f.row.take a):=fun t ht=>by
   obtain ⟨j,hj,rfl⟩:=List.mem_iff_getElem.1 ht
   simp only [List.length_take] at hj
   have:=hlo j (by omega)
   rw [List.getD_eq_getElem?_getD,List.getElem?_eq_getElem (show j<f.row.length by omega)] at this
   simpa using this
  have hC:gh x (f.row.drop b):=fun t ht=>by
   obtain ⟨j,hj,rfl⟩:=List.mem_iff_getElem.1 ht
   simp only [List.length_drop] at hj
   have:=hhi (b+j) (by omega) (by omega)
   rw [List.getD_eq_getElem?_getD,List.getElem?_eq_getElem (show b+j<f.row.length by omega)] at this
   simpa using this
  have hrow:f.row=f.row.take a++(f.row.take b).drop a++f.row.drop b:=by
   have e1:f.row.take a=(f.row.take b).take a:=by rw [List.take_take,Nat.min_eq_left (by omega)]
   rw [e1,List.take_append_drop,List.take_append_drop]
  refine ⟨f.row.take a,(f.row.take b).drop a,f.row.drop b,hrow,hA,hC,⟨?_, ?_, ?_⟩, ?_⟩
  ·refine ⟨f.row.getD a (0,0,0),(f.row.take b).drop (a+1), ?_,ha⟩
   rw [List.drop_eq_getElem_cons (by simp;omega)]
   congr 1
   rw [List.getD_eq_getElem?_getD,List.getElem?_eq_getElem (show a<f.row.length by omega)]
   simp
  ·refine ⟨(f.row.take (b - 1)).drop a,f.row.getD (b - 1) (0,0,0), ?_,hb'⟩
   have e:f.row.take b=f.row.take (b - 1)++ [f.row.getD (b - 1) (0,0,0)]:=by
    conv=>lhs;rw [show b=b - 1+1 by omega]
    rw [List.take_add_one,List.getD_eq_getElem?_getD,List.getElem?_eq_getElem (show b - 1<f.row.length by omega)]
    rfl
   rw [e,List.drop_append_of_le_length (by simp;omega)]
  ·intro t ht
   rw [uE,Bool.not_eq_true',List.any_eq_false] at hb
   have:=hb t ht
   simp only [pS,Bool.and_eq_true,decide_eq_true_eq,not_and] at this
   by_cases h:t.2.2=x
   ·exact .inl h
   ·exact .inr (Decidable.byContradiction fun h'=>this h h')
  ·have h1:(f.row.take a).countP (kT x)=0:=List.countP_eq_zero.2 fun t ht=>by simp [kT,hA t ht]
   have h2:(f.row.drop b).countP (kT x)=0:=List.countP_eq_zero.2 fun t ht=>by simp [kT,hC t ht]
   rw [hrow,List.countP_append,List.countP_append,h1,h2] at Bp
   omega
theorem kB {g:Gr} {f:Fr} {A X C:List It} {x:Int} (o:List Int) (hr:f.row=A++X++C) (hA:gh x A) (hC:gh x C) (hX:BR x X):
 aD g f x o=((X,0),⟨A++bg g x o++C,f.pl++ [x]⟩):=by
 obtain ⟨e1,e2,e3⟩:=AH hA hC hX
 have e4:max (A.length:Int) 0=(A.length:Int):=by omega
 unfold aD
 rw [hr,e1,e2,e4,Int.toNat_natCast,Int.toNat_natCast]
 rw [List.take_append_of_le_length (show A.length+X.length≤(A++X).length by simp),List.take_of_length_le (show (A++X).length≤A.length+X.length by simp),List.drop_left]
 rw [show (A++X++C).take A.length=A by rw [List.append_assoc,List.take_left]]
 rw [show (A++X++C).drop (A.length+X.length)=C by rw [← List.length_append,List.drop_left]]
theorem pW {g:Gr} {f:Fr} {x:Int} (o:List Int) (hr:gh x f.row):aD g f x o=(([],0),⟨bg g x o++f.row,f.pl++ [x]⟩):=by
 have hs:b8 f.row x=(-1,0,0):=by
  rcases dQ (row:=f.row) (x:=x) f.row.length with ⟨hs,_⟩|⟨a,b,c,hs,hab,z7,hc0,gY,ha,hb',hlo,hhi⟩
  ·exact hs
  ·exact absurd ha (hr _ (aO (by omega)))
 have e4:max (-1:Int) 0=0:=by omega
 unfold aD
 rw [hs]
 simp [e4]
end Go.Ab
end
section
namespace Go.Ab
open Go.Proofs
set_option maxRecDepth 10000
structure yK (g:Gr) (f:Fr):Prop extends iL g f where
 tail:∀t∈f.row,0≤t.1→t.2.1∈f.pl
 head:∀t∈f.row,0≤t.1→t.2.2∉f.pl
 once:f.row.Pairwise fun s t=>0≤s.1→s.1≠t.1
 low:∀i,i<g.es.length→hd g i∈f.pl→tl g i∈f.pl
 src:(f.pl= []∧f.row= [])∨∃s∈f.pl,bA g s=0
theorem AI (g:Gr):yK g ⟨[], []⟩:=
 {it:=by simp,pl:=by simp,zm:=by simp,tail:=by simp,head:=by simp,once:=by simp,low:=by simp,src:= .inl ⟨rfl,rfl⟩}
theorem zv {g:Gr} (hm:aY g=true) {f:Fr} (hi:yK g f) {x:Int} (hR:aC g f x=true) {i:Nat} (hl:i<g.es.length) (hx:hd g i=x):∃t∈f.row,t.1=i∧t.2.1=tl g i∧t.2.2=x:=by
 have hn:bA g x≠0:=by
  have:=pV (g:=g) (e:=(i:Int)) (by omega) (by omega)
  rw [Int.toNat_natCast,show (g.es.getD i (0,0)).2=x from hx] at this
  omega
 obtain ⟨A,X,C,hr,hA,hC,hX,hc⟩:=c8 hm hi.toiL hR hn
 have hN:(aX (fun e=>e.2) g.es g.es.length x).length=bA g x:=rfl
 have hok:∀t∈f.row,t.2.2=x→0≤t.1∧t.1<g.es.length∧t.2.1=(g.es.getD t.1.toNat (0,0)).1∧t.2.2=(g.es.getD t.1.toNat (0,0)).2:=fun t ht he=>by
  rcases hi.it t ht with ⟨_,h2⟩|h
  ·have:=(aR hR).1;omega
  ·exact h
 have hmem:∀t∈X,t∈f.row:=fun t ht=>by rw [hr];simp [ht]
 have Gv:=wg (ms:=(X.filter (kT x)).map (·.1)) (os:=aX (fun e=>e.2) g.es g.es.length x)
 have key:∀i∈aX (fun e=>e.2) g.es g.es.length x,i∈(X.filter (kT x)).map (·.1):=by
  refine we (ms:=(X.filter (kT x)).map (·.1)) (os:=aX (fun e=>e.2) g.es g.es.length x) ?_ ?_ ?_
  ·have h1:X.Pairwise fun s t=>0≤s.1→s.1≠t.1:=by
    have:=hi.once
    rw [hr,List.pairwise_append,List.pairwise_append] at this
    exact this.1.2.1
   have h2:=h1.filter (kT x)
   rw [List.Nodup,List.pairwise_map]
   refine h2.imp_of_mem fun {a b} ha hb h=>h ?_
   obtain ⟨ha1,ha2⟩:=List.mem_filter.1 ha
   exact (hok a (hmem a ha1) (by simpa [kT] using ha2)).1
  ·intro e he
   obtain ⟨t,ht,rfl⟩:=List.mem_map.1 he
   obtain ⟨ht1,ht2⟩:=List.mem_filter.1 ht
   have ht2:t.2.2=x:=by simpa [kT] using ht2
   obtain ⟨h1,h2,h3,h4⟩:=hok t (hmem t ht1) ht2
   simp only [aX,List.mem_map,List.mem_filter,List.mem_range,decide_eq_true_eq]
   exact ⟨t.1.toNat,⟨by omega,by rw [← h4];exact ht2⟩,by simp;omega⟩
  ·rw [hN, ← hc,List.length_map,List.countP_eq_length_filter]
 have hie:(i:Int)∈aX (fun e=>e.2) g.es g.es.length x:=by
  simp only [aX,List.mem_map,List.mem_filter,List.mem_range,decide_eq_true_eq]
  exact ⟨i,⟨hl,hx⟩,rfl⟩
 obtain ⟨t,ht,he⟩:=List.mem_map.1 (key _ hie)
 obtain ⟨ht1,ht2⟩:=List.mem_filter.1 ht
 have ht2:t.2.2=x:=by simpa [kT] using ht2
 obtain ⟨h1,h2,h3,h4⟩:=hok t (hmem t ht1) ht2
 refine ⟨t,hmem t ht1,he, ?_,ht2⟩
 rw [h3,he,Int.toNat_natCast];rfl
theorem nw {g:Gr} (hm:aY g=true) {f:Fr} (hi:iL g f) {x:Int} (h0:0≤x) (hn:bA g x=0):gh x f.row:=by
 intro t ht he
 rcases hi.it t ht with ⟨_,h2⟩|⟨h1,h2,_,h4⟩
 ·omega
 ·have:=pV h1 h2
  rw [← h4,he] at this
  omega
theorem tf {g:Gr} (hm:aY g=true) {f:Fr} (hi:iL g f) {x:Int} (hR:aC g f x=true):
 ∃A X C,f.row=A++X++C∧gh x A∧gh x C∧(∀t∈X,t.2.2=x∨t.2.2= -1)∧∀o,aD g f x o=((X,0),⟨A++bg g x o++C,f.pl++ [x]⟩):=by
 by_cases hn:bA g x=0
 ·have h:=nw hm hi (aR hR).1 hn
  exact ⟨[], [],f.row,by simp,fun t ht=>(by cases ht),h,fun t ht=>(by cases ht),fun o=>by rw [pW o h];simp⟩
 ·obtain ⟨A,X,C,hr,hA,hC,hX,_⟩:=c8 hm hi hR hn
  exact ⟨A,X,C,hr,hA,hC,hX.al,fun o=>kB o hr hA hC hX⟩
theorem lP {g:Gr} {x i:Int} (h:i∈bq g x):∃k:Nat,i=k∧k<g.es.length∧tl g k=x:=by
 obtain ⟨⟨h1,h2⟩,h3⟩:=gy h
 exact ⟨i.toNat,by omega,by omega,h3⟩
theorem jM {g:Gr} {x:Int} {o:List Int} (ho:∀i∈o,i∈bq g x) {t:It} (h:t∈bg g x o):(t.1= -1∧t.2.2= -1)∨∃k:Nat,k<g.es.length∧t.1=k∧t.2.1=x∧t.2.2=hd g k∧tl g k=x∧t.1∈o:=by
 unfold bg at h
 split at h
 ·rw [List.mem_singleton] at h
  rw [h];exact .inl ⟨rfl,rfl⟩
 ·obtain ⟨i,NA,rfl⟩:=List.mem_map.1 h
  obtain ⟨k,rfl,h1,h2⟩:=lP (ho i NA)
  exact .inr ⟨k,h1,rfl,rfl,by simp [mR];rfl,h2,NA⟩
theorem pY {g:Gr} (hm:aY g=true) {f:Fr} (hi:yK g f) {x y:Int} (hx:x∉f.pl) (hR:aC g f y=true) {o:List Int} (ho:∀i∈o,i∈bq g x):gh y (bg g x o):=by
 intro t ht he
 rcases jM ho ht with ⟨_,h⟩|⟨k,h1,h2,h3,h4,h5,_⟩
 ·have:=(aR hR).1;omega
 ·obtain ⟨s,hs,e1,e2,e3⟩:=zv hm hi hR h1 (by rw [← h4];exact he)
  refine hx ?_
  rw [← h5, ← e2]
  exact hi.tail s hs (by omega)
theorem jN {g:Gr} (hm:aY g=true) {f:Fr} (hi:yK g f) {x:Int} (hR:aC g f x=true) {o:List Int} (ho:o.Perm (bq g x)):yK g (aD g f x o).2:=by
 have HB:∀i∈o,i∈bq g x:=fun i h=>ho.mem_iff.1 h
 have hx:=(aR hR).2.2
 have h0:=D8 hi.toiL hR HB
 obtain ⟨A,X,C,hr,hA,hC,hX,hs⟩:=tf hm hi.toiL hR
 have fH:(aD g f x o).2.pl=f.pl++ [x]:=rfl
 have hrow:(aD g f x o).2.row=A++bg g x o++C:=by rw [hs o]
 have MA:∀t∈A,t∈f.row:=fun t ht=>by rw [hr];simp [ht]
 have MB:∀t∈C,t∈f.row:=fun t ht=>by rw [hr];simp [ht]
 have JJ:=pY hm hi hx hR HB
 refine {toiL:=h0,tail:= ?_,head:= ?_,once:= ?_,low:= ?_,src:= .inr ?_}
 ·intro t ht h1
  rw [fH]
  rw [hrow,List.mem_append,List.mem_append] at ht
  rcases ht with (ht|ht)|ht
  ·exact List.mem_append_left _ (hi.tail t (MA t ht) h1)
  ·rcases jM HB ht with ⟨h,_⟩|⟨k,_,_,h3,_⟩
   ·omega
   ·rw [h3];simp
  ·exact List.mem_append_left _ (hi.tail t (MB t ht) h1)
 ·intro t ht h1
  rw [fH,List.mem_append,List.mem_singleton]
  rw [hrow,List.mem_append,List.mem_append] at ht
  rcases ht with (ht|ht)|ht
  ·rintro (h|h)
   ·exact hi.head t (MA t ht) h1 h
   ·exact hA t ht h
  ·rintro (h|h)
   ·rcases jM HB ht with ⟨h',_⟩|⟨k,hk,_,_,h4,h5,_⟩
    ·omega
    ·rw [h4] at h
     have:=hi.low k hk h
     rw [h5] at this;exact hx this
   ·exact JJ t ht h
  ·rintro (h|h)
   ·exact hi.head t (MB t ht) h1 h
   ·exact hC t ht h
 ·have tL:=hi.once
  rw [hr,List.pairwise_append,List.pairwise_append] at tL
  obtain ⟨⟨OV,_,_⟩,OW,MC⟩:=tL
  have old:∀s∈f.row,0≤s.1→∀t∈bg g x o,s.1≠t.1:=fun s hs h1 t ht e=>by
   rcases jM HB ht with ⟨h,_⟩|⟨k,hk,h2,h3,h4,h5,_⟩
   ·omega
   ·rcases hi.it s hs with ⟨h,_⟩|⟨_,_,h6,_⟩
    ·omega
    ·have:=hi.tail s hs h1
     rw [h6,e,h2,Int.toNat_natCast] at this
     exact hx (h5 ▸ this)
  rw [hrow,List.pairwise_append,List.pairwise_append]
  refine ⟨⟨OV, ?_,fun s hs t ht h1=>old s (MA s hs) h1 t ht⟩,OW, ?_⟩
  ·unfold bg
   split
   ·simp
   ·refine List.pairwise_map.2 ((ho.nodup_iff.2 dI).imp fun {i j} (h:i≠j) _=> ?_)
    exact h
  ·intro s hs t ht h1
   rcases List.mem_append.1 hs with hs|hs
   ·exact MC s (List.mem_append_left _ hs) t ht h1
   ·intro e
    exact old t (MB t ht) (by omega) s hs e.symm
 ·intro i hl h
  rw [fH,List.mem_append,List.mem_singleton] at h ⊢
  left
  rcases h with h|h
  ·exact hi.low i hl h
  ·obtain ⟨t,ht,e1,e2,_⟩:=zv hm hi hR hl h
   rw [← e2]
   exact hi.tail t ht (by omega)
 ·rcases hi.src with ⟨h1,h2⟩|⟨s,hs,h⟩
  ·refine ⟨x,by rw [fH];simp, ?_⟩
   refine Decidable.byContradiction fun hn=> ?_
   obtain ⟨A,X,C,hr,_,_,hX,_⟩:=c8 hm hi.toiL hR hn
   obtain ⟨p,X',e,_⟩:=hX.fst
   rw [h2,e] at hr
   simp at hr
  ·exact ⟨s,by rw [fH];simp [hs],h⟩
theorem apart {x y:Int} (hx:0≤x) (hy:0≤y) (hxy:x≠y) {A X C B Y D:List It} (h:A++X++C=B++Y++D) (hX:BR x X) (hY:BR y Y):
 (∃M,B=A++X++M∧C=M++Y++D)∨(∃M,A=B++Y++M∧D=M++X++C):=by
 obtain ⟨p,X',OX,hp⟩:=hX.fst
 obtain ⟨q,Y',OY,hq⟩:=hY.fst
 have nX:q∉X:=fun h=>hX.Nz hxy hy q h hq
 have nY:p∉Y:=fun h=>hY.Nz (Ne.symm hxy) hx p h hp
 rw [show B++Y++D=B++(Y++D) by simp,List.append_eq_append_iff] at h
 rcases h with ⟨es,h1,h2⟩|⟨cs,h1,h2⟩
 ·exact .inl ⟨es,h1,by rw [h2];simp⟩
 ·match cs,h1,h2 with
  | [],h1,h2=>exact .inl ⟨[],by simpa using h1.symm,by simpa using h2.symm⟩
  |c::cs,h1,h2=>
   have OZ:c=q:=by rw [OY] at h2;simp at h2;exact h2.1.symm
   rw [List.append_eq_append_iff] at h1
   rcases h1 with ⟨es,h3,h4⟩|⟨ds,h3,h4⟩
   ·exfalso;refine nX ?_
    rw [h4, ← OZ];simp
   ·rw [h4,List.append_assoc,List.append_eq_append_iff] at h2
    rcases h2 with ⟨es,h5,h6⟩|⟨bs,h5,h6⟩
    ·exact .inr ⟨es,by rw [h3,h5];simp,by rw [h6];simp⟩
    ·match bs,h5,h6 with
     | [],h5,h6=>exact .inr ⟨[],by rw [h3,h5];simp,by simpa using h6.symm⟩
     |b::bs,h5,h6=>
      exfalso;refine nY ?_
      have O0:b=p:=by rw [OX] at h6;simp at h6;exact h6.1.symm
      rw [h5, ← O0];simp
theorem x4 {g:Gr} (hm:aY g=true) {f:Fr} (hi:yK g f) {x y:Int} (hxy:x≠y) (AJ:aC g f x=true) (uG:aC g f y=true)
 {a b:List Int} (ha:a.Perm (bq g x)) (hb:b.Perm (bq g y)) {A X M Y D:List It} (hr:f.row=A++X++M++Y++D) (hX:BR x X) (hY:BR y Y)
 (cX:X.countP (kT x)=bA g x) (cY:Y.countP (kT y)=bA g y)
 (nA:gh x A) (nC:gh x (M++Y++D)) (nB:gh y (A++X++M)) (nD:gh y D):
 aC g (aD g f x a).2 y=true∧aC g (aD g f y b).2 x=true∧(aD g (aD g f x a).2 y b).2.row=(aD g (aD g f y b).2 x a).2.row∧
 (aD g f x a).1=(aD g (aD g f y b).2 x a).1∧(aD g f y b).1=(aD g (aD g f x a).2 y b).1:=by
 obtain ⟨x0,x1,x2⟩:=aR AJ
 obtain ⟨y0,y1,y2⟩:=aR uG
 have i1:=(jN hm hi AJ ha).toiL
 have i2:=(jN hm hi uG hb).toiL
 have ux:=pY hm hi x2 uG (fun i h=>ha.mem_iff.1 h)
 have uy:=pY hm hi y2 AJ (fun i h=>hb.mem_iff.1 h)
 have r1:f.row=A++X++(M++Y++D):=by rw [hr];simp
 have r2:f.row=(A++X++M)++Y++D:=by rw [hr]
 have e1:=kB (g:=g) a r1 nA nC hX
 have e2:=kB (g:=g) b r2 nB nD hY
 rw [e1] at i1 ⊢;rw [e2] at i2 ⊢
 have r3:A++bg g x a++(M++Y++D)=(A++bg g x a++M)++Y++D:=by simp
 have r4:A++X++M++bg g y b++D=A++X++(M++bg g y b++D):=by simp
 have n3:gh y (A++bg g x a++M):=((nB.left.left).app ux).app nB.right
 have n4:gh x (M++bg g y b++D):=(nC.left.left.app uy).app nC.right
 have e3:=kB (g:=g) (f:=⟨A++bg g x a++(M++Y++D),f.pl++ [x]⟩) b r3 n3 nD hY
 have e4:=kB (g:=g) (f:=⟨A++X++M++bg g y b++D,f.pl++ [y]⟩) a r4 nA n4 hX
 refine ⟨td hm i1 y0 y1 ?_ r3 n3 nD hY cY,td hm i2 x0 x1 ?_ r4 nA n4 hX cX, ?_, ?_, ?_⟩
 ·simp [y2,Ne.symm hxy]
 ·simp [x2,hxy]
 ·simp only [e3,e4];simp
 ·simp only [e4]
 ·simp only [e3]
theorem BX {g:Gr} (hm:aY g=true) {f:Fr} (hi:yK g f) {x y:Int} (hxy:x≠y) (AJ:aC g f x=true) (uG:aC g f y=true)
 {a b:List Int} (ha:a.Perm (bq g x)) (hb:b.Perm (bq g y)) (nx:bA g x≠0) (ny:bA g y≠0):
 aC g (aD g f x a).2 y=true∧aC g (aD g f y b).2 x=true∧(aD g (aD g f x a).2 y b).2.row=(aD g (aD g f y b).2 x a).2.row∧
 (aD g f x a).1=(aD g (aD g f y b).2 x a).1∧(aD g f y b).1=(aD g (aD g f x a).2 y b).1:=by
 obtain ⟨A,X,C,hr,hA,hC,hX,cX⟩:=c8 hm hi.toiL AJ nx
 obtain ⟨B,Y,D,hr',hB,hD,hY,cY⟩:=c8 hm hi.toiL uG ny
 rcases apart (aR AJ).1 (aR uG).1 hxy (hr.symm.trans hr') hX hY with ⟨M,rfl,rfl⟩|⟨M,rfl,rfl⟩
 ·exact x4 hm hi hxy AJ uG ha hb (by rw [hr];simp) hX hY cX cY hA hC hB hD
 ·obtain ⟨h1,h2,h3,h4,h5⟩:=x4 hm hi (Ne.symm hxy) uG AJ hb ha (by rw [hr'];simp) hY hX cY cX hB hD hA hC
  exact ⟨h2,h1,h3.symm,h5,h4⟩
theorem uH {g:Gr} {y:Int} :y∈dz (·.2) g↔(0≤y∧y<g.n)∧bA g y=0:=by
 simp only [dz,iY,List.mem_map,List.mem_filter,List.mem_range,decide_eq_true_eq]
 have he:∀x:Nat,x<g.n.toNat→(((dY (·.2) g).getD x []).length=bA g (x:Int)):=by
  intro x hx
  have e:(dY (·.2) g).getD x []=aX (·.2) g.es g.es.length (x:Int):=by
   simp [dY,List.getD_eq_getElem?_getD,List.getElem?_range hx,ow]
  rw [e];rfl
 constructor
 ·rintro ⟨x,⟨hx,h0⟩,rfl⟩
  refine ⟨by simp;omega,by rw [he x hx] at h0;exact h0⟩
 ·rintro ⟨⟨h1,h2⟩,h3⟩
  have e:((y.toNat:Nat):Int)=y:=by omega
  exact ⟨y.toNat,⟨by omega,by rw [he _ (by omega),e];exact h3⟩,e⟩
theorem qO {g:Gr} (hc:(cR g).1=0) {x y:Int} (hx:0≤x∧x<g.n) (hy:0≤y∧y<g.n) (nx:bA g x=0) (ny:bA g y=0):x=y:=by
 have h1:(dz (·.2) g).length≤1:=by
  unfold cR gD at hc
  refine Nat.not_lt.1 fun h=> ?_
  split at hc
  ·cases hc
  split at hc
  ·cases hc
  split at hc
  ·cases hc
  split at hc
  ·cases hc
  cases hc
 have h2:=uH.2 ⟨hx,nx⟩
 have h3:=uH.2 ⟨hy,ny⟩
 match hb:dz (·.2) g with
 | []=>rw [hb] at h2;cases h2
 | [z]=>rw [hb,List.mem_singleton] at h2 h3;rw [h2,h3]
 |_::_::_=>rw [hb] at h1;simp at h1
theorem cm {g:Gr} (hc:(cR g).1=0):aY g=true:=by
 unfold cR gD at hc
 split at hc
 ·cases hc
 ·rename_i h;simpa using h
theorem x5 {g:Gr} (hc:(cR g).1=0) {f:Fr} (hi:yK g f) {x y:Int} (hxy:x≠y) (AJ:aC g f x=true) (uG:aC g f y=true):bA g x≠0:=by
 intro nx
 have hm:=cm hc
 obtain ⟨x0,x1,x2⟩:=aR AJ
 obtain ⟨y0,y1,y2⟩:=aR uG
 rcases hi.src with ⟨h1,h2⟩|⟨s,hs,h⟩
 ·have ny:bA g y≠0:=fun ny=>hxy (qO hc ⟨x0,x1⟩ ⟨y0,y1⟩ nx ny)
  obtain ⟨A,X,C,hr,_,_,hX,_⟩:=c8 hm hi.toiL uG ny
  obtain ⟨p,X',e,_⟩:=hX.fst
  rw [h2,e] at hr
  simp at hr
 ·exact x2 (qO hc (hi.zm s hs) ⟨x0,x1⟩ h nx ▸ hs)
theorem BY {g:Gr} (hc:(cR g).1=0) {f:Fr} (hi:yK g f) {x y:Int} (hxy:x≠y) (AJ:aC g f x=true) (uG:aC g f y=true)
 {a b:List Int} (ha:a.Perm (bq g x)) (hb:b.Perm (bq g y)):
 aC g (aD g f x a).2 y=true∧aC g (aD g f y b).2 x=true∧(aD g (aD g f x a).2 y b).2.row=(aD g (aD g f y b).2 x a).2.row∧
 (aD g f x a).1=(aD g (aD g f y b).2 x a).1∧(aD g f y b).1=(aD g (aD g f x a).2 y b).1:=
 BX (cm hc) hi hxy AJ uG ha hb (x5 hc hi hxy AJ uG) (x5 hc hi (Ne.symm hxy) uG AJ)
end Go.Ab
end
section
namespace Go.Ab
open Go.Proofs
attribute [local congr] ACall.congr gd.congr Nx.congr
set_option maxRecDepth 10000
set_option maxHeartbeats 4000000
def AK (row:List It) (a b:Int):Nat→Int × Int
 |0=>(-1,0)
 |k+1=>if ((row.getD k (0,0,0)).2.2=a∨(row.getD k (0,0,0)).2.2=b)∧(row.getD k (0,0,0)).2.2≠(AK row a b k).1 then ((row.getD k (0,0,0)).2.2,(AK row a b k).2+1) else AK row a b k
end Go.Ab
end
section
namespace Go.Ab
open Go.Proofs
attribute [local congr] ACall.congr gd.congr Nx.congr
set_option maxRecDepth 10000
set_option maxHeartbeats 4000000
def Il (row:List It) (i:Nat):Int:=(row.getD i (0,0,0)).2.2
def MD (row:List It) (i j:Nat):Bool:=decide (Il row i≠ -1)&&decide (Il row j≠ -1)&&decide (Il row i≠Il row j)&&decide (4≤(AK row (Il row i) (Il row j) row.length).2)
def NB (row:List It):Bool:=(List.range row.length).any fun i=>(List.range row.length).any (MD row i)
end Go.Ab
end
section
namespace Go.Ab
open Go.Proofs
attribute [local congr] ACall.congr gd.congr Nx.congr
set_option maxRecDepth 10000
set_option maxHeartbeats 8000000
def T4 (row:List It) (a b c d:Nat):Prop:=0≤(row.getD a (0,0,0)).2.2∧0≤(row.getD b (0,0,0)).2.2∧(row.getD a (0,0,0)).2.2≠(row.getD b (0,0,0)).2.2∧(row.getD a (0,0,0)).2.2=(row.getD c (0,0,0)).2.2∧(row.getD b (0,0,0)).2.2=(row.getD d (0,0,0)).2.2
def O1 (row:List It):Prop:=∃a b c d,a<b∧b<c∧c<d∧d<row.length∧T4 row a b c d
end Go.Ab
end
section
namespace Go.Ab
open Go.Proofs
set_option maxRecDepth 10000
theorem x6 {g:Gr} {f f':Fr} (hr:f.row=f'.row) (hp:f.pl.Perm f'.pl) (x:Int):aC g f x=aC g f' x:=by
 unfold aC
 rw [hr]
 by_cases h:x<0∨g.n≤x∨x∈f.pl
 ·rw [if_pos h,if_pos (by rw [← hp.mem_iff];exact h)]
 ·have h':¬(x<0∨g.n≤x∨x∈f'.pl):=by rw [← hp.mem_iff];exact h
  rw [if_neg h,if_neg h']
theorem nE:∀ {l m:List Int},l.Nodup→(∀i∈l,i∈m)→l.length≤m.length
 | [],_,_,_=>by simp
 |a::l,m,hn,hs=>by
  rw [List.nodup_cons] at hn
  have ha:=hs a (List.mem_cons_self ..)
  have:=nE hn.2 (m:=m.erase a) fun i hi=>(List.mem_erase_of_ne (fun e:i=a=>hn.1 (e ▸ hi))).2 (hs i (List.mem_cons_of_mem _ hi))
  rw [List.length_erase_of_mem ha] at this
  have:=List.length_pos_of_mem ha
  rw [List.length_cons];omega
theorem pZ {g:Gr} {f:Fr} (hi:iL g f) (hf:(f.pl.length:Int)=g.n) {x:Int} (hx:0≤x∧x<g.n):x∈f.pl:=by
 refine Decidable.byContradiction fun h=> ?_
 have h1:(x::f.pl).Nodup:=List.nodup_cons.2 ⟨h,hi.pl⟩
 have h2:((List.range g.n.toNat).map Int.ofNat).length=g.n.toNat:=by simp
 have h3:=nE h1 (m:=(List.range g.n.toNat).map Int.ofNat) (fun y hy=>by
  rw [List.mem_map]
  have:0≤y∧y<g.n:=by
   rcases List.mem_cons.1 hy with h|h
   ·rw [h];exact hx
   ·exact hi.zm y h
  exact ⟨y.toNat,List.mem_range.2 (by omega),by simp;omega⟩)
 rw [h2,List.length_cons] at h3
 omega
def Tg (a b:Int) (row:List It):Prop:=∃l:List It,l.Sublist row∧l.map (fun t=>t.2.2)= [a,b,a,b]
def D9 (a b:Int) (t:It):Bool:=decide (t.2.2=a)||decide (t.2.2=b)
theorem Tg.ME {a b:Int} {row:List It} :Tg a b row↔Tg a b (row.filter (D9 a b)):=by
 constructor
 ·rintro ⟨l,h,e⟩
  refine ⟨l, ?_,e⟩
  have h1:=h.filter (D9 a b)
  rw [List.filter_eq_self.2] at h1
  ·exact h1
  ·intro t ht
   have:t.2.2∈l.map (fun t=>t.2.2):=List.mem_map.2 ⟨t,ht,rfl⟩
   rw [e] at this
   simp only [D9,Bool.or_eq_true,decide_eq_true_eq]
   simp only [List.mem_cons,List.not_mem_nil,or_false] at this
   omega
 ·rintro ⟨l,h,e⟩
  exact ⟨l,h.trans List.filter_sublist,e⟩
theorem Tg.keep {a b x:Int} (ha:0≤a) (hb:0≤b) (Ib:a≠x) (xF:b≠x) {A X C u:List It} (hX:∀t∈X,t.2.2=x∨t.2.2= -1) (h:Tg a b (A++X++C)):Tg a b (A++u++C):=by
 rw [Tg.ME] at h ⊢
 obtain ⟨l,h,e⟩:=h
 refine ⟨l,h.trans ?_,e⟩
 rw [List.filter_append,List.filter_append,List.filter_append,List.filter_append]
 have:X.filter (D9 a b)= []:=List.filter_eq_nil_iff.2 fun t ht=>by
  simp only [D9,Bool.or_eq_true,decide_eq_true_eq]
  rcases hX t ht with h|h<;>omega
 rw [this,List.append_nil]
 exact List.Sublist.append_right (List.sublist_append_left _ _) _
theorem Tg.not {a b x:Int} (hab:a≠b) (hb0:0≤b) (ha0:0≤a) (hx:x=a∨x=b) {A X C:List It} (hA:gh x A) (hC:gh x C) (hX:∀t∈X,t.2.2=x∨t.2.2= -1):¬Tg a b (A++X++C):=by
 rintro ⟨l,h,e⟩
 rw [List.append_assoc,List.sublist_append_iff] at h
 obtain ⟨l1,l',rfl,h1,h'⟩:=h
 rw [List.sublist_append_iff] at h'
 obtain ⟨l2,l3,rfl,h2,h3⟩:=h'
 have k1:∀t∈l1,t.2.2≠x:=fun t ht=>hA t (h1.subset ht)
 have k2:∀t∈l2,t.2.2=x∨t.2.2= -1:=fun t ht=>hX t (h2.subset ht)
 have k3:∀t∈l3,t.2.2≠x:=fun t ht=>hC t (h3.subset ht)
 clear h1 h2 h3
 match l1,k1,e with
 |t1::t2::_,k1,e=>
  simp only [List.cons_append,List.map_cons,List.cons.injEq] at e
  rcases hx with h|h
  ·exact k1 t1 (by simp) (by omega)
  ·exact k1 t2 (by simp) (by omega)
 | [t1],k1,e=>
   simp only [List.cons_append,List.nil_append,List.map_cons,List.cons.injEq] at e
   rcases hx with h|h
   ·exact k1 t1 (by simp) (by omega)
   ·match l2,k2,e with
    | [],_,e=>
      match l3,k3,e with
      | [s1,s2,s3],k3,e=>
        simp only [List.nil_append,List.map_cons,List.map_nil,List.cons.injEq,and_true] at e
        exact k3 s1 (by simp) (by omega)
      | [],_,e=>simp at e
      | [_],_,e=>simp at e
      | [_,_],_,e=>simp at e
      |_::_::_::_::_,_,e=>simp at e
    |s1::s2::_,k2,e=>
     simp only [List.cons_append,List.map_cons,List.cons.injEq] at e
     rcases k2 s2 (by simp) with h|h<;>omega
    | [s1],k2,e=>
      match l3,k3,e with
      | [u1,u2],k3,e=>
        simp only [List.cons_append,List.nil_append,List.map_cons,List.map_nil,List.cons.injEq,and_true] at e
        exact k3 u2 (by simp) (by omega)
      | [],_,e=>simp at e
      | [_],_,e=>simp at e
      |_::_::_::_,_,e=>simp at e
 | [],_,e=>
   simp only [List.nil_append] at e
   match l2,k2,e with
   | [],_,e=>
     match l3,k3,e with
     | [],_,e=>simp at e
     | [_],_,e=>simp at e
     |s1::s2::_,k3,e=>
      simp only [List.nil_append,List.map_cons,List.cons.injEq] at e
      rcases hx with h|h
      ·exact k3 s1 (by simp) (by omega)
      ·exact k3 s2 (by simp) (by omega)
   |s1::s2::_,k2,e=>
    simp only [List.cons_append,List.map_cons,List.cons.injEq] at e
    have q1:=k2 s1 (by simp)
    have q2:=k2 s2 (by simp)
    omega
   | [s1],k2,e=>
     match l3,k3,e with
     | [],_,e=>simp at e
     | [_],_,e=>simp at e
     | [_,_],_,e=>simp at e
     |u1::u2::u3::_,k3,e=>
      simp only [List.cons_append,List.nil_append,List.map_cons,List.cons.injEq] at e
      have q1:=k2 s1 (by simp)
      exact k3 u2 (by simp) (by omega)
end Go.Ab
end
section
namespace Go.Ab
open Go.Proofs
set_option maxRecDepth 10000
theorem BZ {row:List It} {k:Nat} (h:k<row.length):row.take (k+1)=row.take k++ [row.getD k (0,0,0)]:=by
 rw [List.take_add_one,List.getD_eq_getElem?_getD,List.getElem?_eq_getElem h];rfl
theorem Ea {row:List It} {i j:Nat} (h:i≤j):(row.take i).Sublist (row.take j):=by
 rw [show row.take i=(row.take j).take i by rw [List.take_take,Nat.min_eq_left h]]
 exact List.take_sublist _ _
theorem tg {row l:List It} {i j:Nat} (h:l.Sublist (row.take i)) (hij:i≤j) (hj:j<row.length):(l++ [row.getD j (0,0,0)]).Sublist (row.take (j+1)):=by
 rw [BZ hj]
 exact List.Sublist.append (h.trans (Ea hij)) (List.Sublist.refl _)
def MF (a b:Int):List It→Prop
 | []=>True
 | [t]=>t.2.2=a∨t.2.2=b
 |s::t::l=>(s.2.2=a∨s.2.2=b)∧s.2.2≠t.2.2∧MF a b (t::l)
end Go.Ab
end
section
namespace Go.Ab
open Go.Proofs
attribute [local congr] ACall.congr gd.congr Nx.congr
set_option maxRecDepth 10000
end Go.Ab
end
section
namespace Go.Ab
open Go.Proofs
attribute [local congr] ACall.congr gd.congr Nx.congr
set_option maxRecDepth 10000
def MG (g:Gr) (out:List Int) (x:Nat) (i:Nat):Bool:=(List.range i).all fun j=> !decide (hd g j=(x:Int))||decide (tl g j∈out)
def O2 (g:Gr) (out:List Int) (k:Nat) (f:Bool):Prop:=k≤g.n.toNat∧(if f then 0<k∧wt g out (k - 1)=0∧∀j,j<k - 1→wt g out j≠0 else ∀j,j<k→wt g out j≠0)
def O3 (out:List Int) (k:Nat) (f:Bool):List Int:=if f then out++ [((k - 1:Nat):Int)] else out
end Go.Ab
end
section
namespace Go.Ab
open Go.Proofs
attribute [local congr] ACall.congr gd.congr Nx.congr
set_option maxRecDepth 10000
end Go.Ab
end
section
namespace Go.Ab
open Go.Proofs
set_option maxRecDepth 10000
structure Pl where
 ord:List Int
 outs:List (List Int)
def bL (p:Pl) (k:Nat):Int:=p.ord.getD k 0
def kC (p:Pl) (x:Int):List Int:=p.outs.getD x.toNat []
def b7 (g:Gr) (p:Pl):Prop:=p.outs.length=g.n.toNat∧p.ord.Perm (fh g.n.toNat)∧∀x:Nat,x<g.n.toNat→(p.outs.getD x []).Perm (bq g x)
def fK (g:Gr) (p:Pl):Nat→Fr
 |0=>⟨[], []⟩
 |k+1=>(aD g (fK g p k) (bL p k) (kC p (bL p k))).2
def uI (g:Gr) (p:Pl) (k:Nat):List It:=(aD g (fK g p k) (bL p k) (kC p (bL p k))).1.1
def x7 (g:Gr) (p:Pl) (k:Nat):Bool:=aC g (fK g p k) (bL p k)
def kQ (g:Gr) (p:Pl):Nat→List (List It)
 |0=>List.replicate g.n.toNat []
 |k+1=>(kQ g p k).set (bL p k).toNat (uI g p k)
def lQ (g:Gr) (p:Pl):Nat→Option Nat
 |0=>none
 |k+1=>match lQ g p k with
  |some i=>some i
  |none=>if x7 g p k=true then none else some k
def gQ (g:Gr) (p:Pl):Prop:=(cR g).1=0∧b7 g p∧∀k,k<g.n.toNat→x7 g p k=true
theorem iM {g:Gr} {p:Pl} :∀ {k:Nat},lQ g p k=none↔∀j,j<k→x7 g p j=true
 |0=>by simp [lQ]
 |k+1=>by
  rw [lQ]
  cases h:lQ g p k with
  |some i=>
   simp only [reduceCtorEq,false_iff]
   intro h2
   rw [iM.2 fun j hj=>h2 j (by omega)] at h
   cases h
  |none=>
   have ih:=iM.1 h
   simp only
   constructor
   ·intro h2 j hj
    by_cases hjk:j=k
    ·subst hjk
     refine Decidable.byContradiction fun hn=> ?_
     rw [if_neg hn] at h2;cases h2
    ·exact ih j (by omega)
   ·intro h2
    rw [if_pos (h2 k (by omega))]
theorem th {g:Gr} {p:Pl} {i:Nat} :∀ {k:Nat},lQ g p k=some i↔i<k∧x7 g p i=false∧∀j,j<i→x7 g p j=true
 |0=>by simp [lQ]
 |k+1=>by
  rw [lQ]
  cases h:lQ g p k with
  |some i'=>
   have ih:=(th (g:=g) (p:=p)).1 h
   simp only [Option.some.injEq]
   constructor
   ·rintro rfl
    exact ⟨by omega,ih.2⟩
   ·rintro ⟨h1,h2,h3⟩
    rcases Nat.lt_trichotomy i' i with h4|h4|h4
    ·rw [h3 i' h4] at ih;simp at ih
    ·exact h4
    ·rw [ih.2.2 i h4] at h2;cases h2
  |none=>
   have ih:=iM.1 h
   simp only
   constructor
   ·intro h2
    by_cases hk:x7 g p k=true
    ·rw [if_pos hk] at h2;cases h2
    ·rw [if_neg hk] at h2
     cases h2
     exact ⟨by omega,by simpa using hk,ih⟩
   ·rintro ⟨h1,h2,h3⟩
    have:i=k:=by
     by_cases h4:i<k
     ·rw [ih i h4] at h2;cases h2
     ·omega
    subst this
    rw [if_neg (by rw [h2];simp)]
theorem jO {n:Nat} :(fh n).length=n:=by simp [fh]
theorem dA {g:Gr} {p:Pl} (h:b7 g p):p.ord.length=g.n.toNat:=by rw [h.2.1.length_eq,jO]
theorem zw {g:Gr} {p:Pl} (h:b7 g p):p.ord.Nodup:=h.2.1.nodup_iff.2 gw
theorem eZ {g:Gr} {p:Pl} (h:b7 g p) {k:Nat} (hk:k<g.n.toNat):0≤bL p k∧bL p k<g.n:=by
 have h1:bL p k∈p.ord:=aO (by rw [dA h];exact hk)
 have:=dP.1 (h.2.1.mem_iff.1 h1)
 omega
theorem AL {g:Gr} {p:Pl} (h:b7 g p) {i j:Nat} (hi:i<g.n.toNat) (hj:j<g.n.toNat) (e:bL p i=bL p j):i=j:=
 sH (zw h) (by rw [dA h];exact hi) (by rw [dA h];exact hj) e
theorem AM {g:Gr} {p:Pl} (h:b7 g p) {x:Int} (h0:0≤x) (h1:x<g.n):∃k,k<g.n.toNat∧bL p k=x:=by
 have:x∈p.ord:=h.2.1.mem_iff.2 (dP.2 (by omega))
 obtain ⟨k,hk,e⟩:=List.mem_iff_getElem.1 this
 refine ⟨k,by rw [← dA h];exact hk, ?_⟩
 rw [bL,List.getD_eq_getElem?_getD,List.getElem?_eq_getElem hk,Option.getD_some,e]
theorem er {g:Gr} {p:Pl} (h:b7 g p) {x:Int} (h0:0≤x) (h1:x<g.n):(kC p x).Perm (bq g x):=by
 have:=h.2.2 x.toNat (by omega)
 rwa [show ((x.toNat:Nat):Int)=x by omega] at this
theorem AN {g:Gr} {p:Pl} (h:b7 g p) {x:Int} (h0:0≤x) (h1:x<g.n):(kC p x).length≤g.es.length:=by
 rw [(er h h0 h1).length_eq];exact s6
theorem qP {g:Gr} (hm:aY g=true) {p:Pl} (h:b7 g p):∀ {k:Nat},k≤g.n.toNat→(∀j,j<k→x7 g p j=true)→yK g (fK g p k)∧(fK g p k).pl=p.ord.take k∧(fK g p k).row.length≤k*(g.es.length+1)
 |0,_,_=>⟨AI g,by simp [fK],by simp [fK]⟩
 |k+1,hk,hok=>by
  obtain ⟨h1,h2,h3⟩:=qP hm h (k:=k) (by omega) fun j hj=>hok j (by omega)
  obtain ⟨x0,x1⟩:=eZ h (k:=k) (by omega)
  have hl:=BP (g:=g) (f:=fK g p k) (x:=bL p k) (o:=kC p (bL p k))
  have OH:=AN h x0 x1
  refine ⟨jN hm h1 (hok k (by omega)) (er h x0 x1), ?_, ?_⟩
  ·show (fK g p k).pl++ [bL p k]=_
   rw [h2,List.take_add_one,List.getElem?_eq_getElem (by rw [dA h];omega),bL,List.getD_eq_getElem?_getD,List.getElem?_eq_getElem (by rw [dA h];omega)]
   rfl
  ·show (aD _ _ _ _).2.row.length≤_
   rw [Nat.add_mul];omega
theorem Eb {g:Gr} {p:Pl} (h:b7 g p) {k:Nat} (hk:k<g.n.toNat) (hR:x7 g p k=true):eY g (fK g p k) (bL p k) (kC p (bL p k))=aD g (fK g p k) (bL p k) (kC p (bL p k)):=by
 have hp:=er h (eZ h hk).1 (eZ h hk).2
 unfold eY
 have KF:aC g (fK g p k) (bL p k)=true:=hR
 rw [if_neg (by rw [KF];simp),if_neg]
 rintro (h|⟨i,h1,h2⟩)
 ·exact h hp.length_eq
 ·exact h2 (hp.mem_iff.2 h1)
theorem Ec {g:Gr} {p:Pl} {k:Nat} (hR:x7 g p k=false):eY g (fK g p k) (bL p k) (kC p (bL p k))=(([],3),fK g p k):=if_pos hR
theorem tj {g:Gr} {p:Pl} :∀ {k:Nat},(kQ g p k).length=g.n.toNat
 |0=>by simp [kQ]
 |k+1=>by rw [kQ,List.length_set,tj]
theorem B0 {α:Type} {l:List α} {i j:Nat} {a d:α} (hi:i<l.length):(l.set i a).getD j d=if j=i then a else l.getD j d:=by
 rw [List.getD_eq_getElem?_getD,List.getElem?_set,List.getD_eq_getElem?_getD]
 by_cases h:i=j
 ·subst h;simp [hi]
 ·rw [if_neg h,if_neg (Ne.symm h)]
theorem AO {g:Gr} {p:Pl} (h:b7 g p):∀ {k:Nat},k≤g.n.toNat→∀ {i:Nat},i<k→(kQ g p k).getD (bL p i).toNat []=uI g p i
 |0,_,i,hi=>by omega
 |k+1,hk,i,hi=>by
  have hm:=eZ h (k:=k) (by omega)
  rw [kQ,B0 (by rw [tj];omega)]
  by_cases e:i=k
  ·subst e;rw [if_pos rfl]
  ·have Kt:=eZ h (k:=i) (by omega)
   rw [if_neg (fun h2=>e (AL h (by omega) (by omega) (by omega)))]
   exact AO h (by omega) (by omega)
theorem FP {g:Gr} (hm:aY g=true) {p:Pl} :(gm p.ord g.n=true∧p.outs.length=g.n.toNat∧(∀x:Nat,x<p.outs.length→∀i∈p.outs.getD x [],i∈bq g x)∧p.outs.flatten.Nodup∧∀i:Nat,i<g.es.length→(i:Int)∈p.outs.flatten)↔b7 g p:=by
 have hn:=bM hm
 constructor
 ·rintro ⟨h1,h2,h3,h4,h5⟩
  refine ⟨h2, ?_,fun x hx=> ?_⟩
  ·obtain ⟨e1,e2⟩:=bZ.1 h1
   exact wg gw e2 (by rw [jO];omega)
  ·have hxl:x<p.outs.length:=by omega
   have hmem:p.outs.getD x []∈p.outs:=aO hxl
   have dB:(p.outs.getD x []).Nodup:=by
    rw [List.Nodup,List.pairwise_flatten] at h4
    exact h4.1 _ hmem
   refine (List.perm_ext_iff_of_nodup dB dI).2 fun i=>⟨h3 x hxl i,fun hi=> ?_⟩
   obtain ⟨k,rfl,hk,ht⟩:=lP hi
   obtain ⟨l,hl,cq⟩:=List.mem_flatten.1 (h5 k hk)
   obtain ⟨y,hy,rfl⟩:=List.mem_iff_getElem.1 hl
   have e:p.outs.getD y []=p.outs[y]:=by rw [List.getD_eq_getElem?_getD,List.getElem?_eq_getElem hy];rfl
   rw [← e] at cq
   obtain ⟨k',e1,_,e2⟩:=lP (h3 y hy _ cq)
   have:k=k':=by omega
   subst this
   have:x=y:=by omega
   subst this
   exact cq
 ·intro h
  refine ⟨bZ.2 ⟨?_,fun x hx=>h.2.1.mem_iff.2 hx⟩,h.1,fun x hx i hi=>(h.2.2 x (by rw [← h.1];exact hx)).mem_iff.1 hi, ?_,fun i hi=> ?_⟩
  ·have:=dA h;omega
  ·rw [List.Nodup,List.pairwise_flatten]
   constructor
   ·intro l hl
    obtain ⟨x,hx,rfl⟩:=List.mem_iff_getElem.1 hl
    have e:p.outs.getD x []=p.outs[x]:=by rw [List.getD_eq_getElem?_getD,List.getElem?_eq_getElem hx];rfl
    rw [← e]
    exact (h.2.2 x (by rw [← h.1];exact hx)).nodup_iff.2 dI
   ·refine List.pairwise_iff_getElem.2 fun x y hx hy hxy a ha b hb e=> ?_
    subst e
    have ex:p.outs.getD x []=p.outs[x]:=by rw [List.getD_eq_getElem?_getD,List.getElem?_eq_getElem hx];rfl
    have ey:p.outs.getD y []=p.outs[y]:=by rw [List.getD_eq_getElem?_getD,List.getElem?_eq_getElem hy];rfl
    rw [← ex] at ha
    rw [← ey] at hb
    obtain ⟨k,e1,_,e2⟩:=lP ((h.2.2 x (by rw [← h.1];exact hx)).mem_iff.1 ha)
    obtain ⟨k',e3,_,e4⟩:=lP ((h.2.2 y (by rw [← h.1];exact hy)).mem_iff.1 hb)
    have:k=k':=by omega
    subst this
    omega
  ·have ht:=(dZ hm hi).1
   refine List.mem_flatten.2 ⟨p.outs.getD (tl g i).toNat [],aO (by rw [h.1];have:0≤tl g i∧tl g i<g.n:=ht;omega), ?_⟩
   have:0≤tl g i∧tl g i<g.n:=ht
   refine (h.2.2 _ (by omega)).mem_iff.2 ?_
   simp only [bq,aX,List.mem_map,List.mem_filter,List.mem_range,decide_eq_true_eq]
   exact ⟨i,⟨hi,by show tl g i=_;omega⟩,rfl⟩
end Go.Ab
end
section
namespace Go.Ab
open Go.Proofs
set_option maxRecDepth 10000
set_option linter.unusedSectionVars false
def AP (lt:Int→Int→Bool) (us:List Int):Nat→Int
 |0=> -1
 |k+1=>if (!decide ((k:Int)∈us))&&(decide (AP lt us k<0)||lt k (AP lt us k)) then k else AP lt us k
def JK (lt:Int→Int→Bool) (n:Nat):Nat→List Int
 |0=> []
 |j+1=>JK lt n j++ [AP lt (JK lt n j) n]
def O4 (lt:Int→Int→Bool) (u v:Int):Prop:=lt u v=true∧lt v u=false
section
variable {lt:Int→Int→Bool} {n:Nat} {ord:List Int} (hp:ord.Perm (fh n)) (hs:ord.Pairwise (O4 lt))
include hp hs
end
def tY (sw:Int→Int→Bool):Int→List Int→Int × List Int
 |a, []=>(a, [])
 |a,c::r=>if sw a c then ((tY sw c r).1,a::(tY sw c r).2) else ((tY sw a r).1,c::(tY sw a r).2)
def FQ (sw:Int→Int→Bool):Nat→List Int→List Int
 |0,l=>l
 |_+1, []=> []
 |n+1,a::r=>(tY sw a r).1::FQ sw n (tY sw a r).2
theorem iN {sw:Int→Int→Bool} :∀ {l:List Int} {a:Int},((tY sw a l).1::(tY sw a l).2).Perm (a::l)
 | [],a=>List.Perm.refl _
 |c::r,a=>by
  rw [tY]
  split
  ·exact (List.Perm.swap ..).trans ((List.Perm.cons a (iN (l:=r) (a:=c))))
  ·exact (List.Perm.swap ..).trans ((List.Perm.cons c (iN (l:=r) (a:=a))).trans (List.Perm.swap ..))
theorem FR {sw:Int→Int→Bool} {l:List Int} {a:Int} :(tY sw a l).2.length=l.length:=by
 have:=(iN (sw:=sw) (l:=l) (a:=a)).length_eq
 simpa using this
theorem oZ {sw:Int→Int→Bool} :∀ {n:Nat} {l:List Int},(FQ sw n l).Perm l
 |0,l=>List.Perm.refl _
 |_+1, []=>List.Perm.refl _
 |n+1,a::r=>by
  rw [FQ]
  exact (List.Perm.cons _ oZ).trans iN
section
variable {sw:Int→Int→Bool} {R:Int→Int→Prop} {S:Int→Prop} (htr:∀a b c,S a→S b→S c→R a b→R b c→R a c) (hsw:∀a c,S a→S c→a≠c→if sw a c=true then R c a else R a c)
include htr hsw
theorem wh:∀ {l:List Int} {a:Int},(a::l).Nodup→(∀x∈a::l,S x)→((tY sw a l).1=a∨R (tY sw a l).1 a)∧∀y∈(tY sw a l).2,R (tY sw a l).1 y
 | [],a,_,_=>⟨.inl rfl,fun y hy=>by cases hy⟩
 |c::r,a,hn,hS=>by
  have hac:a≠c:=fun e=>by subst e;simp at hn
  have h0:=hsw a c (hS a (by simp)) (hS c (by simp)) hac
  have n1:(c::r).Nodup:=(List.nodup_cons.1 hn).2
  have n2:(a::r).Nodup:=by
   rw [List.nodup_cons] at hn ⊢
   exact ⟨fun h=>hn.1 (by simp [h]),(List.nodup_cons.1 hn.2).2⟩
  rw [tY]
  split at h0<;>rename_i hs
  ·rw [if_pos hs]
   obtain ⟨h1,h2⟩:=wh (l:=r) (a:=c) n1 fun x hx=>hS x (by simp at hx ⊢;rcases hx with h|h<;>simp [h])
   have MH:S (tY sw c r).1:=hS _ (by have:=(iN (sw:=sw) (l:=r) (a:=c)).mem_iff.1 (List.mem_cons_self ..);simp at this ⊢;rcases this with h|h<;>simp [h])
   have hma:R (tY sw c r).1 a:=by
    rcases h1 with h1|h1
    ·rw [h1];exact h0
    ·exact htr _ _ _ MH (hS c (by simp)) (hS a (by simp)) h1 h0
   exact ⟨.inr hma,fun y hy=>(List.mem_cons.1 hy).elim (fun e=>e ▸ hma) (h2 y)⟩
  ·rw [if_neg hs]
   obtain ⟨h1,h2⟩:=wh (l:=r) (a:=a) n2 fun x hx=>hS x (by simp at hx ⊢;rcases hx with h|h<;>simp [h])
   have MH:S (tY sw a r).1:=hS _ (by have:=(iN (sw:=sw) (l:=r) (a:=a)).mem_iff.1 (List.mem_cons_self ..);simp at this ⊢;rcases this with h|h<;>simp [h])
   have E3:R (tY sw a r).1 c:=by
    rcases h1 with h1|h1
    ·rw [h1];exact h0
    ·exact htr _ _ _ MH (hS a (by simp)) (hS c (by simp)) h1 h0
   exact ⟨h1,fun y hy=>(List.mem_cons.1 hy).elim (fun e=>e ▸ E3) (h2 y)⟩
theorem nF:∀ {n:Nat} {l:List Int},l.length≤n→l.Nodup→(∀x∈l,S x)→(FQ sw n l).Pairwise R
 |0,l,h,_,_=>by
  have:l= []:=List.eq_nil_of_length_eq_zero (by omega)
  subst this;exact List.Pairwise.nil
 |n+1, [],_,_,_=>List.Pairwise.nil
 |n+1,a::r,h,hn,hS=>by
  rw [FQ,List.pairwise_cons]
  have hp:=iN (sw:=sw) (l:=r) (a:=a)
  refine ⟨fun y hy=>(wh htr hsw hn hS).2 y (oZ.mem_iff.1 hy),nF (by rw [FR];simpa using h) (List.nodup_cons.1 (hp.nodup_iff.2 hn)).2 fun x hx=>hS x (hp.mem_iff.1 (by simp [hx]))⟩
end
def QG (sw:Int→Int→Bool) (a:Int) (done todo:List Int):List Int:=(tY sw a todo).1::FQ sw (done.length+todo.length) (done++(tY sw a todo).2)
end Go.Ab
end
section
namespace Go.Ab
set_option maxRecDepth 10000
structure PS where
 m:Nat
 src:Int
 JL:Int
 tl:Int→Int
 hd:Int→Int
 ins:Int→List Int
 outs:Int→List Int
 MI:Int→Nat
 Row:Nat→List Int→List Int→Prop
 k0:Nat
def PS.E (P:PS) (e:Int):Prop:=0≤e∧e<P.m
structure PS.Ok (P:PS):Prop where
 x8:∀x e,e∈P.outs x↔P.E e∧P.tl e=x
 kD:∀x e,e∈P.ins x↔P.E e∧P.hd e=x
 qQ:∀x,(P.outs x).Nodup
 Ee:∀x,(P.ins x).Nodup
 Ef:∀e,P.E e→P.MI (P.tl e)<P.MI (P.hd e)
 HD:P.Row P.k0 (P.outs P.src) [P.src]
 zx:∀ {k W D},P.Row k W D→W.Nodup
 qR:∀ {k W D},P.Row k W D→∀e,e∈W↔P.E e∧P.tl e∈D∧P.hd e∉D
 tq:∀ {k W D},P.Row (k+1) W D→∃x A C,W=A++P.ins x++C∧P.ins x≠ []
 tr:∀ {k W D x A C},P.Row k W D→W=A++P.ins x++C→P.ins x≠ []→∃k',k=k'+1∧P.Row k' (A++P.outs x++C) (D++ [x])
 wj:∀ {W D},P.Row 0 W D→∀e,P.E e→P.hd e∈D
 AQ:∀ {k W D},P.Row k W D→P.src∈D
 AR:∀ {k W D},P.Row k W D→P.JL∈D→k=0
 zy:P.ins P.src= []
 AS:∀x,P.ins x≠ []→(P.outs x= []↔x=P.JL)
theorem p5 {l:List Int} :l.reverse.Nodup↔l.Nodup:=(List.reverse_perm l).nodup_iff
def PS.Cw (P:PS):PS:= {P with ins:=fun x=>(P.ins x).reverse,outs:=fun x=>(P.outs x).reverse,Row:=fun k W D=>P.Row k W.reverse D}
theorem PS.Ok.Cw {P:PS} (h:P.Ok):P.Cw.Ok:=
 {x8:=fun x e=>by show e∈(P.outs x).reverse↔_;rw [List.mem_reverse];exact h.x8 x e
  kD:=fun x e=>by show e∈(P.ins x).reverse↔_;rw [List.mem_reverse];exact h.kD x e
  qQ:=fun x=>by show (P.outs x).reverse.Nodup;exact p5.2 (h.qQ x)
  Ee:=fun x=>by show (P.ins x).reverse.Nodup;exact p5.2 (h.Ee x)
  Ef:=h.Ef
  HD:=by show P.Row _ (P.outs P.src).reverse.reverse _;rw [List.reverse_reverse];exact h.HD
  zx:=fun {k W D} hr=>p5.1 (h.zx (show P.Row k W.reverse D from hr))
  qR:=fun {k W D} hr e=>by
   have:=h.qR (show P.Row k W.reverse D from hr) e
   rw [List.mem_reverse] at this
   exact this
  tq:=fun {k W D} hr=>by
   obtain ⟨x,A,C,h1,h2⟩:=h.tq (show P.Row (k+1) W.reverse D from hr)
   refine ⟨x,C.reverse,A.reverse, ?_,fun h3=>h2 (List.reverse_eq_nil_iff.1 h3)⟩
   show W=C.reverse++(P.ins x).reverse++A.reverse
   rw [← List.reverse_reverse W,h1]
   simp
  tr:=fun {k W D x A C} hr h1 h2=>by
   have h1:W=A++(P.ins x).reverse++C:=h1
   obtain ⟨k',h3,h4⟩:=h.tr (x:=x) (A:=C.reverse) (C:=A.reverse) (show P.Row k W.reverse D from hr) (by rw [h1];simp) (fun h3=>h2 (List.reverse_eq_nil_iff.2 h3))
   refine ⟨k',h3, ?_⟩
   show P.Row k' (A++(P.outs x).reverse++C).reverse (D++ [x])
   have e:(A++(P.outs x).reverse++C).reverse=C.reverse++P.outs x++A.reverse:=by simp
   rw [e];exact h4
  wj:=fun {W D} hr=>h.wj (show P.Row 0 W.reverse D from hr)
  AQ:=fun {k W D} hr=>h.AQ (show P.Row k W.reverse D from hr)
  AR:=fun {k W D} hr=>h.AR (show P.Row k W.reverse D from hr)
  zy:=by show (P.ins P.src).reverse= [];rw [h.zy];rfl
  AS:=fun x hx=>by
   have h2:P.ins x≠ []:=fun h3=>hx (by show (P.ins x).reverse= [];rw [h3];rfl)
   show (P.outs x).reverse= []↔_
   rw [List.reverse_eq_nil_iff];exact h.AS x h2}
structure MS where
 A:List Int
 B:List Int
 D:List Int
def PS.next (P:PS) (s:MS):MS:=
 match s.B with
 | []=>s
 |e::B=>if P.ins (P.hd e)<:+s.A++ [e] then ⟨(s.A++ [e]).take (s.A.length+1 - (P.ins (P.hd e)).length),P.outs (P.hd e)++B,s.D++ [P.hd e]⟩ else ⟨s.A++ [e],B,s.D⟩
def PS.st (P:PS):Nat→MS
 |0=>⟨[],P.outs P.src, [P.src]⟩
 |j+1=>P.next (P.st j)
def PS.sh (P:PS) (j:Nat):Int:=(P.st j).B.headD 0
def PS.Cx (P:PS) (j:Nat):List Int:=(List.range j).map P.sh
variable {P:PS}
theorem PS.tu {j:Nat} :P.Cx (j+1)=P.Cx j++ [P.sh j]:=by simp [PS.Cx,List.range_succ]
theorem PS.FT {j:Nat} :(P.Cx j).length=j:=by simp [PS.Cx]
structure PS.Inv (P:PS) (j:Nat) (s:MS):Prop where
 row:∃k,P.Row k (s.A++s.B) s.D
 no:∀h,P.ins h≠ []→¬P.ins h<:+:s.A
 nd:(P.Cx j).Nodup
 sh:∀e,e∈P.Cx j↔P.E e∧(e∈s.A∨P.hd e∈s.D)
 len:j≤P.m
theorem mz:∀ {l m:List Int},l.Nodup→(∀i∈l,i∈m)→l.length≤m.length
 | [],_,_,_=>Nat.zero_le _
 |a::l,m,hn,h=>by
  rw [List.nodup_cons] at hn
  have ha:=h a (List.mem_cons_self ..)
  have:=mz (m:=m.erase a) hn.2 fun i hi=>(List.mem_erase_of_ne (show i≠a from fun e=>hn.1 (by rw [← e];exact hi))).2 (h i (List.mem_cons_of_mem _ hi))
  rw [List.length_erase_of_mem ha] at this
  have:=List.length_pos_of_mem ha
  rw [List.length_cons];omega
theorem B3 {l:List Int} {m:Nat} (hall:∀e:Int,0≤e→e<m→e∈l):m≤l.length:=by
 have:=mz (l:=(List.range m).map Int.ofNat) (m:=l) (List.pairwise_map.2 (List.nodup_range.imp fun hab e=>hab (Int.ofNat.inj e))) fun x hx=>by
  obtain ⟨a,ha,rfl⟩:=List.mem_map.1 hx
  have:=List.mem_range.1 ha
  exact hall _ (by simp) (by simp;omega)
 simpa using this
theorem x9 {X Y:List Int} (h:X<:+Y):Y=Y.take (Y.length - X.length)++X:=by
 obtain ⟨t,rfl⟩:=h
 simp
theorem PS.Inv.more (h:P.Ok) {j:Nat} {s:MS} (hi:P.Inv j s) (hj:j<P.m):∃e B,s.B=e::B:=by
 cases hB:s.B with
 |cons e B=>exact ⟨e,B,rfl⟩
 |nil=>
  exfalso
  obtain ⟨k,hr⟩:=hi.row
  rw [hB,List.append_nil] at hr
  cases k with
  |succ k=>
   obtain ⟨x,A,C,h1,h2⟩:=h.tq hr
   exact hi.no x h2 ⟨A,C,h1.symm⟩
  |zero=>
   have hall:∀e,P.E e→e∈P.Cx j:=fun e he=>(hi.sh e).2 ⟨he, .inr (h.wj hr e he)⟩
   have:=B3 (fun e h1 h2=>hall e ⟨h1,h2⟩)
   rw [PS.FT] at this
   omega
theorem PS.B4 {s:MS} {e:Int} {B:List Int} (hB:s.B=e::B):P.next s=if P.ins (P.hd e)<:+s.A++ [e] then ⟨(s.A++ [e]).take (s.A.length+1 - (P.ins (P.hd e)).length),P.outs (P.hd e)++B,s.D++ [P.hd e]⟩ else ⟨s.A++ [e],B,s.D⟩:=by
 unfold PS.next;rw [hB]
theorem PS.zA (h:P.Ok) {s:MS} {k:Nat} {e:Int} {B:List Int} (hr:P.Row k (s.A++s.B) s.D) (hB:s.B=e::B):
 P.E e∧((∃A',s.A++ [e]=A'++P.ins (P.hd e)∧P.ins (P.hd e)≠ []∧P.next s=⟨A',P.outs (P.hd e)++B,s.D++ [P.hd e]⟩)∨(¬P.ins (P.hd e)<:+s.A++ [e]∧P.next s=⟨s.A++ [e],B,s.D⟩)):=by
 have he:P.E e:=((h.qR hr e).1 (by rw [hB];simp)).1
 refine ⟨he, ?_⟩
 rw [PS.B4 hB]
 by_cases hs:P.ins (P.hd e)<:+s.A++ [e]
 ·rw [if_pos hs]
  refine .inl ⟨_, ?_,fun h0=> ?_,rfl⟩
  ·have:=x9 hs
   simpa using this
  ·have:=(h.kD (P.hd e) e).2 ⟨he,rfl⟩
   rw [h0] at this;cases this
 ·rw [if_neg hs];exact .inr ⟨hs,rfl⟩
theorem zB {X A:List Int} {e:Int} (h:X<:+:A++ [e]):X<:+:A∨X<:+A++ [e]:=by
 obtain ⟨s,t,ht⟩:=h
 rcases List.eq_nil_or_concat t with rfl|⟨t',a,rfl⟩
 ·rw [List.append_nil] at ht;exact .inr ⟨s,ht⟩
 ·left
  refine ⟨s,t', ?_⟩
  have:s++X++t'++ [a]=A++ [e]:=by rw [← ht];simp
  exact (List.append_inj' this rfl).1
theorem PS.inv (h:P.Ok):∀j,j≤P.m→P.Inv j (P.st j)
 |0,_=>⟨⟨_,h.HD⟩,fun x hx hs=>hx (by
    have:P.ins x<:+: []:=hs
    simpa using this),by simp [PS.Cx],fun e=>(by
     simp only [PS.Cx,List.range_zero,List.map_nil,List.not_mem_nil,false_iff]
     rintro ⟨he,h1|h1⟩
     ·cases h1
     ·have h1:P.hd e∈ [P.src]:=h1
      have h2:P.hd e=P.src:=by simpa using h1
      have:=(h.kD P.src e).2 ⟨he,h2⟩
      rw [h.zy] at this;cases this),Nat.zero_le _⟩
 |j+1,hj=>by
  have hi:=PS.inv h j (by omega)
  obtain ⟨e,B,hB⟩:=hi.more h (by omega)
  obtain ⟨k,hr⟩:=hi.row
  have hsh:P.sh j=e:=by unfold PS.sh;rw [hB];rfl
  have O5:e∈(P.st j).A++(P.st j).B:=by rw [hB];simp
  have hm:=(h.qR hr e).1 O5
  have dB:=h.zx hr
  have O6:e∉(P.st j).A:=fun hA=>by
   rw [List.nodup_append] at dB
   exact dB.2.2 e hA e (by rw [hB];simp) rfl
  have hnew:e∉P.Cx j:=fun h1=>by
   rcases ((hi.sh e).1 h1).2 with h2|h2
   ·exact O6 h2
   ·exact hm.2.2 h2
  have JM:(P.Cx (j+1)).Nodup:=by
   rw [PS.tu,hsh,List.nodup_append]
   exact ⟨hi.nd,by simp,fun a ha b hb=>by
    rw [List.mem_singleton] at hb
    subst hb
    intro e2;exact hnew (e2 ▸ ha)⟩
  obtain ⟨he,hc⟩:=PS.zA h hr hB
  have hst:P.st (j+1)=P.next (P.st j):=rfl
  rw [hst]
  rcases hc with ⟨A',h1,h2,h3⟩|⟨h1,h3⟩
  ·rw [h3]
   have hrow:(P.st j).A++(P.st j).B=A'++P.ins (P.hd e)++B:=by rw [hB, ← h1];simp
   obtain ⟨k',rfl,hr'⟩:=h.tr hr hrow h2
   refine ⟨⟨k',by simpa using hr'⟩,fun x hx hs=> ?_,JM,fun f=> ?_,hj⟩
   ·have hs:P.ins x<:+:A':=hs
    have hA:¬P.ins x<:+:(P.st j).A:=hi.no x hx
    obtain ⟨u,v,huv⟩:=hs
    rcases List.eq_nil_or_concat (P.ins (P.hd e)) with h0|⟨I',a,h0⟩
    ·exact h2 h0
    ·rw [h0, ← List.concat_eq_append,List.concat_eq_append] at h1
     have h4:(P.st j).A++ [e]=(A'++I')++ [a]:=by rw [h1];simp
     have h5:=(List.append_inj' h4 rfl).1
     exact hA ⟨u,v++I',by rw [h5, ← huv];simp⟩
   ·rw [PS.tu,hsh,List.mem_append,List.mem_singleton,hi.sh f]
    show _↔P.E f∧(f∈A'∨P.hd f∈(P.st j).D++ [P.hd e])
    constructor
    ·rintro (⟨h4,h5|h5⟩|rfl)
     ·have:f∈A'++P.ins (P.hd e):=by rw [← h1];exact List.mem_append.2 (.inl h5)
      rcases List.mem_append.1 this with h6|h6
      ·exact ⟨h4, .inl h6⟩
      ·exact ⟨h4, .inr (by rw [((h.kD _ _).1 h6).2];simp)⟩
     ·exact ⟨h4, .inr (List.mem_append.2 (.inl h5))⟩
     ·exact ⟨he, .inr (by simp)⟩
    ·rintro ⟨h4,h5|h5⟩
     ·have:f∈(P.st j).A++ [e]:=by rw [h1];exact List.mem_append.2 (.inl h5)
      rcases List.mem_append.1 this with h6|h6
      ·exact .inl ⟨h4, .inl h6⟩
      ·exact .inr (by simpa using h6)
     ·rcases List.mem_append.1 h5 with h6|h6
      ·exact .inl ⟨h4, .inr h6⟩
      ·have h6:P.hd f=P.hd e:=by simpa using h6
       have h7:f∈P.ins (P.hd e):=(h.kD _ _).2 ⟨h4,h6⟩
       have:f∈(P.st j).A++ [e]:=by rw [h1];exact List.mem_append.2 (.inr h7)
       rcases List.mem_append.1 this with h8|h8
       ·exact .inl ⟨h4, .inl h8⟩
       ·exact .inr (by simpa using h8)
  ·rw [h3]
   refine ⟨⟨k,by simpa [hB] using hr⟩,fun x hx hs=> ?_,JM,fun f=> ?_,hj⟩
   ·rcases zB hs with h4|h4
    ·exact hi.no x hx h4
    ·have hne:e∈P.ins x:=by
      obtain ⟨t,ht⟩:=h4
      rcases List.eq_nil_or_concat (P.ins x) with h0|⟨I',a,h0⟩
      ·exact absurd h0 hx
      ·rw [h0] at ht
       have h5:(t++I')++ [a]=(P.st j).A++ [e]:=by rw [← ht];simp
       have:=(List.append_inj' h5 rfl).2
       rw [h0];simp at this ⊢;exact .inr this.symm
     rw [((h.kD _ _).1 hne).2] at h1
     exact h1 h4
   ·rw [PS.tu,hsh,List.mem_append,List.mem_singleton,hi.sh f]
    show _↔P.E f∧(f∈(P.st j).A++ [e]∨P.hd f∈(P.st j).D)
    rw [List.mem_append,List.mem_singleton]
    constructor
    ·rintro (⟨h4,h5|h5⟩|rfl)
     ·exact ⟨h4, .inl (.inl h5)⟩
     ·exact ⟨h4, .inr h5⟩
     ·exact ⟨he, .inl (.inr rfl)⟩
    ·rintro ⟨h4,(h5|h5)|h5⟩
     ·exact .inl ⟨h4, .inl h5⟩
     ·exact .inr h5
     ·exact .inl ⟨h4, .inr h5⟩
end Go.Ab
end
section
namespace Go.Ab
set_option maxRecDepth 10000
set_option linter.unusedSectionVars false
variable {P:PS}
structure PS.jP (P:PS) (L R:Int→Int) (f0 f1:Int) (low:Int→Int):Prop where
 ne:f0≠f1
 mA:∀ {x u a b v},P.outs x=u++a::b::v→R a=L b
 zC:∀ {x u a b v},P.ins x=u++a::b::v→R a=L b
 fst:∀ {x a u b v},P.ins x=a::u→P.outs x=b::v→L a=L b
 FO:∀ {x a u b v},P.ins x=u++ [a]→P.outs x=v++ [b]→R a=R b
 s0:∀ {b v},P.outs P.src=b::v→L b=f0
 s1:∀ {b v},P.outs P.src=v++ [b]→R b=f1
 new:∀ {x u a b v},P.outs x=u++a::b::v→low (R a)=x∧R a≠f0∧R a≠f1
 new1:∀ {x u a b v u' a' b' v'},P.outs x=u++a::b::v→P.outs x=u'++a'::b'::v'→R a=R a'→a=a'
theorem Eg {l u v u' v':List Int} {a:Int} (hn:l.Nodup) (h1:l=u++a::v) (h2:l=u'++a::v'):u=u'∧v=v':=by
 induction u generalizing l u' with
 |nil=>
  cases u' with
  |nil=>rw [h1] at h2;simpa using h2
  |cons b u'=>
   rw [h1] at h2
   simp only [List.nil_append,List.cons_append,List.cons.injEq] at h2
   rw [h1,h2.2] at hn
   simp at hn
 |cons b u ih=>
  cases u' with
  |nil=>
   rw [h2] at h1
   simp only [List.nil_append,List.cons_append,List.cons.injEq] at h1
   rw [h2,h1.2] at hn
   simp at hn
  |cons b' u'=>
   have h3:=h1.symm.trans h2
   simp only [List.cons_append,List.cons.injEq] at h3
   rw [h1,List.cons_append,List.nodup_cons] at hn
   obtain ⟨h4,h5⟩:=ih hn.2 rfl h3.2
   exact ⟨by rw [h3.1,h4],h5⟩
theorem ig {l u v:List Int} {a b:Int} (h:l.reverse=u++a::b::v):l=v.reverse++b::a::u.reverse:=by
 have:=congrArg List.reverse h
 simpa using this
theorem PS.jP.Cw (h:P.Ok) {L R:Int→Int} {f0 f1:Int} {low:Int→Int} (F:P.jP L R f0 f1 low):P.Cw.jP R L f1 f0 low:=
 {ne:=F.ne.symm
  mA:=fun {x u a b v} h=>(F.mA (ig (show (P.outs x).reverse=_ from h))).symm
  zC:=fun {x u a b v} h=>(F.zC (ig (show (P.ins x).reverse=_ from h))).symm
  fst:=fun {x a u b v} h1 h2=>F.FO (x:=x) (u:=u.reverse) (v:=v.reverse) (by
     have:=congrArg List.reverse (show (P.ins x).reverse=_ from h1);simpa using this) (by
     have:=congrArg List.reverse (show (P.outs x).reverse=_ from h2);simpa using this)
  FO:=fun {x a u b v} h1 h2=>F.fst (x:=x) (u:=u.reverse) (v:=v.reverse) (by
    have:=congrArg List.reverse (show (P.ins x).reverse=_ from h1);simpa using this) (by
    have:=congrArg List.reverse (show (P.outs x).reverse=_ from h2);simpa using this)
  s0:=fun {b v} h1=>F.s1 (v:=v.reverse) (by
     have:=congrArg List.reverse (show (P.outs P.src).reverse=_ from h1);simpa using this)
  s1:=fun {b v} h1=>F.s0 (v:=v.reverse) (by
     have:=congrArg List.reverse (show (P.outs P.src).reverse=_ from h1);simpa using this)
  new:=fun {x u a b v} h1=>by
   have h2:=ig (show (P.outs x).reverse=_ from h1)
   obtain ⟨h3,h4,h5⟩:=F.new h2
   have h6:=F.mA h2
   rw [← h6];exact ⟨h3,h5,h4⟩
  new1:=fun {x u a b v u' a' b' v'} h1 h2 h3=>by
   have g1:=ig (show (P.outs x).reverse=_ from h1)
   have g2:=ig (show (P.outs x).reverse=_ from h2)
   rw [← F.mA g1, ← F.mA g2] at h3
   have h4:=F.new1 g1 g2 h3
   subst h4
   have:=(Eg (h.qQ x) g1 g2).2
   simp only [List.cons.injEq] at this
   exact this.1}
def o3 (L R:Int→Int):Int→List Int→Prop
 |_, []=>True
 |f,a::W=>L a=f∧o3 L R (R a) W
def p6 (R:Int→Int):Int→List Int→Int
 |f, []=>f
 |_,a::W=>p6 R (R a) W
theorem jQ {L R:Int→Int} :∀ {A B:List Int} {f:Int},o3 L R f (A++B)↔o3 L R f A∧o3 L R (p6 R f A) B
 | [],B,f=>by simp [o3,p6]
 |a::A,B,f=>by simp [o3,p6,jQ,and_assoc]
theorem gI {R:Int→Int} :∀ {A B:List Int} {f:Int},p6 R f (A++B)=p6 R (p6 R f A) B
 | [],B,f=>rfl
 |a::A,B,f=>by simp [p6,gI]
theorem uJ {R:Int→Int} {A:List Int} {a f:Int} :p6 R f (A++ [a])=R a:=by rw [gI];rfl
theorem ya {L R:Int→Int} :∀ {X:List Int} {f:Int},(∀u a b v,X=u++a::b::v→R a=L b)→(∀a u,X=a::u→L a=f)→o3 L R f X
 | [],f,_,_=>trivial
 |a::X,f,h,h1=>⟨h1 a X rfl,ya (fun u b c v e=>h (a::u) b c v (by rw [e];rfl)) fun b v e=>(h [] a b v (by rw [e];rfl)).symm⟩
theorem AT {l:List Int} (h:l≠ []):∃u a,l=u++ [a]:=by
 rcases List.eq_nil_or_concat l with h1|⟨u,a,h1⟩
 ·exact absurd h1 h
 ·exact ⟨u,a,by rw [h1,List.concat_eq_append]⟩
theorem wk {l:List Int} (h:l≠ []):∃a u,l=a::u:=by
 cases l with
 |nil=>exact absurd rfl h
 |cons a u=>exact ⟨a,u,rfl⟩
structure HE (L R:Int→Int) (f0 f1:Int) (low:Int→Int) (W D:List Int):Prop where
 lk:o3 L R f0 W
 en:p6 R f0 W=f1
 nd:(W.map R).Nodup
 lo:∀a∈W,R a≠f0∧(R a=f1∨(R a≠f1∧low (R a)∈D))
theorem B5 {X U V Y:List Int} {r:Int} (h:(X++(U++ [r])++Y).Nodup) (hV:V.Nodup) (hd:∀z∈V,z∉X∧z≠r∧z∉Y):(X++(V++ [r])++Y).Nodup:=by
 have h1:(X++ [r]++Y).Nodup:=by
  refine List.Nodup.sublist ?_ h
  refine List.Sublist.append (List.Sublist.append (List.Sublist.refl _) ?_) (List.Sublist.refl _)
  exact List.sublist_append_right ..
 have h2:(V++(X++ [r]++Y)).Nodup:=by
  rw [List.nodup_append]
  refine ⟨hV,h1,fun a ha b hb e=> ?_⟩
  subst e
  obtain ⟨g1,g2,g3⟩:=hd a ha
  simp only [List.mem_append,List.mem_singleton] at hb
  rcases hb with (hb|hb)|hb
  ·exact g1 hb
  ·exact g2 hb
  ·exact g3 hb
 refine (List.Perm.nodup_iff ?_).1 h2
 have:X++(V++ [r])++Y=(X++V)++([r]++Y):=by simp
 rw [this]
 have:V++(X++ [r]++Y)=(V++X)++([r]++Y):=by simp
 rw [this]
 exact List.Perm.append_right _ List.perm_append_comm
theorem mS {R:Int→Int} :∀ {l:List Int},l.Nodup→(∀a∈l,∀b∈l,R a=R b→a=b)→(l.map R).Nodup
 | [],_,_=>by simp
 |a::l,hn,h=>by
  rw [List.nodup_cons] at hn
  rw [List.map_cons,List.nodup_cons]
  refine ⟨fun hm=> ?_,mS hn.2 fun x hx y hy=>h x (List.mem_cons_of_mem _ hx) y (List.mem_cons_of_mem _ hy)⟩
  obtain ⟨b,hb,e⟩:=List.mem_map.1 hm
  have:=h b (List.mem_cons_of_mem _ hb) a (List.mem_cons_self ..) e
  exact hn.1 (this ▸ hb)
section
variable (h:P.Ok) {L R:Int→Int} {f0 f1:Int} {low:Int→Int} (F:P.jP L R f0 f1 low)
include h F
theorem nG {v:List Int} {b:Int} {x:Int} (hv:P.outs x=v++ [b]) {a:Int} (ha:a∈v):∃u c w,P.outs x=u++a::c::w:=by
 obtain ⟨s,t,rfl⟩:=List.append_of_mem ha
 cases t with
 |nil=>exact ⟨s,b, [],by rw [hv];simp⟩
 |cons c t=>exact ⟨s,c,t++ [b],by rw [hv];simp⟩
theorem B6 {x f:Int} (hf:∀b v,P.outs x=b::v→L b=f):o3 L R f (P.outs x):=ya (fun u a b v e=>F.mA e) fun a u e=>hf a u e
theorem FU {x:Int} {v:List Int} {b:Int} (hv:P.outs x=v++ [b]):(v.map R).Nodup∧∀z∈v.map R,low z=x∧z≠f0∧z≠f1:=by
 have hn:=h.qQ x
 rw [hv,List.nodup_append] at hn
 refine ⟨mS hn.1 fun a ha a' JN e=> ?_,fun z hz=> ?_⟩
 ·obtain ⟨u,c,w,h1⟩:=nG h F hv ha
  obtain ⟨u',c',w',h2⟩:=nG h F hv JN
  exact F.new1 h1 h2 e
 ·obtain ⟨a,ha,rfl⟩:=List.mem_map.1 hz
  obtain ⟨u,c,w,h1⟩:=nG h F hv ha
  exact F.new h1
theorem HE.step {A C D:List Int} {x:Int} (hi:HE L R f0 f1 low (A++P.ins x++C) D) (hI:P.ins x≠ []) (hO:P.outs x≠ []) (hx:x∉D):HE L R f0 f1 low (A++P.outs x++C) (D++ [x]):=by
 obtain ⟨u,a,hu⟩:=AT hI
 obtain ⟨v,b,hv⟩:=AT hO
 obtain ⟨a0,u0,MJ⟩:=wk hI
 obtain ⟨b0,v0,IB⟩:=wk hO
 have hab:=F.FO hu hv
 have h0:=F.fst MJ IB
 obtain ⟨l1,l2⟩:=jQ.1 hi.lk
 obtain ⟨l3,l4⟩:=jQ.1 l1
 have NC:∀f,p6 R f (P.ins x)=R a:=fun f=>by rw [hu,uJ]
 have ND:∀f,p6 R f (P.outs x)=R b:=fun f=>by rw [hv,uJ]
 have hL:L a0=p6 R f0 A:=by rw [MJ] at l4;exact l4.1
 obtain ⟨n1,n2⟩:=FU h F hv
 have dB:=hi.nd
 have hlo:=hi.lo
 refine ⟨?_, ?_, ?_,fun c hc=> ?_⟩
 ·rw [jQ,jQ]
  refine ⟨⟨l3,B6 h F fun b' v' e=> ?_⟩, ?_⟩
  ·rw [IB] at e
   simp only [List.cons.injEq] at e
   rw [← e.1, ← h0,hL]
  ·rw [gI,ND]
   rw [gI,NC] at l2
   rw [← hab];exact l2
 ·have:=hi.en
  rw [gI,gI,NC] at this
  rw [gI,gI,ND, ← hab];exact this
 ·rw [List.map_append,List.map_append,hv,List.map_append]
  rw [List.map_append,List.map_append,hu,List.map_append] at dB
  simp only [List.map_cons,List.map_nil] at dB ⊢
  rw [← hab]
  have hold:∀c∈A++P.ins x++C,R c∉v.map R:=fun c hc hz=>by
   obtain ⟨g1,g2,g3⟩:=n2 _ hz
   rcases (hlo c hc).2 with h1|⟨_,h1⟩
   ·exact g3 h1
   ·rw [g1] at h1;exact hx h1
  refine B5 dB n1 fun z hz=>⟨fun Gl=> ?_,fun Gl=> ?_,fun Gl=> ?_⟩
  ·obtain ⟨c,hc,rfl⟩:=List.mem_map.1 Gl
   exact hold c (by simp [hc]) hz
  ·exact hold a (by rw [hu];simp) (Gl ▸ hz)
  ·obtain ⟨c,hc,rfl⟩:=List.mem_map.1 Gl
   exact hold c (by simp [hc]) hz
 ·have hold:∀c∈A++P.ins x++C,R c≠f0∧(R c=f1∨(R c≠f1∧low (R c)∈D++ [x])):=fun c hc=>by
   obtain ⟨g1,g2⟩:=hlo c hc
   exact ⟨g1,g2.imp id fun ⟨g3,g4⟩=>⟨g3,List.mem_append.2 (.inl g4)⟩⟩
  simp only [List.mem_append] at hc
  rcases hc with (hc|hc)|hc
  ·exact hold c (by simp [hc])
  ·rw [hv,List.mem_append,List.mem_singleton] at hc
   rcases hc with hc|rfl
   ·obtain ⟨g1,g2,g3⟩:=n2 (R c) (List.mem_map_of_mem hc)
    exact ⟨g2, .inr ⟨g3,by rw [g1];simp⟩⟩
   ·have:=hold a (by rw [hu];simp)
    rw [hab] at this;exact this
  ·exact hold c (by simp [hc])
end
end Go.Ab
end
section
namespace Go.Ab
set_option maxRecDepth 10000
set_option linter.unusedSectionVars false
variable {P:PS}
inductive PS.Eh (P:PS) (x:Int):Int→Prop
 |refl:P.Eh x x
 |step {e:Int} :P.Eh x (P.tl e)→P.E e→P.Eh x (P.hd e)
theorem PS.Eh.trans {x y z:Int} (h1:P.Eh x y) (h2:P.Eh y z):P.Eh x z:=by
 induction h2 with
 |refl=>exact h1
 |step _ he ih=>exact .step ih he
inductive PS.Lp (P:PS) (L R:Int→Int) (F:Int):Int→Prop
 |refl:P.Lp L R F F
 |step {e:Int} :P.Lp L R F (L e)→P.E e→P.Lp L R F (R e)
theorem PS.Lp.trans {L R:Int→Int} {x y z:Int} (h1:P.Lp L R x y) (h2:P.Lp L R y z):P.Lp L R x z:=by
 induction h2 with
 |refl=>exact h1
 |step _ he ih=>exact .step ih he
theorem PS.Lp.head {L R:Int→Int} {e z:Int} (he:P.E e) (h2:P.Lp L R (R e) z):P.Lp L R (L e) z:=(PS.Lp.step .refl he).trans h2
theorem PS.Lp.Cw {L R:Int→Int} {x y:Int} (h1:P.Lp L R x y):P.Cw.Lp R L y x:=by
 induction h1 with
 |refl=>exact .refl
 | @step e h1 he ih=>exact PS.Lp.head (P:=P.Cw) (L:=R) (R:=L) (e:=e) he ih
theorem PS.Eh.Cw {x y:Int} (h1:P.Eh x y):P.Cw.Eh x y:=by
 induction h1 with
 |refl=>exact .refl
 |step h1 he ih=>exact PS.Eh.step (P:=P.Cw) ih he
section
variable (h:P.Ok)
include h
variable {L R:Int→Int} {f0 f1:Int} {low:Int→Int} (F:P.jP L R f0 f1 low)
include F
end
end Go.Ab
end
section
namespace Go.Ab
set_option maxRecDepth 10000
set_option linter.unusedSectionVars false
variable {P:PS}
section
variable (h:P.Ok) {L R:Int→Int} {f0 f1:Int} {low:Int→Int} (F:P.jP L R f0 f1 low)
include h F
end
section
variable (h:P.Ok) {L R:Int→Int} {f0 f1:Int} {low:Int→Int} (F:P.jP L R f0 f1 low) {e f:Int} (he:P.E e) (hf:P.E f)
include h F he hf
end
section
variable (h:P.Ok) {L R:Int→Int} {f0 f1:Int} {low:Int→Int} (F:P.jP L R f0 f1 low) {e f:Int} (he:P.E e) (hf:P.E f)
include h F he hf
end
end Go.Ab
end
section
namespace Go.Ab
open Go.Proofs
set_option maxRecDepth 10000
def uK (g:Gr) (p:Pl) (f:Fr) (x:Int):Fr:=(aD g f x (kC p x)).2
def JO (g:Gr) (p:Pl):Nat→Fr→Prop
 |0,f=>(f.pl.length:Int)=g.n
 |m+1,f=>∃x,aC g f x=true∧JO g p m (uK g p f x)
def JP (rev:Bool) (l:List It):List It:=if rev=true then l.reverse else l
def Ei (g:Gr) (f:Fr) (rev:Bool):Int:=match (JP rev f.row).find? (fun t=>aC g f t.2.2) with
 |some t=>t.2.2
 |none=>(HA g f).headD (-1)
def AU (g:Gr) (p:Pl) (rev:Bool):Nat→Fr
 |0=>⟨[], []⟩
 |k+1=>uK g p (AU g p rev k) (Ei g (AU g p rev k) rev)
def Ej (g:Gr) (p:Pl) (rev:Bool):Nat→List Int
 |0=>List.replicate g.n.toNat 0
 |k+1=>(Ej g p rev k).set (Ei g (AU g p rev k) rev).toNat (k:Int)
def O7 (g:Gr) (p:Pl) (rev:Bool):List Int:=(List.range g.n.toNat).map fun k=>Ei g (AU g p rev k) rev
end Go.Ab
end
section
namespace Go.Ab
open Go.Proofs
set_option maxRecDepth 10000
def O8 (f:Fr):Fr:=⟨f.row.reverse,f.pl⟩
def O9 (p:Pl):Pl:=⟨p.ord,p.outs.map List.reverse⟩
theorem gh.rev {x:Int} {l:List It} (h:gh x l):gh x l.reverse:=fun t ht=>h t (List.mem_reverse.1 ht)
theorem BR.rev {x:Int} {X:List It} (h:BR x X):BR x X.reverse:=
 ⟨by obtain ⟨X',q,h1,h2⟩:=h.FO;exact ⟨q,X'.reverse,by simp [h1],h2⟩,by obtain ⟨p,X',h1,h2⟩:=h.fst;exact ⟨X'.reverse,p,by simp [h1],h2⟩,fun t ht=>h.al t (List.mem_reverse.1 ht)⟩
end Go.Ab
end
section
namespace Go.Ab
open Go.Proofs
set_option maxRecDepth 10000
def loose (l:List It):List Int:=(l.filter fun t=>decide (t.1<0)).map fun t=>t.2.1
def JQ (g:Gr) (p:Pl):Nat→List Edge
 |0=> []
 |k+1=>JQ g p k++(loose (uI g p k)).map fun v=>(v,bL p k)
def uL (g:Gr) (p:Pl):List It:=(fK g p g.n.toNat).row
def newL (g:Gr) (p:Pl):List Edge:=if 1<(uL g p).length then (loose (uL g p)).map fun v=>(v,g.n) else []
def JR (g:Gr) (p:Pl):List Edge:=JQ g p g.n.toNat++newL g p
def Ek (g:Gr) (p:Pl):Gr:=⟨if 1<(uL g p).length then g.n+1 else g.n,g.es++JR g p⟩
def JS:Nat→List Edge→List (List Int)→List (List Int)
 |_, [],O=>O
 |m,e::N,O=>JS (m+1) N (O.set e.1.toNat [(m:Int)])
def MK (g:Gr) (p:Pl):Pl:=⟨if 1<(uL g p).length then p.ord++ [g.n] else p.ord,JS g.es.length (JR g p) (if 1<(uL g p).length then p.outs++ [[]] else p.outs)⟩
def Pa (g:Gr) (p:Pl) (x:Gr):List (List Int):=(List.range x.n.toNat).map fun v=>if 0<(p.outs.getD v []).length then p.outs.getD v [] else bq x (v:Int)
end Go.Ab
end
section
namespace Go.Ab
open Go.Proofs
set_option maxRecDepth 10000
abbrev Act:=Int × List Int
def rA (a:Act):List D:= [.sc (.int .i64 a.1),sI a.2]
def sA (as':List Act):D:= .sl 2 (as'.map rA)
attribute [go_sem] sA
def JT (g:Gr) (HF:List Act):Nat→Fr
 |0=>⟨[], []⟩
 |k+1=>(eY g (JT g HF k) (HF.getD k (0, [])).1 (HF.getD k (0, [])).2).2
theorem JU {g:Gr} {f:Fr} (hi:iL g f):(f.pl.length:Int)≤g.n∨f.pl= []:=by
 by_cases h:f.pl= []
 ·exact .inr h
 ·left
  obtain ⟨y,hy⟩:=List.exists_mem_of_ne_nil _ h
  have:=hi.zm y hy
  have h3:=nE hi.pl (m:=(List.range g.n.toNat).map Int.ofNat) (fun y hy=>by
   rw [List.mem_map]
   have:=hi.zm y hy
   exact ⟨y.toNat,List.mem_range.2 (by omega),by simp;omega⟩)
  simp at h3
  omega
end Go.Ab
end
section
namespace Go.Ab
open Go.Proofs
attribute [local congr] ACall.congr gd.congr Nx.congr
set_option maxRecDepth 10000
set_option maxHeartbeats 4000000
def ePl (p:Pl):AV:= .agg [.d (sI p.ord), .d (.sl 1 (vI p.outs))]
attribute [go_sem] ePl
structure AW (p:Pl):Prop where
 ord:p.ord.length≤17592186043904
 outs:p.outs.length≤9223372036854775807
 each:∀l∈p.outs,l.length≤17592186043904
end Go.Ab
end
section
namespace Go.Ab
open Go.Proofs
attribute [local congr] ACall.congr gd.congr Nx.congr
set_option maxRecDepth 10000
set_option maxHeartbeats 8000000
def nH (m:Nat) (fl:List Int):List Int:=(List.range m).map fun i:Nat=>if (i:Int)∈fl then (1:Int) else 0
theorem yb {m:Nat} {fl:List Int} :(nH m fl).length=m:=by simp [nH]
theorem B7 {m:Nat} :nH m []=List.replicate m 0:=by
 refine List.ext_getElem (by simp [nH]) fun i h1 h2=> ?_
 simp [nH]
theorem AX {m:Nat} {fl:List Int} {i:Nat} (h:i<m):(nH m fl).getD i 0=if (i:Int)∈fl then 1 else 0:=by
 simp [nH,List.getD_eq_getElem?_getD,List.getElem?_range h]
theorem El {m:Nat} {fl:List Int} {i:Nat} (h:i<m):(nH m fl).set i 1=nH m (fl++ [(i:Int)]):=by
 refine List.ext_getElem (by simp [nH]) fun j h1 h2=> ?_
 rw [List.getElem_set]
 simp only [nH,List.getElem_map,List.getElem_range,List.mem_append,List.mem_singleton]
 by_cases e:i=j
 ·subst e;simp
 ·rw [if_neg e]
  have:¬(j:Int)=(i:Int):=by omega
  simp [this]
theorem Em {outs:List (List Int)} {x k:Nat} (hx:x<outs.length):((outs.take x).flatten++(outs.getD x []).take k).Sublist outs.flatten:=by
 have e:outs=outs.take x++outs.getD x []::outs.drop (x+1):=by
  conv=>lhs;rw [← List.take_append_drop x outs]
  congr 1
  rw [List.drop_eq_getElem_cons hx,List.getD_eq_getElem?_getD,List.getElem?_eq_getElem hx]
  rfl
 conv=>rhs;rw [e]
 rw [List.flatten_append,List.flatten_cons]
 exact List.Sublist.append (List.Sublist.refl _) ((List.take_sublist _ _).trans (List.sublist_append_left _ _))
theorem zD {l:List Int} {k:Nat} (h:k<l.length):l.take (k+1)=l.take k++ [l.getD k 0]:=by
 rw [List.take_add_one,List.getD_eq_getElem?_getD,List.getElem?_eq_getElem h];rfl
theorem o4 {g:Gr} {x i:Int} :i∈bq g x↔(0≤i∧i<g.es.length)∧(g.es.getD i.toNat (0,0)).1=x:=by
 constructor
 ·exact gy
 ·rintro ⟨⟨h1,h2⟩,h3⟩
  simp only [bq,aX,List.mem_map,List.mem_filter,List.mem_range,decide_eq_true_eq]
  exact ⟨i.toNat,⟨by omega,h3⟩,by simp;omega⟩
theorem En (g:Gr) (hl:g.es.length≤9223372036854775807) (p:Pl) (hp:AW p) (res:Bool) (hr:res=true↔(cR g).1=0∧b7 g p):Spec Tryz.prog 110 (Args [eG g,ePl p]) [] (eB res) []:=by
 have ho:p.ord.length≤9223372036854775807:=by have:=hp.ord;omega
 have Kl:=hp.outs
 by_cases hc:(cR g).1=0
 rotate_left
 ·have hres:res=false:=by
   rw [← Bool.not_eq_true,hr]
   rintro ⟨h,_⟩
   exact hc h
  subst hres
  have aJ:decide ((cR g).1=0)=false:=decide_eq_false hc
  (refine Spec.hd (C:=T.cfg [] []) (rs:= [.t 4]) (T.ai _ _) Tryz.func110 rfl rfl Tryz.ntmps110 Tryz.results110 (by simp [AObj.isNest]) (by simp [AObj.isNest]) (by kernel_rfl) T.mixed fun X hX hP hC aF bY=> ?_)
  repeat' (first|refine Rn.p ?_|(with_reducible apply And.intro)|((first|(refine hK _ ?_;clear hK K)|with_reducible intro K hK|refine Rs.p ?_|((with_reducible first|apply oP|apply oQ);exact rfl)|refine aa hX hC hP (aW g hl) rfl rfl rfl (by simp only [go_sem,simprocAttr,aJ]) rfl ?_);try simp only [go_sem,simprocAttr,aJ])|((with_reducible refine oD ?_ ?_);kernel_rfl)|((with_reducible intro h);try simp only [go_sem,simprocAttr,aJ] at h)|omega|intro h)
 have aJ:decide ((cR g).1=0)=true:=decide_eq_true hc
 have hm:=cm hc
 have hn:=bM hm
 have hr:res=true↔b7 g p:=by rw [hr];exact ⟨fun h=>h.2,fun h=>⟨hc,h⟩⟩
 rw [← FP hm] at hr
 by_cases he:gm p.ord g.n=true∧p.outs.length=g.n.toNat
 rotate_left
 ·have hres:res=false:=by
   rw [← Bool.not_eq_true,hr]
   rintro ⟨h2,h3,_⟩
   exact he ⟨h2,h3⟩
  subst hres
  cases h2:gm p.ord g.n with
  |false=>
   (refine Spec.hd (C:=T.cfg [] []) (rs:= [.t 4]) (T.ai _ _) Tryz.func110 rfl rfl Tryz.ntmps110 Tryz.results110 (by simp [AObj.isNest]) (by simp [AObj.isNest]) (by kernel_rfl) T.mixed fun X hX hP hC aF bY=> ?_)
   repeat' (first|refine Rn.p ?_|(with_reducible apply And.intro)|((first|(refine hK _ ?_;clear hK K)|with_reducible intro K hK|refine Rs.p ?_|((with_reducible first|apply oP|apply oQ);exact rfl)|refine aa hX hC hP (aW g hl) rfl rfl rfl (by simp only [go_sem,simprocAttr,aJ,h2]) rfl ?_|refine aa hX hC hP (cw p.ord g.n ho) rfl rfl rfl (by simp only [go_sem,simprocAttr,aJ,h2]) rfl ?_);try simp only [go_sem,simprocAttr,aJ,h2])|((with_reducible refine oD ?_ ?_);kernel_rfl)|((with_reducible intro h);try simp only [go_sem,simprocAttr,aJ,h2] at h)|omega|intro h)
  |true=>
   have aK:decide ((p.outs.length:Int)=g.n)=false:=decide_eq_false fun h3=>he ⟨h2,by omega⟩
   (refine Spec.hd (C:=T.cfg [] []) (rs:= [.t 4]) (T.ai _ _) Tryz.func110 rfl rfl Tryz.ntmps110 Tryz.results110 (by simp [AObj.isNest]) (by simp [AObj.isNest]) (by kernel_rfl) T.mixed fun X hX hP hC aF bY=> ?_)
   repeat' (first|refine Rn.p ?_|(with_reducible apply And.intro)|((first|(refine hK _ ?_;clear hK K)|with_reducible intro K hK|refine Rs.p ?_|((with_reducible first|apply oP|apply oQ);exact rfl)|refine aa hX hC hP (aW g hl) rfl rfl rfl (by simp only [go_sem,simprocAttr,aJ,h2,aK]) rfl ?_|refine aa hX hC hP (cw p.ord g.n ho) rfl rfl rfl (by simp only [go_sem,simprocAttr,aJ,h2,aK]) rfl ?_);try simp only [go_sem,simprocAttr,aJ,h2,aK])|((with_reducible refine oD ?_ ?_);kernel_rfl)|((with_reducible intro h);try simp only [go_sem,simprocAttr,aJ,h2,aK] at h)|omega|intro h)
 obtain ⟨pg,vm⟩:=he
 have aK:decide ((p.outs.length:Int)=g.n)=true:=decide_eq_true (by omega)
 (refine Spec.hd (C:=T.cfg [] []) (rs:= [.t 4]) (T.ai _ _) Tryz.func110 rfl rfl Tryz.ntmps110 Tryz.results110 (by simp [AObj.isNest]) (by simp [AObj.isNest]) (by kernel_rfl) T.mixed fun X hX hP hC aF bY=> ?_)
 repeat' (first|refine Rn.p ?_|(with_reducible apply And.intro)|((first|(refine hK _ ?_;clear hK K)|with_reducible intro K hK|refine Rs.p ?_|((with_reducible first|apply oP|apply oQ);exact rfl)|refine aa hX hC hP (aW g hl) rfl rfl rfl (by simp only [go_sem,simprocAttr,aJ,pg,aK]) rfl ?_|refine aa hX hC hP (cw p.ord g.n ho) rfl rfl rfl (by simp only [go_sem,simprocAttr,aJ,pg,aK]) rfl ?_);try simp only [go_sem,simprocAttr,aJ,pg,aK])|((with_reducible refine oD ?_ ?_);kernel_rfl)|((with_reducible intro h);try simp only [go_sem,simprocAttr,aJ,pg,aK] at h)|omega|intro h)
 clear aJ aK
 have JV:List.replicate g.es.length [D.sc (.int .i64 0)]=(nH g.es.length []).map rI:=by rw [B7,List.map_replicate];rfl
 rw [JV]
 clear JV
 refine ag (fun x:Nat=>x≤p.outs.length∧(p.outs.take x).flatten.Nodup∧∀y:Nat,y<x→∀i∈p.outs.getD y [],i∈bq g y) (fun x=>⟨[(2, .ptr 2 0),(3, .ptr 3 0),(5, .ref 32),(6,eN x)], [(32, .own 3 1 ((nH g.es.length (p.outs.take x).flatten).map rI)),(3, .box [.d (sI p.ord), .d (.sl 1 (vI p.outs))]),(2, .box [eN g.n, .d (sE g.es)])]⟩) (fun x=>p.outs.length - x) 0 (by simp) ?_ ?_
 ·refine Le.of ?_ ?_<;>simp [go_sem,simprocAttr]
 rintro x ⟨hx,dB,Eo⟩
 rcases Nat.lt_or_ge x p.outs.length with hxl|Mw
 ·have hb:decide ((x:Int)<(p.outs.length:Int))=true:=decide_eq_true (by omega)
  have hv:=AF hxl
  have hle:=hp.each _ (aO (d:= []) hxl)
  have hpre:=fun k=>Em (k:=k) hxl
  have hnext:(p.outs.take (x+1)).flatten=(p.outs.take x).flatten++p.outs.getD x []:=by
   rw [List.take_add_one,List.flatten_append,List.getD_eq_getElem?_getD,List.getElem?_eq_getElem hxl];simp
  have lX:∀i∈p.outs.getD x [],i∉bq g x→res=false:=fun i hi hn=>by
   rw [← Bool.not_eq_true,hr]
   rintro ⟨_,_,h3,_⟩
   exact hn (h3 x hxl i hi)
  have Cs:∀k,¬((p.outs.take x).flatten++(p.outs.getD x []).take k).Nodup→res=false:=fun k hn=>by
   rw [← Bool.not_eq_true,hr]
   rintro ⟨_,_,_,h4,_⟩
   exact hn (List.Nodup.sublist (hpre k) h4)
  have Gi:(∀i∈p.outs.getD x [],i∈bq g x)→∀y:Nat,y<x+1→∀i∈p.outs.getD y [],i∈bq g y:=fun h y hy=>by
   by_cases e:y=x
   ·subst e;exact h
   ·exact Eo y (by omega)
  generalize p.outs.getD x []=l at hv hle hpre hnext lX Cs Gi
  generalize (p.outs.take x).flatten=fl at dB hpre hnext Cs
  clear hpre
  repeat' (first|refine Rn.p ?_|(with_reducible apply And.intro)|((first|(refine hK _ ?_;clear hK K)|with_reducible intro K hK|refine Rs.p ?_|((with_reducible first|apply oP|apply oQ);exact rfl)|refine aa hX hC hP (aW g hl) rfl rfl rfl (by simp only [go_sem,simprocAttr,hb,hv]) rfl ?_|refine aa hX hC hP (cw p.ord g.n ho) rfl rfl rfl (by simp only [go_sem,simprocAttr,hb,hv]) rfl ?_);try simp only [go_sem,simprocAttr,hb,hv])|((with_reducible refine oD ?_ ?_);kernel_rfl)|((with_reducible intro h);try simp only [go_sem,simprocAttr,hb,hv] at h)|omega|intro h)
  clear hb
  refine ag (fun k:Nat=>k≤l.length∧(fl++l.take k).Nodup∧∀i∈l.take k,i∈bq g x) (fun k=>⟨[(2, .ptr 2 0),(3, .ptr 3 0),(5, .ref 32),(6,eN x),(7,eN k)], [(32, .own 3 1 ((nH g.es.length (fl++l.take k)).map rI)),(3, .box [.d (sI p.ord), .d (.sl 1 (vI p.outs))]),(2, .box [eN g.n, .d (sE g.es)])]⟩) (fun k=>l.length - k) 0 (by simpa using dB) ?_ ?_
  ·refine Le.of ?_ ?_<;>simp [go_sem,simprocAttr]
  rintro k ⟨hk,Bk,E1⟩
  rcases Nat.lt_or_ge k l.length with cq|Gb
  ·have hbk:decide ((k:Int)<(l.length:Int))=true:=decide_eq_true (by omega)
   have JW:=zD cq
   have him:=aO (d:=0) cq
   have gY:=yb (m:=g.es.length) (fl:=fl++l.take k)
   generalize hi:l.getD k 0=i at JW him
   by_cases h0:i<0
   ·have hres:=lX i him (fun h=>by have:=(o4.1 h).1;omega)
    subst hres
    have aJ:decide (i<0)=true:=decide_eq_true h0
    repeat' (first|refine Rn.p ?_|(with_reducible apply And.intro)|((first|(refine hK _ ?_;clear hK K)|with_reducible intro K hK|refine Rs.p ?_|((with_reducible first|apply oP|apply oQ);exact rfl)|refine aa hX hC hP (aW g hl) rfl rfl rfl (by simp only [go_sem,simprocAttr,hbk,hv,hi,aJ]) rfl ?_|refine aa hX hC hP (cw p.ord g.n ho) rfl rfl rfl (by simp only [go_sem,simprocAttr,hbk,hv,hi,aJ]) rfl ?_);try simp only [go_sem,simprocAttr,hbk,hv,hi,aJ])|((with_reducible refine oD ?_ ?_);kernel_rfl)|((with_reducible intro h);try simp only [go_sem,simprocAttr,hbk,hv,hi,aJ] at h)|omega|intro h)
   have aJ:decide (i<0)=false:=decide_eq_false h0
   by_cases h1:(g.es.length:Int)≤i
   ·have hres:=lX i him (fun h=>by have:=(o4.1 h).1;omega)
    subst hres
    have aK:decide ((g.es.length:Int)≤i)=true:=decide_eq_true h1
    repeat' (first|refine Rn.p ?_|(with_reducible apply And.intro)|((first|(refine hK _ ?_;clear hK K)|with_reducible intro K hK|refine Rs.p ?_|((with_reducible first|apply oP|apply oQ);exact rfl)|refine aa hX hC hP (aW g hl) rfl rfl rfl (by simp only [go_sem,simprocAttr,hbk,hv,hi,aJ,aK,gY]) rfl ?_|refine aa hX hC hP (cw p.ord g.n ho) rfl rfl rfl (by simp only [go_sem,simprocAttr,hbk,hv,hi,aJ,aK,gY]) rfl ?_);try simp only [go_sem,simprocAttr,hbk,hv,hi,aJ,aK,gY])|((with_reducible refine oD ?_ ?_);kernel_rfl)|((with_reducible intro h);try simp only [go_sem,simprocAttr,hbk,hv,hi,aJ,aK,gY] at h)|omega|intro h)
   have aK:decide ((g.es.length:Int)≤i)=false:=decide_eq_false h1
   obtain ⟨e,rfl⟩:∃e:Nat,i=e:=⟨i.toNat,by omega⟩
   have hel:e<g.es.length:=by omega
   by_cases h2:(g.es.getD e (0,0)).1=x
   rotate_left
   ·have hres:=lX _ him (fun h=>h2 (by have:=(o4.1 h).2;rwa [Int.toNat_natCast] at this))
    subst hres
    have cQ:decide ((g.es.getD e (0,0)).1=(x:Int))=false:=decide_eq_false h2
    repeat' (first|refine Rn.p ?_|(with_reducible apply And.intro)|((first|(refine hK _ ?_;clear hK K)|with_reducible intro K hK|refine Rs.p ?_|((with_reducible first|apply oP|apply oQ);exact rfl)|refine aa hX hC hP (aW g hl) rfl rfl rfl (by simp only [go_sem,simprocAttr,hbk,hv,hi,aJ,aK,cQ,gY]) rfl ?_|refine aa hX hC hP (cw p.ord g.n ho) rfl rfl rfl (by simp only [go_sem,simprocAttr,hbk,hv,hi,aJ,aK,cQ,gY]) rfl ?_);try simp only [go_sem,simprocAttr,hbk,hv,hi,aJ,aK,cQ,gY])|((with_reducible refine oD ?_ ?_);kernel_rfl)|((with_reducible intro h);try simp only [go_sem,simprocAttr,hbk,hv,hi,aJ,aK,cQ,gY] at h)|omega|intro h)
   have cQ:decide ((g.es.getD e (0,0)).1=(x:Int))=true:=decide_eq_true h2
   have qt:=AX (fl:=fl++l.take k) hel
   by_cases h3:(e:Int)∈fl++l.take k
   ·have hres:=Cs (k+1) (fun h=>by
     rw [JW, ← List.append_assoc,List.nodup_append] at h
     exact h.2.2 _ h3 _ (List.mem_singleton.2 rfl) rfl)
    subst hres
    rw [if_pos h3] at qt
    repeat' (first|refine Rn.p ?_|(with_reducible apply And.intro)|((first|(refine hK _ ?_;clear hK K)|with_reducible intro K hK|refine Rs.p ?_|((with_reducible first|apply oP|apply oQ);exact rfl)|refine aa hX hC hP (aW g hl) rfl rfl rfl (by simp only [go_sem,simprocAttr,hbk,hv,hi,aJ,aK,cQ,gY,qt]) rfl ?_|refine aa hX hC hP (cw p.ord g.n ho) rfl rfl rfl (by simp only [go_sem,simprocAttr,hbk,hv,hi,aJ,aK,cQ,gY,qt]) rfl ?_);try simp only [go_sem,simprocAttr,hbk,hv,hi,aJ,aK,cQ,gY,qt])|((with_reducible refine oD ?_ ?_);kernel_rfl)|((with_reducible intro h);try simp only [go_sem,simprocAttr,hbk,hv,hi,aJ,aK,cQ,gY,qt] at h)|omega|intro h)
   ·rw [if_neg h3] at qt
    have eL:=El (fl:=fl++l.take k) hel
    rw [List.append_assoc, ← JW] at eL
    repeat' (first|refine Rn.p ?_|(with_reducible apply And.intro)|((first|(refine hK _ ?_;clear hK K)|with_reducible intro K hK|refine Rs.p ?_|((with_reducible first|apply oP|apply oQ);exact rfl)|refine aa hX hC hP (aW g hl) rfl rfl rfl (by simp only [go_sem,simprocAttr,hbk,hv,hi,aJ,aK,cQ,gY,qt]) rfl ?_|refine aa hX hC hP (cw p.ord g.n ho) rfl rfl rfl (by simp only [go_sem,simprocAttr,hbk,hv,hi,aJ,aK,cQ,gY,qt]) rfl ?_);try simp only [go_sem,simprocAttr,hbk,hv,hi,aJ,aK,cQ,gY,qt])|((with_reducible refine oD ?_ ?_);kernel_rfl)|((with_reducible intro h);try simp only [go_sem,simprocAttr,hbk,hv,hi,aJ,aK,cQ,gY,qt] at h)|omega|intro h)
    refine ⟨k+1,⟨by omega, ?_, ?_⟩, ?_,by omega⟩
    ·rw [JW, ← List.append_assoc,List.nodup_append]
     exact ⟨Bk,by simp,fun a ha b hb h=>h3 (by rw [List.mem_singleton] at hb;rw [← hb, ← h];exact ha)⟩
    ·intro j hj
     rw [JW,List.mem_append,List.mem_singleton] at hj
     rcases hj with hj|rfl
     ·exact E1 j hj
     ·exact o4.2 ⟨⟨by omega,by omega⟩,by rw [Int.toNat_natCast];exact h2⟩
    ·rw [← eL]
     refine Le.of ?_ ?_<;>simp [go_sem,simprocAttr,hbk,hv,hi,aJ,aK,cQ,gY,qt,rI]
  ·have hbk:decide ((k:Int)<(l.length:Int))=false:=decide_eq_false (by omega)
   obtain rfl:k=l.length:=by omega
   rw [List.take_length] at Bk E1
   repeat' (first|refine Rn.p ?_|(with_reducible apply And.intro)|((first|(refine hK _ ?_;clear hK K)|with_reducible intro K hK|refine Rs.p ?_|((with_reducible first|apply oP|apply oQ);exact rfl)|refine aa hX hC hP (aW g hl) rfl rfl rfl (by simp only [go_sem,simprocAttr,hbk,hv]) rfl ?_|refine aa hX hC hP (cw p.ord g.n ho) rfl rfl rfl (by simp only [go_sem,simprocAttr,hbk,hv]) rfl ?_);try simp only [go_sem,simprocAttr,hbk,hv])|((with_reducible refine oD ?_ ?_);kernel_rfl)|((with_reducible intro h);try simp only [go_sem,simprocAttr,hbk,hv] at h)|omega|intro h)
   refine ⟨x+1,⟨by omega,by rw [hnext];exact Bk,Gi E1⟩, ?_,by omega⟩
   rw [hnext]
   refine Le.of ?_ ?_<;>simp [go_sem,simprocAttr,hbk,hv]
 have hb:decide ((x:Int)<(p.outs.length:Int))=false:=decide_eq_false (by omega)
 obtain rfl:x=p.outs.length:=by omega
 rw [List.take_length] at dB
 rw [List.take_length]
 have gY:=yb (m:=g.es.length) (fl:=p.outs.flatten)
 repeat' (first|refine Rn.p ?_|(with_reducible apply And.intro)|((first|(refine hK _ ?_;clear hK K)|with_reducible intro K hK|refine Rs.p ?_|((with_reducible first|apply oP|apply oQ);exact rfl)|refine aa hX hC hP (aW g hl) rfl rfl rfl (by simp only [go_sem,simprocAttr,hb]) rfl ?_|refine aa hX hC hP (cw p.ord g.n ho) rfl rfl rfl (by simp only [go_sem,simprocAttr,hb]) rfl ?_);try simp only [go_sem,simprocAttr,hb])|((with_reducible refine oD ?_ ?_);kernel_rfl)|((with_reducible intro h);try simp only [go_sem,simprocAttr,hb] at h)|omega|intro h)
 clear hb
 refine ag (fun k:Nat=>k≤g.es.length∧∀i:Nat,i<k→(i:Int)∈p.outs.flatten) (fun k=>⟨[(5, .ref 32),(9,eN k)], [(32, .own 3 1 ((nH g.es.length p.outs.flatten).map rI))]⟩) (fun k=>g.es.length - k) 0 (by simp) ?_ ?_
 ·refine Le.of ?_ ?_<;>simp [go_sem,simprocAttr]
 rintro k ⟨hk,E1⟩
 rcases Nat.lt_or_ge k g.es.length with cq|Gb
 ·have hbk:decide ((k:Int)<(g.es.length:Int))=true:=decide_eq_true (by omega)
  have qt:=AX (fl:=p.outs.flatten) cq
  by_cases h3:(k:Int)∈p.outs.flatten
  ·rw [if_pos h3] at qt
   repeat' (first|refine Rn.p ?_|(with_reducible apply And.intro)|((first|(refine hK _ ?_;clear hK K)|with_reducible intro K hK|refine Rs.p ?_|((with_reducible first|apply oP|apply oQ);exact rfl)|refine aa hX hC hP (aW g hl) rfl rfl rfl (by simp only [go_sem,simprocAttr,hbk,gY,qt]) rfl ?_|refine aa hX hC hP (cw p.ord g.n ho) rfl rfl rfl (by simp only [go_sem,simprocAttr,hbk,gY,qt]) rfl ?_);try simp only [go_sem,simprocAttr,hbk,gY,qt])|((with_reducible refine oD ?_ ?_);kernel_rfl)|((with_reducible intro h);try simp only [go_sem,simprocAttr,hbk,gY,qt] at h)|omega|intro h)
   refine ⟨k+1,⟨by omega,fun i hi=> ?_⟩, ?_,by omega⟩
   ·by_cases e:i=k
    ·subst e;exact h3
    ·exact E1 i (by omega)
   ·(refine Le.of ?_ ?_<;>simp [go_sem,simprocAttr,hbk,gY,qt])
  ·rw [if_neg h3] at qt
   have hres:res=false:=by
    rw [← Bool.not_eq_true,hr]
    rintro ⟨_,_,_,_,h5⟩
    exact h3 (h5 k cq)
   subst hres
   repeat' (first|refine Rn.p ?_|(with_reducible apply And.intro)|((first|(refine hK _ ?_;clear hK K)|with_reducible intro K hK|refine Rs.p ?_|((with_reducible first|apply oP|apply oQ);exact rfl)|refine aa hX hC hP (aW g hl) rfl rfl rfl (by simp only [go_sem,simprocAttr,hbk,gY,qt]) rfl ?_|refine aa hX hC hP (cw p.ord g.n ho) rfl rfl rfl (by simp only [go_sem,simprocAttr,hbk,gY,qt]) rfl ?_);try simp only [go_sem,simprocAttr,hbk,gY,qt])|((with_reducible refine oD ?_ ?_);kernel_rfl)|((with_reducible intro h);try simp only [go_sem,simprocAttr,hbk,gY,qt] at h)|omega|intro h)
 ·have hbk:decide ((k:Int)<(g.es.length:Int))=false:=decide_eq_false (by omega)
  obtain rfl:k=g.es.length:=by omega
  have hres:res=true:=hr.2 ⟨pg,vm,Eo,dB,E1⟩
  subst hres
  repeat' (first|refine Rn.p ?_|(with_reducible apply And.intro)|((first|(refine hK _ ?_;clear hK K)|with_reducible intro K hK|refine Rs.p ?_|((with_reducible first|apply oP|apply oQ);exact rfl)|refine aa hX hC hP (aW g hl) rfl rfl rfl (by simp only [go_sem,simprocAttr,hbk,gY]) rfl ?_|refine aa hX hC hP (cw p.ord g.n ho) rfl rfl rfl (by simp only [go_sem,simprocAttr,hbk,gY]) rfl ?_);try simp only [go_sem,simprocAttr,hbk,gY])|((with_reducible refine oD ?_ ?_);kernel_rfl)|((with_reducible intro h);try simp only [go_sem,simprocAttr,hbk,gY] at h)|omega|intro h)
end Go.Ab
end
section
namespace Go.Ab
open Go.Proofs
attribute [local congr] ACall.congr gd.congr Nx.congr
set_option maxRecDepth 10000
set_option maxHeartbeats 8000000
def fk (b:Bool) (g:Gr) (p:Pl):(List (List It) × List It) × Int × Int:=
 if b=false then (([], []),(1,0)) else
 match lQ g p g.n.toNat with
 |some i=>(([], []),(3,(i:Int)))
 |none=>((kQ g p g.n.toNat,(fK g p g.n.toNat).row),(0,0))
theorem HG {n:Nat} :List.replicate n [D.sl 3 []]=vT (List.replicate n []):=by simp [vT,sT]
theorem HH {ls:List (List It)} {k:Nat} {l:List It} :(vT ls).set k [sT l]=vT (ls.set k l):=by simp [vT,List.map_set]
theorem B8 {g:Gr} {p:Pl} {k:Nat} :kQ g p (k+1)=(kQ g p k).set (bL p k).toNat (uI g p k):=rfl
theorem yc (g:Gr) (hl:g.es.length≤9223372036854775807) (p:Pl) (hp:AW p) (b:Bool) (hr:b=true↔(cR g).1=0∧b7 g p):
 Spec Tryz.prog 58 (Args [eG g,ePl p]) [] (.tup [.d (.sl 1 (vT (fk b g p).1.1)), .d (sT (fk b g p).1.2),eN (fk b g p).2.1,eN (fk b g p).2.2]) []:=by
 have hO:=En g hl p hp b hr
 cases b with
 |false=>
  have hR:fk false g p=(([], []),(1,0)):=rfl
  rw [hR]
  (refine Spec.hd (C:=T.cfg [] []) (rs:= [.t 4, .t 5, .t 6, .t 7]) (T.ai _ _) Tryz.func58 rfl rfl Tryz.ntmps58 Tryz.results58 (by simp [AObj.isNest]) (by simp [AObj.isNest]) (by kernel_rfl) T.mixed fun X hX hP hC aF bY=> ?_)
  repeat' (first|refine Rn.p ?_|(with_reducible apply And.intro)|((first|(refine hK _ ?_;clear hK K)|with_reducible intro K hK|refine Rs.p ?_|((with_reducible first|apply oP|apply oQ);exact rfl)|refine aa hX hC hP (hO) rfl rfl rfl (by simp only [go_sem,simprocAttr,vT,List.map_nil]) rfl ?_);try simp only [go_sem,simprocAttr,vT,List.map_nil])|((with_reducible refine oD ?_ ?_);kernel_rfl)|((with_reducible intro h);try simp only [go_sem,simprocAttr,vT,List.map_nil] at h)|omega|intro h)
 |true=>
 obtain ⟨hc,Im⟩:=hr.1 rfl
 have hm:=cm hc
 have hn:=bM hm
 have hle:=dA Im
 have hR:fk true g p=match lQ g p g.n.toNat with
  |some i=>(([], []),(3,(i:Int)))
  |none=>((kQ g p g.n.toNat,(fK g p g.n.toNat).row),(0,0)):=rfl
 generalize fk true g p=R at hR
 (refine Spec.hd (C:=T.cfg [] []) (rs:= [.t 4, .t 5, .t 6, .t 7]) (T.ai _ _) Tryz.func58 rfl rfl Tryz.ntmps58 Tryz.results58 (by simp [AObj.isNest]) (by simp [AObj.isNest]) (by kernel_rfl) T.mixed fun X hX hP hC aF bY=> ?_)
 repeat' (first|(show cG _ (.seq (.region 4 _ _) _) _ _;(refine xG 20 2 3 rfl rfl rfl ?_;simp only [List.set_cons_zero,List.set_cons_succ,go_sem,simprocAttr]);(refine xG 20 3 1 rfl rfl rfl ?_;simp only [List.set_cons_zero,List.set_cons_succ,go_sem,simprocAttr]))|refine Rn.p ?_|(with_reducible apply And.intro)|((first|(refine hK _ ?_;clear hK K)|with_reducible intro K hK|refine Rs.p ?_|((with_reducible first|apply oP|apply oQ);exact rfl)|refine aa hX hC hP (hO) rfl rfl rfl (by simp only [go_sem,simprocAttr]) rfl ?_);try simp only [go_sem,simprocAttr])|((with_reducible refine oD ?_ ?_);kernel_rfl)|((with_reducible intro h);try simp only [go_sem,simprocAttr] at h)|omega|intro h)
 rw [HG]
 refine ag (fun k:Nat=>k≤g.n.toNat∧∀j,j<k→x7 g p j=true) (fun k=>⟨[(2, .ptr 2 0),(3, .ptr 3 0),(8, .ptr 20 0),(9, .ref 23),(10,eN k)], [(23, .own 64 1 (vT (kQ g p k))),(20, .box (jT g (fK g p k))),(3, .box [.d (sI p.ord), .d (.sl 1 (vI p.outs))]),(2, .box [eN g.n, .d (sE g.es)])]⟩) (fun k=>g.n.toNat - k) 0 (by simp) ?_ ?_
 ·refine Le.of ?_ ?_<;>simp [go_sem,simprocAttr,jT,fK,kQ]
 rintro k ⟨hk,hok⟩
 obtain ⟨hi,_,hrl⟩:=qP hm Im hk hok
 have hel:=tj (g:=g) (p:=p) (k:=k)
 rcases Nat.lt_or_ge k g.n.toNat with hlt|hge
 ·have hb:decide ((k:Int)<(p.ord.length:Int))=true:=decide_eq_true (by omega)
  have ML:=eZ Im hlt
  have ga:=B8 (g:=g) (p:=p) (k:=k)
  have Io:fK g p (k+1)=(aD g (fK g p k) (bL p k) (kC p (bL p k))).2:=rfl
  have Eo:uI g p k=(aD g (fK g p k) (bL p k) (kC p (bL p k))).1.1:=rfl
  have hpk:=Eb Im hlt
  have JX:=Ec (g:=g) (p:=p) (k:=k)
  have hsk:x7 g p k=false→R=(([], []),(3,(k:Int))):=fun h=>by
   rw [hR,th.2 ⟨hlt,h,hok⟩]
  have hmul:k*(g.es.length+1)≤64*129:=Nat.mul_le_mul (by omega) (by omega)
  have pM:=AN Im ML.1 ML.2
  have qI:p.ord.getD k 0=bL p k:=rfl
  have JY:(fK g p k).pl.length≤64:=by
   rcases JU hi.toiL with h|h
   ·omega
   ·rw [h];simp
  obtain ⟨x,hx⟩:∃x:Nat,bL p k=x:=⟨(bL p k).toNat,by omega⟩
  rw [hx] at qI Io Eo hpk JX ML pM ga
  have hxl:x<p.outs.length:=by have:=Im.1;omega
  have hv:=AF hxl
  have hla:kC p (x:Int)=p.outs.getD x []:=by unfold kC;rw [Int.toNat_natCast]
  rw [hla] at Io Eo hpk JX pM
  rw [Int.toNat_natCast] at ga
  have FV:=x3 g (by omega) (fK g p k) (x:Int) (p.outs.getD x []) (by omega) (by omega) (by omega)
  have eL:=HH (ls:=kQ g p k) (k:=x) (l:=uI g p k)
  generalize p.outs.getD x []=o at hv Io Eo hpk JX FV
  rw [← ga] at eL
  generalize fK g p k=f at Io Eo hpk JX FV hi hrl JY
  cases FW:x7 g p k with
  |false=>
   rw [JX FW] at FV
   have Pb:=hsk FW
   subst Pb
   repeat' (first|refine Rn.p ?_|(with_reducible apply And.intro)|((first|(refine hK _ ?_;clear hK K)|with_reducible intro K hK|refine Rs.p ?_|((with_reducible first|apply oP|apply oQ);exact rfl)|(refine bN hX hC hP [(10000,20)] (FV) rfl rfl rfl ?_ ?_ ?_ ?_ ?_ ?_ ?_ ?_ ?_ ?_ ?_ ?_ ?_ ?_;(focus (simp only [go_sem,simprocAttr,hb,qI,hv,jT,vT,List.map_nil];done));(iterate 12 (focus (simp [go_sem,simprocAttr,hb,qI,hv,jT,vT,List.map_nil];done)));try simp only [List.map_cons,List.map_nil]));try simp only [go_sem,simprocAttr,hb,qI,hv,jT,vT,List.map_nil])|((with_reducible refine oD ?_ ?_);kernel_rfl)|((with_reducible intro h);try simp only [go_sem,simprocAttr,hb,qI,hv,jT,vT,List.map_nil] at h)|omega|intro h)
  |true=>
   rw [hpk FW] at FV
   have uM:(aD g f (x:Int) o).1.2=0:=rfl
   rw [Eo] at eL
   generalize aD g f (x:Int) o=su at Io Eo FV uM eL
   have KG:x<(kQ g p k).length:=by omega
   generalize QH:kQ g p k=E at eL KG hel
   have hvl:(vT E).length=E.length:=vT_length
   have JZ:=fun d=>FK KG d
   repeat' (first|refine Rn.p ?_|(with_reducible apply And.intro)|((first|(refine hK _ ?_;clear hK K)|with_reducible intro K hK|refine Rs.p ?_|((with_reducible first|apply oP|apply oQ);exact rfl)|(refine bN hX hC hP [(10000,20)] (FV) rfl rfl rfl ?_ ?_ ?_ ?_ ?_ ?_ ?_ ?_ ?_ ?_ ?_ ?_ ?_ ?_;(focus (simp only [go_sem,simprocAttr,hb,qI,hv,jT,uM,eL,JZ,List.drop_succ_cons,List.drop_zero];done));(iterate 12 (focus (simp [go_sem,simprocAttr,hb,qI,hv,jT,uM,eL,JZ,List.drop_succ_cons,List.drop_zero];done)));try simp only [List.map_cons,List.map_nil]));try simp only [go_sem,simprocAttr,hb,qI,hv,jT,uM,eL,JZ,List.drop_succ_cons,List.drop_zero])|((with_reducible refine oD ?_ ?_);kernel_rfl)|((with_reducible intro h);try simp only [go_sem,simprocAttr,hb,qI,hv,jT,uM,eL,JZ,List.drop_succ_cons,List.drop_zero] at h)|omega|intro h)
   refine ⟨k+1,⟨by omega,fun j hj=> ?_⟩, ?_,by omega⟩
   ·by_cases e:j=k
    ·subst e;exact FW
    ·exact hok j (by omega)
   ·rw [Io]
    have J1:(vT E).set x [D.sl 3 (List.map rT su.1.1)]=vT (kQ g p (k+1)):=eL
    refine Le.of ?_ ?_<;>simp [go_sem,simprocAttr,hb,qI,hv,jT,uM,eL,JZ,List.drop_succ_cons,List.drop_zero,J1]
 have hb:decide ((k:Int)<(p.ord.length:Int))=false:=decide_eq_false (by omega)
 obtain rfl:k=g.n.toNat:=by omega
 rw [iM.2 hok] at hR
 subst hR
 repeat' (first|refine Rn.p ?_|(with_reducible apply And.intro)|((first|(refine hK _ ?_;clear hK K)|with_reducible intro K hK|refine Rs.p ?_|((with_reducible first|apply oP|apply oQ);exact rfl));try simp only [go_sem,simprocAttr,hb,jT])|((with_reducible refine oD ?_ ?_);kernel_rfl)|((with_reducible intro h);try simp only [go_sem,simprocAttr,hb,jT] at h)|omega|intro h)
end Go.Ab
end
section
namespace Go.Ab
open Go.Proofs
attribute [local congr] ACall.congr gd.congr Nx.congr
set_option maxRecDepth 10000
set_option maxHeartbeats 8000000
end Go.Ab
end
