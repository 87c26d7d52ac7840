/- A part of the proof. -/
import Derived.Shelf.SlSortCmp.NoneTotal
import Derived.Deep.QuietTactic
import Derived.WalkKit
import Derived.Sort.Grow
import Derived.Test.YtameldglfobjkaaL3P15
set_option linter.unusedSimpArgs false
set_option linter.unusedVariables false
section
namespace Go.Ab
open Go.Proofs Go.RowKit Go.Shelf Go.Sort
set_option maxRecDepth 10000
set_option maxHeartbeats 4000000
theorem ya (W:World) (b1 o1 n1 c1 b2 o2 n2 c2:Nat) (x y:Int) (hx:0≤x∧x≤1000) (hy:0≤y∧y≤1000) (GI:0<n1) (hn2:0<n2) (h1:W.cell? ⟨b1,o1,none⟩=some (.int .i64 x)) (h2:W.cell? ⟨b2,o2,none⟩=some (.int .i64 y)):
 Calls Try.prog 42 #[.slice (some ⟨b1,o1,none⟩) n1 c1, .slice (some ⟨b2,o2,none⟩) n2 c2] W fun e w'=>e= .returned (.int .i64 (x - y))∧∃q,w'=W.drewN q:=by
 go_enter Try.func42,Try.ntmps42
 go_wp2
 go_quiet (fail)
 go_wp2
 go_ret
 exact ⟨rfl,nq,rfl⟩
def uz (P:Program) (g:Nat) (cb:Array Value) (en:Int→Value) (cf:Int→Int→Int) (l:List Int) (blk:Nat) (w:World):Prop:=
 ∀W:World,w.heap.size≤W.heap.size→(∀b,b<w.heap.size→b≠blk→W.heap[b]? =w.heap[b]?)→∀x,x∈l→∀y,y∈l→
  Calls P g (#[en x,en y]++cb) W fun e w'=>e= .returned (.int .i64 (cf x y))∧∃q os',w'=grow (W.drewN q) os'
theorem ou (g:Nat) (cb:Array Value) (en:Int→Value) (yb:∀x,(en x).oneCell'=true) {cf:Int→Int→Int} {l l':List Int} (S:x7 cf l l') (hlen:l.length≤1000000) (eg:∀args w,(callFunc g args).run Try.prog w= .ok (.enter g args) w)
 (blk cap:Nat) (w:World) {cur:Array Value} {e:TypeId} (hb:w.heap[blk]? =some (.cells cur e (0,0))) (hc:∀i,i<l.length→cur[i]? =some (en (l.getD i 0))) (hne:l≠ [])
 (hcmp:uz Try.prog g cb en cf l blk w):
 Calls Try.prog 41 #[.slice (some ⟨blk,0,none⟩) l.length cap, .func (.func g) #[] cb] w fun Dh w'=>Dh= .returned (.tuple #[])∧
  w'.os=w.os∧w'.tape=w.tape∧w'.output=w.output∧w.heap.size≤w'.heap.size∧(∀b,b<w.heap.size→b≠blk→w'.heap[b]? =w.heap[b]?)∧
  ∃cur',w'.heap[blk]? =some (.cells cur' e (0,0))∧cur'.size=cur.size∧∀i,i<l'.length→cur'[i]? =some (en (l'.getD i 0)):=by
 have hlt:blk<w.heap.size:=(Array.getElem?_eq_some_iff.1 hb).1
 obtain ⟨a0,ha0⟩:∃a,a∈l:=by
  cases l with
  |nil=>exact absurd rfl hne
  |cons a l=>exact ⟨a,by simp⟩
 letI:Inhabited {x // x∈l} :=⟨⟨a0,ha0⟩⟩
 have hsz:(l.attach.toArray).size=l.length:=by simp
 have mI:∀j (hj:j<l.length),((l.attach.toArray)[j]!).1=l.getD j 0:=fun j hj=>by
  rw [getElem!_pos _ j (by simpa using hj),List.getD_eq_getElem?_getD,List.getElem?_eq_getElem hj]
  simp
 have hH:Holds (fun x: {x // x∈l} =>en x.1) w blk 0 l.attach.toArray:=fun j hj=>by
  rw [hsz] at hj
  refine ⟨?_, ?_⟩
  ·show _=some (en ((l.attach.toArray)[j]!).1)
   rw [Nat.zero_add,mI j hj, ← hc j hj]
   simp [World.cell?,hb]
  ·simp [World.frozen?,hb]
 have za:CmpLays1 Try.prog g cb (fun x: {x // x∈l} =>en x.1) (fun x y=>cf x.1 y.1) blk 0 (l.attach.toArray).size w:=fun m os dk _ x y=>
  hcmp _ (fV ..) (fun b h1 h2=>fU _ _ _ _ _ _ h1 h2) x.1 x.2 y.1 y.2
 have AE:=Any.slices_SortFunc Try.ux (fun x: {x // x∈l} =>en x.1) (fun x=>yb x.1) (fun x y=>cf x.1 y.1) S.swo g cb blk 0 cap l.attach.toArray w eg za hH hlt (by rw [hsz];omega)
 rw [hsz] at AE
 refine Calls.mono AE ?_
 rintro Dh w' ⟨rfl,d',n,os,hp,hs,rfl⟩
 rw [← hsz] at hp hs
 have he:=S.eq (d:=l.attach.toArray) (by simp) hp hs
 have hds:d'.size=l.length:=by rw [hp.1,hsz]
 refine ⟨rfl,rfl,rfl,rfl,fV ..,fun b h1 h2=>fU _ _ _ _ _ _ h1 h2,_,kT _ _ _ _ _ _ hb,by simp [putCells],fun i hi=> ?_⟩
 have hi2:i<l.length:=by rw [S.perm.length_eq];exact hi
 have hic:i<cur.size:=(Array.getElem?_eq_some_iff.1 (hc i hi2)).1
 simp only [putCells,Array.getElem?_mapIdx,Array.getElem?_eq_getElem hic,Option.map_some]
 rw [if_pos ⟨by omega,by omega⟩,Nat.sub_zero,getElem!_pos d' i (by omega)]
 have:l'.getD i 0=(d'[i]'(by omega)).1:=by
  rw [← he,List.getD_eq_getElem?_getD,List.getElem?_map,Array.getElem?_toList,Array.getElem?_eq_getElem (by omega)]
  rfl
 rw [this]
theorem iy (p:Option Addr) (cap:Nat) (fv:Value) (w:World):Calls Try.prog 41 #[.slice p 0 cap,fv] w fun e w'=>e= .returned (.tuple #[])∧w'=w:=
 AnyF.slices_SortFunc_none {Try.ux with} p cap fv w
theorem yc {ob:AObj} (hn:ob.isNest=false) {q:Nat} {o:AObj} (h:aF [(10000,ob)] q=some o):q=10000∧o=ob:=by
 have hl:look [(10000,ob)] q=some o:=(cO (fun p hp=>by
  rw [List.mem_singleton] at hp
  subst hp
  exact hn) h).1
 simp only [look] at hl
 split at hl
 ·rename_i e;cases hl;exact ⟨e.symm,rfl⟩
 ·cases hl
def gA (b:List Nat):Int:=((b.headD 0:Nat):Int)
theorem p6 {L L':List (List Nat)} (hp:L.Perm L') (hne:∀b∈L,b≠ []) (b7:(L.map gA).Nodup) (hs:L'.Pairwise fun a b=>gA a<gA b) (hbd:∀b∈L,gA b≤1000) (hlen:L.length≤1000000):
 Spec Try.prog 41 (Args [.ref 10000, .fn 42 [] []]) [(10000, .own 25 1 (L.map kS))] (.tup []) [(10000, .own 25 1 (L'.map kS))]:=by
 refine ⟨⟨Try.f41,_,Try.func41,by kernel_rfl,rfl⟩,fun E w vals hg hA=> ?_⟩
 obtain ⟨v,vs,rfl,h0,h3⟩:=hA
 obtain ⟨v2,GJ,rfl,h1,h4⟩:=h3
 simp only [AVrs] at h4
 subst h4
 obtain ⟨us,us',rfl,h5,h6⟩:=h1
 simp only [AVrs] at h5 h6
 subst h5 h6
 obtain ⟨rfl,_⟩:=h0
 obtain ⟨_,_,o2⟩:=hg.dw 10000 (.own 25 1 (L.map kS)) rfl
 have oT:L.length=L'.length:=hp.length_eq
 have hkeep:∀ {w':World},(∀b,0<E.z b→w'.heap[b]? =w.heap[b]?)→aj w E.z w' E.z:=fun h b=>⟨Nat.le_refl _,fun o ho=>by
  simp only [World.cell?,h b (by omega)]⟩
 rcases o2 with ⟨r0,r1,p,r2⟩|⟨b,cur,cap,r0,r1,r2,r3,r4,r5,r6,r7⟩
 ·have hl0:L= []:=List.map_eq_nil_iff.1 r1
  subst hl0
  have yd:L'= []:=hp.symm.eq_nil
  subst yd
  rw [r2]
  refine (iy p 0 _ w).mono ?_
  rintro en w' ⟨rfl,rfl⟩
  exact ⟨_,E,rfl,vY.refl _ _ _,hg,fun q o b hq hro hb=> .inr ⟨q,o,hq,hro,hb⟩,⟨[],rfl,rfl⟩⟩
 rw [List.length_map] at r2 r3
 rw [r2]
 by_cases hl0:L= []
 ·subst hl0
  have yd:L'= []:=hp.symm.eq_nil
  subst yd
  refine (iy _ cap _ w).mono ?_
  rintro en w' ⟨rfl,rfl⟩
  exact ⟨_,E,rfl,vY.refl _ _ _,hg,fun q o b hq hro hb=> .inr ⟨q,o,hq,hro,hb⟩,⟨[],rfl,rfl⟩⟩
 have lX:b<w.heap.size:=(Array.getElem?_eq_some_iff.1 r1).1
 have AF:∀i,i<L.length→∃x,cur[i]? =some x∧Rd w E.z x (sN (L.getD i [])):=fun i hi=>by
  obtain ⟨x,h1,h2⟩:=r7 i 0 (kS L[i]) (sN L[i]) (by simp [List.getElem?_eq_getElem hi]) rfl
  exact ⟨x,by simpa using h1,by rw [List.getD_eq_getElem?_getD,List.getElem?_eq_getElem hi];exact h2⟩
 have hidx:∀i,i<L.length→(L.map gA).idxOf ((L.map gA).getD i 0)=i:=fun i hi=>by
  have hi':i<(L.map gA).length:=by rw [List.length_map];exact hi
  rw [List.getD_eq_getElem?_getD,List.getElem?_eq_getElem hi',Option.getD_some]
  exact b7.idxOf_getElem i hi'
 obtain ⟨en,yb⟩:∃en:Int→Value,en=fun h=>if (L.map gA).idxOf h<L.length then cur.getD ((L.map gA).idxOf h) (.int .i64 0) else .int .i64 0:=⟨_,rfl⟩
 have mI:∀i,i<L.length→cur[i]? =some (en ((L.map gA).getD i 0))∧Rd w E.z (en ((L.map gA).getD i 0)) (sN (L.getD i [])):=fun i hi=>by
  obtain ⟨x,h1,h2⟩:=AF i hi
  have:en ((L.map gA).getD i 0)=x:=by
   rw [yb]
   simp only
   rw [hidx i hi,if_pos hi]
   simp [h1]
  rw [this]
  exact ⟨h1,h2⟩
 have hmem:∀c∈L,Rd w E.z (en (gA c)) (sN c):=fun c hc=>by
  obtain ⟨i,hi,rfl⟩:=List.mem_iff_getElem.1 hc
  have h1:=(mI i hi).2
  have e1:(L.map gA).getD i 0=gA L[i]:=by
   rw [List.getD_eq_getElem?_getD,List.getElem?_map,List.getElem?_eq_getElem hi];rfl
  rw [e1,List.getD_eq_getElem?_getD,List.getElem?_eq_getElem hi] at h1
  exact h1
 have hone:∀x,(en x).oneCell'=true:=fun x=>by
  rw [yb]
  simp only
  split
  ·rename_i h
   obtain ⟨y,h1,h2⟩:=AF _ h
   have:cur.getD ((L.map gA).idxOf x) (.int .i64 0)=y:=by simp [h1]
   rw [this]
   exact h2.one
  ·rfl
 have hS:x7 (fun x y=>x - y) (L.map gA) (L'.map gA):=by
  refine ⟨hp.map _,b7, ?_,fun x _=>by omega⟩
  rw [List.pairwise_map]
  exact hs.imp fun {a b} h=>by omega
 have hcmp:uz Try.prog 42 #[] en (fun x y=>x - y) (L.map gA) b w:=by
  intro W hsz hW x hx y hy
  obtain ⟨c,hc,rfl⟩:=List.mem_map.1 hx
  obtain ⟨d,hd,rfl⟩:=List.mem_map.1 hy
  have AG:∀q o,q<w.heap.size→q≠b→W.cell? ⟨q,o,none⟩=w.cell? ⟨q,o,none⟩:=fun q o h1 h2=>by
   simp only [World.cell?,hW q h1 h2]
  have wX:∀c∈L,∃q off n cap,en (gA c)= .slice (some ⟨q,off,none⟩) n cap∧0<n∧W.cell? ⟨q,off,none⟩=some (.int .i64 (gA c)):=fun c hc=>by
   have h1:=hmem c hc
   rw [lN] at h1
   have sk:nI c≠ []:=fun e=>hne c hc (List.map_eq_nil_iff.1 e)
   obtain ⟨q,off,cap,g1,g2,g3,g4⟩:=Ax h1 sk
   have hpos:0<(nI c).length:=List.length_pos_iff.2 sk
   refine ⟨q,off,_,cap,g1,hpos, ?_⟩
   rw [AG q off g2 (fun e=>by rw [e] at g3;omega)]
   have:=g4 0 hpos
   rw [Nat.add_zero] at this
   rw [this]
   cases c with
   |nil=>exact absurd rfl (hne _ hc)
   |cons i r=>rfl
  obtain ⟨q1,o1,n1,c1,g1,g2,g3⟩:=wX c hc
  obtain ⟨q2,o2,n2,c2,g4,g5,g6⟩:=wX d hd
  rw [g1,g4]
  have hz:∀b,0≤gA b:=fun b=>by unfold gA;omega
  exact (ya W q1 o1 n1 c1 q2 o2 n2 c2 (gA c) (gA d) ⟨hz c,hbd c hc⟩ ⟨hz d,hbd d hd⟩ g2 g5 g3 g6).mono fun _ _ ⟨he,q,hq⟩=>⟨he,q, #[],by rw [hq,grow_empty]⟩
 have wY:=ou 42 #[] en hone hS (by rw [List.length_map];exact hlen) (enters_of Try.func42 (by kernel_rfl) rfl) b cap w r1 (fun i hi=>by
  rw [List.length_map] at hi
  exact (mI i hi).1) (fun e=>hl0 (List.map_eq_nil_iff.1 e)) hcmp
 rw [List.length_map] at wY
 refine wY.mono ?_
 rintro Dh w' ⟨rfl,k1,k2,k3,k4,k5,cur',k6,k7,k8⟩
 have hst:aj w E.z w' E.z:=hkeep fun q hq=>by
  by_cases FK:q<w.heap.size
  ·exact k5 q FK fun e=>by subst e;omega
  ·have:=hg.fresh q (by omega);omega
 have Ea:∀ {q:Nat},aF [(10000,AObj.own 25 1 (L'.map kS))] q≠none→aF [(10000,AObj.own 25 1 (L.map kS))] q≠none:=fun {q} h=>by
  obtain ⟨o,ho⟩:=Option.ne_none_iff_exists'.1 h
  obtain ⟨rfl,_⟩:=yc rfl ho
  simp [bu,look]
 refine ⟨_,E,rfl,⟨k1,k2,k3,k4,hst,fun q hq hnm=>⟨k5 q hq fun e=> ?_,rfl⟩,fun _ _=>⟨rfl,rfl⟩⟩,⟨fun q hq=> ?_,fun q q' c hq gh=>hg.inj q q' c (Ea hq) (Ea gh),fun q o hq=> ?_,fun q hq=>hg.fresh q (by omega)⟩,fun q o c hq hro hc=> ?_,⟨[],rfl,rfl⟩⟩
 ·subst e
  exact hnm ⟨10000,_,rfl,rfl,r0⟩
 ·simp only [look] at hq
  split at hq
  ·omega
  ·exact absurd rfl hq
 ·obtain ⟨rfl,rfl⟩:=yc rfl hq
  refine ⟨fun r hr=> ?_,by decide, .inr ⟨b,cur',cap,r0,k6, ?_, ?_,by rw [k7];exact r4,r5,r6,fun i j r x h1 h2=> ?_⟩⟩
  ·obtain ⟨v,_,rfl⟩:=List.mem_map.1 hr
   rfl
  ·rw [List.length_map, ← oT];exact r2
  ·rw [List.length_map, ← oT];exact r3
  ·rw [List.getElem?_map] at h1
   obtain ⟨c,h3,rfl⟩:=Option.map_eq_some_iff.1 h1
   cases j with
   |succ j=>simp [kS] at h2
   |zero=>
    simp only [kS,List.getElem?_cons_zero,Option.some.injEq] at h2
    subst h2
    have hi:i<L'.length:=(List.getElem?_eq_some_iff.1 h3).1
    have FL:c∈L:=hp.mem_iff.2 (List.mem_of_getElem? h3)
    have h8:=k8 i (by rw [List.length_map];exact hi)
    have e1:(L'.map gA).getD i 0=gA c:=by
     rw [List.getD_eq_getElem?_getD,List.getElem?_map,h3];rfl
    rw [e1] at h8
    exact ⟨_,by simpa using h8,(hmem c FL).mono hst⟩
 ·refine .inr ?_
  obtain ⟨rfl,rfl⟩:=yc rfl hq
  exact ⟨10000,_,rfl,rfl,hc⟩
end Go.Ab
end
section
namespace Go.Ab
open Go.Proofs
attribute [local congr] ACall.congr gd.congr Nx.congr
set_option maxRecDepth 20000
set_option maxHeartbeats 16000000
set_option linter.unusedSectionVars false
namespace UG
variable {G:UG} (hG:G.Ok) {so:List Nat→List Nat} (hsp:∀l,(so l).Perm l)
include hG
theorem vR {s:Sc} {k:Nat} (hk:k<G.n) (h:G.xX s k) (h0:s.nm k=0):G.Pre s k none []:=
 ⟨h.ln,h.ll,hk,h0,⟨by simp,by simp,trivial⟩,fun v i a hv _ hJ=>h.bl v i a hv hJ,h.le,h.inj, .inl ⟨rfl,rfl⟩,fun e he=> .inr fun a b hJ=>by
   rw [h.stk,List.nil_append,h.mem] at he
   obtain ⟨d,c,h1,h2⟩:=he
   rcases h2.two hJ with ⟨rfl,rfl⟩|⟨rfl,rfl⟩
   ·exact h1
   ·exact h.bl _ _ _ h1 h2⟩
theorem ye {s:Sc} {k:Nat} (h:G.xX s k) (hc:s.cnt+G.gG s≤G.n):G.Bd s:=by
 refine ⟨?_,fun e he=> ?_,fun b hb=> ?_,hc⟩
 ·rw [h.stk,List.nil_append];exact h.nd
 ·rw [h.stk,List.nil_append,h.mem] at he
  obtain ⟨d,a,_,hJ⟩:=he
  exact hJ.1
 ·obtain ⟨i,_,hi,_⟩:=h.cls b hb
  rintro rfl
  simp at hi
def cZ (G:UG) (so:List Nat→List Nat) (k:Nat):Sc:=(List.range k).foldl (kQ G so) (bD G)
omit hG in
theorem iS {k:Nat} :cZ G so (k+1)=kQ G so (cZ G so k) k:=by
 unfold cZ
 rw [List.range_succ,List.foldl_append];rfl
include hsp
theorem qJ:∀ {k:Nat},k≤G.n→G.xX (cZ G so k) k∧(cZ G so k).cnt+G.gG (cZ G so k)≤G.n
 |0,_=>by
  have h0:∀v,G.bD.nm v=0:=fun v=>by
   unfold Sc.nm bD
   rw [List.getD_eq_getElem?_getD,List.getElem?_replicate]
   split<;>rfl
  refine ⟨⟨by simp [bD,cZ],by simp [bD,cZ],by simp,fun v i a hv=>absurd (h0 v) hv,fun v=>(h0 v).symm ▸ Nat.zero_le _,fun u v hu=>absurd (h0 u) hu,rfl,by simp [bD,cZ],fun e=> ?_,by simp [bD,cZ]⟩, ?_⟩
  ·simp only [cZ,bD,List.range_zero,List.foldl_nil,List.flatten_nil,List.not_mem_nil,false_iff,not_exists,not_and]
   exact fun d a hd=>absurd (h0 d) hd
  ·unfold gG
   have:=List.countP_le_length (l:=List.range G.n) (p:=fun v=>decide ((cZ G so 0).nm v=0))
   rw [List.length_range] at this
   have e:(cZ G so 0).cnt=0:=rfl
   omega
 |k+1,hk=>by
  obtain ⟨h1,h2⟩:=qJ (k:=k) (by omega)
  rw [iS]
  refine ⟨oa hG hsp (by omega) h1, ?_⟩
  unfold kQ
  split
  ·rename_i h0
   have:=(mL hG (so:=so) (G.n+1) (cZ G so k) k none h1.ln (by omega) h0).cn
   omega
  ·exact h2
omit hG hsp in
theorem uA:∀(f:Nat) (s:Sc) (x:Nat) (aq:Option Nat),(∀b∈s.blk,∃l,b=so l)→∀b∈(cz G so f x aq s).blk,∃l,b=so l
 |0,s,x,aq,h=>h
 |f+1,s,x,aq,h=>by
  have key:∀(L:List Nat) (s':Sc),(∀b∈s'.blk,∃l,b=so l)→∀b∈(L.foldl (bP G so (fun y i=>cz G so f y (some i)) x aq) s').blk,∃l,b=so l:=by
   intro L
   induction L with
   |nil=>intro s' h;exact h
   |cons i L ih=>
    intro s' h
    refine ih _ ?_
    unfold bP
    split
    ·exact h
    ·split
     ·have h2:=uA f {s' with stk:=s'.stk++ [i]} (G.sr i x) (some i) h
      simp only
      split
      ·intro b hb
       unfold fm at hb
       rcases List.mem_append.1 hb with hb|hb
       ·exact h2 b hb
       ·rw [List.mem_singleton] at hb
        exact ⟨_,hb⟩
      ·exact h2
     ·split
      ·exact h
      ·exact h
  exact key (G.ends x) (iC s x) h
omit hG hsp in
theorem p7:∀ {k:Nat},∀b∈(cZ G so k).blk,∃l,b=so l
 |0,b,hb=>by simp [cZ,bD] at hb
 |k+1,b,hb=>by
  rw [iS] at hb
  unfold kQ at hb
  split at hb
  ·exact uA _ _ _ _ (fun b hb=>p7 b hb) b hb
  ·exact p7 b hb
theorem kU (hr:∀l,l.Nodup→(so l).Pairwise (· < ·)):(bK G so).Perm G.aT∧(∀b∈bK G so,b≠ []):=by
 obtain ⟨h1,h2,h3⟩:=lD hG hsp
 have hne:∀b∈bK G so,b≠ []:=fun b hb=>by
  obtain ⟨i,_,hi,_⟩:=h3 b hb
  rintro rfl
  simp at hi
 have h4:∀b∈bK G so,b.Pairwise (· < ·):=fun b hb=>by
  obtain ⟨l,rfl⟩:=p7 (G:=G) (so:=so) (k:=G.n) b hb
  refine hr l ((hsp l).nodup_iff.1 ?_)
  exact h1.sublist (List.sublist_flatten_of_mem hb)
 refine ⟨?_,hne⟩
 have hp:((bK G so).mergeSort fun a b=>decide (a.headD 0≤b.headD 0)).Perm (bK G so):=List.mergeSort_perm _ _
 have hs:((bK G so).mergeSort fun a b=>decide (a.headD 0≤b.headD 0)).Pairwise fun a b=>decide (a.headD 0≤b.headD 0)=true:=List.pairwise_mergeSort (fun a b c h1 h2=>by simp at h1 h2 ⊢;omega) (fun a b=>by simp;omega) _
 have:=qC (G:=G) (L:=(bK G so).mergeSort fun a b=>decide (a.headD 0≤b.headD 0)) (hp.flatten.nodup_iff.2 h1) (fun e=>by rw [hp.flatten.mem_iff,h2]) (fun b hb=>h3 b (hp.mem_iff.1 hb)) (fun b hb=>h4 b (hp.mem_iff.1 hb)) (hs.imp fun h=>by simpa using h)
 rw [← this]
 exact hp.symm
omit hG hsp in
theorem uB:(G.aT.map fun b=>b.headD 0).Pairwise (· < ·):=by
 unfold aT
 rw [List.map_map]
 have:((List.range G.m).filter fun i=>G.sw i).map ((fun b:List Nat=>b.headD 0) ∘ G.cL)=(List.range G.m).filter fun i=>G.sw i:=by
  have h:∀i∈(List.range G.m).filter (fun i=>G.sw i),((fun b:List Nat=>b.headD 0) ∘ G.cL) i=id i:=fun i hi=>by
   rw [List.mem_filter,List.mem_range] at hi
   obtain ⟨r,hr⟩:=uh hi.1 hi.2
   show (G.cL i).headD 0=i
   rw [hr];rfl
  rw [List.map_congr_left h,List.map_id]
 rw [this]
 exact gH.filter _
end UG
noncomputable def sD (g:Gr):List (List Nat):=if (aN g&&aP g)=true then (ug g).aT else []
theorem p8 (e:Edge):Spec Try.prog 38 (Args [eE e]) [] (eB (decide (e.1=e.2))) []:=by
 (refine Spec.hd (C:=T.cfg [] []) (rs:= [.t 2]) (T.aB _ _) Try.func38 rfl rfl Try.ntmps38 Try.results38 (by simp [AObj.isNest]) (by simp [AObj.isNest]) (by kernel_rfl) T.mixed fun X hX hP hC bN fH=> ?_)
 repeat' (first|refine Rn.p ?_|(with_reducible apply And.intro)|((first|(refine hK _ ?_;clear hK K)|with_reducible intro K hK|refine Rs.p ?_|((with_reducible first|apply oP|apply oQ);exact rfl));try simp only [go_sem,simprocAttr])|((with_reducible refine oD ?_ ?_);kernel_rfl)|((with_reducible intro h);try simp only [go_sem,simprocAttr] at h)|omega|intro h)
theorem yf:cD []:=⟨by simp,by simp [nodupM],by simp,by simp⟩
def gu (g:Gr) (s:UG.Sc):List (Nat × AObj):= [(300, .box [eN g.n, .d (sE g.es), .d (sNL ((List.range g.n.toNat).map fun x=>(ug g).ends x)), .ref 301, .ref 302,eN s.cnt, .ref 303, .ref 304]),(301, .own 3 1 (s.num.map rN)),(302, .own 3 1 (s.low.map rN)),(303, .own 3 1 (s.stk.map rN)),(304, .own 25 1 (s.blk.map kS))]
theorem jd (g:Gr) (hlen:g.es.length≤9223372036854775807):Spec Try.prog 16 (Args [eG g]) [] (.d (sNL (sD g))) []:=by
 have hM:=nT g (by omega)
 have Di:=dL yf 38 [] (fun e=>decide (e.1=e.2)) p8 g.es (by omega)
 have hbk:sD g=if (aN g&&aP g)=true then (ug g).aT else []:=rfl
 have hnl:aP g= !(g.es.any fun e=>decide (e.1=e.2)):=rfl
 cases hm:aN g with
 |false=>
  rw [hm] at hM hbk
  have su:sD g= []:=by rw [hbk];rfl
  rw [su]
  (refine Spec.hd (C:=T.cfg [] []) (rs:= [.t 2]) (T.aB _ _) Try.func16 rfl rfl Try.ntmps16 Try.results16 (by simp [AObj.isNest]) (by simp [AObj.isNest]) (by kernel_rfl) T.mixed fun X hX hP hC bN fH=> ?_)
  repeat' (first|refine Rn.p ?_|(with_reducible apply And.intro)|((first|(refine hK _ ?_;clear hK K)|with_reducible intro K hK|refine Rs.p ?_|((with_reducible first|apply oP|apply oQ);exact rfl)|refine ag hX hC hP (hM) rfl rfl rfl (by simp only [go_sem,simprocAttr]) rfl ?_);try simp only [go_sem,simprocAttr])|((with_reducible refine oD ?_ ?_);kernel_rfl)|((with_reducible intro h);try simp only [go_sem,simprocAttr] at h)|omega|intro h)
 |true=>
 rw [hm] at hM hbk
 generalize hq:(g.es.any fun e=>decide (e.1=e.2))=q at Di hnl
 cases q with
 |true=>
  rw [hnl] at hbk
  have su:sD g= []:=by rw [hbk];rfl
  rw [su]
  (refine Spec.hd (C:=T.cfg [] []) (rs:= [.t 2]) (T.aB _ _) Try.func16 rfl rfl Try.ntmps16 Try.results16 (by simp [AObj.isNest]) (by simp [AObj.isNest]) (by kernel_rfl) T.mixed fun X hX hP hC bN fH=> ?_)
  repeat' (first|refine Rn.p ?_|(with_reducible apply And.intro)|((first|(refine hK _ ?_;clear hK K)|with_reducible intro K hK|refine Rs.p ?_|((with_reducible first|apply oP|apply oQ);exact rfl)|refine ag hX hC hP (hM) rfl rfl rfl (by simp only [go_sem,simprocAttr]) rfl ?_|refine ag hX hC hP (Di) rfl rfl rfl (by simp only [go_sem,simprocAttr]) rfl ?_);try simp only [go_sem,simprocAttr])|((with_reducible refine oD ?_ ?_);kernel_rfl)|((with_reducible intro h);try simp only [go_sem,simprocAttr] at h)|omega|intro h)
 |false=>
 rw [hnl] at hbk
 have hl:aP g=true:=hnl
 have su:sD g=(ug g).aT:=by rw [hbk];rfl
 rw [su]
 have hn:=dM hm
 have hG:=lG hm hl
 have hB:=pS g hm hl
 (refine Spec.hd (C:=T.cfg [303,304,305,306] []) (rs:= [.t 2]) (T.aB _ _) Try.func16 rfl rfl Try.ntmps16 Try.results16 (by simp [AObj.isNest]) (by simp [AObj.isNest]) (by kernel_rfl) T.mixed fun X hX hP hC bN fH=> ?_)
 repeat' (first|refine Rn.p ?_|(with_reducible apply And.intro)|((first|(refine hK _ ?_;clear hK K)|with_reducible intro K hK|refine Rs.p ?_|((with_reducible first|apply oP|apply oQ);exact rfl)|refine ag hX hC hP (hM) rfl rfl rfl (by simp only [go_sem,simprocAttr,bR]) rfl ?_|refine ag hX hC hP (Di) rfl rfl rfl (by simp only [go_sem,simprocAttr,bR]) rfl ?_|(refine bW hX hC hP [(10000,300),(10001,301),(10002,302)] (hB) rfl rfl rfl ?_ ?_ ?_ ?_ ?_ ?_ ?_ ?_ ?_ ?_ ?_ ?_ ?_ ?_;(focus (simp only [go_sem,simprocAttr,bR];done));(iterate 12 (focus (simp [go_sem,simprocAttr,bR];done)));try simp only [List.map_cons,List.map_nil]));try simp only [go_sem,simprocAttr,bR])|((with_reducible refine oD ?_ ?_);kernel_rfl)|((with_reducible intro h);try simp only [go_sem,simprocAttr,bR] at h)|omega|intro h)
 (refine nL hX 300 6 303 (.own 3 1 []) rfl rfl rfl (by simp only [go_sem,simprocAttr,bR]) (by decide) (by simp [go_sem,simprocAttr,bR]) ⟨3,1,by decide, .inl rfl⟩ ?_;simp only [List.set_cons_zero,List.set_cons_succ,go_sem,simprocAttr,bR])
 (refine nL hX 300 7 304 (.own 25 1 []) rfl rfl rfl (by simp only [go_sem,simprocAttr,bR]) (by decide) (by simp [go_sem,simprocAttr,bR]) ⟨25,1,by decide, .inl rfl⟩ ?_;simp only [List.set_cons_zero,List.set_cons_succ,go_sem,simprocAttr,bR])
 have h0:UG.cZ (ug g) dY 0=⟨List.replicate g.n.toNat 0,List.replicate g.n.toNat 0,0, [], []⟩:=rfl
 have hN:UG.cZ (ug g) dY g.n.toNat=(List.range (ug g).n).foldl (UG.kQ (ug g) dY) (UG.bD (ug g)):=rfl
 refine aH (fun k:Nat=>k≤g.n.toNat) (fun k=>⟨[(3, .ptr 300 0),(16,eN g.n),(17,eN k)],gu g (UG.cZ (ug g) dY k)⟩) (fun k=>g.n.toNat - k) 0 (Nat.zero_le _) ?_ ?_
 ·rw [h0]
  refine Le.of ?_ ?_<;>simp [go_sem,simprocAttr,bR,gu]
 rintro k hk
 obtain ⟨hT,sk⟩:=UG.qJ hG gq hk
 rcases Nat.lt_or_ge k g.n.toNat with hlt|hge
 rotate_left
 ·have hb:decide ((k:Int)<g.n)=false:=decide_eq_false (by omega)
  obtain rfl:k=g.n.toNat:=by omega
  obtain ⟨Bl,hne⟩:=UG.kU hG gq vO
  have lX:(UG.cZ (ug g) dY g.n.toNat).blk=UG.bK (ug g) dY:=rfl
  have rS:=UG.uB (G:=ug g)
  have AH:(UG.bK (ug g) dY).length≤1000000:=by
   rw [Bl.length_eq]
   have:=oh (G:=ug g)
   have:(ug g).m=g.es.length:=rfl
   omega
  have hS:=p6 Bl hne (by
   have h1:((ug g).aT.map gA).Nodup:=by
    have:(ug g).aT.map gA=((ug g).aT.map fun b=>b.headD 0).map fun n:Nat=>(n:Int):=by rw [List.map_map];rfl
    rw [this]
    unfold List.Nodup
    rw [List.pairwise_map]
    exact rS.imp fun h=>by omega
   exact (Bl.map gA).nodup_iff.2 h1) (by
   rw [List.pairwise_map] at rS
   exact rS.imp fun h=>by unfold gA;omega) (fun b hb=>by
   have h1:=Bl.mem_iff.1 hb
   obtain ⟨i,r,e1,e2,_⟩:=UG.uj (UG.kq h1).1 (UG.kq h1).2
   have:(ug g).m=g.es.length:=rfl
   rw [e1]
   unfold gA
   simp only [List.headD_cons]
   omega) AH
  rw [← lX] at hS
  generalize UG.cZ (ug g) dY g.n.toNat=s1 at hS ⊢
  repeat' (first|refine Rn.p ?_|(with_reducible apply And.intro)|((first|(refine hK _ ?_;clear hK K)|with_reducible intro K hK|refine Rs.p ?_|((with_reducible first|apply oP|apply oQ);exact rfl)|(refine bW hX hC hP [(10000,304)] (hS) rfl rfl rfl ?_ ?_ ?_ ?_ ?_ ?_ ?_ ?_ ?_ ?_ ?_ ?_ ?_ ?_;(focus (simp only [go_sem,simprocAttr,gu,hb];done));(iterate 12 (focus (simp [go_sem,simprocAttr,gu,hb];done)));try simp only [List.map_cons,List.map_nil]));try simp only [go_sem,simprocAttr,gu,hb])|((with_reducible refine oD ?_ ?_);kernel_rfl)|((with_reducible intro h);try simp only [go_sem,simprocAttr,gu,hb] at h)|omega|intro h)
 have hb:decide ((k:Int)<g.n)=true:=decide_eq_true (by omega)
 have cE:=UG.iS (G:=ug g) (so:=dY) (k:=k)
 have hkn:k<(ug g).n:=hlt
 have hbd:=UG.ye hG hT sk
 have FM:=fun h=>UG.vR hG hkn hT h
 have dZ:decide ((((UG.cZ (ug g) dY k).num.getD k 0:Nat):Int)=0)=decide ((UG.cZ (ug g) dY k).num.getD k 0=0):=Ay
 have oT:(UG.cZ (ug g) dY k).num.length=g.n.toNat:=hT.ln
 generalize UG.cZ (ug g) dY k=s at*
 generalize Eb:UG.cZ (ug g) dY (k+1)=s' at cE
 unfold UG.kQ at cE
 by_cases hz:s.nm k=0
 rotate_left
 ·rw [if_neg hz] at cE
  have uX:¬s.num.getD k 0=0:=hz
  rw [decide_eq_false uX] at dZ
  repeat' (first|refine Rn.p ?_|(with_reducible apply And.intro)|((first|(refine hK _ ?_;clear hK K)|with_reducible intro K hK|refine Rs.p ?_|((with_reducible first|apply oP|apply oQ);exact rfl));try simp only [go_sem,simprocAttr,gu,hb,dZ,oT])|((with_reducible refine oD ?_ ?_);kernel_rfl)|((with_reducible intro h);try simp only [go_sem,simprocAttr,gu,hb,dZ,oT] at h)|omega|intro h)
  refine ⟨k+1,by omega, ?_,by omega⟩
  rw [Eb,cE]
  refine Le.of ?_ ?_<;>simp [go_sem,simprocAttr,gu,hb,dZ,oT]
 rw [if_pos hz] at cE
 have uX:s.num.getD k 0=0:=hz
 rw [decide_eq_true uX] at dZ
 have hun:(ug g).gG s≤(ug g).n+1:=by
  unfold UG.gG
  have:=List.countP_le_length (l:=List.range (ug g).n) (p:=fun v=>decide (s.nm v=0))
  rw [List.length_range] at this
  omega
 have hV:=kF g hm hl ((ug g).n+1) s k none [] hun (FM hz) hbd
 rw [show wW none=(-1:Int) from rfl, ← cE] at hV
 repeat' (first|(show bF _ (.region 9 _ _) _ _;(refine di hX 300 6 305 303 rfl rfl rfl (by first|exact .inl rfl|exact .inr rfl) (by decide) (by decide) ?_;simp only [List.set_cons_zero,List.set_cons_succ,go_sem,simprocAttr,gu,aR,bR,hb,dZ,oT]);(refine di hX 300 7 306 304 rfl rfl rfl (by first|exact .inl rfl|exact .inr rfl) (by decide) (by decide) ?_;simp only [List.set_cons_zero,List.set_cons_succ,go_sem,simprocAttr,gu,aR,bR,hb,dZ,oT]))|refine Rn.p ?_|(with_reducible apply And.intro)|((first|(refine hK _ ?_;clear hK K)|with_reducible intro K hK|refine Rs.p ?_|((with_reducible first|apply oP|apply oQ);exact rfl)|(refine bW hX hC hP [(10000,300),(10001,301),(10002,302),(10003,303),(10004,304),(10005,305),(10006,306)] (hV) rfl rfl rfl ?_ ?_ ?_ ?_ ?_ ?_ ?_ ?_ ?_ ?_ ?_ ?_ ?_ ?_;(focus (simp only [go_sem,simprocAttr,gu,aR,bR,hb,dZ,oT];done));(iterate 12 (focus (simp [go_sem,simprocAttr,gu,aR,bR,hb,dZ,oT];done)));try simp only [List.map_cons,List.map_nil]));try simp only [go_sem,simprocAttr,gu,aR,bR,hb,dZ,oT])|((with_reducible refine oD ?_ ?_);kernel_rfl)|((with_reducible intro h);try simp only [go_sem,simprocAttr,gu,aR,bR,hb,dZ,oT] at h)|omega|intro h)
 refine ⟨k+1,by omega, ?_,by omega⟩
 rw [Eb]
 refine Le.of ?_ ?_<;>simp [go_sem,simprocAttr,gu,aR,bR,hb,dZ,oT]
end Go.Ab
end
section
namespace Go.Ab
open Go.Proofs
attribute [local congr] ACall.congr gd.congr Nx.congr
set_option maxRecDepth 20000
set_option maxHeartbeats 16000000
def oU (g:Gr) (L:List (List Nat)) (k:Nat) (P:Nat→Bool) (v:Nat):List Nat:=((List.range k).filter fun q=>(ug g).cH (L.getD q []) v)++if P v=true then [k] else []
def aZ (g:Gr) (L:List (List Nat)) (k:Nat) (P:Nat→Bool):List (List (List D)):=(List.range g.n.toNat).map fun v=>(oU g L k P v).map rN
def uC (g:Gr) (L:List (List Nat)):List (List Nat):=(List.range g.n.toNat).map fun v=>(List.range L.length).filter fun q=>(ug g).cH (L.getD q []) v
theorem eV {g:Gr} {L:List (List Nat)} {k:Nat} {P:Nat→Bool} :(aZ g L k P).length=g.n.toNat:=by simp [aZ]
theorem gr {g:Gr} {L:List (List Nat)} {k v:Nat} {P:Nat→Bool} (hv:v<g.n.toNat):(aZ g L k P)[v]? =some ((oU g L k P v).map rN):=by
 simp [aZ,List.getElem?_range hv]
theorem vS {g:Gr} {L:List (List Nat)} {k v:Nat} {P:Nat→Bool} :k∈oU g L k P v↔P v=true:=by
 unfold oU
 rw [List.mem_append,List.mem_filter,List.mem_range]
 constructor
 ·rintro (⟨h,_⟩|h)
  ·omega
  ·split at h
   ·assumption
   ·simp at h
 ·intro h
  right
  rw [if_pos h];simp
theorem vU {g:Gr} {L:List (List Nat)} {k v:Nat} {P:Nat→Bool} :(oU g L k P v).length≤k+1:=by
 unfold oU
 rw [List.length_append]
 have:=List.length_filter_le (fun q=>(ug g).cH (L.getD q []) v) (List.range k)
 rw [List.length_range] at this
 have h2:(if P v=true then [k] else []).length≤1:=by split<;>simp
 omega
theorem cr {g:Gr} {L:List (List Nat)} {k:Nat} {P Q:Nat→Bool} (h:∀v,P v=Q v):aZ g L k P=aZ g L k Q:=by
 have:P=Q:=funext h
 rw [this]
theorem rZ {g:Gr} {L:List (List Nat)} {k x:Nat} {P:Nat→Bool} (hx:x<g.n.toNat) (hP:P x=false):(aZ g L k P).set x ((oU g L k P x).map rN++ [[.sc (.int .i64 (k:Int))]])=aZ g L k fun v=>P v||decide (v=x):=by
 refine List.ext_getElem? fun i=> ?_
 rw [List.getElem?_set,eV]
 by_cases hi:i<g.n.toNat
 ·rw [gr hi,gr hi]
  by_cases e:x=i
  ·subst e
   rw [if_pos rfl,if_pos hx]
   unfold oU
   simp [hP,rN]
  ·rw [if_neg e]
   unfold oU
   have:decide (i=x)=false:=decide_eq_false (Ne.symm e)
   simp [this]
 ·rw [List.getElem?_eq_none (by rw [eV];omega),List.getElem?_eq_none (by rw [eV];omega)]
  split
  ·omega
  ·rfl
theorem p9 {g:Gr} {L:List (List Nat)} :List.replicate g.n.toNat []=aZ g L 0 fun _=>false:=by
 refine List.ext_getElem? fun i=> ?_
 by_cases hi:i<g.n.toNat
 ·rw [gr hi];simp [hi,oU]
 ·rw [List.getElem?_eq_none (by simp;omega),List.getElem?_eq_none (by rw [eV];omega)]
theorem ow {g:Gr} {L:List (List Nat)} {k:Nat} :aZ g L k (fun v=>(ug g).cH (L.getD k []) v)=aZ g L (k+1) fun _=>false:=by
 unfold aZ oU
 refine List.map_congr_left fun v _=> ?_
 show (((List.range k).filter fun q=>(ug g).cH (L.getD q []) v)++(if (ug g).cH (L.getD k []) v=true then [k] else [])).map rN=(((List.range (k+1)).filter fun q=>(ug g).cH (L.getD q []) v)++(if false=true then [k+1] else [])).map rN
 rw [List.range_succ,List.filter_append,List.filter_cons]
 generalize (ug g).cH (L.getD k []) v=q
 cases q<;>simp
theorem r8 {g:Gr} {L:List (List Nat)} :(aZ g L L.length fun _=>false).map (fun r=> [D.sl 1 r])=(uC g L).map kS:=by
 unfold aZ uC oU
 rw [List.map_map,List.map_map]
 refine List.map_congr_left fun v _=> ?_
 simp [kS,sN]
theorem kG (ps:List Nat) (x:Nat) (hl:ps.length≤9223372036854775807):Spec Try.prog 50 (Args [.d (sN ps),eN x]) [] (eB (decide (x∈ps))) []:=by
 have h:=kg (nI ps) (x:Int) (by rw [nI,List.length_map];exact hl)
 have e:decide ((x:Int)∈nI ps)=decide (x∈ps):=by
  rw [decide_eq_decide]
  unfold nI
  rw [List.mem_map]
  constructor
  ·rintro ⟨y,hy,e⟩
   have:y=x:=by omega
   rw [← this];exact hy
  ·intro h;exact ⟨x,h,rfl⟩
 rw [← lN,e] at h
 exact h
theorem uD (g:Gr) (hm:aN g=true) (L:List (List Nat)) (hL:∀b∈L,(∀i∈b,i<g.es.length)∧b.length≤1000) (FN:L.length≤1000):Spec Try.prog 46 (Args [eG g, .d (sNL L)]) [] (.d (sNL (uC g L))) []:=by
 have hn:=dM hm
 (refine Spec.hd (C:=T.cfg [] [14]) (rs:= [.t 4]) (T.aB _ _) Try.func46 rfl rfl Try.ntmps46 Try.results46 (by simp [AObj.isNest]) (by simp [AObj.isNest]) (by kernel_rfl) T.mixed fun X hX hP hC bN fH=> ?_)
 repeat' (first|refine Rn.p ?_|(with_reducible apply And.intro)|((first|(refine hK _ ?_;clear hK K)|with_reducible intro K hK|refine Rs.p ?_|((with_reducible first|apply oP|apply oQ);exact rfl));try simp only [go_sem,simprocAttr])|((with_reducible refine oD ?_ ?_);first|(focus (simp only [iW,bJ,bM,meets,cB,bY,gF,aS,cK,cC,Rec.rs,Rec.fG,Rec.nv,aY,Rec.aL,Rec.names,KV.ids,dF,dG,dH,dI,dJ,dK,List.zip_cons_cons,List.zip_nil_right,List.zipIdx_cons,List.zipIdx_nil,List.all_cons,List.all_nil,List.contains_cons,List.contains_nil,List.any_cons,List.any_nil,List.flatMap_nil,List.reverse_cons,List.reverse_nil,dS,eX,Region.binds,go_sem,simprocAttr];done))|kernel_rfl)|((with_reducible intro h);try simp only [go_sem,simprocAttr] at h)|omega|intro h)
 refine nK hX 14 (by simp [go_sem,simprocAttr];exact ⟨rfl,rfl,rfl,rfl⟩) (by decide) (by simp [go_sem,simprocAttr]) (by simp [go_sem,simprocAttr]) ?_
 simp only [go_sem,simprocAttr]
 refine aH (fun k:Nat=>k≤L.length) (fun k=>⟨[(2, .ptr 2 0),(5, .ref 14),(15, .d (sNL L)),(16,eN L.length),(17,eN k)], [(14, .nest 25 3 1 (aZ g L k fun _=>false) none),(2, .box [eN g.n, .d (sE g.es)])]⟩) (fun k=>L.length - k) 0 (Nat.zero_le _) ?_ ?_
 ·rw [← p9]
  refine Le.of ?_ ?_<;>simp [go_sem,simprocAttr]
 rintro k hk
 rcases Nat.lt_or_ge k L.length with hlt|hge
 rotate_left
 ·have hb:decide ((k:Int)<(L.length:Int))=false:=decide_eq_false (by omega)
  obtain rfl:k=L.length:=by omega
  (refine nO hX 14 rfl (by decide) ?_;simp only [go_sem,simprocAttr,hb])
  rw [r8]
  repeat' (first|refine Rn.p ?_|(with_reducible apply And.intro)|((first|(refine hK _ ?_;clear hK K)|with_reducible intro K hK|refine Rs.p ?_|((with_reducible first|apply oP|apply oQ);exact rfl));try simp only [go_sem,simprocAttr,hb])|((with_reducible refine oD ?_ ?_);first|(focus (simp only [iW,bJ,bM,meets,cB,bY,gF,aS,cK,cC,Rec.rs,Rec.fG,Rec.nv,aY,Rec.aL,Rec.names,KV.ids,dF,dG,dH,dI,dJ,dK,List.zip_cons_cons,List.zip_nil_right,List.zipIdx_cons,List.zipIdx_nil,List.all_cons,List.all_nil,List.contains_cons,List.contains_nil,List.any_cons,List.any_nil,List.flatMap_nil,List.reverse_cons,List.reverse_nil,dS,eX,Region.binds,go_sem,simprocAttr,hb];done))|kernel_rfl)|((with_reducible intro h);try simp only [go_sem,simprocAttr,hb] at h)|omega|intro h)
 have hb:decide ((k:Int)<(L.length:Int))=true:=decide_eq_true (by omega)
 obtain ⟨Ec,lX⟩:=hL _ (iP [] hlt)
 have hblk:=ow (g:=g) (L:=L) (k:=k)
 have hstart:(aZ g L k fun _=>false)=aZ g L k fun v=>(ug g).cH ((L.getD k []).take 0) v:=cr fun v=>rfl
 rw [hstart]
 obtain ⟨b,su⟩:∃b,L.getD k []=b:=⟨_,rfl⟩
 rw [su] at Ec lX hblk ⊢
 repeat' (first|refine Rn.p ?_|(with_reducible apply And.intro)|((first|(refine hK _ ?_;clear hK K)|with_reducible intro K hK|refine Rs.p ?_|((with_reducible first|apply oP|apply oQ);exact rfl));try simp only [go_sem,simprocAttr,hb,su])|((with_reducible refine oD ?_ ?_);first|(focus (simp only [iW,bJ,bM,meets,cB,bY,gF,aS,cK,cC,Rec.rs,Rec.fG,Rec.nv,aY,Rec.aL,Rec.names,KV.ids,dF,dG,dH,dI,dJ,dK,List.zip_cons_cons,List.zip_nil_right,List.zipIdx_cons,List.zipIdx_nil,List.all_cons,List.all_nil,List.contains_cons,List.contains_nil,List.any_cons,List.any_nil,List.flatMap_nil,List.reverse_cons,List.reverse_nil,dS,eX,Region.binds,go_sem,simprocAttr,hb,su];done))|kernel_rfl)|((with_reducible intro h);try simp only [go_sem,simprocAttr,hb,su] at h)|omega|intro h)
 clear hb
 refine aH (fun j:Nat=>j≤b.length) (fun j=>⟨[(2, .ptr 2 0),(5, .ref 14),(15, .d (sNL L)),(16,eN L.length),(17,eN k),(6,eN k),(22, .d (sN b)),(23,eN b.length),(24,eN j)], [(14, .nest 25 3 1 (aZ g L k fun v=>(ug g).cH (b.take j) v) none),(2, .box [eN g.n, .d (sE g.es)])]⟩) (fun j=>b.length - j) 0 (Nat.zero_le _) ?_ ?_
 ·refine Le.of ?_ ?_<;>simp [go_sem,simprocAttr]
 rintro j hj
 rcases Nat.lt_or_ge j b.length with hlj|GK
 rotate_left
 ·have hb:decide ((j:Int)<(b.length:Int))=false:=decide_eq_false (by omega)
  obtain rfl:j=b.length:=by omega
  rw [List.take_length,hblk]
  repeat' (first|refine Rn.p ?_|(with_reducible apply And.intro)|((first|(refine hK _ ?_;clear hK K)|with_reducible intro K hK|refine Rs.p ?_|((with_reducible first|apply oP|apply oQ);exact rfl));try simp only [go_sem,simprocAttr,hb])|((with_reducible refine oD ?_ ?_);first|(focus (simp only [iW,bJ,bM,meets,cB,bY,gF,aS,cK,cC,Rec.rs,Rec.fG,Rec.nv,aY,Rec.aL,Rec.names,KV.ids,dF,dG,dH,dI,dJ,dK,List.zip_cons_cons,List.zip_nil_right,List.zipIdx_cons,List.zipIdx_nil,List.all_cons,List.all_nil,List.contains_cons,List.contains_nil,List.any_cons,List.any_nil,List.flatMap_nil,List.reverse_cons,List.reverse_nil,dS,eX,Region.binds,go_sem,simprocAttr,hb];done))|kernel_rfl)|((with_reducible intro h);try simp only [go_sem,simprocAttr,hb] at h)|omega|intro h)
  refine ⟨k+1,by omega, ?_,by omega⟩
  refine Le.of ?_ ?_<;>simp [go_sem,simprocAttr,hb]
 have hb:decide ((j:Int)<(b.length:Int))=true:=decide_eq_true (by omega)
 obtain ⟨i,hi⟩:∃i,b.getD j 0=i:=⟨_,rfl⟩
 have him:i<g.es.length:=Ec i (by rw [← hi];exact iP 0 hlj)
 obtain ⟨mQ,o9⟩:=ee hm him
 obtain ⟨u,hu⟩:∃u:Nat,(g.es.getD i (0,0)).1=u:=⟨(g.es.getD i (0,0)).1.toNat,by omega⟩
 obtain ⟨w,hw⟩:∃v:Nat,(g.es.getD i (0,0)).2=v:=⟨(g.es.getD i (0,0)).2.toNat,by omega⟩
 have iA:(ug g).T i=u:=by show ((g.es.getD i (0,0)).1).toNat=u;rw [hu];rfl
 have hhi:(ug g).H i=w:=by show ((g.es.getD i (0,0)).2).toNat=w;rw [hw];rfl
 have hun:u<g.n.toNat:=by omega
 have hwn:w<g.n.toNat:=by omega
 have BT:∀v,(ug g).cH (b.take (j+1)) v=(((ug g).cH (b.take j) v||decide (v=u))||decide (v=w)):=fun v=>by
  unfold UG.cH
  rw [lK 0 hlj,hi,iA,hhi,Bool.or_assoc]
  congr 2
  ·exact decide_eq_decide.2 eq_comm
  ·exact decide_eq_decide.2 eq_comm
 generalize Dj:(fun v=>(ug g).cH (b.take j) v)=P0
 have cE:(aZ g L k fun v=>(ug g).cH (b.take (j+1)) v)=aZ g L k fun v=>((P0 v||decide (v=u))||decide (v=w)):=cr fun v=>by rw [BT v, ← Dj]
 obtain ⟨PE,AI⟩:∃PE:Nat→Nat→Bool,PE=fun e v=>if e=0 then P0 v else if e=1 then (P0 v||decide (v=u)) else ((P0 v||decide (v=u))||decide (v=w)):=⟨_,rfl⟩
 have yE:aZ g L k P0=aZ g L k (PE 0):=cr fun v=>by rw [AI];rfl
 have Bb:aZ g L k (PE 2)=aZ g L k fun v=>((P0 v||decide (v=u))||decide (v=w)):=cr fun v=>by rw [AI];rfl
 rw [← Bb] at cE
 rw [yE]
 repeat' (first|refine Rn.p ?_|(with_reducible apply And.intro)|((first|(refine hK _ ?_;clear hK K)|with_reducible intro K hK|refine Rs.p ?_|((with_reducible first|apply oP|apply oQ);exact rfl));try simp only [go_sem,simprocAttr,hb,hi,hu,hw])|((with_reducible refine oD ?_ ?_);first|(focus (simp only [iW,bJ,bM,meets,cB,bY,gF,aS,cK,cC,Rec.rs,Rec.fG,Rec.nv,aY,Rec.aL,Rec.names,KV.ids,dF,dG,dH,dI,dJ,dK,List.zip_cons_cons,List.zip_nil_right,List.zipIdx_cons,List.zipIdx_nil,List.all_cons,List.all_nil,List.contains_cons,List.contains_nil,List.any_cons,List.any_nil,List.flatMap_nil,List.reverse_cons,List.reverse_nil,dS,eX,Region.binds,go_sem,simprocAttr,hb,hi,hu,hw];done))|kernel_rfl)|((with_reducible intro h);try simp only [go_sem,simprocAttr,hb,hi,hu,hw] at h)|omega|intro h)
 clear hb
 refine aH (fun e:Nat=>e≤2) (fun e=>⟨[(2, .ptr 2 0),(5, .ref 14),(15, .d (sNL L)),(16,eN L.length),(17,eN k),(6,eN k),(22, .d (sN b)),(23,eN b.length),(24,eN j),(40, .agg [eN u,eN w]),(41,eN e)], [(14, .nest 25 3 1 (aZ g L k (PE e)) none),(2, .box [eN g.n, .d (sE g.es)])]⟩) (fun e=>2 - e) 0 (by omega) ?_ ?_
 ·refine Le.of ?_ ?_<;>simp [go_sem,simprocAttr]
 rintro e he
 rcases Nat.lt_or_ge e 2 with hle|FO
 rotate_left
 ·have hb:decide ((e:Int)<2)=false:=decide_eq_false (by omega)
  obtain rfl:e=2:=by omega
  repeat' (first|refine Rn.p ?_|(with_reducible apply And.intro)|((first|(refine hK _ ?_;clear hK K)|with_reducible intro K hK|refine Rs.p ?_|((with_reducible first|apply oP|apply oQ);exact rfl));try simp only [go_sem,simprocAttr,hb])|((with_reducible refine oD ?_ ?_);first|(focus (simp only [iW,bJ,bM,meets,cB,bY,gF,aS,cK,cC,Rec.rs,Rec.fG,Rec.nv,aY,Rec.aL,Rec.names,KV.ids,dF,dG,dH,dI,dJ,dK,List.zip_cons_cons,List.zip_nil_right,List.zipIdx_cons,List.zipIdx_nil,List.all_cons,List.all_nil,List.contains_cons,List.contains_nil,List.any_cons,List.any_nil,List.flatMap_nil,List.reverse_cons,List.reverse_nil,dS,eX,Region.binds,go_sem,simprocAttr,hb];done))|kernel_rfl)|((with_reducible intro h);try simp only [go_sem,simprocAttr,hb] at h)|omega|intro h)
  refine ⟨j+1,by omega, ?_,by omega⟩
  rw [cE]
  refine Le.of ?_ ?_<;>simp [go_sem,simprocAttr,hb]
 have hb:decide ((e:Int)<2)=true:=decide_eq_true (by omega)
 obtain ⟨x,hx⟩:∃x:Nat,([eN u,eN w][e]? :Option AV)=some (eN x)∧x<g.n.toNat∧∀v,PE (e+1) v=(PE e v||decide (v=x)):=by
  match e,hle with
  |0,_=>exact ⟨u,rfl,hun,fun v=>by rw [AI];rfl⟩
  |1,_=>exact ⟨w,rfl,hwn,fun v=>by rw [AI];rfl⟩
 obtain ⟨hx1,xS,Dk⟩:=hx
 simp only [eN] at hx1
 have dQ:=gr (g:=g) (L:=L) (k:=k) (P:=PE e) xS
 have hrl:=eV (g:=g) (L:=L) (k:=k) (P:=PE e)
 have GL:=vU (g:=g) (L:=L) (k:=k) (v:=x) (P:=PE e)
 have Bm:=kG (oU g L k (PE e) x) k (by omega)
 have FP:decide (k∈oU g L k (PE e) x)=PE e x:=by
  rw [Bool.eq_iff_iff,decide_eq_true_eq];exact vS
 rw [FP] at Bm
 have AJ:=rZ (g:=g) (L:=L) (k:=k) (P:=PE e) xS
 have hsame:PE e x=true→aZ g L k (PE (e+1))=aZ g L k (PE e):=fun h=>cr fun v=>by
  rw [Dk]
  by_cases e1:v=x
  ·rw [e1,h];rfl
  ·rw [decide_eq_false e1,Bool.or_false]
 have hnew:PE e x=false→aZ g L k (PE (e+1))=(aZ g L k (PE e)).set x ((oU g L k (PE e) x).map rN++ [[.sc (.int .i64 (k:Int))]]):=fun h=>by
  rw [AJ h]
  exact cr Dk
 clear AJ Dk yE Bb AI
 generalize Bn:aZ g L k (PE (e+1))=R1 at hsame hnew
 have D8:(x:Int)=x:=rfl
 generalize hq:PE e x=q at Bm hsame hnew
 generalize aZ g L k (PE e)=R0 at*
 generalize oU g L k (PE e) x=r0 at*
 cases q with
 |true=>
  rw [hsame rfl] at Bn
  repeat' (first|refine Rn.p ?_|(with_reducible apply And.intro)|((first|(refine hK _ ?_;clear hK K)|with_reducible intro K hK|refine Rs.p ?_|((with_reducible first|apply oP|apply oQ);exact rfl)|(refine nP hX hC hP 14 (Bm) rfl rfl rfl rfl ?_ (by decide) ?_ ?_ rfl ?_;(iterate 2 (focus (simp only [go_sem,simprocAttr,hb,hx1,dQ,hrl,Nat.mul_one];done)));(focus (intro a ha;simp only [List.mem_cons,List.not_mem_nil,or_false] at ha;exact ⟨_,ha⟩))));try simp only [go_sem,simprocAttr,hb,hx1,dQ,hrl,Nat.mul_one])|((with_reducible refine oD ?_ ?_);first|(focus (simp only [iW,bJ,bM,meets,cB,bY,gF,aS,cK,cC,Rec.rs,Rec.fG,Rec.nv,aY,Rec.aL,Rec.names,KV.ids,dF,dG,dH,dI,dJ,dK,List.zip_cons_cons,List.zip_nil_right,List.zipIdx_cons,List.zipIdx_nil,List.all_cons,List.all_nil,List.contains_cons,List.contains_nil,List.any_cons,List.any_nil,List.flatMap_nil,List.reverse_cons,List.reverse_nil,dS,eX,Region.binds,go_sem,simprocAttr,hb,hx1,dQ,hrl,Nat.mul_one];done))|kernel_rfl)|((with_reducible intro h);try simp only [go_sem,simprocAttr,hb,hx1,dQ,hrl,Nat.mul_one] at h)|omega|intro h)
  refine ⟨e+1,by omega, ?_,by omega⟩
  rw [Bn]
  refine Le.of ?_ ?_<;>simp [go_sem,simprocAttr,hb,hx1,dQ,hrl,Nat.mul_one]
 |false=>
  rw [hnew rfl] at Bn
  repeat' (first|refine Rn.p ?_|(with_reducible apply And.intro)|((first|(refine hK _ ?_;clear hK K)|with_reducible intro K hK|refine Rs.p ?_|((with_reducible first|apply oP|apply oQ);exact rfl)|(refine nP hX hC hP 14 (Bm) rfl rfl rfl rfl ?_ (by decide) ?_ ?_ rfl ?_;(iterate 2 (focus (simp only [go_sem,simprocAttr,hb,hx1,dQ,hrl,Nat.mul_one];done)));(focus (intro a ha;simp only [List.mem_cons,List.not_mem_nil,or_false] at ha;exact ⟨_,ha⟩))));try simp only [go_sem,simprocAttr,hb,hx1,dQ,hrl,Nat.mul_one])|((with_reducible refine oD ?_ ?_);first|(focus (simp only [iW,bJ,bM,meets,cB,bY,gF,aS,cK,cC,Rec.rs,Rec.fG,Rec.nv,aY,Rec.aL,Rec.names,KV.ids,dF,dG,dH,dI,dJ,dK,List.zip_cons_cons,List.zip_nil_right,List.zipIdx_cons,List.zipIdx_nil,List.all_cons,List.all_nil,List.contains_cons,List.contains_nil,List.any_cons,List.any_nil,List.flatMap_nil,List.reverse_cons,List.reverse_nil,dS,eX,Region.binds,go_sem,simprocAttr,hb,hx1,dQ,hrl,Nat.mul_one];done))|kernel_rfl)|((with_reducible intro h);try simp only [go_sem,simprocAttr,hb,hx1,dQ,hrl,Nat.mul_one] at h)|omega|intro h)
  refine ⟨e+1,by omega, ?_,by omega⟩
  rw [Bn]
  refine Le.of ?_ ?_<;>simp [go_sem,simprocAttr,hb,hx1,dQ,hrl,Nat.mul_one]
end Go.Ab
end
section
namespace Go.Ab
open Go.Proofs
attribute [local congr] ACall.congr gd.congr Nx.congr
set_option maxRecDepth 20000
set_option maxHeartbeats 16000000
theorem uE {g:Gr} {L:List (List Nat)} {v:Nat} :∀ {k:Nat},k≤L.length→((List.range k).filter fun q=>(ug g).cH (L.getD q []) v).length=ji g L v k
 |0,_=>by simp [ji]
 |k+1,hk=>by
  rw [rW (by omega),List.range_succ,List.filter_append,List.length_append,uE (by omega),List.filter_cons]
  generalize (ug g).cH (L.getD k []) v=q
  cases q<;>simp
theorem yg {g:Gr} {L:List (List Nat)} {v:Nat} (hv:v<g.n.toNat):(uC g L).getD v []=(List.range L.length).filter fun q=>(ug g).cH (L.getD q []) v:=by
 simp only [uC,List.getD_eq_getElem?_getD,List.getElem?_map,List.getElem?_range hv,Option.map_some,Option.getD_some]
theorem vV {g:Gr} {L:List (List Nat)} :(uC g L).length=g.n.toNat:=by simp [uC]
noncomputable def yh (g:Gr):List Nat:=if (aN g&&aP g)=true then eS g else []
theorem mM {g:Gr} (h:(aN g&&aP g)=true):sD g=(ug g).aT:=by unfold sD;rw [if_pos h]
theorem yj {g:Gr} (h:(aN g&&aP g)=false):sD g= []:=by unfold sD;rw [if_neg (by rw [h];decide)]
theorem jw {g:Gr} (h:(aN g&&aP g)=true):yh g=eS g:=by unfold yh;rw [if_pos h]
theorem yl {g:Gr} (h:(aN g&&aP g)=false):yh g= []:=by unfold yh;rw [if_neg (by rw [h];decide)]
theorem uF {g:Gr} (h:(ug g).aT= []):eS g= []:=by
 unfold eS dX
 rw [h]
 refine List.filter_eq_nil_iff.2 fun x _=> ?_
 simp [ji]
theorem uG (g:Gr):∀b∈(ug g).aT,(∀i∈b,i<g.es.length)∧b.length≤g.es.length:=fun b hb=>⟨fun i hi=>UG.iu hb hi,vN hb⟩
theorem lP (g:Gr) (hlen:g.es.length≤9223372036854775807):Spec Try.prog 19 (Args [eG g]) [] (.d (sN (yh g))) []:=by
 have ym:=jd g hlen
 have done:sD g= []→yh g= []:=fun h=>by
  cases hq:(aN g&&aP g) with
  |true=>rw [jw hq];rw [mM hq] at h;exact uF h
  |false=>exact yl hq
 by_cases hz:sD g= []
 ·rw [done hz]
  rw [hz] at ym
  (refine Spec.hd (C:=T.cfg [] []) (rs:= [.t 2]) (T.aB _ _) Try.func19 rfl rfl Try.ntmps19 Try.results19 (by simp [AObj.isNest]) (by simp [AObj.isNest]) (by kernel_rfl) T.mixed fun X hX hP hC bN fH=> ?_)
  repeat' (first|refine Rn.p ?_|(with_reducible apply And.intro)|((first|(refine hK _ ?_;clear hK K)|with_reducible intro K hK|refine Rs.p ?_|((with_reducible first|apply oP|apply oQ);exact rfl)|refine ag hX hC hP (ym) rfl rfl rfl (by simp only [go_sem,simprocAttr]) rfl ?_);try simp only [go_sem,simprocAttr])|((with_reducible refine oD ?_ ?_);kernel_rfl)|((with_reducible intro h);try simp only [go_sem,simprocAttr] at h)|omega|intro h)
 have hq:(aN g&&aP g)=true:=by
  cases hq:(aN g&&aP g) with
  |true=>rfl
  |false=>exact absurd (yj hq) hz
 rw [jw hq]
 rw [mM hq] at ym hz
 rw [Bool.and_eq_true] at hq
 obtain ⟨hm,hl⟩:=hq
 have hn:=dM hm
 have FN:(ug g).aT.length≤g.es.length:=oh
 have FQ:=uD g hm (ug g).aT (fun b hb=>⟨(uG g b hb).1,by have:=(uG g b hb).2;omega⟩) (by omega)
 have iJ:decide (((ug g).aT.length:Int)=0)=false:=decide_eq_false (by
  intro e
  exact hz (List.eq_nil_of_length_eq_zero (by omega)))
 have kO:dX g g.n.toNat=eS g:=rfl
 have lX:=vV (g:=g) (L:=(ug g).aT)
 (refine Spec.hd (C:=T.cfg [] []) (rs:= [.t 2]) (T.aB _ _) Try.func19 rfl rfl Try.ntmps19 Try.results19 (by simp [AObj.isNest]) (by simp [AObj.isNest]) (by kernel_rfl) T.mixed fun X hX hP hC bN fH=> ?_)
 repeat' (first|(show bF _ (.seq (.region 4 _ _) _) _ _;(refine jt hX 2 200 (.tip 3 1 []) ?_ ?_ (by decide) ⟨3,1,by decide, .inr rfl⟩ ?_;(iterate 2 (focus (simp only [go_sem,simprocAttr,iJ];done)));simp only [go_sem,simprocAttr,iJ]))|refine Rn.p ?_|(with_reducible apply And.intro)|((first|(refine hK _ ?_;clear hK K)|with_reducible intro K hK|refine Rs.p ?_|((with_reducible first|apply oP|apply oQ);exact rfl)|refine ag hX hC hP (ym) rfl rfl rfl (by simp only [go_sem,simprocAttr,iJ]) rfl ?_|refine ag hX hC hP (FQ) rfl rfl rfl (by simp only [go_sem,simprocAttr,iJ]) rfl ?_);try simp only [go_sem,simprocAttr,iJ])|((with_reducible refine oD ?_ ?_);kernel_rfl)|((with_reducible intro h);try simp only [go_sem,simprocAttr,iJ] at h)|omega|intro h)
 refine aH (fun k:Nat=>k≤g.n.toNat) (fun k=>⟨[(2, .ref 200),(13, .d (sNL (uC g (ug g).aT))),(14,eN g.n.toNat),(15,eN k)], [(200, .tip 3 1 ((dX g k).map rN))]⟩) (fun k=>g.n.toNat - k) 0 (Nat.zero_le _) ?_ ?_
 ·refine Le.of ?_ ?_<;>simp [go_sem,simprocAttr,iJ,dX,lX]
 rintro k hk
 rcases Nat.lt_or_ge k g.n.toNat with hlt|hge
 rotate_left
 ·have hb:decide ((k:Int)<(g.n.toNat:Int))=false:=decide_eq_false (by omega)
  obtain rfl:k=g.n.toNat:=by omega
  rw [kO]
  repeat' (first|refine Rn.p ?_|(with_reducible apply And.intro)|((first|(refine hK _ ?_;clear hK K)|with_reducible intro K hK|refine Rs.p ?_|((with_reducible first|apply oP|apply oQ);exact rfl));try simp only [go_sem,simprocAttr,hb])|((with_reducible refine oD ?_ ?_);kernel_rfl)|((with_reducible intro h);try simp only [go_sem,simprocAttr,hb] at h)|omega|intro h)
 have hb:decide ((k:Int)<(g.n.toNat:Int))=true:=decide_eq_true (by omega)
 have cE:=pX (g:=g) (k:=k)
 have bE:=lM (g:=g) (k:=k)
 have mI:=yg (g:=g) (L:=(ug g).aT) hlt
 have sk:=uE (g:=g) (L:=(ug g).aT) (v:=k) (Nat.le_refl _)
 rw [← mI] at sk
 rw [← sk] at cE
 have hdc:decide ((1:Int)<((((uC g (ug g).aT).getD k []).length:Nat):Int))=decide (1<((uC g (ug g).aT).getD k []).length):=by rw [decide_eq_decide];omega
 generalize dX g k=C0 at cE bE ⊢
 generalize hrw:(uC g (ug g).aT).getD k []=r0 at cE hdc
 by_cases hc:1<r0.length
 ·rw [if_pos hc] at cE
  rw [decide_eq_true hc] at hdc
  repeat' (first|(show bF _ (.region 9 _ _) _ _;(refine pG hX 2 26 200 (by simp only [go_sem,simprocAttr,hb,hrw,hdc,lX]) rfl (by first|exact .inl rfl|exact .inr rfl) (by decide) ?_;simp only [go_sem,simprocAttr,hb,hrw,hdc,lX]))|refine Rn.p ?_|(with_reducible apply And.intro)|((first|(refine hK _ ?_;clear hK K)|with_reducible intro K hK|refine Rs.p ?_|((with_reducible first|apply oP|apply oQ);exact rfl));try simp only [go_sem,simprocAttr,hb,hrw,hdc,lX])|((with_reducible refine oD ?_ ?_);kernel_rfl)|((with_reducible intro h);try simp only [go_sem,simprocAttr,hb,hrw,hdc,lX] at h)|omega|intro h)
  refine ⟨k+1,by omega, ?_,by omega⟩
  rw [cE]
  refine Le.of ?_ ?_<;>simp [go_sem,simprocAttr,hb,hrw,hdc,lX,rN]
 ·rw [if_neg hc] at cE
  rw [decide_eq_false hc] at hdc
  repeat' (first|refine Rn.p ?_|(with_reducible apply And.intro)|((first|(refine hK _ ?_;clear hK K)|with_reducible intro K hK|refine Rs.p ?_|((with_reducible first|apply oP|apply oQ);exact rfl));try simp only [go_sem,simprocAttr,hb,hrw,hdc,lX])|((with_reducible refine oD ?_ ?_);kernel_rfl)|((with_reducible intro h);try simp only [go_sem,simprocAttr,hb,hrw,hdc,lX] at h)|omega|intro h)
  refine ⟨k+1,by omega, ?_,by omega⟩
  rw [cE]
  refine Le.of ?_ ?_<;>simp [go_sem,simprocAttr,hb,hrw,hdc,lX]
theorem uH (g:Gr) (hlen:g.es.length≤9223372036854775807):Spec Try.prog 18 (Args [eG g]) [] (eB (!(aN g&&aP g))) []:=by
 have hM:=nV g (by omega)
 have hnl:aP g= !(g.es.any fun e=>decide (e.1=e.2)):=rfl
 obtain ⟨P,Ed⟩:∃P:Edge→Bool,P=fun e=>decide (e.1=e.2):=⟨_,rfl⟩
 rw [← Ed] at hnl
 (refine Spec.hd (C:=T.cfg [] []) (rs:= [.t 2]) (T.aB _ _) Try.func18 rfl rfl Try.ntmps18 Try.results18 (by simp [AObj.isNest]) (by simp [AObj.isNest]) (by kernel_rfl) T.mixed fun X hX hP hC bN fH=> ?_)
 repeat' (first|refine Rn.p ?_|(with_reducible apply And.intro)|((first|(refine hK _ ?_;clear hK K)|with_reducible intro K hK|refine Rs.p ?_|((with_reducible first|apply oP|apply oQ);exact rfl)|refine ag hX hC hP (hM) rfl rfl rfl (by simp only [go_sem,simprocAttr]) rfl ?_);try simp only [go_sem,simprocAttr])|((with_reducible refine oD ?_ ?_);kernel_rfl)|((with_reducible intro h);try simp only [go_sem,simprocAttr] at h)|omega|intro h)
 refine aH (fun k:Nat=>k≤g.es.length∧(g.es.take k).any P=false) (fun k=>⟨[(1, .ptr 1 0),(6, .d (sE g.es)),(7,eN g.es.length),(8,eN k)], [(1, .box [eN g.n, .d (sE g.es)])]⟩) (fun k=>g.es.length - k) 0 ⟨Nat.zero_le _,rfl⟩ ?_ ?_
 ·refine Le.of ?_ ?_<;>simp [go_sem,simprocAttr]
 rintro k ⟨hk,hf⟩
 rcases Nat.lt_or_ge k g.es.length with hlt|hge
 rotate_left
 ·have bQ:decide ((k:Int)<(g.es.length:Int))=false:=decide_eq_false (by omega)
  obtain rfl:k=g.es.length:=by omega
  rw [List.take_length] at hf
  rw [hnl,hf]
  have e:(aN g&& !false)=aN g:=by simp
  rw [e]
  repeat' (first|refine Rn.p ?_|(with_reducible apply And.intro)|((first|(refine hK _ ?_;clear hK K)|with_reducible intro K hK|refine Rs.p ?_|((with_reducible first|apply oP|apply oQ);exact rfl)|refine ag hX hC hP (hM) rfl rfl rfl (by simp only [go_sem,simprocAttr,bQ]) rfl ?_);try simp only [go_sem,simprocAttr,bQ])|((with_reducible refine oD ?_ ?_);kernel_rfl)|((with_reducible intro h);try simp only [go_sem,simprocAttr,bQ] at h)|omega|intro h)
 have bQ:decide ((k:Int)<(g.es.length:Int))=true:=decide_eq_true (by omega)
 have hst:=lK (p:=P) (0,0) hlt
 have yb:=vM (p:=P) (0,0) hlt
 rw [hf,Bool.false_or] at hst
 have Ee:P (g.es.getD k (0,0))=decide ((g.es.getD k (0,0)).1=(g.es.getD k (0,0)).2):=by rw [Ed]
 generalize hq:P (g.es.getD k (0,0))=q at hst yb Ee
 have qa:=Ee.symm
 cases q with
 |true=>
  rw [hnl,yb rfl]
  have e:(!(aN g&& !true))=true:=by simp
  rw [e]
  repeat' (first|refine Rn.p ?_|(with_reducible apply And.intro)|((first|(refine hK _ ?_;clear hK K)|with_reducible intro K hK|refine Rs.p ?_|((with_reducible first|apply oP|apply oQ);exact rfl)|refine ag hX hC hP (hM) rfl rfl rfl (by simp only [go_sem,simprocAttr,bQ,qa]) rfl ?_);try simp only [go_sem,simprocAttr,bQ,qa])|((with_reducible refine oD ?_ ?_);kernel_rfl)|((with_reducible intro h);try simp only [go_sem,simprocAttr,bQ,qa] at h)|omega|intro h)
 |false=>
  repeat' (first|refine Rn.p ?_|(with_reducible apply And.intro)|((first|(refine hK _ ?_;clear hK K)|with_reducible intro K hK|refine Rs.p ?_|((with_reducible first|apply oP|apply oQ);exact rfl)|refine ag hX hC hP (hM) rfl rfl rfl (by simp only [go_sem,simprocAttr,bQ,qa]) rfl ?_);try simp only [go_sem,simprocAttr,bQ,qa])|((with_reducible refine oD ?_ ?_);kernel_rfl)|((with_reducible intro h);try simp only [go_sem,simprocAttr,bQ,qa] at h)|omega|intro h)
  refine ⟨k+1,⟨by omega,hst⟩, ?_,by omega⟩
  refine Le.of ?_ ?_<;>simp [go_sem,simprocAttr,bQ,qa]
end Go.Ab
end
section
namespace Go.Ab
open Go.Proofs
attribute [local congr] ACall.congr gd.congr Nx.congr
set_option maxRecDepth 20000
set_option maxHeartbeats 16000000
def g4:Gr:=⟨3, [(0,1),(1,2)]⟩
theorem AK:(ug g4).Ok:=lG (by decide) (by decide)
theorem uI:(ug g4).aT= [[0], [1]]:=by
 have h:=UG.lD AK (so:=id) (fun l=>List.Perm.refl _)
 have hb:UG.bK (ug g4) id= [[1], [0]]:=by decide
 rw [hb] at h
 refine (UG.qC (L:= [[0], [1]]) (by decide) (fun e=> ?_) (fun b hb'=>h.2.2 b (by simp at hb' ⊢;exact hb'.symm)) (by decide) (by decide)).symm
 show e∈ [0,1]↔e<2
 simp;omega
theorem AL:sD g4= [[0], [1]]:=by rw [mM (by decide),uI]
theorem AM:yh g4= [1]:=by
 rw [jw (by decide)]
 unfold eS dX
 rw [uI]
 decide
theorem qb (xs ys:List Nat) (hlen:xs.length≤9223372036854775807):Spec Try.prog 22 (Args [.d (sN xs), .d (sN ys)]) [] (eB (decide (xs=ys))) []:=by
 have h:=kP (nI xs) (nI ys) (by rw [nI,List.length_map];exact hlen)
 have e:decide (nI xs=nI ys)=decide (xs=ys):=by
  rw [decide_eq_decide]
  constructor
  ·intro e
   have:=congrArg (List.map Int.toNat) e
   unfold nI at this
   rw [List.map_map,List.map_map] at this
   have hid:(Int.toNat ∘ fun n:Nat=>(n:Int))=id:=funext fun n=>rfl
   rw [hid,List.map_id,List.map_id] at this
   exact this
  ·rintro rfl;rfl
 rw [← lN, ← lN,e] at h
 exact h
theorem mN:Spec Try.prog 14 (Args []) [] (eB true) []:=by
 have ym:=jd g4 (by decide)
 have AN:=lP g4 (by decide)
 rw [AL] at ym
 rw [AM] at AN
 have FR:=qb [1] [1] (by decide)
 have e1:g4.es.map rE= [[.sc (.int .i64 0), .sc (.int .i64 1)], [.sc (.int .i64 1), .sc (.int .i64 2)]]:=rfl
 have e2:g4.n=3:=rfl
 have e3:([[0], [1]]:List (List Nat)).map kS= [[sN [0]], [sN [1]]]:=rfl
 have e4:([1]:List Nat).map rN= [[.sc (.int .i64 1)]]:=rfl
 (refine Spec.hd (C:=T.cfg [] []) (rs:= [.t 0]) (T.aB _ _) Try.func14 rfl rfl Try.ntmps14 Try.results14 (by simp [AObj.isNest]) (by simp [AObj.isNest]) (by kernel_rfl) T.mixed fun X hX hP hC bN fH=> ?_)
 repeat' (first|refine Rn.p ?_|(with_reducible apply And.intro)|((first|(refine hK _ ?_;clear hK K)|with_reducible intro K hK|refine Rs.p ?_|((with_reducible first|apply oP|apply oQ);exact rfl)|(refine dD hX hC hP (ym) rfl rfl rfl ?_ ?_ rfl ?_;iterate 2 (focus (simp only [go_sem,simprocAttr,e1,e2,e3,e4];done)))|(refine dD hX hC hP (AN) rfl rfl rfl ?_ ?_ rfl ?_;iterate 2 (focus (simp only [go_sem,simprocAttr,e1,e2,e3,e4];done)))|(refine dD hX hC hP (FR) rfl rfl rfl ?_ ?_ rfl ?_;iterate 2 (focus (simp only [go_sem,simprocAttr,e1,e2,e3,e4];done))));try simp only [go_sem,simprocAttr,e1,e2,e3,e4])|((with_reducible refine oD ?_ ?_);kernel_rfl)|((with_reducible intro h);try simp only [go_sem,simprocAttr,e1,e2,e3,e4] at h)|omega|intro h)
def kH (g:Gr):Bool:=decide (40<(g.es.length:Int))||(decide (20<g.n)|| !(aN g&&aP g))
theorem qc (g:Gr) (hlen:g.es.length≤9223372036854775807):Spec Try.prog 15 (Args [eG g]) [] (eB (kH g)) []:=by
 have hO:=uH g hlen
 have hlb:kH g=(decide (40<(g.es.length:Int))||(decide (20<g.n)|| !(aN g&&aP g))):=rfl
 generalize (!(aN g&&aP g))=q at hO hlb
 by_cases h1:40<(g.es.length:Int)
 ·rw [decide_eq_true h1,Bool.true_or] at hlb
  have jB:=decide_eq_true h1
  rw [hlb]
  (refine Spec.hd (C:=T.cfg [] []) (rs:= [.t 2]) (T.aB _ _) Try.func15 rfl rfl Try.ntmps15 Try.results15 (by simp [AObj.isNest]) (by simp [AObj.isNest]) (by kernel_rfl) T.mixed fun X hX hP hC bN fH=> ?_)
  repeat' (first|refine Rn.p ?_|(with_reducible apply And.intro)|((first|(refine hK _ ?_;clear hK K)|with_reducible intro K hK|refine Rs.p ?_|((with_reducible first|apply oP|apply oQ);exact rfl)|refine ag hX hC hP (hO) rfl rfl rfl (by simp only [go_sem,simprocAttr,jB]) rfl ?_);try simp only [go_sem,simprocAttr,jB])|((with_reducible refine oD ?_ ?_);kernel_rfl)|((with_reducible intro h);try simp only [go_sem,simprocAttr,jB] at h)|omega|intro h)
 rw [decide_eq_false h1,Bool.false_or] at hlb
 have jB:=decide_eq_false h1
 by_cases h2:20<g.n
 ·rw [decide_eq_true h2,Bool.true_or] at hlb
  have oL:=decide_eq_true h2
  rw [hlb]
  (refine Spec.hd (C:=T.cfg [] []) (rs:= [.t 2]) (T.aB _ _) Try.func15 rfl rfl Try.ntmps15 Try.results15 (by simp [AObj.isNest]) (by simp [AObj.isNest]) (by kernel_rfl) T.mixed fun X hX hP hC bN fH=> ?_)
  repeat' (first|refine Rn.p ?_|(with_reducible apply And.intro)|((first|(refine hK _ ?_;clear hK K)|with_reducible intro K hK|refine Rs.p ?_|((with_reducible first|apply oP|apply oQ);exact rfl)|refine ag hX hC hP (hO) rfl rfl rfl (by simp only [go_sem,simprocAttr,jB,oL]) rfl ?_);try simp only [go_sem,simprocAttr,jB,oL])|((with_reducible refine oD ?_ ?_);kernel_rfl)|((with_reducible intro h);try simp only [go_sem,simprocAttr,jB,oL] at h)|omega|intro h)
 rw [decide_eq_false h2,Bool.false_or] at hlb
 have oL:=decide_eq_false h2
 rw [hlb]
 (refine Spec.hd (C:=T.cfg [] []) (rs:= [.t 2]) (T.aB _ _) Try.func15 rfl rfl Try.ntmps15 Try.results15 (by simp [AObj.isNest]) (by simp [AObj.isNest]) (by kernel_rfl) T.mixed fun X hX hP hC bN fH=> ?_)
 repeat' (first|refine Rn.p ?_|(with_reducible apply And.intro)|((first|(refine hK _ ?_;clear hK K)|with_reducible intro K hK|refine Rs.p ?_|((with_reducible first|apply oP|apply oQ);exact rfl)|refine ag hX hC hP (hO) rfl rfl rfl (by simp only [go_sem,simprocAttr,jB,oL]) rfl ?_);try simp only [go_sem,simprocAttr,jB,oL])|((with_reducible refine oD ?_ ?_);kernel_rfl)|((with_reducible intro h);try simp only [go_sem,simprocAttr,jB,oL] at h)|omega|intro h)
theorem uJ {g:Gr} (h:kH g=false):aN g=true∧aP g=true∧g.es.length≤40∧g.n≤20:=by
 unfold kH at h
 rw [Bool.or_eq_false_iff,Bool.or_eq_false_iff,decide_eq_false_iff_not,decide_eq_false_iff_not,Bool.not_eq_false',Bool.and_eq_true] at h
 exact ⟨h.2.2.1,h.2.2.2,by omega,by omega⟩
end Go.Ab
end
section
namespace Go.Ab
open Go.Proofs
attribute [local congr] ACall.congr gd.congr Nx.congr
set_option maxRecDepth 20000
set_option maxHeartbeats 16000000
def r9 (g:Gr) (cu:List Nat) (k:Nat):List Bool:=(List.range g.n.toNat).map fun v=>decide (v∈cu.take k)
theorem iz {g:Gr} {cu:List Nat} {k:Nat} :(r9 g cu k).length=g.n.toNat:=by simp [r9]
theorem uK {g:Gr} {cu:List Nat} {k v:Nat} (hv:v<g.n.toNat):(r9 g cu k).getD v false=decide (v∈cu.take k):=by
 simp [r9,List.getD_eq_getElem?_getD,List.getElem?_range hv]
theorem uL {g:Gr} {cu:List Nat} :List.replicate g.n.toNat [D.sc (.bool false)]=(r9 g cu 0).map rB:=by
 refine List.ext_getElem? fun i=> ?_
 by_cases hi:i<g.n.toNat
 ·simp [r9,hi,rB,List.getElem?_range hi]
 ·rw [List.getElem?_eq_none (by simp;omega),List.getElem?_eq_none (by simp [r9];omega)]
theorem uM {g:Gr} {cu:List Nat} {k:Nat} (hk:k<cu.length):(r9 g cu k).set (cu.getD k 0) true=r9 g cu (k+1):=by
 refine List.ext_getElem? fun i=> ?_
 rw [List.getElem?_set,iz]
 have he:cu.getD k 0=cu[k]:=by rw [List.getD_eq_getElem?_getD,List.getElem?_eq_getElem hk];rfl
 by_cases hi:i<g.n.toNat
 ·simp only [r9,List.getElem?_map,List.getElem?_range hi,Option.map_some]
  rw [List.take_add_one,List.getElem?_eq_getElem hk,Option.toList_some]
  by_cases e:cu.getD k 0=i
  ·subst e
   rw [if_pos rfl,if_pos hi]
   exact congrArg some (decide_eq_true (List.mem_append.2 (.inr (by rw [he];simp)))).symm
  ·rw [if_neg e]
   rw [he] at e
   congr 1
   rw [decide_eq_decide,List.mem_append,List.mem_singleton]
   constructor
   ·exact .inl
   ·rintro (h|h)
    ·exact h
    ·exact absurd h.symm e
 ·rw [List.getElem?_eq_none (by rw [iz];omega),List.getElem?_eq_none (by rw [iz];omega)]
  split
  ·rename_i e
   rw [if_neg (by rw [e];omega)]
  ·rfl
theorem qd {g:Gr} :(∀x∈eS g,x<g.n.toNat)∧(eS g).Nodup:=by
 unfold eS dX
 exact ⟨fun x hx=>List.mem_range.1 (List.mem_filter.1 hx).1,List.nodup_range.filter _⟩
theorem uN {g:Gr} (hm:aN g=true) (hl:aP g=true) {x:Nat} (hx:x<g.n.toNat):x∈eS g↔(dO g 0).length<(dO g (2 ^ x)).length:=by
 have hG:=lG hm hl
 rw [pU hm hl,rV hm hl, ← UG.vC hG,UG.jo hG]
 unfold eS dX ji
 rw [List.mem_filter,List.mem_range,decide_eq_true_eq,List.take_length]
 exact ⟨fun h=>h.2,fun h=>⟨hx,h⟩⟩
theorem kI (g:Gr) (hlen:g.es.length≤9223372036854775807):Spec Try.prog 8 (Args [eG g]) [] (eB true) []:=by
 have Ef:=mN
 have hL:=qc g hlen
 have AN:=lP g hlen
 cases hlb:kH g with
 |true=>
  rw [hlb] at hL
  (refine Spec.hd (C:=T.cfg [] []) (rs:= [.t 2]) (T.aB _ _) Try.func8 rfl rfl Try.ntmps8 Try.results8 (by simp [AObj.isNest]) (by simp [AObj.isNest]) (by kernel_rfl) T.mixed fun X hX hP hC bN fH=> ?_)
  repeat' (first|refine Rn.p ?_|(with_reducible apply And.intro)|((first|(refine hK _ ?_;clear hK K)|with_reducible intro K hK|refine Rs.p ?_|((with_reducible first|apply oP|apply oQ);exact rfl)|refine ag hX hC hP (Ef) rfl rfl rfl (by simp only [go_sem,simprocAttr]) rfl ?_|refine ag hX hC hP (hL) rfl rfl rfl (by simp only [go_sem,simprocAttr]) rfl ?_);try simp only [go_sem,simprocAttr])|((with_reducible refine oD ?_ ?_);kernel_rfl)|((with_reducible intro h);try simp only [go_sem,simprocAttr] at h)|omega|intro h)
 |false=>
 rw [hlb] at hL
 obtain ⟨hm,hl,GM,Ba⟩:=uJ hlb
 rw [jw (by rw [hm,hl];rfl)] at AN
 have hn:=dM hm
 have Dj:=kB g hm 0 (by decide)
 have FT:∀x,x<g.n.toNat→Spec Try.prog 26 (Args [eG g,eU (2 ^ x)]) [] (.d (sU (dO g (2 ^ x)))) []:=fun x hx=>kB g hm (2 ^ x) (Nat.lt_of_lt_of_le (Nat.pow_lt_pow_right (by decide) (show x<64 by omega)) (by decide))
 obtain ⟨hc1,x2⟩:=qd (g:=g)
 have yQ:=fun x hx=>uN hm hl (g:=g) (x:=x) hx
 have kO:(eS g).length≤g.n.toNat:=lM
 have gM:∀W,(dO g W).length≤g.n.toNat:=fun W=>gL
 have FU:=gM 0
 generalize eS g=cu at*
 generalize qP:dO g 0=p0 at*
 (refine Spec.hd (C:=T.cfg [14] []) (rs:= [.t 2]) (T.aB _ _) Try.func8 rfl rfl Try.ntmps8 Try.results8 (by simp [AObj.isNest]) (by simp [AObj.isNest]) (by kernel_rfl) T.mixed fun X hX hP hC bN fH=> ?_)
 repeat' (first|refine Rn.p ?_|(with_reducible apply And.intro)|((first|(refine hK _ ?_;clear hK K)|with_reducible intro K hK|refine Rs.p ?_|((with_reducible first|apply oP|apply oQ);exact rfl)|refine ag hX hC hP (Ef) rfl rfl rfl (by simp only [go_sem,simprocAttr]) rfl ?_|refine ag hX hC hP (hL) rfl rfl rfl (by simp only [go_sem,simprocAttr]) rfl ?_|refine ag hX hC hP (AN) rfl rfl rfl (by simp only [go_sem,simprocAttr]) rfl ?_);try simp only [go_sem,simprocAttr])|((with_reducible refine oD ?_ ?_);kernel_rfl)|((with_reducible intro h);try simp only [go_sem,simprocAttr] at h)|omega|intro h)
 refine aH (fun k:Nat=>k≤cu.length) (fun k=>⟨[(1, .ptr 1 0),(3, .ref 14),(16, .d (sN cu)),(17,eN cu.length),(18,eN k)], [(14, .own 4 1 ((r9 g cu k).map rB)),(1, .box [eN g.n, .d (sE g.es)])]⟩) (fun k=>cu.length - k) 0 (Nat.zero_le _) ?_ ?_
 ·rw [← uL]
  refine Le.of ?_ ?_<;>simp [go_sem,simprocAttr]
 rintro k hk
 rcases Nat.lt_or_ge k cu.length with hlt|hge
 ·have hb:decide ((k:Int)<(cu.length:Int))=true:=decide_eq_true (by omega)
  obtain ⟨x,hx⟩:∃x,cu.getD k 0=x:=⟨_,rfl⟩
  have FV:x∈cu:=by rw [← hx];exact iP 0 hlt
  have xS:=hc1 x FV
  have cE:=uM (g:=g) hlt
  have hml:=iz (g:=g) (cu:=cu) (k:=k)
  have mI:=uK (g:=g) (cu:=cu) (k:=k) xS
  have hno:decide (x∈cu.take k)=false:=decide_eq_false fun h=>by
   obtain ⟨j,hj1,hj2⟩:=List.mem_iff_getElem.1 h
   rw [List.length_take] at hj1
   rw [List.getElem_take] at hj2
   rw [List.getD_eq_getElem?_getD,List.getElem?_eq_getElem hlt,Option.getD_some] at hx
   rw [← hx] at hj2
   have:=(List.getElem_inj (h₀:=by omega) (h₁:=hlt) x2).1 hj2
   omega
  rw [hno] at mI
  rw [hx] at cE
  have bQ:decide ((x:Int)<0)=false:=decide_eq_false (by omega)
  have mC:decide (g.n≤(x:Int))=false:=decide_eq_false (by omega)
  generalize r9 g cu k=M at cE hml mI ⊢
  repeat' (first|refine Rn.p ?_|(with_reducible apply And.intro)|((first|(refine hK _ ?_;clear hK K)|with_reducible intro K hK|refine Rs.p ?_|((with_reducible first|apply oP|apply oQ);exact rfl));try simp only [go_sem,simprocAttr,hb,hx,bQ,mC,mI,hml,pH])|((with_reducible refine oD ?_ ?_);kernel_rfl)|((with_reducible intro h);try simp only [go_sem,simprocAttr,hb,hx,bQ,mC,mI,hml,pH] at h)|omega|intro h)
  refine ⟨k+1,by omega, ?_,by omega⟩
  rw [← cE]
  refine Le.of ?_ ?_<;>simp [go_sem,simprocAttr,hb,hx,bQ,mC,mI,hml,pH]
 have hb:decide ((k:Int)<(cu.length:Int))=false:=decide_eq_false (by omega)
 obtain rfl:k=cu.length:=by omega
 have hml:=iz (g:=g) (cu:=cu) (k:=cu.length)
 have mI:=fun v hv=>uK (g:=g) (cu:=cu) (k:=cu.length) (v:=v) hv
 generalize r9 g cu cu.length=M at hml mI ⊢
 have GN:∀W:Nat,(D.sc (.int .u64 (W:Int)))=(D.sc (.int .u64 (W:Int))):=fun _=>rfl
 rw [List.take_length] at mI
 have Dl:Spec Try.prog 26 (Args [eG g, .d (.sc (.int .u64 0))]) [] (.d (sU p0)) []:=Dj
 repeat' (first|refine Rn.p ?_|(with_reducible apply And.intro)|((first|(refine hK _ ?_;clear hK K)|with_reducible intro K hK|refine Rs.p ?_|((with_reducible first|apply oP|apply oQ);exact rfl)|refine ag hX hC hP (Dl) rfl rfl rfl (by simp only [go_sem,simprocAttr,hb]) rfl ?_);try simp only [go_sem,simprocAttr,hb])|((with_reducible refine oD ?_ ?_);kernel_rfl)|((with_reducible intro h);try simp only [go_sem,simprocAttr,hb] at h)|omega|intro h)
 clear hb
 refine aH (fun x:Nat=>x≤g.n.toNat) (fun x=>⟨[(1, .ptr 1 0),(3, .ref 14),(6,eN p0.length),(44,eN g.n.toNat),(45,eN x)], [(14, .own 4 1 (M.map rB)),(1, .box [eN g.n, .d (sE g.es)])]⟩) (fun x=>g.n.toNat - x) 0 (Nat.zero_le _) ?_ ?_
 ·refine Le.of ?_ ?_<;>simp [go_sem,simprocAttr,hml]
 rintro x hx
 rcases Nat.lt_or_ge x g.n.toNat with Av|GO
 rotate_left
 ·have hb:decide ((x:Int)<(g.n.toNat:Int))=false:=decide_eq_false (by omega)
  repeat' (first|refine Rn.p ?_|(with_reducible apply And.intro)|((first|(refine hK _ ?_;clear hK K)|with_reducible intro K hK|refine Rs.p ?_|((with_reducible first|apply oP|apply oQ);exact rfl));try simp only [go_sem,simprocAttr,hb])|((with_reducible refine oD ?_ ?_);kernel_rfl)|((with_reducible intro h);try simp only [go_sem,simprocAttr,hb] at h)|omega|intro h)
 have hb:decide ((x:Int)<(g.n.toNat:Int))=true:=decide_eq_true (by omega)
 have FW:=od x (by omega)
 have Eg:=FT x Av
 have Bg:=yQ x Av
 have Dm:=gM (2 ^ x)
 have oM:=mI x Av
 generalize dO g (2 ^ x)=p1 at Eg Bg Dm
 have hdc:decide ((p0.length:Int)<(p1.length:Int))=decide (x∈cu):=by rw [decide_eq_decide,Bg];omega
 cases decide (x∈cu)
 all_goals (repeat' (first|refine Rn.p ?_|(with_reducible apply And.intro)|((first|(refine hK _ ?_;clear hK K)|with_reducible intro K hK|refine Rs.p ?_|((with_reducible first|apply oP|apply oQ);exact rfl)|(refine dD hX hC hP (FW) rfl rfl rfl ?_ ?_ rfl ?_;iterate 2 (focus (simp only [go_sem,simprocAttr,hb,hml,oM,hdc];done)))|refine ag hX hC hP (Eg) rfl rfl rfl (by simp only [go_sem,simprocAttr,hb,hml,oM,hdc]) rfl ?_);try simp only [go_sem,simprocAttr,hb,hml,oM,hdc])|((with_reducible refine oD ?_ ?_);kernel_rfl)|((with_reducible intro h);try simp only [go_sem,simprocAttr,hb,hml,oM,hdc] at h)|omega|intro h))
 all_goals (refine ⟨x+1,by omega, ?_,by omega⟩)
 all_goals (refine Le.of ?_ ?_<;>simp [go_sem,simprocAttr,hb,hml,oM,hdc])
end Go.Ab
end
