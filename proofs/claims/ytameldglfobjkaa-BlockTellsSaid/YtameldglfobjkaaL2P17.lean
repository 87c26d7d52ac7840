/- A part of the proof. -/
import Derived.Shelf.SlSortCmp.NoneTotal
import Derived.Deep.QuietTactic
import Derived.WalkKit
import Derived.Sort.Grow
import Derived.Test.YtameldglfobjkaaL2P16
set_option linter.unusedSimpArgs false
set_option linter.unusedVariables false
section
namespace Go.Ab
open Go.Proofs Go.RowKit Go.Shelf Go.Sort
set_option maxRecDepth 10000
set_option maxHeartbeats 4000000
theorem yT (W:World) (b1 o1 n1 c1 b2 o2 n2 c2:Nat) (x y:Int) (hx:0≤x∧x≤1000) (hy:0≤y∧y≤1000) (E9:0<n1) (hn2:0<n2) (h1:W.cell? ⟨b1,o1,none⟩=some (.int .i64 x)) (h2:W.cell? ⟨b2,o2,none⟩=some (.int .i64 y)):
 Calls Try.prog 42 #[.slice (some ⟨b1,o1,none⟩) n1 c1, .slice (some ⟨b2,o2,none⟩) n2 c2] W fun e w'=>e= .returned (.int .i64 (x - y))∧∃q,w'=W.drewN q:=by
 go_enter Try.func42,Try.ntmps42
 go_wp2
 go_quiet (fail)
 go_wp2
 go_ret
 exact ⟨rfl,nq,rfl⟩
def vb (P:Program) (g:Nat) (cb:Array Value) (en:Int→Value) (cf:Int→Int→Int) (l:List Int) (blk:Nat) (w:World):Prop:=
 ∀W:World,w.heap.size≤W.heap.size→(∀b,b<w.heap.size→b≠blk→W.heap[b]? =w.heap[b]?)→∀x,x∈l→∀y,y∈l→
  Calls P g (#[en x,en y]++cb) W fun e w'=>e= .returned (.int .i64 (cf x y))∧∃q os',w'=grow (W.drewN q) os'
theorem o3 (g:Nat) (cb:Array Value) (en:Int→Value) (q7:∀x,(en x).oneCell'=true) {cf:Int→Int→Int} {l l':List Int} (S:yC cf l l') (hlen:l.length≤1000000) (eg:∀args w,(callFunc g args).run Try.prog w= .ok (.enter g args) w)
 (blk cap:Nat) (w:World) {cur:Array Value} {e:TypeId} (hb:w.heap[blk]? =some (.cells cur e (0,0))) (hc:∀i,i<l.length→cur[i]? =some (en (l.getD i 0))) (hne:l≠ [])
 (hcmp:vb Try.prog g cb en cf l blk w):
 Calls Try.prog 41 #[.slice (some ⟨blk,0,none⟩) l.length cap, .func (.func g) #[] cb] w fun Eh w'=>Eh= .returned (.tuple #[])∧
  w'.os=w.os∧w'.tape=w.tape∧w'.output=w.output∧w.heap.size≤w'.heap.size∧(∀b,b<w.heap.size→b≠blk→w'.heap[b]? =w.heap[b]?)∧
  ∃cur',w'.heap[blk]? =some (.cells cur' e (0,0))∧cur'.size=cur.size∧∀i,i<l'.length→cur'[i]? =some (en (l'.getD i 0)):=by
 have hlt:blk<w.heap.size:=(Array.getElem?_eq_some_iff.1 hb).1
 obtain ⟨a0,ha0⟩:∃a,a∈l:=by
  cases l with
  |nil=>exact absurd rfl hne
  |cons a l=>exact ⟨a,by simp⟩
 letI:Inhabited {x // x∈l} :=⟨⟨a0,ha0⟩⟩
 have hsz:(l.attach.toArray).size=l.length:=by simp
 have zB:∀j (hj:j<l.length),((l.attach.toArray)[j]!).1=l.getD j 0:=fun j hj=>by
  rw [getElem!_pos _ j (by simpa using hj),List.getD_eq_getElem?_getD,List.getElem?_eq_getElem hj]
  simp
 have hH:Holds (fun x: {x // x∈l} =>en x.1) w blk 0 l.attach.toArray:=fun j hj=>by
  rw [hsz] at hj
  refine ⟨?_, ?_⟩
  ·show _=some (en ((l.attach.toArray)[j]!).1)
   rw [Nat.zero_add,zB j hj, ← hc j hj]
   simp [World.cell?,hb]
  ·simp [World.frozen?,hb]
 have zT:CmpLays1 Try.prog g cb (fun x: {x // x∈l} =>en x.1) (fun x y=>cf x.1 y.1) blk 0 (l.attach.toArray).size w:=fun m os dk _ x y=>
  hcmp _ (fW ..) (fun b h1 h2=>fV _ _ _ _ _ _ h1 h2) x.1 x.2 y.1 y.2
 have Bt:=Any.slices_SortFunc Try.uu (fun x: {x // x∈l} =>en x.1) (fun x=>q7 x.1) (fun x y=>cf x.1 y.1) S.swo g cb blk 0 cap l.attach.toArray w eg zT hH hlt (by rw [hsz];omega)
 rw [hsz] at Bt
 refine Calls.mono Bt ?_
 rintro Eh w' ⟨rfl,d',n,os,hp,hs,rfl⟩
 rw [← hsz] at hp hs
 have he:=S.eq (d:=l.attach.toArray) (by simp) hp hs
 have hds:d'.size=l.length:=by rw [hp.1,hsz]
 refine ⟨rfl,rfl,rfl,rfl,fW ..,fun b h1 h2=>fV _ _ _ _ _ _ h1 h2,_,lC _ _ _ _ _ _ hb,by simp [putCells],fun i hi=> ?_⟩
 have hi2:i<l.length:=by rw [S.perm.length_eq];exact hi
 have hic:i<cur.size:=(Array.getElem?_eq_some_iff.1 (hc i hi2)).1
 simp only [putCells,Array.getElem?_mapIdx,Array.getElem?_eq_getElem hic,Option.map_some]
 rw [if_pos ⟨by omega,by omega⟩,Nat.sub_zero,getElem!_pos d' i (by omega)]
 have:l'.getD i 0=(d'[i]'(by omega)).1:=by
  rw [← he,List.getD_eq_getElem?_getD,List.getElem?_map,Array.getElem?_toList,Array.getElem?_eq_getElem (by omega)]
  rfl
 rw [this]
theorem iT (p:Option Addr) (cap:Nat) (fv:Value) (w:World):Calls Try.prog 41 #[.slice p 0 cap,fv] w fun e w'=>e= .returned (.tuple #[])∧w'=w:=
 AnyF.slices_SortFunc_none {Try.uu with} p cap fv w
theorem yU {ob:AObj} (hn:ob.isNest=false) {q:Nat} {o:AObj} (h:aH [(10000,ob)] q=some o):q=10000∧o=ob:=by
 have hl:look [(10000,ob)] q=some o:=(cO (fun p hp=>by
  rw [List.mem_singleton] at hp
  subst hp
  exact hn) h).1
 simp only [look] at hl
 split at hl
 ·rename_i e;cases hl;exact ⟨e.symm,rfl⟩
 ·cases hl
def gI (b:List Nat):Int:=((b.headD 0:Nat):Int)
theorem qn {L L':List (List Nat)} (hp:L.Perm L') (hne:∀b∈L,b≠ []) (b9:(L.map gI).Nodup) (hs:L'.Pairwise fun a b=>gI a<gI b) (hbd:∀b∈L,gI b≤1000) (hlen:L.length≤1000000):
 Spec Try.prog 41 (Args [.ref 10000, .fn 42 [] []]) [(10000, .own 25 1 (L.map jQ))] (.tup []) [(10000, .own 25 1 (L'.map jQ))]:=by
 refine ⟨⟨Try.f41,_,Try.func41,by kernel_rfl,rfl⟩,fun E w vals hg hA=> ?_⟩
 obtain ⟨v,vs,rfl,h0,h3⟩:=hA
 obtain ⟨v2,HK,rfl,h1,h4⟩:=h3
 simp only [AVrs] at h4
 subst h4
 obtain ⟨us,us',rfl,h5,h6⟩:=h1
 simp only [AVrs] at h5 h6
 subst h5 h6
 obtain ⟨rfl,_⟩:=h0
 obtain ⟨_,_,o2⟩:=hg.dR 10000 (.own 25 1 (L.map jQ)) rfl
 have pI:L.length=L'.length:=hp.length_eq
 have hkeep:∀ {w':World},(∀b,0<E.z b→w'.heap[b]? =w.heap[b]?)→aj w E.z w' E.z:=fun h b=>⟨Nat.le_refl _,fun o ho=>by
  simp only [World.cell?,h b (by omega)]⟩
 rcases o2 with ⟨r0,r1,p,r2⟩|⟨b,cur,cap,r0,r1,r2,r3,r4,r5,r6,r7⟩
 ·have hl0:L= []:=List.map_eq_nil_iff.1 r1
  subst hl0
  have yV:L'= []:=hp.symm.eq_nil
  subst yV
  rw [r2]
  refine (iT p 0 _ w).mono ?_
  rintro en w' ⟨rfl,rfl⟩
  exact ⟨_,E,rfl,xy.refl _ _ _,hg,fun q o b hq hro hb=> .inr ⟨q,o,hq,hro,hb⟩,⟨[],rfl,rfl⟩⟩
 rw [List.length_map] at r2 r3
 rw [r2]
 by_cases hl0:L= []
 ·subst hl0
  have yV:L'= []:=hp.symm.eq_nil
  subst yV
  refine (iT _ cap _ w).mono ?_
  rintro en w' ⟨rfl,rfl⟩
  exact ⟨_,E,rfl,xy.refl _ _ _,hg,fun q o b hq hro hb=> .inr ⟨q,o,hq,hro,hb⟩,⟨[],rfl,rfl⟩⟩
 have lJ:b<w.heap.size:=(Array.getElem?_eq_some_iff.1 r1).1
 have Bu:∀i,i<L.length→∃x,cur[i]? =some x∧Rd w E.z x (sN (L.getD i [])):=fun i hi=>by
  obtain ⟨x,h1,h2⟩:=r7 i 0 (jQ L[i]) (sN L[i]) (by simp [List.getElem?_eq_getElem hi]) rfl
  exact ⟨x,by simpa using h1,by rw [List.getD_eq_getElem?_getD,List.getElem?_eq_getElem hi];exact h2⟩
 have hidx:∀i,i<L.length→(L.map gI).idxOf ((L.map gI).getD i 0)=i:=fun i hi=>by
  have hi':i<(L.map gI).length:=by rw [List.length_map];exact hi
  rw [List.getD_eq_getElem?_getD,List.getElem?_eq_getElem hi',Option.getD_some]
  exact b9.idxOf_getElem i hi'
 obtain ⟨en,q7⟩:∃en:Int→Value,en=fun h=>if (L.map gI).idxOf h<L.length then cur.getD ((L.map gI).idxOf h) (.int .i64 0) else .int .i64 0:=⟨_,rfl⟩
 have zB:∀i,i<L.length→cur[i]? =some (en ((L.map gI).getD i 0))∧Rd w E.z (en ((L.map gI).getD i 0)) (sN (L.getD i [])):=fun i hi=>by
  obtain ⟨x,h1,h2⟩:=Bu i hi
  have:en ((L.map gI).getD i 0)=x:=by
   rw [q7]
   simp only
   rw [hidx i hi,if_pos hi]
   simp [h1]
  rw [this]
  exact ⟨h1,h2⟩
 have hmem:∀c∈L,Rd w E.z (en (gI c)) (sN c):=fun c hc=>by
  obtain ⟨i,hi,rfl⟩:=List.mem_iff_getElem.1 hc
  have h1:=(zB i hi).2
  have e1:(L.map gI).getD i 0=gI L[i]:=by
   rw [List.getD_eq_getElem?_getD,List.getElem?_map,List.getElem?_eq_getElem hi];rfl
  rw [e1,List.getD_eq_getElem?_getD,List.getElem?_eq_getElem hi] at h1
  exact h1
 have hone:∀x,(en x).oneCell'=true:=fun x=>by
  rw [q7]
  simp only
  split
  ·rename_i h
   obtain ⟨y,h1,h2⟩:=Bu _ h
   have:cur.getD ((L.map gI).idxOf x) (.int .i64 0)=y:=by simp [h1]
   rw [this]
   exact h2.one
  ·rfl
 have hS:yC (fun x y=>x - y) (L.map gI) (L'.map gI):=by
  refine ⟨hp.map _,b9, ?_,fun x _=>by omega⟩
  rw [List.pairwise_map]
  exact hs.imp fun {a b} h=>by omega
 have hcmp:vb Try.prog 42 #[] en (fun x y=>x - y) (L.map gI) b w:=by
  intro W hsz hW x hx y hy
  obtain ⟨c,hc,rfl⟩:=List.mem_map.1 hx
  obtain ⟨d,hd,rfl⟩:=List.mem_map.1 hy
  have Bv:∀q o,q<w.heap.size→q≠b→W.cell? ⟨q,o,none⟩=w.cell? ⟨q,o,none⟩:=fun q o h1 h2=>by
   simp only [World.cell?,hW q h1 h2]
  have xT:∀c∈L,∃q off n cap,en (gI c)= .slice (some ⟨q,off,none⟩) n cap∧0<n∧W.cell? ⟨q,off,none⟩=some (.int .i64 (gI c)):=fun c hc=>by
   have h1:=hmem c hc
   rw [l6] at h1
   have mw:nI c≠ []:=fun e=>hne c hc (List.map_eq_nil_iff.1 e)
   obtain ⟨q,off,cap,g1,g2,g3,g4⟩:=AM h1 mw
   have hpos:0<(nI c).length:=List.length_pos_iff.2 mw
   refine ⟨q,off,_,cap,g1,hpos, ?_⟩
   rw [Bv q off g2 (fun e=>by rw [e] at g3;omega)]
   have:=g4 0 hpos
   rw [Nat.add_zero] at this
   rw [this]
   cases c with
   |nil=>exact absurd rfl (hne _ hc)
   |cons i r=>rfl
  obtain ⟨q1,o1,n1,c1,g1,g2,g3⟩:=xT c hc
  obtain ⟨q2,o2,n2,c2,g4,g5,g6⟩:=xT d hd
  rw [g1,g4]
  have hz:∀b,0≤gI b:=fun b=>by unfold gI;omega
  exact (yT W q1 o1 n1 c1 q2 o2 n2 c2 (gI c) (gI d) ⟨hz c,hbd c hc⟩ ⟨hz d,hbd d hd⟩ g2 g5 g3 g6).mono fun _ _ ⟨he,q,hq⟩=>⟨he,q, #[],by rw [hq,grow_empty]⟩
 have xU:=o3 42 #[] en hone hS (by rw [List.length_map];exact hlen) (enters_of Try.func42 (by kernel_rfl) rfl) b cap w r1 (fun i hi=>by
  rw [List.length_map] at hi
  exact (zB i hi).1) (fun e=>hl0 (List.map_eq_nil_iff.1 e)) hcmp
 rw [List.length_map] at xU
 refine xU.mono ?_
 rintro Eh w' ⟨rfl,k1,k2,k3,k4,k5,cur',k6,k7,k8⟩
 have hst:aj w E.z w' E.z:=hkeep fun q hq=>by
  by_cases GP:q<w.heap.size
  ·exact k5 q GP fun e=>by subst e;omega
  ·have:=hg.fresh q (by omega);omega
 have Fe:∀ {q:Nat},aH [(10000,AObj.own 25 1 (L'.map jQ))] q≠none→aH [(10000,AObj.own 25 1 (L.map jQ))] q≠none:=fun {q} h=>by
  obtain ⟨o,ho⟩:=Option.ne_none_iff_exists'.1 h
  obtain ⟨rfl,_⟩:=yU rfl ho
  simp [bG,look]
 refine ⟨_,E,rfl,⟨k1,k2,k3,k4,hst,fun q hq hnm=>⟨k5 q hq fun e=> ?_,rfl⟩,fun _ _=>⟨rfl,rfl⟩⟩,⟨fun q hq=> ?_,fun q q' c hq fH=>hg.inj q q' c (Fe hq) (Fe fH),fun q o hq=> ?_,fun q hq=>hg.fresh q (by omega)⟩,fun q o c hq hro hc=> ?_,⟨[],rfl,rfl⟩⟩
 ·subst e
  exact hnm ⟨10000,_,rfl,rfl,r0⟩
 ·simp only [look] at hq
  split at hq
  ·omega
  ·exact absurd rfl hq
 ·obtain ⟨rfl,rfl⟩:=yU rfl hq
  refine ⟨fun r hr=> ?_,by decide, .inr ⟨b,cur',cap,r0,k6, ?_, ?_,by rw [k7];exact r4,r5,r6,fun i j r x h1 h2=> ?_⟩⟩
  ·obtain ⟨v,_,rfl⟩:=List.mem_map.1 hr
   rfl
  ·rw [List.length_map, ← pI];exact r2
  ·rw [List.length_map, ← pI];exact r3
  ·rw [List.getElem?_map] at h1
   obtain ⟨c,h3,rfl⟩:=Option.map_eq_some_iff.1 h1
   cases j with
   |succ j=>simp [jQ] at h2
   |zero=>
    simp only [jQ,List.getElem?_cons_zero,Option.some.injEq] at h2
    subst h2
    have hi:i<L'.length:=(List.getElem?_eq_some_iff.1 h3).1
    have GQ:c∈L:=hp.mem_iff.2 (List.mem_of_getElem? h3)
    have h8:=k8 i (by rw [List.length_map];exact hi)
    have e1:(L'.map gI).getD i 0=gI c:=by
     rw [List.getD_eq_getElem?_getD,List.getElem?_map,h3];rfl
    rw [e1] at h8
    exact ⟨_,by simpa using h8,(hmem c GQ).mono hst⟩
 ·refine .inr ?_
  obtain ⟨rfl,rfl⟩:=yU rfl hq
  exact ⟨10000,_,rfl,rfl,hc⟩
end Go.Ab
end
section
namespace Go.Ab
open Go.Proofs
attribute [local congr] ACall.congr gd.congr Nx.congr
set_option maxRecDepth 20000
set_option maxHeartbeats 16000000
set_option linter.unusedSectionVars false
namespace UG
variable {G:UG} (hG:G.Ok) {so:List Nat→List Nat} (hsp:∀l,(so l).Perm l)
include hG
theorem xm {s:Sc} {k:Nat} (hk:k<G.n) (h:G.yI s k) (h0:s.nm k=0):G.Pre s k none []:=
 ⟨h.ln,h.ll,hk,h0,⟨by simp,by simp,trivial⟩,fun v i a hv _ hJ=>h.bl v i a hv hJ,h.le,h.inj, .inl ⟨rfl,rfl⟩,fun e he=> .inr fun a b hJ=>by
   rw [h.stk,List.nil_append,h.mem] at he
   obtain ⟨d,c,h1,h2⟩:=he
   rcases h2.two hJ with ⟨rfl,rfl⟩|⟨rfl,rfl⟩
   ·exact h1
   ·exact h.bl _ _ _ h1 h2⟩
theorem yW {s:Sc} {k:Nat} (h:G.yI s k) (hc:s.cnt+G.gR s≤G.n):G.Bd s:=by
 refine ⟨?_,fun e he=> ?_,fun b hb=> ?_,hc⟩
 ·rw [h.stk,List.nil_append];exact h.nd
 ·rw [h.stk,List.nil_append,h.mem] at he
  obtain ⟨d,a,_,hJ⟩:=he
  exact hJ.1
 ·obtain ⟨i,_,hi,_⟩:=h.cls b hb
  rintro rfl
  simp at hi
def de (G:UG) (so:List Nat→List Nat) (k:Nat):Sc:=(List.range k).foldl (lD G so) (bD G)
omit hG in
theorem jo {k:Nat} :de G so (k+1)=lD G so (de G so k) k:=by
 unfold de
 rw [List.range_succ,List.foldl_append];rfl
include hsp
theorem rq:∀ {k:Nat},k≤G.n→G.yI (de G so k) k∧(de G so k).cnt+G.gR (de G so k)≤G.n
 |0,_=>by
  have h0:∀v,G.bD.nm v=0:=fun v=>by
   unfold Sc.nm bD
   rw [List.getD_eq_getElem?_getD,List.getElem?_replicate]
   split<;>rfl
  refine ⟨⟨by simp [bD,de],by simp [bD,de],by simp,fun v i a hv=>absurd (h0 v) hv,fun v=>(h0 v).symm ▸ Nat.zero_le _,fun u v hu=>absurd (h0 u) hu,rfl,by simp [bD,de],fun e=> ?_,by simp [bD,de]⟩, ?_⟩
  ·simp only [de,bD,List.range_zero,List.foldl_nil,List.flatten_nil,List.not_mem_nil,false_iff,not_exists,not_and]
   exact fun d a hd=>absurd (h0 d) hd
  ·unfold gR
   have:=List.countP_le_length (l:=List.range G.n) (p:=fun v=>decide ((de G so 0).nm v=0))
   rw [List.length_range] at this
   have e:(de G so 0).cnt=0:=rfl
   omega
 |k+1,hk=>by
  obtain ⟨h1,h2⟩:=rq (k:=k) (by omega)
  rw [jo]
  refine ⟨oN hG hsp (by omega) h1, ?_⟩
  unfold lD
  split
  ·rename_i h0
   have:=(ng hG (so:=so) (G.n+1) (de G so k) k none h1.ln (by omega) h0).cn
   omega
  ·exact h2
omit hG hsp in
theorem ve:∀(f:Nat) (s:Sc) (x:Nat) (au:Option Nat),(∀b∈s.blk,∃l,b=so l)→∀b∈(cC G so f x au s).blk,∃l,b=so l
 |0,s,x,au,h=>h
 |f+1,s,x,au,h=>by
  have key:∀(L:List Nat) (s':Sc),(∀b∈s'.blk,∃l,b=so l)→∀b∈(L.foldl (bP G so (fun y i=>cC G so f y (some i)) x au) s').blk,∃l,b=so l:=by
   intro L
   induction L with
   |nil=>intro s' h;exact h
   |cons i L ih=>
    intro s' h
    refine ih _ ?_
    unfold bP
    split
    ·exact h
    ·split
     ·have h2:=ve f {s' with stk:=s'.stk++ [i]} (G.sY i x) (some i) h
      simp only
      split
      ·intro b hb
       unfold fh at hb
       rcases List.mem_append.1 hb with hb|hb
       ·exact h2 b hb
       ·rw [List.mem_singleton] at hb
        exact ⟨_,hb⟩
      ·exact h2
     ·split
      ·exact h
      ·exact h
  exact key (G.ends x) (iV s x) h
omit hG hsp in
theorem qo:∀ {k:Nat},∀b∈(de G so k).blk,∃l,b=so l
 |0,b,hb=>by simp [de,bD] at hb
 |k+1,b,hb=>by
  rw [jo] at hb
  unfold lD at hb
  split at hb
  ·exact ve _ _ _ _ (fun b hb=>qo b hb) b hb
  ·exact qo b hb
theorem lG (hr:∀l,l.Nodup→(so l).Pairwise (· < ·)):(bJ G so).Perm G.aF∧(∀b∈bJ G so,b≠ []):=by
 obtain ⟨h1,h2,h3⟩:=lW hG hsp
 have hne:∀b∈bJ G so,b≠ []:=fun b hb=>by
  obtain ⟨i,_,hi,_⟩:=h3 b hb
  rintro rfl
  simp at hi
 have h4:∀b∈bJ G so,b.Pairwise (· < ·):=fun b hb=>by
  obtain ⟨l,rfl⟩:=qo (G:=G) (so:=so) (k:=G.n) b hb
  refine hr l ((hsp l).nodup_iff.1 ?_)
  exact h1.sublist (List.sublist_flatten_of_mem hb)
 refine ⟨?_,hne⟩
 have hp:((bJ G so).mergeSort fun a b=>decide (a.headD 0≤b.headD 0)).Perm (bJ G so):=List.mergeSort_perm _ _
 have hs:((bJ G so).mergeSort fun a b=>decide (a.headD 0≤b.headD 0)).Pairwise fun a b=>decide (a.headD 0≤b.headD 0)=true:=List.pairwise_mergeSort (fun a b c h1 h2=>by simp at h1 h2 ⊢;omega) (fun a b=>by simp;omega) _
 have:=qR (G:=G) (L:=(bJ G so).mergeSort fun a b=>decide (a.headD 0≤b.headD 0)) (hp.flatten.nodup_iff.2 h1) (fun e=>by rw [hp.flatten.mem_iff,h2]) (fun b hb=>h3 b (hp.mem_iff.1 hb)) (fun b hb=>h4 b (hp.mem_iff.1 hb)) (hs.imp fun h=>by simpa using h)
 rw [← this]
 exact hp.symm
omit hG hsp in
theorem vf:(G.aF.map fun b=>b.headD 0).Pairwise (· < ·):=by
 unfold aF
 rw [List.map_map]
 have:((List.range G.m).filter fun i=>G.p8 i).map ((fun b:List Nat=>b.headD 0) ∘ G.bn)=(List.range G.m).filter fun i=>G.p8 i:=by
  have h:∀i∈(List.range G.m).filter (fun i=>G.p8 i),((fun b:List Nat=>b.headD 0) ∘ G.bn) i=id i:=fun i hi=>by
   rw [List.mem_filter,List.mem_range] at hi
   obtain ⟨r,hr⟩:=uH hi.1 hi.2
   show (G.bn i).headD 0=i
   rw [hr];rfl
  rw [List.map_congr_left h,List.map_id]
 rw [this]
 exact gT.filter _
end UG
noncomputable def sH (g:Gr):List (List Nat):=if (aS g&&aP g)=true then (ug g).aF else []
theorem qp (e:Edge):Spec Try.prog 38 (Args [eE e]) [] (eB (decide (e.1=e.2))) []:=by
 (refine Spec.hd (C:=T.cfg [] []) (rs:= [.t 2]) (T.aB _ _) Try.func38 rfl rfl Try.ntmps38 Try.results38 (by simp [AObj.isNest]) (by simp [AObj.isNest]) (by kernel_rfl) T.mixed fun X hX hP hC bM fC=> ?_)
 repeat' (first|refine Rn.p ?_|(with_reducible apply And.intro)|((first|(refine hK _ ?_;clear hK K)|with_reducible intro K hK|refine Rs.p ?_|((with_reducible first|apply oP|apply oQ);exact rfl));try simp only [go_sem,simprocAttr])|((with_reducible refine oD ?_ ?_);kernel_rfl)|((with_reducible intro h);try simp only [go_sem,simprocAttr] at h)|omega|intro h)
theorem yX:cH []:=⟨by simp,by simp [nodupM],by simp,by simp⟩
def gD (g:Gr) (s:UG.Sc):List (Nat × AObj):= [(300, .box [eN g.n, .d (sE g.es), .d (sNL ((List.range g.n.toNat).map fun x=>(ug g).ends x)), .ref 301, .ref 302,eN s.cnt, .ref 303, .ref 304]),(301, .own 3 1 (s.num.map rN)),(302, .own 3 1 (s.low.map rN)),(303, .own 3 1 (s.stk.map rN)),(304, .own 25 1 (s.blk.map jQ))]
theorem ec (g:Gr) (hlen:g.es.length≤9223372036854775807):Spec Try.prog 16 (Args [eG g]) [] (.d (sNL (sH g))) []:=by
 have hM:=uj g (by omega)
 have Ei:=dM yX 38 [] (fun e=>decide (e.1=e.2)) qp g.es (by omega)
 have hbk:sH g=if (aS g&&aP g)=true then (ug g).aF else []:=rfl
 have hnl:aP g= !(g.es.any fun e=>decide (e.1=e.2)):=rfl
 cases hm:aS g with
 |false=>
  rw [hm] at hM hbk
  have sZ:sH g= []:=by rw [hbk];rfl
  rw [sZ]
  (refine Spec.hd (C:=T.cfg [] []) (rs:= [.t 2]) (T.aB _ _) Try.func16 rfl rfl Try.ntmps16 Try.results16 (by simp [AObj.isNest]) (by simp [AObj.isNest]) (by kernel_rfl) T.mixed fun X hX hP hC bM fC=> ?_)
  repeat' (first|refine Rn.p ?_|(with_reducible apply And.intro)|((first|(refine hK _ ?_;clear hK K)|with_reducible intro K hK|refine Rs.p ?_|((with_reducible first|apply oP|apply oQ);exact rfl)|refine aa hX hC hP (hM) rfl rfl rfl (by simp only [go_sem,simprocAttr]) rfl ?_);try simp only [go_sem,simprocAttr])|((with_reducible refine oD ?_ ?_);kernel_rfl)|((with_reducible intro h);try simp only [go_sem,simprocAttr] at h)|omega|intro h)
 |true=>
 rw [hm] at hM hbk
 generalize hq:(g.es.any fun e=>decide (e.1=e.2))=q at Ei hnl
 cases q with
 |true=>
  rw [hnl] at hbk
  have sZ:sH g= []:=by rw [hbk];rfl
  rw [sZ]
  (refine Spec.hd (C:=T.cfg [] []) (rs:= [.t 2]) (T.aB _ _) Try.func16 rfl rfl Try.ntmps16 Try.results16 (by simp [AObj.isNest]) (by simp [AObj.isNest]) (by kernel_rfl) T.mixed fun X hX hP hC bM fC=> ?_)
  repeat' (first|refine Rn.p ?_|(with_reducible apply And.intro)|((first|(refine hK _ ?_;clear hK K)|with_reducible intro K hK|refine Rs.p ?_|((with_reducible first|apply oP|apply oQ);exact rfl)|refine aa hX hC hP (hM) rfl rfl rfl (by simp only [go_sem,simprocAttr]) rfl ?_|refine aa hX hC hP (Ei) rfl rfl rfl (by simp only [go_sem,simprocAttr]) rfl ?_);try simp only [go_sem,simprocAttr])|((with_reducible refine oD ?_ ?_);kernel_rfl)|((with_reducible intro h);try simp only [go_sem,simprocAttr] at h)|omega|intro h)
 |false=>
 rw [hnl] at hbk
 have hl:aP g=true:=hnl
 have sZ:sH g=(ug g).aF:=by rw [hbk];rfl
 rw [sZ]
 have hn:=cR hm
 have hG:=lY hm hl
 have hB:=qd g hm hl
 (refine Spec.hd (C:=T.cfg [303,304,305,306] []) (rs:= [.t 2]) (T.aB _ _) Try.func16 rfl rfl Try.ntmps16 Try.results16 (by simp [AObj.isNest]) (by simp [AObj.isNest]) (by kernel_rfl) T.mixed fun X hX hP hC bM fC=> ?_)
 repeat' (first|refine Rn.p ?_|(with_reducible apply And.intro)|((first|(refine hK _ ?_;clear hK K)|with_reducible intro K hK|refine Rs.p ?_|((with_reducible first|apply oP|apply oQ);exact rfl)|refine aa hX hC hP (hM) rfl rfl rfl (by simp only [go_sem,simprocAttr,bQ]) rfl ?_|refine aa hX hC hP (Ei) rfl rfl rfl (by simp only [go_sem,simprocAttr,bQ]) rfl ?_|(refine bW hX hC hP [(10000,300),(10001,301),(10002,302)] (hB) rfl rfl rfl ?_ ?_ ?_ ?_ ?_ ?_ ?_ ?_ ?_ ?_ ?_ ?_ ?_ ?_;(focus (simp only [go_sem,simprocAttr,bQ];done));(iterate 12 (focus (simp [go_sem,simprocAttr,bQ];done)));try simp only [List.map_cons,List.map_nil]));try simp only [go_sem,simprocAttr,bQ])|((with_reducible refine oD ?_ ?_);kernel_rfl)|((with_reducible intro h);try simp only [go_sem,simprocAttr,bQ] at h)|omega|intro h)
 (refine oh hX 300 6 303 (.own 3 1 []) rfl rfl rfl (by simp only [go_sem,simprocAttr,bQ]) (by decide) (by simp [go_sem,simprocAttr,bQ]) ⟨3,1,by decide, .inl rfl⟩ ?_;simp only [List.set_cons_zero,List.set_cons_succ,go_sem,simprocAttr,bQ])
 (refine oh hX 300 7 304 (.own 25 1 []) rfl rfl rfl (by simp only [go_sem,simprocAttr,bQ]) (by decide) (by simp [go_sem,simprocAttr,bQ]) ⟨25,1,by decide, .inl rfl⟩ ?_;simp only [List.set_cons_zero,List.set_cons_succ,go_sem,simprocAttr,bQ])
 have h0:UG.de (ug g) dY 0=⟨List.replicate g.n.toNat 0,List.replicate g.n.toNat 0,0, [], []⟩:=rfl
 have hN:UG.de (ug g) dY g.n.toNat=(List.range (ug g).n).foldl (UG.lD (ug g) dY) (UG.bD (ug g)):=rfl
 refine an (fun k:Nat=>k≤g.n.toNat) (fun k=>⟨[(3, .ptr 300 0),(16,eN g.n),(17,eN k)],gD g (UG.de (ug g) dY k)⟩) (fun k=>g.n.toNat - k) 0 (Nat.zero_le _) ?_ ?_
 ·rw [h0]
  refine Le.of ?_ ?_<;>simp [go_sem,simprocAttr,bQ,gD]
 rintro k hk
 obtain ⟨hT,mw⟩:=UG.rq hG gv hk
 rcases Nat.lt_or_ge k g.n.toNat with hlt|hge
 rotate_left
 ·have hb:decide ((k:Int)<g.n)=false:=decide_eq_false (by omega)
  obtain rfl:k=g.n.toNat:=by omega
  obtain ⟨Cc,hne⟩:=UG.lG hG gv xg
  have lJ:(UG.de (ug g) dY g.n.toNat).blk=UG.bJ (ug g) dY:=rfl
  have sy:=UG.vf (G:=ug g)
  have Bw:(UG.bJ (ug g) dY).length≤1000000:=by
   rw [Cc.length_eq]
   have:=iS (G:=ug g)
   have:(ug g).m=g.es.length:=rfl
   omega
  have hS:=qn Cc hne (by
   have h1:((ug g).aF.map gI).Nodup:=by
    have:(ug g).aF.map gI=((ug g).aF.map fun b=>b.headD 0).map fun n:Nat=>(n:Int):=by rw [List.map_map];rfl
    rw [this]
    unfold List.Nodup
    rw [List.pairwise_map]
    exact sy.imp fun h=>by omega
   exact (Cc.map gI).nodup_iff.2 h1) (by
   rw [List.pairwise_map] at sy
   exact sy.imp fun h=>by unfold gI;omega) (fun b hb=>by
   have h1:=Cc.mem_iff.1 hb
   obtain ⟨i,r,e1,e2,_⟩:=UG.uI (UG.kQ h1).1 (UG.kQ h1).2
   have:(ug g).m=g.es.length:=rfl
   rw [e1]
   unfold gI
   simp only [List.headD_cons]
   omega) Bw
  rw [← lJ] at hS
  generalize UG.de (ug g) dY g.n.toNat=s1 at hS ⊢
  repeat' (first|refine Rn.p ?_|(with_reducible apply And.intro)|((first|(refine hK _ ?_;clear hK K)|with_reducible intro K hK|refine Rs.p ?_|((with_reducible first|apply oP|apply oQ);exact rfl)|(refine bW hX hC hP [(10000,304)] (hS) rfl rfl rfl ?_ ?_ ?_ ?_ ?_ ?_ ?_ ?_ ?_ ?_ ?_ ?_ ?_ ?_;(focus (simp only [go_sem,simprocAttr,gD,hb];done));(iterate 12 (focus (simp [go_sem,simprocAttr,gD,hb];done)));try simp only [List.map_cons,List.map_nil]));try simp only [go_sem,simprocAttr,gD,hb])|((with_reducible refine oD ?_ ?_);kernel_rfl)|((with_reducible intro h);try simp only [go_sem,simprocAttr,gD,hb] at h)|omega|intro h)
 have hb:decide ((k:Int)<g.n)=true:=decide_eq_true (by omega)
 have bN:=UG.jo (G:=ug g) (so:=dY) (k:=k)
 have hkn:k<(ug g).n:=hlt
 have hbd:=UG.yW hG hT mw
 have GR:=fun h=>UG.xm hG hkn hT h
 have dZ:decide ((((UG.de (ug g) dY k).num.getD k 0:Nat):Int)=0)=decide ((UG.de (ug g) dY k).num.getD k 0=0):=Bm
 have pI:(UG.de (ug g) dY k).num.length=g.n.toNat:=hT.ln
 generalize UG.de (ug g) dY k=s at*
 generalize Ff:UG.de (ug g) dY (k+1)=s' at bN
 unfold UG.lD at bN
 by_cases hz:s.nm k=0
 rotate_left
 ·rw [if_neg hz] at bN
  have vJ:¬s.num.getD k 0=0:=hz
  rw [decide_eq_false vJ] at dZ
  repeat' (first|refine Rn.p ?_|(with_reducible apply And.intro)|((first|(refine hK _ ?_;clear hK K)|with_reducible intro K hK|refine Rs.p ?_|((with_reducible first|apply oP|apply oQ);exact rfl));try simp only [go_sem,simprocAttr,gD,hb,dZ,pI])|((with_reducible refine oD ?_ ?_);kernel_rfl)|((with_reducible intro h);try simp only [go_sem,simprocAttr,gD,hb,dZ,pI] at h)|omega|intro h)
  refine ⟨k+1,by omega, ?_,by omega⟩
  rw [Ff,bN]
  refine Le.of ?_ ?_<;>simp [go_sem,simprocAttr,gD,hb,dZ,pI]
 rw [if_pos hz] at bN
 have vJ:s.num.getD k 0=0:=hz
 rw [decide_eq_true vJ] at dZ
 have hun:(ug g).gR s≤(ug g).n+1:=by
  unfold UG.gR
  have:=List.countP_le_length (l:=List.range (ug g).n) (p:=fun v=>decide (s.nm v=0))
  rw [List.length_range] at this
  omega
 have hV:=kX g hm hl ((ug g).n+1) s k none [] hun (GR hz) hbd
 rw [show xS none=(-1:Int) from rfl, ← bN] at hV
 repeat' (first|(show bu _ (.region 9 _ _) _ _;(refine dr hX 300 6 305 303 rfl rfl rfl (by first|exact .inl rfl|exact .inr rfl) (by decide) (by decide) ?_;simp only [List.set_cons_zero,List.set_cons_succ,go_sem,simprocAttr,gD,aQ,bQ,hb,dZ,pI]);(refine dr hX 300 7 306 304 rfl rfl rfl (by first|exact .inl rfl|exact .inr rfl) (by decide) (by decide) ?_;simp only [List.set_cons_zero,List.set_cons_succ,go_sem,simprocAttr,gD,aQ,bQ,hb,dZ,pI]))|refine Rn.p ?_|(with_reducible apply And.intro)|((first|(refine hK _ ?_;clear hK K)|with_reducible intro K hK|refine Rs.p ?_|((with_reducible first|apply oP|apply oQ);exact rfl)|(refine bW hX hC hP [(10000,300),(10001,301),(10002,302),(10003,303),(10004,304),(10005,305),(10006,306)] (hV) rfl rfl rfl ?_ ?_ ?_ ?_ ?_ ?_ ?_ ?_ ?_ ?_ ?_ ?_ ?_ ?_;(focus (simp only [go_sem,simprocAttr,gD,aQ,bQ,hb,dZ,pI];done));(iterate 12 (focus (simp [go_sem,simprocAttr,gD,aQ,bQ,hb,dZ,pI];done)));try simp only [List.map_cons,List.map_nil]));try simp only [go_sem,simprocAttr,gD,aQ,bQ,hb,dZ,pI])|((with_reducible refine oD ?_ ?_);kernel_rfl)|((with_reducible intro h);try simp only [go_sem,simprocAttr,gD,aQ,bQ,hb,dZ,pI] at h)|omega|intro h)
 refine ⟨k+1,by omega, ?_,by omega⟩
 rw [Ff]
 refine Le.of ?_ ?_<;>simp [go_sem,simprocAttr,gD,aQ,bQ,hb,dZ,pI]
end Go.Ab
end
section
namespace Go.Ab
open Go.Proofs
attribute [local congr] ACall.congr gd.congr Nx.congr
set_option maxRecDepth 20000
set_option maxHeartbeats 16000000
def pJ (g:Gr) (L:List (List Nat)) (k:Nat) (P:Nat→Bool) (v:Nat):List Nat:=((List.range k).filter fun q=>(ug g).b7 (L.getD q []) v)++if P v=true then [k] else []
def aZ (g:Gr) (L:List (List Nat)) (k:Nat) (P:Nat→Bool):List (List (List D)):=(List.range g.n.toNat).map fun v=>(pJ g L k P v).map rN
def vg (g:Gr) (L:List (List Nat)):List (List Nat):=(List.range g.n.toNat).map fun v=>(List.range L.length).filter fun q=>(ug g).b7 (L.getD q []) v
theorem eS {g:Gr} {L:List (List Nat)} {k:Nat} {P:Nat→Bool} :(aZ g L k P).length=g.n.toNat:=by simp [aZ]
theorem gw {g:Gr} {L:List (List Nat)} {k v:Nat} {P:Nat→Bool} (hv:v<g.n.toNat):(aZ g L k P)[v]? =some ((pJ g L k P v).map rN):=by
 simp [aZ,List.getElem?_range hv]
theorem xo {g:Gr} {L:List (List Nat)} {k v:Nat} {P:Nat→Bool} :k∈pJ g L k P v↔P v=true:=by
 unfold pJ
 rw [List.mem_append,List.mem_filter,List.mem_range]
 constructor
 ·rintro (⟨h,_⟩|h)
  ·omega
  ·split at h
   ·assumption
   ·simp at h
 ·intro h
  right
  rw [if_pos h];simp
theorem xq {g:Gr} {L:List (List Nat)} {k v:Nat} {P:Nat→Bool} :(pJ g L k P v).length≤k+1:=by
 unfold pJ
 rw [List.length_append]
 have:=List.length_filter_le (fun q=>(ug g).b7 (L.getD q []) v) (List.range k)
 rw [List.length_range] at this
 have h2:(if P v=true then [k] else []).length≤1:=by split<;>simp
 omega
theorem cA {g:Gr} {L:List (List Nat)} {k:Nat} {P Q:Nat→Bool} (h:∀v,P v=Q v):aZ g L k P=aZ g L k Q:=by
 have:P=Q:=funext h
 rw [this]
theorem sJ {g:Gr} {L:List (List Nat)} {k x:Nat} {P:Nat→Bool} (hx:x<g.n.toNat) (hP:P x=false):(aZ g L k P).set x ((pJ g L k P x).map rN++ [[.sc (.int .i64 (k:Int))]])=aZ g L k fun v=>P v||decide (v=x):=by
 refine List.ext_getElem? fun i=> ?_
 rw [List.getElem?_set,eS]
 by_cases hi:i<g.n.toNat
 ·rw [gw hi,gw hi]
  by_cases e:x=i
  ·subst e
   rw [if_pos rfl,if_pos hx]
   unfold pJ
   simp [hP,rN]
  ·rw [if_neg e]
   unfold pJ
   have:decide (i=x)=false:=decide_eq_false (Ne.symm e)
   simp [this]
 ·rw [List.getElem?_eq_none (by rw [eS];omega),List.getElem?_eq_none (by rw [eS];omega)]
  split
  ·omega
  ·rfl
theorem qq {g:Gr} {L:List (List Nat)} :List.replicate g.n.toNat []=aZ g L 0 fun _=>false:=by
 refine List.ext_getElem? fun i=> ?_
 by_cases hi:i<g.n.toNat
 ·rw [gw hi];simp [hi,pJ]
 ·rw [List.getElem?_eq_none (by simp;omega),List.getElem?_eq_none (by rw [eS];omega)]
theorem o4 {g:Gr} {L:List (List Nat)} {k:Nat} :aZ g L k (fun v=>(ug g).b7 (L.getD k []) v)=aZ g L (k+1) fun _=>false:=by
 unfold aZ pJ
 refine List.map_congr_left fun v _=> ?_
 show (((List.range k).filter fun q=>(ug g).b7 (L.getD q []) v)++(if (ug g).b7 (L.getD k []) v=true then [k] else [])).map rN=(((List.range (k+1)).filter fun q=>(ug g).b7 (L.getD q []) v)++(if false=true then [k+1] else [])).map rN
 rw [List.range_succ,List.filter_append,List.filter_cons]
 generalize (ug g).b7 (L.getD k []) v=q
 cases q<;>simp
theorem sK {g:Gr} {L:List (List Nat)} :(aZ g L L.length fun _=>false).map (fun r=> [D.sl 1 r])=(vg g L).map jQ:=by
 unfold aZ vg pJ
 rw [List.map_map,List.map_map]
 refine List.map_congr_left fun v _=> ?_
 simp [jQ,sN]
theorem kY (ps:List Nat) (x:Nat) (hl:ps.length≤9223372036854775807):Spec Try.prog 50 (Args [.d (sN ps),eN x]) [] (eB (decide (x∈ps))) []:=by
 have h:=kM (nI ps) (x:Int) (by rw [nI,List.length_map];exact hl)
 have e:decide ((x:Int)∈nI ps)=decide (x∈ps):=by
  rw [decide_eq_decide]
  unfold nI
  rw [List.mem_map]
  constructor
  ·rintro ⟨y,hy,e⟩
   have:y=x:=by omega
   rw [← this];exact hy
  ·intro h;exact ⟨x,h,rfl⟩
 rw [← l6,e] at h
 exact h
theorem vh (g:Gr) (hm:aS g=true) (L:List (List Nat)) (hL:∀b∈L,(∀i∈b,i<g.es.length)∧b.length≤1000) (Fg:L.length≤1000):Spec Try.prog 46 (Args [eG g, .d (sNL L)]) [] (.d (sNL (vg g L))) []:=by
 have hn:=cR hm
 (refine Spec.hd (C:=T.cfg [] [14]) (rs:= [.t 4]) (T.aB _ _) Try.func46 rfl rfl Try.ntmps46 Try.results46 (by simp [AObj.isNest]) (by simp [AObj.isNest]) (by kernel_rfl) T.mixed fun X hX hP hC bM fC=> ?_)
 repeat' (first|refine Rn.p ?_|(with_reducible apply And.intro)|((first|(refine hK _ ?_;clear hK K)|with_reducible intro K hK|refine Rs.p ?_|((with_reducible first|apply oP|apply oQ);exact rfl));try simp only [go_sem,simprocAttr])|((with_reducible refine oD ?_ ?_);first|(focus (simp only [jt,bI,bL,meets,cF,bZ,gO,aR,cL,cG,Rec.rs,Rec.fG,Rec.nS,aY,Rec.aM,Rec.names,KV.ids,dG,dH,dI,dJ,dK,dL,List.zip_cons_cons,List.zip_nil_right,List.zipIdx_cons,List.zipIdx_nil,List.all_cons,List.all_nil,List.contains_cons,List.contains_nil,List.any_cons,List.any_nil,List.flatMap_nil,List.reverse_cons,List.reverse_nil,dU,eV,Region.binds,go_sem,simprocAttr];done))|kernel_rfl)|((with_reducible intro h);try simp only [go_sem,simprocAttr] at h)|omega|intro h)
 refine og hX 14 (by simp [go_sem,simprocAttr];exact ⟨rfl,rfl,rfl,rfl⟩) (by decide) (by simp [go_sem,simprocAttr]) (by simp [go_sem,simprocAttr]) ?_
 simp only [go_sem,simprocAttr]
 refine an (fun k:Nat=>k≤L.length) (fun k=>⟨[(2, .ptr 2 0),(5, .ref 14),(15, .d (sNL L)),(16,eN L.length),(17,eN k)], [(14, .nest 25 3 1 (aZ g L k fun _=>false) none),(2, .box [eN g.n, .d (sE g.es)])]⟩) (fun k=>L.length - k) 0 (Nat.zero_le _) ?_ ?_
 ·rw [← qq]
  refine Le.of ?_ ?_<;>simp [go_sem,simprocAttr]
 rintro k hk
 rcases Nat.lt_or_ge k L.length with hlt|hge
 rotate_left
 ·have hb:decide ((k:Int)<(L.length:Int))=false:=decide_eq_false (by omega)
  obtain rfl:k=L.length:=by omega
  (refine oo hX 14 rfl (by decide) ?_;simp only [go_sem,simprocAttr,hb])
  rw [sK]
  repeat' (first|refine Rn.p ?_|(with_reducible apply And.intro)|((first|(refine hK _ ?_;clear hK K)|with_reducible intro K hK|refine Rs.p ?_|((with_reducible first|apply oP|apply oQ);exact rfl));try simp only [go_sem,simprocAttr,hb])|((with_reducible refine oD ?_ ?_);first|(focus (simp only [jt,bI,bL,meets,cF,bZ,gO,aR,cL,cG,Rec.rs,Rec.fG,Rec.nS,aY,Rec.aM,Rec.names,KV.ids,dG,dH,dI,dJ,dK,dL,List.zip_cons_cons,List.zip_nil_right,List.zipIdx_cons,List.zipIdx_nil,List.all_cons,List.all_nil,List.contains_cons,List.contains_nil,List.any_cons,List.any_nil,List.flatMap_nil,List.reverse_cons,List.reverse_nil,dU,eV,Region.binds,go_sem,simprocAttr,hb];done))|kernel_rfl)|((with_reducible intro h);try simp only [go_sem,simprocAttr,hb] at h)|omega|intro h)
 have hb:decide ((k:Int)<(L.length:Int))=true:=decide_eq_true (by omega)
 obtain ⟨Fh,lJ⟩:=hL _ (gu [] hlt)
 have hblk:=o4 (g:=g) (L:=L) (k:=k)
 have hstart:(aZ g L k fun _=>false)=aZ g L k fun v=>(ug g).b7 ((L.getD k []).take 0) v:=cA fun v=>rfl
 rw [hstart]
 obtain ⟨b,sZ⟩:∃b,L.getD k []=b:=⟨_,rfl⟩
 rw [sZ] at Fh lJ hblk ⊢
 repeat' (first|refine Rn.p ?_|(with_reducible apply And.intro)|((first|(refine hK _ ?_;clear hK K)|with_reducible intro K hK|refine Rs.p ?_|((with_reducible first|apply oP|apply oQ);exact rfl));try simp only [go_sem,simprocAttr,hb,sZ])|((with_reducible refine oD ?_ ?_);first|(focus (simp only [jt,bI,bL,meets,cF,bZ,gO,aR,cL,cG,Rec.rs,Rec.fG,Rec.nS,aY,Rec.aM,Rec.names,KV.ids,dG,dH,dI,dJ,dK,dL,List.zip_cons_cons,List.zip_nil_right,List.zipIdx_cons,List.zipIdx_nil,List.all_cons,List.all_nil,List.contains_cons,List.contains_nil,List.any_cons,List.any_nil,List.flatMap_nil,List.reverse_cons,List.reverse_nil,dU,eV,Region.binds,go_sem,simprocAttr,hb,sZ];done))|kernel_rfl)|((with_reducible intro h);try simp only [go_sem,simprocAttr,hb,sZ] at h)|omega|intro h)
 clear hb
 refine an (fun j:Nat=>j≤b.length) (fun j=>⟨[(2, .ptr 2 0),(5, .ref 14),(15, .d (sNL L)),(16,eN L.length),(17,eN k),(6,eN k),(22, .d (sN b)),(23,eN b.length),(24,eN j)], [(14, .nest 25 3 1 (aZ g L k fun v=>(ug g).b7 (b.take j) v) none),(2, .box [eN g.n, .d (sE g.es)])]⟩) (fun j=>b.length - j) 0 (Nat.zero_le _) ?_ ?_
 ·refine Le.of ?_ ?_<;>simp [go_sem,simprocAttr]
 rintro j hj
 rcases Nat.lt_or_ge j b.length with hlj|HL
 rotate_left
 ·have hb:decide ((j:Int)<(b.length:Int))=false:=decide_eq_false (by omega)
  obtain rfl:j=b.length:=by omega
  rw [List.take_length,hblk]
  repeat' (first|refine Rn.p ?_|(with_reducible apply And.intro)|((first|(refine hK _ ?_;clear hK K)|with_reducible intro K hK|refine Rs.p ?_|((with_reducible first|apply oP|apply oQ);exact rfl));try simp only [go_sem,simprocAttr,hb])|((with_reducible refine oD ?_ ?_);first|(focus (simp only [jt,bI,bL,meets,cF,bZ,gO,aR,cL,cG,Rec.rs,Rec.fG,Rec.nS,aY,Rec.aM,Rec.names,KV.ids,dG,dH,dI,dJ,dK,dL,List.zip_cons_cons,List.zip_nil_right,List.zipIdx_cons,List.zipIdx_nil,List.all_cons,List.all_nil,List.contains_cons,List.contains_nil,List.any_cons,List.any_nil,List.flatMap_nil,List.reverse_cons,List.reverse_nil,dU,eV,Region.binds,go_sem,simprocAttr,hb];done))|kernel_rfl)|((with_reducible intro h);try simp only [go_sem,simprocAttr,hb] at h)|omega|intro h)
  refine ⟨k+1,by omega, ?_,by omega⟩
  refine Le.of ?_ ?_<;>simp [go_sem,simprocAttr,hb]
 have hb:decide ((j:Int)<(b.length:Int))=true:=decide_eq_true (by omega)
 obtain ⟨i,hi⟩:∃i,b.getD j 0=i:=⟨_,rfl⟩
 have him:i<g.es.length:=Fh i (by rw [← hi];exact gu 0 hlj)
 obtain ⟨mB,pq⟩:=dN hm him
 obtain ⟨u,hu⟩:∃u:Nat,(g.es.getD i (0,0)).1=u:=⟨(g.es.getD i (0,0)).1.toNat,by omega⟩
 obtain ⟨w,hw⟩:∃v:Nat,(g.es.getD i (0,0)).2=v:=⟨(g.es.getD i (0,0)).2.toNat,by omega⟩
 have gy:(ug g).T i=u:=by show ((g.es.getD i (0,0)).1).toNat=u;rw [hu];rfl
 have hhi:(ug g).H i=w:=by show ((g.es.getD i (0,0)).2).toNat=w;rw [hw];rfl
 have hun:u<g.n.toNat:=by omega
 have hwn:w<g.n.toNat:=by omega
 have CK:∀v,(ug g).b7 (b.take (j+1)) v=(((ug g).b7 (b.take j) v||decide (v=u))||decide (v=w)):=fun v=>by
  unfold UG.b7
  rw [jj 0 hlj,hi,gy,hhi,Bool.or_assoc]
  congr 2
  ·exact decide_eq_decide.2 eq_comm
  ·exact decide_eq_decide.2 eq_comm
 generalize GS:(fun v=>(ug g).b7 (b.take j) v)=P0
 have bN:(aZ g L k fun v=>(ug g).b7 (b.take (j+1)) v)=aZ g L k fun v=>((P0 v||decide (v=u))||decide (v=w)):=cA fun v=>by rw [CK v, ← GS]
 obtain ⟨PE,Bx⟩:∃PE:Nat→Nat→Bool,PE=fun e v=>if e=0 then P0 v else if e=1 then (P0 v||decide (v=u)) else ((P0 v||decide (v=u))||decide (v=w)):=⟨_,rfl⟩
 have zi:aZ g L k P0=aZ g L k (PE 0):=cA fun v=>by rw [Bx];rfl
 have B2:aZ g L k (PE 2)=aZ g L k fun v=>((P0 v||decide (v=u))||decide (v=w)):=cA fun v=>by rw [Bx];rfl
 rw [← B2] at bN
 rw [zi]
 repeat' (first|refine Rn.p ?_|(with_reducible apply And.intro)|((first|(refine hK _ ?_;clear hK K)|with_reducible intro K hK|refine Rs.p ?_|((with_reducible first|apply oP|apply oQ);exact rfl));try simp only [go_sem,simprocAttr,hb,hi,hu,hw])|((with_reducible refine oD ?_ ?_);first|(focus (simp only [jt,bI,bL,meets,cF,bZ,gO,aR,cL,cG,Rec.rs,Rec.fG,Rec.nS,aY,Rec.aM,Rec.names,KV.ids,dG,dH,dI,dJ,dK,dL,List.zip_cons_cons,List.zip_nil_right,List.zipIdx_cons,List.zipIdx_nil,List.all_cons,List.all_nil,List.contains_cons,List.contains_nil,List.any_cons,List.any_nil,List.flatMap_nil,List.reverse_cons,List.reverse_nil,dU,eV,Region.binds,go_sem,simprocAttr,hb,hi,hu,hw];done))|kernel_rfl)|((with_reducible intro h);try simp only [go_sem,simprocAttr,hb,hi,hu,hw] at h)|omega|intro h)
 clear hb
 refine an (fun e:Nat=>e≤2) (fun e=>⟨[(2, .ptr 2 0),(5, .ref 14),(15, .d (sNL L)),(16,eN L.length),(17,eN k),(6,eN k),(22, .d (sN b)),(23,eN b.length),(24,eN j),(40, .agg [eN u,eN w]),(41,eN e)], [(14, .nest 25 3 1 (aZ g L k (PE e)) none),(2, .box [eN g.n, .d (sE g.es)])]⟩) (fun e=>2 - e) 0 (by omega) ?_ ?_
 ·refine Le.of ?_ ?_<;>simp [go_sem,simprocAttr]
 rintro e he
 rcases Nat.lt_or_ge e 2 with hle|D6
 rotate_left
 ·have hb:decide ((e:Int)<2)=false:=decide_eq_false (by omega)
  obtain rfl:e=2:=by omega
  repeat' (first|refine Rn.p ?_|(with_reducible apply And.intro)|((first|(refine hK _ ?_;clear hK K)|with_reducible intro K hK|refine Rs.p ?_|((with_reducible first|apply oP|apply oQ);exact rfl));try simp only [go_sem,simprocAttr,hb])|((with_reducible refine oD ?_ ?_);first|(focus (simp only [jt,bI,bL,meets,cF,bZ,gO,aR,cL,cG,Rec.rs,Rec.fG,Rec.nS,aY,Rec.aM,Rec.names,KV.ids,dG,dH,dI,dJ,dK,dL,List.zip_cons_cons,List.zip_nil_right,List.zipIdx_cons,List.zipIdx_nil,List.all_cons,List.all_nil,List.contains_cons,List.contains_nil,List.any_cons,List.any_nil,List.flatMap_nil,List.reverse_cons,List.reverse_nil,dU,eV,Region.binds,go_sem,simprocAttr,hb];done))|kernel_rfl)|((with_reducible intro h);try simp only [go_sem,simprocAttr,hb] at h)|omega|intro h)
  refine ⟨j+1,by omega, ?_,by omega⟩
  rw [bN]
  refine Le.of ?_ ?_<;>simp [go_sem,simprocAttr,hb]
 have hb:decide ((e:Int)<2)=true:=decide_eq_true (by omega)
 obtain ⟨x,hx⟩:∃x:Nat,([eN u,eN w][e]? :Option AV)=some (eN x)∧x<g.n.toNat∧∀v,PE (e+1) v=(PE e v||decide (v=x)):=by
  match e,hle with
  |0,_=>exact ⟨u,rfl,hun,fun v=>by rw [Bx];rfl⟩
  |1,_=>exact ⟨w,rfl,hwn,fun v=>by rw [Bx];rfl⟩
 obtain ⟨hx1,AO,Ej⟩:=hx
 simp only [eN] at hx1
 have gA:=gw (g:=g) (L:=L) (k:=k) (P:=PE e) AO
 have hrl:=eS (g:=g) (L:=L) (k:=k) (P:=PE e)
 have Fa:=xq (g:=g) (L:=L) (k:=k) (v:=x) (P:=PE e)
 have Cd:=kY (pJ g L k (PE e) x) k (by omega)
 have GU:decide (k∈pJ g L k (PE e) x)=PE e x:=by
  rw [Bool.eq_iff_iff,decide_eq_true_eq];exact xo
 rw [GU] at Cd
 have By:=sJ (g:=g) (L:=L) (k:=k) (P:=PE e) AO
 have hsame:PE e x=true→aZ g L k (PE (e+1))=aZ g L k (PE e):=fun h=>cA fun v=>by
  rw [Ej]
  by_cases e1:v=x
  ·rw [e1,h];rfl
  ·rw [decide_eq_false e1,Bool.or_false]
 have hnew:PE e x=false→aZ g L k (PE (e+1))=(aZ g L k (PE e)).set x ((pJ g L k (PE e) x).map rN++ [[.sc (.int .i64 (k:Int))]]):=fun h=>by
  rw [By h]
  exact cA Ej
 clear By Ej zi B2 Bx
 generalize Ce:aZ g L k (PE (e+1))=R1 at hsame hnew
 have Fb:(x:Int)=x:=rfl
 generalize hq:PE e x=q at Cd hsame hnew
 generalize aZ g L k (PE e)=R0 at*
 generalize pJ g L k (PE e) x=r0 at*
 cases q with
 |true=>
  rw [hsame rfl] at Ce
  repeat' (first|refine Rn.p ?_|(with_reducible apply And.intro)|((first|(refine hK _ ?_;clear hK K)|with_reducible intro K hK|refine Rs.p ?_|((with_reducible first|apply oP|apply oQ);exact rfl)|(refine oq hX hC hP 14 (Cd) rfl rfl rfl rfl ?_ (by decide) ?_ ?_ rfl ?_;(iterate 2 (focus (simp only [go_sem,simprocAttr,hb,hx1,gA,hrl,Nat.mul_one];done)));(focus (intro a ha;simp only [List.mem_cons,List.not_mem_nil,or_false] at ha;exact ⟨_,ha⟩))));try simp only [go_sem,simprocAttr,hb,hx1,gA,hrl,Nat.mul_one])|((with_reducible refine oD ?_ ?_);first|(focus (simp only [jt,bI,bL,meets,cF,bZ,gO,aR,cL,cG,Rec.rs,Rec.fG,Rec.nS,aY,Rec.aM,Rec.names,KV.ids,dG,dH,dI,dJ,dK,dL,List.zip_cons_cons,List.zip_nil_right,List.zipIdx_cons,List.zipIdx_nil,List.all_cons,List.all_nil,List.contains_cons,List.contains_nil,List.any_cons,List.any_nil,List.flatMap_nil,List.reverse_cons,List.reverse_nil,dU,eV,Region.binds,go_sem,simprocAttr,hb,hx1,gA,hrl,Nat.mul_one];done))|kernel_rfl)|((with_reducible intro h);try simp only [go_sem,simprocAttr,hb,hx1,gA,hrl,Nat.mul_one] at h)|omega|intro h)
  refine ⟨e+1,by omega, ?_,by omega⟩
  rw [Ce]
  refine Le.of ?_ ?_<;>simp [go_sem,simprocAttr,hb,hx1,gA,hrl,Nat.mul_one]
 |false=>
  rw [hnew rfl] at Ce
  repeat' (first|refine Rn.p ?_|(with_reducible apply And.intro)|((first|(refine hK _ ?_;clear hK K)|with_reducible intro K hK|refine Rs.p ?_|((with_reducible first|apply oP|apply oQ);exact rfl)|(refine oq hX hC hP 14 (Cd) rfl rfl rfl rfl ?_ (by decide) ?_ ?_ rfl ?_;(iterate 2 (focus (simp only [go_sem,simprocAttr,hb,hx1,gA,hrl,Nat.mul_one];done)));(focus (intro a ha;simp only [List.mem_cons,List.not_mem_nil,or_false] at ha;exact ⟨_,ha⟩))));try simp only [go_sem,simprocAttr,hb,hx1,gA,hrl,Nat.mul_one])|((with_reducible refine oD ?_ ?_);first|(focus (simp only [jt,bI,bL,meets,cF,bZ,gO,aR,cL,cG,Rec.rs,Rec.fG,Rec.nS,aY,Rec.aM,Rec.names,KV.ids,dG,dH,dI,dJ,dK,dL,List.zip_cons_cons,List.zip_nil_right,List.zipIdx_cons,List.zipIdx_nil,List.all_cons,List.all_nil,List.contains_cons,List.contains_nil,List.any_cons,List.any_nil,List.flatMap_nil,List.reverse_cons,List.reverse_nil,dU,eV,Region.binds,go_sem,simprocAttr,hb,hx1,gA,hrl,Nat.mul_one];done))|kernel_rfl)|((with_reducible intro h);try simp only [go_sem,simprocAttr,hb,hx1,gA,hrl,Nat.mul_one] at h)|omega|intro h)
  refine ⟨e+1,by omega, ?_,by omega⟩
  rw [Ce]
  refine Le.of ?_ ?_<;>simp [go_sem,simprocAttr,hb,hx1,gA,hrl,Nat.mul_one]
end Go.Ab
end
section
namespace Go.Ab
open Go.Proofs
attribute [local congr] ACall.congr gd.congr Nx.congr
set_option maxRecDepth 20000
set_option maxHeartbeats 16000000
theorem vi {g:Gr} {L:List (List Nat)} {v:Nat} :∀ {k:Nat},k≤L.length→((List.range k).filter fun q=>(ug g).b7 (L.getD q []) v).length=fu g L v k
 |0,_=>by simp [fu]
 |k+1,hk=>by
  rw [l5 (by omega),List.range_succ,List.filter_append,List.length_append,vi (by omega),List.filter_cons]
  generalize (ug g).b7 (L.getD k []) v=q
  cases q<;>simp
theorem yY {g:Gr} {L:List (List Nat)} {v:Nat} (hv:v<g.n.toNat):(vg g L).getD v []=(List.range L.length).filter fun q=>(ug g).b7 (L.getD q []) v:=by
 simp only [vg,List.getD_eq_getElem?_getD,List.getElem?_map,List.getElem?_range hv,Option.map_some,Option.getD_some]
theorem xu {g:Gr} {L:List (List Nat)} :(vg g L).length=g.n.toNat:=by simp [vg]
noncomputable def yZ (g:Gr):List Nat:=if (aS g&&aP g)=true then dQ g else []
theorem jS {g:Gr} (h:(aS g&&aP g)=true):sH g=(ug g).aF:=by unfold sH;rw [if_pos h]
theorem qs {g:Gr} (h:(aS g&&aP g)=false):sH g= []:=by unfold sH;rw [if_neg (by rw [h];decide)]
theorem jT {g:Gr} (h:(aS g&&aP g)=true):yZ g=dQ g:=by unfold yZ;rw [if_pos h]
theorem vj {g:Gr} (h:(aS g&&aP g)=false):yZ g= []:=by unfold yZ;rw [if_neg (by rw [h];decide)]
theorem vk {g:Gr} (h:(ug g).aF= []):dQ g= []:=by
 unfold dQ dn
 rw [h]
 refine List.filter_eq_nil_iff.2 fun x _=> ?_
 simp [fu]
theorem qt (g:Gr):∀b∈(ug g).aF,(∀i∈b,i<g.es.length)∧b.length≤g.es.length:=fun b hb=>⟨fun i hi=>UG.gq hb hi,q8 hb⟩
theorem l7 (g:Gr) (hlen:g.es.length≤9223372036854775807):Spec Try.prog 19 (Args [eG g]) [] (.d (sN (yZ g))) []:=by
 have lF:=ec g hlen
 have done:sH g= []→yZ g= []:=fun h=>by
  cases hq:(aS g&&aP g) with
  |true=>rw [jT hq];rw [jS hq] at h;exact vk h
  |false=>exact vj hq
 by_cases hz:sH g= []
 ·rw [done hz]
  rw [hz] at lF
  (refine Spec.hd (C:=T.cfg [] []) (rs:= [.t 2]) (T.aB _ _) Try.func19 rfl rfl Try.ntmps19 Try.results19 (by simp [AObj.isNest]) (by simp [AObj.isNest]) (by kernel_rfl) T.mixed fun X hX hP hC bM fC=> ?_)
  repeat' (first|refine Rn.p ?_|(with_reducible apply And.intro)|((first|(refine hK _ ?_;clear hK K)|with_reducible intro K hK|refine Rs.p ?_|((with_reducible first|apply oP|apply oQ);exact rfl)|refine aa hX hC hP (lF) rfl rfl rfl (by simp only [go_sem,simprocAttr]) rfl ?_);try simp only [go_sem,simprocAttr])|((with_reducible refine oD ?_ ?_);kernel_rfl)|((with_reducible intro h);try simp only [go_sem,simprocAttr] at h)|omega|intro h)
 have hq:(aS g&&aP g)=true:=by
  cases hq:(aS g&&aP g) with
  |true=>rfl
  |false=>exact absurd (qs hq) hz
 rw [jT hq]
 rw [jS hq] at lF hz
 rw [Bool.and_eq_true] at hq
 obtain ⟨hm,hl⟩:=hq
 have hn:=cR hm
 have Fg:(ug g).aF.length≤g.es.length:=iS
 have Ec:=vh g hm (ug g).aF (fun b hb=>⟨(qt g b hb).1,by have:=(qt g b hb).2;omega⟩) (by omega)
 have pG:decide (((ug g).aF.length:Int)=0)=false:=decide_eq_false (by
  intro e
  exact hz (List.eq_nil_of_length_eq_zero (by omega)))
 have fU:dn g g.n.toNat=dQ g:=rfl
 have lJ:=xu (g:=g) (L:=(ug g).aF)
 (refine Spec.hd (C:=T.cfg [] []) (rs:= [.t 2]) (T.aB _ _) Try.func19 rfl rfl Try.ntmps19 Try.results19 (by simp [AObj.isNest]) (by simp [AObj.isNest]) (by kernel_rfl) T.mixed fun X hX hP hC bM fC=> ?_)
 repeat' (first|(show bu _ (.seq (.region 4 _ _) _) _ _;(refine wu hX 2 200 (.tip 3 1 []) ?_ ?_ (by decide) ⟨3,1,by decide, .inr rfl⟩ ?_;(iterate 2 (focus (simp only [go_sem,simprocAttr,pG];done)));simp only [go_sem,simprocAttr,pG]))|refine Rn.p ?_|(with_reducible apply And.intro)|((first|(refine hK _ ?_;clear hK K)|with_reducible intro K hK|refine Rs.p ?_|((with_reducible first|apply oP|apply oQ);exact rfl)|refine aa hX hC hP (lF) rfl rfl rfl (by simp only [go_sem,simprocAttr,pG]) rfl ?_|refine aa hX hC hP (Ec) rfl rfl rfl (by simp only [go_sem,simprocAttr,pG]) rfl ?_);try simp only [go_sem,simprocAttr,pG])|((with_reducible refine oD ?_ ?_);kernel_rfl)|((with_reducible intro h);try simp only [go_sem,simprocAttr,pG] at h)|omega|intro h)
 refine an (fun k:Nat=>k≤g.n.toNat) (fun k=>⟨[(2, .ref 200),(13, .d (sNL (vg g (ug g).aF))),(14,eN g.n.toNat),(15,eN k)], [(200, .tip 3 1 ((dn g k).map rN))]⟩) (fun k=>g.n.toNat - k) 0 (Nat.zero_le _) ?_ ?_
 ·refine Le.of ?_ ?_<;>simp [go_sem,simprocAttr,pG,dn,lJ]
 rintro k hk
 rcases Nat.lt_or_ge k g.n.toNat with hlt|hge
 rotate_left
 ·have hb:decide ((k:Int)<(g.n.toNat:Int))=false:=decide_eq_false (by omega)
  obtain rfl:k=g.n.toNat:=by omega
  rw [fU]
  repeat' (first|refine Rn.p ?_|(with_reducible apply And.intro)|((first|(refine hK _ ?_;clear hK K)|with_reducible intro K hK|refine Rs.p ?_|((with_reducible first|apply oP|apply oQ);exact rfl));try simp only [go_sem,simprocAttr,hb])|((with_reducible refine oD ?_ ?_);kernel_rfl)|((with_reducible intro h);try simp only [go_sem,simprocAttr,hb] at h)|omega|intro h)
 have hb:decide ((k:Int)<(g.n.toNat:Int))=true:=decide_eq_true (by omega)
 have bN:=kS (g:=g) (k:=k)
 have bf:=jk (g:=g) (k:=k)
 have zB:=yY (g:=g) (L:=(ug g).aF) hlt
 have mw:=vi (g:=g) (L:=(ug g).aF) (v:=k) (Nat.le_refl _)
 rw [← zB] at mw
 rw [← mw] at bN
 have hdc:decide ((1:Int)<((((vg g (ug g).aF).getD k []).length:Nat):Int))=decide (1<((vg g (ug g).aF).getD k []).length):=by rw [decide_eq_decide];omega
 generalize dn g k=C0 at bN bf ⊢
 generalize hrw:(vg g (ug g).aF).getD k []=r0 at bN hdc
 by_cases hc:1<r0.length
 ·rw [if_pos hc] at bN
  rw [decide_eq_true hc] at hdc
  repeat' (first|(show bu _ (.region 9 _ _) _ _;(refine kH hX 2 26 200 (by simp only [go_sem,simprocAttr,hb,hrw,hdc,lJ]) rfl (by first|exact .inl rfl|exact .inr rfl) (by decide) ?_;simp only [go_sem,simprocAttr,hb,hrw,hdc,lJ]))|refine Rn.p ?_|(with_reducible apply And.intro)|((first|(refine hK _ ?_;clear hK K)|with_reducible intro K hK|refine Rs.p ?_|((with_reducible first|apply oP|apply oQ);exact rfl));try simp only [go_sem,simprocAttr,hb,hrw,hdc,lJ])|((with_reducible refine oD ?_ ?_);kernel_rfl)|((with_reducible intro h);try simp only [go_sem,simprocAttr,hb,hrw,hdc,lJ] at h)|omega|intro h)
  refine ⟨k+1,by omega, ?_,by omega⟩
  rw [bN]
  refine Le.of ?_ ?_<;>simp [go_sem,simprocAttr,hb,hrw,hdc,lJ,rN]
 ·rw [if_neg hc] at bN
  rw [decide_eq_false hc] at hdc
  repeat' (first|refine Rn.p ?_|(with_reducible apply And.intro)|((first|(refine hK _ ?_;clear hK K)|with_reducible intro K hK|refine Rs.p ?_|((with_reducible first|apply oP|apply oQ);exact rfl));try simp only [go_sem,simprocAttr,hb,hrw,hdc,lJ])|((with_reducible refine oD ?_ ?_);kernel_rfl)|((with_reducible intro h);try simp only [go_sem,simprocAttr,hb,hrw,hdc,lJ] at h)|omega|intro h)
  refine ⟨k+1,by omega, ?_,by omega⟩
  rw [bN]
  refine Le.of ?_ ?_<;>simp [go_sem,simprocAttr,hb,hrw,hdc,lJ]
theorem o5 (g:Gr) (hlen:g.es.length≤9223372036854775807):Spec Try.prog 18 (Args [eG g]) [] (eB (!(aS g&&aP g))) []:=by
 have hM:=oy g (by omega)
 have hnl:aP g= !(g.es.any fun e=>decide (e.1=e.2)):=rfl
 obtain ⟨P,zA⟩:∃P:Edge→Bool,P=fun e=>decide (e.1=e.2):=⟨_,rfl⟩
 rw [← zA] at hnl
 (refine Spec.hd (C:=T.cfg [] []) (rs:= [.t 2]) (T.aB _ _) Try.func18 rfl rfl Try.ntmps18 Try.results18 (by simp [AObj.isNest]) (by simp [AObj.isNest]) (by kernel_rfl) T.mixed fun X hX hP hC bM fC=> ?_)
 repeat' (first|refine Rn.p ?_|(with_reducible apply And.intro)|((first|(refine hK _ ?_;clear hK K)|with_reducible intro K hK|refine Rs.p ?_|((with_reducible first|apply oP|apply oQ);exact rfl)|refine aa hX hC hP (hM) rfl rfl rfl (by simp only [go_sem,simprocAttr]) rfl ?_);try simp only [go_sem,simprocAttr])|((with_reducible refine oD ?_ ?_);kernel_rfl)|((with_reducible intro h);try simp only [go_sem,simprocAttr] at h)|omega|intro h)
 refine an (fun k:Nat=>k≤g.es.length∧(g.es.take k).any P=false) (fun k=>⟨[(1, .ptr 1 0),(6, .d (sE g.es)),(7,eN g.es.length),(8,eN k)], [(1, .box [eN g.n, .d (sE g.es)])]⟩) (fun k=>g.es.length - k) 0 ⟨Nat.zero_le _,rfl⟩ ?_ ?_
 ·refine Le.of ?_ ?_<;>simp [go_sem,simprocAttr]
 rintro k ⟨hk,hf⟩
 rcases Nat.lt_or_ge k g.es.length with hlt|hge
 rotate_left
 ·have bT:decide ((k:Int)<(g.es.length:Int))=false:=decide_eq_false (by omega)
  obtain rfl:k=g.es.length:=by omega
  rw [List.take_length] at hf
  rw [hnl,hf]
  have e:(aS g&& !false)=aS g:=by simp
  rw [e]
  repeat' (first|refine Rn.p ?_|(with_reducible apply And.intro)|((first|(refine hK _ ?_;clear hK K)|with_reducible intro K hK|refine Rs.p ?_|((with_reducible first|apply oP|apply oQ);exact rfl)|refine aa hX hC hP (hM) rfl rfl rfl (by simp only [go_sem,simprocAttr,bT]) rfl ?_);try simp only [go_sem,simprocAttr,bT])|((with_reducible refine oD ?_ ?_);kernel_rfl)|((with_reducible intro h);try simp only [go_sem,simprocAttr,bT] at h)|omega|intro h)
 have bT:decide ((k:Int)<(g.es.length:Int))=true:=decide_eq_true (by omega)
 have hst:=jj (p:=P) (0,0) hlt
 have q7:=q6 (p:=P) (0,0) hlt
 rw [hf,Bool.false_or] at hst
 have Fi:P (g.es.getD k (0,0))=decide ((g.es.getD k (0,0)).1=(g.es.getD k (0,0)).2):=by rw [zA]
 generalize hq:P (g.es.getD k (0,0))=q at hst q7 Fi
 have qu:=Fi.symm
 cases q with
 |true=>
  rw [hnl,q7 rfl]
  have e:(!(aS g&& !true))=true:=by simp
  rw [e]
  repeat' (first|refine Rn.p ?_|(with_reducible apply And.intro)|((first|(refine hK _ ?_;clear hK K)|with_reducible intro K hK|refine Rs.p ?_|((with_reducible first|apply oP|apply oQ);exact rfl)|refine aa hX hC hP (hM) rfl rfl rfl (by simp only [go_sem,simprocAttr,bT,qu]) rfl ?_);try simp only [go_sem,simprocAttr,bT,qu])|((with_reducible refine oD ?_ ?_);kernel_rfl)|((with_reducible intro h);try simp only [go_sem,simprocAttr,bT,qu] at h)|omega|intro h)
 |false=>
  repeat' (first|refine Rn.p ?_|(with_reducible apply And.intro)|((first|(refine hK _ ?_;clear hK K)|with_reducible intro K hK|refine Rs.p ?_|((with_reducible first|apply oP|apply oQ);exact rfl)|refine aa hX hC hP (hM) rfl rfl rfl (by simp only [go_sem,simprocAttr,bT,qu]) rfl ?_);try simp only [go_sem,simprocAttr,bT,qu])|((with_reducible refine oD ?_ ?_);kernel_rfl)|((with_reducible intro h);try simp only [go_sem,simprocAttr,bT,qu] at h)|omega|intro h)
  refine ⟨k+1,⟨by omega,hst⟩, ?_,by omega⟩
  refine Le.of ?_ ?_<;>simp [go_sem,simprocAttr,bT,qu]
end Go.Ab
end
section
namespace Go.Ab
open Go.Proofs
attribute [local congr] ACall.congr gd.congr Nx.congr
set_option maxRecDepth 20000
set_option maxHeartbeats 16000000
def g4:Gr:=⟨3, [(0,1),(1,2)]⟩
theorem Bz:(ug g4).Ok:=lY (by decide) (by decide)
theorem vl:(ug g4).aF= [[0], [1]]:=by
 have h:=UG.lW Bz (so:=id) (fun l=>List.Perm.refl _)
 have hb:UG.bJ (ug g4) id= [[1], [0]]:=by decide
 rw [hb] at h
 refine (UG.qR (L:= [[0], [1]]) (by decide) (fun e=> ?_) (fun b hb'=>h.2.2 b (by simp at hb' ⊢;exact hb'.symm)) (by decide) (by decide)).symm
 show e∈ [0,1]↔e<2
 simp;omega
theorem BA:sH g4= [[0], [1]]:=by rw [jS (by decide),vl]
theorem BB:yZ g4= [1]:=by
 rw [jT (by decide)]
 unfold dQ dn
 rw [vl]
 decide
theorem gW (xs ys:List Nat) (hlen:xs.length≤9223372036854775807):Spec Try.prog 22 (Args [.d (sN xs), .d (sN ys)]) [] (eB (decide (xs=ys))) []:=by
 have h:=lB (nI xs) (nI ys) (by rw [nI,List.length_map];exact hlen)
 have e:decide (nI xs=nI ys)=decide (xs=ys):=by
  rw [decide_eq_decide]
  constructor
  ·intro e
   have:=congrArg (List.map Int.toNat) e
   unfold nI at this
   rw [List.map_map,List.map_map] at this
   have hid:(Int.toNat ∘ fun n:Nat=>(n:Int))=id:=funext fun n=>rfl
   rw [hid,List.map_id,List.map_id] at this
   exact this
  ·rintro rfl;rfl
 rw [← l6, ← l6,e] at h
 exact h
theorem nh:Spec Try.prog 14 (Args []) [] (eB true) []:=by
 have lF:=ec g4 (by decide)
 have xV:=l7 g4 (by decide)
 rw [BA] at lF
 rw [BB] at xV
 have GV:=gW [1] [1] (by decide)
 have e1:g4.es.map rE= [[.sc (.int .i64 0), .sc (.int .i64 1)], [.sc (.int .i64 1), .sc (.int .i64 2)]]:=rfl
 have e2:g4.n=3:=rfl
 have e3:([[0], [1]]:List (List Nat)).map jQ= [[sN [0]], [sN [1]]]:=rfl
 have e4:([1]:List Nat).map rN= [[.sc (.int .i64 1)]]:=rfl
 (refine Spec.hd (C:=T.cfg [] []) (rs:= [.t 0]) (T.aB _ _) Try.func14 rfl rfl Try.ntmps14 Try.results14 (by simp [AObj.isNest]) (by simp [AObj.isNest]) (by kernel_rfl) T.mixed fun X hX hP hC bM fC=> ?_)
 repeat' (first|refine Rn.p ?_|(with_reducible apply And.intro)|((first|(refine hK _ ?_;clear hK K)|with_reducible intro K hK|refine Rs.p ?_|((with_reducible first|apply oP|apply oQ);exact rfl)|(refine gP hX hC hP (lF) rfl rfl rfl ?_ ?_ rfl ?_;iterate 2 (focus (simp only [go_sem,simprocAttr,e1,e2,e3,e4];done)))|(refine gP hX hC hP (xV) rfl rfl rfl ?_ ?_ rfl ?_;iterate 2 (focus (simp only [go_sem,simprocAttr,e1,e2,e3,e4];done)))|(refine gP hX hC hP (GV) rfl rfl rfl ?_ ?_ rfl ?_;iterate 2 (focus (simp only [go_sem,simprocAttr,e1,e2,e3,e4];done))));try simp only [go_sem,simprocAttr,e1,e2,e3,e4])|((with_reducible refine oD ?_ ?_);kernel_rfl)|((with_reducible intro h);try simp only [go_sem,simprocAttr,e1,e2,e3,e4] at h)|omega|intro h)
def gX (g:Gr):Bool:=decide (40<(g.es.length:Int))||(decide (20<g.n)|| !(aS g&&aP g))
theorem qv (g:Gr) (hlen:g.es.length≤9223372036854775807):Spec Try.prog 15 (Args [eG g]) [] (eB (gX g)) []:=by
 have hO:=o5 g hlen
 have hlb:gX g=(decide (40<(g.es.length:Int))||(decide (20<g.n)|| !(aS g&&aP g))):=rfl
 generalize (!(aS g&&aP g))=q at hO hlb
 by_cases h1:40<(g.es.length:Int)
 ·rw [decide_eq_true h1,Bool.true_or] at hlb
  have jJ:=decide_eq_true h1
  rw [hlb]
  (refine Spec.hd (C:=T.cfg [] []) (rs:= [.t 2]) (T.aB _ _) Try.func15 rfl rfl Try.ntmps15 Try.results15 (by simp [AObj.isNest]) (by simp [AObj.isNest]) (by kernel_rfl) T.mixed fun X hX hP hC bM fC=> ?_)
  repeat' (first|refine Rn.p ?_|(with_reducible apply And.intro)|((first|(refine hK _ ?_;clear hK K)|with_reducible intro K hK|refine Rs.p ?_|((with_reducible first|apply oP|apply oQ);exact rfl)|refine aa hX hC hP (hO) rfl rfl rfl (by simp only [go_sem,simprocAttr,jJ]) rfl ?_);try simp only [go_sem,simprocAttr,jJ])|((with_reducible refine oD ?_ ?_);kernel_rfl)|((with_reducible intro h);try simp only [go_sem,simprocAttr,jJ] at h)|omega|intro h)
 rw [decide_eq_false h1,Bool.false_or] at hlb
 have jJ:=decide_eq_false h1
 by_cases h2:20<g.n
 ·rw [decide_eq_true h2,Bool.true_or] at hlb
  have pn:=decide_eq_true h2
  rw [hlb]
  (refine Spec.hd (C:=T.cfg [] []) (rs:= [.t 2]) (T.aB _ _) Try.func15 rfl rfl Try.ntmps15 Try.results15 (by simp [AObj.isNest]) (by simp [AObj.isNest]) (by kernel_rfl) T.mixed fun X hX hP hC bM fC=> ?_)
  repeat' (first|refine Rn.p ?_|(with_reducible apply And.intro)|((first|(refine hK _ ?_;clear hK K)|with_reducible intro K hK|refine Rs.p ?_|((with_reducible first|apply oP|apply oQ);exact rfl)|refine aa hX hC hP (hO) rfl rfl rfl (by simp only [go_sem,simprocAttr,jJ,pn]) rfl ?_);try simp only [go_sem,simprocAttr,jJ,pn])|((with_reducible refine oD ?_ ?_);kernel_rfl)|((with_reducible intro h);try simp only [go_sem,simprocAttr,jJ,pn] at h)|omega|intro h)
 rw [decide_eq_false h2,Bool.false_or] at hlb
 have pn:=decide_eq_false h2
 rw [hlb]
 (refine Spec.hd (C:=T.cfg [] []) (rs:= [.t 2]) (T.aB _ _) Try.func15 rfl rfl Try.ntmps15 Try.results15 (by simp [AObj.isNest]) (by simp [AObj.isNest]) (by kernel_rfl) T.mixed fun X hX hP hC bM fC=> ?_)
 repeat' (first|refine Rn.p ?_|(with_reducible apply And.intro)|((first|(refine hK _ ?_;clear hK K)|with_reducible intro K hK|refine Rs.p ?_|((with_reducible first|apply oP|apply oQ);exact rfl)|refine aa hX hC hP (hO) rfl rfl rfl (by simp only [go_sem,simprocAttr,jJ,pn]) rfl ?_);try simp only [go_sem,simprocAttr,jJ,pn])|((with_reducible refine oD ?_ ?_);kernel_rfl)|((with_reducible intro h);try simp only [go_sem,simprocAttr,jJ,pn] at h)|omega|intro h)
theorem vm {g:Gr} (h:gX g=false):aS g=true∧aP g=true∧g.es.length≤40∧g.n≤20:=by
 unfold gX at h
 rw [Bool.or_eq_false_iff,Bool.or_eq_false_iff,decide_eq_false_iff_not,decide_eq_false_iff_not,Bool.not_eq_false',Bool.and_eq_true] at h
 exact ⟨h.2.2.1,h.2.2.2,by omega,by omega⟩
theorem sM (g:Gr) (hlen:g.es.length≤9223372036854775807) (hz:sH g= []):Spec Try.prog 20 (Args [eG g]) [] (.d (.sl 3 [])) []:=by
 have lF:=ec g hlen
 rw [hz] at lF
 (refine Spec.hd (C:=T.cfg [] []) (rs:= [.c 2 46]) (T.aB _ _) Try.func20 rfl rfl Try.ntmps20 Try.results20 (by simp [AObj.isNest]) (by simp [AObj.isNest]) (by kernel_rfl) T.mixed fun X hX hP hC bM fC=> ?_)
 repeat' (first|refine Rn.p ?_|(with_reducible apply And.intro)|((first|(refine hK _ ?_;clear hK K)|with_reducible intro K hK|refine Rs.p ?_|((with_reducible first|apply oP|apply oQ);exact rfl)|refine aa hX hC hP (lF) rfl rfl rfl (by simp only [go_sem,simprocAttr]) rfl ?_);try simp only [go_sem,simprocAttr])|((with_reducible refine oD ?_ ?_);kernel_rfl)|((with_reducible intro h);try simp only [go_sem,simprocAttr] at h)|omega|intro h)
theorem jG (g:Gr) (hlen:g.es.length≤9223372036854775807):Spec Try.prog 6 (Args [eG g]) [] (eB true) []:=by
 have zC:=nh
 have hO:=o5 g hlen
 have hL:=qv g hlen
 have lF:=ec g hlen
 have xV:=l7 g hlen
 cases hq:(aS g&&aP g) with
 |false=>
  have hT:=sM g hlen (qs hq)
  rw [hq] at hO
  rw [qs hq] at lF
  rw [vj hq] at xV
  have hlb:gX g=true:=by unfold gX;rw [hq];simp
  rw [hlb] at hL
  have zD:Spec Try.prog 18 (Args [eG g]) [] (eB true) []:=hO
  by_cases vn:(g.es.length:Int)≤200
  ·have h2:=decide_eq_true vn
   (refine Spec.hd (C:=T.cfg [] []) (rs:= [.t 2]) (T.aB _ _) Try.func6 rfl rfl Try.ntmps6 Try.results6 (by simp [AObj.isNest]) (by simp [AObj.isNest]) (by kernel_rfl) T.mixed fun X hX hP hC bM fC=> ?_)
   repeat' (first|refine Rn.p ?_|(with_reducible apply And.intro)|((first|(refine hK _ ?_;clear hK K)|with_reducible intro K hK|refine Rs.p ?_|((with_reducible first|apply oP|apply oQ);exact rfl)|refine aa hX hC hP (zC) rfl rfl rfl (by simp only [go_sem,simprocAttr,h2]) rfl ?_|refine aa hX hC hP (zD) rfl rfl rfl (by simp only [go_sem,simprocAttr,h2]) rfl ?_|refine aa hX hC hP (lF) rfl rfl rfl (by simp only [go_sem,simprocAttr,h2]) rfl ?_|refine aa hX hC hP (xV) rfl rfl rfl (by simp only [go_sem,simprocAttr,h2]) rfl ?_|refine aa hX hC hP (hT) rfl rfl rfl (by simp only [go_sem,simprocAttr,h2]) rfl ?_);try simp only [go_sem,simprocAttr,h2])|((with_reducible refine oD ?_ ?_);kernel_rfl)|((with_reducible intro h);try simp only [go_sem,simprocAttr,h2] at h)|omega|intro h)
  ·have h2:=decide_eq_false vn
   (refine Spec.hd (C:=T.cfg [] []) (rs:= [.t 2]) (T.aB _ _) Try.func6 rfl rfl Try.ntmps6 Try.results6 (by simp [AObj.isNest]) (by simp [AObj.isNest]) (by kernel_rfl) T.mixed fun X hX hP hC bM fC=> ?_)
   repeat' (first|refine Rn.p ?_|(with_reducible apply And.intro)|((first|(refine hK _ ?_;clear hK K)|with_reducible intro K hK|refine Rs.p ?_|((with_reducible first|apply oP|apply oQ);exact rfl)|refine aa hX hC hP (zC) rfl rfl rfl (by simp only [go_sem,simprocAttr,h2]) rfl ?_|refine aa hX hC hP (hL) rfl rfl rfl (by simp only [go_sem,simprocAttr,h2]) rfl ?_);try simp only [go_sem,simprocAttr,h2])|((with_reducible refine oD ?_ ?_);kernel_rfl)|((with_reducible intro h);try simp only [go_sem,simprocAttr,h2] at h)|omega|intro h)
 |true=>
  have zD:Spec Try.prog 18 (Args [eG g]) [] (eB false) []:=by rw [hq] at hO;exact hO
  cases hlb:gX g with
  |true=>
   rw [hlb] at hL
   by_cases vn:(g.es.length:Int)≤200
   ·have h2:=decide_eq_true vn
    (refine Spec.hd (C:=T.cfg [] []) (rs:= [.t 2]) (T.aB _ _) Try.func6 rfl rfl Try.ntmps6 Try.results6 (by simp [AObj.isNest]) (by simp [AObj.isNest]) (by kernel_rfl) T.mixed fun X hX hP hC bM fC=> ?_)
    repeat' (first|refine Rn.p ?_|(with_reducible apply And.intro)|((first|(refine hK _ ?_;clear hK K)|with_reducible intro K hK|refine Rs.p ?_|((with_reducible first|apply oP|apply oQ);exact rfl)|refine aa hX hC hP (zC) rfl rfl rfl (by simp only [go_sem,simprocAttr,h2]) rfl ?_|refine aa hX hC hP (zD) rfl rfl rfl (by simp only [go_sem,simprocAttr,h2]) rfl ?_|refine aa hX hC hP (hL) rfl rfl rfl (by simp only [go_sem,simprocAttr,h2]) rfl ?_);try simp only [go_sem,simprocAttr,h2])|((with_reducible refine oD ?_ ?_);kernel_rfl)|((with_reducible intro h);try simp only [go_sem,simprocAttr,h2] at h)|omega|intro h)
   ·have h2:=decide_eq_false vn
    (refine Spec.hd (C:=T.cfg [] []) (rs:= [.t 2]) (T.aB _ _) Try.func6 rfl rfl Try.ntmps6 Try.results6 (by simp [AObj.isNest]) (by simp [AObj.isNest]) (by kernel_rfl) T.mixed fun X hX hP hC bM fC=> ?_)
    repeat' (first|refine Rn.p ?_|(with_reducible apply And.intro)|((first|(refine hK _ ?_;clear hK K)|with_reducible intro K hK|refine Rs.p ?_|((with_reducible first|apply oP|apply oQ);exact rfl)|refine aa hX hC hP (zC) rfl rfl rfl (by simp only [go_sem,simprocAttr,h2]) rfl ?_|refine aa hX hC hP (zD) rfl rfl rfl (by simp only [go_sem,simprocAttr,h2]) rfl ?_|refine aa hX hC hP (hL) rfl rfl rfl (by simp only [go_sem,simprocAttr,h2]) rfl ?_);try simp only [go_sem,simprocAttr,h2])|((with_reducible refine oD ?_ ?_);kernel_rfl)|((with_reducible intro h);try simp only [go_sem,simprocAttr,h2] at h)|omega|intro h)
  |false=>
   rw [hlb] at hL
   obtain ⟨hm,hl,HM,_⟩:=vm hlb
   have h2:decide ((g.es.length:Int)≤200)=true:=decide_eq_true (by omega)
   rw [jS hq] at lF
   rw [jT hq] at xV
   have Fj:=iR g hm hl
   have Fk:=qi g hm hl
   have fU:(dQ g).length≤1000000:=by
    have h1:=jk (g:=g) (k:=g.n.toNat)
    have h3:=cR hm
    have h4:(dQ g).length≤g.n.toNat:=h1
    omega
   have Ek:=gW (dQ g) (dQ g) (by omega)
   rw [decide_eq_true (rfl:dQ g=dQ g)] at Ek
   have GW:∀k,k<(ug g).aF.length→Spec Try.prog 22 (Args [.d (sN ((ug g).aF.getD k [])), .d (sN ((ug g).aF.getD k []))]) [] (eB true) []:=fun k hk=>by
    have h1:=gW ((ug g).aF.getD k []) ((ug g).aF.getD k []) (by
     have:=(qt g _ (gu [] hk)).2
     omega)
    rw [decide_eq_true rfl] at h1
    exact h1
   have Fg:(ug g).aF.length≤g.es.length:=iS
   generalize (ug g).aF=L at*
   generalize dQ g=cu at*
   (refine Spec.hd (C:=T.cfg [] []) (rs:= [.t 2]) (T.aB _ _) Try.func6 rfl rfl Try.ntmps6 Try.results6 (by simp [AObj.isNest]) (by simp [AObj.isNest]) (by kernel_rfl) T.mixed fun X hX hP hC bM fC=> ?_)
   repeat' (first|refine Rn.p ?_|(with_reducible apply And.intro)|((first|(refine hK _ ?_;clear hK K)|with_reducible intro K hK|refine Rs.p ?_|((with_reducible first|apply oP|apply oQ);exact rfl)|refine aa hX hC hP (zC) rfl rfl rfl (by simp only [go_sem,simprocAttr,h2]) rfl ?_|refine aa hX hC hP (zD) rfl rfl rfl (by simp only [go_sem,simprocAttr,h2]) rfl ?_|refine aa hX hC hP (hL) rfl rfl rfl (by simp only [go_sem,simprocAttr,h2]) rfl ?_|refine aa hX hC hP (lF) rfl rfl rfl (by simp only [go_sem,simprocAttr,h2]) rfl ?_|refine aa hX hC hP (xV) rfl rfl rfl (by simp only [go_sem,simprocAttr,h2]) rfl ?_|refine aa hX hC hP (Fj) rfl rfl rfl (by simp only [go_sem,simprocAttr,h2]) rfl ?_|refine aa hX hC hP (Fk) rfl rfl rfl (by simp only [go_sem,simprocAttr,h2]) rfl ?_|refine aa hX hC hP (Ek) rfl rfl rfl (by simp only [go_sem,simprocAttr,h2]) rfl ?_);try simp only [go_sem,simprocAttr,h2])|((with_reducible refine oD ?_ ?_);kernel_rfl)|((with_reducible intro h);try simp only [go_sem,simprocAttr,h2] at h)|omega|intro h)
   refine an (fun k:Nat=>k≤L.length) (fun k=>⟨[(3, .d (sNL L)),(4, .d (sNL L)),(48,eN L.length),(49,eN k)], []⟩) (fun k=>L.length - k) 0 (Nat.zero_le _) ?_ ?_
   ·refine Le.of ?_ ?_<;>simp [go_sem,simprocAttr,h2]
   rintro k hk
   rcases Nat.lt_or_ge k L.length with hlt|hge
   rotate_left
   ·have hb:decide ((k:Int)<(L.length:Int))=false:=decide_eq_false (by omega)
    repeat' (first|refine Rn.p ?_|(with_reducible apply And.intro)|((first|(refine hK _ ?_;clear hK K)|with_reducible intro K hK|refine Rs.p ?_|((with_reducible first|apply oP|apply oQ);exact rfl)|refine aa hX hC hP (zC) rfl rfl rfl (by simp only [go_sem,simprocAttr,hb]) rfl ?_|refine aa hX hC hP (zD) rfl rfl rfl (by simp only [go_sem,simprocAttr,hb]) rfl ?_|refine aa hX hC hP (hL) rfl rfl rfl (by simp only [go_sem,simprocAttr,hb]) rfl ?_|refine aa hX hC hP (lF) rfl rfl rfl (by simp only [go_sem,simprocAttr,hb]) rfl ?_|refine aa hX hC hP (xV) rfl rfl rfl (by simp only [go_sem,simprocAttr,hb]) rfl ?_|refine aa hX hC hP (Fj) rfl rfl rfl (by simp only [go_sem,simprocAttr,hb]) rfl ?_|refine aa hX hC hP (Fk) rfl rfl rfl (by simp only [go_sem,simprocAttr,hb]) rfl ?_|refine aa hX hC hP (Ek) rfl rfl rfl (by simp only [go_sem,simprocAttr,hb]) rfl ?_);try simp only [go_sem,simprocAttr,hb])|((with_reducible refine oD ?_ ?_);kernel_rfl)|((with_reducible intro h);try simp only [go_sem,simprocAttr,hb] at h)|omega|intro h)
   have hb:decide ((k:Int)<(L.length:Int))=true:=decide_eq_true (by omega)
   have GX:=GW k hlt
   repeat' (first|refine Rn.p ?_|(with_reducible apply And.intro)|((first|(refine hK _ ?_;clear hK K)|with_reducible intro K hK|refine Rs.p ?_|((with_reducible first|apply oP|apply oQ);exact rfl)|refine aa hX hC hP (GX) rfl rfl rfl (by simp only [go_sem,simprocAttr,hb]) rfl ?_);try simp only [go_sem,simprocAttr,hb])|((with_reducible refine oD ?_ ?_);kernel_rfl)|((with_reducible intro h);try simp only [go_sem,simprocAttr,hb] at h)|omega|intro h)
   refine ⟨k+1,by omega, ?_,by omega⟩
   refine Le.of ?_ ?_<;>simp [go_sem,simprocAttr,hb]
end Go.Ab
end
