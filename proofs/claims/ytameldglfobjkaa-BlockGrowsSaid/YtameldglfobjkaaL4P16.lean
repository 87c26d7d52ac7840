/- A part of the proof. -/
import Derived.Shelf.SlSortCmp.NoneTotal
import Derived.Deep.QuietTactic
import Derived.WalkKit
import Derived.Sort.Grow
import Derived.Test.YtameldglfobjkaaL4P15
set_option linter.unusedSimpArgs false
set_option linter.unusedVariables false
section
namespace Go.Ab
open Go.Proofs Go.RowKit Go.Shelf Go.Sort
set_option maxRecDepth 10000
set_option maxHeartbeats 4000000
theorem wY (W:World) (b1 o1 n1 c1 b2 o2 n2 c2:Nat) (x y:Int) (hx:0≤x∧x≤1000) (hy:0≤y∧y≤1000) (F1:0<n1) (hn2:0<n2) (h1:W.cell? ⟨b1,o1,none⟩=some (.int .i64 x)) (h2:W.cell? ⟨b2,o2,none⟩=some (.int .i64 y)):
 Calls Try.prog 42 #[.slice (some ⟨b1,o1,none⟩) n1 c1, .slice (some ⟨b2,o2,none⟩) n2 c2] W fun e w'=>e= .returned (.int .i64 (x - y))∧∃q,w'=W.drewN q:=by
 go_enter Try.func42,Try.ntmps42
 go_wp2
 go_quiet (fail)
 go_wp2
 go_ret
 exact ⟨rfl,nq,rfl⟩
def tA (P:Program) (g:Nat) (cb:Array Value) (en:Int→Value) (cf:Int→Int→Int) (l:List Int) (blk:Nat) (w:World):Prop:=
 ∀W:World,w.heap.size≤W.heap.size→(∀b,b<w.heap.size→b≠blk→W.heap[b]? =w.heap[b]?)→∀x,x∈l→∀y,y∈l→
  Calls P g (#[en x,en y]++cb) W fun e w'=>e= .returned (.int .i64 (cf x y))∧∃q os',w'=grow (W.drewN q) os'
theorem nE (g:Nat) (cb:Array Value) (en:Int→Value) (qF:∀x,(en x).oneCell'=true) {cf:Int→Int→Int} {l l':List Int} (S:wv cf l l') (hlen:l.length≤1000000) (eg:∀args w,(callFunc g args).run Try.prog w= .ok (.enter g args) w)
 (blk cap:Nat) (w:World) {cur:Array Value} {e:TypeId} (hb:w.heap[blk]? =some (.cells cur e (0,0))) (hc:∀i,i<l.length→cur[i]? =some (en (l.getD i 0))) (hne:l≠ [])
 (hcmp:tA Try.prog g cb en cf l blk w):
 Calls Try.prog 41 #[.slice (some ⟨blk,0,none⟩) l.length cap, .func (.func g) #[] cb] w fun CA w'=>CA= .returned (.tuple #[])∧
  w'.os=w.os∧w'.tape=w.tape∧w'.output=w.output∧w.heap.size≤w'.heap.size∧(∀b,b<w.heap.size→b≠blk→w'.heap[b]? =w.heap[b]?)∧
  ∃cur',w'.heap[blk]? =some (.cells cur' e (0,0))∧cur'.size=cur.size∧∀i,i<l'.length→cur'[i]? =some (en (l'.getD i 0)):=by
 have hlt:blk<w.heap.size:=(Array.getElem?_eq_some_iff.1 hb).1
 obtain ⟨a0,ha0⟩:∃a,a∈l:=by
  cases l with
  |nil=>exact absurd rfl hne
  |cons a l=>exact ⟨a,by simp⟩
 letI:Inhabited {x // x∈l} :=⟨⟨a0,ha0⟩⟩
 have hsz:(l.attach.toArray).size=l.length:=by simp
 have oT:∀j (hj:j<l.length),((l.attach.toArray)[j]!).1=l.getD j 0:=fun j hj=>by
  rw [getElem!_pos _ j (by simpa using hj),List.getD_eq_getElem?_getD,List.getElem?_eq_getElem hj]
  simp
 have hH:Holds (fun x: {x // x∈l} =>en x.1) w blk 0 l.attach.toArray:=fun j hj=>by
  rw [hsz] at hj
  refine ⟨?_, ?_⟩
  ·show _=some (en ((l.attach.toArray)[j]!).1)
   rw [Nat.zero_add,oT j hj, ← hc j hj]
   simp [World.cell?,hb]
  ·simp [World.frozen?,hb]
 have rR:CmpLays1 Try.prog g cb (fun x: {x // x∈l} =>en x.1) (fun x y=>cf x.1 y.1) blk 0 (l.attach.toArray).size w:=fun m os dk _ x y=>
  hcmp _ (fI ..) (fun b h1 h2=>fH _ _ _ _ _ _ h1 h2) x.1 x.2 y.1 y.2
 have zJ:=Any.slices_SortFunc Try.sX (fun x: {x // x∈l} =>en x.1) (fun x=>qF x.1) (fun x y=>cf x.1 y.1) S.swo g cb blk 0 cap l.attach.toArray w eg rR hH hlt (by rw [hsz];omega)
 rw [hsz] at zJ
 refine Calls.mono zJ ?_
 rintro CA w' ⟨rfl,d',n,os,hp,hs,rfl⟩
 rw [← hsz] at hp hs
 have he:=S.eq (d:=l.attach.toArray) (by simp) hp hs
 have hds:d'.size=l.length:=by rw [hp.1,hsz]
 refine ⟨rfl,rfl,rfl,rfl,fI ..,fun b h1 h2=>fH _ _ _ _ _ _ h1 h2,_,kj _ _ _ _ _ _ hb,by simp [putCells],fun i hi=> ?_⟩
 have hi2:i<l.length:=by rw [S.perm.length_eq];exact hi
 have hic:i<cur.size:=(Array.getElem?_eq_some_iff.1 (hc i hi2)).1
 simp only [putCells,Array.getElem?_mapIdx,Array.getElem?_eq_getElem hic,Option.map_some]
 rw [if_pos ⟨by omega,by omega⟩,Nat.sub_zero,getElem!_pos d' i (by omega)]
 have:l'.getD i 0=(d'[i]'(by omega)).1:=by
  rw [← he,List.getD_eq_getElem?_getD,List.getElem?_map,Array.getElem?_toList,Array.getElem?_eq_getElem (by omega)]
  rfl
 rw [this]
theorem gZ (p:Option Addr) (cap:Nat) (fv:Value) (w:World):Calls Try.prog 41 #[.slice p 0 cap,fv] w fun e w'=>e= .returned (.tuple #[])∧w'=w:=
 AnyF.slices_SortFunc_none {Try.sX with} p cap fv w
theorem wZ {ob:AObj} (hn:ob.isNest=false) {q:Nat} {o:AObj} (h:aG [(10000,ob)] q=some o):q=10000∧o=ob:=by
 have hl:look [(10000,ob)] q=some o:=(cM (fun p hp=>by
  rw [List.mem_singleton] at hp
  subst hp
  exact hn) h).1
 simp only [look] at hl
 split at hl
 ·rename_i e;cases hl;exact ⟨e.symm,rfl⟩
 ·cases hl
def gl (b:List Nat):Int:=((b.headD 0:Nat):Int)
theorem oU {L L':List (List Nat)} (hp:L.Perm L') (hne:∀b∈L,b≠ []) (bI:(L.map gl).Nodup) (hs:L'.Pairwise fun a b=>gl a<gl b) (hbd:∀b∈L,gl b≤1000) (hlen:L.length≤1000000):
 Spec Try.prog 41 (Args [.ref 10000, .fn 42 [] []]) [(10000, .own 25 1 (L.map kr))] (.tup []) [(10000, .own 25 1 (L'.map kr))]:=by
 refine ⟨⟨Try.f41,_,Try.func41,by kernel_rfl,rfl⟩,fun E w vals hg hA=> ?_⟩
 obtain ⟨v,vs,rfl,h0,h3⟩:=hA
 obtain ⟨v2,E4,rfl,h1,h4⟩:=h3
 simp only [AVrs] at h4
 subst h4
 obtain ⟨us,us',rfl,h5,h6⟩:=h1
 simp only [AVrs] at h5 h6
 subst h5 h6
 obtain ⟨rfl,_⟩:=h0
 obtain ⟨_,_,o2⟩:=hg.dJ 10000 (.own 25 1 (L.map kr)) rfl
 have nR:L.length=L'.length:=hp.length_eq
 have hkeep:∀ {w':World},(∀b,0<E.z b→w'.heap[b]? =w.heap[b]?)→aj w E.z w' E.z:=fun h b=>⟨Nat.le_refl _,fun o ho=>by
  simp only [World.cell?,h b (by omega)]⟩
 rcases o2 with ⟨r0,r1,p,r2⟩|⟨b,cur,cap,r0,r1,r2,r3,r4,r5,r6,r7⟩
 ·have hl0:L= []:=List.map_eq_nil_iff.1 r1
  subst hl0
  have w5:L'= []:=hp.symm.eq_nil
  subst w5
  rw [r2]
  refine (gZ p 0 _ w).mono ?_
  rintro en w' ⟨rfl,rfl⟩
  exact ⟨_,E,rfl,u5.refl _ _ _,hg,fun q o b hq hro hb=> .inr ⟨q,o,hq,hro,hb⟩,⟨[],rfl,rfl⟩⟩
 rw [List.length_map] at r2 r3
 rw [r2]
 by_cases hl0:L= []
 ·subst hl0
  have w5:L'= []:=hp.symm.eq_nil
  subst w5
  refine (gZ _ cap _ w).mono ?_
  rintro en w' ⟨rfl,rfl⟩
  exact ⟨_,E,rfl,u5.refl _ _ _,hg,fun q o b hq hro hb=> .inr ⟨q,o,hq,hro,hb⟩,⟨[],rfl,rfl⟩⟩
 have k9:b<w.heap.size:=(Array.getElem?_eq_some_iff.1 r1).1
 have zK:∀i,i<L.length→∃x,cur[i]? =some x∧Rd w E.z x (sN (L.getD i [])):=fun i hi=>by
  obtain ⟨x,h1,h2⟩:=r7 i 0 (kr L[i]) (sN L[i]) (by simp [List.getElem?_eq_getElem hi]) rfl
  exact ⟨x,by simpa using h1,by rw [List.getD_eq_getElem?_getD,List.getElem?_eq_getElem hi];exact h2⟩
 have hidx:∀i,i<L.length→(L.map gl).idxOf ((L.map gl).getD i 0)=i:=fun i hi=>by
  have hi':i<(L.map gl).length:=by rw [List.length_map];exact hi
  rw [List.getD_eq_getElem?_getD,List.getElem?_eq_getElem hi',Option.getD_some]
  exact bI.idxOf_getElem i hi'
 obtain ⟨en,qF⟩:∃en:Int→Value,en=fun h=>if (L.map gl).idxOf h<L.length then cur.getD ((L.map gl).idxOf h) (.int .i64 0) else .int .i64 0:=⟨_,rfl⟩
 have oT:∀i,i<L.length→cur[i]? =some (en ((L.map gl).getD i 0))∧Rd w E.z (en ((L.map gl).getD i 0)) (sN (L.getD i [])):=fun i hi=>by
  obtain ⟨x,h1,h2⟩:=zK i hi
  have:en ((L.map gl).getD i 0)=x:=by
   rw [qF]
   simp only
   rw [hidx i hi,if_pos hi]
   simp [h1]
  rw [this]
  exact ⟨h1,h2⟩
 have hmem:∀c∈L,Rd w E.z (en (gl c)) (sN c):=fun c hc=>by
  obtain ⟨i,hi,rfl⟩:=List.mem_iff_getElem.1 hc
  have h1:=(oT i hi).2
  have e1:(L.map gl).getD i 0=gl L[i]:=by
   rw [List.getD_eq_getElem?_getD,List.getElem?_map,List.getElem?_eq_getElem hi];rfl
  rw [e1,List.getD_eq_getElem?_getD,List.getElem?_eq_getElem hi] at h1
  exact h1
 have hone:∀x,(en x).oneCell'=true:=fun x=>by
  rw [qF]
  simp only
  split
  ·rename_i h
   obtain ⟨y,h1,h2⟩:=zK _ h
   have:cur.getD ((L.map gl).idxOf x) (.int .i64 0)=y:=by simp [h1]
   rw [this]
   exact h2.one
  ·rfl
 have hS:wv (fun x y=>x - y) (L.map gl) (L'.map gl):=by
  refine ⟨hp.map _,bI, ?_,fun x _=>by omega⟩
  rw [List.pairwise_map]
  exact hs.imp fun {a b} h=>by omega
 have hcmp:tA Try.prog 42 #[] en (fun x y=>x - y) (L.map gl) b w:=by
  intro W hsz hW x hx y hy
  obtain ⟨c,hc,rfl⟩:=List.mem_map.1 hx
  obtain ⟨d,hd,rfl⟩:=List.mem_map.1 hy
  have zL:∀q o,q<w.heap.size→q≠b→W.cell? ⟨q,o,none⟩=w.cell? ⟨q,o,none⟩:=fun q o h1 h2=>by
   simp only [World.cell?,hW q h1 h2]
  have vt:∀c∈L,∃q off n cap,en (gl c)= .slice (some ⟨q,off,none⟩) n cap∧0<n∧W.cell? ⟨q,off,none⟩=some (.int .i64 (gl c)):=fun c hc=>by
   have h1:=hmem c hc
   rw [kP] at h1
   have qP:nI c≠ []:=fun e=>hne c hc (List.map_eq_nil_iff.1 e)
   obtain ⟨q,off,cap,g1,g2,g3,g4⟩:=yW h1 qP
   have hpos:0<(nI c).length:=List.length_pos_iff.2 qP
   refine ⟨q,off,_,cap,g1,hpos, ?_⟩
   rw [zL q off g2 (fun e=>by rw [e] at g3;omega)]
   have:=g4 0 hpos
   rw [Nat.add_zero] at this
   rw [this]
   cases c with
   |nil=>exact absurd rfl (hne _ hc)
   |cons i r=>rfl
  obtain ⟨q1,o1,n1,c1,g1,g2,g3⟩:=vt c hc
  obtain ⟨q2,o2,n2,c2,g4,g5,g6⟩:=vt d hd
  rw [g1,g4]
  have hz:∀b,0≤gl b:=fun b=>by unfold gl;omega
  exact (wY W q1 o1 n1 c1 q2 o2 n2 c2 (gl c) (gl d) ⟨hz c,hbd c hc⟩ ⟨hz d,hbd d hd⟩ g2 g5 g3 g6).mono fun _ _ ⟨he,q,hq⟩=>⟨he,q, #[],by rw [hq,grow_empty]⟩
 have vu:=nE 42 #[] en hone hS (by rw [List.length_map];exact hlen) (enters_of Try.func42 (by kernel_rfl) rfl) b cap w r1 (fun i hi=>by
  rw [List.length_map] at hi
  exact (oT i hi).1) (fun e=>hl0 (List.map_eq_nil_iff.1 e)) hcmp
 rw [List.length_map] at vu
 refine vu.mono ?_
 rintro CA w' ⟨rfl,k1,k2,k3,k4,k5,cur',k6,k7,k8⟩
 have hst:aj w E.z w' E.z:=hkeep fun q hq=>by
  by_cases E5:q<w.heap.size
  ·exact k5 q E5 fun e=>by subst e;omega
  ·have:=hg.fresh q (by omega);omega
 have Ds:∀ {q:Nat},aG [(10000,AObj.own 25 1 (L'.map kr))] q≠none→aG [(10000,AObj.own 25 1 (L.map kr))] q≠none:=fun {q} h=>by
  obtain ⟨o,ho⟩:=Option.ne_none_iff_exists'.1 h
  obtain ⟨rfl,_⟩:=wZ rfl ho
  simp [bB,look]
 refine ⟨_,E,rfl,⟨k1,k2,k3,k4,hst,fun q hq hnm=>⟨k5 q hq fun e=> ?_,rfl⟩,fun _ _=>⟨rfl,rfl⟩⟩,⟨fun q hq=> ?_,fun q q' c hq fQ=>hg.inj q q' c (Ds hq) (Ds fQ),fun q o hq=> ?_,fun q hq=>hg.fresh q (by omega)⟩,fun q o c hq hro hc=> ?_,⟨[],rfl,rfl⟩⟩
 ·subst e
  exact hnm ⟨10000,_,rfl,rfl,r0⟩
 ·simp only [look] at hq
  split at hq
  ·omega
  ·exact absurd rfl hq
 ·obtain ⟨rfl,rfl⟩:=wZ rfl hq
  refine ⟨fun r hr=> ?_,by decide, .inr ⟨b,cur',cap,r0,k6, ?_, ?_,by rw [k7];exact r4,r5,r6,fun i j r x h1 h2=> ?_⟩⟩
  ·obtain ⟨v,_,rfl⟩:=List.mem_map.1 hr
   rfl
  ·rw [List.length_map, ← nR];exact r2
  ·rw [List.length_map, ← nR];exact r3
  ·rw [List.getElem?_map] at h1
   obtain ⟨c,h3,rfl⟩:=Option.map_eq_some_iff.1 h1
   cases j with
   |succ j=>simp [kr] at h2
   |zero=>
    simp only [kr,List.getElem?_cons_zero,Option.some.injEq] at h2
    subst h2
    have hi:i<L'.length:=(List.getElem?_eq_some_iff.1 h3).1
    have E6:c∈L:=hp.mem_iff.2 (List.mem_of_getElem? h3)
    have h8:=k8 i (by rw [List.length_map];exact hi)
    have e1:(L'.map gl).getD i 0=gl c:=by
     rw [List.getD_eq_getElem?_getD,List.getElem?_map,h3];rfl
    rw [e1] at h8
    exact ⟨_,by simpa using h8,(hmem c E6).mono hst⟩
 ·refine .inr ?_
  obtain ⟨rfl,rfl⟩:=wZ rfl hq
  exact ⟨10000,_,rfl,rfl,hc⟩
end Go.Ab
end
section
namespace Go.Ab
open Go.Proofs
attribute [local congr] ACall.congr gd.congr Nx.congr
set_option maxRecDepth 20000
set_option maxHeartbeats 16000000
set_option linter.unusedSectionVars false
namespace UG
variable {G:UG} (hG:G.Ok) {so:List Nat→List Nat} (hsp:∀l,(so l).Perm l)
include hG
theorem uV {s:Sc} {k:Nat} (hk:k<G.n) (h:G.wS s k) (h0:s.nm k=0):G.Pre s k none []:=
 ⟨h.ln,h.ll,hk,h0,⟨by simp,by simp,trivial⟩,fun v i a hv _ hJ=>h.bl v i a hv hJ,h.le,h.inj, .inl ⟨rfl,rfl⟩,fun e he=> .inr fun a b hJ=>by
   rw [h.stk,List.nil_append,h.mem] at he
   obtain ⟨d,c,h1,h2⟩:=he
   rcases h2.two hJ with ⟨rfl,rfl⟩|⟨rfl,rfl⟩
   ·exact h1
   ·exact h.bl _ _ _ h1 h2⟩
theorem w6 {s:Sc} {k:Nat} (h:G.wS s k) (hc:s.cnt+G.gw s≤G.n):G.Bd s:=by
 refine ⟨?_,fun e he=> ?_,fun b hb=> ?_,hc⟩
 ·rw [h.stk,List.nil_append];exact h.nd
 ·rw [h.stk,List.nil_append,h.mem] at he
  obtain ⟨d,a,_,hJ⟩:=he
  exact hJ.1
 ·obtain ⟨i,_,hi,_⟩:=h.cls b hb
  rintro rfl
  simp at hi
def cU (G:UG) (so:List Nat→List Nat) (k:Nat):Sc:=(List.range k).foldl (ko G so) (bw G)
omit hG in
theorem iG {k:Nat} :cU G so (k+1)=ko G so (cU G so k) k:=by
 unfold cU
 rw [List.range_succ,List.foldl_append];rfl
include hsp
theorem p6:∀ {k:Nat},k≤G.n→G.wS (cU G so k) k∧(cU G so k).cnt+G.gw (cU G so k)≤G.n
 |0,_=>by
  have h0:∀v,G.bw.nm v=0:=fun v=>by
   unfold Sc.nm bw
   rw [List.getD_eq_getElem?_getD,List.getElem?_replicate]
   split<;>rfl
  refine ⟨⟨by simp [bw,cU],by simp [bw,cU],by simp,fun v i a hv=>absurd (h0 v) hv,fun v=>(h0 v).symm ▸ Nat.zero_le _,fun u v hu=>absurd (h0 u) hu,rfl,by simp [bw,cU],fun e=> ?_,by simp [bw,cU]⟩, ?_⟩
  ·simp only [cU,bw,List.range_zero,List.foldl_nil,List.flatten_nil,List.not_mem_nil,false_iff,not_exists,not_and]
   exact fun d a hd=>absurd (h0 d) hd
  ·unfold gw
   have:=List.countP_le_length (l:=List.range G.n) (p:=fun v=>decide ((cU G so 0).nm v=0))
   rw [List.length_range] at this
   have e:(cU G so 0).cnt=0:=rfl
   omega
 |k+1,hk=>by
  obtain ⟨h1,h2⟩:=p6 (k:=k) (by omega)
  rw [iG]
  refine ⟨nw hG hsp (by omega) h1, ?_⟩
  unfold ko
  split
  ·rename_i h0
   have:=(l5 hG (so:=so) (G.n+1) (cU G so k) k none h1.ln (by omega) h0).cn
   omega
  ·exact h2
omit hG hsp in
theorem tB:∀(f:Nat) (s:Sc) (x:Nat) (aq:Option Nat),(∀b∈s.blk,∃l,b=so l)→∀b∈(cq G so f x aq s).blk,∃l,b=so l
 |0,s,x,aq,h=>h
 |f+1,s,x,aq,h=>by
  have key:∀(L:List Nat) (s':Sc),(∀b∈s'.blk,∃l,b=so l)→∀b∈(L.foldl (bK G so (fun y i=>cq G so f y (some i)) x aq) s').blk,∃l,b=so l:=by
   intro L
   induction L with
   |nil=>intro s' h;exact h
   |cons i L ih=>
    intro s' h
    refine ih _ ?_
    unfold bK
    split
    ·exact h
    ·split
     ·have h2:=tB f {s' with stk:=s'.stk++ [i]} (G.qT i x) (some i) h
      simp only
      split
      ·intro b hb
       unfold eX at hb
       rcases List.mem_append.1 hb with hb|hb
       ·exact h2 b hb
       ·rw [List.mem_singleton] at hb
        exact ⟨_,hb⟩
      ·exact h2
     ·split
      ·exact h
      ·exact h
  exact key (G.ends x) (iq s x) h
omit hG hsp in
theorem oV:∀ {k:Nat},∀b∈(cU G so k).blk,∃l,b=so l
 |0,b,hb=>by simp [cU,bw] at hb
 |k+1,b,hb=>by
  rw [iG] at hb
  unfold ko at hb
  split at hb
  ·exact tB _ _ _ _ (fun b hb=>oV b hb) b hb
  ·exact oV b hb
theorem dW (hr:∀l,l.Nodup→(so l).Pairwise (· < ·)):(bF G so).Perm G.aH∧(∀b∈bF G so,b≠ []):=by
 obtain ⟨h1,h2,h3⟩:=ez hG hsp
 have hne:∀b∈bF G so,b≠ []:=fun b hb=>by
  obtain ⟨i,_,hi,_⟩:=h3 b hb
  rintro rfl
  simp at hi
 have h4:∀b∈bF G so,b.Pairwise (· < ·):=fun b hb=>by
  obtain ⟨l,rfl⟩:=oV (G:=G) (so:=so) (k:=G.n) b hb
  refine hr l ((hsp l).nodup_iff.1 ?_)
  exact h1.sublist (List.sublist_flatten_of_mem hb)
 refine ⟨?_,hne⟩
 have hp:((bF G so).mergeSort fun a b=>decide (a.headD 0≤b.headD 0)).Perm (bF G so):=List.mergeSort_perm _ _
 have hs:((bF G so).mergeSort fun a b=>decide (a.headD 0≤b.headD 0)).Pairwise fun a b=>decide (a.headD 0≤b.headD 0)=true:=List.pairwise_mergeSort (fun a b c h1 h2=>by simp at h1 h2 ⊢;omega) (fun a b=>by simp;omega) _
 have:=pX (G:=G) (L:=(bF G so).mergeSort fun a b=>decide (a.headD 0≤b.headD 0)) (hp.flatten.nodup_iff.2 h1) (fun e=>by rw [hp.flatten.mem_iff,h2]) (fun b hb=>h3 b (hp.mem_iff.1 hb)) (fun b hb=>h4 b (hp.mem_iff.1 hb)) (hs.imp fun h=>by simpa using h)
 rw [← this]
 exact hp.symm
omit hG hsp in
theorem tC:(G.aH.map fun b=>b.headD 0).Pairwise (· < ·):=by
 unfold aH
 rw [List.map_map]
 have:((List.range G.m).filter fun i=>G.qV i).map ((fun b:List Nat=>b.headD 0) ∘ G.cI)=(List.range G.m).filter fun i=>G.qV i:=by
  have h:∀i∈(List.range G.m).filter (fun i=>G.qV i),((fun b:List Nat=>b.headD 0) ∘ G.cI) i=id i:=fun i hi=>by
   rw [List.mem_filter,List.mem_range] at hi
   obtain ⟨r,hr⟩:=tj hi.1 hi.2
   show (G.cI i).headD 0=i
   rw [hr];rfl
  rw [List.map_congr_left h,List.map_id]
 rw [this]
 exact gy.filter _
end UG
noncomputable def qW (g:Gr):List (List Nat):=if (aV g&&aR g)=true then (ug g).aH else []
theorem oW (e:Edge):Spec Try.prog 38 (Args [eE e]) [] (eB (decide (e.1=e.2))) []:=by
 (refine Spec.hd (C:=T.cfg [] []) (rs:= [.t 2]) (T.aK _ _) Try.func38 rfl rfl Try.ntmps38 Try.results38 (by simp [AObj.isNest]) (by simp [AObj.isNest]) (by kernel_rfl) T.mixed fun X hX hP hC cE ij=> ?_)
 repeat' (first|refine Rn.p ?_|(with_reducible apply And.intro)|((first|(refine hK _ ?_;clear hK K)|with_reducible intro K hK|refine Rs.p ?_|((with_reducible first|apply oP|apply oQ);exact rfl));try simp only [go_sem,simprocAttr])|((with_reducible refine oD ?_ ?_);kernel_rfl)|((with_reducible intro h);try simp only [go_sem,simprocAttr] at h)|omega|intro h)
theorem w8:cA []:=⟨by simp,by simp [nodupM],by simp,by simp⟩
def ga (g:Gr) (s:UG.Sc):List (Nat × AObj):= [(300, .box [eN g.n, .d (sE g.es), .d (sNL ((List.range g.n.toNat).map fun x=>(ug g).ends x)), .ref 301, .ref 302,eN s.cnt, .ref 303, .ref 304]),(301, .own 3 1 (s.num.map rN)),(302, .own 3 1 (s.low.map rN)),(303, .own 3 1 (s.stk.map rN)),(304, .own 25 1 (s.blk.map kr))]
theorem dS (g:Gr) (hlen:g.es.length≤9223372036854775807):Spec Try.prog 16 (Args [eG g]) [] (.d (sNL (qW g))) []:=by
 have hM:=sP g (by omega)
 have CB:=dI w8 38 [] (fun e=>decide (e.1=e.2)) oW g.es (by omega)
 have hbk:qW g=if (aV g&&aR g)=true then (ug g).aH else []:=rfl
 have hnl:aR g= !(g.es.any fun e=>decide (e.1=e.2)):=rfl
 cases hm:aV g with
 |false=>
  rw [hm] at hM hbk
  have qU:qW g= []:=by rw [hbk];rfl
  rw [qU]
  (refine Spec.hd (C:=T.cfg [] []) (rs:= [.t 2]) (T.aK _ _) Try.func16 rfl rfl Try.ntmps16 Try.results16 (by simp [AObj.isNest]) (by simp [AObj.isNest]) (by kernel_rfl) T.mixed fun X hX hP hC cE ij=> ?_)
  repeat' (first|refine Rn.p ?_|(with_reducible apply And.intro)|((first|(refine hK _ ?_;clear hK K)|with_reducible intro K hK|refine Rs.p ?_|((with_reducible first|apply oP|apply oQ);exact rfl)|refine ag hX hC hP (hM) rfl rfl rfl (by simp only [go_sem,simprocAttr]) rfl ?_);try simp only [go_sem,simprocAttr])|((with_reducible refine oD ?_ ?_);kernel_rfl)|((with_reducible intro h);try simp only [go_sem,simprocAttr] at h)|omega|intro h)
 |true=>
 rw [hm] at hM hbk
 generalize hq:(g.es.any fun e=>decide (e.1=e.2))=q at CB hnl
 cases q with
 |true=>
  rw [hnl] at hbk
  have qU:qW g= []:=by rw [hbk];rfl
  rw [qU]
  (refine Spec.hd (C:=T.cfg [] []) (rs:= [.t 2]) (T.aK _ _) Try.func16 rfl rfl Try.ntmps16 Try.results16 (by simp [AObj.isNest]) (by simp [AObj.isNest]) (by kernel_rfl) T.mixed fun X hX hP hC cE ij=> ?_)
  repeat' (first|refine Rn.p ?_|(with_reducible apply And.intro)|((first|(refine hK _ ?_;clear hK K)|with_reducible intro K hK|refine Rs.p ?_|((with_reducible first|apply oP|apply oQ);exact rfl)|refine ag hX hC hP (hM) rfl rfl rfl (by simp only [go_sem,simprocAttr]) rfl ?_|refine ag hX hC hP (CB) rfl rfl rfl (by simp only [go_sem,simprocAttr]) rfl ?_);try simp only [go_sem,simprocAttr])|((with_reducible refine oD ?_ ?_);kernel_rfl)|((with_reducible intro h);try simp only [go_sem,simprocAttr] at h)|omega|intro h)
 |false=>
 rw [hnl] at hbk
 have hl:aR g=true:=hnl
 have qU:qW g=(ug g).aH:=by rw [hbk];rfl
 rw [qU]
 have hn:=fJ hm
 have hG:=kL hm hl
 have hB:=oL g hm hl
 (refine Spec.hd (C:=T.cfg [303,304,305,306] []) (rs:= [.t 2]) (T.aK _ _) Try.func16 rfl rfl Try.ntmps16 Try.results16 (by simp [AObj.isNest]) (by simp [AObj.isNest]) (by kernel_rfl) T.mixed fun X hX hP hC cE ij=> ?_)
 repeat' (first|refine Rn.p ?_|(with_reducible apply And.intro)|((first|(refine hK _ ?_;clear hK K)|with_reducible intro K hK|refine Rs.p ?_|((with_reducible first|apply oP|apply oQ);exact rfl)|refine ag hX hC hP (hM) rfl rfl rfl (by simp only [go_sem,simprocAttr,bL]) rfl ?_|refine ag hX hC hP (CB) rfl rfl rfl (by simp only [go_sem,simprocAttr,bL]) rfl ?_|(refine b9 hX hC hP [(10000,300),(10001,301),(10002,302)] (hB) rfl rfl rfl ?_ ?_ ?_ ?_ ?_ ?_ ?_ ?_ ?_ ?_ ?_ ?_ ?_ ?_;(focus (simp only [go_sem,simprocAttr,bL];done));(iterate 12 (focus (simp [go_sem,simprocAttr,bL];done)));try simp only [List.map_cons,List.map_nil]));try simp only [go_sem,simprocAttr,bL])|((with_reducible refine oD ?_ ?_);kernel_rfl)|((with_reducible intro h);try simp only [go_sem,simprocAttr,bL] at h)|omega|intro h)
 (refine mZ hX 300 6 303 (.own 3 1 []) rfl rfl rfl (by simp only [go_sem,simprocAttr,bL]) (by decide) (by simp [go_sem,simprocAttr,bL]) ⟨3,1,by decide, .inl rfl⟩ ?_;simp only [List.set_cons_zero,List.set_cons_succ,go_sem,simprocAttr,bL])
 (refine mZ hX 300 7 304 (.own 25 1 []) rfl rfl rfl (by simp only [go_sem,simprocAttr,bL]) (by decide) (by simp [go_sem,simprocAttr,bL]) ⟨25,1,by decide, .inl rfl⟩ ?_;simp only [List.set_cons_zero,List.set_cons_succ,go_sem,simprocAttr,bL])
 have h0:UG.cU (ug g) dQ 0=⟨List.replicate g.n.toNat 0,List.replicate g.n.toNat 0,0, [], []⟩:=rfl
 have hN:UG.cU (ug g) dQ g.n.toNat=(List.range (ug g).n).foldl (UG.ko (ug g) dQ) (UG.bw (ug g)):=rfl
 refine aL (fun k:Nat=>k≤g.n.toNat) (fun k=>⟨[(3, .ptr 300 0),(16,eN g.n),(17,eN k)],ga g (UG.cU (ug g) dQ k)⟩) (fun k=>g.n.toNat - k) 0 (Nat.zero_le _) ?_ ?_
 ·rw [h0]
  refine Le.of ?_ ?_<;>simp [go_sem,simprocAttr,bL,ga]
 rintro k hk
 obtain ⟨hT,qP⟩:=UG.p6 hG cB hk
 rcases Nat.lt_or_ge k g.n.toNat with hlt|hge
 rotate_left
 ·have hb:decide ((k:Int)<g.n)=false:=decide_eq_false (by omega)
  obtain rfl:k=g.n.toNat:=by omega
  obtain ⟨Az,hne⟩:=UG.dW hG cB lX
  have k9:(UG.cU (ug g) dQ g.n.toNat).blk=UG.bF (ug g) dQ:=rfl
  have uQ:=UG.tC (G:=ug g)
  have zM:(UG.bF (ug g) dQ).length≤1000000:=by
   rw [Az.length_eq]
   have:=gY (G:=ug g)
   have:(ug g).m=g.es.length:=rfl
   omega
  have hS:=oU Az hne (by
   have h1:((ug g).aH.map gl).Nodup:=by
    have:(ug g).aH.map gl=((ug g).aH.map fun b=>b.headD 0).map fun n:Nat=>(n:Int):=by rw [List.map_map];rfl
    rw [this]
    unfold List.Nodup
    rw [List.pairwise_map]
    exact uQ.imp fun h=>by omega
   exact (Az.map gl).nodup_iff.2 h1) (by
   rw [List.pairwise_map] at uQ
   exact uQ.imp fun h=>by unfold gl;omega) (fun b hb=>by
   have h1:=Az.mem_iff.1 hb
   obtain ⟨i,r,e1,e2,_⟩:=UG.tq (UG.fM h1).1 (UG.fM h1).2
   have:(ug g).m=g.es.length:=rfl
   rw [e1]
   unfold gl
   simp only [List.headD_cons]
   omega) zM
  rw [← k9] at hS
  generalize UG.cU (ug g) dQ g.n.toNat=s1 at hS ⊢
  repeat' (first|refine Rn.p ?_|(with_reducible apply And.intro)|((first|(refine hK _ ?_;clear hK K)|with_reducible intro K hK|refine Rs.p ?_|((with_reducible first|apply oP|apply oQ);exact rfl)|(refine b9 hX hC hP [(10000,304)] (hS) rfl rfl rfl ?_ ?_ ?_ ?_ ?_ ?_ ?_ ?_ ?_ ?_ ?_ ?_ ?_ ?_;(focus (simp only [go_sem,simprocAttr,ga,hb];done));(iterate 12 (focus (simp [go_sem,simprocAttr,ga,hb];done)));try simp only [List.map_cons,List.map_nil]));try simp only [go_sem,simprocAttr,ga,hb])|((with_reducible refine oD ?_ ?_);kernel_rfl)|((with_reducible intro h);try simp only [go_sem,simprocAttr,ga,hb] at h)|omega|intro h)
 have hb:decide ((k:Int)<g.n)=true:=decide_eq_true (by omega)
 have gv:=UG.iG (G:=ug g) (so:=dQ) (k:=k)
 have hkn:k<(ug g).n:=hlt
 have hbd:=UG.w6 hG hT qP
 have E7:=fun h=>UG.uV hG hkn hT h
 have dR:decide ((((UG.cU (ug g) dQ k).num.getD k 0:Nat):Int)=0)=decide ((UG.cU (ug g) dQ k).num.getD k 0=0):=zC
 have nR:(UG.cU (ug g) dQ k).num.length=g.n.toNat:=hT.ln
 generalize UG.cU (ug g) dQ k=s at*
 generalize Dt:UG.cU (ug g) dQ (k+1)=s' at gv
 unfold UG.ko at gv
 by_cases hz:s.nm k=0
 rotate_left
 ·rw [if_neg hz] at gv
  have uc:¬s.num.getD k 0=0:=hz
  rw [decide_eq_false uc] at dR
  repeat' (first|refine Rn.p ?_|(with_reducible apply And.intro)|((first|(refine hK _ ?_;clear hK K)|with_reducible intro K hK|refine Rs.p ?_|((with_reducible first|apply oP|apply oQ);exact rfl));try simp only [go_sem,simprocAttr,ga,hb,dR,nR])|((with_reducible refine oD ?_ ?_);kernel_rfl)|((with_reducible intro h);try simp only [go_sem,simprocAttr,ga,hb,dR,nR] at h)|omega|intro h)
  refine ⟨k+1,by omega, ?_,by omega⟩
  rw [Dt,gv]
  refine Le.of ?_ ?_<;>simp [go_sem,simprocAttr,ga,hb,dR,nR]
 rw [if_pos hz] at gv
 have uc:s.num.getD k 0=0:=hz
 rw [decide_eq_true uc] at dR
 have hun:(ug g).gw s≤(ug g).n+1:=by
  unfold UG.gw
  have:=List.countP_le_length (l:=List.range (ug g).n) (p:=fun v=>decide (s.nm v=0))
  rw [List.length_range] at this
  omega
 have hV:=j0 g hm hl ((ug g).n+1) s k none [] hun (E7 hz) hbd
 rw [show vr none=(-1:Int) from rfl, ← gv] at hV
 repeat' (first|(show bJ _ (.region 9 _ _) _ _;(refine dh hX 300 6 305 303 rfl rfl rfl (by first|exact .inl rfl|exact .inr rfl) (by decide) (by decide) ?_;simp only [List.set_cons_zero,List.set_cons_succ,go_sem,simprocAttr,ga,aO,bL,hb,dR,nR]);(refine dh hX 300 7 306 304 rfl rfl rfl (by first|exact .inl rfl|exact .inr rfl) (by decide) (by decide) ?_;simp only [List.set_cons_zero,List.set_cons_succ,go_sem,simprocAttr,ga,aO,bL,hb,dR,nR]))|refine Rn.p ?_|(with_reducible apply And.intro)|((first|(refine hK _ ?_;clear hK K)|with_reducible intro K hK|refine Rs.p ?_|((with_reducible first|apply oP|apply oQ);exact rfl)|(refine b9 hX hC hP [(10000,300),(10001,301),(10002,302),(10003,303),(10004,304),(10005,305),(10006,306)] (hV) rfl rfl rfl ?_ ?_ ?_ ?_ ?_ ?_ ?_ ?_ ?_ ?_ ?_ ?_ ?_ ?_;(focus (simp only [go_sem,simprocAttr,ga,aO,bL,hb,dR,nR];done));(iterate 12 (focus (simp [go_sem,simprocAttr,ga,aO,bL,hb,dR,nR];done)));try simp only [List.map_cons,List.map_nil]));try simp only [go_sem,simprocAttr,ga,aO,bL,hb,dR,nR])|((with_reducible refine oD ?_ ?_);kernel_rfl)|((with_reducible intro h);try simp only [go_sem,simprocAttr,ga,aO,bL,hb,dR,nR] at h)|omega|intro h)
 refine ⟨k+1,by omega, ?_,by omega⟩
 rw [Dt]
 refine Le.of ?_ ?_<;>simp [go_sem,simprocAttr,ga,aO,bL,hb,dR,nR]
end Go.Ab
end
section
namespace Go.Ab
open Go.Proofs
attribute [local congr] ACall.congr gd.congr Nx.congr
set_option maxRecDepth 20000
set_option maxHeartbeats 16000000
def nS (g:Gr) (L:List (List Nat)) (k:Nat) (P:Nat→Bool) (v:Nat):List Nat:=((List.range k).filter fun q=>(ug g).cF (L.getD q []) v)++if P v=true then [k] else []
def aW (g:Gr) (L:List (List Nat)) (k:Nat) (P:Nat→Bool):List (List (List D)):=(List.range g.n.toNat).map fun v=>(nS g L k P v).map rN
def tD (g:Gr) (L:List (List Nat)):List (List Nat):=(List.range g.n.toNat).map fun v=>(List.range L.length).filter fun q=>(ug g).cF (L.getD q []) v
theorem eD {g:Gr} {L:List (List Nat)} {k:Nat} {P:Nat→Bool} :(aW g L k P).length=g.n.toNat:=by simp [aW]
theorem fV {g:Gr} {L:List (List Nat)} {k v:Nat} {P:Nat→Bool} (hv:v<g.n.toNat):(aW g L k P)[v]? =some ((nS g L k P v).map rN):=by
 simp [aW,List.getElem?_range hv]
theorem uW {g:Gr} {L:List (List Nat)} {k v:Nat} {P:Nat→Bool} :k∈nS g L k P v↔P v=true:=by
 unfold nS
 rw [List.mem_append,List.mem_filter,List.mem_range]
 constructor
 ·rintro (⟨h,_⟩|h)
  ·omega
  ·split at h
   ·assumption
   ·simp at h
 ·intro h
  right
  rw [if_pos h];simp
theorem uX {g:Gr} {L:List (List Nat)} {k v:Nat} {P:Nat→Bool} :(nS g L k P v).length≤k+1:=by
 unfold nS
 rw [List.length_append]
 have:=List.length_filter_le (fun q=>(ug g).cF (L.getD q []) v) (List.range k)
 rw [List.length_range] at this
 have h2:(if P v=true then [k] else []).length≤1:=by split<;>simp
 omega
theorem ck {g:Gr} {L:List (List Nat)} {k:Nat} {P Q:Nat→Bool} (h:∀v,P v=Q v):aW g L k P=aW g L k Q:=by
 have:P=Q:=funext h
 rw [this]
theorem qG {g:Gr} {L:List (List Nat)} {k x:Nat} {P:Nat→Bool} (hx:x<g.n.toNat) (hP:P x=false):(aW g L k P).set x ((nS g L k P x).map rN++ [[.sc (.int .i64 (k:Int))]])=aW g L k fun v=>P v||decide (v=x):=by
 refine List.ext_getElem? fun i=> ?_
 rw [List.getElem?_set,eD]
 by_cases hi:i<g.n.toNat
 ·rw [fV hi,fV hi]
  by_cases e:x=i
  ·subst e
   rw [if_pos rfl,if_pos hx]
   unfold nS
   simp [hP,rN]
  ·rw [if_neg e]
   unfold nS
   have:decide (i=x)=false:=decide_eq_false (Ne.symm e)
   simp [this]
 ·rw [List.getElem?_eq_none (by rw [eD];omega),List.getElem?_eq_none (by rw [eD];omega)]
  split
  ·omega
  ·rfl
theorem oZ {g:Gr} {L:List (List Nat)} :List.replicate g.n.toNat []=aW g L 0 fun _=>false:=by
 refine List.ext_getElem? fun i=> ?_
 by_cases hi:i<g.n.toNat
 ·rw [fV hi];simp [hi,nS]
 ·rw [List.getElem?_eq_none (by simp;omega),List.getElem?_eq_none (by rw [eD];omega)]
theorem nF {g:Gr} {L:List (List Nat)} {k:Nat} :aW g L k (fun v=>(ug g).cF (L.getD k []) v)=aW g L (k+1) fun _=>false:=by
 unfold aW nS
 refine List.map_congr_left fun v _=> ?_
 show (((List.range k).filter fun q=>(ug g).cF (L.getD q []) v)++(if (ug g).cF (L.getD k []) v=true then [k] else [])).map rN=(((List.range (k+1)).filter fun q=>(ug g).cF (L.getD q []) v)++(if false=true then [k+1] else [])).map rN
 rw [List.range_succ,List.filter_append,List.filter_cons]
 generalize (ug g).cF (L.getD k []) v=q
 cases q<;>simp
theorem qH {g:Gr} {L:List (List Nat)} :(aW g L L.length fun _=>false).map (fun r=> [D.sl 1 r])=(tD g L).map kr:=by
 unfold aW tD nS
 rw [List.map_map,List.map_map]
 refine List.map_congr_left fun v _=> ?_
 simp [kr,sN]
theorem j3 (ps:List Nat) (x:Nat) (hl:ps.length≤9223372036854775807):Spec Try.prog 50 (Args [.d (sN ps),eN x]) [] (eB (decide (x∈ps))) []:=by
 have h:=jS (nI ps) (x:Int) (by rw [nI,List.length_map];exact hl)
 have e:decide ((x:Int)∈nI ps)=decide (x∈ps):=by
  rw [decide_eq_decide]
  unfold nI
  rw [List.mem_map]
  constructor
  ·rintro ⟨y,hy,e⟩
   have:y=x:=by omega
   rw [← this];exact hy
  ·intro h;exact ⟨x,h,rfl⟩
 rw [← kP,e] at h
 exact h
theorem tE (g:Gr) (hm:aV g=true) (L:List (List Nat)) (hL:∀b∈L,(∀i∈b,i<g.es.length)∧b.length≤1000) (Du:L.length≤1000):Spec Try.prog 46 (Args [eG g, .d (sNL L)]) [] (.d (sNL (tD g L))) []:=by
 have hn:=fJ hm
 (refine Spec.hd (C:=T.cfg [] [14]) (rs:= [.t 4]) (T.aK _ _) Try.func46 rfl rfl Try.ntmps46 Try.results46 (by simp [AObj.isNest]) (by simp [AObj.isNest]) (by kernel_rfl) T.mixed fun X hX hP hC cE ij=> ?_)
 repeat' (first|refine Rn.p ?_|(with_reducible apply And.intro)|((first|(refine hK _ ?_;clear hK K)|with_reducible intro K hK|refine Rs.p ?_|((with_reducible first|apply oP|apply oQ);exact rfl));try simp only [go_sem,simprocAttr])|((with_reducible refine oD ?_ ?_);first|(focus (simp only [iK,bE,bH,meets,cw,bU,gr,aQ,cH,cz,Rec.rs,Rec.fq,Rec.mN,aU,Rec.aJ,Rec.names,KV.ids,dA,dB,dD,dF,dG,dH,List.zip_cons_cons,List.zip_nil_right,List.zipIdx_cons,List.zipIdx_nil,List.all_cons,List.all_nil,List.contains_cons,List.contains_nil,List.any_cons,List.any_nil,List.flatMap_nil,List.reverse_cons,List.reverse_nil,dM,eH,Region.binds,go_sem,simprocAttr];done))|kernel_rfl)|((with_reducible intro h);try simp only [go_sem,simprocAttr] at h)|omega|intro h)
 refine mY hX 14 (by simp [go_sem,simprocAttr];exact ⟨rfl,rfl,rfl,rfl⟩) (by decide) (by simp [go_sem,simprocAttr]) (by simp [go_sem,simprocAttr]) ?_
 simp only [go_sem,simprocAttr]
 refine aL (fun k:Nat=>k≤L.length) (fun k=>⟨[(2, .ptr 2 0),(5, .ref 14),(15, .d (sNL L)),(16,eN L.length),(17,eN k)], [(14, .nest 25 3 1 (aW g L k fun _=>false) none),(2, .box [eN g.n, .d (sE g.es)])]⟩) (fun k=>L.length - k) 0 (Nat.zero_le _) ?_ ?_
 ·rw [← oZ]
  refine Le.of ?_ ?_<;>simp [go_sem,simprocAttr]
 rintro k hk
 rcases Nat.lt_or_ge k L.length with hlt|hge
 rotate_left
 ·have hb:decide ((k:Int)<(L.length:Int))=false:=decide_eq_false (by omega)
  obtain rfl:k=L.length:=by omega
  (refine ng hX 14 rfl (by decide) ?_;simp only [go_sem,simprocAttr,hb])
  rw [qH]
  repeat' (first|refine Rn.p ?_|(with_reducible apply And.intro)|((first|(refine hK _ ?_;clear hK K)|with_reducible intro K hK|refine Rs.p ?_|((with_reducible first|apply oP|apply oQ);exact rfl));try simp only [go_sem,simprocAttr,hb])|((with_reducible refine oD ?_ ?_);first|(focus (simp only [iK,bE,bH,meets,cw,bU,gr,aQ,cH,cz,Rec.rs,Rec.fq,Rec.mN,aU,Rec.aJ,Rec.names,KV.ids,dA,dB,dD,dF,dG,dH,List.zip_cons_cons,List.zip_nil_right,List.zipIdx_cons,List.zipIdx_nil,List.all_cons,List.all_nil,List.contains_cons,List.contains_nil,List.any_cons,List.any_nil,List.flatMap_nil,List.reverse_cons,List.reverse_nil,dM,eH,Region.binds,go_sem,simprocAttr,hb];done))|kernel_rfl)|((with_reducible intro h);try simp only [go_sem,simprocAttr,hb] at h)|omega|intro h)
 have hb:decide ((k:Int)<(L.length:Int))=true:=decide_eq_true (by omega)
 obtain ⟨Dv,k9⟩:=hL _ (cO [] hlt)
 have hblk:=nF (g:=g) (L:=L) (k:=k)
 have hstart:(aW g L k fun _=>false)=aW g L k fun v=>(ug g).cF ((L.getD k []).take 0) v:=ck fun v=>rfl
 rw [hstart]
 obtain ⟨b,qU⟩:∃b,L.getD k []=b:=⟨_,rfl⟩
 rw [qU] at Dv k9 hblk ⊢
 repeat' (first|refine Rn.p ?_|(with_reducible apply And.intro)|((first|(refine hK _ ?_;clear hK K)|with_reducible intro K hK|refine Rs.p ?_|((with_reducible first|apply oP|apply oQ);exact rfl));try simp only [go_sem,simprocAttr,hb,qU])|((with_reducible refine oD ?_ ?_);first|(focus (simp only [iK,bE,bH,meets,cw,bU,gr,aQ,cH,cz,Rec.rs,Rec.fq,Rec.mN,aU,Rec.aJ,Rec.names,KV.ids,dA,dB,dD,dF,dG,dH,List.zip_cons_cons,List.zip_nil_right,List.zipIdx_cons,List.zipIdx_nil,List.all_cons,List.all_nil,List.contains_cons,List.contains_nil,List.any_cons,List.any_nil,List.flatMap_nil,List.reverse_cons,List.reverse_nil,dM,eH,Region.binds,go_sem,simprocAttr,hb,qU];done))|kernel_rfl)|((with_reducible intro h);try simp only [go_sem,simprocAttr,hb,qU] at h)|omega|intro h)
 clear hb
 refine aL (fun j:Nat=>j≤b.length) (fun j=>⟨[(2, .ptr 2 0),(5, .ref 14),(15, .d (sNL L)),(16,eN L.length),(17,eN k),(6,eN k),(22, .d (sN b)),(23,eN b.length),(24,eN j)], [(14, .nest 25 3 1 (aW g L k fun v=>(ug g).cF (b.take j) v) none),(2, .box [eN g.n, .d (sE g.es)])]⟩) (fun j=>b.length - j) 0 (Nat.zero_le _) ?_ ?_
 ·refine Le.of ?_ ?_<;>simp [go_sem,simprocAttr]
 rintro j hj
 rcases Nat.lt_or_ge j b.length with hlj|Dw
 rotate_left
 ·have hb:decide ((j:Int)<(b.length:Int))=false:=decide_eq_false (by omega)
  obtain rfl:j=b.length:=by omega
  rw [List.take_length,hblk]
  repeat' (first|refine Rn.p ?_|(with_reducible apply And.intro)|((first|(refine hK _ ?_;clear hK K)|with_reducible intro K hK|refine Rs.p ?_|((with_reducible first|apply oP|apply oQ);exact rfl));try simp only [go_sem,simprocAttr,hb])|((with_reducible refine oD ?_ ?_);first|(focus (simp only [iK,bE,bH,meets,cw,bU,gr,aQ,cH,cz,Rec.rs,Rec.fq,Rec.mN,aU,Rec.aJ,Rec.names,KV.ids,dA,dB,dD,dF,dG,dH,List.zip_cons_cons,List.zip_nil_right,List.zipIdx_cons,List.zipIdx_nil,List.all_cons,List.all_nil,List.contains_cons,List.contains_nil,List.any_cons,List.any_nil,List.flatMap_nil,List.reverse_cons,List.reverse_nil,dM,eH,Region.binds,go_sem,simprocAttr,hb];done))|kernel_rfl)|((with_reducible intro h);try simp only [go_sem,simprocAttr,hb] at h)|omega|intro h)
  refine ⟨k+1,by omega, ?_,by omega⟩
  refine Le.of ?_ ?_<;>simp [go_sem,simprocAttr,hb]
 have hb:decide ((j:Int)<(b.length:Int))=true:=decide_eq_true (by omega)
 obtain ⟨i,hi⟩:∃i,b.getD j 0=i:=⟨_,rfl⟩
 have him:i<g.es.length:=Dv i (by rw [← hi];exact cO 0 hlj)
 obtain ⟨mE,pJ⟩:=iC hm him
 obtain ⟨u,hu⟩:∃u:Nat,(g.es.getD i (0,0)).1=u:=⟨(g.es.getD i (0,0)).1.toNat,by omega⟩
 obtain ⟨w,hw⟩:∃v:Nat,(g.es.getD i (0,0)).2=v:=⟨(g.es.getD i (0,0)).2.toNat,by omega⟩
 have ic:(ug g).T i=u:=by show ((g.es.getD i (0,0)).1).toNat=u;rw [hu];rfl
 have hhi:(ug g).H i=w:=by show ((g.es.getD i (0,0)).2).toNat=w;rw [hw];rfl
 have hun:u<g.n.toNat:=by omega
 have hwn:w<g.n.toNat:=by omega
 have A9:∀v,(ug g).cF (b.take (j+1)) v=(((ug g).cF (b.take j) v||decide (v=u))||decide (v=w)):=fun v=>by
  unfold UG.cF
  rw [kN 0 hlj,hi,ic,hhi,Bool.or_assoc]
  congr 2
  ·exact decide_eq_decide.2 eq_comm
  ·exact decide_eq_decide.2 eq_comm
 generalize CC:(fun v=>(ug g).cF (b.take j) v)=P0
 have gv:(aW g L k fun v=>(ug g).cF (b.take (j+1)) v)=aW g L k fun v=>((P0 v||decide (v=u))||decide (v=w)):=ck fun v=>by rw [A9 v, ← CC]
 obtain ⟨PE,zN⟩:∃PE:Nat→Nat→Bool,PE=fun e v=>if e=0 then P0 v else if e=1 then (P0 v||decide (v=u)) else ((P0 v||decide (v=u))||decide (v=w)):=⟨_,rfl⟩
 have xC:aW g L k P0=aW g L k (PE 0):=ck fun v=>by rw [zN];rfl
 have Ao:aW g L k (PE 2)=aW g L k fun v=>((P0 v||decide (v=u))||decide (v=w)):=ck fun v=>by rw [zN];rfl
 rw [← Ao] at gv
 rw [xC]
 repeat' (first|refine Rn.p ?_|(with_reducible apply And.intro)|((first|(refine hK _ ?_;clear hK K)|with_reducible intro K hK|refine Rs.p ?_|((with_reducible first|apply oP|apply oQ);exact rfl));try simp only [go_sem,simprocAttr,hb,hi,hu,hw])|((with_reducible refine oD ?_ ?_);first|(focus (simp only [iK,bE,bH,meets,cw,bU,gr,aQ,cH,cz,Rec.rs,Rec.fq,Rec.mN,aU,Rec.aJ,Rec.names,KV.ids,dA,dB,dD,dF,dG,dH,List.zip_cons_cons,List.zip_nil_right,List.zipIdx_cons,List.zipIdx_nil,List.all_cons,List.all_nil,List.contains_cons,List.contains_nil,List.any_cons,List.any_nil,List.flatMap_nil,List.reverse_cons,List.reverse_nil,dM,eH,Region.binds,go_sem,simprocAttr,hb,hi,hu,hw];done))|kernel_rfl)|((with_reducible intro h);try simp only [go_sem,simprocAttr,hb,hi,hu,hw] at h)|omega|intro h)
 clear hb
 refine aL (fun e:Nat=>e≤2) (fun e=>⟨[(2, .ptr 2 0),(5, .ref 14),(15, .d (sNL L)),(16,eN L.length),(17,eN k),(6,eN k),(22, .d (sN b)),(23,eN b.length),(24,eN j),(40, .agg [eN u,eN w]),(41,eN e)], [(14, .nest 25 3 1 (aW g L k (PE e)) none),(2, .box [eN g.n, .d (sE g.es)])]⟩) (fun e=>2 - e) 0 (by omega) ?_ ?_
 ·refine Le.of ?_ ?_<;>simp [go_sem,simprocAttr]
 rintro e he
 rcases Nat.lt_or_ge e 2 with hle|CD
 rotate_left
 ·have hb:decide ((e:Int)<2)=false:=decide_eq_false (by omega)
  obtain rfl:e=2:=by omega
  repeat' (first|refine Rn.p ?_|(with_reducible apply And.intro)|((first|(refine hK _ ?_;clear hK K)|with_reducible intro K hK|refine Rs.p ?_|((with_reducible first|apply oP|apply oQ);exact rfl));try simp only [go_sem,simprocAttr,hb])|((with_reducible refine oD ?_ ?_);first|(focus (simp only [iK,bE,bH,meets,cw,bU,gr,aQ,cH,cz,Rec.rs,Rec.fq,Rec.mN,aU,Rec.aJ,Rec.names,KV.ids,dA,dB,dD,dF,dG,dH,List.zip_cons_cons,List.zip_nil_right,List.zipIdx_cons,List.zipIdx_nil,List.all_cons,List.all_nil,List.contains_cons,List.contains_nil,List.any_cons,List.any_nil,List.flatMap_nil,List.reverse_cons,List.reverse_nil,dM,eH,Region.binds,go_sem,simprocAttr,hb];done))|kernel_rfl)|((with_reducible intro h);try simp only [go_sem,simprocAttr,hb] at h)|omega|intro h)
  refine ⟨j+1,by omega, ?_,by omega⟩
  rw [gv]
  refine Le.of ?_ ?_<;>simp [go_sem,simprocAttr,hb]
 have hb:decide ((e:Int)<2)=true:=decide_eq_true (by omega)
 obtain ⟨x,hx⟩:∃x:Nat,([eN u,eN w][e]? :Option AV)=some (eN x)∧x<g.n.toNat∧∀v,PE (e+1) v=(PE e v||decide (v=x)):=by
  match e,hle with
  |0,_=>exact ⟨u,rfl,hun,fun v=>by rw [zN];rfl⟩
  |1,_=>exact ⟨w,rfl,hwn,fun v=>by rw [zN];rfl⟩
 obtain ⟨hx1,yY,CE⟩:=hx
 simp only [eN] at hx1
 have fW:=fV (g:=g) (L:=L) (k:=k) (P:=PE e) yY
 have hrl:=eD (g:=g) (L:=L) (k:=k) (P:=PE e)
 have F2:=uX (g:=g) (L:=L) (k:=k) (v:=x) (P:=PE e)
 have AA:=j3 (nS g L k (PE e) x) k (by omega)
 have E8:decide (k∈nS g L k (PE e) x)=PE e x:=by
  rw [Bool.eq_iff_iff,decide_eq_true_eq];exact uW
 rw [E8] at AA
 have zO:=qG (g:=g) (L:=L) (k:=k) (P:=PE e) yY
 have hsame:PE e x=true→aW g L k (PE (e+1))=aW g L k (PE e):=fun h=>ck fun v=>by
  rw [CE]
  by_cases e1:v=x
  ·rw [e1,h];rfl
  ·rw [decide_eq_false e1,Bool.or_false]
 have hnew:PE e x=false→aW g L k (PE (e+1))=(aW g L k (PE e)).set x ((nS g L k (PE e) x).map rN++ [[.sc (.int .i64 (k:Int))]]):=fun h=>by
  rw [zO h]
  exact ck CE
 clear zO CE xC Ao zN
 generalize AB:aW g L k (PE (e+1))=R1 at hsame hnew
 have Dq:(x:Int)=x:=rfl
 generalize hq:PE e x=q at AA hsame hnew
 generalize aW g L k (PE e)=R0 at*
 generalize nS g L k (PE e) x=r0 at*
 cases q with
 |true=>
  rw [hsame rfl] at AB
  repeat' (first|refine Rn.p ?_|(with_reducible apply And.intro)|((first|(refine hK _ ?_;clear hK K)|with_reducible intro K hK|refine Rs.p ?_|((with_reducible first|apply oP|apply oQ);exact rfl)|(refine nh hX hC hP 14 (AA) rfl rfl rfl rfl ?_ (by decide) ?_ ?_ rfl ?_;(iterate 2 (focus (simp only [go_sem,simprocAttr,hb,hx1,fW,hrl,Nat.mul_one];done)));(focus (intro a ha;simp only [List.mem_cons,List.not_mem_nil,or_false] at ha;exact ⟨_,ha⟩))));try simp only [go_sem,simprocAttr,hb,hx1,fW,hrl,Nat.mul_one])|((with_reducible refine oD ?_ ?_);first|(focus (simp only [iK,bE,bH,meets,cw,bU,gr,aQ,cH,cz,Rec.rs,Rec.fq,Rec.mN,aU,Rec.aJ,Rec.names,KV.ids,dA,dB,dD,dF,dG,dH,List.zip_cons_cons,List.zip_nil_right,List.zipIdx_cons,List.zipIdx_nil,List.all_cons,List.all_nil,List.contains_cons,List.contains_nil,List.any_cons,List.any_nil,List.flatMap_nil,List.reverse_cons,List.reverse_nil,dM,eH,Region.binds,go_sem,simprocAttr,hb,hx1,fW,hrl,Nat.mul_one];done))|kernel_rfl)|((with_reducible intro h);try simp only [go_sem,simprocAttr,hb,hx1,fW,hrl,Nat.mul_one] at h)|omega|intro h)
  refine ⟨e+1,by omega, ?_,by omega⟩
  rw [AB]
  refine Le.of ?_ ?_<;>simp [go_sem,simprocAttr,hb,hx1,fW,hrl,Nat.mul_one]
 |false=>
  rw [hnew rfl] at AB
  repeat' (first|refine Rn.p ?_|(with_reducible apply And.intro)|((first|(refine hK _ ?_;clear hK K)|with_reducible intro K hK|refine Rs.p ?_|((with_reducible first|apply oP|apply oQ);exact rfl)|(refine nh hX hC hP 14 (AA) rfl rfl rfl rfl ?_ (by decide) ?_ ?_ rfl ?_;(iterate 2 (focus (simp only [go_sem,simprocAttr,hb,hx1,fW,hrl,Nat.mul_one];done)));(focus (intro a ha;simp only [List.mem_cons,List.not_mem_nil,or_false] at ha;exact ⟨_,ha⟩))));try simp only [go_sem,simprocAttr,hb,hx1,fW,hrl,Nat.mul_one])|((with_reducible refine oD ?_ ?_);first|(focus (simp only [iK,bE,bH,meets,cw,bU,gr,aQ,cH,cz,Rec.rs,Rec.fq,Rec.mN,aU,Rec.aJ,Rec.names,KV.ids,dA,dB,dD,dF,dG,dH,List.zip_cons_cons,List.zip_nil_right,List.zipIdx_cons,List.zipIdx_nil,List.all_cons,List.all_nil,List.contains_cons,List.contains_nil,List.any_cons,List.any_nil,List.flatMap_nil,List.reverse_cons,List.reverse_nil,dM,eH,Region.binds,go_sem,simprocAttr,hb,hx1,fW,hrl,Nat.mul_one];done))|kernel_rfl)|((with_reducible intro h);try simp only [go_sem,simprocAttr,hb,hx1,fW,hrl,Nat.mul_one] at h)|omega|intro h)
  refine ⟨e+1,by omega, ?_,by omega⟩
  rw [AB]
  refine Le.of ?_ ?_<;>simp [go_sem,simprocAttr,hb,hx1,fW,hrl,Nat.mul_one]
end Go.Ab
end
section
namespace Go.Ab
open Go.Proofs
attribute [local congr] ACall.congr gd.congr Nx.congr
set_option maxRecDepth 20000
set_option maxHeartbeats 16000000
theorem tF {g:Gr} {L:List (List Nat)} {v:Nat} :∀ {k:Nat},k≤L.length→((List.range k).filter fun q=>(ug g).cF (L.getD q []) v).length=jX g L v k
 |0,_=>by simp [jX]
 |k+1,hk=>by
  rw [qB (by omega),List.range_succ,List.filter_append,List.length_append,tF (by omega),List.filter_cons]
  generalize (ug g).cF (L.getD k []) v=q
  cases q<;>simp
theorem w9 {g:Gr} {L:List (List Nat)} {v:Nat} (hv:v<g.n.toNat):(tD g L).getD v []=(List.range L.length).filter fun q=>(ug g).cF (L.getD q []) v:=by
 simp only [tD,List.getD_eq_getElem?_getD,List.getElem?_map,List.getElem?_range hv,Option.map_some,Option.getD_some]
theorem uY {g:Gr} {L:List (List Nat)} :(tD g L).length=g.n.toNat:=by simp [tD]
noncomputable def xb (g:Gr):List Nat:=if (aV g&&aR g)=true then kO g else []
theorem hU {g:Gr} (h:(aV g&&aR g)=true):qW g=(ug g).aH:=by unfold qW;rw [if_pos h]
theorem xd {g:Gr} (h:(aV g&&aR g)=false):qW g= []:=by unfold qW;rw [if_neg (by rw [h];decide)]
theorem l6 {g:Gr} (h:(aV g&&aR g)=true):xb g=kO g:=by unfold xb;rw [if_pos h]
theorem xe {g:Gr} (h:(aV g&&aR g)=false):xb g= []:=by unfold xb;rw [if_neg (by rw [h];decide)]
theorem tG {g:Gr} (h:(ug g).aH= []):kO g= []:=by
 unfold kO ff
 rw [h]
 refine List.filter_eq_nil_iff.2 fun x _=> ?_
 simp [jX]
theorem o3 (g:Gr):∀b∈(ug g).aH,(∀i∈b,i<g.es.length)∧b.length≤g.es.length:=fun b hb=>⟨fun i hi=>UG.eZ hb hi,p4 hb⟩
theorem qI (g:Gr) (hlen:g.es.length≤9223372036854775807):Spec Try.prog 19 (Args [eG g]) [] (.d (sN (xb g))) []:=by
 have ud:=dS g hlen
 have done:qW g= []→xb g= []:=fun h=>by
  cases hq:(aV g&&aR g) with
  |true=>rw [l6 hq];rw [hU hq] at h;exact tG h
  |false=>exact xe hq
 by_cases hz:qW g= []
 ·rw [done hz]
  rw [hz] at ud
  (refine Spec.hd (C:=T.cfg [] []) (rs:= [.t 2]) (T.aK _ _) Try.func19 rfl rfl Try.ntmps19 Try.results19 (by simp [AObj.isNest]) (by simp [AObj.isNest]) (by kernel_rfl) T.mixed fun X hX hP hC cE ij=> ?_)
  repeat' (first|refine Rn.p ?_|(with_reducible apply And.intro)|((first|(refine hK _ ?_;clear hK K)|with_reducible intro K hK|refine Rs.p ?_|((with_reducible first|apply oP|apply oQ);exact rfl)|refine ag hX hC hP (ud) rfl rfl rfl (by simp only [go_sem,simprocAttr]) rfl ?_);try simp only [go_sem,simprocAttr])|((with_reducible refine oD ?_ ?_);kernel_rfl)|((with_reducible intro h);try simp only [go_sem,simprocAttr] at h)|omega|intro h)
 have hq:(aV g&&aR g)=true:=by
  cases hq:(aV g&&aR g) with
  |true=>rfl
  |false=>exact absurd (xd hq) hz
 rw [l6 hq]
 rw [hU hq] at ud hz
 rw [Bool.and_eq_true] at hq
 obtain ⟨hm,hl⟩:=hq
 have hn:=fJ hm
 have Du:(ug g).aH.length≤g.es.length:=gY
 have E9:=tE g hm (ug g).aH (fun b hb=>⟨(o3 g b hb).1,by have:=(o3 g b hb).2;omega⟩) (by omega)
 have pR:decide (((ug g).aH.length:Int)=0)=false:=decide_eq_false (by
  intro e
  exact hz (List.eq_nil_of_length_eq_zero (by omega)))
 have mc:ff g g.n.toNat=kO g:=rfl
 have k9:=uY (g:=g) (L:=(ug g).aH)
 (refine Spec.hd (C:=T.cfg [] []) (rs:= [.t 2]) (T.aK _ _) Try.func19 rfl rfl Try.ntmps19 Try.results19 (by simp [AObj.isNest]) (by simp [AObj.isNest]) (by kernel_rfl) T.mixed fun X hX hP hC cE ij=> ?_)
 repeat' (first|(show bJ _ (.seq (.region 4 _ _) _) _ _;(refine uJ hX 2 200 (.tip 3 1 []) ?_ ?_ (by decide) ⟨3,1,by decide, .inr rfl⟩ ?_;(iterate 2 (focus (simp only [go_sem,simprocAttr,pR];done)));simp only [go_sem,simprocAttr,pR]))|refine Rn.p ?_|(with_reducible apply And.intro)|((first|(refine hK _ ?_;clear hK K)|with_reducible intro K hK|refine Rs.p ?_|((with_reducible first|apply oP|apply oQ);exact rfl)|refine ag hX hC hP (ud) rfl rfl rfl (by simp only [go_sem,simprocAttr,pR]) rfl ?_|refine ag hX hC hP (E9) rfl rfl rfl (by simp only [go_sem,simprocAttr,pR]) rfl ?_);try simp only [go_sem,simprocAttr,pR])|((with_reducible refine oD ?_ ?_);kernel_rfl)|((with_reducible intro h);try simp only [go_sem,simprocAttr,pR] at h)|omega|intro h)
 refine aL (fun k:Nat=>k≤g.n.toNat) (fun k=>⟨[(2, .ref 200),(13, .d (sNL (tD g (ug g).aH))),(14,eN g.n.toNat),(15,eN k)], [(200, .tip 3 1 ((ff g k).map rN))]⟩) (fun k=>g.n.toNat - k) 0 (Nat.zero_le _) ?_ ?_
 ·refine Le.of ?_ ?_<;>simp [go_sem,simprocAttr,pR,ff,k9]
 rintro k hk
 rcases Nat.lt_or_ge k g.n.toNat with hlt|hge
 rotate_left
 ·have hb:decide ((k:Int)<(g.n.toNat:Int))=false:=decide_eq_false (by omega)
  obtain rfl:k=g.n.toNat:=by omega
  rw [mc]
  repeat' (first|refine Rn.p ?_|(with_reducible apply And.intro)|((first|(refine hK _ ?_;clear hK K)|with_reducible intro K hK|refine Rs.p ?_|((with_reducible first|apply oP|apply oQ);exact rfl));try simp only [go_sem,simprocAttr,hb])|((with_reducible refine oD ?_ ?_);kernel_rfl)|((with_reducible intro h);try simp only [go_sem,simprocAttr,hb] at h)|omega|intro h)
 have hb:decide ((k:Int)<(g.n.toNat:Int))=true:=decide_eq_true (by omega)
 have gv:=oM (g:=g) (k:=k)
 have bD:=qC (g:=g) (k:=k)
 have oT:=w9 (g:=g) (L:=(ug g).aH) hlt
 have qP:=tF (g:=g) (L:=(ug g).aH) (v:=k) (Nat.le_refl _)
 rw [← oT] at qP
 rw [← qP] at gv
 have hdc:decide ((1:Int)<((((tD g (ug g).aH).getD k []).length:Nat):Int))=decide (1<((tD g (ug g).aH).getD k []).length):=by rw [decide_eq_decide];omega
 generalize ff g k=C0 at gv bD ⊢
 generalize hrw:(tD g (ug g).aH).getD k []=r0 at gv hdc
 by_cases hc:1<r0.length
 ·rw [if_pos hc] at gv
  rw [decide_eq_true hc] at hdc
  repeat' (first|(show bJ _ (.region 9 _ _) _ _;(refine wo hX 2 26 200 (by simp only [go_sem,simprocAttr,hb,hrw,hdc,k9]) rfl (by first|exact .inl rfl|exact .inr rfl) (by decide) ?_;simp only [go_sem,simprocAttr,hb,hrw,hdc,k9]))|refine Rn.p ?_|(with_reducible apply And.intro)|((first|(refine hK _ ?_;clear hK K)|with_reducible intro K hK|refine Rs.p ?_|((with_reducible first|apply oP|apply oQ);exact rfl));try simp only [go_sem,simprocAttr,hb,hrw,hdc,k9])|((with_reducible refine oD ?_ ?_);kernel_rfl)|((with_reducible intro h);try simp only [go_sem,simprocAttr,hb,hrw,hdc,k9] at h)|omega|intro h)
  refine ⟨k+1,by omega, ?_,by omega⟩
  rw [gv]
  refine Le.of ?_ ?_<;>simp [go_sem,simprocAttr,hb,hrw,hdc,k9,rN]
 ·rw [if_neg hc] at gv
  rw [decide_eq_false hc] at hdc
  repeat' (first|refine Rn.p ?_|(with_reducible apply And.intro)|((first|(refine hK _ ?_;clear hK K)|with_reducible intro K hK|refine Rs.p ?_|((with_reducible first|apply oP|apply oQ);exact rfl));try simp only [go_sem,simprocAttr,hb,hrw,hdc,k9])|((with_reducible refine oD ?_ ?_);kernel_rfl)|((with_reducible intro h);try simp only [go_sem,simprocAttr,hb,hrw,hdc,k9] at h)|omega|intro h)
  refine ⟨k+1,by omega, ?_,by omega⟩
  rw [gv]
  refine Le.of ?_ ?_<;>simp [go_sem,simprocAttr,hb,hrw,hdc,k9]
theorem tH (g:Gr) (hlen:g.es.length≤9223372036854775807):Spec Try.prog 18 (Args [eG g]) [] (eB (!(aV g&&aR g))) []:=by
 have hM:=nk g (by omega)
 have hnl:aR g= !(g.es.any fun e=>decide (e.1=e.2)):=rfl
 obtain ⟨P,Dx⟩:∃P:Edge→Bool,P=fun e=>decide (e.1=e.2):=⟨_,rfl⟩
 rw [← Dx] at hnl
 (refine Spec.hd (C:=T.cfg [] []) (rs:= [.t 2]) (T.aK _ _) Try.func18 rfl rfl Try.ntmps18 Try.results18 (by simp [AObj.isNest]) (by simp [AObj.isNest]) (by kernel_rfl) T.mixed fun X hX hP hC cE ij=> ?_)
 repeat' (first|refine Rn.p ?_|(with_reducible apply And.intro)|((first|(refine hK _ ?_;clear hK K)|with_reducible intro K hK|refine Rs.p ?_|((with_reducible first|apply oP|apply oQ);exact rfl)|refine ag hX hC hP (hM) rfl rfl rfl (by simp only [go_sem,simprocAttr]) rfl ?_);try simp only [go_sem,simprocAttr])|((with_reducible refine oD ?_ ?_);kernel_rfl)|((with_reducible intro h);try simp only [go_sem,simprocAttr] at h)|omega|intro h)
 refine aL (fun k:Nat=>k≤g.es.length∧(g.es.take k).any P=false) (fun k=>⟨[(1, .ptr 1 0),(6, .d (sE g.es)),(7,eN g.es.length),(8,eN k)], [(1, .box [eN g.n, .d (sE g.es)])]⟩) (fun k=>g.es.length - k) 0 ⟨Nat.zero_le _,rfl⟩ ?_ ?_
 ·refine Le.of ?_ ?_<;>simp [go_sem,simprocAttr]
 rintro k ⟨hk,hf⟩
 rcases Nat.lt_or_ge k g.es.length with hlt|hge
 rotate_left
 ·have bP:decide ((k:Int)<(g.es.length:Int))=false:=decide_eq_false (by omega)
  obtain rfl:k=g.es.length:=by omega
  rw [List.take_length] at hf
  rw [hnl,hf]
  have e:(aV g&& !false)=aV g:=by simp
  rw [e]
  repeat' (first|refine Rn.p ?_|(with_reducible apply And.intro)|((first|(refine hK _ ?_;clear hK K)|with_reducible intro K hK|refine Rs.p ?_|((with_reducible first|apply oP|apply oQ);exact rfl)|refine ag hX hC hP (hM) rfl rfl rfl (by simp only [go_sem,simprocAttr,bP]) rfl ?_);try simp only [go_sem,simprocAttr,bP])|((with_reducible refine oD ?_ ?_);kernel_rfl)|((with_reducible intro h);try simp only [go_sem,simprocAttr,bP] at h)|omega|intro h)
 have bP:decide ((k:Int)<(g.es.length:Int))=true:=decide_eq_true (by omega)
 have hst:=kN (p:=P) (0,0) hlt
 have qF:=uR (p:=P) (0,0) hlt
 rw [hf,Bool.false_or] at hst
 have Dy:P (g.es.getD k (0,0))=decide ((g.es.getD k (0,0)).1=(g.es.getD k (0,0)).2):=by rw [Dx]
 generalize hq:P (g.es.getD k (0,0))=q at hst qF Dy
 have o4:=Dy.symm
 cases q with
 |true=>
  rw [hnl,qF rfl]
  have e:(!(aV g&& !true))=true:=by simp
  rw [e]
  repeat' (first|refine Rn.p ?_|(with_reducible apply And.intro)|((first|(refine hK _ ?_;clear hK K)|with_reducible intro K hK|refine Rs.p ?_|((with_reducible first|apply oP|apply oQ);exact rfl)|refine ag hX hC hP (hM) rfl rfl rfl (by simp only [go_sem,simprocAttr,bP,o4]) rfl ?_);try simp only [go_sem,simprocAttr,bP,o4])|((with_reducible refine oD ?_ ?_);kernel_rfl)|((with_reducible intro h);try simp only [go_sem,simprocAttr,bP,o4] at h)|omega|intro h)
 |false=>
  repeat' (first|refine Rn.p ?_|(with_reducible apply And.intro)|((first|(refine hK _ ?_;clear hK K)|with_reducible intro K hK|refine Rs.p ?_|((with_reducible first|apply oP|apply oQ);exact rfl)|refine ag hX hC hP (hM) rfl rfl rfl (by simp only [go_sem,simprocAttr,bP,o4]) rfl ?_);try simp only [go_sem,simprocAttr,bP,o4])|((with_reducible refine oD ?_ ?_);kernel_rfl)|((with_reducible intro h);try simp only [go_sem,simprocAttr,bP,o4] at h)|omega|intro h)
  refine ⟨k+1,⟨by omega,hst⟩, ?_,by omega⟩
  refine Le.of ?_ ?_<;>simp [go_sem,simprocAttr,bP,o4]
end Go.Ab
end
section
namespace Go.Ab
open Go.Proofs
attribute [local congr] ACall.congr gd.congr Nx.congr
set_option maxRecDepth 20000
set_option maxHeartbeats 16000000
def g4:Gr:=⟨3, [(0,1),(1,2)]⟩
theorem zP:(ug g4).Ok:=kL (by decide) (by decide)
theorem tI:(ug g4).aH= [[0], [1]]:=by
 have h:=UG.ez zP (so:=id) (fun l=>List.Perm.refl _)
 have hb:UG.bF (ug g4) id= [[1], [0]]:=by decide
 rw [hb] at h
 refine (UG.pX (L:= [[0], [1]]) (by decide) (fun e=> ?_) (fun b hb'=>h.2.2 b (by simp at hb' ⊢;exact hb'.symm)) (by decide) (by decide)).symm
 show e∈ [0,1]↔e<2
 simp;omega
theorem zQ:qW g4= [[0], [1]]:=by rw [hU (by decide),tI]
theorem zR:xb g4= [1]:=by
 rw [l6 (by decide)]
 unfold kO ff
 rw [tI]
 decide
theorem o5 (xs ys:List Nat) (hlen:xs.length≤9223372036854775807):Spec Try.prog 22 (Args [.d (sN xs), .d (sN ys)]) [] (eB (decide (xs=ys))) []:=by
 have h:=ki (nI xs) (nI ys) (by rw [nI,List.length_map];exact hlen)
 have e:decide (nI xs=nI ys)=decide (xs=ys):=by
  rw [decide_eq_decide]
  constructor
  ·intro e
   have:=congrArg (List.map Int.toNat) e
   unfold nI at this
   rw [List.map_map,List.map_map] at this
   have hid:(Int.toNat ∘ fun n:Nat=>(n:Int))=id:=funext fun n=>rfl
   rw [hid,List.map_id,List.map_id] at this
   exact this
  ·rintro rfl;rfl
 rw [← kP, ← kP,e] at h
 exact h
theorem l7:Spec Try.prog 14 (Args []) [] (eB true) []:=by
 have ud:=dS g4 (by decide)
 have Dz:=qI g4 (by decide)
 rw [zQ] at ud
 rw [zR] at Dz
 have Fa:=o5 [1] [1] (by decide)
 have e1:g4.es.map rE= [[.sc (.int .i64 0), .sc (.int .i64 1)], [.sc (.int .i64 1), .sc (.int .i64 2)]]:=rfl
 have e2:g4.n=3:=rfl
 have e3:([[0], [1]]:List (List Nat)).map kr= [[sN [0]], [sN [1]]]:=rfl
 have e4:([1]:List Nat).map rN= [[.sc (.int .i64 1)]]:=rfl
 (refine Spec.hd (C:=T.cfg [] []) (rs:= [.t 0]) (T.aK _ _) Try.func14 rfl rfl Try.ntmps14 Try.results14 (by simp [AObj.isNest]) (by simp [AObj.isNest]) (by kernel_rfl) T.mixed fun X hX hP hC cE ij=> ?_)
 repeat' (first|refine Rn.p ?_|(with_reducible apply And.intro)|((first|(refine hK _ ?_;clear hK K)|with_reducible intro K hK|refine Rs.p ?_|((with_reducible first|apply oP|apply oQ);exact rfl)|(refine bZ hX hC hP (ud) rfl rfl rfl ?_ ?_ rfl ?_;iterate 2 (focus (simp only [go_sem,simprocAttr,e1,e2,e3,e4];done)))|(refine bZ hX hC hP (Dz) rfl rfl rfl ?_ ?_ rfl ?_;iterate 2 (focus (simp only [go_sem,simprocAttr,e1,e2,e3,e4];done)))|(refine bZ hX hC hP (Fa) rfl rfl rfl ?_ ?_ rfl ?_;iterate 2 (focus (simp only [go_sem,simprocAttr,e1,e2,e3,e4];done))));try simp only [go_sem,simprocAttr,e1,e2,e3,e4])|((with_reducible refine oD ?_ ?_);kernel_rfl)|((with_reducible intro h);try simp only [go_sem,simprocAttr,e1,e2,e3,e4] at h)|omega|intro h)
def j4 (g:Gr):Bool:=decide (40<(g.es.length:Int))||(decide (20<g.n)|| !(aV g&&aR g))
theorem o6 (g:Gr) (hlen:g.es.length≤9223372036854775807):Spec Try.prog 15 (Args [eG g]) [] (eB (j4 g)) []:=by
 have hO:=tH g hlen
 have hlb:j4 g=(decide (40<(g.es.length:Int))||(decide (20<g.n)|| !(aV g&&aR g))):=rfl
 generalize (!(aV g&&aR g))=q at hO hlb
 by_cases h1:40<(g.es.length:Int)
 ·rw [decide_eq_true h1,Bool.true_or] at hlb
  have ji:=decide_eq_true h1
  rw [hlb]
  (refine Spec.hd (C:=T.cfg [] []) (rs:= [.t 2]) (T.aK _ _) Try.func15 rfl rfl Try.ntmps15 Try.results15 (by simp [AObj.isNest]) (by simp [AObj.isNest]) (by kernel_rfl) T.mixed fun X hX hP hC cE ij=> ?_)
  repeat' (first|refine Rn.p ?_|(with_reducible apply And.intro)|((first|(refine hK _ ?_;clear hK K)|with_reducible intro K hK|refine Rs.p ?_|((with_reducible first|apply oP|apply oQ);exact rfl)|refine ag hX hC hP (hO) rfl rfl rfl (by simp only [go_sem,simprocAttr,ji]) rfl ?_);try simp only [go_sem,simprocAttr,ji])|((with_reducible refine oD ?_ ?_);kernel_rfl)|((with_reducible intro h);try simp only [go_sem,simprocAttr,ji] at h)|omega|intro h)
 rw [decide_eq_false h1,Bool.false_or] at hlb
 have ji:=decide_eq_false h1
 by_cases h2:20<g.n
 ·rw [decide_eq_true h2,Bool.true_or] at hlb
  have nM:=decide_eq_true h2
  rw [hlb]
  (refine Spec.hd (C:=T.cfg [] []) (rs:= [.t 2]) (T.aK _ _) Try.func15 rfl rfl Try.ntmps15 Try.results15 (by simp [AObj.isNest]) (by simp [AObj.isNest]) (by kernel_rfl) T.mixed fun X hX hP hC cE ij=> ?_)
  repeat' (first|refine Rn.p ?_|(with_reducible apply And.intro)|((first|(refine hK _ ?_;clear hK K)|with_reducible intro K hK|refine Rs.p ?_|((with_reducible first|apply oP|apply oQ);exact rfl)|refine ag hX hC hP (hO) rfl rfl rfl (by simp only [go_sem,simprocAttr,ji,nM]) rfl ?_);try simp only [go_sem,simprocAttr,ji,nM])|((with_reducible refine oD ?_ ?_);kernel_rfl)|((with_reducible intro h);try simp only [go_sem,simprocAttr,ji,nM] at h)|omega|intro h)
 rw [decide_eq_false h2,Bool.false_or] at hlb
 have nM:=decide_eq_false h2
 rw [hlb]
 (refine Spec.hd (C:=T.cfg [] []) (rs:= [.t 2]) (T.aK _ _) Try.func15 rfl rfl Try.ntmps15 Try.results15 (by simp [AObj.isNest]) (by simp [AObj.isNest]) (by kernel_rfl) T.mixed fun X hX hP hC cE ij=> ?_)
 repeat' (first|refine Rn.p ?_|(with_reducible apply And.intro)|((first|(refine hK _ ?_;clear hK K)|with_reducible intro K hK|refine Rs.p ?_|((with_reducible first|apply oP|apply oQ);exact rfl)|refine ag hX hC hP (hO) rfl rfl rfl (by simp only [go_sem,simprocAttr,ji,nM]) rfl ?_);try simp only [go_sem,simprocAttr,ji,nM])|((with_reducible refine oD ?_ ?_);kernel_rfl)|((with_reducible intro h);try simp only [go_sem,simprocAttr,ji,nM] at h)|omega|intro h)
theorem tJ {g:Gr} (h:j4 g=false):aV g=true∧aR g=true∧g.es.length≤40∧g.n≤20:=by
 unfold j4 at h
 rw [Bool.or_eq_false_iff,Bool.or_eq_false_iff,decide_eq_false_iff_not,decide_eq_false_iff_not,Bool.not_eq_false',Bool.and_eq_true] at h
 exact ⟨h.2.2.1,h.2.2.2,by omega,by omega⟩
end Go.Ab
end
section
namespace Go.Ab
open Go.Proofs
attribute [local congr] ACall.congr gd.congr Nx.congr
set_option maxRecDepth 20000
set_option maxHeartbeats 16000000
namespace UG
variable {G G':UG}
theorem Cn.grow (h:∀i u v,G.J i u v→G'.J i u v) {A:Nat→Prop} {x y:Nat} (hc:G.Cn A x y):G'.Cn A x y:=by
 induction hc with
 |refl h=>exact .refl h
 |step _ j a ih=>exact .step ih (h _ _ _ j) a
theorem Sm.grow (h:∀i u v,G.J i u v→G'.J i u v) {i k:Nat} (hs:G.Sm i k):G'.Sm i k:=by
 induction hs with
 |refl=>exact .refl
 |step _ r ih=>
  obtain ⟨v,a,b,h1,h2,h3⟩:=r
  exact .step ih ⟨v,a,b,h _ _ _ h1,h _ _ _ h2,h3.grow h⟩
end UG
def cr (g:Gr) (a b:Nat):Gr:=⟨g.n,g.es++ [((a:Int),(b:Int))]⟩
theorem p7 {g:Gr} {a b i:Nat} (hi:i<g.es.length):(cr g a b).es.getD i (0,0)=g.es.getD i (0,0):=by
 show (g.es++ [((a:Int),(b:Int))]).getD i (0,0)=_
 rw [List.getD_eq_getElem?_getD,List.getElem?_append_left hi,List.getD_eq_getElem?_getD]
theorem xg {g:Gr} {a b:Nat} :∀i u v,(ug g).J i u v→(ug (cr g a b)).J i u v:=by
 rintro i u v ⟨hi,h⟩
 have hi':i<g.es.length:=hi
 have ht:tl (cr g a b) i=tl g i:=congrArg Prod.fst (p7 hi')
 have hh:hd (cr g a b) i=hd g i:=congrArg Prod.snd (p7 hi')
 refine ⟨?_, ?_⟩
 ·show i<(g.es++ [((a:Int),(b:Int))]).length
  simp;omega
 ·simp only [ug] at h ⊢
  rw [ht,hh]
  exact h
theorem tK {g:Gr} {a b:Nat} (hm:aV g=true) (DA:g.es.length≤40) (ha:a<g.n.toNat) (hb:b<g.n.toNat):aV (cr g a b)=true:=by
 have hn:=fJ hm
 unfold aV at hm ⊢
 simp only [Bool.and_eq_true,decide_eq_true_eq,Bool.not_eq_true',List.any_eq_false] at hm ⊢
 refine ⟨⟨⟨hn.1,hn.2.1⟩, ?_⟩,fun e he=> ?_⟩
 ·show ((g.es++ [((a:Int),(b:Int))]).length:Int)≤128
  simp;omega
 ·rcases List.mem_append.1 he with he|he
  ·exact hm.2 e he
  ·rw [List.mem_singleton] at he
   subst he
   have e1:gV (cr g a b) (a:Int)=false:=by
    unfold gV
    rw [decide_eq_false (show ¬(a:Int)<0 by omega),decide_eq_false (show ¬(cr g a b).n≤(a:Int) from fun h=>by have h:g.n≤(a:Int):=h;omega)];rfl
   have e2:gV (cr g a b) (b:Int)=false:=by
    unfold gV
    rw [decide_eq_false (show ¬(b:Int)<0 by omega),decide_eq_false (show ¬(cr g a b).n≤(b:Int) from fun h=>by have h:g.n≤(b:Int):=h;omega)];rfl
   intro h
   have h:(gV (cr g a b) (a:Int)||gV (cr g a b) (b:Int))=true:=h
   rw [e1,e2] at h
   cases h
theorem qJ {g:Gr} {a b:Nat} (hl:aR g=true) (hab:a≠b):aR (cr g a b)=true:=by
 unfold aR at hl ⊢
 simp only [Bool.not_eq_true',List.any_eq_false,decide_eq_true_eq] at hl ⊢
 intro e he
 rcases List.mem_append.1 he with he|he
 ·exact hl e he
 ·rw [List.mem_singleton] at he
  subst he
  simp only
  omega
def wh (L:List (List Nat)) (i:Nat):Nat:=L.findIdx (fun b=>decide (i∈b))+1
theorem tL {L:List (List Nat)} (bI:L.flatten.Nodup) {k i:Nat} (hk:k<L.length) (hi:i∈L.getD k []):wh L i=k+1:=by
 unfold wh
 congr 1
 have he:L.getD k []=L[k]:=by rw [List.getD_eq_getElem?_getD,List.getElem?_eq_getElem hk];rfl
 rw [he] at hi
 rw [List.findIdx_eq hk]
 refine ⟨decide_eq_true hi,fun j hj=>decide_eq_false fun h=> ?_⟩
 unfold List.Nodup at bI
 rw [List.pairwise_flatten] at bI
 have:=List.pairwise_iff_getElem.1 bI.2 j k (by omega) hk hj
 exact this i h i hi rfl
def o7 (M:Nat) (L:List (List Nat)) (P:List Nat):List Nat:=(List.range M).map fun i=>if i∈P then wh L i else 0
theorem ia {M:Nat} {L:List (List Nat)} {P:List Nat} :(o7 M L P).length=M:=by simp [o7]
theorem tM {M:Nat} {L:List (List Nat)} {P:List Nat} {i:Nat} (hi:i<M):(o7 M L P).getD i 0=if i∈P then wh L i else 0:=by
 simp only [o7,List.getD_eq_getElem?_getD,List.getElem?_map,List.getElem?_range hi,Option.map_some,Option.getD_some]
theorem tN {M:Nat} {L:List (List Nat)} :List.replicate M [D.sc (.int .i64 0)]=(o7 M L []).map rN:=by
 refine List.ext_getElem? fun i=> ?_
 by_cases hi:i<M
 ·simp [o7,hi,rN,List.getElem?_range hi]
 ·rw [List.getElem?_eq_none (by simp;omega),List.getElem?_eq_none (by simp [o7];omega)]
theorem tO {M:Nat} {L:List (List Nat)} {P:List Nat} {i:Nat} :(o7 M L P).set i (wh L i)=o7 M L (P++ [i]):=by
 refine List.ext_getElem? fun j=> ?_
 rw [List.getElem?_set,ia]
 by_cases hj:j<M
 ·simp only [o7,List.getElem?_map,List.getElem?_range hj,Option.map_some,List.mem_append,List.mem_singleton]
  by_cases e:i=j
  ·subst e
   rw [if_pos rfl,if_pos hj,if_pos (.inr rfl)]
  ·rw [if_neg e]
   congr 1
   by_cases h:j∈P
   ·rw [if_pos h,if_pos (.inl h)]
   ·rw [if_neg h,if_neg (by rintro (h2|h2);exact h h2;exact e h2.symm)]
 ·rw [List.getElem?_eq_none (by rw [ia];omega),List.getElem?_eq_none (by rw [ia];omega)]
  split
  ·rename_i e
   rw [if_neg (by rw [e];omega)]
  ·rfl
theorem kQ {n:Nat} (hn:0<n) (x:Int):∃i:Nat,(x % 65536).tmod (n:Int)=i∧i<n:=by
 have h1:0≤x % 65536:=Int.emod_nonneg _ (by decide)
 refine ⟨((x % 65536).tmod n).toNat, ?_, ?_⟩
 ·have:=Int.tmod_nonneg (n:Int) h1
  omega
 ·have h2:=Int.tmod_lt_of_pos (x % 65536) (show (0:Int)<n by omega)
  have h3:=Int.tmod_nonneg (n:Int) h1
  omega
theorem qK {g:Gr} {a b:Nat} (hm':aV (cr g a b)=true) (hl':aR (cr g a b)=true) {c:List Nat} (hc:c∈(ug g).aH) {i k:Nat} (hi:i∈c) (hk:k∈c):wh (ug (cr g a b)).aH i=wh (ug (cr g a b)).aH k:=by
 have bI:(ug (cr g a b)).aH.flatten.Nodup:=by
  have hG:=kL hm' hl'
  have h1:=(UG.dW hG cB lX).1
  exact h1.flatten.nodup_iff.1 (UG.ez hG cB).1
 obtain ⟨j,_,_,hj⟩:=(UG.fM hc).1
 have hS:(ug g).Sm i k:=((hj i).1 hi).symm.trans ((hj k).1 hk)
 have Fb:=hS.grow (xg (a:=a) (b:=b))
 have him:i<g.es.length:=UG.eZ hc hi
 have hkm:k<g.es.length:=UG.eZ hc hk
 have hlen:(ug (cr g a b)).m=g.es.length+1:=by show (g.es++ [((a:Int),(b:Int))]).length=_;simp
 obtain ⟨bi,h1,h2⟩:=UG.je (G:=ug (cr g a b)) (i:=i) (by omega)
 obtain ⟨bk,h3,h4⟩:=UG.je (G:=ug (cr g a b)) (i:=k) (by omega)
 have:=UG.nx h1 h3 h2 h4 Fb
 subst this
 obtain ⟨q,hq,he⟩:=List.mem_iff_getElem.1 h1
 have he':(ug (cr g a b)).aH.getD q []=bi:=by rw [List.getD_eq_getElem?_getD,List.getElem?_eq_getElem hq];exact he
 rw [tL bI hq (by rw [he'];exact h2),tL bI hq (by rw [he'];exact h4)]
theorem iT (g:Gr) (y z:Int) (hlen:g.es.length≤9223372036854775807):Spec Try.prog 5 (Args [eG g,eN y,eN z]) [] (eB true) []:=by
 have xP:=l7
 have hL:=o6 g hlen
 cases hlb:j4 g with
 |true=>
  rw [hlb] at hL
  (refine Spec.hd (C:=T.cfg [] []) (rs:= [.t 6]) (T.aK _ _) Try.func5 rfl rfl Try.ntmps5 Try.results5 (by simp [AObj.isNest]) (by simp [AObj.isNest]) (by kernel_rfl) T.mixed fun X hX hP hC cE ij=> ?_)
  repeat' (first|refine Rn.p ?_|(with_reducible apply And.intro)|((first|(refine hK _ ?_;clear hK K)|with_reducible intro K hK|refine Rs.p ?_|((with_reducible first|apply oP|apply oQ);exact rfl)|refine ag hX hC hP (xP) rfl rfl rfl (by simp only [go_sem,simprocAttr]) rfl ?_|refine ag hX hC hP (hL) rfl rfl rfl (by simp only [go_sem,simprocAttr]) rfl ?_);try simp only [go_sem,simprocAttr])|((with_reducible refine oD ?_ ?_);kernel_rfl)|((with_reducible intro h);try simp only [go_sem,simprocAttr] at h)|omega|intro h)
 |false=>
 rw [hlb] at hL
 obtain ⟨hm,hl,DA,An⟩:=tJ hlb
 have hn:=fJ hm
 obtain ⟨a,ha,CU⟩:=kQ (n:=g.n.toNat) (by omega) y
 obtain ⟨b,hb',vW⟩:=kQ (n:=g.n.toNat) (by omega) z
 have Fc:((g.n.toNat:Nat):Int)=g.n:=by omega
 rw [Fc] at ha hb'
 have hnz:¬g.n=0:=by omega
 have j5:decide ((a:Int)=(b:Int))=decide (a=b):=by rw [decide_eq_decide];omega
 by_cases hab:a=b
 ·rw [decide_eq_true hab] at j5
  (refine Spec.hd (C:=T.cfg [] []) (rs:= [.t 6]) (T.aK _ _) Try.func5 rfl rfl Try.ntmps5 Try.results5 (by simp [AObj.isNest]) (by simp [AObj.isNest]) (by kernel_rfl) T.mixed fun X hX hP hC cE ij=> ?_)
  repeat' (first|refine Rn.p ?_|(with_reducible apply And.intro)|((first|(refine hK _ ?_;clear hK K)|with_reducible intro K hK|refine Rs.p ?_|((with_reducible first|apply oP|apply oQ);exact rfl)|refine ag hX hC hP (xP) rfl rfl rfl (by simp only [go_sem,simprocAttr,ha,hb',j5]) rfl ?_|refine ag hX hC hP (hL) rfl rfl rfl (by simp only [go_sem,simprocAttr,ha,hb',j5]) rfl ?_);try simp only [go_sem,simprocAttr,ha,hb',j5])|((with_reducible refine oD ?_ ?_);kernel_rfl)|((with_reducible intro h);try simp only [go_sem,simprocAttr,ha,hb',j5] at h)|omega|intro h)
 rw [decide_eq_false hab] at j5
 have hm':=tK hm DA CU vW
 have hl':=qJ hl hab
 have zS:=dS (cr g a b) (by show (g.es++ [((a:Int),(b:Int))]).length≤_;simp;omega)
 rw [hU (by rw [hm',hl'];rfl)] at zS
 have ud:=dS g hlen
 rw [hU (by rw [hm,hl];rfl)] at ud
 have hsame:=fun c hc i hi k hk=>qK (a:=a) (b:=b) hm' hl' (c:=c) hc (i:=i) (k:=k) hi hk
 have CF:=kL hm' hl'
 have Ap:=(UG.dW CF cB lX).1
 have bI:(ug (cr g a b)).aH.flatten.Nodup:=Ap.flatten.nodup_iff.1 (UG.ez CF cB).1
 have hM:(ug (cr g a b)).m=g.es.length+1:=by show (g.es++ [((a:Int),(b:Int))]).length=_;simp
 have hall:∀e,e∈(ug (cr g a b)).aH.flatten↔e<g.es.length+1:=fun e=>by
  rw [← Ap.flatten.mem_iff,(UG.ez CF cB).2.1,hM]
 have Du:(ug (cr g a b)).aH.length≤g.es.length+1:=by rw [← hM];exact gY
 have Fe:∀c∈(ug (cr g a b)).aH,c.length≤g.es.length+1:=fun c hc=>by rw [← hM];exact p4 hc
 have yV:=o3 g
 have tV:(ug g).aH.length≤g.es.length:=gY
 have xD:∀c∈(ug g).aH,c≠ []:=fun c hc=>by
  obtain ⟨i,_,hi,_⟩:=(UG.fM hc).1
  rintro rfl
  simp at hi
 have mF:(cr g a b).es.map rE=g.es.map rE++ [[.sc (.int .i64 (a:Int)), .sc (.int .i64 (b:Int))]]:=by
  show (g.es++ [((a:Int),(b:Int))]).map rE=_
  simp [rE]
 have qF:(cr g a b).n=g.n:=rfl
 generalize (ug (cr g a b)).aH=L at*
 generalize (ug g).aH=Lg at*
 (refine Spec.hd (C:=T.cfg [49] []) (rs:= [.t 6]) (T.aK _ _) Try.func5 rfl rfl Try.ntmps5 Try.results5 (by simp [AObj.isNest]) (by simp [AObj.isNest]) (by kernel_rfl) T.mixed fun X hX hP hC cE ij=> ?_)
 repeat' (first|refine Rn.p ?_|(with_reducible apply And.intro)|((first|(refine hK _ ?_;clear hK K)|with_reducible intro K hK|refine Rs.p ?_|((with_reducible first|apply oP|apply oQ);exact rfl)|refine ag hX hC hP (xP) rfl rfl rfl (by simp only [go_sem,simprocAttr,ha,hb',j5,mF,qF,List.length_append,List.length_map,List.length_cons,List.length_nil]) rfl ?_|refine ag hX hC hP (hL) rfl rfl rfl (by simp only [go_sem,simprocAttr,ha,hb',j5,mF,qF,List.length_append,List.length_map,List.length_cons,List.length_nil]) rfl ?_|(refine bZ hX hC hP (zS) rfl rfl rfl ?_ ?_ rfl ?_;iterate 2 (focus (simp only [go_sem,simprocAttr,ha,hb',j5,mF,qF,List.length_append,List.length_map,List.length_cons,List.length_nil];done))));try simp only [go_sem,simprocAttr,ha,hb',j5,mF,qF,List.length_append,List.length_map,List.length_cons,List.length_nil])|((with_reducible refine oD ?_ ?_);kernel_rfl)|((with_reducible intro h);try simp only [go_sem,simprocAttr,ha,hb',j5,mF,qF,List.length_append,List.length_map,List.length_cons,List.length_nil] at h)|omega|intro h)
 obtain ⟨M,DB⟩:∃M,M=g.es.length+1:=⟨_,rfl⟩
 rw [← DB]
 refine aL (fun k:Nat=>k≤L.length) (fun k=>⟨[(3, .ptr 3 0),(8, .ref 49),(51, .d (sNL L)),(52,eN L.length),(53,eN k)], [(49, .own 3 1 ((o7 M L (L.take k).flatten).map rN)),(3, .box [eN g.n, .d (sE g.es)])]⟩) (fun k=>L.length - k) 0 (Nat.zero_le _) ?_ ?_
 ·rw [List.take_zero,List.flatten_nil, ← tN]
  refine Le.of ?_ ?_<;>simp [go_sem,simprocAttr]
 rintro k hk
 rcases Nat.lt_or_ge k L.length with hlt|hge
 ·have hb:decide ((k:Int)<(L.length:Int))=true:=decide_eq_true (by omega)
  obtain ⟨c,hc⟩:∃c,L.getD k []=c:=⟨_,rfl⟩
  have rR:c∈L:=by rw [← hc];exact cO [] hlt
  have mc:=Fe c rR
  have CC:(L.take k).flatten=(L.take k).flatten++c.take 0:=by simp
  have DC:(L.take (k+1)).flatten=(L.take k).flatten++c:=by
   rw [List.take_add_one,List.getElem?_eq_getElem hlt,Option.toList_some,List.flatten_append]
   rw [List.getD_eq_getElem?_getD,List.getElem?_eq_getElem hlt] at hc
   rw [← hc];simp
  rw [CC]
  repeat' (first|refine Rn.p ?_|(with_reducible apply And.intro)|((first|(refine hK _ ?_;clear hK K)|with_reducible intro K hK|refine Rs.p ?_|((with_reducible first|apply oP|apply oQ);exact rfl)|refine ag hX hC hP (xP) rfl rfl rfl (by simp only [go_sem,simprocAttr,hb,hc]) rfl ?_|refine ag hX hC hP (hL) rfl rfl rfl (by simp only [go_sem,simprocAttr,hb,hc]) rfl ?_|(refine bZ hX hC hP (zS) rfl rfl rfl ?_ ?_ rfl ?_;iterate 2 (focus (simp only [go_sem,simprocAttr,hb,hc];done))));try simp only [go_sem,simprocAttr,hb,hc])|((with_reducible refine oD ?_ ?_);kernel_rfl)|((with_reducible intro h);try simp only [go_sem,simprocAttr,hb,hc] at h)|omega|intro h)
  clear hb
  refine aL (fun j:Nat=>j≤c.length) (fun j=>⟨[(3, .ptr 3 0),(8, .ref 49),(51, .d (sNL L)),(52,eN L.length),(53,eN k),(9,eN k),(58, .d (sN c)),(59,eN c.length),(60,eN j)], [(49, .own 3 1 ((o7 M L ((L.take k).flatten++c.take j)).map rN)),(3, .box [eN g.n, .d (sE g.es)])]⟩) (fun j=>c.length - j) 0 (Nat.zero_le _) ?_ ?_
  ·refine Le.of ?_ ?_<;>simp [go_sem,simprocAttr]
  rintro j hj
  rcases Nat.lt_or_ge j c.length with hlj|Dw
  rotate_left
  ·have hb:decide ((j:Int)<(c.length:Int))=false:=decide_eq_false (by omega)
   obtain rfl:j=c.length:=by omega
   rw [List.take_length, ← DC]
   repeat' (first|refine Rn.p ?_|(with_reducible apply And.intro)|((first|(refine hK _ ?_;clear hK K)|with_reducible intro K hK|refine Rs.p ?_|((with_reducible first|apply oP|apply oQ);exact rfl)|refine ag hX hC hP (xP) rfl rfl rfl (by simp only [go_sem,simprocAttr,hb]) rfl ?_|refine ag hX hC hP (hL) rfl rfl rfl (by simp only [go_sem,simprocAttr,hb]) rfl ?_|(refine bZ hX hC hP (zS) rfl rfl rfl ?_ ?_ rfl ?_;iterate 2 (focus (simp only [go_sem,simprocAttr,hb];done))));try simp only [go_sem,simprocAttr,hb])|((with_reducible refine oD ?_ ?_);kernel_rfl)|((with_reducible intro h);try simp only [go_sem,simprocAttr,hb] at h)|omega|intro h)
   refine ⟨k+1,by omega, ?_,by omega⟩
   refine Le.of ?_ ?_<;>simp [go_sem,simprocAttr,hb]
  have hb:decide ((j:Int)<(c.length:Int))=true:=decide_eq_true (by omega)
  obtain ⟨i,hi⟩:∃i,c.getD j 0=i:=⟨_,rfl⟩
  have hic:i∈c:=by rw [← hi];exact cO 0 hlj
  have Ff:i<M:=by rw [DB];exact (hall i).1 (List.mem_flatten.2 ⟨c,rR,hic⟩)
  have Fg:wh L i=k+1:=tL bI hlt (by rw [hc];exact hic)
  have gv:=tO (M:=M) (L:=L) (P:=(L.take k).flatten++c.take j) (i:=i)
  have DD:(L.take k).flatten++c.take (j+1)=((L.take k).flatten++c.take j)++ [i]:=by
   rw [List.take_add_one,List.getElem?_eq_getElem hlj,Option.toList_some,List.append_assoc]
   rw [List.getD_eq_getElem?_getD,List.getElem?_eq_getElem hlj] at hi
   rw [← hi];rfl
  have hni:i∉(L.take k).flatten++c.take j:=fun h=>by
   have hsub:(((L.take k).flatten++c.take j)++ [i]).Sublist L.flatten:=by
    rw [← DD]
    refine List.Sublist.trans (List.Sublist.append_left (List.take_sublist (j+1) c) _) ?_
    rw [← DC]
    have:=List.take_append_drop (k+1) L
    have h2:L.flatten=(L.take (k+1)).flatten++(L.drop (k+1)).flatten:=by
     rw [← List.flatten_append,this]
    rw [h2]
    exact List.sublist_append_left _ _
   have h3:=bI.sublist hsub
   rw [List.nodup_append] at h3
   exact h3.2.2 i h i (by simp) rfl
  have oT:=tM (M:=M) (L:=L) (P:=(L.take k).flatten++c.take j) Ff
  rw [if_neg hni] at oT
  rw [Fg, ← DD] at gv
  have hml:=ia (M:=M) (L:=L) (P:=(L.take k).flatten++c.take j)
  generalize o7 M L ((L.take k).flatten++c.take j)=R0 at gv oT hml ⊢
  have bP:decide ((i:Int)<0)=false:=decide_eq_false (by omega)
  have j6:decide ((M:Int)≤(i:Int))=false:=decide_eq_false (by omega)
  have gC:((k:Int)+1)=((k+1:Nat):Int):=by omega
  have nN:decide (((0:Nat):Int)=0)=true:=rfl
  repeat' (first|refine Rn.p ?_|(with_reducible apply And.intro)|((first|(refine hK _ ?_;clear hK K)|with_reducible intro K hK|refine Rs.p ?_|((with_reducible first|apply oP|apply oQ);exact rfl)|refine ag hX hC hP (xP) rfl rfl rfl (by simp only [go_sem,simprocAttr,hb,hi,bP,j6,oT,hml,gC,nN,au]) rfl ?_|refine ag hX hC hP (hL) rfl rfl rfl (by simp only [go_sem,simprocAttr,hb,hi,bP,j6,oT,hml,gC,nN,au]) rfl ?_|(refine bZ hX hC hP (zS) rfl rfl rfl ?_ ?_ rfl ?_;iterate 2 (focus (simp only [go_sem,simprocAttr,hb,hi,bP,j6,oT,hml,gC,nN,au];done))));try simp only [go_sem,simprocAttr,hb,hi,bP,j6,oT,hml,gC,nN,au])|((with_reducible refine oD ?_ ?_);kernel_rfl)|((with_reducible intro h);try simp only [go_sem,simprocAttr,hb,hi,bP,j6,oT,hml,gC,nN,au] at h)|omega|intro h)
  refine ⟨j+1,by omega, ?_,by omega⟩
  rw [← gv]
  refine Le.of ?_ ?_<;>simp [go_sem,simprocAttr,hb,hi,bP,j6,oT,hml,gC,nN,au]
 have hb:decide ((k:Int)<(L.length:Int))=false:=decide_eq_false (by omega)
 obtain rfl:k=L.length:=by omega
 rw [List.take_length]
 have hval:∀i,i<M→(o7 M L L.flatten).getD i 0=wh L i:=fun i hi=>by
  rw [tM hi,if_pos ((hall i).2 (by omega))]
 have hml:=ia (M:=M) (L:=L) (P:=L.flatten)
 generalize o7 M L L.flatten=R at hval hml ⊢
 repeat' (first|refine Rn.p ?_|(with_reducible apply And.intro)|((first|(refine hK _ ?_;clear hK K)|with_reducible intro K hK|refine Rs.p ?_|((with_reducible first|apply oP|apply oQ);exact rfl)|refine ag hX hC hP (ud) rfl rfl rfl (by simp only [go_sem,simprocAttr,hb]) rfl ?_);try simp only [go_sem,simprocAttr,hb])|((with_reducible refine oD ?_ ?_);kernel_rfl)|((with_reducible intro h);try simp only [go_sem,simprocAttr,hb] at h)|omega|intro h)
 clear hb
 refine aL (fun k:Nat=>k≤Lg.length) (fun k=>⟨[(3, .ptr 3 0),(8, .ref 49),(87, .d (sNL Lg)),(88,eN Lg.length),(89,eN k)], [(49, .own 3 1 (R.map rN)),(3, .box [eN g.n, .d (sE g.es)])]⟩) (fun k=>Lg.length - k) 0 (Nat.zero_le _) ?_ ?_
 ·refine Le.of ?_ ?_<;>simp [go_sem,simprocAttr]
 rintro k hk2
 rcases Nat.lt_or_ge k Lg.length with hlt|CD
 rotate_left
 ·have hb:decide ((k:Int)<(Lg.length:Int))=false:=decide_eq_false (by omega)
  have hv:=hval g.es.length (by omega)
  have hpos:decide ((0:Int)<((R.getD g.es.length 0:Nat):Int))=true:=decide_eq_true (by rw [hv];unfold wh;omega)
  repeat' (first|refine Rn.p ?_|(with_reducible apply And.intro)|((first|(refine hK _ ?_;clear hK K)|with_reducible intro K hK|refine Rs.p ?_|((with_reducible first|apply oP|apply oQ);exact rfl));try simp only [go_sem,simprocAttr,hb,hml,hpos])|((with_reducible refine oD ?_ ?_);kernel_rfl)|((with_reducible intro h);try simp only [go_sem,simprocAttr,hb,hml,hpos] at h)|omega|intro h)
 have hb:decide ((k:Int)<(Lg.length:Int))=true:=decide_eq_true (by omega)
 obtain ⟨c,hc⟩:∃c,Lg.getD k []=c:=⟨_,rfl⟩
 have rR:c∈Lg:=by rw [← hc];exact cO [] hlt
 have hcb:=yV c rR
 repeat' (first|refine Rn.p ?_|(with_reducible apply And.intro)|((first|(refine hK _ ?_;clear hK K)|with_reducible intro K hK|refine Rs.p ?_|((with_reducible first|apply oP|apply oQ);exact rfl));try simp only [go_sem,simprocAttr,hb,hc])|((with_reducible refine oD ?_ ?_);kernel_rfl)|((with_reducible intro h);try simp only [go_sem,simprocAttr,hb,hc] at h)|omega|intro h)
 clear hb
 refine aL (fun j:Nat=>j≤c.length) (fun j=>⟨[(3, .ptr 3 0),(8, .ref 49),(87, .d (sNL Lg)),(88,eN Lg.length),(89,eN k),(14, .d (sN c)),(93, .d (sN c)),(94,eN c.length),(95,eN j)], [(49, .own 3 1 (R.map rN)),(3, .box [eN g.n, .d (sE g.es)])]⟩) (fun j=>c.length - j) 0 (Nat.zero_le _) ?_ ?_
 ·refine Le.of ?_ ?_<;>simp [go_sem,simprocAttr]
 rintro j hj
 rcases Nat.lt_or_ge j c.length with hlj|Dw
 rotate_left
 ·have hb:decide ((j:Int)<(c.length:Int))=false:=decide_eq_false (by omega)
  repeat' (first|refine Rn.p ?_|(with_reducible apply And.intro)|((first|(refine hK _ ?_;clear hK K)|with_reducible intro K hK|refine Rs.p ?_|((with_reducible first|apply oP|apply oQ);exact rfl));try simp only [go_sem,simprocAttr,hb])|((with_reducible refine oD ?_ ?_);kernel_rfl)|((with_reducible intro h);try simp only [go_sem,simprocAttr,hb] at h)|omega|intro h)
  refine ⟨k+1,by omega, ?_,by omega⟩
  refine Le.of ?_ ?_<;>simp [go_sem,simprocAttr,hb]
 have hb:decide ((j:Int)<(c.length:Int))=true:=decide_eq_true (by omega)
 obtain ⟨i,hi⟩:∃i,c.getD j 0=i:=⟨_,rfl⟩
 obtain ⟨i0,AD⟩:∃i,c.getD 0 0=i:=⟨_,rfl⟩
 have hic:i∈c:=by rw [← hi];exact cO 0 hlj
 have zT:i0∈c:=by rw [← AD];exact cO 0 (by omega)
 have him:=hcb.1 i hic
 have Fh:=hcb.1 i0 zT
 have hv:=hval i (by omega)
 have xA:=hval i0 (by omega)
 have hs:=hsame c rR i hic i0 zT
 have hwp:0<wh L i0:=by unfold wh;omega
 rw [hs] at hv
 generalize wh L i0=q at hv xA hwp
 have bP:decide ((i:Int)<0)=false:=decide_eq_false (by omega)
 have j6:decide ((g.es.length:Int)≤(i:Int))=false:=decide_eq_false (by omega)
 have zj:decide ((q:Int)=0)=false:=decide_eq_false (by omega)
 have hb4:decide ((q:Int)=(q:Int))=true:=decide_eq_true rfl
 repeat' (first|refine Rn.p ?_|(with_reducible apply And.intro)|((first|(refine hK _ ?_;clear hK K)|with_reducible intro K hK|refine Rs.p ?_|((with_reducible first|apply oP|apply oQ);exact rfl));try simp only [go_sem,simprocAttr,hb,hi,AD,bP,j6,zj,hb4,hv,xA,hml])|((with_reducible refine oD ?_ ?_);kernel_rfl)|((with_reducible intro h);try simp only [go_sem,simprocAttr,hb,hi,AD,bP,j6,zj,hb4,hv,xA,hml] at h)|omega|intro h)
 refine ⟨j+1,by omega, ?_,by omega⟩
 refine Le.of ?_ ?_<;>simp [go_sem,simprocAttr,hb,hi,AD,bP,j6,zj,hb4,hv,xA,hml]
end Go.Ab
end
