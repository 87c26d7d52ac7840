/- A part of the proof. -/
import Derived.Shelf.SlSortCmp.NoneTotal
import Derived.Deep.QuietTactic
import Derived.WalkKit
import Derived.Sort.Grow
import Derived.Test.YtameldglfobjkaaL6P16
set_option linter.unusedSimpArgs false
set_option linter.unusedVariables false
section
namespace Go.Ab
open Go.Proofs Go.RowKit Go.Shelf Go.Sort
set_option maxRecDepth 10000
set_option maxHeartbeats 4000000
theorem z1 (W:World) (b1 o1 n1 c1 b2 o2 n2 c2:Nat) (x y:Int) (hx:0≤x∧x≤1000) (hy:0≤y∧y≤1000) (Gs:0<n1) (hn2:0<n2) (h1:W.cell? ⟨b1,o1,none⟩=some (.int .i64 x)) (h2:W.cell? ⟨b2,o2,none⟩=some (.int .i64 y)):
 Calls Try.prog 42 #[.slice (some ⟨b1,o1,none⟩) n1 c1, .slice (some ⟨b2,o2,none⟩) n2 c2] W fun e w'=>e= .returned (.int .i64 (x - y))∧∃q,w'=W.drewN q:=by
 go_enter Try.func42,Try.ntmps42
 go_wp2
 go_quiet (fail)
 go_wp2
 go_ret
 exact ⟨rfl,nq,rfl⟩
def we (P:Program) (g:Nat) (cb:Array Value) (en:Int→Value) (cf:Int→Int→Int) (l:List Int) (blk:Nat) (w:World):Prop:=
 ∀W:World,w.heap.size≤W.heap.size→(∀b,b<w.heap.size→b≠blk→W.heap[b]? =w.heap[b]?)→∀x,x∈l→∀y,y∈l→
  Calls P g (#[en x,en y]++cb) W fun e w'=>e= .returned (.int .i64 (cf x y))∧∃q os',w'=grow (W.drewN q) os'
theorem pV (g:Nat) (cb:Array Value) (en:Int→Value) (sr:∀x,(en x).oneCell'=true) {cf:Int→Int→Int} {l l':List Int} (S:zJ cf l l') (hlen:l.length≤1000000) (eg:∀args w,(callFunc g args).run Try.prog w= .ok (.enter g args) w)
 (blk cap:Nat) (w:World) {cur:Array Value} {e:TypeId} (hb:w.heap[blk]? =some (.cells cur e (0,0))) (hc:∀i,i<l.length→cur[i]? =some (en (l.getD i 0))) (hne:l≠ [])
 (hcmp:we Try.prog g cb en cf l blk w):
 Calls Try.prog 41 #[.slice (some ⟨blk,0,none⟩) l.length cap, .func (.func g) #[] cb] w fun Fs w'=>Fs= .returned (.tuple #[])∧
  w'.os=w.os∧w'.tape=w.tape∧w'.output=w.output∧w.heap.size≤w'.heap.size∧(∀b,b<w.heap.size→b≠blk→w'.heap[b]? =w.heap[b]?)∧
  ∃cur',w'.heap[blk]? =some (.cells cur' e (0,0))∧cur'.size=cur.size∧∀i,i<l'.length→cur'[i]? =some (en (l'.getD i 0)):=by
 have hlt:blk<w.heap.size:=(Array.getElem?_eq_some_iff.1 hb).1
 obtain ⟨a0,ha0⟩:∃a,a∈l:=by
  cases l with
  |nil=>exact absurd rfl hne
  |cons a l=>exact ⟨a,by simp⟩
 letI:Inhabited {x // x∈l} :=⟨⟨a0,ha0⟩⟩
 have hsz:(l.attach.toArray).size=l.length:=by simp
 have AQ:∀j (hj:j<l.length),((l.attach.toArray)[j]!).1=l.getD j 0:=fun j hj=>by
  rw [getElem!_pos _ j (by simpa using hj),List.getD_eq_getElem?_getD,List.getElem?_eq_getElem hj]
  simp
 have hH:Holds (fun x: {x // x∈l} =>en x.1) w blk 0 l.attach.toArray:=fun j hj=>by
  rw [hsz] at hj
  refine ⟨?_, ?_⟩
  ·show _=some (en ((l.attach.toArray)[j]!).1)
   rw [Nat.zero_add,AQ j hj, ← hc j hj]
   simp [World.cell?,hb]
  ·simp [World.frozen?,hb]
 have A8:CmpLays1 Try.prog g cb (fun x: {x // x∈l} =>en x.1) (fun x y=>cf x.1 y.1) blk 0 (l.attach.toArray).size w:=fun m os dk _ x y=>
  hcmp _ (gw ..) (fun b h1 h2=>gv _ _ _ _ _ _ h1 h2) x.1 x.2 y.1 y.2
 have Cx:=Any.slices_SortFunc Try.vj (fun x: {x // x∈l} =>en x.1) (fun x=>sr x.1) (fun x y=>cf x.1 y.1) S.swo g cb blk 0 cap l.attach.toArray w eg A8 hH hlt (by rw [hsz];omega)
 rw [hsz] at Cx
 refine Calls.mono Cx ?_
 rintro Fs w' ⟨rfl,d',n,os,hp,hs,rfl⟩
 rw [← hsz] at hp hs
 have he:=S.eq (d:=l.attach.toArray) (by simp) hp hs
 have hds:d'.size=l.length:=by rw [hp.1,hsz]
 refine ⟨rfl,rfl,rfl,rfl,gw ..,fun b h1 h2=>gv _ _ _ _ _ _ h1 h2,_,l7 _ _ _ _ _ _ hb,by simp [putCells],fun i hi=> ?_⟩
 have hi2:i<l.length:=by rw [S.perm.length_eq];exact hi
 have hic:i<cur.size:=(Array.getElem?_eq_some_iff.1 (hc i hi2)).1
 simp only [putCells,Array.getElem?_mapIdx,Array.getElem?_eq_getElem hic,Option.map_some]
 rw [if_pos ⟨by omega,by omega⟩,Nat.sub_zero,getElem!_pos d' i (by omega)]
 have:l'.getD i 0=(d'[i]'(by omega)).1:=by
  rw [← he,List.getD_eq_getElem?_getD,List.getElem?_map,Array.getElem?_toList,Array.getElem?_eq_getElem (by omega)]
  rfl
 rw [this]
theorem jr (p:Option Addr) (cap:Nat) (fv:Value) (w:World):Calls Try.prog 41 #[.slice p 0 cap,fv] w fun e w'=>e= .returned (.tuple #[])∧w'=w:=
 AnyF.slices_SortFunc_none {Try.vj with} p cap fv w
theorem z6 {ob:AObj} (hn:ob.isNest=false) {q:Nat} {o:AObj} (h:aJ [(10000,ob)] q=some o):q=10000∧o=ob:=by
 have hl:look [(10000,ob)] q=some o:=(de (fun p hp=>by
  rw [List.mem_singleton] at hp
  subst hp
  exact hn) h).1
 simp only [look] at hl
 split at hl
 ·rename_i e;cases hl;exact ⟨e.symm,rfl⟩
 ·cases hl
def ic (b:List Nat):Int:=((b.headD 0:Nat):Int)
theorem qU {L L':List (List Nat)} (hp:L.Perm L') (hne:∀b∈L,b≠ []) (bG:(L.map ic).Nodup) (hs:L'.Pairwise fun a b=>ic a<ic b) (hbd:∀b∈L,ic b≤1000) (hlen:L.length≤1000000):
 Spec Try.prog 41 (Args [.ref 10000, .fn 42 [] []]) [(10000, .own 25 1 (L.map kz))] (.tup []) [(10000, .own 25 1 (L'.map kz))]:=by
 refine ⟨⟨Try.f41,_,Try.func41,by kernel_rfl,rfl⟩,fun E w vals hg hA=> ?_⟩
 obtain ⟨v,vs,rfl,h0,h3⟩:=hA
 obtain ⟨v2,Jd,rfl,h1,h4⟩:=h3
 simp only [AVrs] at h4
 subst h4
 obtain ⟨us,us',rfl,h5,h6⟩:=h1
 simp only [AVrs] at h5 h6
 subst h5 h6
 obtain ⟨rfl,_⟩:=h0
 obtain ⟨_,_,o2⟩:=hg.dY 10000 (.own 25 1 (L.map kz)) rfl
 have fP:L.length=L'.length:=hp.length_eq
 have hkeep:∀ {w':World},(∀b,0<E.z b→w'.heap[b]? =w.heap[b]?)→ak w E.z w' E.z:=fun h b=>⟨Nat.le_refl _,fun o ho=>by
  simp only [World.cell?,h b (by omega)]⟩
 rcases o2 with ⟨r0,r1,p,r2⟩|⟨b,cur,cap,r0,r1,r2,r3,r4,r5,r6,r7⟩
 ·have hl0:L= []:=List.map_eq_nil_iff.1 r1
  subst hl0
  have z7:L'= []:=hp.symm.eq_nil
  subst z7
  rw [r2]
  refine (jr p 0 _ w).mono ?_
  rintro en w' ⟨rfl,rfl⟩
  exact ⟨_,E,rfl,yw.refl _ _ _,hg,fun q o b hq hro hb=> .inr ⟨q,o,hq,hro,hb⟩,⟨[],rfl,rfl⟩⟩
 rw [List.length_map] at r2 r3
 rw [r2]
 by_cases hl0:L= []
 ·subst hl0
  have z7:L'= []:=hp.symm.eq_nil
  subst z7
  refine (jr _ cap _ w).mono ?_
  rintro en w' ⟨rfl,rfl⟩
  exact ⟨_,E,rfl,yw.refl _ _ _,hg,fun q o b hq hro hb=> .inr ⟨q,o,hq,hro,hb⟩,⟨[],rfl,rfl⟩⟩
 have ec:b<w.heap.size:=(Array.getElem?_eq_some_iff.1 r1).1
 have Cy:∀i,i<L.length→∃x,cur[i]? =some x∧Rd w E.z x (sN (L.getD i [])):=fun i hi=>by
  obtain ⟨x,h1,h2⟩:=r7 i 0 (kz L[i]) (sN L[i]) (by simp [List.getElem?_eq_getElem hi]) rfl
  exact ⟨x,by simpa using h1,by rw [List.getD_eq_getElem?_getD,List.getElem?_eq_getElem hi];exact h2⟩
 have hidx:∀i,i<L.length→(L.map ic).idxOf ((L.map ic).getD i 0)=i:=fun i hi=>by
  have hi':i<(L.map ic).length:=by rw [List.length_map];exact hi
  rw [List.getD_eq_getElem?_getD,List.getElem?_eq_getElem hi',Option.getD_some]
  exact bG.idxOf_getElem i hi'
 obtain ⟨en,sr⟩:∃en:Int→Value,en=fun h=>if (L.map ic).idxOf h<L.length then cur.getD ((L.map ic).idxOf h) (.int .i64 0) else .int .i64 0:=⟨_,rfl⟩
 have AQ:∀i,i<L.length→cur[i]? =some (en ((L.map ic).getD i 0))∧Rd w E.z (en ((L.map ic).getD i 0)) (sN (L.getD i [])):=fun i hi=>by
  obtain ⟨x,h1,h2⟩:=Cy i hi
  have:en ((L.map ic).getD i 0)=x:=by
   rw [sr]
   simp only
   rw [hidx i hi,if_pos hi]
   simp [h1]
  rw [this]
  exact ⟨h1,h2⟩
 have hmem:∀c∈L,Rd w E.z (en (ic c)) (sN c):=fun c hc=>by
  obtain ⟨i,hi,rfl⟩:=List.mem_iff_getElem.1 hc
  have h1:=(AQ i hi).2
  have e1:(L.map ic).getD i 0=ic L[i]:=by
   rw [List.getD_eq_getElem?_getD,List.getElem?_map,List.getElem?_eq_getElem hi];rfl
  rw [e1,List.getD_eq_getElem?_getD,List.getElem?_eq_getElem hi] at h1
  exact h1
 have hone:∀x,(en x).oneCell'=true:=fun x=>by
  rw [sr]
  simp only
  split
  ·rename_i h
   obtain ⟨y,h1,h2⟩:=Cy _ h
   have:cur.getD ((L.map ic).idxOf x) (.int .i64 0)=y:=by simp [h1]
   rw [this]
   exact h2.one
  ·rfl
 have hS:zJ (fun x y=>x - y) (L.map ic) (L'.map ic):=by
  refine ⟨hp.map _,bG, ?_,fun x _=>by omega⟩
  rw [List.pairwise_map]
  exact hs.imp fun {a b} h=>by omega
 have hcmp:we Try.prog 42 #[] en (fun x y=>x - y) (L.map ic) b w:=by
  intro W hsz hW x hx y hy
  obtain ⟨c,hc,rfl⟩:=List.mem_map.1 hx
  obtain ⟨d,hd,rfl⟩:=List.mem_map.1 hy
  have Cz:∀q o,q<w.heap.size→q≠b→W.cell? ⟨q,o,none⟩=w.cell? ⟨q,o,none⟩:=fun q o h1 h2=>by
   simp only [World.cell?,hW q h1 h2]
  have yS:∀c∈L,∃q off n cap,en (ic c)= .slice (some ⟨q,off,none⟩) n cap∧0<n∧W.cell? ⟨q,off,none⟩=some (.int .i64 (ic c)):=fun c hc=>by
   have h1:=hmem c hc
   rw [mJ] at h1
   have mU:nI c≠ []:=fun e=>hne c hc (List.map_eq_nil_iff.1 e)
   obtain ⟨q,off,cap,g1,g2,g3,g4⟩:=BQ h1 mU
   have hpos:0<(nI c).length:=List.length_pos_iff.2 mU
   refine ⟨q,off,_,cap,g1,hpos, ?_⟩
   rw [Cz q off g2 (fun e=>by rw [e] at g3;omega)]
   have:=g4 0 hpos
   rw [Nat.add_zero] at this
   rw [this]
   cases c with
   |nil=>exact absurd rfl (hne _ hc)
   |cons i r=>rfl
  obtain ⟨q1,o1,n1,c1,g1,g2,g3⟩:=yS c hc
  obtain ⟨q2,o2,n2,c2,g4,g5,g6⟩:=yS d hd
  rw [g1,g4]
  have hz:∀b,0≤ic b:=fun b=>by unfold ic;omega
  exact (z1 W q1 o1 n1 c1 q2 o2 n2 c2 (ic c) (ic d) ⟨hz c,hbd c hc⟩ ⟨hz d,hbd d hd⟩ g2 g5 g3 g6).mono fun _ _ ⟨he,q,hq⟩=>⟨he,q, #[],by rw [hq,grow_empty]⟩
 have yT:=pV 42 #[] en hone hS (by rw [List.length_map];exact hlen) (enters_of Try.func42 (by kernel_rfl) rfl) b cap w r1 (fun i hi=>by
  rw [List.length_map] at hi
  exact (AQ i hi).1) (fun e=>hl0 (List.map_eq_nil_iff.1 e)) hcmp
 rw [List.length_map] at yT
 refine yT.mono ?_
 rintro Fs w' ⟨rfl,k1,k2,k3,k4,k5,cur',k6,k7,k8⟩
 have hst:ak w E.z w' E.z:=hkeep fun q hq=>by
  by_cases Im:q<w.heap.size
  ·exact k5 q Im fun e=>by subst e;omega
  ·have:=hg.fresh q (by omega);omega
 have Gw:∀ {q:Nat},aJ [(10000,AObj.own 25 1 (L'.map kz))] q≠none→aJ [(10000,AObj.own 25 1 (L.map kz))] q≠none:=fun {q} h=>by
  obtain ⟨o,ho⟩:=Option.ne_none_iff_exists'.1 h
  obtain ⟨rfl,_⟩:=z6 rfl ho
  simp [bP,look]
 refine ⟨_,E,rfl,⟨k1,k2,k3,k4,hst,fun q hq hnm=>⟨k5 q hq fun e=> ?_,rfl⟩,fun _ _=>⟨rfl,rfl⟩⟩,⟨fun q hq=> ?_,fun q q' c hq fU=>hg.inj q q' c (Gw hq) (Gw fU),fun q o hq=> ?_,fun q hq=>hg.fresh q (by omega)⟩,fun q o c hq hro hc=> ?_,⟨[],rfl,rfl⟩⟩
 ·subst e
  exact hnm ⟨10000,_,rfl,rfl,r0⟩
 ·simp only [look] at hq
  split at hq
  ·omega
  ·exact absurd rfl hq
 ·obtain ⟨rfl,rfl⟩:=z6 rfl hq
  refine ⟨fun r hr=> ?_,by decide, .inr ⟨b,cur',cap,r0,k6, ?_, ?_,by rw [k7];exact r4,r5,r6,fun i j r x h1 h2=> ?_⟩⟩
  ·obtain ⟨v,_,rfl⟩:=List.mem_map.1 hr
   rfl
  ·rw [List.length_map, ← fP];exact r2
  ·rw [List.length_map, ← fP];exact r3
  ·rw [List.getElem?_map] at h1
   obtain ⟨c,h3,rfl⟩:=Option.map_eq_some_iff.1 h1
   cases j with
   |succ j=>simp [kz] at h2
   |zero=>
    simp only [kz,List.getElem?_cons_zero,Option.some.injEq] at h2
    subst h2
    have hi:i<L'.length:=(List.getElem?_eq_some_iff.1 h3).1
    have Io:c∈L:=hp.mem_iff.2 (List.mem_of_getElem? h3)
    have h8:=k8 i (by rw [List.length_map];exact hi)
    have e1:(L'.map ic).getD i 0=ic c:=by
     rw [List.getD_eq_getElem?_getD,List.getElem?_map,h3];rfl
    rw [e1] at h8
    exact ⟨_,by simpa using h8,(hmem c Io).mono hst⟩
 ·refine .inr ?_
  obtain ⟨rfl,rfl⟩:=z6 rfl hq
  exact ⟨10000,_,rfl,rfl,hc⟩
end Go.Ab
end
section
namespace Go.Ab
open Go.Proofs
attribute [local congr] ACall.congr gd.congr Nx.congr
set_option maxRecDepth 20000
set_option maxHeartbeats 16000000
set_option linter.unusedSectionVars false
namespace UG
variable {G:UG} (hG:G.Ok) {so:List Nat→List Nat} (hsp:∀l,(so l).Perm l)
include hG
theorem yh {s:Sc} {k:Nat} (hk:k<G.n) (h:G.zP s k) (h0:s.nm k=0):G.Pre s k none []:=
 ⟨h.ln,h.ll,hk,h0,⟨by simp,by simp,trivial⟩,fun v i a hv _ hJ=>h.bl v i a hv hJ,h.le,h.inj, .inl ⟨rfl,rfl⟩,fun e he=> .inr fun a b hJ=>by
   rw [h.stk,List.nil_append,h.mem] at he
   obtain ⟨d,c,h1,h2⟩:=he
   rcases h2.two hJ with ⟨rfl,rfl⟩|⟨rfl,rfl⟩
   ·exact h1
   ·exact h.bl _ _ _ h1 h2⟩
theorem z8 {s:Sc} {k:Nat} (h:G.zP s k) (hc:s.cnt+G.iC s≤G.n):G.Bd s:=by
 refine ⟨?_,fun e he=> ?_,fun b hb=> ?_,hc⟩
 ·rw [h.stk,List.nil_append];exact h.nd
 ·rw [h.stk,List.nil_append,h.mem] at he
  obtain ⟨d,a,_,hJ⟩:=he
  exact hJ.1
 ·obtain ⟨i,_,hi,_⟩:=h.cls b hb
  rintro rfl
  simp at hi
def dr (G:UG) (so:List Nat→List Nat) (k:Nat):Sc:=(List.range k).foldl (l8 G so) (bK G)
omit hG in
theorem jO {k:Nat} :dr G so (k+1)=l8 G so (dr G so k) k:=by
 unfold dr
 rw [List.range_succ,List.foldl_append];rfl
include hsp
theorem sy:∀ {k:Nat},k≤G.n→G.zP (dr G so k) k∧(dr G so k).cnt+G.iC (dr G so k)≤G.n
 |0,_=>by
  have h0:∀v,G.bK.nm v=0:=fun v=>by
   unfold Sc.nm bK
   rw [List.getD_eq_getElem?_getD,List.getElem?_replicate]
   split<;>rfl
  refine ⟨⟨by simp [bK,dr],by simp [bK,dr],by simp,fun v i a hv=>absurd (h0 v) hv,fun v=>(h0 v).symm ▸ Nat.zero_le _,fun u v hu=>absurd (h0 u) hu,rfl,by simp [bK,dr],fun e=> ?_,by simp [bK,dr]⟩, ?_⟩
  ·simp only [dr,bK,List.range_zero,List.foldl_nil,List.flatten_nil,List.not_mem_nil,false_iff,not_exists,not_and]
   exact fun d a hd=>absurd (h0 d) hd
  ·unfold iC
   have:=List.countP_le_length (l:=List.range G.n) (p:=fun v=>decide ((dr G so 0).nm v=0))
   rw [List.length_range] at this
   have e:(dr G so 0).cnt=0:=rfl
   omega
 |k+1,hk=>by
  obtain ⟨h1,h2⟩:=sy (k:=k) (by omega)
  rw [jO]
  refine ⟨pL hG hsp (by omega) h1, ?_⟩
  unfold l8
  split
  ·rename_i h0
   have:=(nN hG (so:=so) (G.n+1) (dr G so k) k none h1.ln (by omega) h0).cn
   omega
  ·exact h2
omit hG hsp in
theorem wg:∀(f:Nat) (s:Sc) (x:Nat) (az:Option Nat),(∀b∈s.blk,∃l,b=so l)→∀b∈(cI G so f x az s).blk,∃l,b=so l
 |0,s,x,az,h=>h
 |f+1,s,x,az,h=>by
  have key:∀(L:List Nat) (s':Sc),(∀b∈s'.blk,∃l,b=so l)→∀b∈(L.foldl (bW G so (fun y i=>cI G so f y (some i)) x az) s').blk,∃l,b=so l:=by
   intro L
   induction L with
   |nil=>intro s' h;exact h
   |cons i L ih=>
    intro s' h
    refine ih _ ?_
    unfold bW
    split
    ·exact h
    ·split
     ·have h2:=wg f {s' with stk:=s'.stk++ [i]} (G.tU i x) (some i) h
      simp only
      split
      ·intro b hb
       unfold fE at hb
       rcases List.mem_append.1 hb with hb|hb
       ·exact h2 b hb
       ·rw [List.mem_singleton] at hb
        exact ⟨_,hb⟩
      ·exact h2
     ·split
      ·exact h
      ·exact h
  exact key (G.ends x) (jv s x) h
omit hG hsp in
theorem qV:∀ {k:Nat},∀b∈(dr G so k).blk,∃l,b=so l
 |0,b,hb=>by simp [dr,bK] at hb
 |k+1,b,hb=>by
  rw [jO] at hb
  unfold l8 at hb
  split at hb
  ·exact wg _ _ _ _ (fun b hb=>qV b hb) b hb
  ·exact qV b hb
theorem me (hr:∀l,l.Nodup→(so l).Pairwise (· < ·)):(bT G so).Perm G.aB∧(∀b∈bT G so,b≠ []):=by
 obtain ⟨h1,h2,h3⟩:=mE hG hsp
 have hne:∀b∈bT G so,b≠ []:=fun b hb=>by
  obtain ⟨i,_,hi,_⟩:=h3 b hb
  rintro rfl
  simp at hi
 have h4:∀b∈bT G so,b.Pairwise (· < ·):=fun b hb=>by
  obtain ⟨l,rfl⟩:=qV (G:=G) (so:=so) (k:=G.n) b hb
  refine hr l ((hsp l).nodup_iff.1 ?_)
  exact h1.sublist (List.sublist_flatten_of_mem hb)
 refine ⟨?_,hne⟩
 have hp:((bT G so).mergeSort fun a b=>decide (a.headD 0≤b.headD 0)).Perm (bT G so):=List.mergeSort_perm _ _
 have hs:((bT G so).mergeSort fun a b=>decide (a.headD 0≤b.headD 0)).Pairwise fun a b=>decide (a.headD 0≤b.headD 0)=true:=List.pairwise_mergeSort (fun a b c h1 h2=>by simp at h1 h2 ⊢;omega) (fun a b=>by simp;omega) _
 have:=rZ (G:=G) (L:=(bT G so).mergeSort fun a b=>decide (a.headD 0≤b.headD 0)) (hp.flatten.nodup_iff.2 h1) (fun e=>by rw [hp.flatten.mem_iff,h2]) (fun b hb=>h3 b (hp.mem_iff.1 hb)) (fun b hb=>h4 b (hp.mem_iff.1 hb)) (hs.imp fun h=>by simpa using h)
 rw [← this]
 exact hp.symm
omit hG hsp in
theorem wh:(G.aB.map fun b=>b.headD 0).Pairwise (· < ·):=by
 unfold aB
 rw [List.map_map]
 have:((List.range G.m).filter fun i=>G.qF i).map ((fun b:List Nat=>b.headD 0) ∘ G.bC)=(List.range G.m).filter fun i=>G.qF i:=by
  have h:∀i∈(List.range G.m).filter (fun i=>G.qF i),((fun b:List Nat=>b.headD 0) ∘ G.bC) i=id i:=fun i hi=>by
   rw [List.mem_filter,List.mem_range] at hi
   obtain ⟨r,hr⟩:=vB hi.1 hi.2
   show (G.bC i).headD 0=i
   rw [hr];rfl
  rw [List.map_congr_left h,List.map_id]
 rw [this]
 exact iD.filter _
end UG
noncomputable def tD (g:Gr):List (List Nat):=if (aT g&&aR g)=true then (ug g).aB else []
theorem qW (e:Edge):Spec Try.prog 38 (Args [eE e]) [] (eB (decide (e.1=e.2))) []:=by
 (refine Spec.hd (C:=T.cfg [] []) (rs:= [.t 2]) (T.au _ _) Try.func38 rfl rfl Try.ntmps38 Try.results38 (by simp [AObj.isNest]) (by simp [AObj.isNest]) (by kernel_rfl) T.mixed fun X hX hP hC bf dB=> ?_)
 repeat' (first|refine Rn.p ?_|(with_reducible apply And.intro)|((first|(refine hK _ ?_;clear hK K)|with_reducible intro K hK|refine Rs.p ?_|((with_reducible first|apply oP|apply oQ);exact rfl));try simp only [go_sem,simprocAttr])|((with_reducible refine oD ?_ ?_);kernel_rfl)|((with_reducible intro h);try simp only [go_sem,simprocAttr] at h)|omega|intro h)
theorem wj:bu []:=⟨by simp,by simp [nodupM],by simp,by simp⟩
def gW (g:Gr) (s:UG.Sc):List (Nat × AObj):= [(300, .box [eN g.n, .d (sE g.es), .d (sNL ((List.range g.n.toNat).map fun x=>(ug g).ends x)), .ref 301, .ref 302,eN s.cnt, .ref 303, .ref 304]),(301, .own 3 1 (s.num.map rN)),(302, .own 3 1 (s.low.map rN)),(303, .own 3 1 (s.stk.map rN)),(304, .own 25 1 (s.blk.map kz))]
theorem eC (g:Gr) (hlen:g.es.length≤9223372036854775807):Spec Try.prog 16 (Args [eG g]) [] (.d (sNL (tD g))) []:=by
 have hM:=vb g (by omega)
 have Aa:=dS wj 38 [] (fun e=>decide (e.1=e.2)) qW g.es (by omega)
 have hbk:tD g=if (aT g&&aR g)=true then (ug g).aB else []:=rfl
 have hnl:aR g= !(g.es.any fun e=>decide (e.1=e.2)):=rfl
 cases hm:aT g with
 |false=>
  rw [hm] at hM hbk
  have tV:tD g= []:=by rw [hbk];rfl
  rw [tV]
  (refine Spec.hd (C:=T.cfg [] []) (rs:= [.t 2]) (T.au _ _) Try.func16 rfl rfl Try.ntmps16 Try.results16 (by simp [AObj.isNest]) (by simp [AObj.isNest]) (by kernel_rfl) T.mixed fun X hX hP hC bf dB=> ?_)
  repeat' (first|refine Rn.p ?_|(with_reducible apply And.intro)|((first|(refine hK _ ?_;clear hK K)|with_reducible intro K hK|refine Rs.p ?_|((with_reducible first|apply oP|apply oQ);exact rfl)|refine aa hX hC hP (hM) rfl rfl rfl (by simp only [go_sem,simprocAttr]) rfl ?_);try simp only [go_sem,simprocAttr])|((with_reducible refine oD ?_ ?_);kernel_rfl)|((with_reducible intro h);try simp only [go_sem,simprocAttr] at h)|omega|intro h)
 |true=>
 rw [hm] at hM hbk
 generalize hq:(g.es.any fun e=>decide (e.1=e.2))=q at Aa hnl
 cases q with
 |true=>
  rw [hnl] at hbk
  have tV:tD g= []:=by rw [hbk];rfl
  rw [tV]
  (refine Spec.hd (C:=T.cfg [] []) (rs:= [.t 2]) (T.au _ _) Try.func16 rfl rfl Try.ntmps16 Try.results16 (by simp [AObj.isNest]) (by simp [AObj.isNest]) (by kernel_rfl) T.mixed fun X hX hP hC bf dB=> ?_)
  repeat' (first|refine Rn.p ?_|(with_reducible apply And.intro)|((first|(refine hK _ ?_;clear hK K)|with_reducible intro K hK|refine Rs.p ?_|((with_reducible first|apply oP|apply oQ);exact rfl)|refine aa hX hC hP (hM) rfl rfl rfl (by simp only [go_sem,simprocAttr]) rfl ?_|refine aa hX hC hP (Aa) rfl rfl rfl (by simp only [go_sem,simprocAttr]) rfl ?_);try simp only [go_sem,simprocAttr])|((with_reducible refine oD ?_ ?_);kernel_rfl)|((with_reducible intro h);try simp only [go_sem,simprocAttr] at h)|omega|intro h)
 |false=>
 rw [hnl] at hbk
 have hl:aR g=true:=hnl
 have tV:tD g=(ug g).aB:=by rw [hbk];rfl
 rw [tV]
 have hn:=cO hm
 have hG:=mG hm hl
 have hB:=qK g hm hl
 (refine Spec.hd (C:=T.cfg [303,304,305,306] []) (rs:= [.t 2]) (T.au _ _) Try.func16 rfl rfl Try.ntmps16 Try.results16 (by simp [AObj.isNest]) (by simp [AObj.isNest]) (by kernel_rfl) T.mixed fun X hX hP hC bf dB=> ?_)
 repeat' (first|refine Rn.p ?_|(with_reducible apply And.intro)|((first|(refine hK _ ?_;clear hK K)|with_reducible intro K hK|refine Rs.p ?_|((with_reducible first|apply oP|apply oQ);exact rfl)|refine aa hX hC hP (hM) rfl rfl rfl (by simp only [go_sem,simprocAttr,bX]) rfl ?_|refine aa hX hC hP (Aa) rfl rfl rfl (by simp only [go_sem,simprocAttr,bX]) rfl ?_|(refine aZ hX hC hP [(10000,300),(10001,301),(10002,302)] (hB) rfl rfl rfl ?_ ?_ ?_ ?_ ?_ ?_ ?_ ?_ ?_ ?_ ?_ ?_ ?_ ?_;(focus (simp only [go_sem,simprocAttr,bX];done));(iterate 12 (focus (simp [go_sem,simprocAttr,bX];done)));try simp only [List.map_cons,List.map_nil]));try simp only [go_sem,simprocAttr,bX])|((with_reducible refine oD ?_ ?_);kernel_rfl)|((with_reducible intro h);try simp only [go_sem,simprocAttr,bX] at h)|omega|intro h)
 (refine o5 hX 300 6 303 (.own 3 1 []) rfl rfl rfl (by simp only [go_sem,simprocAttr,bX]) (by decide) (by simp [go_sem,simprocAttr,bX]) ⟨3,1,by decide, .inl rfl⟩ ?_;simp only [List.set_cons_zero,List.set_cons_succ,go_sem,simprocAttr,bX])
 (refine o5 hX 300 7 304 (.own 25 1 []) rfl rfl rfl (by simp only [go_sem,simprocAttr,bX]) (by decide) (by simp [go_sem,simprocAttr,bX]) ⟨25,1,by decide, .inl rfl⟩ ?_;simp only [List.set_cons_zero,List.set_cons_succ,go_sem,simprocAttr,bX])
 have h0:UG.dr (ug g) ez 0=⟨List.replicate g.n.toNat 0,List.replicate g.n.toNat 0,0, [], []⟩:=rfl
 have hN:UG.dr (ug g) ez g.n.toNat=(List.range (ug g).n).foldl (UG.l8 (ug g) ez) (UG.bK (ug g)):=rfl
 refine ah (fun k:Nat=>k≤g.n.toNat) (fun k=>⟨[(3, .ptr 300 0),(16,eN g.n),(17,eN k)],gW g (UG.dr (ug g) ez k)⟩) (fun k=>g.n.toNat - k) 0 (Nat.zero_le _) ?_ ?_
 ·rw [h0]
  refine Le.of ?_ ?_<;>simp [go_sem,simprocAttr,bX,gW]
 rintro k hk
 obtain ⟨hT,mU⟩:=UG.sy hG gN hk
 rcases Nat.lt_or_ge k g.n.toNat with hlt|hge
 rotate_left
 ·have hb:decide ((k:Int)<g.n)=false:=decide_eq_false (by omega)
  obtain rfl:k=g.n.toNat:=by omega
  obtain ⟨Dg,hne⟩:=UG.me hG gN yd
  have ec:(UG.dr (ug g) ez g.n.toNat).blk=UG.bT (ug g) ez:=rfl
  have tv:=UG.wh (G:=ug g)
  have wk:(UG.bT (ug g) ez).length≤1000000:=by
   rw [Dg.length_eq]
   have:=fc (G:=ug g)
   have:(ug g).m=g.es.length:=rfl
   omega
  have hS:=qU Dg hne (by
   have h1:((ug g).aB.map ic).Nodup:=by
    have:(ug g).aB.map ic=((ug g).aB.map fun b=>b.headD 0).map fun n:Nat=>(n:Int):=by rw [List.map_map];rfl
    rw [this]
    unfold List.Nodup
    rw [List.pairwise_map]
    exact tv.imp fun h=>by omega
   exact (Dg.map ic).nodup_iff.2 h1) (by
   rw [List.pairwise_map] at tv
   exact tv.imp fun h=>by unfold ic;omega) (fun b hb=>by
   have h1:=Dg.mem_iff.1 hb
   obtain ⟨i,r,e1,e2,_⟩:=UG.vC (UG.lI h1).1 (UG.lI h1).2
   have:(ug g).m=g.es.length:=rfl
   rw [e1]
   unfold ic
   simp only [List.headD_cons]
   omega) wk
  rw [← ec] at hS
  generalize UG.dr (ug g) ez g.n.toNat=s1 at hS ⊢
  repeat' (first|refine Rn.p ?_|(with_reducible apply And.intro)|((first|(refine hK _ ?_;clear hK K)|with_reducible intro K hK|refine Rs.p ?_|((with_reducible first|apply oP|apply oQ);exact rfl)|(refine aZ hX hC hP [(10000,304)] (hS) rfl rfl rfl ?_ ?_ ?_ ?_ ?_ ?_ ?_ ?_ ?_ ?_ ?_ ?_ ?_ ?_;(focus (simp only [go_sem,simprocAttr,gW,hb];done));(iterate 12 (focus (simp [go_sem,simprocAttr,gW,hb];done)));try simp only [List.map_cons,List.map_nil]));try simp only [go_sem,simprocAttr,gW,hb])|((with_reducible refine oD ?_ ?_);kernel_rfl)|((with_reducible intro h);try simp only [go_sem,simprocAttr,gW,hb] at h)|omega|intro h)
 have hb:decide ((k:Int)<g.n)=true:=decide_eq_true (by omega)
 have bz:=UG.jO (G:=ug g) (so:=ez) (k:=k)
 have hkn:k<(ug g).n:=hlt
 have hbd:=UG.z8 hG hT mU
 have Ft:=fun h=>UG.yh hG hkn hT h
 have eA:decide ((((UG.dr (ug g) ez k).num.getD k 0:Nat):Int)=0)=decide ((UG.dr (ug g) ez k).num.getD k 0=0):=Cs
 have fP:(UG.dr (ug g) ez k).num.length=g.n.toNat:=hT.ln
 generalize UG.dr (ug g) ez k=s at*
 generalize Gx:UG.dr (ug g) ez (k+1)=s' at bz
 unfold UG.l8 at bz
 by_cases hz:s.nm k=0
 rotate_left
 ·rw [if_neg hz] at bz
  have xh:¬s.num.getD k 0=0:=hz
  rw [decide_eq_false xh] at eA
  repeat' (first|refine Rn.p ?_|(with_reducible apply And.intro)|((first|(refine hK _ ?_;clear hK K)|with_reducible intro K hK|refine Rs.p ?_|((with_reducible first|apply oP|apply oQ);exact rfl));try simp only [go_sem,simprocAttr,gW,hb,eA,fP])|((with_reducible refine oD ?_ ?_);kernel_rfl)|((with_reducible intro h);try simp only [go_sem,simprocAttr,gW,hb,eA,fP] at h)|omega|intro h)
  refine ⟨k+1,by omega, ?_,by omega⟩
  rw [Gx,bz]
  refine Le.of ?_ ?_<;>simp [go_sem,simprocAttr,gW,hb,eA,fP]
 rw [if_pos hz] at bz
 have xh:s.num.getD k 0=0:=hz
 rw [decide_eq_true xh] at eA
 have hun:(ug g).iC s≤(ug g).n+1:=by
  unfold UG.iC
  have:=List.countP_le_length (l:=List.range (ug g).n) (p:=fun v=>decide (s.nm v=0))
  rw [List.length_range] at this
  omega
 have hV:=lP g hm hl ((ug g).n+1) s k none [] hun (Ft hz) hbd
 rw [show yR none=(-1:Int) from rfl, ← bz] at hV
 repeat' (first|(show bB _ (.region 9 _ _) _ _;(refine cc hX 300 6 305 303 rfl rfl rfl (by first|exact .inl rfl|exact .inr rfl) (by decide) (by decide) ?_;simp only [List.set_cons_zero,List.set_cons_succ,go_sem,simprocAttr,gW,aS,bX,hb,eA,fP]);(refine cc hX 300 7 306 304 rfl rfl rfl (by first|exact .inl rfl|exact .inr rfl) (by decide) (by decide) ?_;simp only [List.set_cons_zero,List.set_cons_succ,go_sem,simprocAttr,gW,aS,bX,hb,eA,fP]))|refine Rn.p ?_|(with_reducible apply And.intro)|((first|(refine hK _ ?_;clear hK K)|with_reducible intro K hK|refine Rs.p ?_|((with_reducible first|apply oP|apply oQ);exact rfl)|(refine aZ hX hC hP [(10000,300),(10001,301),(10002,302),(10003,303),(10004,304),(10005,305),(10006,306)] (hV) rfl rfl rfl ?_ ?_ ?_ ?_ ?_ ?_ ?_ ?_ ?_ ?_ ?_ ?_ ?_ ?_;(focus (simp only [go_sem,simprocAttr,gW,aS,bX,hb,eA,fP];done));(iterate 12 (focus (simp [go_sem,simprocAttr,gW,aS,bX,hb,eA,fP];done)));try simp only [List.map_cons,List.map_nil]));try simp only [go_sem,simprocAttr,gW,aS,bX,hb,eA,fP])|((with_reducible refine oD ?_ ?_);kernel_rfl)|((with_reducible intro h);try simp only [go_sem,simprocAttr,gW,aS,bX,hb,eA,fP] at h)|omega|intro h)
 refine ⟨k+1,by omega, ?_,by omega⟩
 rw [Gx]
 refine Le.of ?_ ?_<;>simp [go_sem,simprocAttr,gW,aS,bX,hb,eA,fP]
end Go.Ab
end
section
namespace Go.Ab
open Go.Proofs
attribute [local congr] ACall.congr gd.congr Nx.congr
set_option maxRecDepth 20000
set_option maxHeartbeats 16000000
def qg (g:Gr) (L:List (List Nat)) (k:Nat) (P:Nat→Bool) (v:Nat):List Nat:=((List.range k).filter fun q=>(ug g).bw (L.getD q []) v)++if P v=true then [k] else []
def bn (g:Gr) (L:List (List Nat)) (k:Nat) (P:Nat→Bool):List (List (List D)):=(List.range g.n.toNat).map fun v=>(qg g L k P v).map rN
def kB (g:Gr) (L:List (List Nat)):List (List Nat):=(List.range g.n.toNat).map fun v=>(List.range L.length).filter fun q=>(ug g).bw (L.getD q []) v
theorem fe {g:Gr} {L:List (List Nat)} {k:Nat} {P:Nat→Bool} :(bn g L k P).length=g.n.toNat:=by simp [bn]
theorem gO {g:Gr} {L:List (List Nat)} {k v:Nat} {P:Nat→Bool} (hv:v<g.n.toNat):(bn g L k P)[v]? =some ((qg g L k P v).map rN):=by
 simp [bn,List.getElem?_range hv]
theorem yj {g:Gr} {L:List (List Nat)} {k v:Nat} {P:Nat→Bool} :k∈qg g L k P v↔P v=true:=by
 unfold qg
 rw [List.mem_append,List.mem_filter,List.mem_range]
 constructor
 ·rintro (⟨h,_⟩|h)
  ·omega
  ·split at h
   ·assumption
   ·simp at h
 ·intro h
  right
  rw [if_pos h];simp
theorem yl {g:Gr} {L:List (List Nat)} {k v:Nat} {P:Nat→Bool} :(qg g L k P v).length≤k+1:=by
 unfold qg
 rw [List.length_append]
 have:=List.length_filter_le (fun q=>(ug g).bw (L.getD q []) v) (List.range k)
 rw [List.length_range] at this
 have h2:(if P v=true then [k] else []).length≤1:=by split<;>simp
 omega
theorem cH {g:Gr} {L:List (List Nat)} {k:Nat} {P Q:Nat→Bool} (h:∀v,P v=Q v):bn g L k P=bn g L k Q:=by
 have:P=Q:=funext h
 rw [this]
theorem tE {g:Gr} {L:List (List Nat)} {k x:Nat} {P:Nat→Bool} (hx:x<g.n.toNat) (hP:P x=false):(bn g L k P).set x ((qg g L k P x).map rN++ [[.sc (.int .i64 (k:Int))]])=bn g L k fun v=>P v||decide (v=x):=by
 refine List.ext_getElem? fun i=> ?_
 rw [List.getElem?_set,fe]
 by_cases hi:i<g.n.toNat
 ·rw [gO hi,gO hi]
  by_cases e:x=i
  ·subst e
   rw [if_pos rfl,if_pos hx]
   unfold qg
   simp [hP,rN]
  ·rw [if_neg e]
   unfold qg
   have:decide (i=x)=false:=decide_eq_false (Ne.symm e)
   simp [this]
 ·rw [List.getElem?_eq_none (by rw [fe];omega),List.getElem?_eq_none (by rw [fe];omega)]
  split
  ·omega
  ·rfl
theorem qX {g:Gr} {L:List (List Nat)} :List.replicate g.n.toNat []=bn g L 0 fun _=>false:=by
 refine List.ext_getElem? fun i=> ?_
 by_cases hi:i<g.n.toNat
 ·rw [gO hi];simp [hi,qg]
 ·rw [List.getElem?_eq_none (by simp;omega),List.getElem?_eq_none (by rw [fe];omega)]
theorem pW {g:Gr} {L:List (List Nat)} {k:Nat} :bn g L k (fun v=>(ug g).bw (L.getD k []) v)=bn g L (k+1) fun _=>false:=by
 unfold bn qg
 refine List.map_congr_left fun v _=> ?_
 show (((List.range k).filter fun q=>(ug g).bw (L.getD q []) v)++(if (ug g).bw (L.getD k []) v=true then [k] else [])).map rN=(((List.range (k+1)).filter fun q=>(ug g).bw (L.getD q []) v)++(if false=true then [k+1] else [])).map rN
 rw [List.range_succ,List.filter_append,List.filter_cons]
 generalize (ug g).bw (L.getD k []) v=q
 cases q<;>simp
theorem tF {g:Gr} {L:List (List Nat)} :(bn g L L.length fun _=>false).map (fun r=> [D.sl 1 r])=(kB g L).map kz:=by
 unfold bn kB qg
 rw [List.map_map,List.map_map]
 refine List.map_congr_left fun v _=> ?_
 simp [kz,sN]
theorem gC (ps:List Nat) (x:Nat) (hl:ps.length≤9223372036854775807):Spec Try.prog 50 (Args [.d (sN ps),eN x]) [] (eB (decide (x∈ps))) []:=by
 have h:=lE (nI ps) (x:Int) (by rw [nI,List.length_map];exact hl)
 have e:decide ((x:Int)∈nI ps)=decide (x∈ps):=by
  rw [decide_eq_decide]
  unfold nI
  rw [List.mem_map]
  constructor
  ·rintro ⟨y,hy,e⟩
   have:y=x:=by omega
   rw [← this];exact hy
  ·intro h;exact ⟨x,h,rfl⟩
 rw [← mJ,e] at h
 exact h
theorem pX (g:Gr) (hm:aT g=true) (L:List (List Nat)) (hL:∀b∈L,(∀i∈b,i<g.es.length)∧b.length≤1000) (Dh:L.length≤1000):Spec Try.prog 46 (Args [eG g, .d (sNL L)]) [] (.d (sNL (kB g L))) []:=by
 have hn:=cO hm
 (refine Spec.hd (C:=T.cfg [] [14]) (rs:= [.t 4]) (T.au _ _) Try.func46 rfl rfl Try.ntmps46 Try.results46 (by simp [AObj.isNest]) (by simp [AObj.isNest]) (by kernel_rfl) T.mixed fun X hX hP hC bf dB=> ?_)
 repeat' (first|refine Rn.p ?_|(with_reducible apply And.intro)|((first|(refine hK _ ?_;clear hK K)|with_reducible intro K hK|refine Rs.p ?_|((with_reducible first|apply oP|apply oQ);exact rfl));try simp only [go_sem,simprocAttr])|((with_reducible refine oD ?_ ?_);first|(focus (simp only [jU,bR,bV,meets,cM,cm,iz,aU,cT,cN,Rec.rs,Rec.fT,Rec.oM,bh,Rec.aO,Rec.names,KV.ids,dM,dN,dO,dP,dQ,dR,List.zip_cons_cons,List.zip_nil_right,List.zipIdx_cons,List.zipIdx_nil,List.all_cons,List.all_nil,List.contains_cons,List.contains_nil,List.any_cons,List.any_nil,List.flatMap_nil,List.reverse_cons,List.reverse_nil,ee,fh,Region.binds,go_sem,simprocAttr];done))|kernel_rfl)|((with_reducible intro h);try simp only [go_sem,simprocAttr] at h)|omega|intro h)
 refine o4 hX 14 (by simp [go_sem,simprocAttr];exact ⟨rfl,rfl,rfl,rfl⟩) (by decide) (by simp [go_sem,simprocAttr]) (by simp [go_sem,simprocAttr]) ?_
 simp only [go_sem,simprocAttr]
 refine ah (fun k:Nat=>k≤L.length) (fun k=>⟨[(2, .ptr 2 0),(5, .ref 14),(15, .d (sNL L)),(16,eN L.length),(17,eN k)], [(14, .nest 25 3 1 (bn g L k fun _=>false) none),(2, .box [eN g.n, .d (sE g.es)])]⟩) (fun k=>L.length - k) 0 (Nat.zero_le _) ?_ ?_
 ·rw [← qX]
  refine Le.of ?_ ?_<;>simp [go_sem,simprocAttr]
 rintro k hk
 rcases Nat.lt_or_ge k L.length with hlt|hge
 rotate_left
 ·have hb:decide ((k:Int)<(L.length:Int))=false:=decide_eq_false (by omega)
  obtain rfl:k=L.length:=by omega
  (refine o7 hX 14 rfl (by decide) ?_;simp only [go_sem,simprocAttr,hb])
  rw [tF]
  repeat' (first|refine Rn.p ?_|(with_reducible apply And.intro)|((first|(refine hK _ ?_;clear hK K)|with_reducible intro K hK|refine Rs.p ?_|((with_reducible first|apply oP|apply oQ);exact rfl));try simp only [go_sem,simprocAttr,hb])|((with_reducible refine oD ?_ ?_);first|(focus (simp only [jU,bR,bV,meets,cM,cm,iz,aU,cT,cN,Rec.rs,Rec.fT,Rec.oM,bh,Rec.aO,Rec.names,KV.ids,dM,dN,dO,dP,dQ,dR,List.zip_cons_cons,List.zip_nil_right,List.zipIdx_cons,List.zipIdx_nil,List.all_cons,List.all_nil,List.contains_cons,List.contains_nil,List.any_cons,List.any_nil,List.flatMap_nil,List.reverse_cons,List.reverse_nil,ee,fh,Region.binds,go_sem,simprocAttr,hb];done))|kernel_rfl)|((with_reducible intro h);try simp only [go_sem,simprocAttr,hb] at h)|omega|intro h)
 have hb:decide ((k:Int)<(L.length:Int))=true:=decide_eq_true (by omega)
 obtain ⟨Gy,ec⟩:=hL _ (dg [] hlt)
 have hblk:=pW (g:=g) (L:=L) (k:=k)
 have hstart:(bn g L k fun _=>false)=bn g L k fun v=>(ug g).bw ((L.getD k []).take 0) v:=cH fun v=>rfl
 rw [hstart]
 obtain ⟨b,tV⟩:∃b,L.getD k []=b:=⟨_,rfl⟩
 rw [tV] at Gy ec hblk ⊢
 repeat' (first|refine Rn.p ?_|(with_reducible apply And.intro)|((first|(refine hK _ ?_;clear hK K)|with_reducible intro K hK|refine Rs.p ?_|((with_reducible first|apply oP|apply oQ);exact rfl));try simp only [go_sem,simprocAttr,hb,tV])|((with_reducible refine oD ?_ ?_);first|(focus (simp only [jU,bR,bV,meets,cM,cm,iz,aU,cT,cN,Rec.rs,Rec.fT,Rec.oM,bh,Rec.aO,Rec.names,KV.ids,dM,dN,dO,dP,dQ,dR,List.zip_cons_cons,List.zip_nil_right,List.zipIdx_cons,List.zipIdx_nil,List.all_cons,List.all_nil,List.contains_cons,List.contains_nil,List.any_cons,List.any_nil,List.flatMap_nil,List.reverse_cons,List.reverse_nil,ee,fh,Region.binds,go_sem,simprocAttr,hb,tV];done))|kernel_rfl)|((with_reducible intro h);try simp only [go_sem,simprocAttr,hb,tV] at h)|omega|intro h)
 clear hb
 refine ah (fun j:Nat=>j≤b.length) (fun j=>⟨[(2, .ptr 2 0),(5, .ref 14),(15, .d (sNL L)),(16,eN L.length),(17,eN k),(6,eN k),(22, .d (sN b)),(23,eN b.length),(24,eN j)], [(14, .nest 25 3 1 (bn g L k fun v=>(ug g).bw (b.take j) v) none),(2, .box [eN g.n, .d (sE g.es)])]⟩) (fun j=>b.length - j) 0 (Nat.zero_le _) ?_ ?_
 ·refine Le.of ?_ ?_<;>simp [go_sem,simprocAttr]
 rintro j hj
 rcases Nat.lt_or_ge j b.length with hlj|Di
 rotate_left
 ·have hb:decide ((j:Int)<(b.length:Int))=false:=decide_eq_false (by omega)
  obtain rfl:j=b.length:=by omega
  rw [List.take_length,hblk]
  repeat' (first|refine Rn.p ?_|(with_reducible apply And.intro)|((first|(refine hK _ ?_;clear hK K)|with_reducible intro K hK|refine Rs.p ?_|((with_reducible first|apply oP|apply oQ);exact rfl));try simp only [go_sem,simprocAttr,hb])|((with_reducible refine oD ?_ ?_);first|(focus (simp only [jU,bR,bV,meets,cM,cm,iz,aU,cT,cN,Rec.rs,Rec.fT,Rec.oM,bh,Rec.aO,Rec.names,KV.ids,dM,dN,dO,dP,dQ,dR,List.zip_cons_cons,List.zip_nil_right,List.zipIdx_cons,List.zipIdx_nil,List.all_cons,List.all_nil,List.contains_cons,List.contains_nil,List.any_cons,List.any_nil,List.flatMap_nil,List.reverse_cons,List.reverse_nil,ee,fh,Region.binds,go_sem,simprocAttr,hb];done))|kernel_rfl)|((with_reducible intro h);try simp only [go_sem,simprocAttr,hb] at h)|omega|intro h)
  refine ⟨k+1,by omega, ?_,by omega⟩
  refine Le.of ?_ ?_<;>simp [go_sem,simprocAttr,hb]
 have hb:decide ((j:Int)<(b.length:Int))=true:=decide_eq_true (by omega)
 obtain ⟨i,hi⟩:∃i,b.getD j 0=i:=⟨_,rfl⟩
 have him:i<g.es.length:=Gy i (by rw [← hi];exact dg 0 hlj)
 obtain ⟨mX,qd⟩:=dU hm him
 obtain ⟨u,hu⟩:∃u:Nat,(g.es.getD i (0,0)).1=u:=⟨(g.es.getD i (0,0)).1.toNat,by omega⟩
 obtain ⟨w,hw⟩:∃v:Nat,(g.es.getD i (0,0)).2=v:=⟨(g.es.getD i (0,0)).2.toNat,by omega⟩
 have gR:(ug g).T i=u:=by show ((g.es.getD i (0,0)).1).toNat=u;rw [hu];rfl
 have hhi:(ug g).H i=w:=by show ((g.es.getD i (0,0)).2).toNat=w;rw [hw];rfl
 have hun:u<g.n.toNat:=by omega
 have hwn:w<g.n.toNat:=by omega
 have DQ:∀v,(ug g).bw (b.take (j+1)) v=(((ug g).bw (b.take j) v||decide (v=u))||decide (v=w)):=fun v=>by
  unfold UG.bw
  rw [gM 0 hlj,hi,gR,hhi,Bool.or_assoc]
  congr 2
  ·exact decide_eq_decide.2 eq_comm
  ·exact decide_eq_decide.2 eq_comm
 generalize Ip:(fun v=>(ug g).bw (b.take j) v)=P0
 have bz:(bn g L k fun v=>(ug g).bw (b.take (j+1)) v)=bn g L k fun v=>((P0 v||decide (v=u))||decide (v=w)):=cH fun v=>by rw [DQ v, ← Ip]
 obtain ⟨PE,CA⟩:∃PE:Nat→Nat→Bool,PE=fun e v=>if e=0 then P0 v else if e=1 then (P0 v||decide (v=u)) else ((P0 v||decide (v=u))||decide (v=w)):=⟨_,rfl⟩
 have AB:bn g L k P0=bn g L k (PE 0):=cH fun v=>by rw [CA];rfl
 have C6:bn g L k (PE 2)=bn g L k fun v=>((P0 v||decide (v=u))||decide (v=w)):=cH fun v=>by rw [CA];rfl
 rw [← C6] at bz
 rw [AB]
 repeat' (first|refine Rn.p ?_|(with_reducible apply And.intro)|((first|(refine hK _ ?_;clear hK K)|with_reducible intro K hK|refine Rs.p ?_|((with_reducible first|apply oP|apply oQ);exact rfl));try simp only [go_sem,simprocAttr,hb,hi,hu,hw])|((with_reducible refine oD ?_ ?_);first|(focus (simp only [jU,bR,bV,meets,cM,cm,iz,aU,cT,cN,Rec.rs,Rec.fT,Rec.oM,bh,Rec.aO,Rec.names,KV.ids,dM,dN,dO,dP,dQ,dR,List.zip_cons_cons,List.zip_nil_right,List.zipIdx_cons,List.zipIdx_nil,List.all_cons,List.all_nil,List.contains_cons,List.contains_nil,List.any_cons,List.any_nil,List.flatMap_nil,List.reverse_cons,List.reverse_nil,ee,fh,Region.binds,go_sem,simprocAttr,hb,hi,hu,hw];done))|kernel_rfl)|((with_reducible intro h);try simp only [go_sem,simprocAttr,hb,hi,hu,hw] at h)|omega|intro h)
 clear hb
 refine ah (fun e:Nat=>e≤2) (fun e=>⟨[(2, .ptr 2 0),(5, .ref 14),(15, .d (sNL L)),(16,eN L.length),(17,eN k),(6,eN k),(22, .d (sN b)),(23,eN b.length),(24,eN j),(40, .agg [eN u,eN w]),(41,eN e)], [(14, .nest 25 3 1 (bn g L k (PE e)) none),(2, .box [eN g.n, .d (sE g.es)])]⟩) (fun e=>2 - e) 0 (by omega) ?_ ?_
 ·refine Le.of ?_ ?_<;>simp [go_sem,simprocAttr]
 rintro e he
 rcases Nat.lt_or_ge e 2 with hle|Fg
 rotate_left
 ·have hb:decide ((e:Int)<2)=false:=decide_eq_false (by omega)
  obtain rfl:e=2:=by omega
  repeat' (first|refine Rn.p ?_|(with_reducible apply And.intro)|((first|(refine hK _ ?_;clear hK K)|with_reducible intro K hK|refine Rs.p ?_|((with_reducible first|apply oP|apply oQ);exact rfl));try simp only [go_sem,simprocAttr,hb])|((with_reducible refine oD ?_ ?_);first|(focus (simp only [jU,bR,bV,meets,cM,cm,iz,aU,cT,cN,Rec.rs,Rec.fT,Rec.oM,bh,Rec.aO,Rec.names,KV.ids,dM,dN,dO,dP,dQ,dR,List.zip_cons_cons,List.zip_nil_right,List.zipIdx_cons,List.zipIdx_nil,List.all_cons,List.all_nil,List.contains_cons,List.contains_nil,List.any_cons,List.any_nil,List.flatMap_nil,List.reverse_cons,List.reverse_nil,ee,fh,Region.binds,go_sem,simprocAttr,hb];done))|kernel_rfl)|((with_reducible intro h);try simp only [go_sem,simprocAttr,hb] at h)|omega|intro h)
  refine ⟨j+1,by omega, ?_,by omega⟩
  rw [bz]
  refine Le.of ?_ ?_<;>simp [go_sem,simprocAttr,hb]
 have hb:decide ((e:Int)<2)=true:=decide_eq_true (by omega)
 obtain ⟨x,hx⟩:∃x:Nat,([eN u,eN w][e]? :Option AV)=some (eN x)∧x<g.n.toNat∧∀v,PE (e+1) v=(PE e v||decide (v=x)):=by
  match e,hle with
  |0,_=>exact ⟨u,rfl,hun,fun v=>by rw [CA];rfl⟩
  |1,_=>exact ⟨w,rfl,hwn,fun v=>by rw [CA];rfl⟩
 obtain ⟨hx1,BS,Fu⟩:=hx
 simp only [eN] at hx1
 have gT:=gO (g:=g) (L:=L) (k:=k) (P:=PE e) BS
 have hrl:=fe (g:=g) (L:=L) (k:=k) (P:=PE e)
 have Gt:=yl (g:=g) (L:=L) (k:=k) (v:=x) (P:=PE e)
 have ym:=gC (qg g L k (PE e) x) k (by omega)
 have Iq:decide (k∈qg g L k (PE e) x)=PE e x:=by
  rw [Bool.eq_iff_iff,decide_eq_true_eq];exact yj
 rw [Iq] at ym
 have CB:=tE (g:=g) (L:=L) (k:=k) (P:=PE e) BS
 have hsame:PE e x=true→bn g L k (PE (e+1))=bn g L k (PE e):=fun h=>cH fun v=>by
  rw [Fu]
  by_cases e1:v=x
  ·rw [e1,h];rfl
  ·rw [decide_eq_false e1,Bool.or_false]
 have hnew:PE e x=false→bn g L k (PE (e+1))=(bn g L k (PE e)).set x ((qg g L k (PE e) x).map rN++ [[.sc (.int .i64 (k:Int))]]):=fun h=>by
  rw [CB h]
  exact cH Fu
 clear CB Fu AB C6 CA
 generalize Dj:bn g L k (PE (e+1))=R1 at hsame hnew
 have Gu:(x:Int)=x:=rfl
 generalize hq:PE e x=q at ym hsame hnew
 generalize bn g L k (PE e)=R0 at*
 generalize qg g L k (PE e) x=r0 at*
 cases q with
 |true=>
  rw [hsame rfl] at Dj
  repeat' (first|refine Rn.p ?_|(with_reducible apply And.intro)|((first|(refine hK _ ?_;clear hK K)|with_reducible intro K hK|refine Rs.p ?_|((with_reducible first|apply oP|apply oQ);exact rfl)|(refine o8 hX hC hP 14 (ym) rfl rfl rfl rfl ?_ (by decide) ?_ ?_ rfl ?_;(iterate 2 (focus (simp only [go_sem,simprocAttr,hb,hx1,gT,hrl,Nat.mul_one];done)));(focus (intro a ha;simp only [List.mem_cons,List.not_mem_nil,or_false] at ha;exact ⟨_,ha⟩))));try simp only [go_sem,simprocAttr,hb,hx1,gT,hrl,Nat.mul_one])|((with_reducible refine oD ?_ ?_);first|(focus (simp only [jU,bR,bV,meets,cM,cm,iz,aU,cT,cN,Rec.rs,Rec.fT,Rec.oM,bh,Rec.aO,Rec.names,KV.ids,dM,dN,dO,dP,dQ,dR,List.zip_cons_cons,List.zip_nil_right,List.zipIdx_cons,List.zipIdx_nil,List.all_cons,List.all_nil,List.contains_cons,List.contains_nil,List.any_cons,List.any_nil,List.flatMap_nil,List.reverse_cons,List.reverse_nil,ee,fh,Region.binds,go_sem,simprocAttr,hb,hx1,gT,hrl,Nat.mul_one];done))|kernel_rfl)|((with_reducible intro h);try simp only [go_sem,simprocAttr,hb,hx1,gT,hrl,Nat.mul_one] at h)|omega|intro h)
  refine ⟨e+1,by omega, ?_,by omega⟩
  rw [Dj]
  refine Le.of ?_ ?_<;>simp [go_sem,simprocAttr,hb,hx1,gT,hrl,Nat.mul_one]
 |false=>
  rw [hnew rfl] at Dj
  repeat' (first|refine Rn.p ?_|(with_reducible apply And.intro)|((first|(refine hK _ ?_;clear hK K)|with_reducible intro K hK|refine Rs.p ?_|((with_reducible first|apply oP|apply oQ);exact rfl)|(refine o8 hX hC hP 14 (ym) rfl rfl rfl rfl ?_ (by decide) ?_ ?_ rfl ?_;(iterate 2 (focus (simp only [go_sem,simprocAttr,hb,hx1,gT,hrl,Nat.mul_one];done)));(focus (intro a ha;simp only [List.mem_cons,List.not_mem_nil,or_false] at ha;exact ⟨_,ha⟩))));try simp only [go_sem,simprocAttr,hb,hx1,gT,hrl,Nat.mul_one])|((with_reducible refine oD ?_ ?_);first|(focus (simp only [jU,bR,bV,meets,cM,cm,iz,aU,cT,cN,Rec.rs,Rec.fT,Rec.oM,bh,Rec.aO,Rec.names,KV.ids,dM,dN,dO,dP,dQ,dR,List.zip_cons_cons,List.zip_nil_right,List.zipIdx_cons,List.zipIdx_nil,List.all_cons,List.all_nil,List.contains_cons,List.contains_nil,List.any_cons,List.any_nil,List.flatMap_nil,List.reverse_cons,List.reverse_nil,ee,fh,Region.binds,go_sem,simprocAttr,hb,hx1,gT,hrl,Nat.mul_one];done))|kernel_rfl)|((with_reducible intro h);try simp only [go_sem,simprocAttr,hb,hx1,gT,hrl,Nat.mul_one] at h)|omega|intro h)
  refine ⟨e+1,by omega, ?_,by omega⟩
  rw [Dj]
  refine Le.of ?_ ?_<;>simp [go_sem,simprocAttr,hb,hx1,gT,hrl,Nat.mul_one]
end Go.Ab
end
section
namespace Go.Ab
open Go.Proofs
attribute [local congr] ACall.congr gd.congr Nx.congr
set_option maxRecDepth 20000
set_option maxHeartbeats 16000000
theorem qY {g:Gr} {L:List (List Nat)} {v:Nat} :∀ {k:Nat},k≤L.length→((List.range k).filter fun q=>(ug g).bw (L.getD q []) v).length=fI g L v k
 |0,_=>by simp [fI]
 |k+1,hk=>by
  rw [mI (by omega),List.range_succ,List.filter_append,List.length_append,qY (by omega),List.filter_cons]
  generalize (ug g).bw (L.getD k []) v=q
  cases q<;>simp
theorem jP {g:Gr} {L:List (List Nat)} {v:Nat} (hv:v<g.n.toNat):(kB g L).getD v []=(List.range L.length).filter fun q=>(ug g).bw (L.getD q []) v:=by
 simp only [kB,List.getD_eq_getElem?_getD,List.getElem?_map,List.getElem?_range hv,Option.map_some,Option.getD_some]
theorem sC {g:Gr} {L:List (List Nat)} :(kB g L).length=g.n.toNat:=by simp [kB]
noncomputable def Ac (g:Gr):List Nat:=if (aT g&&aR g)=true then fO g else []
theorem js {g:Gr} (h:(aT g&&aR g)=true):tD g=(ug g).aB:=by unfold tD;rw [if_pos h]
theorem Ad {g:Gr} (h:(aT g&&aR g)=false):tD g= []:=by unfold tD;rw [if_neg (by rw [h];decide)]
theorem nO {g:Gr} (h:(aT g&&aR g)=true):Ac g=fO g:=by unfold Ac;rw [if_pos h]
theorem Ae {g:Gr} (h:(aT g&&aR g)=false):Ac g= []:=by unfold Ac;rw [if_neg (by rw [h];decide)]
theorem wm {g:Gr} (h:(ug g).aB= []):fO g= []:=by
 unfold fO dn
 rw [h]
 refine List.filter_eq_nil_iff.2 fun x _=> ?_
 simp [fI]
theorem jQ (g:Gr):∀b∈(ug g).aB,(∀i∈b,i<g.es.length)∧b.length≤g.es.length:=fun b hb=>⟨fun i hi=>UG.gK hb hi,su hb⟩
theorem tG (g:Gr) (hlen:g.es.length≤9223372036854775807):Spec Try.prog 19 (Args [eG g]) [] (.d (sN (Ac g))) []:=by
 have nU:=eC g hlen
 have done:tD g= []→Ac g= []:=fun h=>by
  cases hq:(aT g&&aR g) with
  |true=>rw [nO hq];rw [js hq] at h;exact wm h
  |false=>exact Ae hq
 by_cases hz:tD g= []
 ·rw [done hz]
  rw [hz] at nU
  (refine Spec.hd (C:=T.cfg [] []) (rs:= [.t 2]) (T.au _ _) Try.func19 rfl rfl Try.ntmps19 Try.results19 (by simp [AObj.isNest]) (by simp [AObj.isNest]) (by kernel_rfl) T.mixed fun X hX hP hC bf dB=> ?_)
  repeat' (first|refine Rn.p ?_|(with_reducible apply And.intro)|((first|(refine hK _ ?_;clear hK K)|with_reducible intro K hK|refine Rs.p ?_|((with_reducible first|apply oP|apply oQ);exact rfl)|refine aa hX hC hP (nU) rfl rfl rfl (by simp only [go_sem,simprocAttr]) rfl ?_);try simp only [go_sem,simprocAttr])|((with_reducible refine oD ?_ ?_);kernel_rfl)|((with_reducible intro h);try simp only [go_sem,simprocAttr] at h)|omega|intro h)
 have hq:(aT g&&aR g)=true:=by
  cases hq:(aT g&&aR g) with
  |true=>rfl
  |false=>exact absurd (Ad hq) hz
 rw [nO hq]
 rw [js hq] at nU hz
 rw [Bool.and_eq_true] at hq
 obtain ⟨hm,hl⟩:=hq
 have hn:=cO hm
 have Dh:(ug g).aB.length≤g.es.length:=fc
 have yN:=pX g hm (ug g).aB (fun b hb=>⟨(jQ g b hb).1,by have:=(jQ g b hb).2;omega⟩) (by omega)
 have gr:decide (((ug g).aB.length:Int)=0)=false:=decide_eq_false (by
  intro e
  exact hz (List.eq_nil_of_length_eq_zero (by omega)))
 have fV:dn g g.n.toNat=fO g:=rfl
 have ec:=sC (g:=g) (L:=(ug g).aB)
 (refine Spec.hd (C:=T.cfg [] []) (rs:= [.t 2]) (T.au _ _) Try.func19 rfl rfl Try.ntmps19 Try.results19 (by simp [AObj.isNest]) (by simp [AObj.isNest]) (by kernel_rfl) T.mixed fun X hX hP hC bf dB=> ?_)
 repeat' (first|(show bB _ (.seq (.region 4 _ _) _) _ _;(refine xP hX 2 200 (.tip 3 1 []) ?_ ?_ (by decide) ⟨3,1,by decide, .inr rfl⟩ ?_;(iterate 2 (focus (simp only [go_sem,simprocAttr,gr];done)));simp only [go_sem,simprocAttr,gr]))|refine Rn.p ?_|(with_reducible apply And.intro)|((first|(refine hK _ ?_;clear hK K)|with_reducible intro K hK|refine Rs.p ?_|((with_reducible first|apply oP|apply oQ);exact rfl)|refine aa hX hC hP (nU) rfl rfl rfl (by simp only [go_sem,simprocAttr,gr]) rfl ?_|refine aa hX hC hP (yN) rfl rfl rfl (by simp only [go_sem,simprocAttr,gr]) rfl ?_);try simp only [go_sem,simprocAttr,gr])|((with_reducible refine oD ?_ ?_);kernel_rfl)|((with_reducible intro h);try simp only [go_sem,simprocAttr,gr] at h)|omega|intro h)
 refine ah (fun k:Nat=>k≤g.n.toNat) (fun k=>⟨[(2, .ref 200),(13, .d (sNL (kB g (ug g).aB))),(14,eN g.n.toNat),(15,eN k)], [(200, .tip 3 1 ((dn g k).map rN))]⟩) (fun k=>g.n.toNat - k) 0 (Nat.zero_le _) ?_ ?_
 ·refine Le.of ?_ ?_<;>simp [go_sem,simprocAttr,gr,dn,ec]
 rintro k hk
 rcases Nat.lt_or_ge k g.n.toNat with hlt|hge
 rotate_left
 ·have hb:decide ((k:Int)<(g.n.toNat:Int))=false:=decide_eq_false (by omega)
  obtain rfl:k=g.n.toNat:=by omega
  rw [fV]
  repeat' (first|refine Rn.p ?_|(with_reducible apply And.intro)|((first|(refine hK _ ?_;clear hK K)|with_reducible intro K hK|refine Rs.p ?_|((with_reducible first|apply oP|apply oQ);exact rfl));try simp only [go_sem,simprocAttr,hb])|((with_reducible refine oD ?_ ?_);kernel_rfl)|((with_reducible intro h);try simp only [go_sem,simprocAttr,hb] at h)|omega|intro h)
 have hb:decide ((k:Int)<(g.n.toNat:Int))=true:=decide_eq_true (by omega)
 have bz:=lK (g:=g) (k:=k)
 have bp:=jL (g:=g) (k:=k)
 have AQ:=jP (g:=g) (L:=(ug g).aB) hlt
 have mU:=qY (g:=g) (L:=(ug g).aB) (v:=k) (Nat.le_refl _)
 rw [← AQ] at mU
 rw [← mU] at bz
 have hdc:decide ((1:Int)<((((kB g (ug g).aB).getD k []).length:Nat):Int))=decide (1<((kB g (ug g).aB).getD k []).length):=by rw [decide_eq_decide];omega
 generalize dn g k=C0 at bz bp ⊢
 generalize hrw:(kB g (ug g).aB).getD k []=r0 at bz hdc
 by_cases hc:1<r0.length
 ·rw [if_pos hc] at bz
  rw [decide_eq_true hc] at hdc
  repeat' (first|(show bB _ (.region 9 _ _) _ _;(refine gu hX 2 26 200 (by simp only [go_sem,simprocAttr,hb,hrw,hdc,ec]) rfl (by first|exact .inl rfl|exact .inr rfl) (by decide) ?_;simp only [go_sem,simprocAttr,hb,hrw,hdc,ec]))|refine Rn.p ?_|(with_reducible apply And.intro)|((first|(refine hK _ ?_;clear hK K)|with_reducible intro K hK|refine Rs.p ?_|((with_reducible first|apply oP|apply oQ);exact rfl));try simp only [go_sem,simprocAttr,hb,hrw,hdc,ec])|((with_reducible refine oD ?_ ?_);kernel_rfl)|((with_reducible intro h);try simp only [go_sem,simprocAttr,hb,hrw,hdc,ec] at h)|omega|intro h)
  refine ⟨k+1,by omega, ?_,by omega⟩
  rw [bz]
  refine Le.of ?_ ?_<;>simp [go_sem,simprocAttr,hb,hrw,hdc,ec,rN]
 ·rw [if_neg hc] at bz
  rw [decide_eq_false hc] at hdc
  repeat' (first|refine Rn.p ?_|(with_reducible apply And.intro)|((first|(refine hK _ ?_;clear hK K)|with_reducible intro K hK|refine Rs.p ?_|((with_reducible first|apply oP|apply oQ);exact rfl));try simp only [go_sem,simprocAttr,hb,hrw,hdc,ec])|((with_reducible refine oD ?_ ?_);kernel_rfl)|((with_reducible intro h);try simp only [go_sem,simprocAttr,hb,hrw,hdc,ec] at h)|omega|intro h)
  refine ⟨k+1,by omega, ?_,by omega⟩
  rw [bz]
  refine Le.of ?_ ?_<;>simp [go_sem,simprocAttr,hb,hrw,hdc,ec]
theorem wo (g:Gr) (hlen:g.es.length≤9223372036854775807):Spec Try.prog 18 (Args [eG g]) [] (eB (!(aT g&&aR g))) []:=by
 have hM:=pE g (by omega)
 have hnl:aR g= !(g.es.any fun e=>decide (e.1=e.2)):=rfl
 obtain ⟨P,AP⟩:∃P:Edge→Bool,P=fun e=>decide (e.1=e.2):=⟨_,rfl⟩
 rw [← AP] at hnl
 (refine Spec.hd (C:=T.cfg [] []) (rs:= [.t 2]) (T.au _ _) Try.func18 rfl rfl Try.ntmps18 Try.results18 (by simp [AObj.isNest]) (by simp [AObj.isNest]) (by kernel_rfl) T.mixed fun X hX hP hC bf dB=> ?_)
 repeat' (first|refine Rn.p ?_|(with_reducible apply And.intro)|((first|(refine hK _ ?_;clear hK K)|with_reducible intro K hK|refine Rs.p ?_|((with_reducible first|apply oP|apply oQ);exact rfl)|refine aa hX hC hP (hM) rfl rfl rfl (by simp only [go_sem,simprocAttr]) rfl ?_);try simp only [go_sem,simprocAttr])|((with_reducible refine oD ?_ ?_);kernel_rfl)|((with_reducible intro h);try simp only [go_sem,simprocAttr] at h)|omega|intro h)
 refine ah (fun k:Nat=>k≤g.es.length∧(g.es.take k).any P=false) (fun k=>⟨[(1, .ptr 1 0),(6, .d (sE g.es)),(7,eN g.es.length),(8,eN k)], [(1, .box [eN g.n, .d (sE g.es)])]⟩) (fun k=>g.es.length - k) 0 ⟨Nat.zero_le _,rfl⟩ ?_ ?_
 ·refine Le.of ?_ ?_<;>simp [go_sem,simprocAttr]
 rintro k ⟨hk,hf⟩
 rcases Nat.lt_or_ge k g.es.length with hlt|hge
 rotate_left
 ·have b7:decide ((k:Int)<(g.es.length:Int))=false:=decide_eq_false (by omega)
  obtain rfl:k=g.es.length:=by omega
  rw [List.take_length] at hf
  rw [hnl,hf]
  have e:(aT g&& !false)=aT g:=by simp
  rw [e]
  repeat' (first|refine Rn.p ?_|(with_reducible apply And.intro)|((first|(refine hK _ ?_;clear hK K)|with_reducible intro K hK|refine Rs.p ?_|((with_reducible first|apply oP|apply oQ);exact rfl)|refine aa hX hC hP (hM) rfl rfl rfl (by simp only [go_sem,simprocAttr,b7]) rfl ?_);try simp only [go_sem,simprocAttr,b7])|((with_reducible refine oD ?_ ?_);kernel_rfl)|((with_reducible intro h);try simp only [go_sem,simprocAttr,b7] at h)|omega|intro h)
 have b7:decide ((k:Int)<(g.es.length:Int))=true:=decide_eq_true (by omega)
 have hst:=gM (p:=P) (0,0) hlt
 have sr:=sq (p:=P) (0,0) hlt
 rw [hf,Bool.false_or] at hst
 have Gz:P (g.es.getD k (0,0))=decide ((g.es.getD k (0,0)).1=(g.es.getD k (0,0)).2):=by rw [AP]
 generalize hq:P (g.es.getD k (0,0))=q at hst sr Gz
 have qZ:=Gz.symm
 cases q with
 |true=>
  rw [hnl,sr rfl]
  have e:(!(aT g&& !true))=true:=by simp
  rw [e]
  repeat' (first|refine Rn.p ?_|(with_reducible apply And.intro)|((first|(refine hK _ ?_;clear hK K)|with_reducible intro K hK|refine Rs.p ?_|((with_reducible first|apply oP|apply oQ);exact rfl)|refine aa hX hC hP (hM) rfl rfl rfl (by simp only [go_sem,simprocAttr,b7,qZ]) rfl ?_);try simp only [go_sem,simprocAttr,b7,qZ])|((with_reducible refine oD ?_ ?_);kernel_rfl)|((with_reducible intro h);try simp only [go_sem,simprocAttr,b7,qZ] at h)|omega|intro h)
 |false=>
  repeat' (first|refine Rn.p ?_|(with_reducible apply And.intro)|((first|(refine hK _ ?_;clear hK K)|with_reducible intro K hK|refine Rs.p ?_|((with_reducible first|apply oP|apply oQ);exact rfl)|refine aa hX hC hP (hM) rfl rfl rfl (by simp only [go_sem,simprocAttr,b7,qZ]) rfl ?_);try simp only [go_sem,simprocAttr,b7,qZ])|((with_reducible refine oD ?_ ?_);kernel_rfl)|((with_reducible intro h);try simp only [go_sem,simprocAttr,b7,qZ] at h)|omega|intro h)
  refine ⟨k+1,⟨by omega,hst⟩, ?_,by omega⟩
  refine Le.of ?_ ?_<;>simp [go_sem,simprocAttr,b7,qZ]
end Go.Ab
end
section
namespace Go.Ab
open Go.Proofs
attribute [local congr] ACall.congr gd.congr Nx.congr
set_option maxRecDepth 20000
set_option maxHeartbeats 16000000
def g4:Gr:=⟨3, [(0,1),(1,2)]⟩
theorem CC:(ug g4).Ok:=mG (by decide) (by decide)
theorem wq:(ug g4).aB= [[0], [1]]:=by
 have h:=UG.mE CC (so:=id) (fun l=>List.Perm.refl _)
 have hb:UG.bT (ug g4) id= [[1], [0]]:=by decide
 rw [hb] at h
 refine (UG.rZ (L:= [[0], [1]]) (by decide) (fun e=> ?_) (fun b hb'=>h.2.2 b (by simp at hb' ⊢;exact hb'.symm)) (by decide) (by decide)).symm
 show e∈ [0,1]↔e<2
 simp;omega
theorem CD:tD g4= [[0], [1]]:=by rw [js (by decide),wq]
theorem CE:Ac g4= [1]:=by
 rw [nO (by decide)]
 unfold fO dn
 rw [wq]
 decide
theorem q6 (xs ys:List Nat) (hlen:xs.length≤9223372036854775807):Spec Try.prog 22 (Args [.d (sN xs), .d (sN ys)]) [] (eB (decide (xs=ys))) []:=by
 have h:=l6 (nI xs) (nI ys) (by rw [nI,List.length_map];exact hlen)
 have e:decide (nI xs=nI ys)=decide (xs=ys):=by
  rw [decide_eq_decide]
  constructor
  ·intro e
   have:=congrArg (List.map Int.toNat) e
   unfold nI at this
   rw [List.map_map,List.map_map] at this
   have hid:(Int.toNat ∘ fun n:Nat=>(n:Int))=id:=funext fun n=>rfl
   rw [hid,List.map_id,List.map_id] at this
   exact this
  ·rintro rfl;rfl
 rw [← mJ, ← mJ,e] at h
 exact h
theorem nP:Spec Try.prog 14 (Args []) [] (eB true) []:=by
 have nU:=eC g4 (by decide)
 have AR:=tG g4 (by decide)
 rw [CD] at nU
 rw [CE] at AR
 have Ir:=q6 [1] [1] (by decide)
 have e1:g4.es.map rE= [[.sc (.int .i64 0), .sc (.int .i64 1)], [.sc (.int .i64 1), .sc (.int .i64 2)]]:=rfl
 have e2:g4.n=3:=rfl
 have e3:([[0], [1]]:List (List Nat)).map kz= [[sN [0]], [sN [1]]]:=rfl
 have e4:([1]:List Nat).map rN= [[.sc (.int .i64 1)]]:=rfl
 (refine Spec.hd (C:=T.cfg [] []) (rs:= [.t 0]) (T.au _ _) Try.func14 rfl rfl Try.ntmps14 Try.results14 (by simp [AObj.isNest]) (by simp [AObj.isNest]) (by kernel_rfl) T.mixed fun X hX hP hC bf dB=> ?_)
 repeat' (first|refine Rn.p ?_|(with_reducible apply And.intro)|((first|(refine hK _ ?_;clear hK K)|with_reducible intro K hK|refine Rs.p ?_|((with_reducible first|apply oP|apply oQ);exact rfl)|(refine dL hX hC hP (nU) rfl rfl rfl ?_ ?_ rfl ?_;iterate 2 (focus (simp only [go_sem,simprocAttr,e1,e2,e3,e4];done)))|(refine dL hX hC hP (AR) rfl rfl rfl ?_ ?_ rfl ?_;iterate 2 (focus (simp only [go_sem,simprocAttr,e1,e2,e3,e4];done)))|(refine dL hX hC hP (Ir) rfl rfl rfl ?_ ?_ rfl ?_;iterate 2 (focus (simp only [go_sem,simprocAttr,e1,e2,e3,e4];done))));try simp only [go_sem,simprocAttr,e1,e2,e3,e4])|((with_reducible refine oD ?_ ?_);kernel_rfl)|((with_reducible intro h);try simp only [go_sem,simprocAttr,e1,e2,e3,e4] at h)|omega|intro h)
def lQ (g:Gr):Bool:=decide (40<(g.es.length:Int))||(decide (20<g.n)|| !(aT g&&aR g))
theorem q7 (g:Gr) (hlen:g.es.length≤9223372036854775807):Spec Try.prog 15 (Args [eG g]) [] (eB (lQ g)) []:=by
 have hO:=wo g hlen
 have hlb:lQ g=(decide (40<(g.es.length:Int))||(decide (20<g.n)|| !(aT g&&aR g))):=rfl
 generalize (!(aT g&&aR g))=q at hO hlb
 by_cases h1:40<(g.es.length:Int)
 ·rw [decide_eq_true h1,Bool.true_or] at hlb
  have j9:=decide_eq_true h1
  rw [hlb]
  (refine Spec.hd (C:=T.cfg [] []) (rs:= [.t 2]) (T.au _ _) Try.func15 rfl rfl Try.ntmps15 Try.results15 (by simp [AObj.isNest]) (by simp [AObj.isNest]) (by kernel_rfl) T.mixed fun X hX hP hC bf dB=> ?_)
  repeat' (first|refine Rn.p ?_|(with_reducible apply And.intro)|((first|(refine hK _ ?_;clear hK K)|with_reducible intro K hK|refine Rs.p ?_|((with_reducible first|apply oP|apply oQ);exact rfl)|refine aa hX hC hP (hO) rfl rfl rfl (by simp only [go_sem,simprocAttr,j9]) rfl ?_);try simp only [go_sem,simprocAttr,j9])|((with_reducible refine oD ?_ ?_);kernel_rfl)|((with_reducible intro h);try simp only [go_sem,simprocAttr,j9] at h)|omega|intro h)
 rw [decide_eq_false h1,Bool.false_or] at hlb
 have j9:=decide_eq_false h1
 by_cases h2:20<g.n
 ·rw [decide_eq_true h2,Bool.true_or] at hlb
  have qc:=decide_eq_true h2
  rw [hlb]
  (refine Spec.hd (C:=T.cfg [] []) (rs:= [.t 2]) (T.au _ _) Try.func15 rfl rfl Try.ntmps15 Try.results15 (by simp [AObj.isNest]) (by simp [AObj.isNest]) (by kernel_rfl) T.mixed fun X hX hP hC bf dB=> ?_)
  repeat' (first|refine Rn.p ?_|(with_reducible apply And.intro)|((first|(refine hK _ ?_;clear hK K)|with_reducible intro K hK|refine Rs.p ?_|((with_reducible first|apply oP|apply oQ);exact rfl)|refine aa hX hC hP (hO) rfl rfl rfl (by simp only [go_sem,simprocAttr,j9,qc]) rfl ?_);try simp only [go_sem,simprocAttr,j9,qc])|((with_reducible refine oD ?_ ?_);kernel_rfl)|((with_reducible intro h);try simp only [go_sem,simprocAttr,j9,qc] at h)|omega|intro h)
 rw [decide_eq_false h2,Bool.false_or] at hlb
 have qc:=decide_eq_false h2
 rw [hlb]
 (refine Spec.hd (C:=T.cfg [] []) (rs:= [.t 2]) (T.au _ _) Try.func15 rfl rfl Try.ntmps15 Try.results15 (by simp [AObj.isNest]) (by simp [AObj.isNest]) (by kernel_rfl) T.mixed fun X hX hP hC bf dB=> ?_)
 repeat' (first|refine Rn.p ?_|(with_reducible apply And.intro)|((first|(refine hK _ ?_;clear hK K)|with_reducible intro K hK|refine Rs.p ?_|((with_reducible first|apply oP|apply oQ);exact rfl)|refine aa hX hC hP (hO) rfl rfl rfl (by simp only [go_sem,simprocAttr,j9,qc]) rfl ?_);try simp only [go_sem,simprocAttr,j9,qc])|((with_reducible refine oD ?_ ?_);kernel_rfl)|((with_reducible intro h);try simp only [go_sem,simprocAttr,j9,qc] at h)|omega|intro h)
theorem wu {g:Gr} (h:lQ g=false):aT g=true∧aR g=true∧g.es.length≤40∧g.n≤20:=by
 unfold lQ at h
 rw [Bool.or_eq_false_iff,Bool.or_eq_false_iff,decide_eq_false_iff_not,decide_eq_false_iff_not,Bool.not_eq_false',Bool.and_eq_true] at h
 exact ⟨h.2.2.1,h.2.2.2,by omega,by omega⟩
theorem tH (g:Gr) (hlen:g.es.length≤9223372036854775807) (hz:tD g= []):Spec Try.prog 20 (Args [eG g]) [] (.d (.sl 3 [])) []:=by
 have nU:=eC g hlen
 rw [hz] at nU
 (refine Spec.hd (C:=T.cfg [] []) (rs:= [.c 2 46]) (T.au _ _) Try.func20 rfl rfl Try.ntmps20 Try.results20 (by simp [AObj.isNest]) (by simp [AObj.isNest]) (by kernel_rfl) T.mixed fun X hX hP hC bf dB=> ?_)
 repeat' (first|refine Rn.p ?_|(with_reducible apply And.intro)|((first|(refine hK _ ?_;clear hK K)|with_reducible intro K hK|refine Rs.p ?_|((with_reducible first|apply oP|apply oQ);exact rfl)|refine aa hX hC hP (nU) rfl rfl rfl (by simp only [go_sem,simprocAttr]) rfl ?_);try simp only [go_sem,simprocAttr])|((with_reducible refine oD ?_ ?_);kernel_rfl)|((with_reducible intro h);try simp only [go_sem,simprocAttr] at h)|omega|intro h)
end Go.Ab
end
section
namespace Go.Ab
open Go.Proofs
attribute [local congr] ACall.congr gd.congr Nx.congr
set_option maxRecDepth 20000
set_option maxHeartbeats 16000000
abbrev Nd:=Bool × Nat × Int
def iG (n:Nd):List D:= [.sc (.bool n.1), .sc (.int .i64 (n.2.1:Int)), .sc (.int .i64 n.2.2)]
def eNd (n:Nd):AV:= .agg [.d (.sc (.bool n.1)), .d (.sc (.int .i64 (n.2.1:Int))), .d (.sc (.int .i64 n.2.2))]
def sNd (l:List Nd):D:= .sl 3 (l.map iG)
theorem getD_rNd (ps:List Nd) (i:Nat):(ps.map iG).getD i [.sc (.bool false), .sc (.int .i64 0), .sc (.int .i64 0)]= [.sc (.bool (ps.getD i (false,0,0)).1), .sc (.int .i64 ((ps.getD i (false,0,0)).2.1:Int)), .sc (.int .i64 (ps.getD i (false,0,0)).2.2)]:=by
 rw [List.getD_eq_getElem?_getD,List.getElem?_map,List.getD_eq_getElem?_getD]
 cases ps[i]? <;>rfl
attribute [go_sem] getD_rNd sNd eNd
theorem fQ {m:List (Nat × AObj)} (hR:bu m) (f:Nat) (caps:List AV) (g:Nd→Bool) (hf:∀p,Spec Try.prog f (Args (eNd p::caps)) m (eB (g p)) m) (ps:List Nd) (hl:ps.length≤9223372036854775807):
 Spec Try.prog 73 (Args [.d (sNd ps), .fn f [] caps]) m (eN (cU g ps)) m:=by
 (refine Spec.hd (C:=T.cfg [] []) (rs:= [.t 4]) (T.au _ _) Try.func73 rfl rfl Try.ntmps73 Try.results73 (fun p hp=>⟨(bu.low hR p hp).1,bu.nest hR p hp⟩) (fun p hp=>⟨(bu.low hR p hp).2,bu.nest hR p hp⟩) (by kernel_rfl) T.mixed fun X hX hP hC bf dB=> ?_)
 repeat' (first|refine Rn.p ?_|(with_reducible apply And.intro)|((first|(refine hK _ ?_;clear hK K)|with_reducible intro K hK|refine Rs.p ?_|((with_reducible first|apply oP|apply oQ);exact rfl)|(first|(refine aL hX hC hP hR (hf _) rfl rfl rfl ?_ ?_ rfl rfl ?_;(focus (simp only [go_sem,simprocAttr];done));(focus (first|(intro p hp;exact aA (bu.nd hR) hp)|(simp [go_sem,simprocAttr];done))))|(refine aL hX hC hP hR (hf _) rfl rfl rfl ?_ ?_ ?_ rfl ?_;(focus (simp only [go_sem,simprocAttr];done));(focus (first|(intro p hp;exact aA (bu.nd hR) hp)|(simp [go_sem,simprocAttr];done)));(focus (simp [go_sem,simprocAttr];done)))));try simp only [go_sem,simprocAttr])|((with_reducible refine oD ?_ ?_);kernel_rfl)|((with_reducible intro h);try simp only [go_sem,simprocAttr] at h)|omega|intro h)
 refine ah (fun k:Nat=>k≤ps.length∧∀j,j<k→g (ps.getD j (false,0,0))=false) (fun k=>⟨[(0, .d (sNd ps)),(1, .fn f [] caps),(7,eN ps.length),(8,eN k)],m⟩) (fun k=>ps.length - k) 0 (by simp) ?_ ?_
 ·(refine ⟨cw ?_,fun _ _ h=>h⟩;simp [go_sem,simprocAttr])
 rintro k ⟨hk,hg⟩
 repeat' (first|refine Rn.p ?_|(with_reducible apply And.intro)|((first|(refine hK _ ?_;clear hK K)|with_reducible intro K hK|refine Rs.p ?_|((with_reducible first|apply oP|apply oQ);exact rfl)|(first|(refine aL hX hC hP hR (hf _) rfl rfl rfl ?_ ?_ rfl rfl ?_;(focus (simp only [go_sem,simprocAttr];done));(focus (first|(intro p hp;exact aA (bu.nd hR) hp)|(simp [go_sem,simprocAttr];done))))|(refine aL hX hC hP hR (hf _) rfl rfl rfl ?_ ?_ ?_ rfl ?_;(focus (simp only [go_sem,simprocAttr];done));(focus (first|(intro p hp;exact aA (bu.nd hR) hp)|(simp [go_sem,simprocAttr];done)));(focus (simp [go_sem,simprocAttr];done)))));try simp only [go_sem,simprocAttr])|((with_reducible refine oD ?_ ?_);kernel_rfl)|((with_reducible intro h);try simp only [go_sem,simprocAttr] at h)|omega|intro h)
 ·exact (jc (by omega) hg h).symm
 ·exact eV hR
 ·refine ⟨k+1,⟨by omega,fun j hj=> ?_⟩, ?_,by omega⟩
  ·by_cases hjk:j=k
   ·subst hjk;exact h
   ·exact hg j (by omega)
  ·(refine ⟨cw ?_,fun _ _ h=>h⟩;simp [go_sem,simprocAttr])
 ·exact (iB (false,0,0) fun j hj=>hg j (by omega)).symm
 ·exact eV hR
theorem iH {m:List (Nat × AObj)} (hR:bu m) (f:Nat) (caps:List AV) (g:Nd→Bool) (hf:∀p,Spec Try.prog f (Args (eNd p::caps)) m (eB (g p)) m) (ps:List Nd) (hl:ps.length≤9223372036854775807):
 Spec Try.prog 48 (Args [.d (sNd ps), .fn f [] caps]) m (eB (ps.any g)) m:=by
 (refine Spec.hd (C:=T.cfg [] []) (rs:= [.t 4]) (T.au _ _) Try.func48 rfl rfl Try.ntmps48 Try.results48 (fun p hp=>⟨(bu.low hR p hp).1,bu.nest hR p hp⟩) (fun p hp=>⟨(bu.low hR p hp).2,bu.nest hR p hp⟩) (by kernel_rfl) T.mixed fun X hX hP hC bf dB=> ?_)
 repeat' (first|refine Rn.p ?_|(with_reducible apply And.intro)|((first|(refine hK _ ?_;clear hK K)|with_reducible intro K hK|refine Rs.p ?_|((with_reducible first|apply oP|apply oQ);exact rfl)|(first|(refine aL hX hC hP hR (fQ hR _ _ g hf ps hl) rfl rfl rfl ?_ ?_ rfl rfl ?_;(focus (simp only [go_sem,simprocAttr];done));(focus (first|(intro p hp;exact aA (bu.nd hR) hp)|(simp [go_sem,simprocAttr];done))))|(refine aL hX hC hP hR (fQ hR _ _ g hf ps hl) rfl rfl rfl ?_ ?_ ?_ rfl ?_;(focus (simp only [go_sem,simprocAttr];done));(focus (first|(intro p hp;exact aA (bu.nd hR) hp)|(simp [go_sem,simprocAttr];done)));(focus (simp [go_sem,simprocAttr];done)))));try simp only [go_sem,simprocAttr])|((with_reducible refine oD ?_ ?_);kernel_rfl)|((with_reducible intro h);try simp only [go_sem,simprocAttr] at h)|omega|intro h)
 ·exact jE g ps
 ·exact eV hR
def tI (c:Bool) (x:Nat) (n:Nd):Bool:=(n.1==c)&&decide (n.2.1=x)
theorem wv (c:Bool) (x:Nat) (n:Nd):Spec Try.prog 49 (Args [eNd n, .d (.pt [.sc (.bool c)]), .d (.pt [.sc (.int .i64 (x:Int))])]) [] (eB (tI c x n)) []:=by
 obtain ⟨c',x',q⟩:=n
 have hd:decide ((x':Int)=(x:Int))=decide (x'=x):=by rw [decide_eq_decide];omega
 have he:tI c x (c',x',q)=((c'==c)&&decide (x'=x)):=rfl
 rw [he]
 cases c<;>cases c'
 all_goals ((refine Spec.hd (C:=T.cfg [] []) (rs:= [.t 4]) (T.au _ _) Try.func49 rfl rfl Try.ntmps49 Try.results49 (by simp [AObj.isNest]) (by simp [AObj.isNest]) (by kernel_rfl) T.mixed fun X hX hP hC bf dB=> ?_))
 all_goals (repeat' (first|refine Rn.p ?_|(with_reducible apply And.intro)|((first|(refine hK _ ?_;clear hK K)|with_reducible intro K hK|refine Rs.p ?_|((with_reducible first|apply oP|apply oQ);exact rfl));try simp only [go_sem,simprocAttr,hd])|((with_reducible refine oD ?_ ?_);kernel_rfl)|((with_reducible intro h);try simp only [go_sem,simprocAttr,hd] at h)|omega|intro h))
 all_goals (first|rfl|(exact absurd (by assumption:(true==false)=true) (by decide))|(exact absurd (by assumption:(false==true)=true) (by decide)))
def wz (out:List Nd) (c:Bool) (x:Nat):Bool:=out.any (tI c x)
def bN (k:Nat) (c:Bool) (out:List Nd) (x:Nat):List Nd:=if wz out c x=true then out else out++ [(c,x,(k:Int))]
theorem mK (k:Nat) (out:List Nd) (c:Bool) (x:Nat) (hl:out.length≤100000):Spec Try.prog 47 (Args [eB c,eN x, .ptr 10000 0, .ptr 10001 0]) [(10000, .box [.ref 10002]),(10001, .box [eN k]),(10002, .tip 50 3 (out.map iG))] (.tup []) [(10000, .box [.ref 10003]),(10001, .box [eN k]),(10003, .tip 50 3 ((bN k c out x).map iG))]:=by
 have Aa:=iH wj 49 [.d (.pt [.sc (.bool c)]), .d (.pt [.sc (.int .i64 (x:Int))])] (tI c x) (wv c x) out (by omega)
 have hh:bN k c out x=if out.any (tI c x)=true then out else out++ [(c,x,(k:Int))]:=rfl
 generalize out.any (tI c x)=q at Aa hh
 cases q with
 |true=>
  rw [hh,if_pos rfl]
  (refine Spec.zC (C:=T.cfg [] []) (rs:= []) [(10003,200)] (T.au _ _) Try.func47 rfl rfl Try.ntmps47 Try.results47 (by simp [AObj.isNest]) (by simp [AObj.isNest]) (by first|(simp [look];done)|(simp [asN];done)|(intro l hl;simp only [asN];repeat (rw [if_neg (fun e=>by subst e;simp [look] at hl)]))) (by first|(simp [look];done)|(simp [asN];done)|(intro l hl;simp only [asN];repeat (rw [if_neg (fun e=>by subst e;simp [look] at hl)]))) (by kernel_rfl) T.mixed fun X hX hP hC bf dB=> ?_)
  (refine cc hX 10000 0 10002 200 rfl rfl rfl (by first|exact .inl rfl|exact .inr rfl) (by decide) (by decide) ?_;simp only [List.set_cons_zero,List.set_cons_succ,go_sem,simprocAttr])
  repeat' (first|refine Rn.p ?_|(with_reducible apply And.intro)|((first|(refine hK _ ?_;clear hK K)|with_reducible intro K hK|refine Rs.p ?_|((with_reducible first|apply oP|apply oQ);exact rfl)|(refine bS hX hC hP (Aa) rfl rfl rfl ?_ ?_ ?_ ?_;iterate 3 (focus (simp only [go_sem,simprocAttr];done))));try simp only [go_sem,simprocAttr])|((with_reducible refine oD ?_ ?_);kernel_rfl)|((with_reducible intro h);try simp only [go_sem,simprocAttr] at h)|omega|intro h)
 |false=>
  rw [hh,if_neg (by simp)]
  (refine Spec.zC (C:=T.cfg [] []) (rs:= []) [(10003,16)] (T.au _ _) Try.func47 rfl rfl Try.ntmps47 Try.results47 (by simp [AObj.isNest]) (by simp [AObj.isNest]) (by first|(simp [look];done)|(simp [asN];done)|(intro l hl;simp only [asN];repeat (rw [if_neg (fun e=>by subst e;simp [look] at hl)]))) (by first|(simp [look];done)|(simp [asN];done)|(intro l hl;simp only [asN];repeat (rw [if_neg (fun e=>by subst e;simp [look] at hl)]))) (by kernel_rfl) T.mixed fun X hX hP hC bf dB=> ?_)
  repeat' (first|refine Rn.p ?_|(with_reducible apply And.intro)|((first|(refine hK _ ?_;clear hK K)|with_reducible intro K hK|refine Rs.p ?_|((with_reducible first|apply oP|apply oQ);exact rfl)|(refine bS hX hC hP (Aa) rfl rfl rfl ?_ ?_ ?_ ?_;iterate 3 (focus (simp only [go_sem,simprocAttr];done))));try simp only [go_sem,simprocAttr])|((with_reducible refine oD ?_ ?_);kernel_rfl)|((with_reducible intro h);try simp only [go_sem,simprocAttr] at h)|omega|intro h)
  all_goals (simp [go_sem,simprocAttr,iG])
def yo (g:Gr) (L:List (List Nat)) (n m:Nd):Bool:=match n.1,m.1 with
 |true,false=>decide (m.2.1<L.length)&&(ug g).bw (L.getD m.2.1 []) n.2.1
 |false,true=>decide (n.2.1<L.length)&&(ug g).bw (L.getD n.2.1 []) m.2.1
 |_,_=>false
end Go.Ab
end
section
namespace Go.Ab
open Go.Proofs
attribute [local congr] ACall.congr gd.congr Nx.congr
set_option maxRecDepth 20000
set_option maxHeartbeats 16000000
section
variable (g:Gr) (L:List (List Nat))
def dX (b:Nat) (x:Nat):Bool:=decide (1<((kB g L).getD x []).length)&&decide (b∈(kB g L).getD x [])
def ig (nd:Nd):List Nat:=if nd.1=true then (kB g L).getD nd.2.1 [] else (List.range g.n.toNat).filter (dX g L nd.2.1)
def q8 (k:Nat) (out:List Nd):List Nd:=(ig g L (out.getD k (false,0,0))).foldl (bN k (!(out.getD k (false,0,0)).1)) out
def aC:Nat→List Nd
 |0=> [(false,0, -1)]
 |k+1=>if k<(aC k).length then q8 g L k (aC k) else aC k
end
structure mg (g:Gr) (L:List (List Nat)) (out:List Nd):Prop where
 lt:∀n∈out,n.2.1<if n.1=true then g.n.toNat else L.length
 nd:(out.map fun n=>if n.1=true then L.length+n.2.1 else n.2.1).Nodup
theorem mg.len {g:Gr} {L:List (List Nat)} {out:List Nd} (h:mg g L out):out.length≤L.length+g.n.toNat:=by
 have:=h.nd.length_le_of_subset (l₂:=List.range (L.length+g.n.toNat)) fun x hx=>by
  obtain ⟨n,hn,rfl⟩:=List.mem_map.1 hx
  have h1:=h.lt n hn
  rw [List.mem_range]
  split
  ·rename_i hc;rw [if_pos hc] at h1;omega
  ·rename_i hc;rw [if_neg hc] at h1;omega
 rw [List.length_map,List.length_range] at this
 exact this
theorem wN {out:List Nd} {c:Bool} {x:Nat} :wz out c x=true↔∃n∈out,n.1=c∧n.2.1=x:=by
 unfold wz tI
 simp [List.any_eq_true]
theorem mg.Fv {g:Gr} {L:List (List Nat)} {out:List Nd} (h:mg g L out) {k:Nat} {c:Bool} {x:Nat} (hx:x<if c=true then g.n.toNat else L.length):mg g L (bN k c out x):=by
 unfold bN
 split
 ·exact h
 ·rename_i hn
  refine ⟨fun n hm=> ?_, ?_⟩
  ·rcases List.mem_append.1 hm with hm|hm
   ·exact h.lt n hm
   ·rw [List.mem_singleton] at hm
    subst hm
    exact hx
  ·rw [List.map_append,List.nodup_append]
   refine ⟨h.nd,by simp,fun a ha b hb e=>hn ?_⟩
   subst e
   obtain ⟨n,hm,h1⟩:=List.mem_map.1 ha
   simp only [List.map_cons,List.map_nil,List.mem_singleton] at hb
   have h2:=h.lt n hm
   rw [← h1] at hb
   rw [wN]
   refine ⟨n,hm, ?_⟩
   cases hc:n.1<;>cases c<;>simp [hc] at hb h2 hx ⊢ <;>omega
theorem mg.fold {g:Gr} {L:List (List Nat)} {k:Nat} {c:Bool} :∀ {xs:List Nat} {out:List Nd},mg g L out→(∀x∈xs,x<if c=true then g.n.toNat else L.length)→mg g L (xs.foldl (bN k c) out)
 | [],_,h,_=>h
 |x::xs,out,h,hx=>by
  rw [List.foldl_cons]
  exact mg.fold (h.Fv (hx x (by simp))) fun y hy=>hx y (List.mem_cons_of_mem _ hy)
theorem gD {k:Nat} {c:Bool} :∀ {xs:List Nat} {out:List Nd},∃t,xs.foldl (bN k c) out=out++t
 | [],out=>⟨[],by simp⟩
 |x::xs,out=>by
  obtain ⟨t,ht⟩:=gD (k:=k) (c:=c) (xs:=xs) (out:=bN k c out x)
  rw [List.foldl_cons,ht]
  unfold bN
  split
  ·exact ⟨t,rfl⟩
  ·exact ⟨_::t,by rw [List.append_assoc];rfl⟩
theorem sD {g:Gr} {L:List (List Nat)} {v q:Nat} (hv:v<g.n.toNat):q∈(kB g L).getD v []↔q<L.length∧(ug g).bw (L.getD q []) v=true:=by
 rw [jP hv,List.mem_filter,List.mem_range]
theorem sF {g:Gr} {L:List (List Nat)} {nd:Nd} (h:nd.2.1<if nd.1=true then g.n.toNat else L.length):∀x∈ig g L nd,x<if (!nd.1)=true then g.n.toNat else L.length:=by
 intro x hx
 unfold ig at hx
 cases hc:nd.1 with
 |true=>
  rw [hc,if_pos rfl] at hx h
  exact ((sD h).1 hx).1
 |false=>
  rw [hc,if_neg (by simp),List.mem_filter,List.mem_range] at hx
  exact hx.1
theorem gP {g:Gr} {L:List (List Nat)} (hL:0<L.length):∀k,mg g L (aC g L k)∧k≤(aC g L k).length+(k - (aC g L k).length)
 |0=>⟨⟨fun n hn=>by
   simp only [aC,List.mem_singleton] at hn
   subst hn
   simpa using hL,by simp [aC]⟩,by omega⟩
 |k+1=>by
  obtain ⟨h1,_⟩:=gP hL k
  rw [aC]
  split
  ·rename_i hk
   refine ⟨h1.fold (sF (h1.lt _ (dg (false,0,0) hk))),by omega⟩
  ·exact ⟨h1,by omega⟩
theorem tJ {g:Gr} {L:List (List Nat)} {k:Nat} :(aC g L k).length≤(aC g L (k+1)).length:=by
 rw [aC]
 split
 ·obtain ⟨t,ht⟩:=gD (k:=k) (c:= !((aC g L k).getD k (false,0,0)).1) (xs:=ig g L ((aC g L k).getD k (false,0,0))) (out:=aC g L k)
  unfold q8
  rw [ht,List.length_append]
  omega
 ·exact Nat.le_refl _
theorem lR {g:Gr} {L:List (List Nat)} {k:Nat} (h:(aC g L k).length≤k):∀d,aC g L (k+d)=aC g L k
 |0=>rfl
 |d+1=>by
  have ih:=lR h d
  rw [← Nat.add_assoc,aC,ih,if_neg (by omega)]
noncomputable def wO (g:Gr):List Nd:=aC g (ug g).aB ((ug g).aB.length+g.n.toNat)
theorem pY {g:Gr} {L:List (List Nat)} {k:Nat} (h:k≤(aC g L k).length) (hk:k<(aC g L k).length):k+1≤(aC g L (k+1)).length:=Nat.le_trans hk tJ
theorem pZ {α β:Type} (f:β→α→β) (b:β) (l:List α) (d:α) {j:Nat} (hj:j<l.length):(l.take (j+1)).foldl f b=f ((l.take j).foldl f b) (l.getD j d):=by
 rw [List.take_add_one,List.getElem?_eq_getElem hj,Option.toList_some,List.foldl_append,List.getD_eq_getElem?_getD,List.getElem?_eq_getElem hj]
 rfl
theorem q9 {f:List Nd→Nat→List Nd} {P:Nat→Bool} {b:List Nd} {x:Nat} :((List.range (x+1)).filter P).foldl f b=if P x=true then f (((List.range x).filter P).foldl f b) x else ((List.range x).filter P).foldl f b:=by
 rw [List.range_succ,List.filter_append,List.foldl_append,List.filter_cons]
 split<;>rfl
theorem tK (g:Gr) (hlen:g.es.length≤9223372036854775807) (hm:aT g=true) (hl:aR g=true) (GA:g.es.length≤40) (hz:0<g.es.length):Spec Try.prog 20 (Args [eG g]) [] (.d (sNd (wO g))) []:=by
 have hn:=cO hm
 have nU:=eC g hlen
 rw [js (by rw [hm,hl];rfl)] at nU
 have Dh:(ug g).aB.length≤g.es.length:=fc
 have yN:=pX g hm (ug g).aB (fun b hb=>⟨(jQ g b hb).1,by have:=(jQ g b hb).2;omega⟩) (by omega)
 have Af:0<(ug g).aB.length:=by
  obtain ⟨b,hb,_⟩:=UG.ku (G:=ug g) (i:=0) hz
  exact List.length_pos_of_mem hb
 have gr:decide (((ug g).aB.length:Int)=0)=false:=decide_eq_false (by omega)
 have j4:wO g=aC g (ug g).aB ((ug g).aB.length+g.n.toNat):=rfl
 rw [j4]
 generalize (ug g).aB=L at*
 have ec:=sC (g:=g) (L:=L)
 (refine Spec.hd (C:=T.cfg [] []) (rs:= [.c 2 46]) (T.au _ _) Try.func20 rfl rfl Try.ntmps20 Try.results20 (by simp [AObj.isNest]) (by simp [AObj.isNest]) (by kernel_rfl) T.mixed fun X hX hP hC bf dB=> ?_)
 repeat' (first|refine Rn.p ?_|(with_reducible apply And.intro)|((first|(refine hK _ ?_;clear hK K)|with_reducible intro K hK|refine Rs.p ?_|((with_reducible first|apply oP|apply oQ);exact rfl)|refine aa hX hC hP (nU) rfl rfl rfl (by simp only [go_sem,simprocAttr,gr]) rfl ?_|refine aa hX hC hP (yN) rfl rfl rfl (by simp only [go_sem,simprocAttr,gr]) rfl ?_);try simp only [go_sem,simprocAttr,gr])|((with_reducible refine oD ?_ ?_);kernel_rfl)|((with_reducible intro h);try simp only [go_sem,simprocAttr,gr] at h)|omega|intro h)
 (refine cc hX 2 0 23 300 rfl rfl rfl (by first|exact .inl rfl|exact .inr rfl) (by decide) (by decide) ?_;simp only [List.set_cons_zero,List.set_cons_succ,go_sem,simprocAttr])
 refine ah (fun k:Nat=>k≤(aC g L k).length) (fun k=>⟨[(2, .ptr 2 0),(4, .d (sNL (kB g L))),(5, .ptr 5 0)], [(2, .box [.ref 300]),(5, .box [eN k]),(300, .tip 50 3 ((aC g L k).map iG))]⟩) (fun k=>L.length+g.n.toNat+1 - k) 0 (Nat.zero_le _) ?_ ?_
 ·refine Le.of ?_ ?_<;>simp [go_sem,simprocAttr,aC,iG]
 rintro k hk
 obtain ⟨hok,_⟩:=gP (g:=g) Af k
 have wk:=hok.len
 rcases Nat.lt_or_ge k (aC g L k).length with hlt|hge
 rotate_left
 ·have hb:decide ((k:Int)<((aC g L k).length:Int))=false:=decide_eq_false (by omega)
  have hend:=lR hge (L.length+g.n.toNat - k)
  rw [show k+(L.length+g.n.toNat - k)=L.length+g.n.toNat by omega] at hend
  rw [hend]
  generalize aC g L k=T0 at*
  repeat' (first|refine Rn.p ?_|(with_reducible apply And.intro)|((first|(refine hK _ ?_;clear hK K)|with_reducible intro K hK|refine Rs.p ?_|((with_reducible first|apply oP|apply oQ);exact rfl));try simp only [go_sem,simprocAttr,hb])|((with_reducible refine oD ?_ ?_);kernel_rfl)|((with_reducible intro h);try simp only [go_sem,simprocAttr,hb] at h)|omega|intro h)
 have hb:decide ((k:Int)<((aC g L k).length:Int))=true:=decide_eq_true (by omega)
 have bz:aC g L (k+1)=q8 g L k (aC g L k):=by rw [aC,if_pos hlt]
 have cr:=pY hk hlt
 have CF:=(gP (g:=g) Af (k+1)).1.len
 generalize Ag:aC g L (k+1)=T1 at*
 generalize aC g L k=T0 at*
 obtain ⟨nd,bG⟩:∃nd,T0.getD k (false,0,0)=nd:=⟨_,rfl⟩
 have Ah:nd∈T0:=by rw [← bG];exact dg _ hlt
 have tL:=hok.lt nd Ah
 unfold q8 at bz
 rw [bG] at bz
 have GB:=sF (g:=g) (L:=L) (nd:=nd) tL
 obtain ⟨c,a,pq⟩:=nd
 simp only at tL GB bz
 have hpre:∀xs:List Nat,((xs.foldl (bN k (!c)) T0).getD k (false,0,0))=(c,a,pq):=fun xs=>by
  obtain ⟨t,ht⟩:=gD (k:=k) (c:= !c) (xs:=xs) (out:=T0)
  rw [ht,List.getD_eq_getElem?_getD,List.getElem?_append_left hlt, ← List.getD_eq_getElem?_getD,bG]
 have hbd:∀xs:List Nat,(∀x∈xs,x∈ig g L (c,a,pq))→(xs.foldl (bN k (!c)) T0).length≤L.length+g.n.toNat:=fun xs hxs=>(hok.fold fun x hx=>GB x (hxs x hx)).len
 cases c with
 |true=>
  have wQ:ig g L (true,a,pq)=(kB g L).getD a []:=rfl
  rw [wQ] at bz hbd
  rw [if_pos rfl] at tL
  obtain ⟨r,hr⟩:∃r,(kB g L).getD a []=r:=⟨_,rfl⟩
  have hrl:r.length≤L.length:=by
   rw [← hr,jP tL]
   have:=List.length_filter_le (fun q=>(ug g).bw (L.getD q []) a) (List.range L.length)
   rw [List.length_range] at this
   exact this
  rw [hr] at bz hbd
  repeat' (first|refine Rn.p ?_|(with_reducible apply And.intro)|((first|(refine hK _ ?_;clear hK K)|with_reducible intro K hK|refine Rs.p ?_|((with_reducible first|apply oP|apply oQ);exact rfl));try simp only [go_sem,simprocAttr,hb,bG,ec,hr])|((with_reducible refine oD ?_ ?_);kernel_rfl)|((with_reducible intro h);try simp only [go_sem,simprocAttr,hb,bG,ec,hr] at h)|omega|intro h)
  clear hb
  refine ah (fun j:Nat=>j≤r.length) (fun j=>⟨[(2, .ptr 2 0),(4, .d (sNL (kB g L))),(5, .ptr 5 0),(6, .fn 47 [] [.ptr 2 0, .ptr 5 0]),(41, .d (sN r)),(42,eN r.length),(43,eN j)], [(2, .box [.ref 300]),(5, .box [eN k]),(300, .tip 50 3 (((r.take j).foldl (bN k false) T0).map iG))]⟩) (fun j=>r.length - j) 0 (Nat.zero_le _) ?_ ?_
  ·refine Le.of ?_ ?_<;>simp [go_sem,simprocAttr]
  rintro j hj
  rcases Nat.lt_or_ge j r.length with hlj|Di
  rotate_left
  ·have hb:decide ((j:Int)<(r.length:Int))=false:=decide_eq_false (by omega)
   obtain rfl:j=r.length:=by omega
   rw [List.take_length]
   have Ai:r.foldl (bN k false) T0=T1:=bz.symm
   rw [Ai]
   repeat' (first|refine Rn.p ?_|(with_reducible apply And.intro)|((first|(refine hK _ ?_;clear hK K)|with_reducible intro K hK|refine Rs.p ?_|((with_reducible first|apply oP|apply oQ);exact rfl));try simp only [go_sem,simprocAttr,hb])|((with_reducible refine oD ?_ ?_);kernel_rfl)|((with_reducible intro h);try simp only [go_sem,simprocAttr,hb] at h)|omega|intro h)
   refine ⟨k+1,by rw [Ag];exact cr, ?_,by omega⟩
   rw [Ag]
   refine Le.of ?_ ?_<;>simp [go_sem,simprocAttr,hb]
  have hb:decide ((j:Int)<(r.length:Int))=true:=decide_eq_true (by omega)
  have hst:=pZ (bN k false) T0 r 0 hlj
  have Fw:=hbd (r.take j) fun x hx=>List.mem_of_mem_take hx
  have Aj:((r.take j).foldl (bN k false) T0).length≤L.length+g.n.toNat:=Fw
  obtain ⟨x,hx⟩:∃x,r.getD j 0=x:=⟨_,rfl⟩
  rw [hx] at hst
  generalize (r.take j).foldl (bN k false) T0=F0 at hst Aj ⊢
  have hH:=mK k F0 false x (by omega)
  repeat' (first|(show bB _ (.region 16 _ _) _ _;(refine cc hX 2 0 301 300 rfl rfl rfl (by first|exact .inl rfl|exact .inr rfl) (by decide) (by decide) ?_;simp only [List.set_cons_zero,List.set_cons_succ,go_sem,simprocAttr,hb,hx]))|refine Rn.p ?_|(with_reducible apply And.intro)|((first|(refine hK _ ?_;clear hK K)|with_reducible intro K hK|refine Rs.p ?_|((with_reducible first|apply oP|apply oQ);exact rfl)|(refine aZ hX hC hP [(10000,2),(10001,5),(10002,300),(10003,301)] (hH) rfl rfl rfl ?_ ?_ ?_ ?_ ?_ ?_ ?_ ?_ ?_ ?_ ?_ ?_ ?_ ?_;(focus (simp only [go_sem,simprocAttr,hb,hx];done));(iterate 12 (focus (simp [go_sem,simprocAttr,hb,hx];done)));try simp only [List.map_cons,List.map_nil]));try simp only [go_sem,simprocAttr,hb,hx])|((with_reducible refine oD ?_ ?_);kernel_rfl)|((with_reducible intro h);try simp only [go_sem,simprocAttr,hb,hx] at h)|omega|intro h)
  refine ⟨j+1,by omega, ?_,by omega⟩
  rw [hst]
  refine Le.of ?_ ?_<;>simp [go_sem,simprocAttr,hb,hx]
 |false=>
  have wQ:ig g L (false,a,pq)=(List.range g.n.toNat).filter (dX g L a):=rfl
  rw [wQ] at bz hbd
  repeat' (first|refine Rn.p ?_|(with_reducible apply And.intro)|((first|(refine hK _ ?_;clear hK K)|with_reducible intro K hK|refine Rs.p ?_|((with_reducible first|apply oP|apply oQ);exact rfl));try simp only [go_sem,simprocAttr,hb,bG,ec])|((with_reducible refine oD ?_ ?_);kernel_rfl)|((with_reducible intro h);try simp only [go_sem,simprocAttr,hb,bG,ec] at h)|omega|intro h)
  clear hb
  refine ah (fun x:Nat=>x≤g.n.toNat) (fun x=>⟨[(2, .ptr 2 0),(4, .d (sNL (kB g L))),(5, .ptr 5 0),(6, .fn 47 [] [.ptr 2 0, .ptr 5 0]),(51, .d (sNL (kB g L))),(52,eN g.n.toNat),(53,eN x)], [(2, .box [.ref 300]),(5, .box [eN k]),(300, .tip 50 3 ((((List.range x).filter (dX g L a)).foldl (bN k true) T0).map iG))]⟩) (fun x=>g.n.toNat - x) 0 (Nat.zero_le _) ?_ ?_
  ·refine Le.of ?_ ?_<;>simp [go_sem,simprocAttr,ec]
  rintro x hx
  rcases Nat.lt_or_ge x g.n.toNat with Fk|Ig
  rotate_left
  ·have hb:decide ((x:Int)<(g.n.toNat:Int))=false:=decide_eq_false (by omega)
   obtain rfl:x=g.n.toNat:=by omega
   have Ai:((List.range g.n.toNat).filter (dX g L a)).foldl (bN k true) T0=T1:=bz.symm
   rw [Ai]
   repeat' (first|refine Rn.p ?_|(with_reducible apply And.intro)|((first|(refine hK _ ?_;clear hK K)|with_reducible intro K hK|refine Rs.p ?_|((with_reducible first|apply oP|apply oQ);exact rfl));try simp only [go_sem,simprocAttr,hb])|((with_reducible refine oD ?_ ?_);kernel_rfl)|((with_reducible intro h);try simp only [go_sem,simprocAttr,hb] at h)|omega|intro h)
   refine ⟨k+1,by rw [Ag];exact cr, ?_,by omega⟩
   rw [Ag]
   refine Le.of ?_ ?_<;>simp [go_sem,simprocAttr,hb]
  have hb:decide ((x:Int)<(g.n.toNat:Int))=true:=decide_eq_true (by omega)
  have hst:=q9 (f:=bN k true) (P:=dX g L a) (b:=T0) (x:=x)
  have Aj:(((List.range x).filter (dX g L a)).foldl (bN k true) T0).length≤L.length+g.n.toNat:=hbd _ fun y hy=>by
   rw [List.mem_filter,List.mem_range] at hy ⊢
   exact ⟨by omega,hy.2⟩
  have Ft:=hpre ((List.range x).filter (dX g L a))
  have ff:(((List.range x).filter (dX g L a)).foldl (bN k true) T0).getD k (false,0,0)=(false,a,pq):=Ft
  have bp:k<(((List.range x).filter (dX g L a)).foldl (bN k true) T0).length:=by
   obtain ⟨t,ht⟩:=gD (k:=k) (c:=true) (xs:=(List.range x).filter (dX g L a)) (out:=T0)
   rw [ht,List.length_append];omega
  have hcd:dX g L a x=(decide (1<((kB g L).getD x []).length)&&decide (a∈(kB g L).getD x [])):=rfl
  rw [hcd] at hst
  generalize ((List.range x).filter (dX g L a)).foldl (bN k true) T0=F0 at hst Aj ff bp ⊢
  generalize tY:((List.range (x+1)).filter (dX g L a)).foldl (bN k true) T0=F1 at hst
  obtain ⟨l,fP⟩:∃l,(kB g L).getD x []=l:=⟨_,rfl⟩
  have Je:l.length≤L.length:=by
   rw [← fP,jP Fk]
   have:=List.length_filter_le (fun q=>(ug g).bw (L.getD q []) x) (List.range L.length)
   rw [List.length_range] at this
   exact this
  rw [fP] at hst
  have ym:=gC l a (by omega)
  have hdl:decide ((1:Int)<(l.length:Int))=decide (1<l.length):=by rw [decide_eq_decide];omega
  have hH:=mK k F0 true x (by omega)
  generalize decide (1<l.length)=q1 at hdl hst
  generalize decide (a∈l)=q2 at ym hst
  cases q1 with
  |false=>
   rw [Bool.false_and,if_neg (by simp)] at hst
   repeat' (first|refine Rn.p ?_|(with_reducible apply And.intro)|((first|(refine hK _ ?_;clear hK K)|with_reducible intro K hK|refine Rs.p ?_|((with_reducible first|apply oP|apply oQ);exact rfl)|refine aa hX hC hP (ym) rfl rfl rfl (by simp only [go_sem,simprocAttr,hb,ec,fP,hdl,ff]) rfl ?_|(refine aZ hX hC hP [(10000,2),(10001,5),(10002,300),(10003,301)] (hH) rfl rfl rfl ?_ ?_ ?_ ?_ ?_ ?_ ?_ ?_ ?_ ?_ ?_ ?_ ?_ ?_;(focus (simp only [go_sem,simprocAttr,hb,ec,fP,hdl,ff];done));(iterate 12 (focus (simp [go_sem,simprocAttr,hb,ec,fP,hdl,ff];done)));try simp only [List.map_cons,List.map_nil]));try simp only [go_sem,simprocAttr,hb,ec,fP,hdl,ff])|((with_reducible refine oD ?_ ?_);kernel_rfl)|((with_reducible intro h);try simp only [go_sem,simprocAttr,hb,ec,fP,hdl,ff] at h)|omega|intro h)
   refine ⟨x+1,by omega, ?_,by omega⟩
   rw [tY,hst]
   refine Le.of ?_ ?_<;>simp [go_sem,simprocAttr,hb,ec,fP,hdl,ff]
  |true=>
   cases q2 with
   |false=>
    rw [Bool.true_and,if_neg (by simp)] at hst
    repeat' (first|refine Rn.p ?_|(with_reducible apply And.intro)|((first|(refine hK _ ?_;clear hK K)|with_reducible intro K hK|refine Rs.p ?_|((with_reducible first|apply oP|apply oQ);exact rfl)|refine aa hX hC hP (ym) rfl rfl rfl (by simp only [go_sem,simprocAttr,hb,ec,fP,hdl,ff]) rfl ?_|(refine aZ hX hC hP [(10000,2),(10001,5),(10002,300),(10003,301)] (hH) rfl rfl rfl ?_ ?_ ?_ ?_ ?_ ?_ ?_ ?_ ?_ ?_ ?_ ?_ ?_ ?_;(focus (simp only [go_sem,simprocAttr,hb,ec,fP,hdl,ff];done));(iterate 12 (focus (simp [go_sem,simprocAttr,hb,ec,fP,hdl,ff];done)));try simp only [List.map_cons,List.map_nil]));try simp only [go_sem,simprocAttr,hb,ec,fP,hdl,ff])|((with_reducible refine oD ?_ ?_);kernel_rfl)|((with_reducible intro h);try simp only [go_sem,simprocAttr,hb,ec,fP,hdl,ff] at h)|omega|intro h)
    refine ⟨x+1,by omega, ?_,by omega⟩
    rw [tY,hst]
    refine Le.of ?_ ?_<;>simp [go_sem,simprocAttr,hb,ec,fP,hdl,ff]
   |true=>
    rw [Bool.true_and,if_pos rfl] at hst
    repeat' (first|(show bB _ (.region 22 _ _) _ _;(refine cc hX 2 0 301 300 rfl rfl rfl (by first|exact .inl rfl|exact .inr rfl) (by decide) (by decide) ?_;simp only [List.set_cons_zero,List.set_cons_succ,go_sem,simprocAttr,hb,ec,fP,hdl,ff]))|refine Rn.p ?_|(with_reducible apply And.intro)|((first|(refine hK _ ?_;clear hK K)|with_reducible intro K hK|refine Rs.p ?_|((with_reducible first|apply oP|apply oQ);exact rfl)|refine aa hX hC hP (ym) rfl rfl rfl (by simp only [go_sem,simprocAttr,hb,ec,fP,hdl,ff]) rfl ?_|(refine aZ hX hC hP [(10000,2),(10001,5),(10002,300),(10003,301)] (hH) rfl rfl rfl ?_ ?_ ?_ ?_ ?_ ?_ ?_ ?_ ?_ ?_ ?_ ?_ ?_ ?_;(focus (simp only [go_sem,simprocAttr,hb,ec,fP,hdl,ff];done));(iterate 12 (focus (simp [go_sem,simprocAttr,hb,ec,fP,hdl,ff];done)));try simp only [List.map_cons,List.map_nil]));try simp only [go_sem,simprocAttr,hb,ec,fP,hdl,ff])|((with_reducible refine oD ?_ ?_);kernel_rfl)|((with_reducible intro h);try simp only [go_sem,simprocAttr,hb,ec,fP,hdl,ff] at h)|omega|intro h)
    refine ⟨x+1,by omega, ?_,by omega⟩
    rw [tY,hst]
    refine Le.of ?_ ?_<;>simp [go_sem,simprocAttr,hb,ec,fP,hdl,ff]
end Go.Ab
end
section
namespace Go.Ab
open Go.Proofs
attribute [local congr] ACall.congr gd.congr Nx.congr
set_option maxRecDepth 20000
set_option maxHeartbeats 16000000
theorem wR (g:Gr) (hm:aT g=true) (L:List (List Nat)) (hL:∀b∈L,(∀i∈b,i<g.es.length)∧b.length≤1000) (n m:Nd):Spec Try.prog 24 (Args [eNd n,eNd m, .d (.pt [sNL L]), .d (.pt [.sc (.int .i64 g.n),sE g.es])]) [] (eB (yo g L n m)) []:=by
 obtain ⟨c,x,p⟩:=n
 obtain ⟨d,y,q⟩:=m
 have yN:∀k v,k<L.length→Spec Try.prog 25 (Args [eG g, .d (sN (L.getD k [])),eN (v:Nat)]) [] (eB ((ug g).bw (L.getD k []) v)) []:=fun k v hk=>by
  have h:=hL _ (dg [] hk)
  exact pQ g hm _ h.1 h.2 v
 have hft:((false:Bool)==true)=false:=rfl
 have nQ:((true:Bool)==false)=false:=rfl
 cases c<;>cases d
 ·have e:yo g L (false,x,p) (false,y,q)=false:=rfl
  rw [e]
  (refine Spec.hd (C:=T.cfg [] []) (rs:= [.t 6]) (T.au _ _) Try.func24 rfl rfl Try.ntmps24 Try.results24 (by simp [AObj.isNest]) (by simp [AObj.isNest]) (by kernel_rfl) T.mixed fun X hX hP hC bf dB=> ?_)
  repeat' (first|refine Rn.p ?_|(with_reducible apply And.intro)|((first|(refine hK _ ?_;clear hK K)|with_reducible intro K hK|refine Rs.p ?_|((with_reducible first|apply oP|apply oQ);exact rfl));try simp only [go_sem,simprocAttr])|((with_reducible refine oD ?_ ?_);kernel_rfl)|((with_reducible intro h);try simp only [go_sem,simprocAttr] at h)|omega|intro h)
 ·have e:yo g L (false,x,p) (true,y,q)=(decide (x<L.length)&&(ug g).bw (L.getD x []) y):=rfl
  rw [e]
  have h0:decide ((0:Int)≤(x:Int))=true:=decide_eq_true (by omega)
  have h1:decide ((x:Int)<(L.length:Int))=decide (x<L.length):=by rw [decide_eq_decide];omega
  by_cases hx:x<L.length
  ·have hA:=yN x y hx
   rw [decide_eq_true hx] at h1 ⊢
   generalize (ug g).bw (L.getD x []) y=r at hA ⊢
   (refine Spec.hd (C:=T.cfg [] []) (rs:= [.t 6]) (T.au _ _) Try.func24 rfl rfl Try.ntmps24 Try.results24 (by simp [AObj.isNest]) (by simp [AObj.isNest]) (by kernel_rfl) T.mixed fun X hX hP hC bf dB=> ?_)
   repeat' (first|refine Rn.p ?_|(with_reducible apply And.intro)|((first|(refine hK _ ?_;clear hK K)|with_reducible intro K hK|refine Rs.p ?_|((with_reducible first|apply oP|apply oQ);exact rfl)|(refine dL hX hC hP (hA) rfl rfl rfl ?_ ?_ rfl ?_;iterate 2 (focus (simp only [go_sem,simprocAttr,h0,h1,Bool.true_and,hft,nQ];done)))|refine aa hX hC hP (hA) rfl rfl rfl (by simp only [go_sem,simprocAttr,h0,h1,Bool.true_and,hft,nQ]) rfl ?_);try simp only [go_sem,simprocAttr,h0,h1,Bool.true_and,hft,nQ])|((with_reducible refine oD ?_ ?_);kernel_rfl)|((with_reducible intro h);try simp only [go_sem,simprocAttr,h0,h1,Bool.true_and,hft,nQ] at h)|omega|intro h)
  ·rw [decide_eq_false hx] at h1 ⊢
   (refine Spec.hd (C:=T.cfg [] []) (rs:= [.t 6]) (T.au _ _) Try.func24 rfl rfl Try.ntmps24 Try.results24 (by simp [AObj.isNest]) (by simp [AObj.isNest]) (by kernel_rfl) T.mixed fun X hX hP hC bf dB=> ?_)
   repeat' (first|refine Rn.p ?_|(with_reducible apply And.intro)|((first|(refine hK _ ?_;clear hK K)|with_reducible intro K hK|refine Rs.p ?_|((with_reducible first|apply oP|apply oQ);exact rfl));try simp only [go_sem,simprocAttr,h0,h1,Bool.false_and,hft,nQ])|((with_reducible refine oD ?_ ?_);kernel_rfl)|((with_reducible intro h);try simp only [go_sem,simprocAttr,h0,h1,Bool.false_and,hft,nQ] at h)|omega|intro h)
 ·have e:yo g L (true,x,p) (false,y,q)=(decide (y<L.length)&&(ug g).bw (L.getD y []) x):=rfl
  rw [e]
  have h0:decide ((0:Int)≤(y:Int))=true:=decide_eq_true (by omega)
  have h1:decide ((y:Int)<(L.length:Int))=decide (y<L.length):=by rw [decide_eq_decide];omega
  by_cases hx:y<L.length
  ·have hA:=yN y x hx
   rw [decide_eq_true hx] at h1 ⊢
   generalize (ug g).bw (L.getD y []) x=r at hA ⊢
   (refine Spec.hd (C:=T.cfg [] []) (rs:= [.t 6]) (T.au _ _) Try.func24 rfl rfl Try.ntmps24 Try.results24 (by simp [AObj.isNest]) (by simp [AObj.isNest]) (by kernel_rfl) T.mixed fun X hX hP hC bf dB=> ?_)
   repeat' (first|refine Rn.p ?_|(with_reducible apply And.intro)|((first|(refine hK _ ?_;clear hK K)|with_reducible intro K hK|refine Rs.p ?_|((with_reducible first|apply oP|apply oQ);exact rfl)|(refine dL hX hC hP (hA) rfl rfl rfl ?_ ?_ rfl ?_;iterate 2 (focus (simp only [go_sem,simprocAttr,h0,h1,Bool.true_and,hft,nQ];done)))|refine aa hX hC hP (hA) rfl rfl rfl (by simp only [go_sem,simprocAttr,h0,h1,Bool.true_and,hft,nQ]) rfl ?_);try simp only [go_sem,simprocAttr,h0,h1,Bool.true_and,hft,nQ])|((with_reducible refine oD ?_ ?_);kernel_rfl)|((with_reducible intro h);try simp only [go_sem,simprocAttr,h0,h1,Bool.true_and,hft,nQ] at h)|omega|intro h)
  ·rw [decide_eq_false hx] at h1 ⊢
   (refine Spec.hd (C:=T.cfg [] []) (rs:= [.t 6]) (T.au _ _) Try.func24 rfl rfl Try.ntmps24 Try.results24 (by simp [AObj.isNest]) (by simp [AObj.isNest]) (by kernel_rfl) T.mixed fun X hX hP hC bf dB=> ?_)
   repeat' (first|refine Rn.p ?_|(with_reducible apply And.intro)|((first|(refine hK _ ?_;clear hK K)|with_reducible intro K hK|refine Rs.p ?_|((with_reducible first|apply oP|apply oQ);exact rfl));try simp only [go_sem,simprocAttr,h0,h1,Bool.false_and,hft,nQ])|((with_reducible refine oD ?_ ?_);kernel_rfl)|((with_reducible intro h);try simp only [go_sem,simprocAttr,h0,h1,Bool.false_and,hft,nQ] at h)|omega|intro h)
 ·have e:yo g L (true,x,p) (true,y,q)=false:=rfl
  rw [e]
  (refine Spec.hd (C:=T.cfg [] []) (rs:= [.t 6]) (T.au _ _) Try.func24 rfl rfl Try.ntmps24 Try.results24 (by simp [AObj.isNest]) (by simp [AObj.isNest]) (by kernel_rfl) T.mixed fun X hX hP hC bf dB=> ?_)
  repeat' (first|refine Rn.p ?_|(with_reducible apply And.intro)|((first|(refine hK _ ?_;clear hK K)|with_reducible intro K hK|refine Rs.p ?_|((with_reducible first|apply oP|apply oQ);exact rfl));try simp only [go_sem,simprocAttr])|((with_reducible refine oD ?_ ?_);kernel_rfl)|((with_reducible intro h);try simp only [go_sem,simprocAttr] at h)|omega|intro h)
def gX (g:Gr) (L:List (List Nat)) (k:Nat) (nd:Nd) (out:List Nd) (n:Nd):List Nd:=if (!yo g L n nd||wz out n.1 n.2.1)=true then out else out++ [n]
def tM (L:List (List Nat)) (cu:List Nat) (k:Nat) (nd:Nd):List Nd:=if nd.1=true then (List.range L.length).map fun b=>(false,b,(k:Int)) else cu.map fun x=>(true,x,(k:Int))
theorem lS {g:Gr} {L:List (List Nat)} {k:Nat} {nd:Nd} {c:Bool} :∀ {xs:List Nat} {out:List Nd},(xs.map fun x=>((c,x,(k:Int)):Nd)).foldl (gX g L k nd) out=(xs.filter fun x=>yo g L (c,x,(k:Int)) nd).foldl (bN k c) out
 | [],out=>rfl
 |x::xs,out=>by
  rw [List.map_cons,List.foldl_cons,lS,List.filter_cons]
  unfold gX
  cases hin:yo g L (c,x,(k:Int)) nd with
  |false=>simp
  |true=>
   rw [if_pos rfl,List.foldl_cons]
   simp only [Bool.not_true,Bool.false_or]
   rfl
theorem yp {g:Gr} {L:List (List Nat)} {k:Nat} {nd:Nd} {out:List Nd} (hL:L=(ug g).aB) (h:nd.2.1<if nd.1=true then g.n.toNat else L.length):(tM L (fO g) k nd).foldl (gX g L k nd) out=(ig g L nd).foldl (bN k (!nd.1)) out:=by
 obtain ⟨c,a,q⟩:=nd
 unfold tM ig
 cases c with
 |true=>
  simp only [if_true] at h ⊢
  rw [lS]
  congr 1
  rw [jP h]
  refine List.filter_congr fun x hx=> ?_
  rw [List.mem_range] at hx
  show (decide (x<L.length)&&(ug g).bw (L.getD x []) a)=_
  rw [decide_eq_true hx,Bool.true_and]
 |false=>
  simp only [Bool.false_eq_true,if_false] at h ⊢
  rw [lS]
  congr 1
  unfold fO dn
  rw [List.filter_filter]
  refine List.filter_congr fun x hx=> ?_
  rw [List.mem_range] at hx
  show ((decide (a<L.length)&&(ug g).bw (L.getD a []) x)&&_)=dX g L a x
  unfold dX
  rw [decide_eq_true h,Bool.true_and,Bool.and_comm]
  congr 1
  ·rw [jP hx,qY (Nat.le_refl _),hL]
  ·rw [Bool.eq_iff_iff,decide_eq_true_eq,sD hx]
   exact ⟨fun h2=>⟨h,h2⟩,fun h2=>h2.2⟩
theorem p4 {α β:Type} (f:β→α→β) (b:β) (l:List α) (d:α) {j:Nat} (hj:j<l.length):(l.take (j+1)).foldl f b=f ((l.take j).foldl f b) (l.getD j d):=by
 rw [List.take_add_one,List.getElem?_eq_getElem hj,Option.toList_some,List.foldl_append,List.getD_eq_getElem?_getD,List.getElem?_eq_getElem hj]
 rfl
structure Fx (p:Prop):Prop where
 out:p
theorem wS {q p:Prop} (f:Fx q→p) (h:q):p:=f ⟨h⟩
theorem nR {g:Gr} {L:List (List Nat)} {k:Nat} {nd:Nd} :∀ {xs out:List Nd},∃t,xs.foldl (gX g L k nd) out=out++t
 | [],out=>⟨[],by simp⟩
 |x::xs,out=>by
  obtain ⟨t,ht⟩:=nR (g:=g) (L:=L) (k:=k) (nd:=nd) (xs:=xs) (out:=gX g L k nd out x)
  rw [List.foldl_cons,ht]
  unfold gX
  split
  ·exact ⟨t,rfl⟩
  ·exact ⟨_::t,by rw [List.append_assoc];rfl⟩
def yU (b:Bool) (out:List Nd) (n:Nd) (i:Nat):Bool:=b||(out.take i).any (tI n.1 n.2.1)
theorem lT (g:Gr) (hlen:g.es.length≤9223372036854775807):Spec Try.prog 7 (Args [eG g]) [] (eB true) []:=by
 have Fy:=nP
 have CG:=q7 g hlen
 cases hlb:lQ g with
 |true=>
  rw [hlb] at CG
  (refine Spec.hd (C:=T.cfg [] []) (rs:= [.t 2]) (T.au _ _) Try.func7 rfl rfl Try.ntmps7 Try.results7 (by simp [AObj.isNest]) (by simp [AObj.isNest]) (by kernel_rfl) T.mixed fun X hX hP hC bf dB=> ?_)
  repeat' (first|refine Rn.p ?_|(with_reducible apply And.intro)|((first|(refine hK _ ?_;clear hK K)|with_reducible intro K hK|refine Rs.p ?_|((with_reducible first|apply oP|apply oQ);exact rfl)|refine aa hX hC hP (Fy) rfl rfl rfl (by simp only [go_sem,simprocAttr]) rfl ?_|refine aa hX hC hP (CG) rfl rfl rfl (by simp only [go_sem,simprocAttr]) rfl ?_);try simp only [go_sem,simprocAttr])|((with_reducible refine oD ?_ ?_);kernel_rfl)|((with_reducible intro h);try simp only [go_sem,simprocAttr] at h)|omega|intro h)
 |false=>
 rw [hlb] at CG
 obtain ⟨hm,hl,GA,C5⟩:=wu hlb
 have hn:=cO hm
 by_cases hz:g.es.length=0
 ·have fV:(ug g).aB= []:=by
   have:(ug g).aB.length≤g.es.length:=fc
   exact List.eq_nil_of_length_eq_zero (by omega)
  have hT:=tH g hlen (by rw [js (by rw [hm,hl];rfl)];exact fV)
  have gr:decide ((g.es.length:Int)=0)=true:=decide_eq_true (by omega)
  (refine Spec.hd (C:=T.cfg [] []) (rs:= [.t 2]) (T.au _ _) Try.func7 rfl rfl Try.ntmps7 Try.results7 (by simp [AObj.isNest]) (by simp [AObj.isNest]) (by kernel_rfl) T.mixed fun X hX hP hC bf dB=> ?_)
  repeat' (first|refine Rn.p ?_|(with_reducible apply And.intro)|((first|(refine hK _ ?_;clear hK K)|with_reducible intro K hK|refine Rs.p ?_|((with_reducible first|apply oP|apply oQ);exact rfl)|refine aa hX hC hP (Fy) rfl rfl rfl (by simp only [go_sem,simprocAttr,gr]) rfl ?_|refine aa hX hC hP (CG) rfl rfl rfl (by simp only [go_sem,simprocAttr,gr]) rfl ?_|refine aa hX hC hP (hT) rfl rfl rfl (by simp only [go_sem,simprocAttr,gr]) rfl ?_);try simp only [go_sem,simprocAttr,gr])|((with_reducible refine oD ?_ ?_);kernel_rfl)|((with_reducible intro h);try simp only [go_sem,simprocAttr,gr] at h)|omega|intro h)
 have gr:decide ((g.es.length:Int)=0)=false:=decide_eq_false (by omega)
 have hT:=tK g hlen hm hl GA (by omega)
 have GC:=jq g hm hl
 have Is:=qP g hm hl
 have Dh:(ug g).aB.length≤g.es.length:=fc
 have Af:0<(ug g).aB.length:=by
  obtain ⟨b,hb,_⟩:=UG.ku (G:=ug g) (i:=0) (show 0<g.es.length by omega)
  exact List.length_pos_of_mem hb
 have hIn:=wR g hm (ug g).aB fun b hb=>⟨(jQ g b hb).1,by have:=(jQ g b hb).2;omega⟩
 have Iu:(fO g).length≤g.n.toNat:=jL
 have j4:wO g=aC g (ug g).aB ((ug g).aB.length+g.n.toNat):=rfl
 rw [j4] at hT
 obtain ⟨L,GD⟩:∃L,L=(ug g).aB:=⟨_,rfl⟩
 have Fz:=fun k nd out h=>yp (g:=g) (L:=L) (k:=k) (nd:=nd) (out:=out) GD h
 rw [← GD] at hT GC Dh Af hIn
 generalize fO g=cu at*
 obtain ⟨TN,Dk⟩:∃TN,aC g L (L.length+g.n.toNat)=TN:=⟨_,rfl⟩
 rw [Dk] at hT
 have hok:=(gP (g:=g) Af (L.length+g.n.toNat)).1.len
 have Ak:∃r,TN=(false,0, -1)::r:=by
  have:∀k,∃r,aC g L k=(false,0, -1)::r:=by
   intro k
   induction k with
   |zero=>exact ⟨[],rfl⟩
   |succ k ih=>
    obtain ⟨r,hr⟩:=ih
    rw [aC]
    split
    ·obtain ⟨t,ht⟩:=gD (k:=k) (c:= !((aC g L k).getD k (false,0,0)).1) (xs:=ig g L ((aC g L k).getD k (false,0,0))) (out:=aC g L k)
     refine ⟨r++t, ?_⟩
     unfold q8
     rw [ht,hr];rfl
    ·exact ⟨r,hr⟩
  rw [← Dk]
  exact this _
 rw [Dk] at hok
 obtain ⟨tr,htr⟩:=Ak
 have Al:TN.getD 0 (false,0,0)=(false,0, -1):=by rw [htr];rfl
 have kg:decide ((TN.length:Int)=0)=false:=decide_eq_false (by rw [htr,List.length_cons];omega)
 have GF:0<TN.length:=by rw [htr,List.length_cons];omega
 (refine Spec.hd (C:=T.cfg [] []) (rs:= [.t 2]) (T.au _ _) Try.func7 rfl rfl Try.ntmps7 Try.results7 (by simp [AObj.isNest]) (by simp [AObj.isNest]) (by kernel_rfl) T.mixed fun X hX hP hC bf dB=> ?_)
 repeat' (first|refine Rn.p ?_|(with_reducible apply And.intro)|((first|(refine hK _ ?_;clear hK K)|with_reducible intro K hK|refine Rs.p ?_|((with_reducible first|apply oP|apply oQ);exact rfl)|refine aa hX hC hP (Fy) rfl rfl rfl (by simp only [go_sem,simprocAttr,gr,Al,kg]) rfl ?_|refine aa hX hC hP (CG) rfl rfl rfl (by simp only [go_sem,simprocAttr,gr,Al,kg]) rfl ?_|refine aa hX hC hP (hT) rfl rfl rfl (by simp only [go_sem,simprocAttr,gr,Al,kg]) rfl ?_|refine aa hX hC hP (GC) rfl rfl rfl (by simp only [go_sem,simprocAttr,gr,Al,kg]) rfl ?_|refine aa hX hC hP (Is) rfl rfl rfl (by simp only [go_sem,simprocAttr,gr,Al,kg]) rfl ?_);try simp only [go_sem,simprocAttr,gr,Al,kg])|((with_reducible refine oD ?_ ?_);kernel_rfl)|((with_reducible intro h);try simp only [go_sem,simprocAttr,gr,Al,kg] at h)|omega|intro h)
 refine ah (fun k:Nat=>k≤(aC g L k).length) (fun k=>⟨[(1, .ptr 1 0),(3, .d (sNd TN)),(4, .ptr 4 0),(5, .d (sN cu)),(6, .fn 24 [] [.ptr 4 0, .ptr 1 0]),(7, .ref 61),(8,eN k)], [(61, .tip 50 3 ((aC g L k).map iG)),(4, .box [.d (sNL L)]),(1, .box [eN g.n, .d (sE g.es)])]⟩) (fun k=>L.length+g.n.toNat+1 - k) 0 (Nat.zero_le _) ?_ ?_
 ·refine Le.of ?_ ?_<;>simp [go_sem,simprocAttr,aC,iG]
 rintro k hk
 obtain ⟨CH,_⟩:=gP (g:=g) Af k
 have wk:=CH.len
 rcases Nat.lt_or_ge k (aC g L k).length with hlt|hge
 rotate_left
 ·have hb:decide ((k:Int)<((aC g L k).length:Int))=false:=decide_eq_false (by omega)
  have hend:=lR hge (L.length+g.n.toNat - k)
  rw [show k+(L.length+g.n.toNat - k)=L.length+g.n.toNat by omega] at hend
  rw [Dk] at hend
  rw [← hend] at hb ⊢
  have heq:decide ((TN.length:Int)=(TN.length:Int))=true:=decide_eq_true rfl
  repeat' (first|refine Rn.p ?_|(with_reducible apply And.intro)|((first|(refine hK _ ?_;clear hK K)|with_reducible intro K hK|refine Rs.p ?_|((with_reducible first|apply oP|apply oQ);exact rfl));try simp only [go_sem,simprocAttr,hb,heq])|((with_reducible refine oD ?_ ?_);kernel_rfl)|((with_reducible intro h);try simp only [go_sem,simprocAttr,hb,heq] at h)|omega|intro h)
  clear hb
  refine ah (fun i:Nat=>i≤TN.length) (fun i=>⟨[(3, .d (sNd TN)),(7, .ref 61),(148,eN TN.length),(149,eN i)], [(61, .tip 50 3 (TN.map iG))]⟩) (fun i=>TN.length - i) 0 (Nat.zero_le _) ?_ ?_
  ·refine Le.of ?_ ?_<;>simp [go_sem,simprocAttr]
  rintro i hi
  rcases Nat.lt_or_ge i TN.length with AO|Gk
  rotate_left
  ·have hb:decide ((i:Int)<(TN.length:Int))=false:=decide_eq_false (by omega)
   repeat' (first|refine Rn.p ?_|(with_reducible apply And.intro)|((first|(refine hK _ ?_;clear hK K)|with_reducible intro K hK|refine Rs.p ?_|((with_reducible first|apply oP|apply oQ);exact rfl));try simp only [go_sem,simprocAttr,hb])|((with_reducible refine oD ?_ ?_);kernel_rfl)|((with_reducible intro h);try simp only [go_sem,simprocAttr,hb] at h)|omega|intro h)
  have hb:decide ((i:Int)<(TN.length:Int))=true:=decide_eq_true (by omega)
  obtain ⟨⟨mc,ma,mp⟩,hme⟩:∃m,TN.getD i (false,0,0)=m:=⟨_,rfl⟩
  have e1:(mc==mc)=true:=beq_self_eq_true _
  have e2:decide ((ma:Int)=(ma:Int))=true:=decide_eq_true rfl
  have e3:decide (mp=mp)=true:=decide_eq_true rfl
  repeat' (first|refine Rn.p ?_|(with_reducible apply And.intro)|((first|(refine hK _ ?_;clear hK K)|with_reducible intro K hK|refine Rs.p ?_|((with_reducible first|apply oP|apply oQ);exact rfl));try simp only [go_sem,simprocAttr,hb,hme,e1,e2,e3,decide_true,Bool.and_true,Bool.true_and])|((with_reducible refine oD ?_ ?_);kernel_rfl)|((with_reducible intro h);try simp only [go_sem,simprocAttr,hb,hme,e1,e2,e3,decide_true,Bool.and_true,Bool.true_and] at h)|omega|intro h)
  refine ⟨i+1,by omega, ?_,by omega⟩
  refine Le.of ?_ ?_<;>simp [go_sem,simprocAttr,hb,hme,e1,e2,e3,decide_true,Bool.and_true,Bool.true_and]
 have hbk:decide ((k:Int)<((aC g L k).length:Int))=true:=decide_eq_true (by omega)
 have bz:aC g L (k+1)=q8 g L k (aC g L k):=by rw [aC,if_pos hlt]
 have cr:=pY hk hlt
 have CF:=(gP (g:=g) Af (k+1)).1.len
 generalize Ag:aC g L (k+1)=T1 at*
 generalize aC g L k=T0 at*
 obtain ⟨nd,bG⟩:∃nd,T0.getD k (false,0,0)=nd:=⟨_,rfl⟩
 have Ah:nd∈T0:=by rw [← bG];exact dg _ hlt
 have tL:=CH.lt nd Ah
 unfold q8 at bz
 rw [bG] at bz
 have hex:=Fz k nd T0 tL
 rw [← bz] at hex
 obtain ⟨C,Dl⟩:∃C,tM L cu k nd=C:=⟨_,rfl⟩
 rw [Dl] at hex
 have GG:C.length≤100:=by
  rw [← Dl]
  unfold tM
  split
  ·rw [List.length_map,List.length_range];omega
  ·rw [List.length_map];omega
 apply wS
 ·intro hB
  rcases Bool.eq_false_or_eq_true nd.1 with Am|Am
  ·have AR:C=(List.range L.length).map fun b=>((false,b,(k:Int)):Nd):=by rw [← Dl];unfold tM;rw [if_pos Am]
   repeat' (first|refine Rn.p ?_|(with_reducible apply And.intro)|((first|(refine hK _ ?_;clear hK K)|with_reducible intro K hK|refine Rs.p ?_|((with_reducible first|apply oP|apply oQ);exact rfl));try simp only [go_sem,simprocAttr,hbk,bG,Am])|((with_reducible refine oD ?_ ?_);kernel_rfl)|((with_reducible intro h);try simp only [go_sem,simprocAttr,hbk,bG,Am] at h)|omega|intro h)
   refine ah (fun j:Nat=>j≤L.length) (fun j=>⟨[(1, .ptr 1 0),(3, .d (sNd TN)),(4, .ptr 4 0),(5, .d (sN cu)),(6, .fn 24 [] [.ptr 4 0, .ptr 1 0]),(7, .ref 61),(8,eN k),(9, .ref 68),(75,eN L.length),(76,eN j)], [(68, .tip 50 3 (((List.range j).map fun b=>((false,b,(k:Int)):Nd)).map iG)),(61, .tip 50 3 (T0.map iG)),(4, .box [.d (sNL L)]),(1, .box [eN g.n, .d (sE g.es)])]⟩) (fun j=>L.length - j) 0 (Nat.zero_le _) ?_ ?_
   ·refine Le.of ?_ ?_<;>simp [go_sem,simprocAttr]
   rintro j hj
   rcases Nat.lt_or_ge j L.length with hlj|Di
   ·have hb:decide ((j:Int)<(L.length:Int))=true:=decide_eq_true (by omega)
    have lU:((List.range (j+1)).map fun b=>((false,b,(k:Int)):Nd)).map iG=((List.range j).map fun b=>((false,b,(k:Int)):Nd)).map iG++ [[.sc (.bool false), .sc (.int .i64 (j:Int)), .sc (.int .i64 (k:Int))]]:=by
     rw [List.range_succ,List.map_append,List.map_append];rfl
    have hrl:(((List.range j).map fun b=>((false,b,(k:Int)):Nd)).map iG).length≤1000:=by rw [List.length_map,List.length_map,List.length_range];omega
    generalize ((List.range j).map fun b=>((false,b,(k:Int)):Nd)).map iG=R0 at lU hrl ⊢
    repeat' (first|(show bB _ (.region 22 _ _) _ _;(refine gu hX 9 84 68 (by simp only [go_sem,simprocAttr,hb]) rfl (by first|exact .inl rfl|exact .inr rfl) (by decide) ?_;simp only [go_sem,simprocAttr,hb]))|refine Rn.p ?_|(with_reducible apply And.intro)|((first|(refine hK _ ?_;clear hK K)|with_reducible intro K hK|refine Rs.p ?_|((with_reducible first|apply oP|apply oQ);exact rfl));try simp only [go_sem,simprocAttr,hb])|((with_reducible refine oD ?_ ?_);kernel_rfl)|((with_reducible intro h);try simp only [go_sem,simprocAttr,hb] at h)|omega|intro h)
    refine ⟨j+1,by omega, ?_,by omega⟩
    rw [lU]
    refine Le.of ?_ ?_<;>simp [go_sem,simprocAttr,hb]
   ·have hb:decide ((j:Int)<(L.length:Int))=false:=decide_eq_false (by omega)
    obtain rfl:j=L.length:=by omega
    rw [← AR]
    repeat' (first|refine Rn.p ?_|(with_reducible apply And.intro)|((first|(refine hK _ ?_;clear hK K)|with_reducible intro K hK|refine Rs.p ?_|((with_reducible first|apply oP|apply oQ);exact rfl));try simp only [go_sem,simprocAttr,hb])|((with_reducible refine oD ?_ ?_);kernel_rfl)|((with_reducible intro h);try simp only [go_sem,simprocAttr,hb] at h)|omega|intro h)
    refine ah (fun j:Nat=>j≤C.length) (fun j=>⟨[(1, .ptr 1 0),(3, .d (sNd TN)),(4, .ptr 4 0),(5, .d (sN cu)),(6, .fn 24 [] [.ptr 4 0, .ptr 1 0]),(7, .ref 61),(8,eN k),(99, .ref 68),(100,eN C.length),(101,eN j)], [(68, .tip 50 3 (C.map iG)),(61, .tip 50 3 (((C.take j).foldl (gX g L k (T0.getD k (false,0,0))) T0).map iG)),(4, .box [.d (sNL L)]),(1, .box [eN g.n, .d (sE g.es)])]⟩) (fun j=>C.length - j) 0 (Nat.zero_le _) ?_ hB.out
    refine Le.of ?_ ?_<;>simp [go_sem,simprocAttr,hb]
  ·have AR:C=cu.map fun x=>((true,x,(k:Int)):Nd):=by rw [← Dl];unfold tM;rw [if_neg (by rw [Am];exact Bool.noConfusion)]
   repeat' (first|refine Rn.p ?_|(with_reducible apply And.intro)|((first|(refine hK _ ?_;clear hK K)|with_reducible intro K hK|refine Rs.p ?_|((with_reducible first|apply oP|apply oQ);exact rfl));try simp only [go_sem,simprocAttr,hbk,bG,Am])|((with_reducible refine oD ?_ ?_);kernel_rfl)|((with_reducible intro h);try simp only [go_sem,simprocAttr,hbk,bG,Am] at h)|omega|intro h)
   refine ah (fun j:Nat=>j≤cu.length) (fun j=>⟨[(1, .ptr 1 0),(3, .d (sNd TN)),(4, .ptr 4 0),(5, .d (sN cu)),(6, .fn 24 [] [.ptr 4 0, .ptr 1 0]),(7, .ref 61),(8,eN k),(9, .ref 68),(86, .d (sN cu)),(87,eN cu.length),(88,eN j)], [(68, .tip 50 3 (((cu.take j).map fun x=>((true,x,(k:Int)):Nd)).map iG)),(61, .tip 50 3 (T0.map iG)),(4, .box [.d (sNL L)]),(1, .box [eN g.n, .d (sE g.es)])]⟩) (fun j=>cu.length - j) 0 (Nat.zero_le _) ?_ ?_
   ·refine Le.of ?_ ?_<;>simp [go_sem,simprocAttr]
   rintro j hj
   rcases Nat.lt_or_ge j cu.length with hlj|Di
   ·have hb:decide ((j:Int)<(cu.length:Int))=true:=decide_eq_true (by omega)
    obtain ⟨x,hx⟩:∃x,cu.getD j 0=x:=⟨_,rfl⟩
    have lU:((cu.take (j+1)).map fun x=>((true,x,(k:Int)):Nd)).map iG=((cu.take j).map fun x=>((true,x,(k:Int)):Nd)).map iG++ [[.sc (.bool true), .sc (.int .i64 (x:Int)), .sc (.int .i64 (k:Int))]]:=by
     rw [List.take_add_one,List.getElem?_eq_getElem hlj,Option.toList_some,List.map_append,List.map_append]
     rw [List.getD_eq_getElem?_getD,List.getElem?_eq_getElem hlj] at hx
     rw [← hx];rfl
    have hrl:(((cu.take j).map fun x=>((true,x,(k:Int)):Nd)).map iG).length≤1000:=by rw [List.length_map,List.length_map,List.length_take];omega
    generalize ((cu.take j).map fun x=>((true,x,(k:Int)):Nd)).map iG=R0 at lU hrl ⊢
    repeat' (first|(show bB _ (.region 27 _ _) _ _;(refine gu hX 9 97 68 (by simp only [go_sem,simprocAttr,hb,hx]) rfl (by first|exact .inl rfl|exact .inr rfl) (by decide) ?_;simp only [go_sem,simprocAttr,hb,hx]))|refine Rn.p ?_|(with_reducible apply And.intro)|((first|(refine hK _ ?_;clear hK K)|with_reducible intro K hK|refine Rs.p ?_|((with_reducible first|apply oP|apply oQ);exact rfl));try simp only [go_sem,simprocAttr,hb,hx])|((with_reducible refine oD ?_ ?_);kernel_rfl)|((with_reducible intro h);try simp only [go_sem,simprocAttr,hb,hx] at h)|omega|intro h)
    refine ⟨j+1,by omega, ?_,by omega⟩
    rw [lU]
    refine Le.of ?_ ?_<;>simp [go_sem,simprocAttr,hb,hx]
   ·have hb:decide ((j:Int)<(cu.length:Int))=false:=decide_eq_false (by omega)
    obtain rfl:j=cu.length:=by omega
    rw [List.take_length, ← AR]
    repeat' (first|refine Rn.p ?_|(with_reducible apply And.intro)|((first|(refine hK _ ?_;clear hK K)|with_reducible intro K hK|refine Rs.p ?_|((with_reducible first|apply oP|apply oQ);exact rfl));try simp only [go_sem,simprocAttr,hb])|((with_reducible refine oD ?_ ?_);kernel_rfl)|((with_reducible intro h);try simp only [go_sem,simprocAttr,hb] at h)|omega|intro h)
    refine ah (fun j:Nat=>j≤C.length) (fun j=>⟨[(1, .ptr 1 0),(3, .d (sNd TN)),(4, .ptr 4 0),(5, .d (sN cu)),(6, .fn 24 [] [.ptr 4 0, .ptr 1 0]),(7, .ref 61),(8,eN k),(99, .ref 68),(100,eN C.length),(101,eN j)], [(68, .tip 50 3 (C.map iG)),(61, .tip 50 3 (((C.take j).foldl (gX g L k (T0.getD k (false,0,0))) T0).map iG)),(4, .box [.d (sNL L)]),(1, .box [eN g.n, .d (sE g.es)])]⟩) (fun j=>C.length - j) 0 (Nat.zero_le _) ?_ hB.out
    refine Le.of ?_ ?_<;>simp [go_sem,simprocAttr,hb]
 rw [bG]
 rintro j hj
 rcases Nat.lt_or_ge j C.length with hlj|Di
 rotate_left
 ·have hb:decide ((j:Int)<(C.length:Int))=false:=decide_eq_false (by omega)
  obtain rfl:j=C.length:=by omega
  rw [List.take_length,hex]
  repeat' (first|refine Rn.p ?_|(with_reducible apply And.intro)|((first|(refine hK _ ?_;clear hK K)|with_reducible intro K hK|refine Rs.p ?_|((with_reducible first|apply oP|apply oQ);exact rfl));try simp only [go_sem,simprocAttr,hb])|((with_reducible refine oD ?_ ?_);kernel_rfl)|((with_reducible intro h);try simp only [go_sem,simprocAttr,hb] at h)|omega|intro h)
  refine ⟨k+1,by rw [Ag];exact cr, ?_,by omega⟩
  rw [Ag]
  refine Le.of ?_ ?_<;>simp [go_sem,simprocAttr,hb]
 have hb:decide ((j:Int)<(C.length:Int))=true:=decide_eq_true (by omega)
 obtain ⟨n,hne⟩:∃n,C.getD j (false,0,0)=n:=⟨_,rfl⟩
 have hst:=p4 (gX g L k nd) T0 C (false,0,0) hlj
 rw [hne] at hst
 obtain ⟨tp,GH⟩:=nR (g:=g) (L:=L) (k:=k) (nd:=nd) (xs:=C.take j) (out:=T0)
 have Jf:k<((C.take j).foldl (gX g L k nd) T0).length:=by rw [GH,List.length_append];omega
 have FA:((C.take j).foldl (gX g L k nd) T0).getD k (false,0,0)=nd:=by
  rw [GH,List.getD_eq_getElem?_getD,List.getElem?_append_left hlt, ← List.getD_eq_getElem?_getD,bG]
 have Jg:((C.take j).foldl (gX g L k nd) T0).length≤L.length+g.n.toNat:=by
  obtain ⟨t2,ht2⟩:=nR (g:=g) (L:=L) (k:=k) (nd:=nd) (xs:=C.drop j) (out:=(C.take j).foldl (gX g L k nd) T0)
  rw [← List.foldl_append,List.take_append_drop,hex] at ht2
  rw [ht2,List.length_append] at CF
  omega
 generalize tY:(C.take (j+1)).foldl (gX g L k nd) T0=F1 at hst
 generalize (C.take j).foldl (gX g L k nd) T0=F0 at*
 have hI:=hIn n nd
 unfold gX at hst
 have Fa:wz F0 n.1 n.2.1=F0.any (tI n.1 n.2.1):=rfl
 rw [Fa] at hst
 generalize yo g L n nd=qi at hI hst
 obtain ⟨nc,na,np⟩:=n
 obtain ⟨dc,da,dp⟩:=nd
 simp only at hst hI
 repeat' (first|refine Rn.p ?_|(with_reducible apply And.intro)|((first|(refine hK _ ?_;clear hK K)|with_reducible intro K hK|refine Rs.p ?_|((with_reducible first|apply oP|apply oQ);exact rfl)|(refine bS hX hC hP (hI) rfl rfl rfl ?_ ?_ ?_ ?_;iterate 3 (focus (simp only [go_sem,simprocAttr,hb,hne,FA];done))));try simp only [go_sem,simprocAttr,hb,hne,FA])|((with_reducible refine oD ?_ ?_);kernel_rfl)|((with_reducible intro h);try simp only [go_sem,simprocAttr,hb,hne,FA] at h)|omega|intro h)
 clear hb
 refine ah (fun i:Nat=>i≤F0.length) (fun i=>⟨[(1, .ptr 1 0),(3, .d (sNd TN)),(4, .ptr 4 0),(5, .d (sN cu)),(6, .fn 24 [] [.ptr 4 0, .ptr 1 0]),(7, .ref 61),(8,eN k),(99, .ref 68),(100,eN C.length),(101,eN j),(14, .ptr 14 0),(15,eB (yU (!qi) F0 (nc,na,np) i)),(113, .ref 61),(114,eN F0.length),(115,eN i)], [(14, .box [eB nc,eN na,eN np]),(68, .tip 50 3 (C.map iG)),(61, .tip 50 3 (F0.map iG)),(4, .box [.d (sNL L)]),(1, .box [eN g.n, .d (sE g.es)])]⟩) (fun i=>F0.length - i) 0 (Nat.zero_le _) ?_ ?_
 ·refine Le.of ?_ ?_<;>simp [go_sem,simprocAttr,yU]
 rintro i hi
 rcases Nat.lt_or_ge i F0.length with AO|Gk
 rotate_left
 ·have hb:decide ((i:Int)<(F0.length:Int))=false:=decide_eq_false (by omega)
  obtain rfl:i=F0.length:=by omega
  have hkn:yU (!qi) F0 (nc,na,np) F0.length=(!qi||F0.any (tI nc na)):=by unfold yU;rw [List.take_length]
  rw [hkn]
  cases hq:(!qi||F0.any (tI nc na)) with
  |true=>
   rw [hq,if_pos rfl] at hst
   repeat' (first|refine Rn.p ?_|(with_reducible apply And.intro)|((first|(refine hK _ ?_;clear hK K)|with_reducible intro K hK|refine Rs.p ?_|((with_reducible first|apply oP|apply oQ);exact rfl));try simp only [go_sem,simprocAttr,hb])|((with_reducible refine oD ?_ ?_);kernel_rfl)|((with_reducible intro h);try simp only [go_sem,simprocAttr,hb] at h)|omega|intro h)
   refine ⟨j+1,by omega, ?_,by omega⟩
   rw [tY,hst]
   refine Le.of ?_ ?_<;>simp [go_sem,simprocAttr,hb]
  |false=>
   rw [hq,if_neg (by simp)] at hst
   repeat' (first|(show bB _ (.region 39 _ _) _ _;(refine gu hX 7 140 61 (by simp only [go_sem,simprocAttr,hb]) rfl (by first|exact .inl rfl|exact .inr rfl) (by decide) ?_;simp only [go_sem,simprocAttr,hb]))|refine Rn.p ?_|(with_reducible apply And.intro)|((first|(refine hK _ ?_;clear hK K)|with_reducible intro K hK|refine Rs.p ?_|((with_reducible first|apply oP|apply oQ);exact rfl));try simp only [go_sem,simprocAttr,hb])|((with_reducible refine oD ?_ ?_);kernel_rfl)|((with_reducible intro h);try simp only [go_sem,simprocAttr,hb] at h)|omega|intro h)
   refine ⟨j+1,by omega, ?_,by omega⟩
   rw [tY,hst]
   refine Le.of ?_ ?_<;>simp [go_sem,simprocAttr,hb,iG]
 have hb:decide ((i:Int)<(F0.length:Int))=true:=decide_eq_true (by omega)
 obtain ⟨m,hme⟩:∃m,F0.getD i (false,0,0)=m:=⟨_,rfl⟩
 have hkx:yU (!qi) F0 (nc,na,np) (i+1)=(yU (!qi) F0 (nc,na,np) i||tI nc na m):=by
  unfold yU
  rw [gM (false,0,0) AO,hme,Bool.or_assoc]
 obtain ⟨mc,ma,mp⟩:=m
 have FB:tI nc na (mc,ma,mp)=((mc==nc)&&decide (ma=na)):=rfl
 rw [FB] at hkx
 have An:decide ((ma:Int)=(na:Int))=decide (ma=na):=by rw [decide_eq_decide];omega
 have hft:((false:Bool)==true)=false:=rfl
 have nQ:((true:Bool)==false)=false:=rfl
 have uD:((true:Bool)==true)=true:=rfl
 have AS:((false:Bool)==false)=true:=rfl
 generalize yU (!qi) F0 (nc,na,np) i=kn at hkx ⊢
 generalize decide (ma=na)=d2 at An hkx
 cases kn with
 |true=>
  rw [Bool.true_or] at hkx
  repeat' (first|refine Rn.p ?_|(with_reducible apply And.intro)|((first|(refine hK _ ?_;clear hK K)|with_reducible intro K hK|refine Rs.p ?_|((with_reducible first|apply oP|apply oQ);exact rfl));try simp only [go_sem,simprocAttr,hb,hme,An,hft,nQ,uD,AS])|((with_reducible refine oD ?_ ?_);kernel_rfl)|((with_reducible intro h);try simp only [go_sem,simprocAttr,hb,hme,An,hft,nQ,uD,AS] at h)|omega|intro h)
  refine ⟨i+1,by omega, ?_,by omega⟩
  rw [hkx]
  refine Le.of ?_ ?_<;>simp [go_sem,simprocAttr,hb,hme,An,hft,nQ,uD,AS]
 |false=>
  cases mc<;>cases nc<;>cases d2
  all_goals (repeat' (first|refine Rn.p ?_|(with_reducible apply And.intro)|((first|(refine hK _ ?_;clear hK K)|with_reducible intro K hK|refine Rs.p ?_|((with_reducible first|apply oP|apply oQ);exact rfl));try simp only [go_sem,simprocAttr,hb,hme,An,hft,nQ,uD,AS])|((with_reducible refine oD ?_ ?_);kernel_rfl)|((with_reducible intro h);try simp only [go_sem,simprocAttr,hb,hme,An,hft,nQ,uD,AS] at h)|omega|intro h))
  all_goals (refine ⟨i+1,by omega, ?_,by omega⟩)
  all_goals (rw [hkx])
  all_goals (refine Le.of ?_ ?_<;>simp [go_sem,simprocAttr,hb,hme,An,hft,nQ,uD,AS])
end Go.Ab
end
