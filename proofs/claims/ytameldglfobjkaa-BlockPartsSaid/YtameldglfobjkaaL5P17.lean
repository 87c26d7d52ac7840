/- A part of the proof. -/
import Derived.Shelf.SlSortCmp.NoneTotal
import Derived.Deep.QuietTactic
import Derived.WalkKit
import Derived.Sort.Grow
import Derived.Test.YtameldglfobjkaaL5P16
set_option linter.unusedSimpArgs false
set_option linter.unusedVariables false
section
namespace Go.Ab
open Go.Proofs Go.RowKit Go.Shelf Go.Sort
set_option maxRecDepth 10000
set_option maxHeartbeats 4000000
theorem ym (W:World) (b1 o1 n1 c1 b2 o2 n2 c2:Nat) (x y:Int) (hx:0≤x∧x≤1000) (hy:0≤y∧y≤1000) (Hy:0<n1) (hn2:0<n2) (h1:W.cell? ⟨b1,o1,none⟩=some (.int .i64 x)) (h2:W.cell? ⟨b2,o2,none⟩=some (.int .i64 y)):
 Calls Try.prog 42 #[.slice (some ⟨b1,o1,none⟩) n1 c1, .slice (some ⟨b2,o2,none⟩) n2 c2] W fun e w'=>e= .returned (.int .i64 (x - y))∧∃q,w'=W.drewN q:=by
 go_enter Try.func42,Try.ntmps42
 go_wp2
 go_quiet (fail)
 go_wp2
 go_ret
 exact ⟨rfl,nq,rfl⟩
def uL (P:Program) (g:Nat) (cb:Array Value) (en:Int→Value) (cf:Int→Int→Int) (l:List Int) (blk:Nat) (w:World):Prop:=
 ∀W:World,w.heap.size≤W.heap.size→(∀b,b<w.heap.size→b≠blk→W.heap[b]? =w.heap[b]?)→∀x,x∈l→∀y,y∈l→
  Calls P g (#[en x,en y]++cb) W fun e w'=>e= .returned (.int .i64 (cf x y))∧∃q os',w'=grow (W.drewN q) os'
theorem ox (g:Nat) (cb:Array Value) (en:Int→Value) (yo:∀x,(en x).oneCell'=true) {cf:Int→Int→Int} {l l':List Int} (S:x8 cf l l') (hlen:l.length≤1000000) (eg:∀args w,(callFunc g args).run Try.prog w= .ok (.enter g args) w)
 (blk cap:Nat) (w:World) {cur:Array Value} {e:TypeId} (hb:w.heap[blk]? =some (.cells cur e (0,0))) (hc:∀i,i<l.length→cur[i]? =some (en (l.getD i 0))) (hne:l≠ [])
 (hcmp:uL Try.prog g cb en cf l blk w):
 Calls Try.prog 41 #[.slice (some ⟨blk,0,none⟩) l.length cap, .func (.func g) #[] cb] w fun DV w'=>DV= .returned (.tuple #[])∧
  w'.os=w.os∧w'.tape=w.tape∧w'.output=w.output∧w.heap.size≤w'.heap.size∧(∀b,b<w.heap.size→b≠blk→w'.heap[b]? =w.heap[b]?)∧
  ∃cur',w'.heap[blk]? =some (.cells cur' e (0,0))∧cur'.size=cur.size∧∀i,i<l'.length→cur'[i]? =some (en (l'.getD i 0)):=by
 have hlt:blk<w.heap.size:=(Array.getElem?_eq_some_iff.1 hb).1
 obtain ⟨a0,ha0⟩:∃a,a∈l:=by
  cases l with
  |nil=>exact absurd rfl hne
  |cons a l=>exact ⟨a,by simp⟩
 letI:Inhabited {x // x∈l} :=⟨⟨a0,ha0⟩⟩
 have hsz:(l.attach.toArray).size=l.length:=by simp
 have y7:∀j (hj:j<l.length),((l.attach.toArray)[j]!).1=l.getD j 0:=fun j hj=>by
  rw [getElem!_pos _ j (by simpa using hj),List.getD_eq_getElem?_getD,List.getElem?_eq_getElem hj]
  simp
 have hH:Holds (fun x: {x // x∈l} =>en x.1) w blk 0 l.attach.toArray:=fun j hj=>by
  rw [hsz] at hj
  refine ⟨?_, ?_⟩
  ·show _=some (en ((l.attach.toArray)[j]!).1)
   rw [Nat.zero_add,y7 j hj, ← hc j hj]
   simp [World.cell?,hb]
  ·simp [World.frozen?,hb]
 have zx:CmpLays1 Try.prog g cb (fun x: {x // x∈l} =>en x.1) (fun x y=>cf x.1 y.1) blk 0 (l.attach.toArray).size w:=fun m os dk _ x y=>
  hcmp _ (fU ..) (fun b h1 h2=>fT _ _ _ _ _ _ h1 h2) x.1 x.2 y.1 y.2
 have A2:=Any.slices_SortFunc Try.tZ (fun x: {x // x∈l} =>en x.1) (fun x=>yo x.1) (fun x y=>cf x.1 y.1) S.swo g cb blk 0 cap l.attach.toArray w eg zx hH hlt (by rw [hsz];omega)
 rw [hsz] at A2
 refine Calls.mono A2 ?_
 rintro DV w' ⟨rfl,d',n,os,hp,hs,rfl⟩
 rw [← hsz] at hp hs
 have he:=S.eq (d:=l.attach.toArray) (by simp) hp hs
 have hds:d'.size=l.length:=by rw [hp.1,hsz]
 refine ⟨rfl,rfl,rfl,rfl,fU ..,fun b h1 h2=>fT _ _ _ _ _ _ h1 h2,_,kZ _ _ _ _ _ _ hb,by simp [putCells],fun i hi=> ?_⟩
 have hi2:i<l.length:=by rw [S.perm.length_eq];exact hi
 have hic:i<cur.size:=(Array.getElem?_eq_some_iff.1 (hc i hi2)).1
 simp only [putCells,Array.getElem?_mapIdx,Array.getElem?_eq_getElem hic,Option.map_some]
 rw [if_pos ⟨by omega,by omega⟩,Nat.sub_zero,getElem!_pos d' i (by omega)]
 have:l'.getD i 0=(d'[i]'(by omega)).1:=by
  rw [← he,List.getD_eq_getElem?_getD,List.getElem?_map,Array.getElem?_toList,Array.getElem?_eq_getElem (by omega)]
  rfl
 rw [this]
theorem iL (p:Option Addr) (cap:Nat) (fv:Value) (w:World):Calls Try.prog 41 #[.slice p 0 cap,fv] w fun e w'=>e= .returned (.tuple #[])∧w'=w:=
 AnyF.slices_SortFunc_none {Try.tZ with} p cap fv w
theorem yp {ob:AObj} (hn:ob.isNest=false) {q:Nat} {o:AObj} (h:aD [(10000,ob)] q=some o):q=10000∧o=ob:=by
 have hl:look [(10000,ob)] q=some o:=(cO (fun p hp=>by
  rw [List.mem_singleton] at hp
  subst hp
  exact hn) h).1
 simp only [look] at hl
 split at hl
 ·rename_i e;cases hl;exact ⟨e.symm,rfl⟩
 ·cases hl
def gG (b:List Nat):Int:=((b.headD 0:Nat):Int)
theorem qc {L L':List (List Nat)} (hp:L.Perm L') (hne:∀b∈L,b≠ []) (bU:(L.map gG).Nodup) (hs:L'.Pairwise fun a b=>gG a<gG b) (hbd:∀b∈L,gG b≤1000) (hlen:L.length≤1000000):
 Spec Try.prog 41 (Args [.ref 10000, .fn 42 [] []]) [(10000, .own 25 1 (L.map lp))] (.tup []) [(10000, .own 25 1 (L'.map lp))]:=by
 refine ⟨⟨Try.f41,_,Try.func41,by kernel_rfl,rfl⟩,fun E w vals hg hA=> ?_⟩
 obtain ⟨v,vs,rfl,h0,h3⟩:=hA
 obtain ⟨v2,Hz,rfl,h1,h4⟩:=h3
 simp only [AVrs] at h4
 subst h4
 obtain ⟨us,us',rfl,h5,h6⟩:=h1
 simp only [AVrs] at h5 h6
 subst h5 h6
 obtain ⟨rfl,_⟩:=h0
 obtain ⟨_,_,o2⟩:=hg.dQ 10000 (.own 25 1 (L.map lp)) rfl
 have o3:L.length=L'.length:=hp.length_eq
 have hkeep:∀ {w':World},(∀b,0<E.z b→w'.heap[b]? =w.heap[b]?)→aj w E.z w' E.z:=fun h b=>⟨Nat.le_refl _,fun o ho=>by
  simp only [World.cell?,h b (by omega)]⟩
 rcases o2 with ⟨r0,r1,p,r2⟩|⟨b,cur,cap,r0,r1,r2,r3,r4,r5,r6,r7⟩
 ·have hl0:L= []:=List.map_eq_nil_iff.1 r1
  subst hl0
  have yq:L'= []:=hp.symm.eq_nil
  subst yq
  rw [r2]
  refine (iL p 0 _ w).mono ?_
  rintro en w' ⟨rfl,rfl⟩
  exact ⟨_,E,rfl,wV.refl _ _ _,hg,fun q o b hq hro hb=> .inr ⟨q,o,hq,hro,hb⟩,⟨[],rfl,rfl⟩⟩
 rw [List.length_map] at r2 r3
 rw [r2]
 by_cases hl0:L= []
 ·subst hl0
  have yq:L'= []:=hp.symm.eq_nil
  subst yq
  refine (iL _ cap _ w).mono ?_
  rintro en w' ⟨rfl,rfl⟩
  exact ⟨_,E,rfl,wV.refl _ _ _,hg,fun q o b hq hro hb=> .inr ⟨q,o,hq,hro,hb⟩,⟨[],rfl,rfl⟩⟩
 have kO:b<w.heap.size:=(Array.getElem?_eq_some_iff.1 r1).1
 have A3:∀i,i<L.length→∃x,cur[i]? =some x∧Rd w E.z x (sN (L.getD i [])):=fun i hi=>by
  obtain ⟨x,h1,h2⟩:=r7 i 0 (lp L[i]) (sN L[i]) (by simp [List.getElem?_eq_getElem hi]) rfl
  exact ⟨x,by simpa using h1,by rw [List.getD_eq_getElem?_getD,List.getElem?_eq_getElem hi];exact h2⟩
 have hidx:∀i,i<L.length→(L.map gG).idxOf ((L.map gG).getD i 0)=i:=fun i hi=>by
  have hi':i<(L.map gG).length:=by rw [List.length_map];exact hi
  rw [List.getD_eq_getElem?_getD,List.getElem?_eq_getElem hi',Option.getD_some]
  exact bU.idxOf_getElem i hi'
 obtain ⟨en,yo⟩:∃en:Int→Value,en=fun h=>if (L.map gG).idxOf h<L.length then cur.getD ((L.map gG).idxOf h) (.int .i64 0) else .int .i64 0:=⟨_,rfl⟩
 have y7:∀i,i<L.length→cur[i]? =some (en ((L.map gG).getD i 0))∧Rd w E.z (en ((L.map gG).getD i 0)) (sN (L.getD i [])):=fun i hi=>by
  obtain ⟨x,h1,h2⟩:=A3 i hi
  have:en ((L.map gG).getD i 0)=x:=by
   rw [yo]
   simp only
   rw [hidx i hi,if_pos hi]
   simp [h1]
  rw [this]
  exact ⟨h1,h2⟩
 have hmem:∀c∈L,Rd w E.z (en (gG c)) (sN c):=fun c hc=>by
  obtain ⟨i,hi,rfl⟩:=List.mem_iff_getElem.1 hc
  have h1:=(y7 i hi).2
  have e1:(L.map gG).getD i 0=gG L[i]:=by
   rw [List.getD_eq_getElem?_getD,List.getElem?_map,List.getElem?_eq_getElem hi];rfl
  rw [e1,List.getD_eq_getElem?_getD,List.getElem?_eq_getElem hi] at h1
  exact h1
 have hone:∀x,(en x).oneCell'=true:=fun x=>by
  rw [yo]
  simp only
  split
  ·rename_i h
   obtain ⟨y,h1,h2⟩:=A3 _ h
   have:cur.getD ((L.map gG).idxOf x) (.int .i64 0)=y:=by simp [h1]
   rw [this]
   exact h2.one
  ·rfl
 have hS:x8 (fun x y=>x - y) (L.map gG) (L'.map gG):=by
  refine ⟨hp.map _,bU, ?_,fun x _=>by omega⟩
  rw [List.pairwise_map]
  exact hs.imp fun {a b} h=>by omega
 have hcmp:uL Try.prog 42 #[] en (fun x y=>x - y) (L.map gG) b w:=by
  intro W hsz hW x hx y hy
  obtain ⟨c,hc,rfl⟩:=List.mem_map.1 hx
  obtain ⟨d,hd,rfl⟩:=List.mem_map.1 hy
  have A4:∀q o,q<w.heap.size→q≠b→W.cell? ⟨q,o,none⟩=w.cell? ⟨q,o,none⟩:=fun q o h1 h2=>by
   simp only [World.cell?,hW q h1 h2]
  have xx:∀c∈L,∃q off n cap,en (gG c)= .slice (some ⟨q,off,none⟩) n cap∧0<n∧W.cell? ⟨q,off,none⟩=some (.int .i64 (gG c)):=fun c hc=>by
   have h1:=hmem c hc
   rw [lS] at h1
   have su:nI c≠ []:=fun e=>hne c hc (List.map_eq_nil_iff.1 e)
   obtain ⟨q,off,cap,g1,g2,g3,g4⟩:=Ap h1 su
   have hpos:0<(nI c).length:=List.length_pos_iff.2 su
   refine ⟨q,off,_,cap,g1,hpos, ?_⟩
   rw [A4 q off g2 (fun e=>by rw [e] at g3;omega)]
   have:=g4 0 hpos
   rw [Nat.add_zero] at this
   rw [this]
   cases c with
   |nil=>exact absurd rfl (hne _ hc)
   |cons i r=>rfl
  obtain ⟨q1,o1,n1,c1,g1,g2,g3⟩:=xx c hc
  obtain ⟨q2,o2,n2,c2,g4,g5,g6⟩:=xx d hd
  rw [g1,g4]
  have hz:∀b,0≤gG b:=fun b=>by unfold gG;omega
  exact (ym W q1 o1 n1 c1 q2 o2 n2 c2 (gG c) (gG d) ⟨hz c,hbd c hc⟩ ⟨hz d,hbd d hd⟩ g2 g5 g3 g6).mono fun _ _ ⟨he,q,hq⟩=>⟨he,q, #[],by rw [hq,grow_empty]⟩
 have xy:=ox 42 #[] en hone hS (by rw [List.length_map];exact hlen) (enters_of Try.func42 (by kernel_rfl) rfl) b cap w r1 (fun i hi=>by
  rw [List.length_map] at hi
  exact (y7 i hi).1) (fun e=>hl0 (List.map_eq_nil_iff.1 e)) hcmp
 rw [List.length_map] at xy
 refine xy.mono ?_
 rintro DV w' ⟨rfl,k1,k2,k3,k4,k5,cur',k6,k7,k8⟩
 have hst:aj w E.z w' E.z:=hkeep fun q hq=>by
  by_cases Gu:q<w.heap.size
  ·exact k5 q Gu fun e=>by subst e;omega
  ·have:=hg.fresh q (by omega);omega
 have EL:∀ {q:Nat},aD [(10000,AObj.own 25 1 (L'.map lp))] q≠none→aD [(10000,AObj.own 25 1 (L.map lp))] q≠none:=fun {q} h=>by
  obtain ⟨o,ho⟩:=Option.ne_none_iff_exists'.1 h
  obtain ⟨rfl,_⟩:=yp rfl ho
  simp [bD,look]
 refine ⟨_,E,rfl,⟨k1,k2,k3,k4,hst,fun q hq hnm=>⟨k5 q hq fun e=> ?_,rfl⟩,fun _ _=>⟨rfl,rfl⟩⟩,⟨fun q hq=> ?_,fun q q' c hq fH=>hg.inj q q' c (EL hq) (EL fH),fun q o hq=> ?_,fun q hq=>hg.fresh q (by omega)⟩,fun q o c hq hro hc=> ?_,⟨[],rfl,rfl⟩⟩
 ·subst e
  exact hnm ⟨10000,_,rfl,rfl,r0⟩
 ·simp only [look] at hq
  split at hq
  ·omega
  ·exact absurd rfl hq
 ·obtain ⟨rfl,rfl⟩:=yp rfl hq
  refine ⟨fun r hr=> ?_,by decide, .inr ⟨b,cur',cap,r0,k6, ?_, ?_,by rw [k7];exact r4,r5,r6,fun i j r x h1 h2=> ?_⟩⟩
  ·obtain ⟨v,_,rfl⟩:=List.mem_map.1 hr
   rfl
  ·rw [List.length_map, ← o3];exact r2
  ·rw [List.length_map, ← o3];exact r3
  ·rw [List.getElem?_map] at h1
   obtain ⟨c,h3,rfl⟩:=Option.map_eq_some_iff.1 h1
   cases j with
   |succ j=>simp [lp] at h2
   |zero=>
    simp only [lp,List.getElem?_cons_zero,Option.some.injEq] at h2
    subst h2
    have hi:i<L'.length:=(List.getElem?_eq_some_iff.1 h3).1
    have Gv:c∈L:=hp.mem_iff.2 (List.mem_of_getElem? h3)
    have h8:=k8 i (by rw [List.length_map];exact hi)
    have e1:(L'.map gG).getD i 0=gG c:=by
     rw [List.getD_eq_getElem?_getD,List.getElem?_map,h3];rfl
    rw [e1] at h8
    exact ⟨_,by simpa using h8,(hmem c Gv).mono hst⟩
 ·refine .inr ?_
  obtain ⟨rfl,rfl⟩:=yp rfl hq
  exact ⟨10000,_,rfl,rfl,hc⟩
end Go.Ab
end
section
namespace Go.Ab
open Go.Proofs
attribute [local congr] ACall.congr gd.congr Nx.congr
set_option maxRecDepth 20000
set_option maxHeartbeats 16000000
set_option linter.unusedSectionVars false
namespace UG
variable {G:UG} (hG:G.Ok) {so:List Nat→List Nat} (hsp:∀l,(so l).Perm l)
include hG
theorem wN {s:Sc} {k:Nat} (hk:k<G.n) (h:G.ye s k) (h0:s.nm k=0):G.Pre s k none []:=
 ⟨h.ln,h.ll,hk,h0,⟨by simp,by simp,trivial⟩,fun v i a hv _ hJ=>h.bl v i a hv hJ,h.le,h.inj, .inl ⟨rfl,rfl⟩,fun e he=> .inr fun a b hJ=>by
   rw [h.stk,List.nil_append,h.mem] at he
   obtain ⟨d,c,h1,h2⟩:=he
   rcases h2.two hJ with ⟨rfl,rfl⟩|⟨rfl,rfl⟩
   ·exact h1
   ·exact h.bl _ _ _ h1 h2⟩
theorem yu {s:Sc} {k:Nat} (h:G.ye s k) (hc:s.cnt+G.gO s≤G.n):G.Bd s:=by
 refine ⟨?_,fun e he=> ?_,fun b hb=> ?_,hc⟩
 ·rw [h.stk,List.nil_append];exact h.nd
 ·rw [h.stk,List.nil_append,h.mem] at he
  obtain ⟨d,a,_,hJ⟩:=he
  exact hJ.1
 ·obtain ⟨i,_,hi,_⟩:=h.cls b hb
  rintro rfl
  simp at hi
def de (G:UG) (so:List Nat→List Nat) (k:Nat):Sc:=(List.range k).foldl (k9 G so) (bz G)
omit hG in
theorem jd {k:Nat} :de G so (k+1)=k9 G so (de G so k) k:=by
 unfold de
 rw [List.range_succ,List.foldl_append];rfl
include hsp
theorem qO:∀ {k:Nat},k≤G.n→G.ye (de G so k) k∧(de G so k).cnt+G.gO (de G so k)≤G.n
 |0,_=>by
  have h0:∀v,G.bz.nm v=0:=fun v=>by
   unfold Sc.nm bz
   rw [List.getD_eq_getElem?_getD,List.getElem?_replicate]
   split<;>rfl
  refine ⟨⟨by simp [bz,de],by simp [bz,de],by simp,fun v i a hv=>absurd (h0 v) hv,fun v=>(h0 v).symm ▸ Nat.zero_le _,fun u v hu=>absurd (h0 u) hu,rfl,by simp [bz,de],fun e=> ?_,by simp [bz,de]⟩, ?_⟩
  ·simp only [de,bz,List.range_zero,List.foldl_nil,List.flatten_nil,List.not_mem_nil,false_iff,not_exists,not_and]
   exact fun d a hd=>absurd (h0 d) hd
  ·unfold gO
   have:=List.countP_le_length (l:=List.range G.n) (p:=fun v=>decide ((de G so 0).nm v=0))
   rw [List.length_range] at this
   have e:(de G so 0).cnt=0:=rfl
   omega
 |k+1,hk=>by
  obtain ⟨h1,h2⟩:=qO (k:=k) (by omega)
  rw [jd]
  refine ⟨oh hG hsp (by omega) h1, ?_⟩
  unfold k9
  split
  ·rename_i h0
   have:=(mN hG (so:=so) (G.n+1) (de G so k) k none h1.ln (by omega) h0).cn
   omega
  ·exact h2
omit hG hsp in
theorem uM:∀(f:Nat) (s:Sc) (x:Nat) (aq:Option Nat),(∀b∈s.blk,∃l,b=so l)→∀b∈(cA G so f x aq s).blk,∃l,b=so l
 |0,s,x,aq,h=>h
 |f+1,s,x,aq,h=>by
  have key:∀(L:List Nat) (s':Sc),(∀b∈s'.blk,∃l,b=so l)→∀b∈(L.foldl (bK G so (fun y i=>cA G so f y (some i)) x aq) s').blk,∃l,b=so l:=by
   intro L
   induction L with
   |nil=>intro s' h;exact h
   |cons i L ih=>
    intro s' h
    refine ih _ ?_
    unfold bK
    split
    ·exact h
    ·split
     ·have h2:=uM f {s' with stk:=s'.stk++ [i]} (G.sD i x) (some i) h
      simp only
      split
      ·intro b hb
       unfold fq at hb
       rcases List.mem_append.1 hb with hb|hb
       ·exact h2 b hb
       ·rw [List.mem_singleton] at hb
        exact ⟨_,hb⟩
      ·exact h2
     ·split
      ·exact h
      ·exact h
  exact key (G.ends x) (iP s x) h
omit hG hsp in
theorem qd:∀ {k:Nat},∀b∈(de G so k).blk,∃l,b=so l
 |0,b,hb=>by simp [de,bz] at hb
 |k+1,b,hb=>by
  rw [jd] at hb
  unfold k9 at hb
  split at hb
  ·exact uM _ _ _ _ (fun b hb=>qd b hb) b hb
  ·exact qd b hb
theorem gH (hr:∀l,l.Nodup→(so l).Pairwise (· < ·)):(bG G so).Perm G.aM∧(∀b∈bG G so,b≠ []):=by
 obtain ⟨h1,h2,h3⟩:=gr hG hsp
 have hne:∀b∈bG G so,b≠ []:=fun b hb=>by
  obtain ⟨i,_,hi,_⟩:=h3 b hb
  rintro rfl
  simp at hi
 have h4:∀b∈bG G so,b.Pairwise (· < ·):=fun b hb=>by
  obtain ⟨l,rfl⟩:=qd (G:=G) (so:=so) (k:=G.n) b hb
  refine hr l ((hsp l).nodup_iff.1 ?_)
  exact h1.sublist (List.sublist_flatten_of_mem hb)
 refine ⟨?_,hne⟩
 have hp:((bG G so).mergeSort fun a b=>decide (a.headD 0≤b.headD 0)).Perm (bG G so):=List.mergeSort_perm _ _
 have hs:((bG G so).mergeSort fun a b=>decide (a.headD 0≤b.headD 0)).Pairwise fun a b=>decide (a.headD 0≤b.headD 0)=true:=List.pairwise_mergeSort (fun a b c h1 h2=>by simp at h1 h2 ⊢;omega) (fun a b=>by simp;omega) _
 have:=qF (G:=G) (L:=(bG G so).mergeSort fun a b=>decide (a.headD 0≤b.headD 0)) (hp.flatten.nodup_iff.2 h1) (fun e=>by rw [hp.flatten.mem_iff,h2]) (fun b hb=>h3 b (hp.mem_iff.1 hb)) (fun b hb=>h4 b (hp.mem_iff.1 hb)) (hs.imp fun h=>by simpa using h)
 rw [← this]
 exact hp.symm
omit hG hsp in
theorem uN:(G.aM.map fun b=>b.headD 0).Pairwise (· < ·):=by
 unfold aM
 rw [List.map_map]
 have:((List.range G.m).filter fun i=>G.sF i).map ((fun b:List Nat=>b.headD 0) ∘ G.cL)=(List.range G.m).filter fun i=>G.sF i:=by
  have h:∀i∈(List.range G.m).filter (fun i=>G.sF i),((fun b:List Nat=>b.headD 0) ∘ G.cL) i=id i:=fun i hi=>by
   rw [List.mem_filter,List.mem_range] at hi
   obtain ⟨r,hr⟩:=uu hi.1 hi.2
   show (G.cL i).headD 0=i
   rw [hr];rfl
  rw [List.map_congr_left h,List.map_id]
 rw [this]
 exact gP.filter _
end UG
noncomputable def sH (g:Gr):List (List Nat):=if (aQ g&&aW g)=true then (ug g).aM else []
theorem qe (e:Edge):Spec Try.prog 38 (Args [eE e]) [] (eB (decide (e.1=e.2))) []:=by
 (refine Spec.hd (C:=T.cfg [] []) (rs:= [.t 2]) (T.aI _ _) Try.func38 rfl rfl Try.ntmps38 Try.results38 (by simp [AObj.isNest]) (by simp [AObj.isNest]) (by kernel_rfl) T.mixed fun X hX hP hC cz gV=> ?_)
 repeat' (first|refine Rn.p ?_|(with_reducible apply And.intro)|((first|(refine hK _ ?_;clear hK K)|with_reducible intro K hK|refine Rs.p ?_|((with_reducible first|apply oP|apply oQ);exact rfl));try simp only [go_sem,simprocAttr])|((with_reducible refine oD ?_ ?_);kernel_rfl)|((with_reducible intro h);try simp only [go_sem,simprocAttr] at h)|omega|intro h)
theorem yw:cF []:=⟨by simp,by simp [nodupM],by simp,by simp⟩
def gB (g:Gr) (s:UG.Sc):List (Nat × AObj):= [(300, .box [eN g.n, .d (sE g.es), .d (sNL ((List.range g.n.toNat).map fun x=>(ug g).ends x)), .ref 301, .ref 302,eN s.cnt, .ref 303, .ref 304]),(301, .own 3 1 (s.num.map rN)),(302, .own 3 1 (s.low.map rN)),(303, .own 3 1 (s.stk.map rN)),(304, .own 25 1 (s.blk.map lp))]
theorem gh (g:Gr) (hlen:g.es.length≤9223372036854775807):Spec Try.prog 16 (Args [eG g]) [] (.d (sNL (sH g))) []:=by
 have hM:=tT g (by omega)
 have DW:=dM yw 38 [] (fun e=>decide (e.1=e.2)) qe g.es (by omega)
 have hbk:sH g=if (aQ g&&aW g)=true then (ug g).aM else []:=rfl
 have hnl:aW g= !(g.es.any fun e=>decide (e.1=e.2)):=rfl
 cases hm:aQ g with
 |false=>
  rw [hm] at hM hbk
  have mT:sH g= []:=by rw [hbk];rfl
  rw [mT]
  (refine Spec.hd (C:=T.cfg [] []) (rs:= [.t 2]) (T.aI _ _) Try.func16 rfl rfl Try.ntmps16 Try.results16 (by simp [AObj.isNest]) (by simp [AObj.isNest]) (by kernel_rfl) T.mixed fun X hX hP hC cz gV=> ?_)
  repeat' (first|refine Rn.p ?_|(with_reducible apply And.intro)|((first|(refine hK _ ?_;clear hK K)|with_reducible intro K hK|refine Rs.p ?_|((with_reducible first|apply oP|apply oQ);exact rfl)|refine ai hX hC hP (hM) rfl rfl rfl (by simp only [go_sem,simprocAttr]) rfl ?_);try simp only [go_sem,simprocAttr])|((with_reducible refine oD ?_ ?_);kernel_rfl)|((with_reducible intro h);try simp only [go_sem,simprocAttr] at h)|omega|intro h)
 |true=>
 rw [hm] at hM hbk
 generalize hq:(g.es.any fun e=>decide (e.1=e.2))=q at DW hnl
 cases q with
 |true=>
  rw [hnl] at hbk
  have mT:sH g= []:=by rw [hbk];rfl
  rw [mT]
  (refine Spec.hd (C:=T.cfg [] []) (rs:= [.t 2]) (T.aI _ _) Try.func16 rfl rfl Try.ntmps16 Try.results16 (by simp [AObj.isNest]) (by simp [AObj.isNest]) (by kernel_rfl) T.mixed fun X hX hP hC cz gV=> ?_)
  repeat' (first|refine Rn.p ?_|(with_reducible apply And.intro)|((first|(refine hK _ ?_;clear hK K)|with_reducible intro K hK|refine Rs.p ?_|((with_reducible first|apply oP|apply oQ);exact rfl)|refine ai hX hC hP (hM) rfl rfl rfl (by simp only [go_sem,simprocAttr]) rfl ?_|refine ai hX hC hP (DW) rfl rfl rfl (by simp only [go_sem,simprocAttr]) rfl ?_);try simp only [go_sem,simprocAttr])|((with_reducible refine oD ?_ ?_);kernel_rfl)|((with_reducible intro h);try simp only [go_sem,simprocAttr] at h)|omega|intro h)
 |false=>
 rw [hnl] at hbk
 have hl:aW g=true:=hnl
 have mT:sH g=(ug g).aM:=by rw [hbk];rfl
 rw [mT]
 have hn:=eo hm
 have hG:=lN hm hl
 have hB:=pY g hm hl
 (refine Spec.hd (C:=T.cfg [303,304,305,306] []) (rs:= [.t 2]) (T.aI _ _) Try.func16 rfl rfl Try.ntmps16 Try.results16 (by simp [AObj.isNest]) (by simp [AObj.isNest]) (by kernel_rfl) T.mixed fun X hX hP hC cz gV=> ?_)
 repeat' (first|refine Rn.p ?_|(with_reducible apply And.intro)|((first|(refine hK _ ?_;clear hK K)|with_reducible intro K hK|refine Rs.p ?_|((with_reducible first|apply oP|apply oQ);exact rfl)|refine ai hX hC hP (hM) rfl rfl rfl (by simp only [go_sem,simprocAttr,bL]) rfl ?_|refine ai hX hC hP (DW) rfl rfl rfl (by simp only [go_sem,simprocAttr,bL]) rfl ?_|(refine bS hX hC hP [(10000,300),(10001,301),(10002,302)] (hB) rfl rfl rfl ?_ ?_ ?_ ?_ ?_ ?_ ?_ ?_ ?_ ?_ ?_ ?_ ?_ ?_;(focus (simp only [go_sem,simprocAttr,bL];done));(iterate 12 (focus (simp [go_sem,simprocAttr,bL];done)));try simp only [List.map_cons,List.map_nil]));try simp only [go_sem,simprocAttr,bL])|((with_reducible refine oD ?_ ?_);kernel_rfl)|((with_reducible intro h);try simp only [go_sem,simprocAttr,bL] at h)|omega|intro h)
 (refine kq hX 300 6 303 (.own 3 1 []) rfl rfl rfl (by simp only [go_sem,simprocAttr,bL]) (by decide) (by simp [go_sem,simprocAttr,bL]) ⟨3,1,by decide, .inl rfl⟩ ?_;simp only [List.set_cons_zero,List.set_cons_succ,go_sem,simprocAttr,bL])
 (refine kq hX 300 7 304 (.own 25 1 []) rfl rfl rfl (by simp only [go_sem,simprocAttr,bL]) (by decide) (by simp [go_sem,simprocAttr,bL]) ⟨25,1,by decide, .inl rfl⟩ ?_;simp only [List.set_cons_zero,List.set_cons_succ,go_sem,simprocAttr,bL])
 have h0:UG.de (ug g) dZ 0=⟨List.replicate g.n.toNat 0,List.replicate g.n.toNat 0,0, [], []⟩:=rfl
 have hN:UG.de (ug g) dZ g.n.toNat=(List.range (ug g).n).foldl (UG.k9 (ug g) dZ) (UG.bz (ug g)):=rfl
 refine au (fun k:Nat=>k≤g.n.toNat) (fun k=>⟨[(3, .ptr 300 0),(16,eN g.n),(17,eN k)],gB g (UG.de (ug g) dZ k)⟩) (fun k=>g.n.toNat - k) 0 (Nat.zero_le _) ?_ ?_
 ·rw [h0]
  refine Le.of ?_ ?_<;>simp [go_sem,simprocAttr,bL,gB]
 rintro k hk
 obtain ⟨hT,su⟩:=UG.qO hG dr hk
 rcases Nat.lt_or_ge k g.n.toNat with hlt|hge
 rotate_left
 ·have hb:decide ((k:Int)<g.n)=false:=decide_eq_false (by omega)
  obtain rfl:k=g.n.toNat:=by omega
  obtain ⟨BR,hne⟩:=UG.gH hG dr qN
  have kO:(UG.de (ug g) dZ g.n.toNat).blk=UG.bG (ug g) dZ:=rfl
  have rR:=UG.uN (G:=ug g)
  have A5:(UG.bG (ug g) dZ).length≤1000000:=by
   rw [BR.length_eq]
   have:=kH (G:=ug g)
   have:(ug g).m=g.es.length:=rfl
   omega
  have hS:=qc BR hne (by
   have h1:((ug g).aM.map gG).Nodup:=by
    have:(ug g).aM.map gG=((ug g).aM.map fun b=>b.headD 0).map fun n:Nat=>(n:Int):=by rw [List.map_map];rfl
    rw [this]
    unfold List.Nodup
    rw [List.pairwise_map]
    exact rR.imp fun h=>by omega
   exact (BR.map gG).nodup_iff.2 h1) (by
   rw [List.pairwise_map] at rR
   exact rR.imp fun h=>by unfold gG;omega) (fun b hb=>by
   have h1:=BR.mem_iff.1 hb
   obtain ⟨i,r,e1,e2,_⟩:=UG.uv (UG.iE h1).1 (UG.iE h1).2
   have:(ug g).m=g.es.length:=rfl
   rw [e1]
   unfold gG
   simp only [List.headD_cons]
   omega) A5
  rw [← kO] at hS
  generalize UG.de (ug g) dZ g.n.toNat=s1 at hS ⊢
  repeat' (first|refine Rn.p ?_|(with_reducible apply And.intro)|((first|(refine hK _ ?_;clear hK K)|with_reducible intro K hK|refine Rs.p ?_|((with_reducible first|apply oP|apply oQ);exact rfl)|(refine bS hX hC hP [(10000,304)] (hS) rfl rfl rfl ?_ ?_ ?_ ?_ ?_ ?_ ?_ ?_ ?_ ?_ ?_ ?_ ?_ ?_;(focus (simp only [go_sem,simprocAttr,gB,hb];done));(iterate 12 (focus (simp [go_sem,simprocAttr,gB,hb];done)));try simp only [List.map_cons,List.map_nil]));try simp only [go_sem,simprocAttr,gB,hb])|((with_reducible refine oD ?_ ?_);kernel_rfl)|((with_reducible intro h);try simp only [go_sem,simprocAttr,gB,hb] at h)|omega|intro h)
 have hb:decide ((k:Int)<g.n)=true:=decide_eq_true (by omega)
 have cT:=UG.jd (G:=ug g) (so:=dZ) (k:=k)
 have hkn:k<(ug g).n:=hlt
 have hbd:=UG.yu hG hT su
 have Gw:=fun h=>UG.wN hG hkn hT h
 have ec:decide ((((UG.de (ug g) dZ k).num.getD k 0:Nat):Int)=0)=decide ((UG.de (ug g) dZ k).num.getD k 0=0):=AX
 have o3:(UG.de (ug g) dZ k).num.length=g.n.toNat:=hT.ln
 generalize UG.de (ug g) dZ k=s at*
 generalize EM:UG.de (ug g) dZ (k+1)=s' at cT
 unfold UG.k9 at cT
 by_cases hz:s.nm k=0
 rotate_left
 ·rw [if_neg hz] at cT
  have vk:¬s.num.getD k 0=0:=hz
  rw [decide_eq_false vk] at ec
  repeat' (first|refine Rn.p ?_|(with_reducible apply And.intro)|((first|(refine hK _ ?_;clear hK K)|with_reducible intro K hK|refine Rs.p ?_|((with_reducible first|apply oP|apply oQ);exact rfl));try simp only [go_sem,simprocAttr,gB,hb,ec,o3])|((with_reducible refine oD ?_ ?_);kernel_rfl)|((with_reducible intro h);try simp only [go_sem,simprocAttr,gB,hb,ec,o3] at h)|omega|intro h)
  refine ⟨k+1,by omega, ?_,by omega⟩
  rw [EM,cT]
  refine Le.of ?_ ?_<;>simp [go_sem,simprocAttr,gB,hb,ec,o3]
 rw [if_pos hz] at cT
 have vk:s.num.getD k 0=0:=hz
 rw [decide_eq_true vk] at ec
 have hun:(ug g).gO s≤(ug g).n+1:=by
  unfold UG.gO
  have:=List.countP_le_length (l:=List.range (ug g).n) (p:=fun v=>decide (s.nm v=0))
  rw [List.length_range] at this
  omega
 have hV:=kK g hm hl ((ug g).n+1) s k none [] hun (Gw hz) hbd
 rw [show xw none=(-1:Int) from rfl, ← cT] at hV
 repeat' (first|(show bA _ (.region 9 _ _) _ _;(refine cR hX 300 6 305 303 rfl rfl rfl (by first|exact .inl rfl|exact .inr rfl) (by decide) (by decide) ?_;simp only [List.set_cons_zero,List.set_cons_succ,go_sem,simprocAttr,gB,aO,bL,hb,ec,o3]);(refine cR hX 300 7 306 304 rfl rfl rfl (by first|exact .inl rfl|exact .inr rfl) (by decide) (by decide) ?_;simp only [List.set_cons_zero,List.set_cons_succ,go_sem,simprocAttr,gB,aO,bL,hb,ec,o3]))|refine Rn.p ?_|(with_reducible apply And.intro)|((first|(refine hK _ ?_;clear hK K)|with_reducible intro K hK|refine Rs.p ?_|((with_reducible first|apply oP|apply oQ);exact rfl)|(refine bS hX hC hP [(10000,300),(10001,301),(10002,302),(10003,303),(10004,304),(10005,305),(10006,306)] (hV) rfl rfl rfl ?_ ?_ ?_ ?_ ?_ ?_ ?_ ?_ ?_ ?_ ?_ ?_ ?_ ?_;(focus (simp only [go_sem,simprocAttr,gB,aO,bL,hb,ec,o3];done));(iterate 12 (focus (simp [go_sem,simprocAttr,gB,aO,bL,hb,ec,o3];done)));try simp only [List.map_cons,List.map_nil]));try simp only [go_sem,simprocAttr,gB,aO,bL,hb,ec,o3])|((with_reducible refine oD ?_ ?_);kernel_rfl)|((with_reducible intro h);try simp only [go_sem,simprocAttr,gB,aO,bL,hb,ec,o3] at h)|omega|intro h)
 refine ⟨k+1,by omega, ?_,by omega⟩
 rw [EM]
 refine Le.of ?_ ?_<;>simp [go_sem,simprocAttr,gB,aO,bL,hb,ec,o3]
end Go.Ab
end
section
namespace Go.Ab
open Go.Proofs
attribute [local congr] ACall.congr gd.congr Nx.congr
set_option maxRecDepth 20000
set_option maxHeartbeats 16000000
def o4 (g:Gr) (L:List (List Nat)) (k:Nat) (P:Nat→Bool) (v:Nat):List Nat:=((List.range k).filter fun q=>(ug g).bP (L.getD q []) v)++if P v=true then [k] else []
def aX (g:Gr) (L:List (List Nat)) (k:Nat) (P:Nat→Bool):List (List (List D)):=(List.range g.n.toNat).map fun v=>(o4 g L k P v).map rN
def uO (g:Gr) (L:List (List Nat)):List (List Nat):=(List.range g.n.toNat).map fun v=>(List.range L.length).filter fun q=>(ug g).bP (L.getD q []) v
theorem eS {g:Gr} {L:List (List Nat)} {k:Nat} {P:Nat→Bool} :(aX g L k P).length=g.n.toNat:=by simp [aX]
theorem gw {g:Gr} {L:List (List Nat)} {k v:Nat} {P:Nat→Bool} (hv:v<g.n.toNat):(aX g L k P)[v]? =some ((o4 g L k P v).map rN):=by
 simp [aX,List.getElem?_range hv]
theorem wO {g:Gr} {L:List (List Nat)} {k v:Nat} {P:Nat→Bool} :k∈o4 g L k P v↔P v=true:=by
 unfold o4
 rw [List.mem_append,List.mem_filter,List.mem_range]
 constructor
 ·rintro (⟨h,_⟩|h)
  ·omega
  ·split at h
   ·assumption
   ·simp at h
 ·intro h
  right
  rw [if_pos h];simp
theorem wQ {g:Gr} {L:List (List Nat)} {k v:Nat} {P:Nat→Bool} :(o4 g L k P v).length≤k+1:=by
 unfold o4
 rw [List.length_append]
 have:=List.length_filter_le (fun q=>(ug g).bP (L.getD q []) v) (List.range k)
 rw [List.length_range] at this
 have h2:(if P v=true then [k] else []).length≤1:=by split<;>simp
 omega
theorem cu {g:Gr} {L:List (List Nat)} {k:Nat} {P Q:Nat→Bool} (h:∀v,P v=Q v):aX g L k P=aX g L k Q:=by
 have:P=Q:=funext h
 rw [this]
theorem r8 {g:Gr} {L:List (List Nat)} {k x:Nat} {P:Nat→Bool} (hx:x<g.n.toNat) (hP:P x=false):(aX g L k P).set x ((o4 g L k P x).map rN++ [[.sc (.int .i64 (k:Int))]])=aX g L k fun v=>P v||decide (v=x):=by
 refine List.ext_getElem? fun i=> ?_
 rw [List.getElem?_set,eS]
 by_cases hi:i<g.n.toNat
 ·rw [gw hi,gw hi]
  by_cases e:x=i
  ·subst e
   rw [if_pos rfl,if_pos hx]
   unfold o4
   simp [hP,rN]
  ·rw [if_neg e]
   unfold o4
   have:decide (i=x)=false:=decide_eq_false (Ne.symm e)
   simp [this]
 ·rw [List.getElem?_eq_none (by rw [eS];omega),List.getElem?_eq_none (by rw [eS];omega)]
  split
  ·omega
  ·rfl
theorem qf {g:Gr} {L:List (List Nat)} :List.replicate g.n.toNat []=aX g L 0 fun _=>false:=by
 refine List.ext_getElem? fun i=> ?_
 by_cases hi:i<g.n.toNat
 ·rw [gw hi];simp [hi,o4]
 ·rw [List.getElem?_eq_none (by simp;omega),List.getElem?_eq_none (by rw [eS];omega)]
theorem oy {g:Gr} {L:List (List Nat)} {k:Nat} :aX g L k (fun v=>(ug g).bP (L.getD k []) v)=aX g L (k+1) fun _=>false:=by
 unfold aX o4
 refine List.map_congr_left fun v _=> ?_
 show (((List.range k).filter fun q=>(ug g).bP (L.getD q []) v)++(if (ug g).bP (L.getD k []) v=true then [k] else [])).map rN=(((List.range (k+1)).filter fun q=>(ug g).bP (L.getD q []) v)++(if false=true then [k+1] else [])).map rN
 rw [List.range_succ,List.filter_append,List.filter_cons]
 generalize (ug g).bP (L.getD k []) v=q
 cases q<;>simp
theorem r9 {g:Gr} {L:List (List Nat)} :(aX g L L.length fun _=>false).map (fun r=> [D.sl 1 r])=(uO g L).map lp:=by
 unfold aX uO o4
 rw [List.map_map,List.map_map]
 refine List.map_congr_left fun v _=> ?_
 simp [lp,sN]
theorem kL (ps:List Nat) (x:Nat) (hl:ps.length≤9223372036854775807):Spec Try.prog 50 (Args [.d (sN ps),eN x]) [] (eB (decide (x∈ps))) []:=by
 have h:=kA (nI ps) (x:Int) (by rw [nI,List.length_map];exact hl)
 have e:decide ((x:Int)∈nI ps)=decide (x∈ps):=by
  rw [decide_eq_decide]
  unfold nI
  rw [List.mem_map]
  constructor
  ·rintro ⟨y,hy,e⟩
   have:y=x:=by omega
   rw [← this];exact hy
  ·intro h;exact ⟨x,h,rfl⟩
 rw [← lS,e] at h
 exact h
theorem uP (g:Gr) (hm:aQ g=true) (L:List (List Nat)) (hL:∀b∈L,(∀i∈b,i<g.es.length)∧b.length≤1000) (EN:L.length≤1000):Spec Try.prog 46 (Args [eG g, .d (sNL L)]) [] (.d (sNL (uO g L))) []:=by
 have hn:=eo hm
 (refine Spec.hd (C:=T.cfg [] [14]) (rs:= [.t 4]) (T.aI _ _) Try.func46 rfl rfl Try.ntmps46 Try.results46 (by simp [AObj.isNest]) (by simp [AObj.isNest]) (by kernel_rfl) T.mixed fun X hX hP hC cz gV=> ?_)
 repeat' (first|refine Rn.p ?_|(with_reducible apply And.intro)|((first|(refine hK _ ?_;clear hK K)|with_reducible intro K hK|refine Rs.p ?_|((with_reducible first|apply oP|apply oQ);exact rfl));try simp only [go_sem,simprocAttr])|((with_reducible refine oD ?_ ?_);first|(focus (simp only [jh,bF,bI,meets,cD,bW,gM,aP,cK,cE,Rec.rs,Rec.fG,Rec.nD,aV,Rec.aK,Rec.names,KV.ids,dG,dH,dI,dJ,dK,dL,List.zip_cons_cons,List.zip_nil_right,List.zipIdx_cons,List.zipIdx_nil,List.all_cons,List.all_nil,List.contains_cons,List.contains_nil,List.any_cons,List.any_nil,List.flatMap_nil,List.reverse_cons,List.reverse_nil,dS,eW,Region.binds,go_sem,simprocAttr];done))|kernel_rfl)|((with_reducible intro h);try simp only [go_sem,simprocAttr] at h)|omega|intro h)
 refine nP hX 14 (by simp [go_sem,simprocAttr];exact ⟨rfl,rfl,rfl,rfl⟩) (by decide) (by simp [go_sem,simprocAttr]) (by simp [go_sem,simprocAttr]) ?_
 simp only [go_sem,simprocAttr]
 refine au (fun k:Nat=>k≤L.length) (fun k=>⟨[(2, .ptr 2 0),(5, .ref 14),(15, .d (sNL L)),(16,eN L.length),(17,eN k)], [(14, .nest 25 3 1 (aX g L k fun _=>false) none),(2, .box [eN g.n, .d (sE g.es)])]⟩) (fun k=>L.length - k) 0 (Nat.zero_le _) ?_ ?_
 ·rw [← qf]
  refine Le.of ?_ ?_<;>simp [go_sem,simprocAttr]
 rintro k hk
 rcases Nat.lt_or_ge k L.length with hlt|hge
 rotate_left
 ·have hb:decide ((k:Int)<(L.length:Int))=false:=decide_eq_false (by omega)
  obtain rfl:k=L.length:=by omega
  (refine nR hX 14 rfl (by decide) ?_;simp only [go_sem,simprocAttr,hb])
  rw [r9]
  repeat' (first|refine Rn.p ?_|(with_reducible apply And.intro)|((first|(refine hK _ ?_;clear hK K)|with_reducible intro K hK|refine Rs.p ?_|((with_reducible first|apply oP|apply oQ);exact rfl));try simp only [go_sem,simprocAttr,hb])|((with_reducible refine oD ?_ ?_);first|(focus (simp only [jh,bF,bI,meets,cD,bW,gM,aP,cK,cE,Rec.rs,Rec.fG,Rec.nD,aV,Rec.aK,Rec.names,KV.ids,dG,dH,dI,dJ,dK,dL,List.zip_cons_cons,List.zip_nil_right,List.zipIdx_cons,List.zipIdx_nil,List.all_cons,List.all_nil,List.contains_cons,List.contains_nil,List.any_cons,List.any_nil,List.flatMap_nil,List.reverse_cons,List.reverse_nil,dS,eW,Region.binds,go_sem,simprocAttr,hb];done))|kernel_rfl)|((with_reducible intro h);try simp only [go_sem,simprocAttr,hb] at h)|omega|intro h)
 have hb:decide ((k:Int)<(L.length:Int))=true:=decide_eq_true (by omega)
 obtain ⟨A6,kO⟩:=hL _ (eR [] hlt)
 have hblk:=oy (g:=g) (L:=L) (k:=k)
 have hstart:(aX g L k fun _=>false)=aX g L k fun v=>(ug g).bP ((L.getD k []).take 0) v:=cu fun v=>rfl
 rw [hstart]
 obtain ⟨b,mT⟩:∃b,L.getD k []=b:=⟨_,rfl⟩
 rw [mT] at A6 kO hblk ⊢
 repeat' (first|refine Rn.p ?_|(with_reducible apply And.intro)|((first|(refine hK _ ?_;clear hK K)|with_reducible intro K hK|refine Rs.p ?_|((with_reducible first|apply oP|apply oQ);exact rfl));try simp only [go_sem,simprocAttr,hb,mT])|((with_reducible refine oD ?_ ?_);first|(focus (simp only [jh,bF,bI,meets,cD,bW,gM,aP,cK,cE,Rec.rs,Rec.fG,Rec.nD,aV,Rec.aK,Rec.names,KV.ids,dG,dH,dI,dJ,dK,dL,List.zip_cons_cons,List.zip_nil_right,List.zipIdx_cons,List.zipIdx_nil,List.all_cons,List.all_nil,List.contains_cons,List.contains_nil,List.any_cons,List.any_nil,List.flatMap_nil,List.reverse_cons,List.reverse_nil,dS,eW,Region.binds,go_sem,simprocAttr,hb,mT];done))|kernel_rfl)|((with_reducible intro h);try simp only [go_sem,simprocAttr,hb,mT] at h)|omega|intro h)
 clear hb
 refine au (fun j:Nat=>j≤b.length) (fun j=>⟨[(2, .ptr 2 0),(5, .ref 14),(15, .d (sNL L)),(16,eN L.length),(17,eN k),(6,eN k),(22, .d (sN b)),(23,eN b.length),(24,eN j)], [(14, .nest 25 3 1 (aX g L k fun v=>(ug g).bP (b.take j) v) none),(2, .box [eN g.n, .d (sE g.es)])]⟩) (fun j=>b.length - j) 0 (Nat.zero_le _) ?_ ?_
 ·refine Le.of ?_ ?_<;>simp [go_sem,simprocAttr]
 rintro j hj
 rcases Nat.lt_or_ge j b.length with hlj|Gx
 rotate_left
 ·have hb:decide ((j:Int)<(b.length:Int))=false:=decide_eq_false (by omega)
  obtain rfl:j=b.length:=by omega
  rw [List.take_length,hblk]
  repeat' (first|refine Rn.p ?_|(with_reducible apply And.intro)|((first|(refine hK _ ?_;clear hK K)|with_reducible intro K hK|refine Rs.p ?_|((with_reducible first|apply oP|apply oQ);exact rfl));try simp only [go_sem,simprocAttr,hb])|((with_reducible refine oD ?_ ?_);first|(focus (simp only [jh,bF,bI,meets,cD,bW,gM,aP,cK,cE,Rec.rs,Rec.fG,Rec.nD,aV,Rec.aK,Rec.names,KV.ids,dG,dH,dI,dJ,dK,dL,List.zip_cons_cons,List.zip_nil_right,List.zipIdx_cons,List.zipIdx_nil,List.all_cons,List.all_nil,List.contains_cons,List.contains_nil,List.any_cons,List.any_nil,List.flatMap_nil,List.reverse_cons,List.reverse_nil,dS,eW,Region.binds,go_sem,simprocAttr,hb];done))|kernel_rfl)|((with_reducible intro h);try simp only [go_sem,simprocAttr,hb] at h)|omega|intro h)
  refine ⟨k+1,by omega, ?_,by omega⟩
  refine Le.of ?_ ?_<;>simp [go_sem,simprocAttr,hb]
 have hb:decide ((j:Int)<(b.length:Int))=true:=decide_eq_true (by omega)
 obtain ⟨i,hi⟩:∃i,b.getD j 0=i:=⟨_,rfl⟩
 have him:i<g.es.length:=A6 i (by rw [← hi];exact eR 0 hlj)
 obtain ⟨me,oT⟩:=fm hm him
 obtain ⟨u,hu⟩:∃u:Nat,(g.es.getD i (0,0)).1=u:=⟨(g.es.getD i (0,0)).1.toNat,by omega⟩
 obtain ⟨w,hw⟩:∃v:Nat,(g.es.getD i (0,0)).2=v:=⟨(g.es.getD i (0,0)).2.toNat,by omega⟩
 have gU:(ug g).T i=u:=by show ((g.es.getD i (0,0)).1).toNat=u;rw [hu];rfl
 have hhi:(ug g).H i=w:=by show ((g.es.getD i (0,0)).2).toNat=w;rw [hw];rfl
 have hun:u<g.n.toNat:=by omega
 have hwn:w<g.n.toNat:=by omega
 have Cs:∀v,(ug g).bP (b.take (j+1)) v=(((ug g).bP (b.take j) v||decide (v=u))||decide (v=w)):=fun v=>by
  unfold UG.bP
  rw [ja 0 hlj,hi,gU,hhi,Bool.or_assoc]
  congr 2
  ·exact decide_eq_decide.2 eq_comm
  ·exact decide_eq_decide.2 eq_comm
 generalize BS:(fun v=>(ug g).bP (b.take j) v)=P0
 have cT:(aX g L k fun v=>(ug g).bP (b.take (j+1)) v)=aX g L k fun v=>((P0 v||decide (v=u))||decide (v=w)):=cu fun v=>by rw [Cs v, ← BS]
 obtain ⟨PE,A7⟩:∃PE:Nat→Nat→Bool,PE=fun e v=>if e=0 then P0 v else if e=1 then (P0 v||decide (v=u)) else ((P0 v||decide (v=u))||decide (v=w)):=⟨_,rfl⟩
 have yS:aX g L k P0=aX g L k (PE 0):=cu fun v=>by rw [A7];rfl
 have BG:aX g L k (PE 2)=aX g L k fun v=>((P0 v||decide (v=u))||decide (v=w)):=cu fun v=>by rw [A7];rfl
 rw [← BG] at cT
 rw [yS]
 repeat' (first|refine Rn.p ?_|(with_reducible apply And.intro)|((first|(refine hK _ ?_;clear hK K)|with_reducible intro K hK|refine Rs.p ?_|((with_reducible first|apply oP|apply oQ);exact rfl));try simp only [go_sem,simprocAttr,hb,hi,hu,hw])|((with_reducible refine oD ?_ ?_);first|(focus (simp only [jh,bF,bI,meets,cD,bW,gM,aP,cK,cE,Rec.rs,Rec.fG,Rec.nD,aV,Rec.aK,Rec.names,KV.ids,dG,dH,dI,dJ,dK,dL,List.zip_cons_cons,List.zip_nil_right,List.zipIdx_cons,List.zipIdx_nil,List.all_cons,List.all_nil,List.contains_cons,List.contains_nil,List.any_cons,List.any_nil,List.flatMap_nil,List.reverse_cons,List.reverse_nil,dS,eW,Region.binds,go_sem,simprocAttr,hb,hi,hu,hw];done))|kernel_rfl)|((with_reducible intro h);try simp only [go_sem,simprocAttr,hb,hi,hu,hw] at h)|omega|intro h)
 clear hb
 refine au (fun e:Nat=>e≤2) (fun e=>⟨[(2, .ptr 2 0),(5, .ref 14),(15, .d (sNL L)),(16,eN L.length),(17,eN k),(6,eN k),(22, .d (sN b)),(23,eN b.length),(24,eN j),(40, .agg [eN u,eN w]),(41,eN e)], [(14, .nest 25 3 1 (aX g L k (PE e)) none),(2, .box [eN g.n, .d (sE g.es)])]⟩) (fun e=>2 - e) 0 (by omega) ?_ ?_
 ·refine Le.of ?_ ?_<;>simp [go_sem,simprocAttr]
 rintro e he
 rcases Nat.lt_or_ge e 2 with hle|AT
 rotate_left
 ·have hb:decide ((e:Int)<2)=false:=decide_eq_false (by omega)
  obtain rfl:e=2:=by omega
  repeat' (first|refine Rn.p ?_|(with_reducible apply And.intro)|((first|(refine hK _ ?_;clear hK K)|with_reducible intro K hK|refine Rs.p ?_|((with_reducible first|apply oP|apply oQ);exact rfl));try simp only [go_sem,simprocAttr,hb])|((with_reducible refine oD ?_ ?_);first|(focus (simp only [jh,bF,bI,meets,cD,bW,gM,aP,cK,cE,Rec.rs,Rec.fG,Rec.nD,aV,Rec.aK,Rec.names,KV.ids,dG,dH,dI,dJ,dK,dL,List.zip_cons_cons,List.zip_nil_right,List.zipIdx_cons,List.zipIdx_nil,List.all_cons,List.all_nil,List.contains_cons,List.contains_nil,List.any_cons,List.any_nil,List.flatMap_nil,List.reverse_cons,List.reverse_nil,dS,eW,Region.binds,go_sem,simprocAttr,hb];done))|kernel_rfl)|((with_reducible intro h);try simp only [go_sem,simprocAttr,hb] at h)|omega|intro h)
  refine ⟨j+1,by omega, ?_,by omega⟩
  rw [cT]
  refine Le.of ?_ ?_<;>simp [go_sem,simprocAttr,hb]
 have hb:decide ((e:Int)<2)=true:=decide_eq_true (by omega)
 obtain ⟨x,hx⟩:∃x:Nat,([eN u,eN w][e]? :Option AV)=some (eN x)∧x<g.n.toNat∧∀v,PE (e+1) v=(PE e v||decide (v=x)):=by
  match e,hle with
  |0,_=>exact ⟨u,rfl,hun,fun v=>by rw [A7];rfl⟩
  |1,_=>exact ⟨w,rfl,hwn,fun v=>by rw [A7];rfl⟩
 obtain ⟨hx1,Ar,DX⟩:=hx
 simp only [eN] at hx1
 have gy:=gw (g:=g) (L:=L) (k:=k) (P:=PE e) Ar
 have hrl:=eS (g:=g) (L:=L) (k:=k) (P:=PE e)
 have HA:=wQ (g:=g) (L:=L) (k:=k) (v:=x) (P:=PE e)
 have BT:=kL (o4 g L k (PE e) x) k (by omega)
 have Gy:decide (k∈o4 g L k (PE e) x)=PE e x:=by
  rw [Bool.eq_iff_iff,decide_eq_true_eq];exact wO
 rw [Gy] at BT
 have A8:=r8 (g:=g) (L:=L) (k:=k) (P:=PE e) Ar
 have hsame:PE e x=true→aX g L k (PE (e+1))=aX g L k (PE e):=fun h=>cu fun v=>by
  rw [DX]
  by_cases e1:v=x
  ·rw [e1,h];rfl
  ·rw [decide_eq_false e1,Bool.or_false]
 have hnew:PE e x=false→aX g L k (PE (e+1))=(aX g L k (PE e)).set x ((o4 g L k (PE e) x).map rN++ [[.sc (.int .i64 (k:Int))]]):=fun h=>by
  rw [A8 h]
  exact cu DX
 clear A8 DX yS BG A7
 generalize BU:aX g L k (PE (e+1))=R1 at hsame hnew
 have EJ:(x:Int)=x:=rfl
 generalize hq:PE e x=q at BT hsame hnew
 generalize aX g L k (PE e)=R0 at*
 generalize o4 g L k (PE e) x=r0 at*
 cases q with
 |true=>
  rw [hsame rfl] at BU
  repeat' (first|refine Rn.p ?_|(with_reducible apply And.intro)|((first|(refine hK _ ?_;clear hK K)|with_reducible intro K hK|refine Rs.p ?_|((with_reducible first|apply oP|apply oQ);exact rfl)|(refine nS hX hC hP 14 (BT) rfl rfl rfl rfl ?_ (by decide) ?_ ?_ rfl ?_;(iterate 2 (focus (simp only [go_sem,simprocAttr,hb,hx1,gy,hrl,Nat.mul_one];done)));(focus (intro a ha;simp only [List.mem_cons,List.not_mem_nil,or_false] at ha;exact ⟨_,ha⟩))));try simp only [go_sem,simprocAttr,hb,hx1,gy,hrl,Nat.mul_one])|((with_reducible refine oD ?_ ?_);first|(focus (simp only [jh,bF,bI,meets,cD,bW,gM,aP,cK,cE,Rec.rs,Rec.fG,Rec.nD,aV,Rec.aK,Rec.names,KV.ids,dG,dH,dI,dJ,dK,dL,List.zip_cons_cons,List.zip_nil_right,List.zipIdx_cons,List.zipIdx_nil,List.all_cons,List.all_nil,List.contains_cons,List.contains_nil,List.any_cons,List.any_nil,List.flatMap_nil,List.reverse_cons,List.reverse_nil,dS,eW,Region.binds,go_sem,simprocAttr,hb,hx1,gy,hrl,Nat.mul_one];done))|kernel_rfl)|((with_reducible intro h);try simp only [go_sem,simprocAttr,hb,hx1,gy,hrl,Nat.mul_one] at h)|omega|intro h)
  refine ⟨e+1,by omega, ?_,by omega⟩
  rw [BU]
  refine Le.of ?_ ?_<;>simp [go_sem,simprocAttr,hb,hx1,gy,hrl,Nat.mul_one]
 |false=>
  rw [hnew rfl] at BU
  repeat' (first|refine Rn.p ?_|(with_reducible apply And.intro)|((first|(refine hK _ ?_;clear hK K)|with_reducible intro K hK|refine Rs.p ?_|((with_reducible first|apply oP|apply oQ);exact rfl)|(refine nS hX hC hP 14 (BT) rfl rfl rfl rfl ?_ (by decide) ?_ ?_ rfl ?_;(iterate 2 (focus (simp only [go_sem,simprocAttr,hb,hx1,gy,hrl,Nat.mul_one];done)));(focus (intro a ha;simp only [List.mem_cons,List.not_mem_nil,or_false] at ha;exact ⟨_,ha⟩))));try simp only [go_sem,simprocAttr,hb,hx1,gy,hrl,Nat.mul_one])|((with_reducible refine oD ?_ ?_);first|(focus (simp only [jh,bF,bI,meets,cD,bW,gM,aP,cK,cE,Rec.rs,Rec.fG,Rec.nD,aV,Rec.aK,Rec.names,KV.ids,dG,dH,dI,dJ,dK,dL,List.zip_cons_cons,List.zip_nil_right,List.zipIdx_cons,List.zipIdx_nil,List.all_cons,List.all_nil,List.contains_cons,List.contains_nil,List.any_cons,List.any_nil,List.flatMap_nil,List.reverse_cons,List.reverse_nil,dS,eW,Region.binds,go_sem,simprocAttr,hb,hx1,gy,hrl,Nat.mul_one];done))|kernel_rfl)|((with_reducible intro h);try simp only [go_sem,simprocAttr,hb,hx1,gy,hrl,Nat.mul_one] at h)|omega|intro h)
  refine ⟨e+1,by omega, ?_,by omega⟩
  rw [BU]
  refine Le.of ?_ ?_<;>simp [go_sem,simprocAttr,hb,hx1,gy,hrl,Nat.mul_one]
end Go.Ab
end
section
namespace Go.Ab
open Go.Proofs
attribute [local congr] ACall.congr gd.congr Nx.congr
set_option maxRecDepth 20000
set_option maxHeartbeats 16000000
theorem uQ {g:Gr} {L:List (List Nat)} {v:Nat} :∀ {k:Nat},k≤L.length→((List.range k).filter fun q=>(ug g).bP (L.getD q []) v).length=kG g L v k
 |0,_=>by simp [kG]
 |k+1,hk=>by
  rw [rW (by omega),List.range_succ,List.filter_append,List.length_append,uQ (by omega),List.filter_cons]
  generalize (ug g).bP (L.getD k []) v=q
  cases q<;>simp
theorem yx {g:Gr} {L:List (List Nat)} {v:Nat} (hv:v<g.n.toNat):(uO g L).getD v []=(List.range L.length).filter fun q=>(ug g).bP (L.getD q []) v:=by
 simp only [uO,List.getD_eq_getElem?_getD,List.getElem?_map,List.getElem?_range hv,Option.map_some,Option.getD_some]
theorem wR {g:Gr} {L:List (List Nat)} :(uO g L).length=g.n.toNat:=by simp [uO]
noncomputable def yy (g:Gr):List Nat:=if (aQ g&&aW g)=true then lR g else []
theorem jF {g:Gr} (h:(aQ g&&aW g)=true):sH g=(ug g).aM:=by unfold sH;rw [if_pos h]
theorem yz {g:Gr} (h:(aQ g&&aW g)=false):sH g= []:=by unfold sH;rw [if_neg (by rw [h];decide)]
theorem mO {g:Gr} (h:(aQ g&&aW g)=true):yy g=lR g:=by unfold yy;rw [if_pos h]
theorem yA {g:Gr} (h:(aQ g&&aW g)=false):yy g= []:=by unfold yy;rw [if_neg (by rw [h];decide)]
theorem uR {g:Gr} (h:(ug g).aM= []):lR g= []:=by
 unfold lR fD
 rw [h]
 refine List.filter_eq_nil_iff.2 fun x _=> ?_
 simp [kG]
theorem mP (g:Gr):∀b∈(ug g).aM,(∀i∈b,i<g.es.length)∧b.length≤g.es.length:=fun b hb=>⟨fun i hi=>UG.dW hb hi,wq hb⟩
theorem sg (g:Gr) (hlen:g.es.length≤9223372036854775807):Spec Try.prog 19 (Args [eG g]) [] (.d (sN (yy g))) []:=by
 have vl:=gh g hlen
 have done:sH g= []→yy g= []:=fun h=>by
  cases hq:(aQ g&&aW g) with
  |true=>rw [mO hq];rw [jF hq] at h;exact uR h
  |false=>exact yA hq
 by_cases hz:sH g= []
 ·rw [done hz]
  rw [hz] at vl
  (refine Spec.hd (C:=T.cfg [] []) (rs:= [.t 2]) (T.aI _ _) Try.func19 rfl rfl Try.ntmps19 Try.results19 (by simp [AObj.isNest]) (by simp [AObj.isNest]) (by kernel_rfl) T.mixed fun X hX hP hC cz gV=> ?_)
  repeat' (first|refine Rn.p ?_|(with_reducible apply And.intro)|((first|(refine hK _ ?_;clear hK K)|with_reducible intro K hK|refine Rs.p ?_|((with_reducible first|apply oP|apply oQ);exact rfl)|refine ai hX hC hP (vl) rfl rfl rfl (by simp only [go_sem,simprocAttr]) rfl ?_);try simp only [go_sem,simprocAttr])|((with_reducible refine oD ?_ ?_);kernel_rfl)|((with_reducible intro h);try simp only [go_sem,simprocAttr] at h)|omega|intro h)
 have hq:(aQ g&&aW g)=true:=by
  cases hq:(aQ g&&aW g) with
  |true=>rfl
  |false=>exact absurd (yz hq) hz
 rw [mO hq]
 rw [jF hq] at vl hz
 rw [Bool.and_eq_true] at hq
 obtain ⟨hm,hl⟩:=hq
 have hn:=eo hm
 have EN:(ug g).aM.length≤g.es.length:=kH
 have Gz:=uP g hm (ug g).aM (fun b hb=>⟨(mP g b hb).1,by have:=(mP g b hb).2;omega⟩) (by omega)
 have oW:decide (((ug g).aM.length:Int)=0)=false:=decide_eq_false (by
  intro e
  exact hz (List.eq_nil_of_length_eq_zero (by omega)))
 have kP:fD g g.n.toNat=lR g:=rfl
 have kO:=wR (g:=g) (L:=(ug g).aM)
 (refine Spec.hd (C:=T.cfg [] []) (rs:= [.t 2]) (T.aI _ _) Try.func19 rfl rfl Try.ntmps19 Try.results19 (by simp [AObj.isNest]) (by simp [AObj.isNest]) (by kernel_rfl) T.mixed fun X hX hP hC cz gV=> ?_)
 repeat' (first|(show bA _ (.seq (.region 4 _ _) _) _ _;(refine vV hX 2 200 (.tip 3 1 []) ?_ ?_ (by decide) ⟨3,1,by decide, .inr rfl⟩ ?_;(iterate 2 (focus (simp only [go_sem,simprocAttr,oW];done)));simp only [go_sem,simprocAttr,oW]))|refine Rn.p ?_|(with_reducible apply And.intro)|((first|(refine hK _ ?_;clear hK K)|with_reducible intro K hK|refine Rs.p ?_|((with_reducible first|apply oP|apply oQ);exact rfl)|refine ai hX hC hP (vl) rfl rfl rfl (by simp only [go_sem,simprocAttr,oW]) rfl ?_|refine ai hX hC hP (Gz) rfl rfl rfl (by simp only [go_sem,simprocAttr,oW]) rfl ?_);try simp only [go_sem,simprocAttr,oW])|((with_reducible refine oD ?_ ?_);kernel_rfl)|((with_reducible intro h);try simp only [go_sem,simprocAttr,oW] at h)|omega|intro h)
 refine au (fun k:Nat=>k≤g.n.toNat) (fun k=>⟨[(2, .ref 200),(13, .d (sNL (uO g (ug g).aM))),(14,eN g.n.toNat),(15,eN k)], [(200, .tip 3 1 ((fD g k).map rN))]⟩) (fun k=>g.n.toNat - k) 0 (Nat.zero_le _) ?_ ?_
 ·refine Le.of ?_ ?_<;>simp [go_sem,simprocAttr,oW,fD,kO]
 rintro k hk
 rcases Nat.lt_or_ge k g.n.toNat with hlt|hge
 rotate_left
 ·have hb:decide ((k:Int)<(g.n.toNat:Int))=false:=decide_eq_false (by omega)
  obtain rfl:k=g.n.toNat:=by omega
  rw [kP]
  repeat' (first|refine Rn.p ?_|(with_reducible apply And.intro)|((first|(refine hK _ ?_;clear hK K)|with_reducible intro K hK|refine Rs.p ?_|((with_reducible first|apply oP|apply oQ);exact rfl));try simp only [go_sem,simprocAttr,hb])|((with_reducible refine oD ?_ ?_);kernel_rfl)|((with_reducible intro h);try simp only [go_sem,simprocAttr,hb] at h)|omega|intro h)
 have hb:decide ((k:Int)<(g.n.toNat:Int))=true:=decide_eq_true (by omega)
 have cT:=p7 (g:=g) (k:=k)
 have bp:=rX (g:=g) (k:=k)
 have y7:=yx (g:=g) (L:=(ug g).aM) hlt
 have su:=uQ (g:=g) (L:=(ug g).aM) (v:=k) (Nat.le_refl _)
 rw [← y7] at su
 rw [← su] at cT
 have hdc:decide ((1:Int)<((((uO g (ug g).aM).getD k []).length:Nat):Int))=decide (1<((uO g (ug g).aM).getD k []).length):=by rw [decide_eq_decide];omega
 generalize fD g k=C0 at cT bp ⊢
 generalize hrw:(uO g (ug g).aM).getD k []=r0 at cT hdc
 by_cases hc:1<r0.length
 ·rw [if_pos hc] at cT
  rw [decide_eq_true hc] at hdc
  repeat' (first|(show bA _ (.region 9 _ _) _ _;(refine tQ hX 2 26 200 (by simp only [go_sem,simprocAttr,hb,hrw,hdc,kO]) rfl (by first|exact .inl rfl|exact .inr rfl) (by decide) ?_;simp only [go_sem,simprocAttr,hb,hrw,hdc,kO]))|refine Rn.p ?_|(with_reducible apply And.intro)|((first|(refine hK _ ?_;clear hK K)|with_reducible intro K hK|refine Rs.p ?_|((with_reducible first|apply oP|apply oQ);exact rfl));try simp only [go_sem,simprocAttr,hb,hrw,hdc,kO])|((with_reducible refine oD ?_ ?_);kernel_rfl)|((with_reducible intro h);try simp only [go_sem,simprocAttr,hb,hrw,hdc,kO] at h)|omega|intro h)
  refine ⟨k+1,by omega, ?_,by omega⟩
  rw [cT]
  refine Le.of ?_ ?_<;>simp [go_sem,simprocAttr,hb,hrw,hdc,kO,rN]
 ·rw [if_neg hc] at cT
  rw [decide_eq_false hc] at hdc
  repeat' (first|refine Rn.p ?_|(with_reducible apply And.intro)|((first|(refine hK _ ?_;clear hK K)|with_reducible intro K hK|refine Rs.p ?_|((with_reducible first|apply oP|apply oQ);exact rfl));try simp only [go_sem,simprocAttr,hb,hrw,hdc,kO])|((with_reducible refine oD ?_ ?_);kernel_rfl)|((with_reducible intro h);try simp only [go_sem,simprocAttr,hb,hrw,hdc,kO] at h)|omega|intro h)
  refine ⟨k+1,by omega, ?_,by omega⟩
  rw [cT]
  refine Le.of ?_ ?_<;>simp [go_sem,simprocAttr,hb,hrw,hdc,kO]
theorem uS (g:Gr) (hlen:g.es.length≤9223372036854775807):Spec Try.prog 18 (Args [eG g]) [] (eB (!(aQ g&&aW g))) []:=by
 have hM:=nZ g (by omega)
 have hnl:aW g= !(g.es.any fun e=>decide (e.1=e.2)):=rfl
 obtain ⟨P,EO⟩:∃P:Edge→Bool,P=fun e=>decide (e.1=e.2):=⟨_,rfl⟩
 rw [← EO] at hnl
 (refine Spec.hd (C:=T.cfg [] []) (rs:= [.t 2]) (T.aI _ _) Try.func18 rfl rfl Try.ntmps18 Try.results18 (by simp [AObj.isNest]) (by simp [AObj.isNest]) (by kernel_rfl) T.mixed fun X hX hP hC cz gV=> ?_)
 repeat' (first|refine Rn.p ?_|(with_reducible apply And.intro)|((first|(refine hK _ ?_;clear hK K)|with_reducible intro K hK|refine Rs.p ?_|((with_reducible first|apply oP|apply oQ);exact rfl)|refine ai hX hC hP (hM) rfl rfl rfl (by simp only [go_sem,simprocAttr]) rfl ?_);try simp only [go_sem,simprocAttr])|((with_reducible refine oD ?_ ?_);kernel_rfl)|((with_reducible intro h);try simp only [go_sem,simprocAttr] at h)|omega|intro h)
 refine au (fun k:Nat=>k≤g.es.length∧(g.es.take k).any P=false) (fun k=>⟨[(1, .ptr 1 0),(6, .d (sE g.es)),(7,eN g.es.length),(8,eN k)], [(1, .box [eN g.n, .d (sE g.es)])]⟩) (fun k=>g.es.length - k) 0 ⟨Nat.zero_le _,rfl⟩ ?_ ?_
 ·refine Le.of ?_ ?_<;>simp [go_sem,simprocAttr]
 rintro k ⟨hk,hf⟩
 rcases Nat.lt_or_ge k g.es.length with hlt|hge
 rotate_left
 ·have b7:decide ((k:Int)<(g.es.length:Int))=false:=decide_eq_false (by omega)
  obtain rfl:k=g.es.length:=by omega
  rw [List.take_length] at hf
  rw [hnl,hf]
  have e:(aQ g&& !false)=aQ g:=by simp
  rw [e]
  repeat' (first|refine Rn.p ?_|(with_reducible apply And.intro)|((first|(refine hK _ ?_;clear hK K)|with_reducible intro K hK|refine Rs.p ?_|((with_reducible first|apply oP|apply oQ);exact rfl)|refine ai hX hC hP (hM) rfl rfl rfl (by simp only [go_sem,simprocAttr,b7]) rfl ?_);try simp only [go_sem,simprocAttr,b7])|((with_reducible refine oD ?_ ?_);kernel_rfl)|((with_reducible intro h);try simp only [go_sem,simprocAttr,b7] at h)|omega|intro h)
 have b7:decide ((k:Int)<(g.es.length:Int))=true:=decide_eq_true (by omega)
 have hst:=ja (p:=P) (0,0) hlt
 have yo:=wo (p:=P) (0,0) hlt
 rw [hf,Bool.false_or] at hst
 have EP:P (g.es.getD k (0,0))=decide ((g.es.getD k (0,0)).1=(g.es.getD k (0,0)).2):=by rw [EO]
 generalize hq:P (g.es.getD k (0,0))=q at hst yo EP
 have qg:=EP.symm
 cases q with
 |true=>
  rw [hnl,yo rfl]
  have e:(!(aQ g&& !true))=true:=by simp
  rw [e]
  repeat' (first|refine Rn.p ?_|(with_reducible apply And.intro)|((first|(refine hK _ ?_;clear hK K)|with_reducible intro K hK|refine Rs.p ?_|((with_reducible first|apply oP|apply oQ);exact rfl)|refine ai hX hC hP (hM) rfl rfl rfl (by simp only [go_sem,simprocAttr,b7,qg]) rfl ?_);try simp only [go_sem,simprocAttr,b7,qg])|((with_reducible refine oD ?_ ?_);kernel_rfl)|((with_reducible intro h);try simp only [go_sem,simprocAttr,b7,qg] at h)|omega|intro h)
 |false=>
  repeat' (first|refine Rn.p ?_|(with_reducible apply And.intro)|((first|(refine hK _ ?_;clear hK K)|with_reducible intro K hK|refine Rs.p ?_|((with_reducible first|apply oP|apply oQ);exact rfl)|refine ai hX hC hP (hM) rfl rfl rfl (by simp only [go_sem,simprocAttr,b7,qg]) rfl ?_);try simp only [go_sem,simprocAttr,b7,qg])|((with_reducible refine oD ?_ ?_);kernel_rfl)|((with_reducible intro h);try simp only [go_sem,simprocAttr,b7,qg] at h)|omega|intro h)
  refine ⟨k+1,⟨by omega,hst⟩, ?_,by omega⟩
  refine Le.of ?_ ?_<;>simp [go_sem,simprocAttr,b7,qg]
end Go.Ab
end
section
namespace Go.Ab
open Go.Proofs
attribute [local congr] ACall.congr gd.congr Nx.congr
set_option maxRecDepth 20000
set_option maxHeartbeats 16000000
def g4:Gr:=⟨3, [(0,1),(1,2)]⟩
theorem A9:(ug g4).Ok:=lN (by decide) (by decide)
theorem uT:(ug g4).aM= [[0], [1]]:=by
 have h:=UG.gr A9 (so:=id) (fun l=>List.Perm.refl _)
 have hb:UG.bG (ug g4) id= [[1], [0]]:=by decide
 rw [hb] at h
 refine (UG.qF (L:= [[0], [1]]) (by decide) (fun e=> ?_) (fun b hb'=>h.2.2 b (by simp at hb' ⊢;exact hb'.symm)) (by decide) (by decide)).symm
 show e∈ [0,1]↔e<2
 simp;omega
theorem Ba:sH g4= [[0], [1]]:=by rw [jF (by decide),uT]
theorem Bb:yy g4= [1]:=by
 rw [mO (by decide)]
 unfold lR fD
 rw [uT]
 decide
theorem qh (xs ys:List Nat) (hlen:xs.length≤9223372036854775807):Spec Try.prog 22 (Args [.d (sN xs), .d (sN ys)]) [] (eB (decide (xs=ys))) []:=by
 have h:=kY (nI xs) (nI ys) (by rw [nI,List.length_map];exact hlen)
 have e:decide (nI xs=nI ys)=decide (xs=ys):=by
  rw [decide_eq_decide]
  constructor
  ·intro e
   have:=congrArg (List.map Int.toNat) e
   unfold nI at this
   rw [List.map_map,List.map_map] at this
   have hid:(Int.toNat ∘ fun n:Nat=>(n:Int))=id:=funext fun n=>rfl
   rw [hid,List.map_id,List.map_id] at this
   exact this
  ·rintro rfl;rfl
 rw [← lS, ← lS,e] at h
 exact h
theorem mQ:Spec Try.prog 14 (Args []) [] (eB true) []:=by
 have vl:=gh g4 (by decide)
 have ER:=sg g4 (by decide)
 rw [Ba] at vl
 rw [Bb] at ER
 have GA:=qh [1] [1] (by decide)
 have e1:g4.es.map rE= [[.sc (.int .i64 0), .sc (.int .i64 1)], [.sc (.int .i64 1), .sc (.int .i64 2)]]:=rfl
 have e2:g4.n=3:=rfl
 have e3:([[0], [1]]:List (List Nat)).map lp= [[sN [0]], [sN [1]]]:=rfl
 have e4:([1]:List Nat).map rN= [[.sc (.int .i64 1)]]:=rfl
 (refine Spec.hd (C:=T.cfg [] []) (rs:= [.t 0]) (T.aI _ _) Try.func14 rfl rfl Try.ntmps14 Try.results14 (by simp [AObj.isNest]) (by simp [AObj.isNest]) (by kernel_rfl) T.mixed fun X hX hP hC cz gV=> ?_)
 repeat' (first|refine Rn.p ?_|(with_reducible apply And.intro)|((first|(refine hK _ ?_;clear hK K)|with_reducible intro K hK|refine Rs.p ?_|((with_reducible first|apply oP|apply oQ);exact rfl)|(refine fk hX hC hP (vl) rfl rfl rfl ?_ ?_ rfl ?_;iterate 2 (focus (simp only [go_sem,simprocAttr,e1,e2,e3,e4];done)))|(refine fk hX hC hP (ER) rfl rfl rfl ?_ ?_ rfl ?_;iterate 2 (focus (simp only [go_sem,simprocAttr,e1,e2,e3,e4];done)))|(refine fk hX hC hP (GA) rfl rfl rfl ?_ ?_ rfl ?_;iterate 2 (focus (simp only [go_sem,simprocAttr,e1,e2,e3,e4];done))));try simp only [go_sem,simprocAttr,e1,e2,e3,e4])|((with_reducible refine oD ?_ ?_);kernel_rfl)|((with_reducible intro h);try simp only [go_sem,simprocAttr,e1,e2,e3,e4] at h)|omega|intro h)
def kM (g:Gr):Bool:=decide (40<(g.es.length:Int))||(decide (20<g.n)|| !(aQ g&&aW g))
theorem qi (g:Gr) (hlen:g.es.length≤9223372036854775807):Spec Try.prog 15 (Args [eG g]) [] (eB (kM g)) []:=by
 have hO:=uS g hlen
 have hlb:kM g=(decide (40<(g.es.length:Int))||(decide (20<g.n)|| !(aQ g&&aW g))):=rfl
 generalize (!(aQ g&&aW g))=q at hO hlb
 by_cases h1:40<(g.es.length:Int)
 ·rw [decide_eq_true h1,Bool.true_or] at hlb
  have jK:=decide_eq_true h1
  rw [hlb]
  (refine Spec.hd (C:=T.cfg [] []) (rs:= [.t 2]) (T.aI _ _) Try.func15 rfl rfl Try.ntmps15 Try.results15 (by simp [AObj.isNest]) (by simp [AObj.isNest]) (by kernel_rfl) T.mixed fun X hX hP hC cz gV=> ?_)
  repeat' (first|refine Rn.p ?_|(with_reducible apply And.intro)|((first|(refine hK _ ?_;clear hK K)|with_reducible intro K hK|refine Rs.p ?_|((with_reducible first|apply oP|apply oQ);exact rfl)|refine ai hX hC hP (hO) rfl rfl rfl (by simp only [go_sem,simprocAttr,jK]) rfl ?_);try simp only [go_sem,simprocAttr,jK])|((with_reducible refine oD ?_ ?_);kernel_rfl)|((with_reducible intro h);try simp only [go_sem,simprocAttr,jK] at h)|omega|intro h)
 rw [decide_eq_false h1,Bool.false_or] at hlb
 have jK:=decide_eq_false h1
 by_cases h2:20<g.n
 ·rw [decide_eq_true h2,Bool.true_or] at hlb
  have oS:=decide_eq_true h2
  rw [hlb]
  (refine Spec.hd (C:=T.cfg [] []) (rs:= [.t 2]) (T.aI _ _) Try.func15 rfl rfl Try.ntmps15 Try.results15 (by simp [AObj.isNest]) (by simp [AObj.isNest]) (by kernel_rfl) T.mixed fun X hX hP hC cz gV=> ?_)
  repeat' (first|refine Rn.p ?_|(with_reducible apply And.intro)|((first|(refine hK _ ?_;clear hK K)|with_reducible intro K hK|refine Rs.p ?_|((with_reducible first|apply oP|apply oQ);exact rfl)|refine ai hX hC hP (hO) rfl rfl rfl (by simp only [go_sem,simprocAttr,jK,oS]) rfl ?_);try simp only [go_sem,simprocAttr,jK,oS])|((with_reducible refine oD ?_ ?_);kernel_rfl)|((with_reducible intro h);try simp only [go_sem,simprocAttr,jK,oS] at h)|omega|intro h)
 rw [decide_eq_false h2,Bool.false_or] at hlb
 have oS:=decide_eq_false h2
 rw [hlb]
 (refine Spec.hd (C:=T.cfg [] []) (rs:= [.t 2]) (T.aI _ _) Try.func15 rfl rfl Try.ntmps15 Try.results15 (by simp [AObj.isNest]) (by simp [AObj.isNest]) (by kernel_rfl) T.mixed fun X hX hP hC cz gV=> ?_)
 repeat' (first|refine Rn.p ?_|(with_reducible apply And.intro)|((first|(refine hK _ ?_;clear hK K)|with_reducible intro K hK|refine Rs.p ?_|((with_reducible first|apply oP|apply oQ);exact rfl)|refine ai hX hC hP (hO) rfl rfl rfl (by simp only [go_sem,simprocAttr,jK,oS]) rfl ?_);try simp only [go_sem,simprocAttr,jK,oS])|((with_reducible refine oD ?_ ?_);kernel_rfl)|((with_reducible intro h);try simp only [go_sem,simprocAttr,jK,oS] at h)|omega|intro h)
theorem uU {g:Gr} (h:kM g=false):aQ g=true∧aW g=true∧g.es.length≤40∧g.n≤20:=by
 unfold kM at h
 rw [Bool.or_eq_false_iff,Bool.or_eq_false_iff,decide_eq_false_iff_not,decide_eq_false_iff_not,Bool.not_eq_false',Bool.and_eq_true] at h
 exact ⟨h.2.2.1,h.2.2.2,by omega,by omega⟩
end Go.Ab
end
section
namespace Go.Ab
open Go.Proofs
attribute [local congr] ACall.congr gd.congr Nx.congr
set_option maxRecDepth 20000
set_option maxHeartbeats 16000000
namespace UG
variable {G G':UG}
theorem Cn.grow (h:∀i u v,G.J i u v→G'.J i u v) {A:Nat→Prop} {x y:Nat} (hc:G.Cn A x y):G'.Cn A x y:=by
 induction hc with
 |refl h=>exact .refl h
 |step _ j a ih=>exact .step ih (h _ _ _ j) a
theorem Sm.grow (h:∀i u v,G.J i u v→G'.J i u v) {i k:Nat} (hs:G.Sm i k):G'.Sm i k:=by
 induction hs with
 |refl=>exact .refl
 |step _ r ih=>
  obtain ⟨v,a,b,h1,h2,h3⟩:=r
  exact .step ih ⟨v,a,b,h _ _ _ h1,h _ _ _ h2,h3.grow h⟩
end UG
def GB (g:Gr) (a b:Nat):Gr:=⟨g.n,g.es++ [((a:Int),(b:Int))]⟩
def wh (L:List (List Nat)) (i:Nat):Nat:=L.findIdx (fun b=>decide (i∈b))+1
def HB (M:Nat) (L:List (List Nat)) (P:List Nat):List Nat:=(List.range M).map fun i=>if i∈P then wh L i else 0
end Go.Ab
end
section
namespace Go.Ab
open Go.Proofs
attribute [local congr] ACall.congr gd.congr Nx.congr
set_option maxRecDepth 20000
set_option maxHeartbeats 16000000
def bZ (g:Gr) (b:List Nat):Gr:=⟨g.n,b.map fun i=>g.es.getD i (0,0)⟩
theorem wS {g:Gr} {b:List Nat} {j:Nat} (hj:j<b.length):(bZ g b).es.getD j (0,0)=g.es.getD (b.getD j 0) (0,0):=by
 show (b.map fun i=>g.es.getD i (0,0)).getD j (0,0)=_
 simp only [List.getD_eq_getElem?_getD,List.getElem?_map,List.getElem?_eq_getElem hj,Option.map_some,Option.getD_some]
theorem oz {g:Gr} (hm:aQ g=true) (Bc:g.es.length≤40) {b:List Nat} (hb:∀i∈b,i<g.es.length) (kO:b.length≤g.es.length):aQ (bZ g b)=true:=by
 have hn:=eo hm
 have hm':=hm
 unfold aQ at hm ⊢
 simp only [Bool.and_eq_true,decide_eq_true_eq,Bool.not_eq_true',List.any_eq_false] at hm ⊢
 refine ⟨⟨⟨hn.1,hn.2.1⟩, ?_⟩,fun e he=> ?_⟩
 ·show ((b.map fun i=>g.es.getD i (0,0)).length:Int)≤128
  rw [List.length_map];omega
 ·obtain ⟨i,hi,rfl⟩:=List.mem_map.1 he
  have h1:iX (bZ g b) (g.es.getD i (0,0))=iX g (g.es.getD i (0,0)):=rfl
  rw [h1]
  refine hm.2 _ ?_
  exact eR (0,0) (hb i hi)
theorem yB {g:Gr} {b:List Nat} {e y z:Nat} (he:e∈b) (h:(ug g).J e y z):∃j,(ug (bZ g b)).J j y z:=by
 obtain ⟨j,hj,rfl⟩:=List.mem_iff_getElem.1 he
 have hg:b.getD j 0=b[j]:=by rw [List.getD_eq_getElem?_getD,List.getElem?_eq_getElem hj];rfl
 have h1:=wS (g:=g) hj
 rw [hg] at h1
 have ht:tl (bZ g b) j=tl g b[j]:=congrArg Prod.fst h1
 have hh:hd (bZ g b) j=hd g b[j]:=congrArg Prod.snd h1
 refine ⟨j, ?_, ?_⟩
 ·show j<(b.map fun i=>g.es.getD i (0,0)).length
  rw [List.length_map];exact hj
 ·have h2:=h.2
  simp only [ug] at h2 ⊢
  rw [ht,hh]
  exact h2
def si (g:Gr) (b:List Nat):List Bool:=(List.range g.n.toNat).map fun v=>(ug g).bP b v
theorem iM {g:Gr} {b:List Nat} :(si g b).length=g.n.toNat:=by simp [si]
theorem yC {g:Gr} {b:List Nat} {v:Nat} (hv:v<g.n.toNat):(si g b).getD v false=(ug g).bP b v:=by
 simp [si,List.getD_eq_getElem?_getD,List.getElem?_range hv]
theorem uV {g:Gr} {b:List Nat} {j i u w:Nat} (hj:j<b.length) (hi:b.getD j 0=i) (hu:(ug g).T i=u) (hw:(ug g).H i=w) (hun:u<g.n.toNat) (hwn:w<g.n.toNat):((si g (b.take j)).set u true).set w true=si g (b.take (j+1)):=by
 refine List.ext_getElem? fun v=> ?_
 rw [List.getElem?_set,List.getElem?_set,List.length_set,iM]
 by_cases hv:v<g.n.toNat
 ·simp only [si,List.getElem?_map,List.getElem?_range hv,Option.map_some]
  have e:(ug g).bP (b.take (j+1)) v=((ug g).bP (b.take j) v||(decide (u=v)||decide (w=v))):=by
   unfold UG.bP
   rw [ja 0 hj,hi,hu,hw]
  rw [e]
  by_cases e1:w=v
  ·rw [if_pos e1,if_pos hwn,decide_eq_true e1];simp
  ·rw [if_neg e1,decide_eq_false e1]
   by_cases e2:u=v
   ·rw [if_pos e2,if_pos hun,decide_eq_true e2];simp
   ·rw [if_neg e2,decide_eq_false e2];simp
 ·rw [List.getElem?_eq_none (by rw [iM];omega),List.getElem?_eq_none (by rw [iM];omega)]
  rw [if_neg (by omega),if_neg (by omega)]
theorem uW {g:Gr} :List.replicate g.n.toNat [D.sc (.bool false)]=(si g []).map rB:=by
 refine List.ext_getElem? fun i=> ?_
 by_cases hi:i<g.n.toNat
 ·simp [si,hi,rB,List.getElem?_range hi,UG.bP]
 ·rw [List.getElem?_eq_none (by simp;omega),List.getElem?_eq_none (by simp [si];omega)]
def oI (g:Gr) (b:List Nat) (gone:Int) (v:Nat):Bool:= !(ug g).bP b v||decide ((v:Int)=gone)
def cH (g:Gr) (b:List Nat) (gone:Int) (k:Nat):List Bool:=(List.range g.n.toNat).map fun v=>if v<k then oI g b gone v else false
theorem eV {g:Gr} {b:List Nat} {q:Int} {k:Nat} :(cH g b q k).length=g.n.toNat:=by simp [cH]
theorem jG {g:Gr} {b:List Nat} {q:Int} {v:Nat} (hv:v<g.n.toNat):(cH g b q g.n.toNat).getD v false=oI g b q v:=by
 simp only [cH,List.getD_eq_getElem?_getD,List.getElem?_map,List.getElem?_range hv,Option.map_some,Option.getD_some]
 rw [if_pos hv]
theorem sj {g:Gr} {b:List Nat} {q:Int} {k:Nat} (hk:k<g.n.toNat):(cH g b q k).set k (oI g b q k)=cH g b q (k+1):=by
 refine List.ext_getElem? fun v=> ?_
 rw [List.getElem?_set,eV]
 by_cases hv:v<g.n.toNat
 ·simp only [cH,List.getElem?_map,List.getElem?_range hv,Option.map_some]
  by_cases e:k=v
  ·subst e;rw [if_pos rfl,if_pos hk,if_pos (by omega)]
  ·rw [if_neg e]
   by_cases h:v<k
   ·rw [if_pos h,if_pos (by omega)]
   ·rw [if_neg h,if_neg (by omega)]
 ·rw [List.getElem?_eq_none (by rw [eV];omega),List.getElem?_eq_none (by rw [eV];omega)]
  split
  ·omega
  ·rfl
theorem lT {g:Gr} {b:List Nat} {q:Int} :List.replicate g.n.toNat [D.sc (.bool false)]=(cH g b q 0).map rB:=by
 refine List.ext_getElem? fun i=> ?_
 by_cases hi:i<g.n.toNat
 ·simp [cH,hi,rB,List.getElem?_range hi]
 ·rw [List.getElem?_eq_none (by simp;omega),List.getElem?_eq_none (by simp [cH];omega)]
theorem Be {g:Gr} (hm:aQ g=true) (hl:aW g=true) (Bc:g.es.length≤40) {b:List Nat} (hb:b∈(ug g).aM) (q:Int) {u w:Nat} (hu:u<g.n.toNat) (hw:w<g.n.toNat) (ou:oI g b q u=false) (ow:oI g b q w=false):
 dY (bZ g b) (cH g b q g.n.toNat) u=dY (bZ g b) (cH g b q g.n.toNat) w:=by
 have hG:=lN hm hl
 obtain ⟨b7,gW⟩:=mP g b hb
 have jq:=oz hm Bc b7 gW
 have jy:(bZ g b).n=g.n:=rfl
 have o1:=(jG (g:=g) (b:=b) (q:=q) hu).trans ou
 have o2:=(jG (g:=g) (b:=b) (q:=q) hw).trans ow
 rw [wm jq (by rw [jy];exact hu) (by rw [jy];exact hw) o1 o2,AU o1]
 unfold oI at ou ow
 rw [Bool.or_eq_false_iff,Bool.not_eq_false',decide_eq_false_iff_not] at ou ow
 obtain ⟨i,hi,a,ES⟩:=(UG.dO fun i hi=>UG.dW hb hi).1 ou.1
 obtain ⟨k,hk,c,xm⟩:=(UG.dO fun i hi=>UG.dW hb hi).1 ow.1
 obtain ⟨j,hj,_,hj2⟩:=(UG.iE hb).1
 have hS:(ug g).Sm i k:=((hj2 i).1 hi).symm.trans ((hj2 k).1 hk)
 have key:∀gone:Nat,u≠gone→w≠gone→(∀v,v<g.n.toNat→v≠gone→(v:Int)≠q)→(ug (bZ g b)).Cn (fun v=>(cH g b q g.n.toNat).getD v false=false) u w:=by
  intro gone h1 h2 h3
  have hc:=UG.lK hG ES.1 hS ⟨a,ES⟩ ⟨c,xm⟩ h1 h2
  clear ow o2 hw xm hk hS h2
  induction hc with
  |refl _=>exact .refl o1
  | @step y z e _ hd DY hz ih=>
    have BQ:=(DY.lt hG).2.1
    have ET:e∈b:=(hj2 e).2 (((hj2 i).1 hi).trans hd)
    obtain ⟨j',hj'⟩:=yB ET DY
    refine .step ih hj' ?_
    rw [jG BQ]
    unfold oI
    rw [(UG.dO fun i hi=>UG.dW hb hi).2 ⟨e,ET,y,DY.symm⟩,decide_eq_false (h3 z BQ hz)]
    rfl
 by_cases hq:0≤q∧q<g.n
 ·exact key q.toNat (by omega) (by omega) fun v hv hne=>by omega
 ·exact key g.n.toNat (by omega) (by omega) fun v hv hne=>by omega
def o5 (P:List Int) (O:List Bool):Nat→Int
 |0=> -1
 |k+1=>if O.getD k false=true then o5 P O k else if o5 P O k<0 then P.getD k 0 else o5 P O k
theorem uX {P:List Int} {O:List Bool} {n:Nat} (hp:∀v,v<n→O.getD v false=false→0≤P.getD v 0) (hs:∀u w,u<n→w<n→O.getD u false=false→O.getD w false=false→P.getD u 0=P.getD w 0):∀ {k:Nat},k≤n→(o5 P O k= -1∧∀v,v<k→O.getD v false=true)∨∃v,v<k∧O.getD v false=false∧o5 P O k=P.getD v 0
 |0,_=> .inl ⟨rfl,fun v hv=>by omega⟩
 |k+1,hk=>by
  have ih:=uX hp hs (k:=k) (by omega)
  rw [o5]
  cases ho:O.getD k false with
  |true=>
   rw [if_pos rfl]
   rcases ih with ⟨h1,h2⟩|⟨v,h1,h2,h3⟩
   ·refine .inl ⟨h1,fun v hv=> ?_⟩
    by_cases e:v=k
    ·rw [e];exact ho
    ·exact h2 v (by omega)
   ·exact .inr ⟨v,by omega,h2,h3⟩
  |false=>
   rw [if_neg (by simp)]
   rcases ih with ⟨h1,h2⟩|⟨v,h1,h2,h3⟩
   ·rw [if_pos (by omega)]
    exact .inr ⟨k,by omega,ho,rfl⟩
   ·have:=hp v (by omega) h2
    rw [if_neg (by omega)]
    exact .inr ⟨v,by omega,h2,h3⟩
theorem yD {P:List Int} {O:List Bool} {n:Nat} (hp:∀v,v<n→O.getD v false=false→0≤P.getD v 0) (hs:∀u w,u<n→w<n→O.getD u false=false→O.getD w false=false→P.getD u 0=P.getD w 0) {k:Nat} (hk:k<n) (ho:O.getD k false=false):o5 P O (k+1)=P.getD k 0:=by
 rcases uX hp hs (k:=k+1) (by omega) with ⟨_,h2⟩|⟨v,h1,h2,h3⟩
 ·rw [h2 k (by omega)] at ho;cases ho
 ·rw [h3];exact hs v k (by omega) hk h2 ho
theorem sk {g:Gr} (hm:aQ g=true) {wb:List Bool} {x:Nat} (hx:x<g.n.toNat) (hw:wb.getD x false=false):0≤dY g wb x:=by
 have h:=kF (seen:=iJ g wb x) (w:=wb.getD x false) (n:=g.n.toNat) (k:=g.n.toNat) (Nat.le_refl _)
 rw [hw] at h
 unfold dY
 rw [hw]
 rcases h with ⟨_,h2⟩|⟨_,v,h1,_⟩
 ·rcases h2 with h2|h2
  ·cases h2
  ·have:=h2 x (by omega) hx
   rw [(gv hm hx x).2 .refl] at this
   cases this
 ·rw [h1];omega
def o6 (m:Nat) (P:List Nat):List Bool:=(List.range m).map fun i=>decide (i∈P)
theorem iN {m:Nat} {P:List Nat} :(o6 m P).length=m:=by simp [o6]
theorem uY {m:Nat} {P:List Nat} {i:Nat} (hi:i<m):(o6 m P).getD i false=decide (i∈P):=by
 simp [o6,List.getD_eq_getElem?_getD,List.getElem?_range hi]
theorem uZ {m:Nat} {P:List Nat} {i:Nat} :(o6 m P).set i true=o6 m (P++ [i]):=by
 refine List.ext_getElem? fun j=> ?_
 rw [List.getElem?_set,iN]
 by_cases hj:j<m
 ·simp only [o6,List.getElem?_map,List.getElem?_range hj,Option.map_some]
  by_cases e:i=j
  ·subst e
   rw [if_pos rfl,if_pos hj]
   exact congrArg some (decide_eq_true (by simp)).symm
  ·rw [if_neg e]
   congr 1
   rw [decide_eq_decide,List.mem_append,List.mem_singleton]
   exact ⟨.inl,fun h=>h.elim id fun h=>absurd h.symm e⟩
 ·rw [List.getElem?_eq_none (by rw [iN];omega),List.getElem?_eq_none (by rw [iN];omega)]
  split
  ·rename_i e
   rw [if_neg (by rw [e];omega)]
  ·rfl
theorem u0 {m:Nat} :List.replicate m [D.sc (.bool false)]=(o6 m []).map rB:=by
 refine List.ext_getElem? fun i=> ?_
 by_cases hi:i<m
 ·simp [o6,hi,rB,List.getElem?_range hi]
 ·rw [List.getElem?_eq_none (by simp;omega),List.getElem?_eq_none (by simp [o6];omega)]
structure DZ (p:Prop):Prop where
 out:p
theorem u5 {q p:Prop} (f:DZ q→p) (h:q):p:=f ⟨h⟩
theorem jt (g:Gr) (hlen:g.es.length≤9223372036854775807):Spec Try.prog 4 (Args [eG g]) [] (eB true) []:=by
 have EU:=mQ
 have hL:=qi g hlen
 cases hlb:kM g with
 |true=>
  rw [hlb] at hL
  (refine Spec.hd (C:=T.cfg [] []) (rs:= [.t 2]) (T.aI _ _) Try.func4 rfl rfl Try.ntmps4 Try.results4 (by simp [AObj.isNest]) (by simp [AObj.isNest]) (by kernel_rfl) T.mixed fun X hX hP hC cz gV=> ?_)
  repeat' (first|refine Rn.p ?_|(with_reducible apply And.intro)|((first|(refine hK _ ?_;clear hK K)|with_reducible intro K hK|refine Rs.p ?_|((with_reducible first|apply oP|apply oQ);exact rfl)|refine ai hX hC hP (EU) rfl rfl rfl (by simp only [go_sem,simprocAttr]) rfl ?_|refine ai hX hC hP (hL) rfl rfl rfl (by simp only [go_sem,simprocAttr]) rfl ?_);try simp only [go_sem,simprocAttr])|((with_reducible refine oD ?_ ?_);kernel_rfl)|((with_reducible intro h);try simp only [go_sem,simprocAttr] at h)|omega|intro h)
 |false=>
 rw [hlb] at hL
 obtain ⟨hm,hl,Bc,BF⟩:=uU hlb
 have hn:=eo hm
 have hG:=lN hm hl
 have vl:=gh g hlen
 rw [jF (by rw [hm,hl];rfl)] at vl
 have BH:=(UG.gH hG dr qN).1
 have bU:(ug g).aM.flatten.Nodup:=BH.flatten.nodup_iff.1 (UG.gr hG dr).1
 have hall:∀e,e∈(ug g).aM.flatten↔e<g.es.length:=fun e=>by
  rw [← BH.flatten.mem_iff,(UG.gr hG dr).2.1];exact Iff.rfl
 have EN:(ug g).aM.length≤g.es.length:=kH
 have Ao:=mP g
 have hh:=fun b hb q u w h1 h2 h3 h4=>Be hm hl Bc (b:=b) hb q (u:=u) (w:=w) h1 h2 h3 h4
 generalize (ug g).aM=L at*
 (refine Spec.hd (C:=T.cfg [25,38,107] []) (rs:= [.t 2]) (T.aI _ _) Try.func4 rfl rfl Try.ntmps4 Try.results4 (by simp [AObj.isNest]) (by simp [AObj.isNest]) (by kernel_rfl) T.mixed fun X hX hP hC cz gV=> ?_)
 repeat' (first|refine Rn.p ?_|(with_reducible apply And.intro)|((first|(refine hK _ ?_;clear hK K)|with_reducible intro K hK|refine Rs.p ?_|((with_reducible first|apply oP|apply oQ);exact rfl)|refine ai hX hC hP (EU) rfl rfl rfl (by simp only [go_sem,simprocAttr]) rfl ?_|refine ai hX hC hP (hL) rfl rfl rfl (by simp only [go_sem,simprocAttr]) rfl ?_|refine ai hX hC hP (vl) rfl rfl rfl (by simp only [go_sem,simprocAttr]) rfl ?_);try simp only [go_sem,simprocAttr])|((with_reducible refine oD ?_ ?_);kernel_rfl)|((with_reducible intro h);try simp only [go_sem,simprocAttr] at h)|omega|intro h)
 refine au (fun k:Nat=>k≤L.length) (fun k=>⟨[(1, .ptr 1 0),(3, .ref 25),(27, .d (sNL L)),(28,eN L.length),(29,eN k)], [(25, .own 4 1 ((o6 g.es.length (L.take k).flatten).map rB)),(1, .box [eN g.n, .d (sE g.es)])]⟩) (fun k=>L.length - k) 0 (Nat.zero_le _) ?_ ?_
 ·rw [List.take_zero,List.flatten_nil, ← u0]
  refine Le.of ?_ ?_<;>simp [go_sem,simprocAttr]
 rintro k hk
 rcases Nat.lt_or_ge k L.length with hlt|hge
 rotate_left
 ·have hb:decide ((k:Int)<(L.length:Int))=false:=decide_eq_false (by omega)
  obtain rfl:k=L.length:=by omega
  rw [List.take_length]
  have hval:∀i,i<g.es.length→(o6 g.es.length L.flatten).getD i false=true:=fun i hi=>by
   rw [uY hi];exact decide_eq_true ((hall i).2 hi)
  have hml:=iN (m:=g.es.length) (P:=L.flatten)
  generalize o6 g.es.length L.flatten=R at hval hml ⊢
  repeat' (first|refine Rn.p ?_|(with_reducible apply And.intro)|((first|(refine hK _ ?_;clear hK K)|with_reducible intro K hK|refine Rs.p ?_|((with_reducible first|apply oP|apply oQ);exact rfl));try simp only [go_sem,simprocAttr,hb])|((with_reducible refine oD ?_ ?_);kernel_rfl)|((with_reducible intro h);try simp only [go_sem,simprocAttr,hb] at h)|omega|intro h)
  clear hb
  refine au (fun k:Nat=>k≤g.es.length) (fun k=>⟨[(153, .ref 25),(154,eN g.es.length),(155,eN k)], [(25, .own 4 1 (R.map rB))]⟩) (fun k=>g.es.length - k) 0 (Nat.zero_le _) ?_ ?_
  ·refine Le.of ?_ ?_<;>simp [go_sem,simprocAttr,hml]
  rintro i hi
  rcases Nat.lt_or_ge i g.es.length with hlt|AT
  ·have hb:decide ((i:Int)<(g.es.length:Int))=true:=decide_eq_true (by omega)
   have hv:=hval i hlt
   repeat' (first|refine Rn.p ?_|(with_reducible apply And.intro)|((first|(refine hK _ ?_;clear hK K)|with_reducible intro K hK|refine Rs.p ?_|((with_reducible first|apply oP|apply oQ);exact rfl));try simp only [go_sem,simprocAttr,hb,hv,hml])|((with_reducible refine oD ?_ ?_);kernel_rfl)|((with_reducible intro h);try simp only [go_sem,simprocAttr,hb,hv,hml] at h)|omega|intro h)
   refine ⟨i+1,by omega, ?_,by omega⟩
   refine Le.of ?_ ?_<;>simp [go_sem,simprocAttr,hb,hv,hml]
  ·have hb:decide ((i:Int)<(g.es.length:Int))=false:=decide_eq_false (by omega)
   repeat' (first|refine Rn.p ?_|(with_reducible apply And.intro)|((first|(refine hK _ ?_;clear hK K)|with_reducible intro K hK|refine Rs.p ?_|((with_reducible first|apply oP|apply oQ);exact rfl));try simp only [go_sem,simprocAttr,hb])|((with_reducible refine oD ?_ ?_);kernel_rfl)|((with_reducible intro h);try simp only [go_sem,simprocAttr,hb] at h)|omega|intro h)
 have hb:decide ((k:Int)<(L.length:Int))=true:=decide_eq_true (by omega)
 obtain ⟨b,mT⟩:∃b,L.getD k []=b:=⟨_,rfl⟩
 have A6:b∈L:=by rw [← mT];exact eR [] hlt
 obtain ⟨EV,kO⟩:=Ao b A6
 have jq:=oz hm Bc EV kO
 have GC:=hh b A6
 have BS:(L.take k).flatten=(L.take k).flatten++b.take 0:=by simp
 have EW:(L.take (k+1)).flatten=(L.take k).flatten++b:=by
  rw [List.take_add_one,List.getElem?_eq_getElem hlt,Option.toList_some,List.flatten_append]
  rw [List.getD_eq_getElem?_getD,List.getElem?_eq_getElem hlt] at mT
  rw [← mT];simp
 rw [BS]
 repeat' (first|refine Rn.p ?_|(with_reducible apply And.intro)|((first|(refine hK _ ?_;clear hK K)|with_reducible intro K hK|refine Rs.p ?_|((with_reducible first|apply oP|apply oQ);exact rfl));try simp only [go_sem,simprocAttr,hb,mT])|((with_reducible refine oD ?_ ?_);kernel_rfl)|((with_reducible intro h);try simp only [go_sem,simprocAttr,hb,mT] at h)|omega|intro h)
 clear hb
 (refine kq hX 6 1 201 (.tip 42 2 []) rfl rfl rfl (by simp only [go_sem,simprocAttr]) (by decide) (by simp [go_sem,simprocAttr]) ⟨42,2,by decide, .inr rfl⟩ ?_;simp only [List.set_cons_zero,List.set_cons_succ,go_sem,simprocAttr])
 refine au (fun j:Nat=>j≤b.length) (fun j=>⟨[(1, .ptr 1 0),(3, .ref 25),(27, .d (sNL L)),(28,eN L.length),(29,eN k),(6, .ptr 6 0),(7, .ref 38),(39, .d (sN b)),(40,eN b.length),(41,eN j)], [(25, .own 4 1 ((o6 g.es.length ((L.take k).flatten++b.take j)).map rB)),(38, .own 4 1 ((si g (b.take j)).map rB)),(6, .box [eN g.n, .ref 201]),(201, .tip 42 2 ((bZ g (b.take j)).es.map rE)),(1, .box [eN g.n, .d (sE g.es)])]⟩) (fun j=>b.length - j) 0 (Nat.zero_le _) ?_ ?_
 ·rw [← BS,List.take_zero, ← uW]
  refine Le.of ?_ ?_<;>simp [go_sem,simprocAttr,bZ]
 rintro j hj
 rcases Nat.lt_or_ge j b.length with hlj|Gx
 ·have hb:decide ((j:Int)<(b.length:Int))=true:=decide_eq_true (by omega)
  obtain ⟨i,hi⟩:∃i,b.getD j 0=i:=⟨_,rfl⟩
  have hib:i∈b:=by rw [← hi];exact eR 0 hlj
  have him:=EV i hib
  obtain ⟨me,oT⟩:=fm hm him
  obtain ⟨u,hu⟩:∃u:Nat,(g.es.getD i (0,0)).1=u:=⟨(g.es.getD i (0,0)).1.toNat,by omega⟩
  obtain ⟨w,hw⟩:∃v:Nat,(g.es.getD i (0,0)).2=v:=⟨(g.es.getD i (0,0)).2.toNat,by omega⟩
  have gU:(ug g).T i=u:=by show ((g.es.getD i (0,0)).1).toNat=u;rw [hu];rfl
  have hhi:(ug g).H i=w:=by show ((g.es.getD i (0,0)).2).toNat=w;rw [hw];rfl
  have hun:u<g.n.toNat:=by omega
  have hwn:w<g.n.toNat:=by omega
  have hin:=uV (g:=g) hlj hi gU hhi hun hwn
  have hil:=iM (g:=g) (b:=b.take j)
  have EX:(L.take k).flatten++b.take (j+1)=((L.take k).flatten++b.take j)++ [i]:=by
   rw [List.take_add_one,List.getElem?_eq_getElem hlj,Option.toList_some,List.append_assoc]
   rw [List.getD_eq_getElem?_getD,List.getElem?_eq_getElem hlj] at hi
   rw [← hi];rfl
  have hni:i∉(L.take k).flatten++b.take j:=fun h=>by
   have hsub:(((L.take k).flatten++b.take j)++ [i]).Sublist L.flatten:=by
    rw [← EX]
    refine List.Sublist.trans (List.Sublist.append_left (List.take_sublist (j+1) b) _) ?_
    rw [← EW]
    have:=List.take_append_drop (k+1) L
    have h2:L.flatten=(L.take (k+1)).flatten++(L.drop (k+1)).flatten:=by
     rw [← List.flatten_append,this]
    rw [h2]
    exact List.sublist_append_left _ _
   have h3:=bU.sublist hsub
   rw [List.nodup_append] at h3
   exact h3.2.2 i h i (by simp) rfl
  have jy:=uZ (m:=g.es.length) (P:=(L.take k).flatten++b.take j) (i:=i)
  have y8:=uY (P:=(L.take k).flatten++b.take j) him
  rw [decide_eq_false hni] at y8
  have jQ:=iN (m:=g.es.length) (P:=(L.take k).flatten++b.take j)
  rw [← EX] at jy
  have pH:(bZ g (b.take (j+1))).es.map rE=(bZ g (b.take j)).es.map rE++ [[.sc (.int .i64 (u:Int)), .sc (.int .i64 (w:Int))]]:=by
   show ((b.take (j+1)).map fun i=>g.es.getD i (0,0)).map rE=((b.take j).map fun i=>g.es.getD i (0,0)).map rE++_
   rw [List.take_add_one,List.getElem?_eq_getElem hlj,Option.toList_some,List.map_append,List.map_append]
   rw [List.getD_eq_getElem?_getD,List.getElem?_eq_getElem hlj,Option.getD_some] at hi
   rw [hi]
   have GD:rE (g.es.getD i (0,0))= [.sc (.int .i64 (u:Int)), .sc (.int .i64 (w:Int))]:=by unfold rE;rw [hu,hw]
   rw [← GD]
   rfl
  have hel:((bZ g (b.take j)).es.map rE).length≤1000:=by
   show (((b.take j).map fun i=>g.es.getD i (0,0)).map rE).length≤1000
   rw [List.length_map,List.length_map,List.length_take];omega
  generalize (bZ g (b.take j)).es.map rE=E0 at pH hel ⊢
  generalize GF:(bZ g (b.take (j+1))).es.map rE=E1 at pH
  generalize o6 g.es.length ((L.take k).flatten++b.take j)=S0 at jy y8 jQ ⊢
  generalize si g (b.take j)=I0 at hin hil ⊢
  have b7:decide ((i:Int)<0)=false:=decide_eq_false (by omega)
  have gW:decide ((g.es.length:Int)≤(i:Int))=false:=decide_eq_false (by omega)
  repeat' (first|(show bA _ (.region 19 _ _) _ _;(refine cR hX 6 1 71 201 rfl rfl rfl (by first|exact .inl rfl|exact .inr rfl) (by decide) (by decide) ?_;simp only [List.set_cons_zero,List.set_cons_succ,go_sem,simprocAttr,hb,hi,hu,hw,b7,gW,y8,jQ,hil,bJ]))|refine Rn.p ?_|(with_reducible apply And.intro)|((first|(refine hK _ ?_;clear hK K)|with_reducible intro K hK|refine Rs.p ?_|((with_reducible first|apply oP|apply oQ);exact rfl));try simp only [go_sem,simprocAttr,hb,hi,hu,hw,b7,gW,y8,jQ,hil,bJ])|((with_reducible refine oD ?_ ?_);kernel_rfl)|((with_reducible intro h);try simp only [go_sem,simprocAttr,hb,hi,hu,hw,b7,gW,y8,jQ,hil,bJ] at h)|omega|intro h)
  refine ⟨j+1,by omega, ?_,by omega⟩
  rw [GF,pH, ← jy, ← hin]
  refine Le.of ?_ ?_<;>simp [go_sem,simprocAttr,hb,hi,hu,hw,b7,gW,y8,jQ,hil,bJ]
 have hb:decide ((j:Int)<(b.length:Int))=false:=decide_eq_false (by omega)
 obtain rfl:j=b.length:=by omega
 rw [List.take_length, ← EW]
 repeat' (first|refine Rn.p ?_|(with_reducible apply And.intro)|((first|(refine hK _ ?_;clear hK K)|with_reducible intro K hK|refine Rs.p ?_|((with_reducible first|apply oP|apply oQ);exact rfl));try simp only [go_sem,simprocAttr,hb])|((with_reducible refine oD ?_ ?_);kernel_rfl)|((with_reducible intro h);try simp only [go_sem,simprocAttr,hb] at h)|omega|intro h)
 clear hb
 have hil:=iM (g:=g) (b:=b)
 have EY:=fun v hv=>yC (g:=g) (b:=b) (v:=v) hv
 generalize GG:o6 g.es.length (L.take (k+1)).flatten=S1
 generalize y6:si g b=I1 at hil EY ⊢
 have HC:(bZ g b).es.map rE=(bZ g b).es.map rE:=rfl
 refine au (fun q:Nat=>q≤g.n.toNat+1) (fun q=>⟨[(1, .ptr 1 0),(3, .ref 25),(27, .d (sNL L)),(28,eN L.length),(29,eN k),(6, .ptr 6 0),(7, .ref 38),(10,eN ((q:Int) - 1))], [(25, .own 4 1 (S1.map rB)),(38, .own 4 1 (I1.map rB)),(6, .box [eN g.n, .ref 201]),(201, .tip 42 2 ((bZ g b).es.map rE)),(1, .box [eN g.n, .d (sE g.es)])]⟩) (fun q=>g.n.toNat+1 - q) 0 (Nat.zero_le _) ?_ ?_
 ·refine Le.of ?_ ?_<;>simp [go_sem,simprocAttr]
 rintro q hq
 obtain ⟨gone,sJ⟩:∃gone:Int,(q:Int) - 1=gone:=⟨_,rfl⟩
 have hg1:gone+1=((q+1:Nat):Int) - 1:=by omega
 rcases Nat.lt_or_ge g.n.toNat q with oO|oO
 ·have hb:decide (gone<g.n)=false:=decide_eq_false (by omega)
  repeat' (first|refine Rn.p ?_|(with_reducible apply And.intro)|((first|(refine hK _ ?_;clear hK K)|with_reducible intro K hK|refine Rs.p ?_|((with_reducible first|apply oP|apply oQ);exact rfl));try simp only [go_sem,simprocAttr,sJ,hb])|((with_reducible refine oD ?_ ?_);kernel_rfl)|((with_reducible intro h);try simp only [go_sem,simprocAttr,sJ,hb] at h)|omega|intro h)
  refine ⟨k+1,by omega, ?_,by omega⟩
  rw [GG]
  refine Le.of ?_ ?_<;>simp [go_sem,simprocAttr,sJ,hb]
 have hb:decide (gone<g.n)=true:=decide_eq_true (by omega)
 have Bf:(decide (0≤gone)=false)∨(∃v:Nat,gone=v∧v<g.n.toNat∧decide (0≤gone)=true):=by
  by_cases h:0≤gone
  ·exact .inr ⟨gone.toNat,by omega,by omega,decide_eq_true h⟩
  ·exact .inl (decide_eq_false h)
 by_cases hsk:∃v:Nat,gone=v∧v<g.n.toNat∧I1.getD v false=false
 ·obtain ⟨v,rfl,AQ,yE⟩:=hsk
  have vS:decide (0≤(v:Int))=true:=decide_eq_true (by omega)
  repeat' (first|refine Rn.p ?_|(with_reducible apply And.intro)|((first|(refine hK _ ?_;clear hK K)|with_reducible intro K hK|refine Rs.p ?_|((with_reducible first|apply oP|apply oQ);exact rfl));try simp only [go_sem,simprocAttr,sJ,hb,vS,yE,hil,hg1])|((with_reducible refine oD ?_ ?_);kernel_rfl)|((with_reducible intro h);try simp only [go_sem,simprocAttr,sJ,hb,vS,yE,hil,hg1] at h)|omega|intro h)
  refine ⟨q+1,by omega, ?_,by omega⟩
  refine Le.of ?_ ?_<;>simp [go_sem,simprocAttr,sJ,hb,vS,yE,hil,hg1]
 have GH:=rV (bZ g b) jq (cH g b gone g.n.toNat) eV
 have jy:(bZ g b).n=g.n:=rfl
 apply u5
 ·intro hB
  rcases Bf with yF|⟨v,EZ,AQ,yF⟩
  ·
   repeat' (first|refine Rn.p ?_|(with_reducible apply And.intro)|((first|(refine hK _ ?_;clear hK K)|with_reducible intro K hK|refine Rs.p ?_|((with_reducible first|apply oP|apply oQ);exact rfl));try simp only [go_sem,simprocAttr,sJ,hb,yF,List.length_replicate])|((with_reducible refine oD ?_ ?_);kernel_rfl)|((with_reducible intro h);try simp only [go_sem,simprocAttr,sJ,hb,yF,List.length_replicate] at h)|omega|intro h)
   refine au (fun v:Nat=>v≤g.n.toNat) (fun v=>⟨[(1, .ptr 1 0),(3, .ref 25),(27, .d (sNL L)),(28,eN L.length),(29,eN k),(6, .ptr 6 0),(7, .ref 38),(10,eN gone),(11, .ref 107),(109,eN g.n.toNat),(110,eN v)], [(107, .own 4 1 ((cH g b gone v).map rB)),(25, .own 4 1 (S1.map rB)),(38, .own 4 1 (I1.map rB)),(6, .box [eN g.n, .ref 201]),(201, .tip 42 2 ((bZ g b).es.map rE)),(1, .box [eN g.n, .d (sE g.es)])]⟩) (fun v=>g.n.toNat - v) 0 (Nat.zero_le _) ?_ hB.out
   rw [← lT]
   refine Le.of ?_ ?_<;>simp [go_sem,simprocAttr,sJ,hb,yF,List.length_replicate]
  ·have yE:I1.getD gone.toNat false=true:=by
    have e:gone.toNat=v:=by omega
    rw [e]
    cases hI:I1.getD v false with
    |true=>rfl
    |false=>exact absurd ⟨v,EZ,AQ,hI⟩ hsk
   repeat' (first|refine Rn.p ?_|(with_reducible apply And.intro)|((first|(refine hK _ ?_;clear hK K)|with_reducible intro K hK|refine Rs.p ?_|((with_reducible first|apply oP|apply oQ);exact rfl));try simp only [go_sem,simprocAttr,sJ,hb,yF,yE,hil,List.length_replicate])|((with_reducible refine oD ?_ ?_);kernel_rfl)|((with_reducible intro h);try simp only [go_sem,simprocAttr,sJ,hb,yF,yE,hil,List.length_replicate] at h)|omega|intro h)
   refine au (fun v:Nat=>v≤g.n.toNat) (fun v=>⟨[(1, .ptr 1 0),(3, .ref 25),(27, .d (sNL L)),(28,eN L.length),(29,eN k),(6, .ptr 6 0),(7, .ref 38),(10,eN gone),(11, .ref 107),(109,eN g.n.toNat),(110,eN v)], [(107, .own 4 1 ((cH g b gone v).map rB)),(25, .own 4 1 (S1.map rB)),(38, .own 4 1 (I1.map rB)),(6, .box [eN g.n, .ref 201]),(201, .tip 42 2 ((bZ g b).es.map rE)),(1, .box [eN g.n, .d (sE g.es)])]⟩) (fun v=>g.n.toNat - v) 0 (Nat.zero_le _) ?_ hB.out
   rw [← lT]
   refine Le.of ?_ ?_<;>simp [go_sem,simprocAttr,sJ,hb,yF,yE,hil,List.length_replicate]
 clear Bf hsk
 rintro v hv
 rcases Nat.lt_or_ge v g.n.toNat with hlv|EZ
 ·have hb:decide ((v:Int)<(g.n.toNat:Int))=true:=decide_eq_true (by omega)
  have cT:=sj (g:=g) (b:=b) (q:=gone) hlv
  have kS:=eV (g:=g) (b:=b) (q:=gone) (k:=v)
  have hiv:=EY v hlv
  have nc:oI g b gone v=(!(I1.getD v false)||decide ((v:Int)=gone)):=by rw [hiv];rfl
  rw [nc] at cT
  generalize cH g b gone v=O0 at cT kS ⊢
  generalize D2:decide ((v:Int)=gone)=q2 at cT
  generalize D3:I1.getD v false=q1 at cT
  cases q1<;>cases q2
  all_goals (repeat' (first|refine Rn.p ?_|(with_reducible apply And.intro)|((first|(refine hK _ ?_;clear hK K)|with_reducible intro K hK|refine Rs.p ?_|((with_reducible first|apply oP|apply oQ);exact rfl));try simp only [go_sem,simprocAttr,hb,kS,hil,D3,D2,bJ])|((with_reducible refine oD ?_ ?_);kernel_rfl)|((with_reducible intro h);try simp only [go_sem,simprocAttr,hb,kS,hil,D3,D2,bJ] at h)|omega|intro h))
  all_goals (refine ⟨v+1,by omega, ?_,by omega⟩)
  all_goals (rw [← cT])
  all_goals (refine Le.of ?_ ?_<;>simp [go_sem,simprocAttr,hb,kS,hil,D3,D2,bJ])
 have hb:decide ((v:Int)<(g.n.toNat:Int))=false:=decide_eq_false (by omega)
 obtain rfl:v=g.n.toNat:=by omega
 have kS:=eV (g:=g) (b:=b) (q:=gone) (k:=g.n.toNat)
 have D4:=fun v hv=>jG (g:=g) (b:=b) (q:=gone) (v:=v) hv
 have hpa:∀v,v<g.n.toNat→(fZ (bZ g b) (cH g b gone g.n.toNat)).getD v 0=dY (bZ g b) (cH g b gone g.n.toNat) v:=fun v hv=>uJ (g:=bZ g b) hv
 have gl:(fZ (bZ g b) (cH g b gone g.n.toNat)).length=g.n.toNat:=by simp [fZ,jy]
 have pE:∀v,v<g.n.toNat→(cH g b gone g.n.toNat).getD v false=false→0≤(fZ (bZ g b) (cH g b gone g.n.toNat)).getD v 0:=fun v hv ho=>by
  rw [hpa v hv];exact sk jq hv ho
 have hps:∀u w,u<g.n.toNat→w<g.n.toNat→(cH g b gone g.n.toNat).getD u false=false→(cH g b gone g.n.toNat).getD w false=false→(fZ (bZ g b) (cH g b gone g.n.toNat)).getD u 0=(fZ (bZ g b) (cH g b gone g.n.toNat)).getD w 0:=fun u w hu hw h1 h2=>by
  rw [hpa u hu,hpa w hw]
  exact GC gone u w hu hw (by rw [← D4 u hu];exact h1) (by rw [← D4 w hw];exact h2)
 clear hpa D4
 generalize fZ (bZ g b) (cH g b gone g.n.toNat)=PL at*
 generalize cH g b gone g.n.toNat=O at*
 repeat' (first|(show bA _ (.seq (.region 30 _ _) _) _ _;(refine mB hX 107 rfl (.inl rfl) ?_;simp only [go_sem,simprocAttr,hb,jy]))|refine Rn.p ?_|(with_reducible apply And.intro)|((first|(refine hK _ ?_;clear hK K)|with_reducible intro K hK|refine Rs.p ?_|((with_reducible first|apply oP|apply oQ);exact rfl)|(refine fk hX hC hP (GH) rfl rfl rfl ?_ ?_ rfl ?_;iterate 2 (focus (simp only [go_sem,simprocAttr,hb,jy];done))));try simp only [go_sem,simprocAttr,hb,jy])|((with_reducible refine oD ?_ ?_);kernel_rfl)|((with_reducible intro h);try simp only [go_sem,simprocAttr,hb,jy] at h)|omega|intro h)
 clear hb
 refine au (fun v:Nat=>v≤g.n.toNat) (fun v=>⟨[(1, .ptr 1 0),(3, .ref 25),(27, .d (sNL L)),(28,eN L.length),(29,eN k),(6, .ptr 6 0),(7, .ref 38),(10,eN gone),(11, .d (sB O)),(13, .d (sI PL)),(14,eN (o5 PL O v)),(131,eN g.n.toNat),(132,eN v)], [(25, .own 4 1 (S1.map rB)),(38, .own 4 1 (I1.map rB)),(6, .box [eN g.n, .ref 201]),(201, .tip 42 2 ((bZ g b).es.map rE)),(1, .box [eN g.n, .d (sE g.es)])]⟩) (fun v=>g.n.toNat - v) 0 (Nat.zero_le _) ?_ ?_
 ·refine Le.of ?_ ?_<;>simp [go_sem,simprocAttr,o5,kS]
 rintro v hv
 rcases Nat.lt_or_ge v g.n.toNat with hlv|GI
 rotate_left
 ·have hb:decide ((v:Int)<(g.n.toNat:Int))=false:=decide_eq_false (by omega)
  repeat' (first|refine Rn.p ?_|(with_reducible apply And.intro)|((first|(refine hK _ ?_;clear hK K)|with_reducible intro K hK|refine Rs.p ?_|((with_reducible first|apply oP|apply oQ);exact rfl));try simp only [go_sem,simprocAttr,hb,hg1])|((with_reducible refine oD ?_ ?_);kernel_rfl)|((with_reducible intro h);try simp only [go_sem,simprocAttr,hb,hg1] at h)|omega|intro h)
  refine ⟨q+1,by omega, ?_,by omega⟩
  refine Le.of ?_ ?_<;>simp [go_sem,simprocAttr,hb,hg1]
 have hb:decide ((v:Int)<(g.n.toNat:Int))=true:=decide_eq_true (by omega)
 have hfn:o5 PL O (v+1)=if O.getD v false=true then o5 PL O v else if o5 PL O v<0 then PL.getD v 0 else o5 PL O v:=rfl
 cases nc:O.getD v false with
 |true=>
  rw [nc,if_pos rfl] at hfn
  generalize o5 PL O v=f0 at hfn ⊢
  repeat' (first|refine Rn.p ?_|(with_reducible apply And.intro)|((first|(refine hK _ ?_;clear hK K)|with_reducible intro K hK|refine Rs.p ?_|((with_reducible first|apply oP|apply oQ);exact rfl));try simp only [go_sem,simprocAttr,hb,kS,nc])|((with_reducible refine oD ?_ ?_);kernel_rfl)|((with_reducible intro h);try simp only [go_sem,simprocAttr,hb,kS,nc] at h)|omega|intro h)
  refine ⟨v+1,by omega, ?_,by omega⟩
  rw [hfn]
  refine Le.of ?_ ?_<;>simp [go_sem,simprocAttr,hb,kS,nc]
 |false=>
  have D5:=yD pE hps hlv nc
  rw [nc,if_neg (by simp)] at hfn
  rw [D5] at hfn
  have hpv:=pE v hlv nc
  generalize y9:PL.getD v 0=p1 at*
  by_cases hf:o5 PL O v<0
  ·have xh:=decide_eq_true hf
   have vE:decide (p1=p1)=true:=decide_eq_true rfl
   repeat' (first|refine Rn.p ?_|(with_reducible apply And.intro)|((first|(refine hK _ ?_;clear hK K)|with_reducible intro K hK|refine Rs.p ?_|((with_reducible first|apply oP|apply oQ);exact rfl));try simp only [go_sem,simprocAttr,hb,kS,gl,nc,xh,y9,vE])|((with_reducible refine oD ?_ ?_);kernel_rfl)|((with_reducible intro h);try simp only [go_sem,simprocAttr,hb,kS,gl,nc,xh,y9,vE] at h)|omega|intro h)
   refine ⟨v+1,by omega, ?_,by omega⟩
   rw [D5]
   refine Le.of ?_ ?_<;>simp [go_sem,simprocAttr,hb,kS,gl,nc,xh,y9,vE]
  ·rw [if_neg hf] at hfn
   have xh:=decide_eq_false hf
   have vE:decide (p1=o5 PL O v)=true:=decide_eq_true hfn
   repeat' (first|refine Rn.p ?_|(with_reducible apply And.intro)|((first|(refine hK _ ?_;clear hK K)|with_reducible intro K hK|refine Rs.p ?_|((with_reducible first|apply oP|apply oQ);exact rfl));try simp only [go_sem,simprocAttr,hb,kS,gl,nc,xh,y9,vE])|((with_reducible refine oD ?_ ?_);kernel_rfl)|((with_reducible intro h);try simp only [go_sem,simprocAttr,hb,kS,gl,nc,xh,y9,vE] at h)|omega|intro h)
   refine ⟨v+1,by omega, ?_,by omega⟩
   rw [D5,hfn]
   refine Le.of ?_ ?_<;>simp [go_sem,simprocAttr,hb,kS,gl,nc,xh,y9,vE]
end Go.Ab
end
