/- A part of the proof. -/
import Derived.Shelf.SlSortCmp.NoneTotal
import Derived.Test.YtameldglfobjkaaGreatL3P19
set_option linter.unusedSimpArgs false
set_option linter.unusedVariables false
section
namespace Go.Ab
open Go.Proofs Go.RowKit Go.Shelf Go.Sort
set_option maxRecDepth 10000
theorem B9 {α:Type} {R:α→α→Prop} {l m:List α} (hp:l.Perm m) (ha:∀a b,a∈l→b∈l→R a b→R b a→a=b) (h1:l.Pairwise R) (h2:m.Pairwise R):l=m:=by
 induction l generalizing m with
 |nil=>exact hp.symm.eq_nil.symm
 |cons a l ih=>
  cases m with
  |nil=>exact absurd hp.length_eq (by simp)
  |cons b m=>
   obtain ⟨a1,a2⟩:=List.pairwise_cons.1 h1
   obtain ⟨b1,b2⟩:=List.pairwise_cons.1 h2
   have hab:a=b:=by
    refine Classical.byContradiction fun hne=> ?_
    have ma:a∈b::m:=hp.mem_iff.1 (by simp)
    have mb:b∈a::l:=hp.mem_iff.2 (by simp)
    have ma:a∈m:=(List.mem_cons.1 ma).elim (fun e=>absurd e hne) id
    have U3:b∈l:=(List.mem_cons.1 mb).elim (fun e=>absurd e.symm hne) id
    exact hne (ha a b (by simp) mb (a1 b U3) (b1 a ma))
   subst hab
   rw [ih ((List.perm_cons a).1 hp) (fun c d hc hd=>ha c d (by simp [hc]) (by simp [hd])) a2 b2]
structure HR (cf:Int→Int→Int) (l l':List Int):Prop where
 perm:l.Perm l'
 nd:l.Nodup
 ord:l'.Pairwise fun x y=>cf x y<0∧¬cf y x<0
 OY:∀x∈l,¬cf x x<0
section
variable {cf:Int→Int→Int} {l l':List Int} (S:HR cf l l')
include S
theorem HR.idx {x:Int} (h:x∈l):∃i,i<l'.length∧l'.getD i 0=x:=by
 obtain ⟨i,hi,e⟩:=List.mem_iff_getElem.1 (S.perm.mem_iff.1 h)
 exact ⟨i,hi,by rw [List.getD_eq_getElem?_getD,List.getElem?_eq_getElem hi];exact e⟩
theorem HR.lt {i j:Nat} (hi:i<l'.length) (hj:j<l'.length):cf (l'.getD i 0) (l'.getD j 0)<0↔i<j:=by
 rw [List.getD_eq_getElem?_getD,List.getElem?_eq_getElem hi,List.getD_eq_getElem?_getD,List.getElem?_eq_getElem hj,Option.getD_some,Option.getD_some]
 rcases Nat.lt_trichotomy i j with h|h|h
 ·have:=List.pairwise_iff_getElem.1 S.ord i j hi hj h
  exact ⟨fun _=>h,fun _=>this.1⟩
 ·subst h
  have:=S.OY (l'[i]) (S.perm.mem_iff.2 (List.getElem_mem hi))
  exact ⟨fun h=>absurd h this,fun h=>by omega⟩
 ·have:=List.pairwise_iff_getElem.1 S.ord j i hj hi h
  exact ⟨fun h=>absurd h this.2,fun h=>by omega⟩
theorem HR.swo:SWO (ltOf fun x y: {x // x∈l} =>cf x.1 y.1) where
 irrefl x:=decide_eq_false (S.OY x.1 x.2)
 trans x y z h1 h2:=by
  obtain ⟨i,hi,ei⟩:=S.idx x.2
  obtain ⟨j,hj,ej⟩:=S.idx y.2
  obtain ⟨k,hk,ek⟩:=S.idx z.2
  simp only [ltOf,decide_eq_true_eq, ← ei, ← ej, ← ek,S.lt hi hj,S.lt hj hk,S.lt hi hk] at h1 h2 ⊢
  omega
 ntrans x y z h1 h2:=by
  obtain ⟨i,hi,ei⟩:=S.idx x.2
  obtain ⟨j,hj,ej⟩:=S.idx y.2
  obtain ⟨k,hk,ek⟩:=S.idx z.2
  simp only [ltOf,decide_eq_false_iff_not, ← ei, ← ej, ← ek,S.lt hi hj,S.lt hj hk,S.lt hi hk] at h1 h2 ⊢
  omega
theorem HR.eq {d d':Array {x // x∈l}} [Inhabited {x // x∈l}] (hd:d.toList=l.attach) (hp:PermIn 0 d.size d d') (hs:SortedIn (ltOf fun x y: {x // x∈l} =>cf x.1 y.1) 0 d.size d'):d'.toList.map (·.1)=l':=by
 obtain ⟨h1,_,h3⟩:=hp
 have e1:d'.extract 0 d.size=d':=by rw [← h1];exact Array.extract_size
 have e2:d.extract 0 d.size=d:=Array.extract_size
 rw [e1,e2,hd] at h3
 have h4:(d'.toList.map (·.1)).Perm l:=by
  have:=h3.map (fun x: {x // x∈l} =>x.1)
  rwa [List.attach_map_subtype_val] at this
 refine B9 (R:=fun x y=>¬cf y x<0) (h4.trans S.perm) (fun a b ha hb r1 r2=> ?_) ?_ (S.ord.imp fun h=>h.2)
 ·obtain ⟨i,hi,ei⟩:=S.idx (h4.mem_iff.1 ha)
  obtain ⟨j,hj,ej⟩:=S.idx (h4.mem_iff.1 hb)
  rw [← ei, ← ej,S.lt hj hi] at r1
  rw [← ei, ← ej,S.lt hi hj] at r2
  rw [← ei, ← ej,show i=j by omega]
 ·rw [List.pairwise_map,List.pairwise_iff_getElem]
  intro i j hi hj hij
  have:=hs i j (by omega) hij (by simpa [h1] using hj)
  rw [getElem!_pos d' j (by simpa using hj),getElem!_pos d' i (by simpa using hi)] at this
  simpa [ltOf] using this
end
def J7 (P:Program) (g:Nat) (cb:Array Value) (cf:Int→Int→Int) (l:List Int) (blk:Nat) (w:World):Prop:=
 ∀W:World,w.heap.size≤W.heap.size→(∀b,b<w.heap.size→b≠blk→W.heap[b]? =w.heap[b]?)→∀x,x∈l→∀y,y∈l→
  Calls P g (#[.int .i64 x, .int .i64 y]++cb) W fun e w'=>e= .returned (.int .i64 (cf x y))∧∃q os',w'=grow (W.drewN q) os'
theorem nM {α:Type} [Inhabited α] (enc:α→Value) (w:World) (blk m:Nat) (dk:Array α) (os:Array Obj) {b:Nat} (hb:b<w.heap.size) (hne:b≠blk):(sortWorld enc w blk 0 m dk os).heap[b]? =w.heap[b]? :=by
 show ((w.heap.modify blk _)++os)[b]? =_
 rw [Array.getElem?_append_left (by simpa using hb),Array.getElem?_modify,if_neg (by omega)]
theorem nN {α:Type} [Inhabited α] (enc:α→Value) (w:World) (blk m:Nat) (dk:Array α) (os:Array Obj):w.heap.size≤(sortWorld enc w blk 0 m dk os).heap.size:=by
 show _≤((w.heap.modify blk _)++os).size
 simp
theorem vW {α:Type} [Inhabited α] (enc:α→Value) (w:World) (blk m:Nat) (dk:Array α) (os:Array Obj) {cur:Array Value} {e:TypeId} {fr:Nat × Nat} (hb:w.heap[blk]? =some (.cells cur e fr)):
 (sortWorld enc w blk 0 m dk os).heap[blk]? =some (.cells (putCells enc 0 dk cur) e fr):=by
 have hlt:blk<w.heap.size:=(Array.getElem?_eq_some_iff.1 hb).1
 show ((w.heap.modify blk _)++os)[blk]? =_
 rw [Array.getElem?_append_left (by simpa using hlt),Array.getElem?_modify,if_pos rfl,hb]
 rfl
theorem AR (g:Nat) (cb:Array Value) {cf:Int→Int→Int} {l l':List Int} (S:HR cf l l') (hlen:l.length≤1000000) (eg:∀args w,(callFunc g args).run Tryz.prog w= .ok (.enter g args) w)
 (blk cap:Nat) (w:World) {cur:Array Value} {e:TypeId} (hb:w.heap[blk]? =some (.cells cur e (0,0))) (hc:∀i,i<l.length→cur[i]? =some (.int .i64 (l.getD i 0))) (hne:l≠ [])
 (hcmp:J7 Tryz.prog g cb cf l blk w):
 Calls Tryz.prog 74 #[.slice (some ⟨blk,0,none⟩) l.length cap, .func (.func g) #[] cb] w fun en w'=>en= .returned (.tuple #[])∧
  w'.os=w.os∧w'.tape=w.tape∧w'.output=w.output∧w.heap.size≤w'.heap.size∧(∀b,b<w.heap.size→b≠blk→w'.heap[b]? =w.heap[b]?)∧
  ∃cur',w'.heap[blk]? =some (.cells cur' e (0,0))∧cur'.size=cur.size∧∀i,i<l'.length→cur'[i]? =some (.int .i64 (l'.getD i 0)):=by
 have hlt:blk<w.heap.size:=(Array.getElem?_eq_some_iff.1 hb).1
 obtain ⟨a0,ha0⟩:∃a,a∈l:=by
  cases l with
  |nil=>exact absurd rfl hne
  |cons a l=>exact ⟨a,by simp⟩
 letI:Inhabited {x // x∈l} :=⟨⟨a0,ha0⟩⟩
 have hsz:(l.attach.toArray).size=l.length:=by simp
 have Gk:∀j (hj:j<l.length),((l.attach.toArray)[j]!).1=l.getD j 0:=fun j hj=>by
  rw [getElem!_pos _ j (by simpa using hj),List.getD_eq_getElem?_getD,List.getElem?_eq_getElem hj]
  simp
 have hH:Holds (fun x: {x // x∈l} =>Value.int .i64 x.1) w blk 0 l.attach.toArray:=fun j hj=>by
  rw [hsz] at hj
  refine ⟨?_, ?_⟩
  ·show _=some (Value.int .i64 ((l.attach.toArray)[j]!).1)
   rw [Nat.zero_add,Gk j hj, ← hc j hj]
   simp [World.cell?,hb]
  ·simp [World.frozen?,hb]
 have Kn:CmpLays1 Tryz.prog g cb (fun x: {x // x∈l} =>Value.int .i64 x.1) (fun x y=>cf x.1 y.1) blk 0 (l.attach.toArray).size w:=fun m os dk _ x y=>
  hcmp _ (nN ..) (fun b h1 h2=>nM _ _ _ _ _ _ h1 h2) x.1 x.2 y.1 y.2
 have HS:=Any.slices_SortFunc Tryz.HQ (fun x: {x // x∈l} =>Value.int .i64 x.1) (fun _=>rfl) (fun x y=>cf x.1 y.1) S.swo g cb blk 0 cap l.attach.toArray w eg Kn hH hlt (by rw [hsz];omega)
 rw [hsz] at HS
 refine Calls.mono HS ?_
 rintro en w' ⟨rfl,d',n,os,hp,hs,rfl⟩
 rw [← hsz] at hp hs
 have he:=S.eq (d:=l.attach.toArray) (by simp) hp hs
 have hds:d'.size=l.length:=by rw [hp.1,hsz]
 refine ⟨rfl,rfl,rfl,rfl,nN ..,fun b h1 h2=>nM _ _ _ _ _ _ h1 h2,_,vW _ _ _ _ _ _ hb,by simp [putCells],fun i hi=> ?_⟩
 have hi2:i<l.length:=by rw [S.perm.length_eq];exact hi
 have hic:i<cur.size:=(Array.getElem?_eq_some_iff.1 (hc i hi2)).1
 simp only [putCells,Array.getElem?_mapIdx,Array.getElem?_eq_getElem hic,Option.map_some]
 rw [if_pos ⟨by omega,by omega⟩,Nat.sub_zero,getElem!_pos d' i (by omega)]
 have:l'.getD i 0=(d'[i]'(by omega)).1:=by
  rw [← he,List.getD_eq_getElem?_getD,List.getElem?_map,Array.getElem?_toList,Array.getElem?_eq_getElem (by omega)]
  rfl
 rw [this]
theorem qT (p:Option Addr) (cap:Nat) (fv:Value) (w:World):Calls Tryz.prog 74 #[.slice p 0 cap,fv] w fun e w'=>e= .returned (.tuple #[])∧w'=w:=
 AnyF.slices_SortFunc_none {Tryz.HQ with} p cap fv w
end Go.Ab
end
section
namespace Go.Ab
open Go.Proofs Go.RowKit Go.Shelf Go.Sort
set_option maxRecDepth 10000
theorem HT {w:World} {z:Nat→Nat} {v:Value} {l:List Int} (h:Rd w z v (sI l)) (hne:l≠ []):∃b off cap,v= .slice (some ⟨b,off,none⟩) l.length cap∧b<w.heap.size∧0<z b∧∀j,j<l.length→w.cell? ⟨b,off+j,none⟩=some (.int .i64 (l.getD j 0)):=by
 generalize hx:sI l=x at h
 cases h with
 |sc v h=>cases hx
 |pt b off cells vs hz hc hr=>cases hx
 |nil p sz=>
  simp only [sI,D.sl.injEq,List.map_eq_nil_iff] at hx
  exact absurd hx.2 hne
 |sl b off n cap sz rows vs hn hsz hz hcap hc hr=>
  simp only [sI,D.sl.injEq] at hx
  obtain ⟨rfl,rfl⟩:=hx
  rw [List.length_map] at hn
  subst hn
  have hpos:0<l.length:=List.length_pos_iff.2 hne
  refine ⟨b,off,cap,rfl, ?_,by omega,fun j hj=> ?_⟩
  ·have:=hc 0 (by omega)
   by_cases hlt:b<w.heap.size
   ·exact hlt
   ·exfalso
    simp [World.cell?,Array.getElem?_eq_none (Nat.le_of_not_lt hlt)] at this
  ·have h1:=hc j (by omega)
   have h2:=hr j 0 (rI l[j]) (.sc (.int .i64 l[j])) (by simp [List.getElem?_eq_getElem hj]) rfl
   have h3:=BE h2
   simp only [Nat.mul_one,Nat.add_zero] at h3
   rw [h1,h3]
   simp [List.getD_eq_getElem?_getD,List.getElem?_eq_getElem hj]
theorem RW {a b:AObj} (ha:a.isNest=false) (hb:b.isNest=false) {q:Nat} {o:AObj} (h:bI [(10000,a),(10001,b)] q=some o):(q=10000∧o=a)∨(q=10001∧o=b):=by
 have hl:look [(10000,a),(10001,b)] q=some o:=(fZ (fun p hp=>by
  simp only [List.mem_cons,List.not_mem_nil,or_false] at hp
  rcases hp with rfl|rfl
  ·exact ha
  ·exact hb) h).1
 simp only [look] at hl
 split at hl
 ·rename_i e;cases hl;exact .inl ⟨e.symm,rfl⟩
 ·split at hl
  ·rename_i e;cases hl;exact .inr ⟨e.symm,rfl⟩
  ·cases hl
theorem vB {g:Nat} {cells:List AV} {cf:Int→Int→Int} {l l':List Int} (S:HR cf l l') (hlen:l.length≤1000000) (eg:∀args w,(callFunc g args).run Tryz.prog w= .ok (.enter g args) w) (s5:AV.idss cells= [])
 (hcmp:∀(w:World) (E:Env) (B blk:Nat) (vs:List Value) (e:TypeId),w.heap[B]? =some (.cells vs.toArray e (0,0))→AVrs w E cells vs→B≠blk→E.z blk=0→J7 Tryz.prog g #[.pointer (some ⟨B,0,none⟩)] cf l blk w):
 Spec Tryz.prog 74 (Args [.ref 10000, .fn g [] [.ptr 10001 0]]) [(10000, .own 3 1 (l.map rI)),(10001, .box cells)] (.tup []) [(10000, .own 3 1 (l'.map rI)),(10001, .box cells)]:=by
 refine ⟨⟨Tryz.f74,_,Tryz.func74,by kernel_rfl,rfl⟩,fun E w vals hg hA=> ?_⟩
 obtain ⟨v,vs,rfl,h0,h3⟩:=hA
 obtain ⟨v2,VW,rfl,h1,h4⟩:=h3
 simp only [AVrs] at h4
 subst h4
 obtain ⟨us,us',rfl,h5,h6⟩:=h1
 obtain ⟨u,Kt,rfl,h7,h8⟩:=h6
 simp only [AVrs] at h5 h8
 subst h5 h8
 obtain ⟨rfl,_⟩:=h0
 have o1:=hg.iJ 10000 (.own 3 1 (l.map rI)) rfl
 obtain ⟨B,cs,e,g1,g2,g3,g4,g5⟩:=hg.iJ 10001 (.box cells) rfl
 obtain ⟨B',hB,rfl⟩:=h7
 rw [g1] at hB
 cases hB
 obtain ⟨_,_,o2⟩:=o1
 have mU:l.length=l'.length:=S.perm.length_eq
 have hkeep:∀ {w':World},(∀b,0<E.z b→w'.heap[b]? =w.heap[b]?)→aL w E.z w' E.z:=fun h b=>⟨Nat.le_refl _,fun o ho=>by
  simp only [World.cell?,h b (by omega)]⟩
 rcases o2 with ⟨r0,r1,p,r2⟩|⟨b,cur,cap,r0,r1,r2,r3,r4,r5,r6,r7⟩
 ·have hl0:l= []:=List.map_eq_nil_iff.1 r1
  subst hl0
  have Ls:l'= []:=S.perm.symm.eq_nil
  subst Ls
  rw [r2]
  refine (qT p 0 _ w).mono ?_
  rintro en w' ⟨rfl,rfl⟩
  exact ⟨_,E,rfl,Ip.refl _ _ _,hg,fun q o b hq hro hb=> .inr ⟨q,o,hq,hro,hb⟩,⟨[],rfl,rfl⟩⟩
 ·rw [List.length_map] at r2 r3
  rw [r2]
  by_cases hl0:l= []
  ·subst hl0
   have Ls:l'= []:=S.perm.symm.eq_nil
   subst Ls
   refine (qT _ cap _ w).mono ?_
   rintro en w' ⟨rfl,rfl⟩
   exact ⟨_,E,rfl,Ip.refl _ _ _,hg,fun q o b hq hro hb=> .inr ⟨q,o,hq,hro,hb⟩,⟨[],rfl,rfl⟩⟩
  have hne:B≠b:=fun e=>by
   subst e
   have:=hg.inj 10000 10001 B (by simp [cL,look]) (by simp [cL,look]) r0 g1
   omega
  have kj:b<w.heap.size:=(Array.getElem?_eq_some_iff.1 r1).1
  have RX:∀i,i<l.length→cur[i]? =some (.int .i64 (l.getD i 0)):=fun i hi=>by
   obtain ⟨v,h1,h2⟩:=r7 i 0 (rI l[i]) (.sc (.int .i64 l[i])) (by simp [List.getElem?_eq_getElem hi]) rfl
   rw [BE h2] at h1
   simpa [List.getD_eq_getElem?_getD,List.getElem?_eq_getElem hi] using h1
  refine (AR g #[.pointer (some ⟨B,0,none⟩)] S hlen eg b cap w r1 RX hl0 (hcmp w E B b cs e g2 g4 hne r6)).mono ?_
  rintro en w' ⟨rfl,k1,k2,k3,k4,k5,cur',k6,k7,k8⟩
  have hst:aL w E.z w' E.z:=hkeep fun q hq=>by
   by_cases U4:q<w.heap.size
   ·exact k5 q U4 fun e=>by subst e;omega
   ·have:=hg.fresh q (by omega);omega
  have hs2:∀ {q o},bI [(10000, .own 3 1 (l'.map rI)),(10001, .box cells)] q=some o→(q=10000∧o= .own 3 1 (l'.map rI))∨(q=10001∧o= .box cells):=fun h=>RW rfl rfl h
  have Rp:∀ {q:Nat},bI [(10000, .own 3 1 (l'.map rI)),(10001, .box cells)] q≠none→bI [(10000, .own 3 1 (l.map rI)),(10001, .box cells)] q≠none:=fun {q} h=>by
   obtain ⟨o,ho⟩:=Option.ne_none_iff_exists'.1 h
   rcases hs2 ho with ⟨rfl,_⟩|⟨rfl,_⟩
   ·simp [cL,look]
   ·simp [cL,look]
  refine ⟨_,E,rfl,⟨k1,k2,k3,k4,hst,fun q hq hnm=>⟨k5 q hq fun e=> ?_,rfl⟩,fun _ _=>⟨rfl,rfl⟩⟩,⟨fun q hq=> ?_,fun q q' c hq mA=>hg.inj q q' c (Rp hq) (Rp mA),fun q o hq=> ?_,fun q hq=>hg.fresh q (by omega)⟩,fun q o c hq hro hc=> ?_,⟨[],rfl,rfl⟩⟩
  ·subst e
   exact hnm ⟨10000,_,rfl,rfl,r0⟩
  ·simp only [look] at hq
   split at hq
   ·omega
   ·split at hq
    ·omega
    ·exact absurd rfl hq
  ·rcases hs2 hq with ⟨rfl,rfl⟩|⟨rfl,rfl⟩
   ·refine ⟨fun r hr=> ?_,by decide, .inr ⟨b,cur',cap,r0,k6, ?_, ?_,by rw [k7];exact r4,r5,r6,fun i j r x h1 h2=> ?_⟩⟩
    ·obtain ⟨v,_,rfl⟩:=List.mem_map.1 hr
     rfl
    ·rw [List.length_map, ← mU];exact r2
    ·rw [List.length_map, ← mU];exact r3
    ·rw [List.getElem?_map] at h1
     obtain ⟨v,h3,rfl⟩:=Option.map_eq_some_iff.1 h1
     cases j with
     |succ j=>simp [rI] at h2
     |zero=>
      simp only [rI,List.getElem?_cons_zero,Option.some.injEq] at h2
      subst h2
      have hi:i<l'.length:=(List.getElem?_eq_some_iff.1 h3).1
      refine ⟨_,by simpa using k8 i hi, ?_⟩
      rw [h3]
      exact .sc _ rfl
   ·have Mb:B<w.heap.size:=(Array.getElem?_eq_some_iff.1 g2).1
    exact ⟨B,cs,e,g1,(k5 B Mb hne).trans g2,g3,AVrs.mono ⟨hst,fun _ _=>rfl,fun _ _=>rfl⟩ (fun _ _=>trivial) (live:=fun _=>True) g4,g5⟩
  ·refine .inr ?_
   rcases hs2 hq with ⟨rfl,rfl⟩|⟨rfl,rfl⟩
   ·exact ⟨10000,_,rfl,rfl,hc⟩
   ·exact ⟨10001,_,rfl,rfl,hc⟩
end Go.Ab
end
