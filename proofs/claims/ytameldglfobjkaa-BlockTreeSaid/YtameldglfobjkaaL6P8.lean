/- Rows of operations whose order is open: the rule. -/
import Derived.Orders
import Derived.Test.YtameldglfobjkaaL6P7
set_option linter.unusedSimpArgs false
set_option linter.unusedVariables false
namespace Go.Ab
def cT (k:List Nat) (t0:List (Nat × AV)):List (Nat × AV)→List (Nat × AV)
 | []=> []
 |(i,_)::r=>if meets k (get t0 i).ids then (i,get t0 i)::cT k t0 r else cT k t0 r
def cN (k:List Nat) (m0:List (Nat × AObj)):List (Nat × AObj)→List (Nat × AObj)
 | []=> []
 |(i,_)::r=>match look m0 i with
  |some o=>if meets k o.ids then (i,o)::cN k m0 r else cN k m0 r
  |none=>cN k m0 r
def aU (la:LA) (s:ASt):Rec:=⟨la,cT (la.kill.map (·.1)) s.t s.t,cN (la.kill.map (·.1)) s.m s.m, []⟩
theorem jA {k:List Nat} {t0:List (Nat × AV)} :∀ {t:List (Nat × AV)} {p:Nat × AV},p∈cT k t0 t→p.2=get t0 p.1
 | [],p,h=>by cases h
 |(i,_)::r,p,h=>by
  simp only [cT] at h
  split at h
  ·rcases List.mem_cons.1 h with rfl|h
   ·rfl
   ·exact jA h
  ·exact jA h
theorem mz {k:List Nat} {t0:List (Nat × AV)} {i x:Nat} (hx:x∈(get t0 i).ids) (hk:x∈k):∀ {t:List (Nat × AV)},get t i≠ .cK→(i,get t0 i)∈cT k t0 t
 | [],h=>absurd rfl h
 |(j,a)::r,h=>by
  simp only [get] at h
  simp only [cT]
  by_cases hji:j=i
  ·subst hji
   rw [if_pos (dK hk hx)];exact List.mem_cons_self
  ·simp only [hji,if_false] at h
   have ih:=mz (t0:=t0) hx hk h
   split
   ·exact List.mem_cons_of_mem _ ih
   ·exact ih
theorem gJ {k:List Nat} {m0:List (Nat × AObj)} :∀ {m:List (Nat × AObj)} {p:Nat × AObj},p∈cN k m0 m→look m0 p.1=some p.2
 | [],p,h=>by cases h
 |(i,_)::r,p,h=>by
  simp only [cN] at h
  split at h
  ·rename_i o ho
   split at h
   ·rcases List.mem_cons.1 h with rfl|h
    ·exact ho
    ·exact gJ h
   ·exact gJ h
  ·exact gJ h
theorem jB {k:List Nat} {m0:List (Nat × AObj)} {i x:Nat} {o:AObj} (ho:look m0 i=some o) (hx:x∈o.ids) (hk:x∈k):∀ {m:List (Nat × AObj)},look m i≠none→(i,o)∈cN k m0 m
 | [],h=>absurd rfl h
 |(j,a)::r,h=>by
  simp only [look] at h
  simp only [cN]
  by_cases hji:j=i
  ·subst hji
   simp only [ho]
   rw [if_pos (dK hk hx)];exact List.mem_cons_self
  ·simp only [hji,if_false] at h
   have ih:=jB (m0:=m0) ho hx hk h
   split
   ·split
    ·exact List.mem_cons_of_mem _ ih
    ·exact ih
   ·exact ih
theorem xM {t:List (Nat × AV)} {i x:Nat} (h:x∈(get t i).ids):get t i≠ .cK:=fun e=>by rw [e] at h;simp [AV.ids] at h
theorem uV {la:LA} {s:ASt} (hs:Sat la s):∀p∈(aU la s).rs,aq s p.1=p.2:=by
 intro p hp
 simp only [Rec.rs,aU,List.mem_append,List.mem_map,List.not_mem_nil,false_and,exists_false,or_false] at hp
 rcases hp with ⟨q,hq,rfl⟩|⟨q,hq,rfl⟩
 ·rcases hq with hq|hq
  ·simp only [aq,hs.1 q hq]
  ·simp only [aq,jA hq]
 ·rcases hq with hq|hq
  ·simp only [aq,hs.2 q hq]
  ·simp only [aq,gJ hq]
theorem uW {la:LA} {s:ASt} {k:Key} (hk:k∉(aU la s).wr):aq (la.app s) k=aq s k∧∀x∈(aq s k).ids,x∉(aU la s).aO:=by
 have h2:∀x∈(aq s k).ids,x∉(aU la s).aO:=by
  intro x hx hkx
  apply hk
  have DM:=hkx
  simp only [Rec.aO,aU] at hkx
  cases k with
  |cell l q=>
   refine List.mem_append.2 (.inr ?_)
   simp only [aq] at hx
   split at hx
   ·rename_i hq
    obtain ⟨o,ho,zq⟩:=k9 hx
    rw [ho] at hx
    simp only [Rec.zn,List.mem_append,List.mem_flatMap,List.mem_map,List.mem_range,List.mem_filter]
    exact .inr ⟨(l,o),jB ho zq hkx (by simp [ho]),q,⟨hq,dK hx DM⟩,rfl⟩
   ·simp [KV.ids] at hx
  |slot t=>
   refine List.mem_append.2 (.inl ?_)
   simp only [Rec.fT,List.mem_append,List.mem_map]
   exact .inl (.inl (.inl (.inr ⟨(t,get s.t t),mz hx hkx (xM hx),rfl⟩)))
  |obj l=>
   refine List.mem_append.2 (.inl ?_)
   simp only [Rec.fT,List.mem_append,List.mem_map]
   simp only [aq] at hx
   cases ho:look s.m l with
   |none=>rw [ho] at hx;simp [KV.ids] at hx
   |some o=>
    rw [ho] at hx
    exact .inr ⟨(l,o),jB ho hx hkx (by simp [ho]),rfl⟩
 refine ⟨?_,h2⟩
 show aq ((aU la s).la.app s) k=_
 rw [lg hk]
 exact KV.eo h2
def nk (s s':ASt):Prop:=∀k,aq s k=aq s' k
theorem nk.get {s s':ASt} (h:nk s s') (t:Nat):get s.t t=get s'.t t:=by have:=h (.slot t);simpa [aq] using this
theorem nk.look {s s':ASt} (h:nk s s') (l:Nat):look s.m l=look s'.m l:=by have:=h (.obj l);simpa [aq] using this
theorem nk.le {s s':ASt} (h:nk s s'):Le s s':=⟨fun k=> .inr (h.get k),fun l o ho=>by rw [h.look];exact ho⟩
theorem nk.app {s s':ASt} (h:nk s s') (la:LA):nk (la.app s) (la.app s'):=by
 intro k
 cases k with
 |slot t=>
  simp only [aq]
  congr 1
  unfold LA.app ASt.put
  split
  ·simp only [Ab.get];split
   ·rfl
   ·rw [bY,bY,h.get]
  ·simp only [bY];rw [h.get]
 |cell l q=>
  simp only [aq]
  have hm:∀s:ASt,(la.app s).m=putM la.cz (s.kill la.kill).m:=fun s=>by unfold LA.app ASt.put;split<;>rfl
  rw [hm,hm,bF,bF,b8,b8,h.look]
 |obj l=>
  simp only [aq]
  congr 1
  have hm:∀s:ASt,(la.app s).m=putM la.cz (s.kill la.kill).m:=fun s=>by unfold LA.app ASt.put;split<;>rfl
  rw [hm,hm,bF,bF,b8,b8,h.look]
def LA.gd (la:LA) (g:Nat) (want:Bool):LA:= {la with rs:=(g, .d (.sc (.bool want)))::la.rs}
def skipLA (g:Nat) (b:Bool) (dst:Option Nat):LA:=⟨[(g, .d (.sc (.bool b)))], [], [], [],dst, .tup []⟩
def skipT (g:Nat) (dst:Option Nat):LA:=⟨[(g, .tup [])], [], [], [],dst, .tup []⟩
def iz (C:Cfg) (o:Oper) (s:ASt):Option (Nat × Nat):=match o.op with
 | .load t x=>match C.T t with
   |some ⟨.st _,_,_,_⟩|some ⟨.ar _ _,_,_,_⟩=>none
   |some _=>match aev C 0 s x with
    | .ptr l q=>if q<16 then some (l,q) else none
    |_=>none
   |none=>none
 |_=>none
def cm (C:Cfg) (o:Oper) (la:LA) (s:ASt):Rec:=match iz C o s with
 |some (l,q)=>⟨{la with ms:= []}, [], [], [(l,q,la.v)]⟩
 |none=>aU la s
def aM (X:Ctx) (C:Cfg) (l:List Oper):List Oper→ASt→List Rec→(ASt→List Rec→Prop)→Prop
 | [],s,log,K=>K s log
 |o::rest,s,log,K=>match o.guard with
  |none=>vcOp X C o s fun la=>aM X C l rest (la.app s) (cm C o la s::log) K
  |some (j,want)=>match gslot l j with
   |none=>False
   |some g=>match get s.t g with
    | .d (.sc (.bool b))=>
      (b=want→vcOp X C o (s.put (some g) (.d (.sc (.bool want)))) fun la=>aM X C l rest (la.app (s.put (some g) (.d (.sc (.bool want))))) (aU (la.gd g want) (s.put (some g) (.d (.sc (.bool want))))::log) K)∧
      (b=(!want)→aM X C l rest ((s.put (some g) (.d (.sc (.bool (!want))))).put o.dst (.tup [])) (aU (skipLA g (!want) o.dst) (s.put (some g) (.d (.sc (.bool (!want)))))::log) K)
    | .tup []=>aM X C l rest (s.put o.dst (.tup [])) (aU (skipT g o.dst) s::log) K
    |_=>False
def sX (X:Ctx) (l:List Oper) (i:Nat) (r:Rec):Prop:=∀s a w,(∀p∈r.rs,aq s p.1=p.2)→Rel X s a w→∀(Q:Exit→Act→World→Prop) (K:Act→World→Prop),(∀a' w',Rel X (r.la.app s) a' w'→K a' w')→wpOp X.P l.toArray Q i K a w
theorem nr {r:Rec} {s:ASt} (h:∀p∈r.rs,aq s p.1=p.2):Sat r.la s:=by
 constructor
 ·intro p hp
  have:=h (.slot p.1, .av p.2) (by simp only [Rec.rs,List.mem_append,List.mem_map];exact .inl (.inl ⟨p, .inl hp,rfl⟩))
  simpa [aq] using this
 ·intro p hp
  have:=h (.obj p.1, .ob (some p.2)) (by simp only [Rec.rs,List.mem_append,List.mem_map];exact .inl (.inr ⟨p, .inl hp,rfl⟩))
  simpa [aq] using this
theorem zv {C:Cfg} {s s':ASt} {x:Operand} (h:∀p∈rsOf s [x],get s'.t p.1=p.2):aev C 0 s' x=aev C 0 s x:=ru h (by simp)
theorem uX {X:Ctx} (hX:X.Ok) {o:Oper} {s:ASt} {K:LA→Prop} {l q:Nat} (mQ:iz X.C o s=some (l,q)) (h:vcOp X X.C o s K):
 ∃la,K la∧la.kill= []∧la.cz= []∧(∀p∈la.rs,get s.t p.1=p.2)∧aq s (.cell l q)= .av la.v∧
  ∀s' a w,(∀d,o.dst=some d→d<X.n)→(∀p∈la.rs,get s'.t p.1=p.2)→aq s' (.cell l q)= .av la.v→Rel X s' a w→o.wp X.P a w (fun a' w'=>Rel X (la.app s') a' w') AU:=by
 unfold iz at mQ
 split at mQ
 ·rename_i t x ho
  have hcell:∃ti,X.C.T t=some ti∧(∀(cells:List AV) (K:AV→Prop),vcLoad (some ti) cells q K=match cells[q]? with|some v=>K v|none=>False)∧aev X.C 0 s x= .ptr l q∧q<16:=by
   split at mQ
   ·cases mQ
   ·cases mQ
   ·rename_i ti h1 h2 gR
    split at mQ
    ·rename_i l' q' hx
     split at mQ
     ·rename_i hq
      simp only [Option.some.injEq,Prod.mk.injEq] at mQ
      obtain ⟨rfl,rfl⟩:=mQ
      refine ⟨ti,gR,fun cells K=> ?_,hx,hq⟩
      obtain ⟨k,sz,az,zc⟩:=ti
      cases k with
      |st fs=>exact absurd rfl (h1 fs sz az zc)
      |ar n e=>exact absurd rfl (h2 n e sz az zc)
      |_=>rfl
     ·cases mQ
    ·cases mQ
   ·cases mQ
  obtain ⟨ti,gR,hvl,hx,hq⟩:=hcell
  have cond:∀(s':ASt) (v:AV),aev X.C 0 s' x= .ptr l q→aq s' (.cell l q)= .av v→∃la,aj X o la∧Sat la s'∧la.kill= []∧la.cz= []∧la.dst=o.dst∧la.v=v:=by
   intro s' v hx' hk
   simp only [aq,if_pos hq] at hk
   unfold bh at hk
   have key:∀ob cells,look s'.m l=some ob→(ob= .box cells∨ob= .rob cells)→cells[q]? =some v→∃la,aj X o la∧Sat la s'∧la.kill= []∧la.cz= []∧la.dst=o.dst∧la.v=v:=by
    intro ob cells hl xD hc
    have hv:vcOp X X.C o s' (fun la=>la.kill= []∧la.cz= []∧la.dst=o.dst∧la.v=v):=by
     simp only [vcOp,ho,hx',hl]
     rcases xD with rfl|rfl
     ·simp only [gR,hvl,hc];exact ⟨trivial,trivial,trivial,trivial⟩
     ·simp only [gR,hvl,hc];exact ⟨trivial,trivial,trivial,trivial⟩
    exact fu hX hv
   split at hk
   ·rename_i cells hl
    split at hk
    ·rename_i v' hc
     cases hk
     exact key _ cells hl (.inl rfl) hc
    ·cases hk
   ·rename_i cells hl
    split at hk
    ·rename_i v' hc
     cases hk
     exact key _ cells hl (.inr rfl) hc
    ·cases hk
   ·cases hk
  simp only [vcOp,ho,hx] at h
  have fin:∀ob cells v,look s.m l=some ob→(ob= .box cells∨ob= .rob cells)→cells[q]? =some v→K ⟨rsOf s [x], [(l,ob)], [], [],o.dst,v⟩→∃la,K la∧la.kill= []∧la.cz= []∧(∀p∈la.rs,get s.t p.1=p.2)∧aq s (.cell l q)= .av la.v∧
   ∀s' a w,(∀d,o.dst=some d→d<X.n)→(∀p∈la.rs,get s'.t p.1=p.2)→aq s' (.cell l q)= .av la.v→Rel X s' a w→o.wp X.P a w (fun a' w'=>Rel X (la.app s') a' w') AU:=by
   intro ob cells v hl xD hc hK
   have Dz:aq s (.cell l q)= .av v:=by
    simp only [aq,if_pos hq,hl]
    rcases xD with rfl|rfl<;>simp only [bh,hc]
   exact ⟨⟨rsOf s [x], [(l,ob)], [], [],o.dst,v⟩,hK,rfl,rfl,ai s _,Dz,fun s' a w hd hs hk hr=>by
    obtain ⟨la',g1,g2,g3,g4,g5,g6⟩:=cond s' v (by rw [zv hs,hx]) hk
    have e:la'.app s'=(⟨rsOf s [x], [(l,ob)], [], [],o.dst,v⟩:LA).app s':=by simp only [LA.app,g3,g4,g5,g6]
    have:=g1.2 s' a w hd g2 hr
    rwa [e] at this⟩
  split at h
  ·rename_i cells hl
   rw [gR,hvl] at h
   split at h
   ·rename_i v hc;exact fin _ cells v hl (.inl rfl) hc h
   ·exact h.elim
  ·rename_i cells hl
   rw [gR,hvl] at h
   split at h
   ·rename_i v hc;exact fin _ cells v hl (.inr rfl) hc h
   ·exact h.elim
  ·exact h.elim
 ·cases mQ
theorem ja {X:Ctx} (hX:X.Ok) {l:List Oper} {K:ASt→List Rec→Prop} :∀(r:List Oper) (i:Nat) (s s0:ASt) (log:List Rec),(∀j,r[j]? =l[i+j]?)→(∀o∈r,∀d,o.dst=some d→d<X.n)→nk s0 s→aM X X.C l r s log K→
 ∃(new:List Rec) (e e':ASt),new.length=r.length∧K e (new.reverse++log)∧nk e' e∧iW new s0 e'∧∀j q,new[j]? =some q→sX X l (i+j) q
 | [],i,s,s0,log,_,_,he,h=>⟨[],s,s0,rfl,h,he, .nil _,fun j q hq=>by simp at hq⟩
 |o::r,i,s,s0,log,hl,hd,he,h=>by
  have ho:l[i]? =some o:=by have:=hl 0;simpa using this.symm
  have hl':∀j,r[j]? =l[i+1+j]? :=fun j=>by have:=hl (j+1);simp only [List.getElem?_cons_succ] at this;rw [this];congr 1;omega
  have hd':∀o∈r,∀d,o.dst=some d→d<X.n:=fun o ho=>hd o (by simp [ho])
  have jC:∀(rc:Rec) (s1 s2:ASt),nk s0 s1→nk (rc.la.app s1) s2→(∀p∈rc.rs,aq s1 p.1=p.2)→(∀k,k∉rc.wr→aq (rc.la.app s1) k=aq s1 k∧∀x∈(aq s1 k).ids,x∉rc.aO)→sX X l i rc→aM X X.C l r s2 (rc::log) K→
   ∃(new:List Rec) (e e':ASt),new.length=(o::r).length∧K e (new.reverse++log)∧nk e' e∧iW new s0 e'∧∀j q,new[j]? =some q→sX X l (i+j) q:=by
   intro rc s1 s2 h1 h2 h3 A9 h4 h5
   obtain ⟨new,e,e',g1,g2,g3,g4,g5⟩:=ja hX r (i+1) s2 (rc.la.app s1) (rc::log) hl' hd' h2 h5
   refine ⟨rc::new,e,e',by simp [g1],by simpa using g2,g3, .cons (fun p hp=>(h1 p.1).trans (h3 p hp)) (fun k=> ?_) (fun k hk=> ?_) g4,fun j q hq=> ?_⟩
   ·exact ((h1.app rc.la) k).symm
   ·obtain ⟨q1,q2⟩:=A9 k hk
    rw [h1 k];exact ⟨q1,q2⟩
   ·cases j with
    |zero=>simp at hq;subst hq;exact h4
    |succ j=>have:=g5 j q (by simpa using hq);rw [show i+(j+1)=i+1+j from by omega];exact this
  have go:∀(la:LA) (s1 s2:ASt),nk s0 s1→nk (la.app s1) s2→Sat la s1→sX X l i (aU la s1)→aM X X.C l r s2 (aU la s1::log) K→
   ∃(new:List Rec) (e e':ASt),new.length=(o::r).length∧K e (new.reverse++log)∧nk e' e∧iW new s0 e'∧∀j q,new[j]? =some q→sX X l (i+j) q:=by
   intro la s1 s2 h1 h2 h3 h4 h5
   exact jC (aU la s1) s1 s2 h1 h2 (uV h3) (fun k hk=>uW hk) h4 h5
  unfold aM at h
  cases hgd:o.guard with
  |none=>
   simp only [hgd] at h
   cases mQ:iz X.C o s with
   |some lq=>
    obtain ⟨lb,q⟩:=lq
    simp only [cm,mQ] at h
    obtain ⟨la,h3,hk,hu,qa,fV,hop⟩:=uX hX mQ h
    have hap:∀s':ASt,({la with ms:= []} :LA).app s'=la.app s':=fun _=>rfl
    refine jC ⟨{la with ms:= []}, [], [], [(lb,q,la.v)]⟩ s _ he (fun _=>rfl) (fun p hp=> ?_) (fun k hk'=> ?_) (fun s' a w hs hr Q K hK=> ?_) h3
    ·simp only [Rec.rs,List.append_nil,List.nil_append,List.map_nil,List.mem_append,List.mem_map,List.mem_singleton] at hp
     rcases hp with ⟨p',Hf,rfl⟩|⟨p',rfl,rfl⟩
     ·simp only [aq];rw [qa p' Hf]
     ·exact fV
    ·have:=lg (s:=s) hk'
     rw [this]
     have DN:(⟨{la with ms:= []}, [], [], [(lb,q,la.v)]⟩:Rec).aO= []:=by simp [Rec.aO,hk]
     refine ⟨KV.eo fun x _ hx=> ?_,fun x _ hx=> ?_⟩
     ·simp [hk] at hx
     ·rw [DN] at hx;cases hx
    ·unfold wpOp
     rw [show l.toArray[i]? =some o from by simpa using ho]
     simp only
     rw [if_pos (by simp [Region.wanted,hgd])]
     refine .inl (Oper.nh hK (hop s' a w (hd o (by simp)) (fun p hp=> ?_) ?_ hr))
     ·have:=hs (.slot p.1, .av p.2) (by simp only [Rec.rs,List.mem_append,List.mem_map];exact .inl (.inl ⟨p, .inl hp,rfl⟩))
      simpa [aq] using this
     ·exact hs (.cell lb q, .av la.v) (by simp [Rec.rs])
   |none=>
   simp only [cm,mQ] at h
   obtain ⟨la,h1,h2,h3⟩:=fu hX h
   refine go la s _ he (fun _=>rfl) h2 (fun s' a w hs hr Q K hK=> ?_) h3
   unfold wpOp
   rw [show l.toArray[i]? =some o from by simpa using ho]
   simp only
   rw [if_pos (by simp [Region.wanted,hgd])]
   exact .inl (Oper.nh hK (h1.2 s' a w (hd o (by simp)) (nr hs) hr))
  |some p=>
   obtain ⟨j,want⟩:=p
   simp only [hgd] at h
   split at h
   ·exact h.elim
   ·rename_i g hg
    split at h
    ·rename_i b hb
     have hput:∀v,b=v→nk s0 (s.put (some g) (.d (.sc (.bool v)))):=by
      intro v hv k
      rw [he k]
      cases k with
      |slot t=>
       simp only [aq,ASt.put,get]
       split
       ·rename_i ht;subst ht;rw [hb,hv]
       ·rfl
      |obj t=>rfl
      |cell t q=>rfl
     have yG:∀ {s':ASt} {a:Act} {w:World} {v:Bool},get s'.t g= .d (.sc (.bool v))→Rel X s' a w→yielded l.toArray a.tmps j=some v:=by
      rintro s' a w v hv ⟨E,hE⟩
      exact (kO hE hg hv).1
     by_cases Bj:b=want
     ·obtain ⟨la,h1,h2,h3⟩:=fu hX (h.1 Bj)
      have dJ:Sat (la.gd g want) (s.put (some g) (.d (.sc (.bool want)))):=⟨fun p hp=>by
       simp only [LA.gd] at hp
       rcases List.mem_cons.1 hp with rfl|hp
       ·simp [ASt.put,get]
       ·exact h2.1 p hp,h2.2⟩
      refine go (la.gd g want) _ _ (hput want Bj) (fun _=>rfl) dJ (fun s' a w hs hr Q K hK=> ?_) h3
      have hs':=nr hs
      have hg':get s'.t g= .d (.sc (.bool want)):=hs'.1 (g, .d (.sc (.bool want))) (by simp [aU,LA.gd])
      unfold wpOp
      rw [show l.toArray[i]? =some o from by simpa using ho]
      simp only
      rw [if_pos (by simp [Region.wanted,hgd,yG hg' hr])]
      exact .inl (Oper.nh hK (h1.2 s' a w (hd o (by simp)) ⟨fun p hp=>hs'.1 p (by simp only [aU,LA.gd];exact List.mem_cons_of_mem _ hp),hs'.2⟩ hr))
     ·have Bl:b= !want:=by cases b<;>cases want<;>simp_all
      refine go (skipLA g (!want) o.dst) _ _ (hput _ Bl) (fun k=> ?_) ⟨fun p hp=>by
       simp only [skipLA,List.mem_singleton] at hp
       subst hp;simp [ASt.put,get],fun p hp=>by simp [skipLA] at hp⟩ (fun s' a w hs hr Q K hK=> ?_) (h.2 Bl)
      ·rfl
      ·have hs':=nr hs
       have hg':get s'.t g= .d (.sc (.bool (!want))):=hs'.1 (g, .d (.sc (.bool (!want)))) (by simp [aU,skipLA])
       unfold wpOp
       rw [show l.toArray[i]? =some o from by simpa using ho]
       simp only
       rw [if_neg (by simp [Region.wanted,hgd,yG hg' hr])]
       obtain ⟨E,hE⟩:=hr
       exact hK _ _ ⟨E,hE.C2 o.dst⟩
    ·rename_i hb
     refine go (skipT g o.dst) s _ he (fun k=>rfl) ⟨fun p hp=>by
      simp only [skipT,List.mem_singleton] at hp
      subst hp;exact hb,fun p hp=>by simp [skipT] at hp⟩ (fun s' a w hs hr Q K hK=> ?_) h
     have hs':=nr hs
     have hg':get s'.t g= .tup []:=hs'.1 (g, .tup []) (by simp [aU,skipT])
     obtain ⟨E,hE⟩:=hr
     have hy:=jV hE hg hg'
     unfold wpOp
     rw [show l.toArray[i]? =some o from by simpa using ho]
     simp only
     rw [if_neg (by simp [Region.wanted,hgd,hy])]
     exact hK _ _ ⟨E,hE.C2 o.dst⟩
    ·exact h.elim
theorem qw {l:List Oper} {listed:Array Bool} (hsz:listed.size=l.length) (rS:∀(j:Nat) o,l[j]? =some o→∀e∈o.after.toList,Region.binds .any e=true→e.on<j)
 (h:Region.ready .any l.toArray listed= []):∀i,i<l.length→listed.getD i false=true:=by
 intro i
 induction i using Nat.strongRecOn with
 |_ i ih=>
  intro hi
  cases hq:listed.getD i false with
  |true=>rfl
  |false=>
   exfalso
   have hi':i<listed.size:=by omega
   have hmem:i∈Region.ready .any l.toArray listed:=by
    unfold Region.ready
    rw [List.mem_filter]
    refine ⟨by simpa using hi, ?_⟩
    have h1:listed.getD i true=false:=by
     simp only [Array.getD_eq_getD_getElem?,Array.getElem?_eq_getElem hi'] at hq ⊢
     simpa using hq
    have h2:l.toArray[i]? =some l[i]:=by simp [hi]
    rw [h1,h2]
    simp only [Bool.not_false,Option.map_some,Option.getD_some,Bool.true_and]
    rw [← Array.all_toList,List.all_eq_true]
    intro e he
    cases hb:Region.binds .any e with
    |false=>rfl
    |true=>
     have hlt:=rS i l[i] (List.getElem?_eq_getElem hi) e he hb
     simp only [Bool.not_true,Bool.false_or]
     exact ih e.on hlt (by omega)
   rw [h] at hmem;cases hmem
theorem sY {X:Ctx} {l:List Oper} {log:List Rec} {s0 e:ASt} {Q:Exit→Act→World→Prop} (xL:jU l log=true) (hch:iW log s0 e) (hop:∀j q,log[j]? =some q→sX X l j q)
 (hQ:∀a w,Rel X e a w→Q .normal a w) {a:Act} {w:World} (hr:Rel X s0 a w):wpAny X.P .any l.toArray Q l.toArray.size (Array.replicate l.toArray.size false) a w:=by
 obtain ⟨st,h0,hend,hst⟩:=hch.states
 obtain ⟨hlen,fV,rS⟩:=oS xL
 have main:∀(fuel:Nat) (listed:Array Bool) (s:ASt) (a:Act) (w:World),listed.size=l.length→((List.range l.length).countP fun i=> !listed.getD i false)≤fuel→
  Inv log st (fun k=>k<l.length∧listed.getD k false=true) s→(∀i j o,(j<l.length∧listed.getD j false=true)→l[j]? =some o→ee o i=true→(i<l.length∧listed.getD i false=true))→Rel X s a w→
  wpAny X.P .any l.toArray Q fuel listed a w:=by
  have fin:∀(listed:Array Bool) (s:ASt) (a:Act) (w:World),listed.size=l.length→Region.ready .any l.toArray listed= []→Inv log st (fun k=>k<l.length∧listed.getD k false=true) s→Rel X s a w→Q .normal a w:=by
   intro listed s a w hsz j6 hinv hr
   have hall:=qw hsz rS j6
   refine hQ a w (hr.le (nk.le fun k=> ?_))
   have:=hinv log.length (Nat.le_refl _) (fun h=>by omega) k (aq (st log.length) k) (.inr ⟨rfl,rfl⟩) (fun j hj hn=>absurd ⟨by omega,hall j (by omega)⟩ hn)
   rw [this,hend]
  intro fuel
  induction fuel with
  |zero=>
   intro listed s a w hsz zw hinv hD hr
   have j6:Region.ready .any l.toArray listed= []:=by
    rw [List.eq_nil_iff_forall_not_mem]
    intro i hi
    unfold Region.ready at hi
    rw [List.mem_filter] at hi
    obtain ⟨h1,h2⟩:=hi
    simp only [Bool.and_eq_true] at h2
    have hil:i<l.length:=by simpa using h1
    have h3:listed.getD i false=false:=by
     have qc:=h2.1
     simp only [Array.getD_eq_getD_getElem?,Array.getElem?_eq_getElem (show i<listed.size by omega)] at qc ⊢
     simpa using qc
    have hpos:0<(List.range l.length).countP fun i=> !listed.getD i false:=by
     rw [List.countP_pos_iff]
     exact ⟨i,by simpa using hil,by rw [h3];rfl⟩
    omega
   exact ⟨j6,fin listed s a w hsz j6 hinv hr⟩
  |succ fuel ih=>
   intro listed s a w hsz zw hinv hD hr
   refine ⟨fun j6=>fin listed s a w hsz j6 hinv hr,fun i hi=> ?_⟩
   unfold Region.ready at hi
   rw [List.mem_filter] at hi
   obtain ⟨h1,h2⟩:=hi
   have hil:i<l.length:=by simpa using h1
   simp only [Bool.and_eq_true] at h2
   obtain ⟨h2,h3⟩:=h2
   have hnl:listed.getD i false=false:=by
    simp only [Array.getD_eq_getD_getElem?,Array.getElem?_eq_getElem (show i<listed.size by omega)] at h2 ⊢
    simpa using h2
   have DO:l[i]? =some l[i]:=List.getElem?_eq_getElem hil
   have DP:l.toArray[i]? =some l[i]:=by simp [hil]
   rw [DP] at h3
   simp only [Option.map_some,Option.getD_some] at h3
   rw [← Array.all_toList,List.all_eq_true] at h3
   have gq:∀j,ee l[i] j=true→(j<l.length∧listed.getD j false=true):=by
    intro j hj
    unfold ee at hj
    rw [List.any_eq_true] at hj
    obtain ⟨e,he,hb⟩:=hj
    simp only [Bool.and_eq_true,beq_iff_eq] at hb
    obtain ⟨hb,rfl⟩:=hb
    have:=h3 e he
    simp only [hb,Bool.not_true,Bool.false_or] at this
    exact ⟨by have:=rS i _ DO e he hb;omega,this⟩
   have mN:log[i]? =some log[i]:=List.getElem?_eq_getElem (by omega)
   obtain ⟨dJ,hinv'⟩:=iZ xL hst hinv hD mN DO (fun h=>by rw [hnl] at h;exact absurd h.2 (by simp)) gq
   refine hop i _ mN s a w dJ hr Q _ fun a' w' hr'=> ?_
   have bI:∀k,(listed.setIfInBounds i true).getD k false=true↔(listed.getD k false=true∨k=i):=by
    intro k
    by_cases hki:i=k
    ·subst hki
     simp [Array.getD_eq_getD_getElem?,show i<listed.size by omega]
    ·simp only [Array.getD_eq_getD_getElem?,Array.getElem?_setIfInBounds_ne hki]
     constructor
     ·exact .inl
     ·rintro (h|h)
      ·exact h
      ·exact absurd h.symm hki
   refine ih _ _ a' w' (by simp [hsz]) ?_ ?_ ?_ hr'
   ·
    have Bz:((List.range l.length).countP fun k=> !(listed.setIfInBounds i true).getD k false)<((List.range l.length).countP fun k=> !listed.getD k false):=by
     have:∀(L:List Nat),i∈L→(L.countP fun k=> !(listed.setIfInBounds i true).getD k false)<(L.countP fun k=> !listed.getD k false):=by
      intro L
      have hle:∀(L:List Nat),(L.countP fun k=> !(listed.setIfInBounds i true).getD k false)≤(L.countP fun k=> !listed.getD k false):=by
       intro L
       apply List.countP_mono_left
       intro k _ hk
       cases hq:listed.getD k false with
       |false=>rfl
       |true=>have:=(bI k).2 (.inl hq);rw [this] at hk;simp at hk
      induction L with
      |nil=>intro h;cases h
      |cons k L Hg=>
       intro hm
       simp only [List.countP_cons]
       have hle':=hle L
       by_cases hki:k=i
       ·subst hki
        have h4:(listed.setIfInBounds k true).getD k false=true:=(bI k).2 (.inr rfl)
        rw [h4,hnl]
        simp only [Bool.not_true,Bool.not_false,if_true,Bool.false_eq_true,if_false]
        omega
       ·have hm':i∈L:=by rcases List.mem_cons.1 hm with h|h;exact absurd h.symm hki;exact h
        have:=Hg hm'
        have h5:(listed.setIfInBounds i true).getD k false=listed.getD k false:=by
         cases hq:listed.getD k false with
         |true=>exact (bI k).2 (.inl hq)
         |false=>
          cases zx:(listed.setIfInBounds i true).getD k false with
          |false=>rfl
          |true=>rcases (bI k).1 zx with h|h;rw [hq] at h;cases h;exact absurd h hki
        rw [h5];omega
     exact this _ (by simpa using hil)
    omega
   ·intro k hk bG key v jX hC
    refine hinv' k hk (fun h=>bG ?_) key v jX (fun j hj DQ r hr=>hC j hj (fun h=>DQ ?_) r hr)
    ·rcases h with h|h
     ·exact ⟨h.1,(bI k).2 (.inl h.2)⟩
     ·exact ⟨by omega,(bI k).2 (.inr h)⟩
    ·rcases (bI j).1 h.2 with h'|h'
     ·exact .inl ⟨h.1,h'⟩
     ·exact .inr h'
   ·intro q j o hj ho he
    rcases (bI j).1 hj.2 with h|h
    ·obtain ⟨g1,g2⟩:=hD q j o ⟨hj.1,h⟩ ho he
     exact ⟨g1,(bI q).2 (.inl g2)⟩
    ·subst h
     rw [DO] at ho;cases ho
     obtain ⟨g1,g2⟩:=gq q he
     exact ⟨g1,(bI q).2 (.inl g2)⟩
 refine main _ _ s0 a w (by simp) ?_ ?_ ?_ hr
 ·simp only [List.size_toArray]
  exact Nat.le_trans List.countP_le_length (by simp)
 ·intro k hk bG key v jX hC
  have hnot:∀j,¬(j<l.length∧(Array.replicate l.toArray.size false).getD j false=true):=by
   rintro j ⟨h1,h2⟩
   simp [Array.getD_eq_getD_getElem?,h1] at h2
  have:∀d,d≤k→aq (st d) key=aq (st 0) key:=by
   intro d
   induction d with
   |zero=>intro _;rfl
   |succ d ih=>
    intro hd
    rw [← ih (by omega)]
    have hdl:d<log.length:=by omega
    exact ((hst d _ (List.getElem?_eq_getElem hdl)).2.2 key (hC d (by omega) (hnot d) _ (List.getElem?_eq_getElem hdl))).1
  rw [← h0, ← this k (Nat.le_refl _)]
  rcases jX with ⟨r,hr,hin⟩|⟨_,hv⟩
  ·exact (hst k r hr).1 _ hin
  ·exact hv.symm
 ·rintro i j o ⟨h1,h2⟩
  simp [Array.getD_eq_getD_getElem?,h1] at h2
theorem aG.drawn {X:Ctx} {E:Env} {s:ASt} {a:Act} {w:World} (h:aG X E s a w) {n:Nat} :aG X E s a {w with drawn:=n} :=by
 have hst:ak w E.z {w with drawn:=n} E.z:=fun b=>⟨Nat.le_refl _,fun o _=>rfl⟩
 refine ⟨⟨h.defers.all,h.defers.nd,h.defers.bk⟩,h.size,⟨h.good.low,h.good.inj,fun l o hl=> ?_,h.good.fresh⟩,⟨h.dZ.os,h.dZ.tape,h.dZ.output,h.dZ.size,h.dZ.st.trans hst,h.dZ.frame,h.dZ.yx⟩,h.mine,fun k=> ?_⟩
 ·have:=aF.keep (k:= []) hst (fun _ _=>⟨rfl,rfl⟩) (fun l x hl=>by simp [kl] at hl) rfl (fun _ _=>rfl) (fun b _=>⟨rfl,rfl⟩) (h.good.dY l o hl)
  rwa [AObj.fk] at this
 ·exact aQ.mono (live:=fun _=>True) ⟨hst,fun _ _=>rfl,fun _ _=>rfl⟩ (fun _ _=>trivial) (h.slot k)
section
variable {X:Ctx} {Q:Exit→ASt→Prop} {s:ASt}
theorem oU (hX:X.Ok) (hm:X.P.follows .mixedOrders=true) {id:Nat} {l:List Oper} (h:aM X X.C l l s [] (fun s' log=>jU l log.reverse=true∧Q .normal s')):bB X (.region id l.toArray true) Q s:=by
 refine ⟨fun hc a w hr=> ?_⟩
 obtain ⟨new,e,e',h1,⟨h2,h3⟩,h4,h5,h6⟩:=ja hX l 0 s s [] (fun j=>by rw [Nat.zero_add]) (kP (by simpa [ni] using hc)) (fun _=>rfl) h
 simp only [List.append_nil,List.reverse_reverse] at h2
 refine wp_region_any hm (sY (X:=X) h2 h5 (fun j q hq=>by have:=h6 j q hq;rwa [Nat.zero_add] at this) (fun a w hr=>⟨e,h3,hr.le h4.le⟩) ?_)
 obtain ⟨E,hE⟩:=hr
 exact ⟨E,hE.drawn⟩
end
end Go.Ab
