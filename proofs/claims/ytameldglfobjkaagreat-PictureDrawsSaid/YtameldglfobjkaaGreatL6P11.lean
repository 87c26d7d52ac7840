/- A part of the proof. -/
import Derived.KernelRfl
import Derived.Test.YtameldglfobjkaaGreatL6P10
set_option linter.unusedSimpArgs false
set_option linter.unusedVariables false
section
namespace Go.Ab
theorem bG.mk'{P:Program}{t sz iu:Nat}{k:TK}{zc:List AV}(h:(P.info? t).map (fun i=>(i.size,i.bytes,i.zero.map fun z=>z.cells.toList))=some (sz,iu,some (zc.map AV.cv)))
 (ho:(zc.all fun a=>a.cv.oneCell')=true) (hl:zc.length=sz)
 (hk:match k with
   | .sc=>∃d,P.underlying t=some d/\(match d with| .struct _| .array _ _=>False|_=>True)
   | .bool=>P.underlying t=some .bool
   | .int k=>P.underlying t=some (.int k)
   | .sl e=>P.underlying t=some (.slice e)
   | .pt e=>P.underlying t=some (.pointer e)
   | .st fs=>∃fields:Array Field,P.underlying t=some (.struct fields)/\fields.toList.map (fun f=>(f.offset,f.type))=fs
   | .ar n e=>P.underlying t=some (.array n e)
   | .mp k e=>P.underlying t=some (.map k e)/\∀w,(zeroValue e).run P w= .ok (.int .i64 0) w):bG P t ⟨k,sz,iu,zc⟩:=by
 refine⟨?_, ?_⟩
 ·cases hi:P.info? t with
  |none=>simp[hi]at h
  |some i=>
   cases hz:i.zero with
   |none=>simp[hi,hz]at h
   |some z=>
    simp[hi,hz]at h
    obtain⟨h1,h2,h3⟩:=h
    exact⟨i,z,rfl,h1,h2,hz,h3,fun a ha=>by rw[ad7]at ho;exact ho a ha,hl⟩
 ·cases k<;>exact hk
class Tk (P:Program) (t:Nat) (ti:TI):Prop where
 p:bG P t ti
theorem e8{P:Program}(w:World){t:Nat}(hu:P.underlying t=some (.int .i64))(em:Bool)(a:Int):(Instr.checkKey em 9999 t (.int .i64 a)).run P w= .ok () w:=by
 unfold Instr.checkKey
 simp[run_underlying hu]
theorem vl.two{P:Program}{t:Nat}{f g:Field}(hg:P.eqGuardType P.depth t=false)(hs:P.stoodInHeld t=false)(hu:P.underlying t=some (.struct #[f,g]))
 (hf:f.name≠ "_") (XA:f.offset=0) (hft:P.underlying f.type=some (.int .i64)) (Ss:g.name≠ "_") (XB:g.offset=1) (hgt:P.underlying g.type=some (.int .i64)):vl P t 2:=by
 refine⟨hg,fun w xs ys (hx:xs.length=2) (hy:ys.length=2)=> ?_⟩
 obtain⟨a,b,rfl⟩:∃a b,xs= [a,b]:=by match xs,hx with| [a,b],_=>exact⟨a,b,rfl⟩
 obtain⟨c,d,rfl⟩:∃a b,ys= [a,b]:=by match ys,hy with| [a,b],_=>exact⟨a,b,rfl⟩
 have NR:P.fieldsOf t= #[f,g]:=by simp[Program.fieldsOf,hu]
 have he:=run_equalIn_struct (P:=P) w 9999 t #[.int .i64 a, .int .i64 b] #[.int .i64 c, .int .i64 d] (by rw[NR];exact hu) hs
 rw[NR]at he
 have hpart:∀(ty:Nat) (cs:Array Value) (o:Nat) (v:Value),P.underlying ty=some (.int .i64)->cs[o]? =some v->(part ty cs o).run P w= .ok v w:=by
  intro ty cs o v h1 h2
  simp[part,isAgg,run_underlying h1,h2]
 refine⟨he.trans ?_,fun em=> ?_⟩
 rotate_left
 ·have xN:=hu
  unfold Instr.checkKey
  simp only[Sem.run_bind,run_underlying xN,Result.andThen_ok,adC,adO]
  simp[hf,Ss,XA,XB,hpart f.type #[.int .i64 a, .int .i64 b] 0 _ hft rfl,hpart g.type #[.int .i64 a, .int .i64 b] 1 _ hgt rfl,e8 w hft em,e8 w hgt em]
 simp only[Op.eqFields,hf,Ss,ne_eq,not_false_eq_true,if_true,XA,XB,Sem.run_bind]
 rw[hpart f.type _ 0 (.int .i64 a) hft rfl,Result.andThen_ok,hpart f.type _ 0 (.int .i64 c) hft rfl,Result.andThen_ok,run_equalIn_int w 9998 f.type .i64 .i64 a c hft,Result.andThen_ok]
 by_cases hac:a=c
 ·subst hac
  simp only[beq_self_eq_true,aet,aec,if_false,Sem.run_bind]
  rw[hpart g.type _ 1 (.int .i64 b) hgt rfl,Result.andThen_ok,hpart g.type _ 1 (.int .i64 d) hgt rfl,Result.andThen_ok,run_equalIn_int w 9998 g.type .i64 .i64 b d hgt,Result.andThen_ok]
  by_cases hbd:b=d
  ·subst hbd;simp
  ·simp[hbd]
 ·simp[hac]
theorem vl.three{P:Program}{t:Nat}{f g q:Field}(hg:P.eqGuardType P.depth t=false)(hs:P.stoodInHeld t=false)(hu:P.underlying t=some (.struct #[f,g,q]))
 (hf:f.name≠ "_") (XA:f.offset=0) (hft:P.underlying f.type=some (.int .i64)) (Ss:g.name≠ "_") (XB:g.offset=1) (hgt:P.underlying g.type=some (.int .i64))
 (Ki:q.name≠ "_") (NX:q.offset=2) (XC:P.underlying q.type=some (.int .i64)):vl P t 3:=by
 refine⟨hg,fun w xs ys (hx:xs.length=3) (hy:ys.length=3)=> ?_⟩
 obtain⟨a,b,c,rfl⟩:∃a b c,xs= [a,b,c]:=by match xs,hx with| [a,b,c],_=>exact⟨a,b,c,rfl⟩
 obtain⟨a',b',c',rfl⟩:∃a b c,ys= [a,b,c]:=by match ys,hy with| [a,b,c],_=>exact⟨a,b,c,rfl⟩
 have NR:P.fieldsOf t= #[f,g,q]:=by simp[Program.fieldsOf,hu]
 have he:=run_equalIn_struct (P:=P) w 9999 t #[.int .i64 a, .int .i64 b, .int .i64 c] #[.int .i64 a', .int .i64 b', .int .i64 c'] (by rw[NR];exact hu) hs
 rw[NR]at he
 have hpart:∀(ty:Nat) (cs:Array Value) (o:Nat) (v:Value),P.underlying ty=some (.int .i64)->cs[o]? =some v->(part ty cs o).run P w= .ok v w:=by
  intro ty cs o v h1 h2
  simp[part,isAgg,run_underlying h1,h2]
 refine⟨he.trans ?_,fun em=> ?_⟩
 rotate_left
 ·have xN:=hu
  unfold Instr.checkKey
  simp only[Sem.run_bind,run_underlying xN,Result.andThen_ok,adC,adO]
  simp[hf,Ss,Ki,XA,XB,NX,hpart f.type #[.int .i64 a, .int .i64 b, .int .i64 c] 0 _ hft rfl,hpart g.type #[.int .i64 a, .int .i64 b, .int .i64 c] 1 _ hgt rfl,hpart q.type #[.int .i64 a, .int .i64 b, .int .i64 c] 2 _ XC rfl,e8 w hft em,e8 w hgt em,e8 w XC em]
 simp only[Op.eqFields,hf,Ss,Ki,ne_eq,not_false_eq_true,if_true,XA,XB,NX,Sem.run_bind]
 rw[hpart f.type _ 0 (.int .i64 a) hft rfl,Result.andThen_ok,hpart f.type _ 0 (.int .i64 a') hft rfl,Result.andThen_ok,run_equalIn_int w 9998 f.type .i64 .i64 a a' hft,Result.andThen_ok]
 by_cases hac:a=a'
 ·subst hac
  simp only[beq_self_eq_true,aet,aec,if_false,Sem.run_bind]
  rw[hpart g.type _ 1 (.int .i64 b) hgt rfl,Result.andThen_ok,hpart g.type _ 1 (.int .i64 b') hgt rfl,Result.andThen_ok,run_equalIn_int w 9998 g.type .i64 .i64 b b' hgt,Result.andThen_ok]
  by_cases hbd:b=b'
  ·subst hbd
   simp only[beq_self_eq_true,aet,aec,if_false,Sem.run_bind]
   rw[hpart q.type _ 2 (.int .i64 c) XC rfl,Result.andThen_ok,hpart q.type _ 2 (.int .i64 c') XC rfl,Result.andThen_ok,run_equalIn_int w 9998 q.type .i64 .i64 c c' XC,Result.andThen_ok]
   by_cases hcd:c=c'
   ·subst hcd;simp
   ·simp[hcd]
  ·simp[hbd]
 ·simp[hac]
section
variable {X:Ctx} {Q:Exit->ASt->Prop} {s:ASt} {C:Cfg}
theorem wB{K:ASt->Prop}(h:K s):athen K Q .normal s:=h
end
theorem ag{X:Ctx}{Q:Exit->ASt->Prop}{s:ASt}{x:Code}{ι:Type}(p:ι->Prop)(I:ι->ASt)(μ:ι->Nat)(i0:ι)(hp:p i0)(h0:Le s (I i0))
 (h:∀i,p i->cR X x (athen (fun s'=>∃j,p j/\Le s' (I j)/\μ j<μ i) Q) (I i)):cR X (.loop x) Q s:=
 OF (ι:= {i:ι // p i}) (fun i=>I i.1) (fun i=>μ i.1) ⟨i0,hp⟩ h0 fun i=>OE (h i.1 i.2) fun e s hq=>by
  cases e<;>first|exact hq|(obtain⟨j,h1,h2,h3⟩:=hq;exact⟨⟨j,h1⟩,h2,h3⟩)
class Xc (X:Ctx) (P:outParam Program) (C:outParam Cfg):Prop where
 ok:X.Ok
 eq:X.C=C
 pr:X.P=P
 mix:X.P.follows .mixedOrders=true
theorem aa{X:Ctx}{o:Oper}{s:ASt}{K:LA->Prop}{P:Program}{C:Cfg}[hx:Xc X P C]{f:Nat}{as:List AV}{res:AV}
 (hs:Spec P f (Args as) [] res []) (zw:res.ids= []) (hK:K ⟨rsO s o, [], [], [],o.dst,res⟩):ACall X o (.fn f [] []) as s K:=by
 obtain⟨hX,hC,hP,_⟩:=hx
 subst hC;subst hP
 refine⟨fun ⟨c,fo,ho,hc,hf,has⟩=> ?_⟩
 rw[o5 ho hc]at hK
 exact CU (K:=K) hX id [] hs ho hc hf has (by simp) (by simp) trivial trivial (by simp) (by simp) (fun l l' h=>by simp[look]at h) (by simp) (by simp) (by simp) (by rw[zw];simp) (by simp)
  (fun s' E a w _ hE vals hv=>by simpa[Args,Env.pre]using hv) (by rw[AV.qH];exact hK)
def leT(t:List (Nat × AV)):List (Nat × AV)->Prop
 | []=>True
 |(k,v)::r=>get t k=v/\leT t r
def leM(m:List (Nat × AObj)):List (Nat × AObj)->Prop
 | []=>True
 |(k,v)::r=>look m k=some v/\leM m r
theorem bS{t:List (Nat × AV)} :∀ {t':List (Nat × AV)},leT t t'->∀k,get t' k= .jA\/get t k=get t' k
 | [],_,k=> .inl rfl
 |(i,v)::r,h,k=>by
  simp only[get]
  split
  ·rename_i hk;subst hk;exact .inr h.1
  ·exact bS h.2 k
theorem F0{m:List (Nat × AObj)} :∀ {m':List (Nat × AObj)},leM m m'->∀l o,look m' l=some o->look m l=some o
 | [],_,l,o,h=>by simp[look]at h
 |(i,v)::r,h,l,o,ho=>by
  simp only[look]at ho
  split at ho
  ·rename_i hk;subst hk;cases ho;exact h.1
  ·exact F0 h.2 l o ho
theorem Le.of{s s':ASt}(h1:leT s.t s'.t)(h2:leM s.m s'.m):Le s s':=⟨bS h1,F0 h2⟩
attribute [go_sem] leT leM Fin resK tupOf leR renA renO asN AV.ren AV.rens AObj.ren AV.emp.injEq AV.vw.injEq AObj.part.injEq AObj.nest.injEq AObj.nils.injEq AObj.orh.injEq mxLo isSlT cvt cvts cvtD rdX allSome List.any_cons List.any_nil D.sc.injEq D.sl.injEq D.pt.injEq Value.bool.injEq Value.int.injEq AV.d.injEq AV.agg.injEq AV.tup.injEq AV.ref.injEq AV.ptr.injEq AV.nil.injEq AObj.box.injEq AObj.tip.injEq AObj.own.injEq Option.some.injEq List.cons.injEq Prod.mk.injEq
attribute [go_sem] vcOp gslot aev cst rsOf rsO LA.app ASt.kill ASt.put putM rml rmk subT kl AV.sub AV.subs AObj.sub get look params vcLoad rowsOf partRows toD toDs allOne AV.isOne AV.fit avCells AV.ids AV.idss msOf over overD fillAV place evParts partOps partAVs allT allF evA evs optHi optLo vcSlice mxOk dlow vcBuiltin vcInt vcU vcSh vcEq eqInts eqBI boOf isSlT isPtT isBoT Cfg.sz Cfg.iu Cfg.zrow zrowOf LA.gd skipLA skipT athen ablock
attribute [go_sem] Nat.succ_ne_self ne_eq not_false_eq_true not_true_eq_false true_and and_true and_self false_and and_false if_true if_false Nat.zero_ne_one Nat.one_ne_zero Nat.add_zero Nat.zero_add Nat.zero_le Nat.le_refl Nat.lt_irrefl Nat.zero_lt_succ Nat.lt_add_one Bool.not_true Bool.not_false Bool.true_eq_false Bool.false_eq_true Bool.not_not forall_const true_implies false_implies implies_true beq_self_eq_true BEq.rfl Bool.true_and Bool.and_true Bool.false_and Bool.and_false Bool.true_or Bool.false_or Bool.false_bne Bool.true_bne Bool.bne_false Bool.bne_true Bool.true_xor Bool.false_xor Bool.xor_false Bool.xor_true Option.map_some Option.map_none Option.toList_some Option.toList_none List.length_cons List.length_nil List.length_map List.map_cons List.map_nil List.drop_zero List.drop_succ_cons List.drop_nil List.take_zero List.take_succ_cons List.take_nil List.getElem?_cons_zero List.getElem?_cons_succ List.getElem?_nil List.append_nil List.nil_append List.cons_append List.reverse_nil List.reverse_cons List.mem_cons List.not_mem_nil or_false false_or List.getElem?_toArray List.size_toArray not_or
inductive OT where
 |nil
 |br (i:Nat) (sub CX:OT)
def OT.Kw:OT->List Nat
 | .nil=> []
 | .br i _ CX=>i::CX.Kw
def OT.ok(ops:Array Oper):Nat->Bool->Array Bool->OT->Bool
 |_,true,listed, .nil=>Region.ready .any ops listed== []
 |_,false,_, .nil=>true
 |0,_,_, .br _ _ _=>false
 |fuel+1,first,listed, .br i sub CX=>(!first||Region.ready .any ops listed==i::CX.Kw)&&OT.ok ops fuel true (listed.setIfInBounds i true) sub&&OT.ok ops (fuel+1) false listed CX
def OT.vc(X:Ctx)(C:Cfg)(l:List Oper)(K:ASt->Prop):OT->Bool->ASt->Prop
 | .nil,first,s=>if first=true then K s else True
 | .br i sub CX,_,s=>(match l[i]? with
   |some o=>o.guard=none/\vcOp X C o s fun la=>OT.vc X C l K sub true (la.app s)
   |none=>False)/\OT.vc X C l K CX false s
theorem OT.CX{X:Ctx}{l:List Oper}{K:ASt->Prop}{s:ASt} :∀ {t:OT} {b:Bool} {fuel:Nat} {listed:Array Bool},OT.ok l.toArray (fuel+1) b listed t=true->t.vc X X.C l K b s->∀i∈t.Kw,∃o sub,l[i]? =some o/\o.guard=none/\
 OT.ok l.toArray fuel true (listed.setIfInBounds i true) sub=true/\vcOp X X.C o s fun la=>sub.vc X X.C l K true (la.app s)
 | .nil,_,_,_,_,_,i,hi=>by cases hi
 | .br j sub CX,b,fuel,listed,hok,qw,i,hi=>by
   simp only[OT.ok,adf]at hok
   simp only[OT.vc]at qw
   rcases adv.1 hi with rfl|hi
   ·obtain⟨h1,_⟩:=qw
    split at h1
    ·rename_i o ho
     exact⟨o,sub,ho,h1.1,hok.1.2,h1.2⟩
    ·exact h1.elim
   ·exact OT.CX hok.2 qw.2 i hi
theorem OT.sound{X:Ctx}(hX:X.Ok){l:List Oper}{K:ASt->Prop}{Q:Exit->Act->World->Prop}(hd:∀o∈l,∀d,o.dst=some d->d<X.n)(hQ:∀s a w,K s->Rel X s a w->Q .normal a w):
 ∀(fuel:Nat) (listed:Array Bool) (t:OT) (s:ASt) (a:Act) (w:World),OT.ok l.toArray fuel true listed t=true->t.vc X X.C l K true s->Rel X s a w->wpAny X.P .any l.toArray Q fuel listed a w:=by
 intro fuel
 induction fuel with
 |zero=>
  intro listed t s a w hok qw hr
  cases t with
  |nil=>
   simp only[OT.ok,beq_iff_eq]at hok
   simp only[OT.vc,if_true]at qw
   exact⟨hok,hQ s a w qw hr⟩
  |br i sub CX=>simp[OT.ok]at hok
 |succ fuel ih=>
  intro listed t s a w hok qw hr
  cases t with
  |nil=>
   simp only[OT.ok,beq_iff_eq]at hok
   simp only[OT.vc,if_true]at qw
   refine⟨fun _=>hQ s a w qw hr,fun i hi=> ?_⟩
   rw[hok]at hi;cases hi
  |br j sub CX=>
   have lU:Region.ready .any l.toArray listed=j::CX.Kw:=by
    simp only[OT.ok,adf,aet,aeK,beq_iff_eq]at hok
    exact hok.1.1
   refine⟨fun h=>absurd (lU.symm.trans h) (List.cons_ne_nil _ _),fun i hi=> ?_⟩
   rw[lU]at hi
   obtain⟨o,sub',h1,h2,h3,h4⟩:=OT.CX hok qw i hi
   obtain⟨la,g1,g2,g3⟩:=jH hX h4
   unfold wpOp
   rw[show l.toArray[i]? =some o from by simpa using h1]
   simp only
   rw[ac9 (by simp[Region.wanted,h2])]
   exact .inl (Oper.xU (fun a' w' hr'=>ih _ sub' (la.app s) a' w' h3 g3 hr') (g1.2 s a w (hd o (adM h1)) g2 hr))
section
variable {X:Ctx} {Q:Exit->ASt->Prop} {s:ASt} {C:Cfg}
theorem vO(hX:X.Ok)(hC:X.C=C)(hm:X.P.follows .mixedOrders=true){id:Nat}{l:List Oper}(t:OT)(ht:OT.ok l.toArray l.length true (Array.replicate l.length false) t=true)
 (h:t.vc X C l (Q .normal) true s):cR X (.region id l.toArray true) Q s:=by
 subst hC
 refine⟨fun hc a w hr=> ?_⟩
 refine wp_region_any hm ?_
 obtain⟨E,hE⟩:=hr
 rw[show l.toArray.size=l.length from by simp]
 exact OT.sound hX (qG (by simpa[vk]using hc)) (Q:=lift X Q) (fun s a w h1 h2=>⟨s,h1,h2⟩) _ _ t s a _ ht h ⟨E,hE.drawn⟩
end
theorem Mc{X:Ctx}{o:Oper}{s:ASt}{K:LA->Prop}{P:Program}{C:Cfg}[hx:Xc X P C]{f:Nat}{first caps as as':List AV}{res:AV}(mm:List (Nat × AObj))
 (hs:Spec P f (Args as') [] res [])
 (hmm:∀p∈mm,look s.m p.1=some p.2) (oZ:cvts (cvtD ⟨[],mm⟩) (first++as++caps) as') (zw:res.ids= [])
 (hK:K ⟨rsO s o,mm, [], [],o.dst,res⟩):ACall X o (.fn f first caps) as s K:=by
 obtain⟨hX,hC,hP,_⟩:=hx
 subst hC;subst hP
 refine⟨fun ⟨c,fo,ho,hc,hf,has⟩=> ?_⟩
 rw[o5 ho hc]at hK
 exact CU (K:=K) hX id mm hs ho hc hf has hmm (by simp) trivial trivial (by simp) (by simp) (fun l l' h=>by simp[look]at h) (by simp) (by simp) (by simp) (by rw[zw];simp) (by simp)
  (fun s' E a w hl hE vals hv=>by
    have:AVrs w E as' vals:=gT ⟨aK.refl _ _,fun _ _=>rfl,fun _ _=>rfl⟩ (FP (s:=⟨[],mm⟩) (fun l q hq=>hE.good.obj l q (hl _ (bn hq)))) oZ hv
    simpa[Args,Env.pre]using this) (by rw[AV.qH];exact hK)
def lookAll(s:ASt):List Nat->List (Nat × AObj)
 | []=> []
 |l::r=>match look s.m l with|some o=>(l,o)::lookAll s r|none=>lookAll s r
theorem fq(s:ASt):∀(ls:List Nat),∀p∈lookAll s ls,look s.m p.1=some p.2
 | [],p,h=>by cases h
 |l::r,p,h=>by
  unfold lookAll at h
  split at h
  ·rename_i o ho
   rcases adv.1 h with rfl|h
   ·exact ho
   ·exact fq s r p h
  ·exact fq s r p h
theorem dN{X:Ctx}{o:Oper}{s:ASt}{K:LA->Prop}{P:Program}{C:Cfg}[hx:Xc X P C]{f:Nat}{first caps as as':List AV}{res:AV}
 (hs:Spec P f (Args as') [] res [])
 (oZ:cvts (cvtD ⟨[],lookAll s (AV.idss (first++as++caps))⟩) (first++as++caps) as') (zw:res.ids= [])
 (hK:K ⟨rsO s o,lookAll s (AV.idss (first++as++caps)), [], [],o.dst,res⟩):ACall X o (.fn f first caps) as s K:=
 Mc _ hs (fq s _) oZ zw hK
attribute [go_sem] lookAll
def Ny(p:Prop):Prop:=p
section
variable {X:Ctx} {C:Cfg} {l rest:List Oper} {o:Oper} {s:ASt} {K:ASt->Prop} {KD:ASt->List Rec->Prop} {log:List Rec}
theorem oA(hg:o.guard=none)(h:∀K':LA->Prop,(∀la,vcOps X C l rest (la.app s) K->K' la)->vcOp X C o s K'):vcOps X C l (o::rest) s K:=by
 unfold vcOps;rw[hg];exact h _ fun _ h=>h
theorem oE{j g:Nat}{want b:Bool}(hg:o.guard=some (j,want))(hs:gslot l j=some g)(hb:get s.t g= .d (.sc (.bool b)))
 (h1:b=want->vcOp X C o (s.put (some g) (.d (.sc (.bool want)))) fun la=>vcOps X C l rest (la.app (s.put (some g) (.d (.sc (.bool want))))) K)
 (h2:b=(!want)->vcOps X C l rest ((s.put (some g) (.d (.sc (.bool (!want))))).put o.dst (.tup [])) K):vcOps X C l (o::rest) s K:=by
 unfold vcOps;simp only[hg,hs,hb];exact⟨h1,h2⟩
theorem oG{j g:Nat}{want:Bool}(hg:o.guard=some (j,want))(hs:gslot l j=some g)(hb:get s.t g= .tup [])(h:vcOps X C l rest (s.put o.dst (.tup [])) K):vcOps X C l (o::rest) s K:=by
 unfold vcOps;simp only[hg,hs,hb];exact h
theorem oC(h:K s):vcOps X C l [] s K:=h
theorem oB(hg:o.guard=none)(h:∀K':LA->Prop,(∀la,bW X C l rest (la.app s) (xZ C o la s::log) KD->K' la)->vcOp X C o s K'):bW X C l (o::rest) s log KD:=by
 unfold bW;rw[hg];exact h _ fun _ h=>h
theorem oF{j g:Nat}{want b:Bool}(hg:o.guard=some (j,want))(hs:gslot l j=some g)(hb:get s.t g= .d (.sc (.bool b)))
 (h1:b=want->vcOp X C o (s.put (some g) (.d (.sc (.bool want)))) fun la=>bW X C l rest (la.app (s.put (some g) (.d (.sc (.bool want))))) (eO (la.gd g want) (s.put (some g) (.d (.sc (.bool want))))::log) KD)
 (h2:b=(!want)->bW X C l rest ((s.put (some g) (.d (.sc (.bool (!want))))).put o.dst (.tup [])) (eO (skipLA g (!want) o.dst) (s.put (some g) (.d (.sc (.bool (!want)))))::log) KD):bW X C l (o::rest) s log KD:=by
 unfold bW;simp only[hg,hs,hb];exact⟨h1,h2⟩
theorem oH{j g:Nat}{want:Bool}(hg:o.guard=some (j,want))(hs:gslot l j=some g)(hb:get s.t g= .tup [])(h:bW X C l rest (s.put o.dst (.tup [])) (eO (skipT g o.dst) s::log) KD):bW X C l (o::rest) s log KD:=by
 unfold bW;simp only[hg,hs,hb];exact h
theorem oD{Q:ASt->Prop}(h1:AA l log.reverse=true)(h2:Q s):bW X C l [] s log (fun s' log=>AA l log.reverse=true/\Q s'):=⟨h1,h2⟩
theorem oI{i:Nat}{sub CX:OT}{b:Bool}(hi:l[i]? =some o)(hg:o.guard=none)(h:(∀K':LA->Prop,(∀la,OT.vc X C l K sub true (la.app s)->K' la)->vcOp X C o s K')/\OT.vc X C l K CX false s):OT.vc X C l K (.br i sub CX) b s:=by
 unfold OT.vc;rw[hi];exact⟨⟨hg,h.1 _ fun _ h=>h⟩,h.2⟩
theorem oJ(h:K s):OT.vc X C l K .nil true s:=by unfold OT.vc;exact h
theorem oK:OT.vc X C l K .nil false s:=by unfold OT.vc;exact trivial
end
section
variable {X:Ctx} {Q:Exit->ASt->Prop} {s:ASt} {C:Cfg}
theorem wA{id:Nat}(h:Q .normal s):ablock id Q .normal s:=h
theorem wC(hX:X.Ok)(hC:X.C=C){id:Nat}{l:List Oper}{y:Code}(h:vcOps X C l l s fun s'=>cR X y Q s'):cR X (.seq (.region id l.toArray false) y) Q s:=by
 subst hC;exact wG (AB hX h)
theorem wE(hX:X.Ok)(hC:X.C=C)(hm:X.P.follows .mixedOrders=true){id:Nat}{l:List Oper}{y:Code}(h:bW X C l l s [] (fun s' log=>AA l log.reverse=true/\cR X y Q s')):cR X (.seq (.region id l.toArray true) y) Q s:=by
 subst hC;exact wG (FZ hX hm h)
theorem wD(hX:X.Ok)(hC:X.C=C){id:Nat}{l:List Oper}(h:vcOps X C l l s fun s'=>Q .normal s'):cR X (.region id l.toArray false) Q s:=by
 subst hC;exact AB hX h
theorem wF(hX:X.Ok)(hC:X.C=C)(hm:X.P.follows .mixedOrders=true){id:Nat}{l:List Oper}(h:bW X C l l s [] (fun s' log=>AA l log.reverse=true/\Q .normal s')):cR X (.region id l.toArray true) Q s:=by
 subst hC;exact FZ hX hm h
end
def gd(v:AV)(w:Bool)(A B C:Prop)(D:Prop->Prop):Prop:=match v with
 | .d (.sc (.bool b))=>(b=w->A)/\(b=(!w)->B)
 | .tup []=>C
 | .jE p=>D p
 |_=>False
theorem gd.congr{v v':AV}{w:Bool}{A B C:Prop}{D:Prop->Prop}(h:v=v'):gd v w A B C D=gd v' w A B C D:=by rw[h]
section
variable {A B C:Prop} {D:Prop->Prop} {b:Bool}
theorem gd_tt:gd (.d (.sc (.bool true))) true A B C D=A:=by simp[gd]
theorem gd_tf:gd (.d (.sc (.bool true))) false A B C D=B:=by simp[gd]
theorem gd_ft:gd (.d (.sc (.bool false))) true A B C D=B:=by simp[gd]
theorem gd_ff:gd (.d (.sc (.bool false))) false A B C D=A:=by simp[gd]
theorem gd_n{w:Bool} :gd (.tup []) w A B C D=C:=rfl
theorem gdT(h1:b=true->A)(h2:b=false->B):gd (.d (.sc (.bool b))) true A B C D:=⟨h1,h2⟩
theorem gdF(h1:b=false->A)(h2:b=true->B):gd (.d (.sc (.bool b))) false A B C D:=⟨h1,h2⟩
theorem gdA{p:Prop}{w:Bool}(h:D p):gd (.jE p) w A B C D:=h
end
theorem Ny.congr{p:Prop} :Ny p=Ny p:=rfl
theorem vcOps.congr{X:Ctx}{C:Cfg}{l r:List Oper}{s s':ASt}{K:ASt->Prop}(h:s=s'):vcOps X C l r s K=vcOps X C l r s' K:=by rw[h]
class Gi (l:List Oper) (i:Nat) (o:outParam Oper):Prop where
 p:l[i]? =some o
instance Gi.z {o:Oper} {l:List Oper} :Gi (o::l) 0 o:=⟨rfl⟩
instance Gi.s {o q:Oper} {l:List Oper} {i:Nat} [h:Gi l i o]:Gi (q::l) (i+1) o:=⟨by simpa using h.p⟩
theorem Gi.slot{l:List Oper}{j g:Nat}{op:Op}{ty:Nat}{po:String}{af:Array Edge}{gu:Option (Nat × Bool)}(h:Gi l j ⟨some g,op,ty,po,af,gu⟩):gslot l j=some g:=by unfold gslot;rw[h.p]
class Rs (H:outParam Prop) (P:Prop):Prop where
 p:H->P
class Rn (H:outParam Prop) (P:Prop):Prop where
 p:H->P
section
variable {X:Ctx} {C:Cfg} {l rest:List Oper} {s:ASt} {K:ASt->Prop} {KD:ASt->List Rec->Prop} {log:List Rec} {Q:Exit->ASt->Prop}
variable {d:Option Nat} {op:Op} {ty:Nat} {po:String} {af:Array Edge}
theorem oP{j g:Nat}{w:Bool}(hs:gslot l j=some g)(h:gd (get s.t g) w
 (Ny (∀K':LA->Prop,(∀la,vcOps X C l rest (la.app (s.put (some g) (.d (.sc (.bool w))))) K->K' la)->vcOp X C ⟨d,op,ty,po,af,some (j,w)⟩ (s.put (some g) (.d (.sc (.bool w)))) K'))
 (vcOps X C l rest ((s.put (some g) (.d (.sc (.bool (!w))))).put d (.tup [])) K) (vcOps X C l rest (s.put d (.tup [])) K) fun _=>False):
 vcOps X C l (⟨d,op,ty,po,af,some (j,w)⟩::rest) s K:=by
 unfold gd at h
 split at h
 ·rename_i b hb;exact oE rfl hs hb (fun e=>h.1 e _ fun _ h=>h) h.2
 ·rename_i hb;exact oG rfl hs hb h
 ·exact h.elim
 ·exact h.elim
theorem oQ{j g:Nat}{w:Bool}(hs:gslot l j=some g)(h:gd (get s.t g) w
 (Ny (∀K':LA->Prop,(∀la,bW X C l rest (la.app (s.put (some g) (.d (.sc (.bool w))))) (eO (la.gd g w) (s.put (some g) (.d (.sc (.bool w))))::log) KD->K' la)->vcOp X C ⟨d,op,ty,po,af,some (j,w)⟩ (s.put (some g) (.d (.sc (.bool w)))) K'))
 (bW X C l rest ((s.put (some g) (.d (.sc (.bool (!w))))).put d (.tup [])) (eO (skipLA g (!w) d) (s.put (some g) (.d (.sc (.bool (!w)))))::log) KD)
 (bW X C l rest (s.put d (.tup [])) (eO (skipT g d) s::log) KD) fun _=>False):
 bW X C l (⟨d,op,ty,po,af,some (j,w)⟩::rest) s log KD:=by
 unfold gd at h
 split at h
 ·rename_i b hb;exact oF rfl hs hb (fun e=>h.1 e _ fun _ h=>h) h.2
 ·rename_i hb;exact oH rfl hs hb h
 ·exact h.elim
 ·exact h.elim
theorem wP{c:Nat}{x y:Code}(h:gd (get s.t c) true (cR X x Q s) (cR X y Q s) False fun p=>(p->cR X x Q s)/\cR X y Q s):cR X (.cond (.tmp c) x y) Q s:=by
 unfold gd at h
 split at h
 ·rename_i b hb;exact wM hb h.1 h.2
 ·exact h.elim
 ·rename_i p hb;exact wL hb h.1 h.2
 ·exact h.elim
instance Z8:Rs (Q .normal s) (cR X .skip Q s):=⟨wI⟩
instance Z9 {id:Nat} :Rs (Q (.exit id) s) (cR X (.exit id) Q s):=⟨wJ⟩
instance aaa:Rs (Q .ret s) (cR X .ret Q s):=⟨wK⟩
instance aab {c:Nat} {x y:Code} :Rs (gd (get s.t c) true (cR X x Q s) (cR X y Q s) False fun p=>(p->cR X x Q s)/\cR X y Q s) (cR X (.cond (.tmp c) x y) Q s):=⟨wP⟩
variable {op':Op} {ty' g:Nat} {po':String} {af':Array Edge} {gu:Option (Nat × Bool)} {j:Nat} {w:Bool}
instance aac:Rn (∀K':LA->Prop,(∀la,vcOps X C l rest (la.app s) K->K' la)->vcOp X C ⟨d,op,ty,po,af,none⟩ s K') (vcOps X C l (⟨d,op,ty,po,af,none⟩::rest) s K):=⟨oA rfl⟩
instance aad:Rn (∀K':LA->Prop,(∀la,bW X C l rest (la.app s) (xZ C ⟨d,op,ty,po,af,none⟩ la s::log) KD->K' la)->vcOp X C ⟨d,op,ty,po,af,none⟩ s K') (bW X C l (⟨d,op,ty,po,af,none⟩::rest) s log KD):=⟨oB rfl⟩
instance aae [h:Gi l j ⟨some g,op',ty',po',af',gu⟩]:Rs (gd (get s.t g) w
 (Ny (∀K':LA->Prop,(∀la,vcOps X C l rest (la.app (s.put (some g) (.d (.sc (.bool w))))) K->K' la)->vcOp X C ⟨d,op,ty,po,af,some (j,w)⟩ (s.put (some g) (.d (.sc (.bool w)))) K'))
 (vcOps X C l rest ((s.put (some g) (.d (.sc (.bool (!w))))).put d (.tup [])) K) (vcOps X C l rest (s.put d (.tup [])) K) fun _=>False) (vcOps X C l (⟨d,op,ty,po,af,some (j,w)⟩::rest) s K):=⟨oP h.slot⟩
instance aaf [h:Gi l j ⟨some g,op',ty',po',af',gu⟩]:Rs (gd (get s.t g) w
 (Ny (∀K':LA->Prop,(∀la,bW X C l rest (la.app (s.put (some g) (.d (.sc (.bool w))))) (eO (la.gd g w) (s.put (some g) (.d (.sc (.bool w))))::log) KD->K' la)->vcOp X C ⟨d,op,ty,po,af,some (j,w)⟩ (s.put (some g) (.d (.sc (.bool w)))) K'))
 (bW X C l rest ((s.put (some g) (.d (.sc (.bool (!w))))).put d (.tup [])) (eO (skipLA g (!w) d) (s.put (some g) (.d (.sc (.bool (!w)))))::log) KD)
 (bW X C l rest (s.put d (.tup [])) (eO (skipT g d) s::log) KD) fun _=>False) (bW X C l (⟨d,op,ty,po,af,some (j,w)⟩::rest) s log KD):=⟨oQ h.slot⟩
instance aag {p:Prop} :Rn p (Ny p):=⟨fun h=>h⟩
instance aah {i:Nat} {sub CX:OT} {b:Bool} [h:Gi l i ⟨d,op,ty,po,af,none⟩]:Rn ((∀K':LA->Prop,(∀la,OT.vc X C l K sub true (la.app s)->K' la)->vcOp X C ⟨d,op,ty,po,af,none⟩ s K')/\OT.vc X C l K CX false s) (OT.vc X C l K (.br i sub CX) b s):=⟨oI h.p rfl⟩
instance aai:Rn (K s) (OT.vc X C l K .nil true s):=⟨oJ⟩
instance aaj:Rs True (OT.vc X C l K .nil false s):=⟨fun _=>oK⟩
instance aak:Rn (K s) (vcOps X C l [] s K):=⟨oC⟩
instance aal {id:Nat} :Rn (Q .normal s) (ablock id Q .normal s):=⟨wA⟩
instance aam {L:ASt->Prop} :Rn (L s) (athen L Q .normal s):=⟨wB⟩
variable {P:Program}
instance aan [h:Xc X P C] {id:Nat} {y:Code} :Rn (vcOps X C l l s fun s'=>cR X y Q s') (cR X (.seq (.region id l.toArray false) y) Q s):=⟨wC h.ok h.eq⟩
instance aao [h:Xc X P C] {id:Nat} :Rn (vcOps X C l l s fun s'=>Q .normal s') (cR X (.region id l.toArray false) Q s):=⟨wD h.ok h.eq⟩
instance aap [h:Xc X P C] {id:Nat} {y:Code} :Rn (bW X C l l s [] (fun s' log=>AA l log.reverse=true/\cR X y Q s')) (cR X (.seq (.region id l.toArray true) y) Q s):=⟨wE h.ok h.eq h.mix⟩
instance aaq [h:Xc X P C] {id:Nat} :Rn (bW X C l l s [] (fun s' log=>AA l log.reverse=true/\Q .normal s')) (cR X (.region id l.toArray true) Q s):=⟨wF h.ok h.eq h.mix⟩
instance aar {id:Nat} {x:Code} :Rn (cR X x (ablock id Q) s) (cR X (.block id x) Q s):=⟨wH⟩
instance aat {A B C:Prop} {D:Prop->Prop} {b:Bool} :Rn ((b=true->A)/\(b=false->B)) (gd (.d (.sc (.bool b))) true A B C D):=⟨fun h=>gdT h.1 h.2⟩
instance aau {A B C:Prop} {D:Prop->Prop} {b:Bool} :Rn ((b=false->A)/\(b=true->B)) (gd (.d (.sc (.bool b))) false A B C D):=⟨fun h=>gdF h.1 h.2⟩
instance aav {A B C:Prop} {D:Prop->Prop} {p:Prop} {w:Bool} :Rn (D p) (gd (.jE p) w A B C D):=⟨gdA⟩
end
section
variable {X:Ctx} {s:ASt} {Q:Exit->ASt->Prop}
instance (priority:=low) aaw {x y:Code} :Rn (cR X x (athen (fun s'=>cR X y Q s') Q) s) (cR X (.seq x y) Q s):=⟨wG⟩
end
theorem Spec.hd{P:Program}{C:Cfg}{f:Nat}{fn:Func}{c:Code}{n:Nat}{rs:List RV}{as:List AV}{m:List (Nat × AObj)}{res:AV}{m':List (Nat × AObj)}
 (hC:C.Ok P) (hf:P.funcs[f]? =some fn) (hb:fn.body=some c) (hname:(fn.name== "runtime.NumGoroutine")=false) (hn:fn.ntmps=n) (xO:fn.results=(rs.map RV.rv).toArray)
 (nE:∀p∈m,10000<=p.1/\p.2.isNest=false) (hm':∀p∈m',p.1<20000/\p.2.isNest=false) (hk:(vk n c&&Nat.ble as.length n)=true) (hx:P.follows .mixedOrders=true)
 (h:∀X:Ctx,X.Ok->X.P=P->X.C=C->X.P.follows .mixedOrders=true->Xc X P C->cR X c (Fin C rs [] res m') ⟨params 0 as,m⟩):Spec P f (Args as) m res m':=by
 rw[adf]at hk
 exact Spec.intro hC hf hb hname hn xO nE hm' hk.1 fun X hX hP XD _ _ vals hA=>⟨as,agc hk.2,hA,h X hX hP XD (by rw[hP];exact hx) ⟨hX,XD,hP,by rw[hP];exact hx⟩⟩
theorem Spec.hdR{P:Program}{C:Cfg}{f:Nat}{fn:Func}{c:Code}{n:Nat}{rs:List RV}(rn:List (Nat × Nat)){as:List AV}{m:List (Nat × AObj)}{res:AV}{m':List (Nat × AObj)}
 (hC:C.Ok P) (hf:P.funcs[f]? =some fn) (hb:fn.body=some c) (hname:(fn.name== "runtime.NumGoroutine")=false) (hn:fn.ntmps=n) (xO:fn.results=(rs.map RV.rv).toArray)
 (nE:∀p∈m,10000<=p.1/\p.2.isNest=false) (hm':∀p∈m',p.1<20000/\p.2.isNest=false) (RJ:∀l,look m l≠none->asN rn l=l) (hinj:∀p∈m',∀q∈m',asN rn p.1=asN rn q.1->p.1=q.1) (hk:(vk n c&&Nat.ble as.length n)=true) (hx:P.follows .mixedOrders=true)
 (h:∀X:Ctx,X.Ok->X.P=P->X.C=C->X.P.follows .mixedOrders=true->Xc X P C->cR X c (Fin C rs rn res m') ⟨params 0 as,m⟩):Spec P f (Args as) m res m':=by
 rw[adf]at hk
 exact Spec.OI rn hC hf hb hname hn xO nE hm' RJ hinj hk.1 fun X hX hP XD _ _ vals hA=>⟨as,agc hk.2,hA,h X hX hP XD (by rw[hP];exact hx) ⟨hX,XD,hP,by rw[hP];exact hx⟩⟩
def OX(m:List (Nat × AObj)):Bool:=m.all fun p=>Nat.ble 10000 p.1&& !p.2.isNest
def F2(m:List (Nat × AObj)):Bool:=m.all fun p=>Nat.blt p.1 20000&& !p.2.isNest
theorem Kx{m:List (Nat × AObj)}(h:OX m=true):∀p∈m,10000<=p.1/\p.2.isNest=false:=fun p hp=>by
 have:=ad7.1 h p hp
 rw[adf]at this
 exact⟨agc this.1,by simpa using this.2⟩
theorem F3{m:List (Nat × AObj)}(h:F2 m=true):∀p∈m,p.1<20000/\p.2.isNest=false:=fun p hp=>by
 have:=ad7.1 h p hp
 rw[adf]at this
 exact⟨agc this.1,by simpa using this.2⟩
section
variable {P:Program} {C:Cfg} {f:Nat} {fn:Func} {c:Code} {rs:List RV} {as:List AV} {m:List (Nat × AObj)} {res:AV} {m':List (Nat × AObj)}
theorem Spec.hq(hC:C.Ok P)(hx:P.follows .mixedOrders=true)(hf:P.funcs[f]? =some fn)(hb:fn.body=some c)(xO:fn.results=(rs.map RV.rv).toArray)
 (hk:((!(fn.name== "runtime.NumGoroutine"))&&(OX m&&(F2 m'&&(vk fn.ntmps c&&Nat.ble as.length fn.ntmps))))=true)
 (h:∀X:Ctx,X.Ok->X.P=P->X.C=C->X.P.follows .mixedOrders=true->Xc X P C->cR X c (Fin C rs [] res m') ⟨params 0 as,m⟩):Spec P f (Args as) m res m':=by
 simp only[adf]at hk
 exact Spec.hd hC hf hb (by simpa using hk.1) rfl xO (Kx hk.2.1) (F3 hk.2.2.1) (by rw[adf];exact hk.2.2.2) hx h
def rnM(rn:List (Nat × Nat))(m m':List (Nat × AObj)):Bool:=(m.all fun p=>asN rn p.1==p.1)&&m'.all fun p=>m'.all fun q=>(asN rn p.1==asN rn q.1)==(p.1==q.1)
theorem Spec.hqR(rn:List (Nat × Nat))(hC:C.Ok P)(hx:P.follows .mixedOrders=true)(hf:P.funcs[f]? =some fn)(hb:fn.body=some c)(xO:fn.results=(rs.map RV.rv).toArray)
 (hk:((!(fn.name== "runtime.NumGoroutine"))&&(OX m&&(F2 m'&&(rnM rn m m'&&(vk fn.ntmps c&&Nat.ble as.length fn.ntmps)))))=true)
 (h:∀X:Ctx,X.Ok->X.P=P->X.C=C->X.P.follows .mixedOrders=true->Xc X P C->cR X c (Fin C rs rn res m') ⟨params 0 as,m⟩):Spec P f (Args as) m res m':=by
 simp only[adf,rnM]at hk
 refine Spec.hdR rn hC hf hb (by simpa using hk.1) rfl xO (Kx hk.2.1) (F3 hk.2.2.1) (fun l hl=> ?_) (fun p hp q hq e=> ?_) (by rw[adf];exact hk.2.2.2.2) hx h
 ·obtain⟨o,ho⟩:=ade.1 hl
  simpa using ad7.1 hk.2.2.2.1.1 _ (bn ho)
 ·have:=ad7.1 (ad7.1 hk.2.2.2.1.2 p hp) q hq
  rw[e]at this
  simpa using this
end
attribute [go_sem] gd_tt gd_tf gd_ft gd_ff gd_n
attribute [go_sem] mpOk intsOf keyOf kW InR decide_eq_true_eq decide_eq_false_iff_not Bool.not_eq_true' Bool.not_eq_false' decide_true decide_false
theorem AS{π:Nat->Nat}{m':List (Nat × AObj)} :∀ {m:List (Nat × AObj)},(∀p∈m,look m' p.1≠none)->killM π m' m= []
 | [],_=>rfl
 |(l,o)::r,h=>by
  have h1:=h _ adH
  simp only at h1
  simp only[killM]
  cases hq:look m' l with
  |none=>exact absurd hq h1
  |some q=>exact AS fun p hp=>h p (adz _ hp)
theorem AT{π:Nat->Nat} :∀ {m:List (Nat × AObj)},(∀p∈m,p.2.ro=true)->renM π m= []
 | [],_=>rfl
 |(l,o)::r,h=>by
  have h1:=h _ adH
  cases o<;>simp[AObj.ro]at h1
  simp only[renM]
  exact AT fun p hp=>h p (adz _ hp)
def mapS:List (Nat × Nat)->List Nat
 | []=> []
 |p::r=>p.2::mapS r
def mapN(nm:List (Nat × Nat)):List (Nat × AObj)->List Nat
 | []=> []
 |p::r=>asN nm p.1::mapN nm r
attribute [go_sem] mapS mapN
theorem bw{X:Ctx}{o:Oper}{s:ASt}{K:LA->Prop}{P:Program}{C:Cfg}[hx:Xc X P C]{f:Nat}{first caps XE UZ:List AV}{m:List (Nat × AObj)}{res:AV}(nm:List (Nat × Nat))
 (hs:Spec P f (Args UZ) m res m)
 (h:(∀p∈m,p.2.ro=true/\((asN nm p.1,p.2.ren (asN nm))∈lookAll s (mapS nm)\/∃cells,p.2= .rob cells/\(asN nm p.1, .box (AV.rens (asN nm) cells))∈lookAll s (mapS nm)))/\(nodupM m)/\(∀p∈m,p.1<20000/\p.2.isNest=false)/\(∀p∈m,∀q∈m,asN nm p.1=asN nm q.1->p.1=q.1)/\(AV.rens (asN nm) UZ=first++XE++caps)/\(res.ids= [])/\(res.ren (asN nm)=res)/\(∀p∈m,∀l∈p.2.ids,look m l≠none))
 (hK:K ⟨rsO s o,lookAll s (mapS nm), [], [],o.dst,res⟩):ACall X o (.fn f first caps) XE s K:=by
 obtain⟨hm,hnm,dI,hinj,oZ,zw,hres,CA⟩:=h
 obtain⟨hX,hC,hP,_⟩:=hx
 subst hC;subst hP
 refine⟨fun ⟨c,fo,ho,hc,hf,has⟩=> ?_⟩
 rw[o5 ho hc]at hK
 have hin:∀p∈m,look m p.1≠none:=fun p hp=>by rw[aL hnm hp];simp
 exact CU (K:=K) hX (asN nm) (lookAll s (mapS nm)) hs ho hc hf has (fq s _) (fun p hp=>(hm p hp).2) hnm hnm dI dI
  (fun l l' hl hl' h=>by
    have mem:∀l,(look m l≠none\/look m l≠none)->∃p∈m,p.1=l:=fun l hl=>by
     obtain⟨q,hq⟩:=ade.1 (hl.elim id id)
     exact⟨_,bn hq,rfl⟩
    obtain⟨p,hp,rfl⟩:=mem l hl
    obtain⟨q,hq,rfl⟩:=mem l' hl'
    exact hinj p hp q hq h)
  (fun p hp h=>absurd h (hin p hp)) (fun p hp _=>aL hnm hp) (fun p hp _=>aL hnm hp) (by rw[zw];simp) CA
  (fun s' E a w _ hE vals hv=>by
    show AVrs w (E.pre (asN nm)) UZ vals
    rw[dg,oZ];exact hv)
  (by rw[AS hin,AT fun p hp=>(hm p hp).1,hres];exact hK)
structure cC (m:List (Nat × AObj)):Prop where
 ro:∀p∈m,p.2.ro=true
 nd:nodupM m
 low:∀p∈m,10000<=p.1/\p.1<20000
 ids:∀p∈m,∀l∈p.2.ids,look m l≠none
theorem cC.nest{m:List (Nat × AObj)}(h:cC m):∀p∈m,p.2.isNest=false:=fun p hp=>by
 have:=h.ro p hp
 cases hq:p.2<;>rw[hq]at this<;>simp[AObj.ro]at this
 rfl
theorem cC.nil:cC []:=⟨by simp,trivial,by simp,by simp⟩
theorem aR{X:Ctx}{o:Oper}{s:ASt}{K:LA->Prop}{P:Program}{C:Cfg}[hx:Xc X P C]{f:Nat}{first caps as as':List AV}{m:List (Nat × AObj)}{res:AV}(hR:cC m)
 (hs:Spec P f (Args as') m res m)
 (hm:∀p∈m,look s.m p.1=some p.2) (oZ:as'=first++as++caps) (zw:res.ids= [])
 (hK:K ⟨rsO s o,m, [], [],o.dst,res⟩):ACall X o (.fn f first caps) as s K:=by
 obtain⟨hX,hC,hP,_⟩:=hx
 subst hC;subst hP
 refine⟨fun ⟨c,fo,ho,hc,hf,has⟩=> ?_⟩
 rw[o5 ho hc]at hK
 have hin:∀p∈m,look m p.1≠none:=fun p hp=>by rw[aL hR.nd hp];simp
 have dI:∀p∈m,p.1<20000/\p.2.isNest=false:=fun p hp=>⟨(hR.low p hp).2,hR.nest p hp⟩
 exact CU (K:=K) hX id m hs ho hc hf has hm (fun p hp=> .inl (by rw[AObj.qH];exact hp)) hR.nd hR.nd dI dI (fun l l' _ _ h=>h)
  (fun p hp h=>absurd h (hin p hp)) (fun p hp _=>aL hR.nd hp) (fun p hp _=>aL hR.nd hp) (by rw[zw];simp) hR.ids
  (fun s' E a w _ hE vals hv=>by
    show AVrs w (E.pre id) as' vals
    rw[oZ];exact hv)
  (by rw[AS hin,AT hR.ro,AV.qH];exact hK)
mutual
def AV.flat:AV->Bool
 | .d (.sc _)=>true
 | .agg vs=>AV.flats vs
 | .tup vs=>AV.flats vs
 | .jA=>true
 | .jE _=>true
 |_=>false
def AV.flats:List AV->Bool
 | []=>true
 |a::as=>AV.flat a&&AV.flats as
end
mutual
theorem AV.F4{w w':World}{E E':Env} :∀ {a:AV} {v:Value},a.flat=true->cG w E a v->cG w' E' a v
 | .d (.sc u),v,_,h=>by cases h with|sc _ h=>exact .sc _ h
 | .agg vs,v,hf,h=>by obtain⟨us,rfl,h⟩:=h;exact⟨us,rfl,AV.x4 (by simpa[AV.flat]using hf) h⟩
 | .tup vs,v,hf,h=>by obtain⟨us,rfl,h⟩:=h;exact⟨us,rfl,AV.x4 (by simpa[AV.flat]using hf) h⟩
 | .jA,_,_,_=>trivial
 | .jE _,_,_,h=>h
 | .d (.sl _ _),_,hf,_=>by simp[AV.flat]at hf
 | .d (.pt _),_,hf,_=>by simp[AV.flat]at hf
 | .nil _,_,hf,_=>by simp[AV.flat]at hf
 | .emp _,_,hf,_=>by simp[AV.flat]at hf
 | .ref _,_,hf,_=>by simp[AV.flat]at hf
 | .ptr _ _,_,hf,_=>by simp[AV.flat]at hf
 | .ep _ _ _ _,_,hf,_=>by simp[AV.flat]at hf
 | .vw _ _ _,_,hf,_=>by simp[AV.flat]at hf
 | .fn _ _ _,_,hf,_=>by simp[AV.flat]at hf
 | .mref _,_,hf,_=>by simp[AV.flat]at hf
theorem AV.x4{w w':World}{E E':Env} :∀ {as:List AV} {us:List Value},AV.flats as=true->AVrs w E as us->AVrs w' E' as us
 | [],_,_,h=>h
 |a::as,us,hf,h=>by
  simp only[AV.flats,adf]at hf
  obtain⟨u,us',rfl,h1,h2⟩:=h
  exact⟨u,us',rfl,AV.F4 hf.1 h1,AV.x4 hf.2 h2⟩
end
theorem AU{C:Cfg}{bad:Nat->Bool}{mM:Bool}{m m':List (Nat × AObj)}(hm:∀l o,look m l=some o->look m' l=some o):∀ {n:Nat} {a:AV} {x:D},rdX C bad mM m n a=some x->rdX C bad mM m' n a=some x:=by
 have flat:∀ {n:Nat} {a:AV} {x:D},(∀l o,a≠ .ptr l o)->rdX C bad mM m n a=some x->rdX C bad mM m' n a=some x:=by
  intro n a x hne h
  cases a with
  |ref l=>
   simp only[rdX]at h ⊢
   cases hl:look m l with
   |none=>simp[hl]at h
   |some o=>rw[hm l o hl];rw[hl]at h;exact h
  |vw l sz i=>
   simp only[rdX]at h ⊢
   cases hl:look m l with
   |none=>simp[hl]at h
   |some o=>rw[hm l o hl];rw[hl]at h;exact h
  |ptr l o=>exact absurd rfl (hne l o)
  |_=>first|(simp[rdX]at h;done)|(simpa[rdX]using h)
 intro n
 induction n with
 |zero=>
  intro a x h
  cases a with
  |ptr l o=>simp[rdX]at h
  |_=>exact flat (fun _ _ e=>by cases e) h
 |succ n ih=>
  intro a x h
  have key:∀ {cells:List AV} {ds:List D},allSome (cells.map fun a=>rdX C bad mM m n a)=some ds->allSome (cells.map fun a=>rdX C bad mM m' n a)=some ds:=by
   intro cells
   induction cells with
   |nil=>intro ds h;exact h
   |cons c cells ih2=>
    intro ds h
    simp only[adC]at h ⊢
    cases hc:rdX C bad mM m n c with
    |none=>rw[hc]at h;simp[allSome]at h
    |some y=>
     rw[hc]at h
     rw[ih hc]
     simp only[allSome]at h ⊢
     cases hr:allSome (cells.map fun a=>rdX C bad mM m n a) with
     |none=>simp[hr]at h
     |some ys=>rw[hr]at h;rw[ih2 hr];exact h
  cases a with
  |ptr l o=>
   simp only[rdX]at h ⊢
   cases hl:look m l with
   |none=>simp[hl]at h
   |some ob=>
    rw[hm l ob hl];rw[hl]at h
    cases ob with
    |box cells=>
     simp only at h ⊢
     split at h
     ·cases h
     ·rename_i hb
      rw[ac7 hb]
      cases hs:allSome (cells.map fun a=>rdX C bad mM m n a) with
      |none=>simp[hs]at h
      |some ds=>rw[hs]at h;rw[key hs];exact h
    |rob cells=>
     simp only at h ⊢
     split at h
     ·rename_i hb
      rw[ac9 hb]
      cases hs:allSome (cells.map fun a=>rdX C bad mM m n a) with
      |none=>simp[hs]at h
      |some ds=>rw[hs]at h;rw[key hs];exact h
     ·cases h
    |_=>cases h
  |_=>exact flat (fun _ _ e=>by cases e) h
def reach(s:ASt):Nat->List Nat->List (Nat × AObj)
 |0,_=> []
 |n+1,ls=>lookAll s ls++(match (lookAll s ls).flatMap fun p=>p.2.ids with| []=> []|ids=>reach s n ids)
theorem pF(s:ASt):∀(n:Nat) (ls:List Nat),∀p∈reach s n ls,look s.m p.1=some p.2
 |0,_,p,h=>by cases h
 |n+1,ls,p,h=>by
  simp only[reach,ac8]at h
  rcases h with h|h
  ·exact fq s _ p h
  ·split at h
   ·cases h
   ·exact pF s n _ p h
theorem cr{X:Ctx}{o:Oper}{s:ASt}{K:LA->Prop}{P:Program}{C:Cfg}[hx:Xc X P C]{f:Nat}{first caps as as':List AV}{res:AV}
 (hs:Spec P f (Args as') [] res [])
 (oZ:cvts (fun a x=>rdX C (fun _=>false) true (reach s 3 (AV.idss (first++as++caps))) 4 a=some x) (first++as++caps) as') (hfl:res.flat=true)
 (hK:K ⟨rsO s o,reach s 3 (AV.idss (first++as++caps)), [], [],o.dst,res⟩):ACall X o (.fn f first caps) as s K:=by
 obtain⟨hX,hC,hP,_⟩:=hx
 subst hC;subst hP
 refine⟨fun ⟨c,fo,ho,hc,hf,has⟩=> ?_⟩
 rw[o5 ho hc]at hK
 refine⟨_,⟨rfl, ?_⟩,⟨aH s _,pF s _ _⟩,hK⟩
 rintro s' a w hdn jI ⟨E,hE⟩
 have hfo:=hE.evs jI.1 X.C 0 (x:=fo) (by simp)
 rw[hf]at hfo
 obtain⟨us,vs,hfo,uu,tQ⟩:=hfo
 have hargs:=sq (s:=s) hE c.args.toList c.argTypes.toList (fun p hp=>jI.1 p (by cases fo<;>simp[rsOf,hp]))
 rw[has]at hargs
 have AH:AVrs w E (first++as++caps) (us++c.args.toList.map a.eval++vs):=(uu.append hargs).append tQ
 obtain⟨fn,cd,hfn,hname,hbody⟩:=hs.can
 have hrun:(execOp a.eval o).run X.P w= .ok (.enter f (us++c.args.toList.map a.eval++vs).toArray) w:=by
  have h1:us.toArray++c.args.map a.eval++vs.toArray=(us++c.args.toList.map a.eval++vs).toArray:=by
   apply adW.1;simp
  have h2:=dG (P:=X.P) hfn hname hbody (us.toArray++c.args.map a.eval++vs.toArray) w
  rw[h1]at h2
  simp only[execOp,ho,resolve,hc,hfo,Deferred.ofValue,Sem.run_bind,Sem.run_pure,Result.andThen_ok,invoke]
  rw[h1];exact h2
 have kF:∀l,bM [] l=none:=fun l=>by unfold bM;split<;>rfl
 have F5:aK w E.z w (fun b=>max (E.z b) (dh w b)):=fun b=>⟨agr _ _,fun _ _=>rfl⟩
 have AW:Good [] ⟨E.ρ,E.σ,fun b=>max (E.z b) (dh w b)⟩ w:=by
  refine⟨fun l h=>by simp[look]at h,fun l l' b h=>by simp[kF]at h,fun l o h=>by simp[kF]at h,fun b hb=> ?_⟩
  simp[hE.good.fresh b hb,dh,aeg hb]
 have hA:AVrs w ⟨E.ρ,E.σ,fun b=>max (E.z b) (dh w b)⟩ as' (us++c.args.toList.map a.eval++vs):=
  gT (E':=⟨E.ρ,E.σ,fun b=>max (E.z b) (dh w b)⟩) ⟨F5,fun _ _=>rfl,fun _ _=>rfl⟩ (fun a x v RM hr=>vC hE.good F5 (fun l o b _ _ _ _=>agj _ _) (AU (fun l o hl=>jI.2 _ (bn hl)) RM) hr) oZ AH
 unfold Oper.wp
 rw[hrun]
 refine(hs.calls _ w _ AW hA).mono ?_
 rintro e w' ⟨v,E',rfl,hst,hg',qg,hres⟩
 have hheap:∀b,b<w.heap.size->w'.heap[b]? =w.heap[b]? :=fun b hb=>(hst.frame b hb (by rintro⟨l,o,hl,_⟩;simp[kF]at hl)).1
 refine⟨E,hE.app' ⟨rsOf s (fo::c.args.toList),reach s 3 (AV.idss (first++as++caps)), [], [],o.dst,res⟩ E w' v (fun b=>⟨adg _,fun o ho=> ?_⟩) hst.os hst.tape hst.output hst.size (fun l _=>⟨rfl,rfl⟩) (fun l x hl=>by simp[kl]at hl) (fun l _=>⟨rfl,rfl⟩) (fun l hl=>absurd rfl hl) (fun l o hl=>by simp[look]at hl) (fun b hb=> .inl ⟨hheap b hb,rfl⟩)
  (fun l o hl=>by simp[look]at hl) (fun l l' b hl=>absurd rfl hl) (fun l b hl=>absurd rfl hl) (fun b hb=>hE.good.fresh b (aej hst.size hb)) (AV.F4 hfl hres) hdn⟩
 by_cases hb:b<w.heap.size
 ·exact cell?_of_heap (hheap b hb) o
 ·rw[hE.good.fresh b (by omega)]at ho;omega
theorem aS{X:Ctx}{o:Oper}{s:ASt}{K:LA->Prop}{P:Program}{C:Cfg}[hx:Xc X P C]{f:Nat}{first caps as as':List AV}{m m':List (Nat × AObj)}{res:AV}(nm:List (Nat × Nat))
 (hs:Spec P f (Args as') m res m')
 (h:(∀p∈m,(asN nm p.1,p.2.ren (asN nm))∈lookAll s (mapN nm m)\/∃cells,p.2= .rob cells/\(asN nm p.1, .box (AV.rens (asN nm) cells))∈lookAll s (mapN nm m))/\(nodupM m)/\(nodupM m')/\(∀p∈m,p.1<20000/\p.2.isNest=false)/\(∀p∈m',p.1<20000/\p.2.isNest=false)/\(∀p∈m++m',∀q∈m++m',asN nm p.1=asN nm q.1->p.1=q.1)/\(∀p∈m',look m p.1=none->asN nm p.1<10000)/\(∀p∈m',p.2.ro=true->look m p.1=some p.2)/\(∀p∈m,p.2.ro=true->look m' p.1=some p.2)/\(∀l∈res.ids,look m' l≠none)/\(∀p∈m',∀l∈p.2.ids,look m' l≠none)/\(AV.rens (asN nm) as'=first++as++caps))
 (hK:K ⟨rsO s o,lookAll s (mapN nm m),killM (asN nm) m m'++killM (asN nm) m' m,renM (asN nm) m',o.dst,res.ren (asN nm)⟩):ACall X o (.fn f first caps) as s K:=by
 obtain⟨hm,hnm,zv,dI,tD,hinj,hnew,hro,Ir,FT,CA,oZ⟩:=h
 obtain⟨hX,hC,hP,_⟩:=hx
 subst hC;subst hP
 refine⟨fun ⟨c,fo,ho,hc,hf,has⟩=> ?_⟩
 rw[o5 ho hc]at hK
 have mem:∀l,(look m l≠none\/look m' l≠none)->∃p∈m++m',p.1=l:=fun l hl=>by
  rcases hl with hl|hl
  ·obtain⟨q,hq⟩:=ade.1 hl
   exact⟨_,adR _ (bn hq),rfl⟩
  ·obtain⟨q,hq⟩:=ade.1 hl
   exact⟨_,adZ _ (bn hq),rfl⟩
 exact CU (K:=K) hX (asN nm) _ hs ho hc hf has (fq s _) hm hnm zv dI tD
  (fun l l' hl hl' h=>by
    obtain⟨p,hp,rfl⟩:=mem l hl
    obtain⟨q,hq,rfl⟩:=mem l' hl'
    exact hinj p hp q hq h) hnew hro Ir FT CA
  (fun s' E a w _ hE vals hv=>by
    show AVrs w (E.pre (asN nm)) as' vals
    rw[dg,oZ];exact hv) hK
def lowI:List Nat->Prop
 | []=>True
 |x::r=>x<1000000/\lowI r
def lowT:List (Nat × AV)->Prop
 | []=>True
 |(_,a)::r=>lowI a.ids/\lowT r
def lowM:List (Nat × AObj)->Prop
 | []=>True
 |(_,o)::r=>lowI o.ids/\lowM r
theorem AX:∀ {l:List Nat},lowI l->∀x∈l,x<1000000
 | [],_,x,h=>by cases h
 |y::r,hl,x,h=>by
  rcases adv.1 h with rfl|h
  ·exact hl.1
  ·exact AX hl.2 x h
theorem F6:∀ {t:List (Nat × AV)},lowT t->∀k,∀x∈(get t k).ids,x<1000000
 | [],_,k,x,h=>by simp[get,AV.ids]at h
 |(i,a)::r,hl,k,x,h=>by
  simp only[get]at h
  split at h
  ·exact AX hl.1 x h
  ·exact F6 hl.2 k x h
theorem vQ:∀ {m:List (Nat × AObj)},lowM m->∀p∈m,∀x∈p.2.ids,x<1000000
 | [],_,p,h=>by cases h
 |(i,o)::r,hl,p,h=>by
  rcases adv.1 h with rfl|h
  ·exact AX hl.1
  ·exact vQ hl.2 p h
theorem F7{X:Ctx}(hX:X.Ok){c:Code}{Q:Exit->ASt->Prop}{s:ASt}(l:Nat){e' e sz n:Nat}(hl:look s.m l=some (.nils e' e sz n))(hd:l<10000)(ht:lowT s.t)(hm:lowM s.m)
 (h:cR X c Q ⟨s.t,(l, .nest e' e sz (List.replicate n []) none)::rml l s.m⟩):cR X c Q s:=by
 refine⟨fun hk a w ⟨E,hE⟩=>h.run hk a w ?_⟩
 have o6:l<20000:=by omega
 obtain⟨E',hρ,hσ,hz,Ee,Ic⟩:∃E':Env,(∀q,(∀i,q≠nn l i)->E'.ρ q=E.ρ q)/\(∀q,(∀i,q≠nn l i)->E'.σ q=E.σ q)/\E'.z=E.z/\(∀i,E'.ρ (nn l i)=none)/\∀i,E'.σ (nn l i)= .slice none 0 0:=by
  classical
  exact⟨⟨fun q=>if ∃i,q=nn l i then none else E.ρ q,fun q=>if ∃i,q=nn l i then .slice none 0 0 else E.σ q,E.z⟩,
   fun q hq=>by simp only;rw[ac7 (fun ⟨i,hi⟩=>hq i hi)],fun q hq=>by simp only;rw[ac7 (fun ⟨i,hi⟩=>hq i hi)],rfl,fun i=>by simp only;rw[ac9 ⟨i,rfl⟩],fun i=>by simp only;rw[ac9 ⟨i,rfl⟩]⟩
 have OY:∀q,q<1000000->∀i,q≠nn l i:=fun q hq i=>by unfold nn;omega
 have hkeep:Am w E w E' (fun q=>q<1000000):=⟨by rw[hz];exact aK.refl _ _,fun q hq=>hρ q (OY q hq),fun q hq=>hσ q (OY q hq)⟩
 have dx:∀q,look ((l,AObj.nest e' e sz (List.replicate n []) none)::rml l s.m) q=if l=q then some (.nest e' e sz (List.replicate n []) none) else look s.m q:=fun q=>by
  simp only[look,An]
  split<;>rfl
 have kF:∀q o,bM ((l,AObj.nest e' e sz (List.replicate n []) none)::rml l s.m) q=some o->(q=l/\o= .nest e' e sz (List.replicate n []) none)\/(∃i,q=nn l i/\o= .tip e sz [])\/(q≠l/\(∀i,q≠nn l i)/\bM s.m q=some o):=by
  intro q o hq
  unfold bM at hq
  cases bR:nd q with
  |none=>
   rw[bR]at hq
   simp only[dx]at hq
   split at hq
   ·rename_i L0;cases hq;exact .inl ⟨L0.symm,rfl⟩
   ·rename_i L0
    refine .inr (.inr ⟨fun e=>L0 e.symm,fun i e=> ?_,by unfold bM;rw[bR];exact hq⟩)
    rw[e,nd_nn o6]at bR;cases bR
  |some p=>
   obtain⟨b,i⟩:=p
   obtain⟨rfl,hb⟩:=zJ bR
   rw[bR]at hq
   simp only[dx]at hq
   split at hq
   ·rename_i hlb
    subst hlb
    simp only[inner,reduceCtorEq,if_false,afg]at hq
    split at hq
    ·rename_i r hr
     split at hr
     ·cases hr;cases hq;exact .inr (.inl ⟨i,rfl,rfl⟩)
     ·cases hr
    ·cases hq
   ·rename_i hlb
    refine .inr (.inr ⟨fun e=> ?_,fun j e=> ?_,by rw[uh hb];exact hq⟩)
    ·rw[e,nd_low (by omega)]at bR;cases bR
    ·have h1:=nd_nn (l:=b) (i:=i) hb
     rw[e,nd_nn o6]at h1
     simp only[ady,afe]at h1
     exact hlb h1.1
 have XF:bM s.m l=some (.nils e' e sz n):=hE.good.bM hl
 have U0:∀i,l≠nn l i:=OY l (by omega)
 have hold:∀q o,bM s.m q=some o->q≠l->(∀i,q≠nn l i)->bF w E' q o:=by
  intro q o hq hql Ki
  have ho:=hE.good.gw q o hq
  have St:=hρ q Ki
  have Wz:=hσ q Ki
  have hmem:∀x∈o.ids,x<1000000:=by
   cases o with
   |box cells=>
    have oW:look s.m q=some (.box cells):=by
     unfold bM at hq
     split at hq
     ·exact hq
     ·rename_i b i _;cases hb:look s.m b with
      |none=>rw[hb]at hq;simp[inner]at hq
      |some ob=>rw[hb]at hq;cases ob<;>simp[inner]at hq
                split at hq<;>simp at hq
    exact vQ hm _ (bn oW)
   |rob cells=>
    have oW:look s.m q=some (.rob cells):=by
     unfold bM at hq
     split at hq
     ·exact hq
     ·rename_i b i _;cases hb:look s.m b with
      |none=>rw[hb]at hq;simp[inner]at hq
      |some ob=>rw[hb]at hq;cases ob<;>simp[inner]at hq
                split at hq<;>simp at hq
    exact vQ hm _ (bn oW)
   |orh e2 r2 i2 g2=>
    have oW:look s.m q=some (.orh e2 r2 i2 g2):=by
     unfold bM at hq
     split at hq
     ·exact hq
     ·rename_i b i _;cases hb:look s.m b with
      |none=>rw[hb]at hq;simp[inner]at hq
      |some ob=>rw[hb]at hq;cases ob<;>simp[inner]at hq
                split at hq<;>simp at hq
    exact vQ hm _ (bn oW)
   |_=>intro x hx;simp[AObj.ids]at hx
  cases o with
  |box cells=>
   obtain⟨b,vs,e,h1,h2,h3,h4,h5⟩:=ho
   exact⟨b,vs,e,by rw[St];exact h1,h2,by rw[hz];exact h3,AVrs.mono hkeep hmem h4,h5⟩
  |rob cells=>
   obtain⟨b,vs,e,h1,h2,h3,h4,h5⟩:=ho
   exact⟨b,vs,e,by rw[St];exact h1,h2,by rw[hz];exact h3,AVrs.mono hkeep hmem h4,h5⟩
  |nest e1 e2 sz2 rows hole=>
   obtain⟨b,cur,cap,h1,h2,h3,h4,h5,h6,h7,h8⟩:=ho
   have aax:q<20000:=by
    unfold bM at hq
    split at hq
    ·exact hE.good.low q (by rw[hq];simp)
    ·rename_i b i _;cases hb:look s.m b with
     |none=>rw[hb]at hq;simp[inner]at hq
     |some ob=>rw[hb]at hq;cases ob<;>simp[inner]at hq
               split at hq<;>simp at hq
   refine⟨b,cur,cap,by rw[St];exact h1,h2,by rw[Wz];exact h3,h4,h5,h6,by rw[hz];exact h7,fun i hi hh=> ?_⟩
   rw[hσ (nn q i) (fun j hj=>by
    have h1:=nd_nn (l:=q) (i:=i) aax
    rw[hj,nd_nn o6]at h1
    simp only[ady,afe]at h1
    exact hql h1.1.symm)]
   exact h8 i hi hh
  |own e sz rows=>simp only[bF]at ho ⊢;rw[St,Wz,hz];exact ho
  |tip e sz rows=>simp only[bF]at ho ⊢;rw[St,Wz,hz];exact ho
  |part e sz rows=>simp only[bF]at ho ⊢;rw[St,Wz,hz];exact ho
  |nils e' e sz n=>simp only[bF]at ho ⊢;rw[St,Wz,hz];exact ho
  |orh e2 r2 i2 g2=>
   obtain⟨k1,k2,b,cur,cap,h1,h2,h3,h4,h5,h6,h7,h8,h9⟩:=ho
   refine⟨k1,k2,b,cur,cap,by rw[St];exact h1,h2,by rw[Wz];exact h3,h4,h5,h6,by rw[hz];exact h7,by rw[hz];exact h8,fun g' e=> ?_⟩
   subst e
   rw[hkeep.σ g' (hmem g' (by simp[AObj.ids]))]
   exact h9 g' rfl
  |mp n ak=>simp only[bF]at ho ⊢;rw[St,hz];exact ho
 have OZ:∀q o,bM ((l,AObj.nest e' e sz (List.replicate n []) none)::rml l s.m) q=some o->∀ {b},E'.ρ q=some b->∃o0,bM s.m q=some o0/\(o.ro=false->o0.ro=false)/\E.ρ q=some b:=by
  intro q o hq b hb
  rcases kF q o hq with ⟨rfl,rfl⟩|⟨i,rfl,rfl⟩|⟨h1,h2,h3⟩
  ·exact⟨_,XF,fun _=>rfl,by rw[<- hb,hρ q U0]⟩
  ·rw[Ee]at hb;cases hb
  ·exact⟨_,h3,id,by rw[<- hb,hρ q h2]⟩
 refine⟨E',hE.defers,hE.size,⟨fun q hq=> ?_,fun q q' b hq oW hb hb'=> ?_,fun q o hq=> ?_,fun b hb=>by rw[hz];exact hE.good.fresh b hb⟩,⟨hE.j6.os,hE.j6.tape,hE.j6.output,hE.j6.size,by rw[hz];exact hE.j6.st,by rw[hz];exact hE.j6.frame,fun q hq=> ?_⟩,fun q o b hq hro hb=> ?_,fun k=>cG.mono hkeep (F6 ht k) (hE.slot k)⟩
 ·simp only[dx]at hq
  split at hq
  ·omega
  ·exact hE.good.low q hq
 ·obtain⟨o,ho⟩:=ade.1 hq
  obtain⟨o',ho'⟩:=ade.1 oW
  obtain⟨o1,h1,_,h2⟩:=OZ q o ho hb
  obtain⟨o1',CO,_,NU⟩:=OZ q' o' ho' hb'
  exact hE.good.inj q q' b (by simp[h1]) (by simp[CO]) h2 NU
 ·rcases kF q o hq with ⟨rfl,rfl⟩|⟨i,rfl,rfl⟩|⟨h1,h2,h3⟩
  ·obtain⟨b,cur,cap,h1,h2,h3,h4,h5,h6,h7,h8,h9⟩:=hE.good.obj _ _ hl
   refine⟨b,cur,cap,by rw[hρ q U0];exact h1,h2,by rw[hσ q U0,agd];exact h3,by rw[agd];exact h4,h5,h6,by rw[hz];exact h7,fun i hi _=> ?_⟩
   rw[Ic]
   rw[agd]at hi
   exact⟨h9 i hi,trivial⟩
  ·obtain⟨b,cur,cap,h1,h2,h3,h4,h5,h6,h7,h8,h9⟩:=hE.good.obj _ _ hl
   exact⟨by simp,h8, .inl ⟨Ee i,rfl,none,Ic i⟩⟩
  ·exact hold q o h3 h1 h2
 ·have Ki:∀i,q≠nn l i:=fun i e=>by
   subst e
   obtain⟨o,ho⟩:=ade.1 hq
   rw[uh o6]at ho
   have hlm:look X.m0 l≠none:=fun e=>by rw[e]at ho;simp[inner]at ho
   have:=hX.low l (by rw[bJ (by omega)];exact hlm)
   omega
  rw[hρ q Ki,hσ q Ki]
  exact hE.j6.RG q hq
 ·obtain⟨o1,h1,h2,h3⟩:=OZ q o hq hb
  exact hE.mine q o1 b h1 (h2 hro) h3
theorem U1{l i:Nat}(h:l<20000):nd (nn l i)=some (l,i):=nd_nn h
theorem nn_ne{l i n:Nat}(h:n<1000000):(nn l i=n)=False:=eq_false (by unfold nn;omega)
theorem ne_nn{l i n:Nat}(h:n<1000000):(n=nn l i)=False:=eq_false (by unfold nn;omega)
theorem nn_eq{l i j:Nat} :(nn l i=nn l j)=(i=j):=propext ⟨fun h=>by unfold nn at h;omega,fun h=>by rw[h]⟩
attribute [go_sem] nd_low U1 nn_ne ne_nn nn_eq inner killM renM reach AV.flat AV.flats lowI lowT lowM List.flatMap_cons List.flatMap_nil
attribute [go_sem] nodupM AObj.ids AObj.ro AObj.isNest
theorem U2{a b:Nat} :(Key.slot a==Key.slot b)=(a==b):=by
 rw[ad0];simp
theorem U3{a b:Nat} :(Key.obj a==Key.obj b)=(a==b):=by
 rw[ad0];simp
theorem U4{a b:Nat} :(Key.slot a==Key.obj b)=false:=by simp
theorem U5{a b:Nat} :(Key.obj a==Key.slot b)=false:=by simp
theorem U6{l i n:Nat}(h:n<1000000):(n==nn l i)=false:=by simp[ne_nn h]
theorem U7{l i n:Nat}(h:n<1000000):(nn l i==n)=false:=by simp[nn_ne h]
def AV.isNo:AV->Bool
 | .nil _=>true
 | .emp _=>true
 |_=>false
attribute [go_sem] AV.isNo
theorem dQ{X:Ctx}(hX:X.Ok){c:Code}{Q:Exit->ASt->Prop}{s:ASt}(k l:Nat)(o:AObj)(hk:(get s.t k).isNo=true)(hl:look s.m l=none)(hd:l<10000)
 (ho:∃e sz,0<sz/\(o= .own e sz []\/o= .tip e sz []))
 (h:cR X c Q (((⟨[], [], [(l,none)], [(l,o)],none, .jA⟩:LA).app s).put (some k) (.ref l))):cR X c Q s:=by
 refine⟨fun hk' a w ⟨E,hE⟩=>h.run hk' a w ?_⟩
 obtain⟨e,sz,hsz,ho⟩:=ho
 have hv:=hE.slot k
 obtain⟨p,hp⟩:∃p,a.tmps.getD k undef= .slice p 0 0:=by
  cases hq:get s.t k with
  |nil e=>rw[hq]at hv;exact⟨_,hv⟩
  |emp e=>rw[hq]at hv;exact hv
  |_=>rw[hq]at hk;cases hk
 obtain⟨E',hρ,hσ,hz,Ee,Ic⟩:∃E':Env,(∀q,q≠l->E'.ρ q=E.ρ q)/\(∀q,q≠l->E'.σ q=E.σ q)/\E'.z=E.z/\E'.ρ l=none/\E'.σ l= .slice p 0 0:=by
  exact⟨⟨fun q=>if q=l then none else E.ρ q,fun q=>if q=l then .slice p 0 0 else E.σ q,E.z⟩,fun q hq=>by simp only;rw[ac7 hq],fun q hq=>by simp only;rw[ac7 hq],rfl,by simp,by simp⟩
 have cM:∀q,kl [(l,(none:Option D))] q=if l=q then some none else none:=fun q=>by simp only[kl]
 have hlk:∀q,look [(l,o)] q=if l=q then some o else none:=fun q=>by simp only[look]
 have hr:=hE.app' ⟨[], [], [(l,none)], [(l,o)],none, .jA⟩ E' w undef (by rw[hz];exact aK.refl _ _) rfl rfl rfl (adg _)
  (fun q hq=>by
    have:q≠l:=fun e=>by subst e;simp[kl]at hq
    exact⟨hρ q this,hσ q this⟩)
  (fun q x hq=>by simp only[cM]at hq;split at hq<;>simp at hq)
  (fun q hq=>by
    have:q≠l:=fun e=>by
     subst e
     refine hq ?_
     rw[bJ (by omega)]
     by_cases hm:look X.m0 q=none
     ·exact hm
     ·have:=hX.low q (by rw[bJ (by omega)];exact hm)
      omega
    exact⟨hρ q this,hσ q this⟩)
  (fun q hq=>by simp only[cM]at hq;split at hq<;>simp at hq;omega)
  (fun q o' hq=>by
    simp only[hlk]at hq
    split at hq
    ·cases hq;exact⟨by omega,by rcases ho with rfl|rfl<;>rfl⟩
    ·cases hq)
  (fun b _=> .inl ⟨rfl,by rw[hz]⟩)
  (fun q o' hq=>by
    simp only[hlk]at hq
    split at hq
    ·rename_i e;subst e
     cases hq
     rcases ho with rfl|rfl
     ·exact⟨by simp,hsz, .inl ⟨Ee,rfl,p,Ic⟩⟩
     ·exact⟨by simp,hsz, .inl ⟨Ee,rfl,p,Ic⟩⟩
    ·cases hq)
  (fun q q' b hq _ hb=>by
    simp only[hlk]at hq
    split at hq
    ·rename_i e;subst e;rw[Ee]at hb;cases hb
    ·exact absurd rfl hq)
  (fun q b hq hb=>by
    simp only[hlk]at hq
    split at hq
    ·rename_i e;subst e;rw[Ee]at hb;cases hb
    ·exact absurd rfl hq)
  (fun b hb=>by rw[hz];exact hE.good.fresh b hb) trivial (fun d hd=>by cases hd)
 have ha:a.put none undef=a:=rfl
 rw[ha]at hr
 refine⟨E',⟨hr.defers,hr.size,hr.good,hr.j6,hr.mine,fun j=> ?_⟩⟩
 have hj:=hr.slot j
 simp only[ASt.put,get]
 split
 ·rename_i e;subst e
  rw[hp]
  exact⟨Ic.symm,trivial⟩
 ·rename_i hne
  exact hj
theorem pG{X:Ctx}(hX:X.Ok){c:Code}{Q:Exit->ASt->Prop}{s:ASt}(l:Nat){o:AObj}{e sz:Nat}{rows:List (List D)}(hl:look s.m l=some o)(ho:o= .own e sz rows\/o= .part e sz rows)
 (h:cR X c Q ((⟨[], [], [(l,some (.sl sz rows))], [],none, .jA⟩:LA).app s)):cR X c Q s:=by
 refine⟨fun hk' a w ⟨E,hE⟩=>h.run hk' a w ?_⟩
 have o6:l<20000:=hE.good.low l (by rw[hl];simp)
 have hro:o.ro=false:=by rcases ho with rfl|rfl<;>rfl
 obtain⟨z,hz,Se,hz1⟩:∃z:Nat->Nat,(∀b,E.ρ l=some b->z b=max (E.z b) (dh w b))/\(∀b,E.ρ l≠some b->z b=E.z b)/\∀b,w.heap.size<=b->z b=0:=by
  refine⟨fun b=>if E.ρ l=some b then max (E.z b) (dh w b) else E.z b,fun b hb=>by simp only;rw[ac9 hb],fun b hb=>by simp only;rw[ac7 hb],fun b hb=> ?_⟩
  have h0:=hE.good.fresh b hb
  have h1:dh w b=0:=by simp[dh,aeg hb]
  simp only[h0,h1];split<;>rfl
 have hst:aK w E.z w z:=fun b=>⟨by
  by_cases hb:E.ρ l=some b
  ·rw[hz b hb];exact agr _ _
  ·rw[Se b hb];exact adg _,fun _ _=>rfl⟩
 have cM:∀q,kl [(l,some (D.sl sz rows))] q=if l=q then some (some (.sl sz rows)) else none:=fun q=>by simp only[kl]
 have hlk:∀q,look ([]:List (Nat × AObj)) q=none:=fun q=>rfl
 have kF:bM s.m l=some o:=hE.good.bM hl
 have hr:=hE.app' ⟨[], [], [(l,some (.sl sz rows))], [],none, .jA⟩ ⟨E.ρ,E.σ,z⟩ w undef hst rfl rfl rfl (adg _)
  (fun q _=>⟨rfl,rfl⟩)
  (fun q x hq hs=>by
    simp only[cM]at hq
    split at hq
    ·rename_i e;subst e
     cases hq
     refine vC (C:=X.C) (bad:=fun _=>false) (mM:=false) (m:= [(l,o)]) (E:=E) (z:=z) (n:=1) (a:= .ref l) ?_ hst ?_ ?_ ⟨rfl,hs⟩
     ·exact⟨fun q hq=>by simp only[look]at hq;split at hq<;>simp_all,fun q q' b hq oW hb hb'=>by
       have f:∀q,bM [(l,o)] q≠none->q=l:=fun q hq=>by
        unfold bM at hq
        split at hq
        ·simp only[look]at hq;split at hq
         ·rename_i e;exact e.symm
         ·exact absurd rfl hq
        ·exfalso;simp only[look]at hq;split at hq
         ·rcases ho with rfl|rfl<;>simp[inner]at hq
         ·simp[inner]at hq
       rw[f q hq,f q' oW],fun q o' hq=>by
        have:q=l/\o'=o:=by
         unfold bM at hq
         split at hq
         ·simp only[look]at hq;split at hq
          ·rename_i e;exact⟨e.symm,by cases hq;rfl⟩
          ·cases hq
         ·exfalso;simp only[look]at hq;split at hq
          ·rcases ho with rfl|rfl<;>simp[inner]at hq
          ·simp[inner]at hq
        obtain⟨rfl,rfl⟩:=this
        exact hE.good.obj _ _ hl,hE.good.fresh⟩
     ·intro q o' b hq _ _ hb
      simp only[look]at hq
      split at hq
      ·rename_i e;subst e;rw[hz b hb];exact agj _ _
      ·cases hq
     ·rcases ho with rfl|rfl<;>simp[rdX,look]
    ·cases hq)
  (fun q _=>⟨rfl,rfl⟩)
  (fun q hq=>by simp only[cM]at hq;split at hq<;>simp at hq;omega)
  (fun q o' hq=>by simp[hlk]at hq)
  (fun b _=>by
    by_cases hb:E.ρ l=some b
    ·exact .inr ⟨l,o,kF,hro,hb, .inl (by simp[cM])⟩
    ·exact .inl ⟨rfl,Se b hb⟩)
  (fun q o' hq=>by simp[hlk]at hq) (fun q q' b hq=>absurd rfl hq) (fun q b hq=>absurd rfl hq) hz1 trivial (fun d hd=>by cases hd)
 have ha:a.put none undef=a:=rfl
 rw[ha]at hr
 exact⟨_,hr⟩
theorem uC{X:Ctx}(hX:X.Ok){c:Code}{Q:Exit->ASt->Prop}{s:ASt}(k l l':Nat){o:AObj}{e sz:Nat}{rows:List (List D)}(hk:get s.t k= .ref l)(hl:look s.m l=some o)(ho:o= .own e sz rows\/o= .tip e sz rows)(hd:l'<10000)
 (h:cR X c Q (((⟨[], [], [(l,none),(l',none)], [(l',o)],none, .jA⟩:LA).app s).put (some k) (.ref l'))):cR X c Q s:=by
 refine⟨fun hk' a w ⟨E,hE⟩=>h.run hk' a w ?_⟩
 have hv:=hE.slot k
 rw[hk]at hv
 have o6:l<20000:=hE.good.low l (by rw[hl];simp)
 have hro:o.ro=false:=by rcases ho with rfl|rfl<;>rfl
 have oV:=hE.good.obj l o hl
 obtain⟨E',hρ,hσ,hz,Ee,Ic⟩:∃E':Env,(∀q,q≠l'->E'.ρ q=E.ρ q)/\(∀q,q≠l'->E'.σ q=E.σ q)/\E'.z=E.z/\E'.ρ l'=E.ρ l/\E'.σ l'=E.σ l:=by
  exact⟨⟨fun q=>if q=l' then E.ρ l else E.ρ q,fun q=>if q=l' then E.σ l else E.σ q,E.z⟩,fun q hq=>by simp only;rw[ac7 hq],fun q hq=>by simp only;rw[ac7 hq],rfl,by simp,by simp⟩
 have cM:∀q,kl [(l,(none:Option D)),(l',none)] q=if l=q then some none else if l'=q then some none else none:=fun q=>by simp only[kl]
 have hlk:∀q,look [(l',o)] q=if l'=q then some o else none:=fun q=>by simp only[look]
 have hr:=hE.app' ⟨[], [], [(l,none),(l',none)], [(l',o)],none, .jA⟩ E' w undef (by rw[hz];exact aK.refl _ _) rfl rfl rfl (adg _)
  (fun q hq=>by
    have:q≠l':=fun e=>by subst e;simp[kl]at hq
    exact⟨hρ q this,hσ q this⟩)
  (fun q x hq=>by simp only[cM]at hq;split at hq<;>(try split at hq)<;>simp at hq)
  (fun q hq=>by
    have:q≠l':=fun e=>by
     subst e
     refine hq ?_
     rw[bJ (by omega)]
     by_cases hm:look X.m0 q=none
     ·exact hm
     ·have:=hX.low q (by rw[bJ (by omega)];exact hm)
      omega
    exact⟨hρ q this,hσ q this⟩)
  (fun q hq=>by
    simp only[cM]at hq
    split at hq
    ·omega
    ·split at hq
     ·omega
     ·exact absurd rfl hq)
  (fun q o' hq=>by
    simp only[hlk]at hq
    split at hq
    ·cases hq;exact⟨by omega,by rcases ho with rfl|rfl<;>rfl⟩
    ·cases hq)
  (fun b _=> .inl ⟨rfl,by rw[hz]⟩)
  (fun q o' hq=>by
    simp only[hlk]at hq
    split at hq
    ·rename_i e;subst e
     cases hq
     rcases ho with rfl|rfl<;>(simp only[bF]at oV ⊢;rw[Ee,Ic,hz];exact oV)
    ·cases hq)
  (fun q q' b hq oW _ _=>by
    simp only[hlk]at hq oW
    split at hq
    ·rename_i e;split at oW
     ·rename_i e';rw[<- e, <- e']
     ·exact absurd rfl oW
    ·exact absurd rfl hq)
  (fun q b hq hb=>by
    simp only[hlk]at hq
    split at hq
    ·rename_i e;subst e;rw[Ee]at hb;exact .inr ⟨l,o,hE.good.bM hl,hro,hb, .inl (by simp[cM])⟩
    ·exact absurd rfl hq)
  (fun b hb=>by rw[hz];exact hE.good.fresh b hb) trivial (fun d hd=>by cases hd)
 have ha:a.put none undef=a:=rfl
 rw[ha]at hr
 refine⟨E',⟨hr.defers,hr.size,hr.good,hr.j6,hr.mine,fun j=> ?_⟩⟩
 have hj:=hr.slot j
 simp only[ASt.put,get]
 split
 ·rename_i e;subst e
  exact⟨by rw[Ic];exact hv.1,hv.2⟩
 ·exact hj
theorem jj{X:Ctx}(hX:X.Ok){c:Code}{Q:Exit->ASt->Prop}{s:ASt}(bx i l:Nat)(o:AObj){cells:List AV}{a0:AV}(Ef:look s.m bx=some (.box cells))(hi:cells[i]? =some a0)(ha0:a0.isNo=true)(hl:look s.m l=none)(hd:l<10000)(hcl:l∉AV.idss cells)
 (ho:∃e sz,0<sz/\(o= .own e sz []\/o= .tip e sz []))
 (h:cR X c Q ((⟨[], [], [(l,none)], [(l,o),(bx, .box (cells.set i (.ref l)))],none, .jA⟩:LA).app s)):cR X c Q s:=by
 refine⟨fun hk' a w ⟨E,hE⟩=>h.run hk' a w ?_⟩
 obtain⟨e,sz,hsz,ho⟩:=ho
 have hne:bx≠l:=fun e=>by rw[e,hl]at Ef;cases Ef
 obtain⟨b,vs,et,g1,g2,g3,g4,g5⟩:=hE.good.obj bx _ Ef
 obtain⟨v,Ky,O0⟩:=g4.get hi
 obtain⟨p,hp⟩:∃p,v= .slice p 0 0:=by
  cases a0 with
  |nil e=>exact⟨_,O0⟩
  |emp e=>exact O0
  |_=>cases ha0
 subst hp
 obtain⟨E',hρ,hσ,hz,Ee,Ic⟩:∃E':Env,(∀q,q≠l->E'.ρ q=E.ρ q)/\(∀q,q≠l->E'.σ q=E.σ q)/\E'.z=E.z/\E'.ρ l=none/\E'.σ l= .slice p 0 0:=by
  exact⟨⟨fun q=>if q=l then none else E.ρ q,fun q=>if q=l then .slice p 0 0 else E.σ q,E.z⟩,fun q hq=>by simp only;rw[ac7 hq],fun q hq=>by simp only;rw[ac7 hq],rfl,by simp,by simp⟩
 have cM:∀q,kl [(l,(none:Option D))] q=if l=q then some none else none:=fun q=>by simp only[kl]
 have hlk:∀q,look [(l,o),(bx, .box (cells.set i (.ref l)))] q=if l=q then some o else if bx=q then some (.box (cells.set i (.ref l))) else none:=fun q=>by simp only[look]
 have hc:AVrs w E' (cells.set i (.ref l)) vs:=by
  have h0:AVrs w E' cells vs:=AVrs.mono (live:=fun q=>q≠l) ⟨by rw[hz];exact aK.refl _ _,hρ,hσ⟩ (fun q hq e=>hcl (by rw[<- e];exact hq)) g4
  rw[dW]at h0 ⊢
  refine⟨by rw[adP];exact h0.1,fun j a' u' ha hu=> ?_⟩
  rw[aea]at ha
  split at ha
  ·rename_i hij;subst hij
   split at ha
   ·cases ha
    rw[Ky]at hu;cases hu
    exact⟨Ic.symm,trivial⟩
   ·cases ha
  ·exact h0.2 j a' u' ha hu
 have hr:=hE.app' ⟨[], [], [(l,none)], [(l,o),(bx, .box (cells.set i (.ref l)))],none, .jA⟩ E' w undef (by rw[hz];exact aK.refl _ _) rfl rfl rfl (adg _)
  (fun q hq=>by
    have:q≠l:=fun e=>by subst e;simp[kl]at hq
    exact⟨hρ q this,hσ q this⟩)
  (fun q x hq=>by simp only[cM]at hq;split at hq<;>simp at hq)
  (fun q hq=>by
    have:q≠l:=fun e=>by
     subst e
     refine hq ?_
     rw[bJ (by omega)]
     by_cases hm:look X.m0 q=none
     ·exact hm
     ·have:=hX.low q (by rw[bJ (by omega)];exact hm)
      omega
    exact⟨hρ q this,hσ q this⟩)
  (fun q hq=>by simp only[cM]at hq;split at hq<;>simp at hq;omega)
  (fun q o' hq=>by
    simp only[hlk]at hq
    split at hq
    ·cases hq;exact⟨by omega,by rcases ho with rfl|rfl<;>rfl⟩
    ·split at hq
     ·rename_i e;subst e
      cases hq;exact⟨hE.good.low bx (by rw[Ef];simp),rfl⟩
     ·cases hq)
  (fun b _=> .inl ⟨rfl,by rw[hz]⟩)
  (fun q o' hq=>by
    simp only[hlk]at hq
    split at hq
    ·rename_i e;subst e
     cases hq
     rcases ho with rfl|rfl
     ·exact⟨by simp,hsz, .inl ⟨Ee,rfl,p,Ic⟩⟩
     ·exact⟨by simp,hsz, .inl ⟨Ee,rfl,p,Ic⟩⟩
    ·split at hq
     ·rename_i e;subst e
      cases hq
      exact⟨b,vs,et,by rw[hρ _ hne];exact g1,g2,by rw[hz];exact g3,hc,g5⟩
     ·cases hq)
  (fun q q' b hq oW hb hb'=>by
    have f:∀q,look [(l,o),(bx, .box (cells.set i (.ref l)))] q≠none->E'.ρ q=some b->q=bx:=fun q hq hb=>by
     simp only[hlk]at hq
     split at hq
     ·rename_i e;subst e;rw[Ee]at hb;cases hb
     ·split at hq
      ·rename_i e;exact e.symm
      ·exact absurd rfl hq
    rw[f q hq hb,f q' oW hb'])
  (fun q b hq hb=>by
    have:q=bx:=by
     simp only[hlk]at hq
     split at hq
     ·rename_i e;subst e;rw[Ee]at hb;cases hb
     ·split at hq
      ·rename_i e;exact e.symm
      ·exact absurd rfl hq
    subst this
    rw[hρ _ hne]at hb
    exact .inr ⟨_,_,hE.good.bM Ef,rfl,hb, .inr (by rw[hlk];simp[hne.symm])⟩)
  (fun b hb=>by rw[hz];exact hE.good.fresh b hb) trivial (fun d hd=>by cases hd)
 have ha:a.put none undef=a:=rfl
 rw[ha]at hr
 exact⟨E',hr⟩
end Go.Ab
end
