/- A part of the proof. -/
import Derived.KernelRfl
import Derived.Test.YtameldglfobjkaaL6P8
set_option linter.unusedSimpArgs false
set_option linter.unusedVariables false
section
namespace Go.Ab
theorem an.mk' {P:Program} {t sz az:Nat} {k:TK} {zc:List AV} (h:(P.info? t).map (fun i=>(i.size,i.bytes,i.zero.map fun z=>z.cells.toList))=some (sz,az,some (zc.map AV.cv)))
 (ho:(zc.all fun a=>a.cv.oneCell')=true) (hl:zc.length=sz)
 (hk:match k with
   | .sc=>∃d,P.underlying t=some d∧(match d with| .struct _| .array _ _=>False|_=>True)
   | .bool=>P.underlying t=some .bool
   | .int k=>P.underlying t=some (.int k)
   | .sl e=>P.underlying t=some (.slice e)
   | .pt e=>P.underlying t=some (.pointer e)
   | .st fs=>∃fields:Array Field,P.underlying t=some (.struct fields)∧fields.toList.map (fun f=>(f.offset,f.type))=fs
   | .ar n e=>P.underlying t=some (.array n e)
   | .mp k e=>P.underlying t=some (.map k e)∧∀w,(zeroValue e).run P w= .ok (.int .i64 0) w):an P t ⟨k,sz,az,zc⟩:=by
 refine ⟨?_, ?_⟩
 ·cases hi:P.info? t with
  |none=>simp [hi] at h
  |some i=>
   cases hz:i.zero with
   |none=>simp [hi,hz] at h
   |some z=>
    simp [hi,hz] at h
    obtain ⟨h1,h2,h3⟩:=h
    exact ⟨i,z,rfl,h1,h2,hz,h3,fun a ha=>by rw [List.all_eq_true] at ho;exact ho a ha,hl⟩
 ·cases k<;>exact hk
theorem bJ {P:Program} (w:World) {t:Nat} (hu:P.underlying t=some (.int .i64)) (em:Bool) (a:Int):(Instr.checkKey em 9999 t (.int .i64 a)).run P w= .ok () w:=by
 unfold Instr.checkKey
 simp [run_underlying hu]
theorem gQ.two {P:Program} {t:Nat} {f g:Field} (hg:P.eqGuardType P.depth t=false) (hs:P.stoodInHeld t=false) (hu:P.underlying t=some (.struct #[f,g]))
 (hf:f.name≠ "_") (zy:f.offset=0) (hft:P.underlying f.type=some (.int .i64)) (zA:g.name≠ "_") (zB:g.offset=1) (hgt:P.underlying g.type=some (.int .i64)):gQ P t 2:=by
 refine ⟨hg,fun w xs ys (hx:xs.length=2) (hy:ys.length=2)=> ?_⟩
 obtain ⟨a,b,rfl⟩:∃a b,xs= [a,b]:=by match xs,hx with| [a,b],_=>exact ⟨a,b,rfl⟩
 obtain ⟨c,d,rfl⟩:∃a b,ys= [a,b]:=by match ys,hy with| [a,b],_=>exact ⟨a,b,rfl⟩
 have ql:P.fieldsOf t= #[f,g]:=by simp [Program.fieldsOf,hu]
 have he:=run_equalIn_struct (P:=P) w 9999 t #[.int .i64 a, .int .i64 b] #[.int .i64 c, .int .i64 d] (by rw [ql];exact hu) hs
 rw [ql] at he
 have hpart:∀(ty:Nat) (cs:Array Value) (o:Nat) (v:Value),P.underlying ty=some (.int .i64)→cs[o]? =some v→(part ty cs o).run P w= .ok v w:=by
  intro ty cs o v h1 h2
  simp [part,isAgg,run_underlying h1,h2]
 refine ⟨he.trans ?_,fun em=> ?_⟩
 rotate_left
 ·have gi:=hu
  unfold Instr.checkKey
  simp only [Sem.run_bind,run_underlying gi,Result.andThen_ok,List.map_cons,List.map_nil]
  simp [hf,zA,zy,zB,hpart f.type #[.int .i64 a, .int .i64 b] 0 _ hft rfl,hpart g.type #[.int .i64 a, .int .i64 b] 1 _ hgt rfl,bJ w hft em,bJ w hgt em]
 simp only [Op.eqFields,hf,zA,ne_eq,not_false_eq_true,if_true,zy,zB,Sem.run_bind]
 rw [hpart f.type _ 0 (.int .i64 a) hft rfl,Result.andThen_ok,hpart f.type _ 0 (.int .i64 c) hft rfl,Result.andThen_ok,run_equalIn_int w 9998 f.type .i64 .i64 a c hft,Result.andThen_ok]
 by_cases hac:a=c
 ·subst hac
  simp only [beq_self_eq_true,Bool.not_true,Bool.false_eq_true,if_false,Sem.run_bind]
  rw [hpart g.type _ 1 (.int .i64 b) hgt rfl,Result.andThen_ok,hpart g.type _ 1 (.int .i64 d) hgt rfl,Result.andThen_ok,run_equalIn_int w 9998 g.type .i64 .i64 b d hgt,Result.andThen_ok]
  by_cases hbd:b=d
  ·subst hbd;simp
  ·simp [hbd]
 ·simp [hac]
theorem gQ.three {P:Program} {t:Nat} {f g q:Field} (hg:P.eqGuardType P.depth t=false) (hs:P.stoodInHeld t=false) (hu:P.underlying t=some (.struct #[f,g,q]))
 (hf:f.name≠ "_") (zy:f.offset=0) (hft:P.underlying f.type=some (.int .i64)) (zA:g.name≠ "_") (zB:g.offset=1) (hgt:P.underlying g.type=some (.int .i64))
 (qb:q.name≠ "_") (qx:q.offset=2) (xN:P.underlying q.type=some (.int .i64)):gQ P t 3:=by
 refine ⟨hg,fun w xs ys (hx:xs.length=3) (hy:ys.length=3)=> ?_⟩
 obtain ⟨a,b,c,rfl⟩:∃a b c,xs= [a,b,c]:=by match xs,hx with| [a,b,c],_=>exact ⟨a,b,c,rfl⟩
 obtain ⟨a',b',c',rfl⟩:∃a b c,ys= [a,b,c]:=by match ys,hy with| [a,b,c],_=>exact ⟨a,b,c,rfl⟩
 have ql:P.fieldsOf t= #[f,g,q]:=by simp [Program.fieldsOf,hu]
 have he:=run_equalIn_struct (P:=P) w 9999 t #[.int .i64 a, .int .i64 b, .int .i64 c] #[.int .i64 a', .int .i64 b', .int .i64 c'] (by rw [ql];exact hu) hs
 rw [ql] at he
 have hpart:∀(ty:Nat) (cs:Array Value) (o:Nat) (v:Value),P.underlying ty=some (.int .i64)→cs[o]? =some v→(part ty cs o).run P w= .ok v w:=by
  intro ty cs o v h1 h2
  simp [part,isAgg,run_underlying h1,h2]
 refine ⟨he.trans ?_,fun em=> ?_⟩
 rotate_left
 ·have gi:=hu
  unfold Instr.checkKey
  simp only [Sem.run_bind,run_underlying gi,Result.andThen_ok,List.map_cons,List.map_nil]
  simp [hf,zA,qb,zy,zB,qx,hpart f.type #[.int .i64 a, .int .i64 b, .int .i64 c] 0 _ hft rfl,hpart g.type #[.int .i64 a, .int .i64 b, .int .i64 c] 1 _ hgt rfl,hpart q.type #[.int .i64 a, .int .i64 b, .int .i64 c] 2 _ xN rfl,bJ w hft em,bJ w hgt em,bJ w xN em]
 simp only [Op.eqFields,hf,zA,qb,ne_eq,not_false_eq_true,if_true,zy,zB,qx,Sem.run_bind]
 rw [hpart f.type _ 0 (.int .i64 a) hft rfl,Result.andThen_ok,hpart f.type _ 0 (.int .i64 a') hft rfl,Result.andThen_ok,run_equalIn_int w 9998 f.type .i64 .i64 a a' hft,Result.andThen_ok]
 by_cases hac:a=a'
 ·subst hac
  simp only [beq_self_eq_true,Bool.not_true,Bool.false_eq_true,if_false,Sem.run_bind]
  rw [hpart g.type _ 1 (.int .i64 b) hgt rfl,Result.andThen_ok,hpart g.type _ 1 (.int .i64 b') hgt rfl,Result.andThen_ok,run_equalIn_int w 9998 g.type .i64 .i64 b b' hgt,Result.andThen_ok]
  by_cases hbd:b=b'
  ·subst hbd
   simp only [beq_self_eq_true,Bool.not_true,Bool.false_eq_true,if_false,Sem.run_bind]
   rw [hpart q.type _ 2 (.int .i64 c) xN rfl,Result.andThen_ok,hpart q.type _ 2 (.int .i64 c') xN rfl,Result.andThen_ok,run_equalIn_int w 9998 q.type .i64 .i64 c c' xN,Result.andThen_ok]
   by_cases hcd:c=c'
   ·subst hcd;simp
   ·simp [hcd]
  ·simp [hbd]
 ·simp [hac]
theorem gQ.Hh {P:Program} {t:Nat} {f g q:Field} (hg:P.eqGuardType P.depth t=false) (hs:P.stoodInHeld t=false) (hu:P.underlying t=some (.struct #[f,g,q]))
 (hf:f.name≠ "_") (zy:f.offset=0) (hft:P.underlying f.type=some .bool) (zA:g.name≠ "_") (zB:g.offset=1) (hgt:P.underlying g.type=some (.int .i64))
 (qb:q.name≠ "_") (qx:q.offset=2) (xN:P.underlying q.type=some (.int .i64)):gQ P t 0:=by
 refine ⟨hg,fun w a a' xs ys (hx:xs.length=2) (hy:ys.length=2)=> ?_⟩
 obtain ⟨b,c,rfl⟩:∃b c,xs= [b,c]:=by match xs,hx with| [b,c],_=>exact ⟨b,c,rfl⟩
 obtain ⟨b',c',rfl⟩:∃b c,ys= [b,c]:=by match ys,hy with| [b,c],_=>exact ⟨b,c,rfl⟩
 have ql:P.fieldsOf t= #[f,g,q]:=by simp [Program.fieldsOf,hu]
 have he:=run_equalIn_struct (P:=P) w 9999 t #[.bool a, .int .i64 b, .int .i64 c] #[.bool a', .int .i64 b', .int .i64 c'] (by rw [ql];exact hu) hs
 rw [ql] at he
 have hpart:∀(ty:Nat) (cs:Array Value) (o:Nat) (v:Value),P.underlying ty=some (.int .i64)→cs[o]? =some v→(part ty cs o).run P w= .ok v w:=by
  intro ty cs o v h1 h2
  simp [part,isAgg,run_underlying h1,h2]
 have uY:∀(ty:Nat) (cs:Array Value) (o:Nat) (v:Value),P.underlying ty=some .bool→cs[o]? =some v→(part ty cs o).run P w= .ok v w:=by
  intro ty cs o v h1 h2
  simp [part,isAgg,run_underlying h1,h2]
 refine he.trans ?_
 simp only [Op.eqFields,hf,zA,qb,ne_eq,not_false_eq_true,if_true,zy,zB,qx,Sem.run_bind]
 rw [uY f.type _ 0 (.bool a) hft rfl,Result.andThen_ok,uY f.type _ 0 (.bool a') hft rfl,Result.andThen_ok,iJ w f.type hft 9998 a a',Result.andThen_ok]
 by_cases hac:a=a'
 ·subst hac
  simp only [beq_self_eq_true,Bool.not_true,Bool.false_eq_true,if_false,Sem.run_bind]
  rw [hpart g.type _ 1 (.int .i64 b) hgt rfl,Result.andThen_ok,hpart g.type _ 1 (.int .i64 b') hgt rfl,Result.andThen_ok,run_equalIn_int w 9998 g.type .i64 .i64 b b' hgt,Result.andThen_ok]
  by_cases hbd:b=b'
  ·subst hbd
   simp only [beq_self_eq_true,Bool.not_true,Bool.false_eq_true,if_false,Sem.run_bind]
   rw [hpart q.type _ 2 (.int .i64 c) xN rfl,Result.andThen_ok,hpart q.type _ 2 (.int .i64 c') xN rfl,Result.andThen_ok,run_equalIn_int w 9998 q.type .i64 .i64 c c' xN,Result.andThen_ok]
   by_cases hcd:c=c'
   ·subst hcd;simp
   ·simp [hcd]
  ·simp [hbd]
 ·simp [hac]
section
variable {X:Ctx} {Q:Exit→ASt→Prop} {s:ASt} {C:Cfg}
theorem wB {K:ASt→Prop} (h:K s):athen K Q .normal s:=h
end
theorem ah {X:Ctx} {Q:Exit→ASt→Prop} {s:ASt} {x:Code} {ι:Type} (p:ι→Prop) (I:ι→ASt) (μ:ι→Nat) (i0:ι) (hp:p i0) (h0:Le s (I i0))
 (h:∀i,p i→bB X x (athen (fun s'=>∃j,p j∧Le s' (I j)∧μ j<μ i) Q) (I i)):bB X (.loop x) Q s:=
 uI (ι:= {i:ι // p i}) (fun i=>I i.1) (fun i=>μ i.1) ⟨i0,hp⟩ h0 fun i=>uH (h i.1 i.2) fun e s hq=>by
  cases e<;>first|exact hq|(obtain ⟨j,h1,h2,h3⟩:=hq;exact ⟨⟨j,h1⟩,h2,h3⟩)
theorem aa {X:Ctx} {o:Oper} {s:ASt} {K:LA→Prop} (hX:X.Ok) {C:Cfg} (hC:X.C=C) {P:Program} (hP:X.P=P) {c:Call} {fo:Operand} {f:Nat} {as:List AV} {res:AV}
 (hs:Spec P f (Args as) [] res []) (ho:o.op= .call c) (hc:c.callee= .value fo) (hf:aev C 0 s fo= .fn f [] []) (has:evA C s c.args.toList c.argTypes.toList=as) (lu:res.ids= [])
 (hK:K ⟨rsOf s (fo::c.args.toList), [], [], [],o.dst,res⟩):ACall X o (.fn f [] []) as s K:=by
 subst hC;subst hP
 obtain ⟨la,h1,h2,h3⟩:=mw (K:=K) hX id [] hs ho hc hf has (by simp) (by simp) trivial trivial (by simp) (by simp) (fun l l' h=>by simp [look] at h) (by simp) (by simp) (by simp) (by rw [lu];simp) (by simp)
  (fun s' E a w _ hE vals hv=>by simpa [Args,Env.pre] using hv) (by rw [AV.fz];exact hK)
 exact ⟨la,h1,h2,h3⟩
def leT (t:List (Nat × AV)):List (Nat × AV)→Prop
 | []=>True
 |(k,v)::r=>get t k=v∧leT t r
def leM (m:List (Nat × AObj)):List (Nat × AObj)→Prop
 | []=>True
 |(k,v)::r=>look m k=some v∧leM m r
theorem cw {t:List (Nat × AV)} :∀ {t':List (Nat × AV)},leT t t'→∀k,get t' k= .cK∨get t k=get t' k
 | [],_,k=> .inl rfl
 |(i,v)::r,h,k=>by
  simp only [get]
  split
  ·rename_i hk;subst hk;exact .inr h.1
  ·exact cw h.2 k
theorem oV {m:List (Nat × AObj)} :∀ {m':List (Nat × AObj)},leM m m'→∀l o,look m' l=some o→look m l=some o
 | [],_,l,o,h=>by simp [look] at h
 |(i,v)::r,h,l,o,ho=>by
  simp only [look] at ho
  split at ho
  ·rename_i hk;subst hk;cases ho;exact h.1
  ·exact oV h.2 l o ho
theorem Le.of {s s':ASt} (h1:leT s.t s'.t) (h2:leM s.m s'.m):Le s s':=⟨cw h1,oV h2⟩
attribute [go_sem] leT leM Fin resK tupOf leR renA renO asN AV.ren AV.rens AObj.ren AV.emp.injEq AV.vw.injEq AObj.part.injEq AObj.nest.injEq AObj.nils.injEq AObj.orh.injEq mxLo isSlT cvt cvts cvtD rdX allSome List.any_cons List.any_nil D.sc.injEq D.sl.injEq D.pt.injEq Value.bool.injEq Value.int.injEq AV.d.injEq AV.agg.injEq AV.tup.injEq AV.ref.injEq AV.ptr.injEq AV.nil.injEq AObj.box.injEq AObj.tip.injEq AObj.own.injEq Option.some.injEq List.cons.injEq Prod.mk.injEq
attribute [go_sem] vcOp gslot aev cst rsOf LA.app ASt.kill ASt.put putM rml rmk subT kl AV.sub AV.subs AObj.sub get look params vcLoad rowsOf partRows toD toDs allOne AV.isOne AV.fit avCells AV.ids AV.idss msOf over overD fillAV place evParts partOps partAVs allT allF evA evs optHi optLo vcSlice mxOk dlow vcBuiltin vcInt vcU vcSh vcEq eqInts eqBI boOf isSlT isPtT isBoT Cfg.sz Cfg.az Cfg.zrow zrowOf LA.gd skipLA skipT athen ablock
attribute [go_sem] Nat.succ_ne_self ne_eq not_false_eq_true not_true_eq_false true_and and_true and_self false_and and_false if_true if_false Nat.zero_ne_one Nat.one_ne_zero Nat.add_zero Nat.zero_add Nat.zero_le Nat.le_refl Nat.lt_irrefl Nat.zero_lt_succ Nat.lt_add_one Bool.not_true Bool.not_false Bool.true_eq_false Bool.false_eq_true Bool.not_not forall_const true_implies false_implies implies_true beq_self_eq_true BEq.rfl Bool.true_and Bool.and_true Bool.false_and Bool.and_false Bool.true_or Bool.false_or Bool.false_bne Bool.true_bne Bool.bne_false Bool.bne_true Bool.true_xor Bool.false_xor Bool.xor_false Bool.xor_true Option.map_some Option.map_none Option.toList_some Option.toList_none List.length_cons List.length_nil List.length_map List.map_cons List.map_nil List.drop_zero List.drop_succ_cons List.drop_nil List.take_zero List.take_succ_cons List.take_nil List.getElem?_cons_zero List.getElem?_cons_succ List.getElem?_nil List.append_nil List.nil_append List.cons_append List.reverse_nil List.reverse_cons List.mem_cons List.not_mem_nil or_false false_or List.getElem?_toArray List.size_toArray not_or
end Go.Ab
end
section
namespace Go.Ab
inductive OT where
 |nil
 |br (i:Nat) (sub w5:OT)
def OT.uZ:OT→List Nat
 | .nil=> []
 | .br i _ w5=>i::w5.uZ
def OT.ok (ops:Array Oper):Nat→Bool→Array Bool→OT→Bool
 |_,true,listed, .nil=>Region.ready .any ops listed== []
 |_,false,_, .nil=>true
 |0,_,_, .br _ _ _=>false
 |fuel+1,first,listed, .br i sub w5=>(!first||Region.ready .any ops listed==i::w5.uZ)&&OT.ok ops fuel true (listed.setIfInBounds i true) sub&&OT.ok ops (fuel+1) false listed w5
def OT.vc (X:Ctx) (C:Cfg) (l:List Oper) (K:ASt→Prop):OT→Bool→ASt→Prop
 | .nil,first,s=>if first=true then K s else True
 | .br i sub w5,_,s=>(match l[i]? with
   |some o=>o.guard=none∧vcOp X C o s fun la=>OT.vc X C l K sub true (la.app s)
   |none=>False)∧OT.vc X C l K w5 false s
theorem OT.w5 {X:Ctx} {l:List Oper} {K:ASt→Prop} {s:ASt} :∀ {t:OT} {b:Bool} {fuel:Nat} {listed:Array Bool},OT.ok l.toArray (fuel+1) b listed t=true→t.vc X X.C l K b s→∀i∈t.uZ,∃o sub,l[i]? =some o∧o.guard=none∧
 OT.ok l.toArray fuel true (listed.setIfInBounds i true) sub=true∧vcOp X X.C o s fun la=>sub.vc X X.C l K true (la.app s)
 | .nil,_,_,_,_,_,i,hi=>by cases hi
 | .br j sub w5,b,fuel,listed,hok,iN,i,hi=>by
   simp only [OT.ok,Bool.and_eq_true] at hok
   simp only [OT.vc] at iN
   rcases List.mem_cons.1 hi with rfl|hi
   ·obtain ⟨h1,_⟩:=iN
    split at h1
    ·rename_i o ho
     exact ⟨o,sub,ho,h1.1,hok.1.2,h1.2⟩
    ·exact h1.elim
   ·exact OT.w5 hok.2 iN.2 i hi
section
variable {X:Ctx} {Q:Exit→ASt→Prop} {s:ASt} {C:Cfg}
end
theorem sZ {X:Ctx} {o:Oper} {s:ASt} {K:LA→Prop} (hX:X.Ok) {C:Cfg} (hC:X.C=C) {P:Program} (hP:X.P=P) {c:Call} {fo:Operand} {f:Nat} {first caps as as':List AV} {res:AV} (mm:List (Nat × AObj))
 (hs:Spec P f (Args as') [] res []) (ho:o.op= .call c) (hc:c.callee= .value fo) (hf:aev C 0 s fo= .fn f first caps) (has:evA C s c.args.toList c.argTypes.toList=as)
 (hmm:∀p∈mm,look s.m p.1=some p.2) (kq:cvts (cvtD ⟨[],mm⟩) (first++as++caps) as') (lu:res.ids= [])
 (hK:K ⟨rsOf s (fo::c.args.toList),mm, [], [],o.dst,res⟩):ACall X o (.fn f first caps) as s K:=by
 subst hC;subst hP
 obtain ⟨la,h1,h2,h3⟩:=mw (K:=K) hX id mm hs ho hc hf has hmm (by simp) trivial trivial (by simp) (by simp) (fun l l' h=>by simp [look] at h) (by simp) (by simp) (by simp) (by rw [lu];simp) (by simp)
  (fun s' E a w hl hE vals hv=>by
    have:AVrs w E as' vals:=cL ⟨ak.refl _ _,fun _ _=>rfl,fun _ _=>rfl⟩ (uK (s:=⟨[],mm⟩) (fun l q hq=>hE.good.obj l q (hl _ (aH hq)))) kq hv
    simpa [Args,Env.pre] using this) (by rw [AV.fz];exact hK)
 exact ⟨la,h1,h2,h3⟩
def lookAll (s:ASt):List Nat→List (Nat × AObj)
 | []=> []
 |l::r=>match look s.m l with|some o=>(l,o)::lookAll s r|none=>lookAll s r
theorem b9 (s:ASt):∀(ls:List Nat),∀p∈lookAll s ls,look s.m p.1=some p.2
 | [],p,h=>by cases h
 |l::r,p,h=>by
  unfold lookAll at h
  split at h
  ·rename_i o ho
   rcases List.mem_cons.1 h with rfl|h
   ·exact ho
   ·exact b9 s r p h
  ·exact b9 s r p h
theorem dL {X:Ctx} {o:Oper} {s:ASt} {K:LA→Prop} (hX:X.Ok) {C:Cfg} (hC:X.C=C) {P:Program} (hP:X.P=P) {c:Call} {fo:Operand} {f:Nat} {first caps as as':List AV} {res:AV}
 (hs:Spec P f (Args as') [] res []) (ho:o.op= .call c) (hc:c.callee= .value fo) (hf:aev C 0 s fo= .fn f first caps) (has:evA C s c.args.toList c.argTypes.toList=as)
 (kq:cvts (cvtD ⟨[],lookAll s (AV.idss (first++as++caps))⟩) (first++as++caps) as') (lu:res.ids= [])
 (hK:K ⟨rsOf s (fo::c.args.toList),lookAll s (AV.idss (first++as++caps)), [], [],o.dst,res⟩):ACall X o (.fn f first caps) as s K:=
 sZ hX hC hP _ hs ho hc hf has (b9 s _) kq lu hK
attribute [go_sem] lookAll
section
variable {X:Ctx} {C:Cfg} {l rest:List Oper} {o:Oper} {s:ASt} {K:ASt→Prop} {KD:ASt→List Rec→Prop} {log:List Rec}
theorem oA (hg:o.guard=none) (h:∀K':LA→Prop,(∀la,bq X C l rest (la.app s) K→K' la)→vcOp X C o s K'):bq X C l (o::rest) s K:=by
 unfold bq;rw [hg];exact h _ fun _ h=>h
theorem oE {j g:Nat} {want b:Bool} (hg:o.guard=some (j,want)) (hs:gslot l j=some g) (hb:get s.t g= .d (.sc (.bool b)))
 (h1:b=want→∀K':LA→Prop,(∀la,bq X C l rest (la.app (s.put (some g) (.d (.sc (.bool want))))) K→K' la)→vcOp X C o (s.put (some g) (.d (.sc (.bool want)))) K')
 (h2:b=(!want)→bq X C l rest ((s.put (some g) (.d (.sc (.bool (!want))))).put o.dst (.tup [])) K):bq X C l (o::rest) s K:=by
 unfold bq;simp only [hg,hs,hb];exact ⟨fun hw=>h1 hw _ fun _ h=>h,h2⟩
theorem oG {j g:Nat} {want:Bool} (hg:o.guard=some (j,want)) (hs:gslot l j=some g) (hb:get s.t g= .tup []) (h:bq X C l rest (s.put o.dst (.tup [])) K):bq X C l (o::rest) s K:=by
 unfold bq;simp only [hg,hs,hb];exact h
theorem oC (h:K s):bq X C l [] s K:=h
theorem oB (hg:o.guard=none) (h:∀K':LA→Prop,(∀la,aM X C l rest (la.app s) (cm C o la s::log) KD→K' la)→vcOp X C o s K'):aM X C l (o::rest) s log KD:=by
 unfold aM;rw [hg];exact h _ fun _ h=>h
theorem oF {j g:Nat} {want b:Bool} (hg:o.guard=some (j,want)) (hs:gslot l j=some g) (hb:get s.t g= .d (.sc (.bool b)))
 (h1:b=want→∀K':LA→Prop,(∀la,aM X C l rest (la.app (s.put (some g) (.d (.sc (.bool want))))) (aU (la.gd g want) (s.put (some g) (.d (.sc (.bool want))))::log) KD→K' la)→vcOp X C o (s.put (some g) (.d (.sc (.bool want)))) K')
 (h2:b=(!want)→aM X C l rest ((s.put (some g) (.d (.sc (.bool (!want))))).put o.dst (.tup [])) (aU (skipLA g (!want) o.dst) (s.put (some g) (.d (.sc (.bool (!want)))))::log) KD):aM X C l (o::rest) s log KD:=by
 unfold aM;simp only [hg,hs,hb];exact ⟨fun hw=>h1 hw _ fun _ h=>h,h2⟩
theorem oH {j g:Nat} {want:Bool} (hg:o.guard=some (j,want)) (hs:gslot l j=some g) (hb:get s.t g= .tup []) (h:aM X C l rest (s.put o.dst (.tup [])) (aU (skipT g o.dst) s::log) KD):aM X C l (o::rest) s log KD:=by
 unfold aM;simp only [hg,hs,hb];exact h
theorem oD {Q:ASt→Prop} (h1:jU l log.reverse=true) (h2:Q s):aM X C l [] s log (fun s' log=>jU l log.reverse=true∧Q s'):=⟨h1,h2⟩
end
section
variable {X:Ctx} {Q:Exit→ASt→Prop} {s:ASt} {C:Cfg}
theorem wA {id:Nat} (h:Q .normal s):ablock id Q .normal s:=h
theorem wC (hX:X.Ok) (hC:X.C=C) {id:Nat} {l:List Oper} {y:Code} (h:bq X C l l s fun s'=>bB X y Q s'):bB X (.seq (.region id l.toArray false) y) Q s:=by
 subst hC;exact wG (kQ hX h)
theorem wE (hX:X.Ok) (hC:X.C=C) (hm:X.P.follows .mixedOrders=true) {id:Nat} {l:List Oper} {y:Code} (h:aM X C l l s [] (fun s' log=>jU l log.reverse=true∧bB X y Q s')):bB X (.seq (.region id l.toArray true) y) Q s:=by
 subst hC;exact wG (oU hX hm h)
theorem wD (hX:X.Ok) (hC:X.C=C) {id:Nat} {l:List Oper} (h:bq X C l l s fun s'=>Q .normal s'):bB X (.region id l.toArray false) Q s:=by
 subst hC;exact kQ hX h
theorem wF (hX:X.Ok) (hC:X.C=C) (hm:X.P.follows .mixedOrders=true) {id:Nat} {l:List Oper} (h:aM X C l l s [] (fun s' log=>jU l log.reverse=true∧Q .normal s')):bB X (.region id l.toArray true) Q s:=by
 subst hC;exact oU hX hm h
end
def gd (v:AV) (w:Bool) (A B C:Prop) (D:Prop→Prop):Prop:=match v with
 | .d (.sc (.bool b))=>(b=w→A)∧(b=(!w)→B)
 | .tup []=>C
 | .cV p=>D p
 |_=>False
theorem gd.congr {v v':AV} {w:Bool} {A B C:Prop} {D:Prop→Prop} (h:v=v'):gd v w A B C D=gd v' w A B C D:=by rw [h]
section
variable {A B C:Prop} {D:Prop→Prop} {b:Bool}
theorem gd_tt:gd (.d (.sc (.bool true))) true A B C D=A:=by simp [gd]
theorem gd_tf:gd (.d (.sc (.bool true))) false A B C D=B:=by simp [gd]
theorem gd_ft:gd (.d (.sc (.bool false))) true A B C D=B:=by simp [gd]
theorem gd_ff:gd (.d (.sc (.bool false))) false A B C D=A:=by simp [gd]
theorem gd_n {w:Bool} :gd (.tup []) w A B C D=C:=rfl
theorem Hi (h1:b=true→A) (h2:b=false→B):gd (.d (.sc (.bool b))) true A B C D:=⟨h1,h2⟩
theorem Hj (h1:b=false→A) (h2:b=true→B):gd (.d (.sc (.bool b))) false A B C D:=⟨h1,h2⟩
theorem Hl {p:Prop} {w:Bool} (h:D p):gd (.cV p) w A B C D:=h
end
def Nx (f:LA→Prop) (g:(LA→Prop)→Prop):Prop:=∀K':LA→Prop,(∀la,f la→K' la)→g K'
theorem Nx.congr {f:LA→Prop} {g:(LA→Prop)→Prop} :Nx f g=Nx f g:=rfl
theorem Ho {f:LA→Prop} {g:(LA→Prop)→Prop} (h:∀K':LA→Prop,(∀la,f la→K' la)→g K'):Nx f g:=h
class Xc (X:Ctx) (C:outParam Cfg):Prop where
 ok:X.Ok
 eq:X.C=C
 mix:X.P.follows .mixedOrders=true
class Rs (H:outParam Prop) (P:Prop):Prop where
 p:H→P
class Rn (H:outParam Prop) (P:Prop):Prop where
 p:H→P
section
variable {X:Ctx} {C:Cfg} {l rest:List Oper} {s:ASt} {K:ASt→Prop} {KD:ASt→List Rec→Prop} {log:List Rec} {Q:Exit→ASt→Prop}
variable {d:Option Nat} {op:Op} {ty:Nat} {po:String} {af:Array Edge}
theorem oP {j g:Nat} {w:Bool} (hs:gslot l j=some g) (h:gd (get s.t g) w
 (Nx (fun la=>bq X C l rest (la.app (s.put (some g) (.d (.sc (.bool w))))) K) (vcOp X C ⟨d,op,ty,po,af,some (j,w)⟩ (s.put (some g) (.d (.sc (.bool w))))))
 (bq X C l rest ((s.put (some g) (.d (.sc (.bool (!w))))).put d (.tup [])) K) (bq X C l rest (s.put d (.tup [])) K) fun _=>False):
 bq X C l (⟨d,op,ty,po,af,some (j,w)⟩::rest) s K:=by
 unfold gd at h
 split at h
 ·rename_i b hb;exact oE rfl hs hb h.1 h.2
 ·rename_i hb;exact oG rfl hs hb h
 ·exact h.elim
 ·exact h.elim
theorem oQ {j g:Nat} {w:Bool} (hs:gslot l j=some g) (h:gd (get s.t g) w
 (Nx (fun la=>aM X C l rest (la.app (s.put (some g) (.d (.sc (.bool w))))) (aU (la.gd g w) (s.put (some g) (.d (.sc (.bool w))))::log) KD) (vcOp X C ⟨d,op,ty,po,af,some (j,w)⟩ (s.put (some g) (.d (.sc (.bool w))))))
 (aM X C l rest ((s.put (some g) (.d (.sc (.bool (!w))))).put d (.tup [])) (aU (skipLA g (!w) d) (s.put (some g) (.d (.sc (.bool (!w)))))::log) KD)
 (aM X C l rest (s.put d (.tup [])) (aU (skipT g d) s::log) KD) fun _=>False):
 aM X C l (⟨d,op,ty,po,af,some (j,w)⟩::rest) s log KD:=by
 unfold gd at h
 split at h
 ·rename_i b hb;exact oF rfl hs hb h.1 h.2
 ·rename_i hb;exact oH rfl hs hb h
 ·exact h.elim
 ·exact h.elim
theorem wP {c:Nat} {x y:Code} (h:gd (get s.t c) true (bB X x Q s) (bB X y Q s) False fun p=>(p→bB X x Q s)∧bB X y Q s):bB X (.cond (.tmp c) x y) Q s:=by
 unfold gd at h
 split at h
 ·rename_i b hb;exact wM hb h.1 h.2
 ·exact h.elim
 ·rename_i p hb;exact wL hb h.1 h.2
 ·exact h.elim
instance DR:Rs (Q .normal s) (bB X .skip Q s):=⟨wI⟩
instance DS {id:Nat} :Rs (Q (.exit id) s) (bB X (.exit id) Q s):=⟨wJ⟩
instance DT:Rs (Q .ret s) (bB X .ret Q s):=⟨wK⟩
instance DU {c:Nat} {x y:Code} :Rs (gd (get s.t c) true (bB X x Q s) (bB X y Q s) False fun p=>(p→bB X x Q s)∧bB X y Q s) (bB X (.cond (.tmp c) x y) Q s):=⟨wP⟩
instance DV:Rn (Nx (fun la=>bq X C l rest (la.app s) K) (vcOp X C ⟨d,op,ty,po,af,none⟩ s)) (bq X C l (⟨d,op,ty,po,af,none⟩::rest) s K):=⟨oA rfl⟩
instance DW:Rn (Nx (fun la=>aM X C l rest (la.app s) (cm C ⟨d,op,ty,po,af,none⟩ la s::log) KD) (vcOp X C ⟨d,op,ty,po,af,none⟩ s)) (aM X C l (⟨d,op,ty,po,af,none⟩::rest) s log KD):=⟨oB rfl⟩
instance DX:Rn (K s) (bq X C l [] s K):=⟨oC⟩
instance DY {id:Nat} :Rn (Q .normal s) (ablock id Q .normal s):=⟨wA⟩
instance DZ {L:ASt→Prop} :Rn (L s) (athen L Q .normal s):=⟨wB⟩
instance D2 [h:Xc X C] {id:Nat} {y:Code} :Rn (bq X C l l s fun s'=>bB X y Q s') (bB X (.seq (.region id l.toArray false) y) Q s):=⟨wC h.ok h.eq⟩
instance D3 [h:Xc X C] {id:Nat} :Rn (bq X C l l s fun s'=>Q .normal s') (bB X (.region id l.toArray false) Q s):=⟨wD h.ok h.eq⟩
instance D4 [h:Xc X C] {id:Nat} {y:Code} :Rn (aM X C l l s [] (fun s' log=>jU l log.reverse=true∧bB X y Q s')) (bB X (.seq (.region id l.toArray true) y) Q s):=⟨wE h.ok h.eq h.mix⟩
instance D5 [h:Xc X C] {id:Nat} :Rn (aM X C l l s [] (fun s' log=>jU l log.reverse=true∧Q .normal s')) (bB X (.region id l.toArray true) Q s):=⟨wF h.ok h.eq h.mix⟩
instance D6 {id:Nat} {x:Code} :Rn (bB X x (ablock id Q) s) (bB X (.block id x) Q s):=⟨wH⟩
instance D7 {A B C:Prop} {D:Prop→Prop} {b:Bool} :Rn ((b=true→A)∧(b=false→B)) (gd (.d (.sc (.bool b))) true A B C D):=⟨fun h=>Hi h.1 h.2⟩
instance D8 {A B C:Prop} {D:Prop→Prop} {b:Bool} :Rn ((b=false→A)∧(b=true→B)) (gd (.d (.sc (.bool b))) false A B C D):=⟨fun h=>Hj h.1 h.2⟩
instance D9 {A B C:Prop} {D:Prop→Prop} {p:Prop} {w:Bool} :Rn (D p) (gd (.cV p) w A B C D):=⟨Hl⟩
instance Ea {f:LA→Prop} {g:(LA→Prop)→Prop} :Rn (∀K':LA→Prop,(∀la,f la→K' la)→g K') (Nx f g):=⟨Ho⟩
end
section
variable {X:Ctx} {s:ASt} {Q:Exit→ASt→Prop}
instance (priority:=low) Eb {x y:Code} :Rn (bB X x (athen (fun s'=>bB X y Q s') Q) s) (bB X (.seq x y) Q s):=⟨wG⟩
end
theorem Spec.hd {P:Program} {C:Cfg} {f:Nat} {fn:Func} {c:Code} {n:Nat} {rs:List RV} {as:List AV} {m:List (Nat × AObj)} {res:AV} {m':List (Nat × AObj)}
 (hC:C.Ok P) (hf:P.funcs[f]? =some fn) (hb:fn.body=some c) (hname:(fn.name== "runtime.NumGoroutine")=false) (hn:fn.ntmps=n) (qa:fn.results=(rs.map RV.rv).toArray)
 (j5:∀p∈m,10000≤p.1∧p.2.isNest=false) (hm':∀p∈m',p.1<20000∧p.2.isNest=false) (hk:(ni n c&&Nat.ble as.length n)=true) (hx:P.follows .mixedOrders=true)
 (h:∀X:Ctx,X.Ok→X.P=P→X.C=C→X.P.follows .mixedOrders=true→Xc X C→bB X c (Fin C rs [] res m') ⟨params 0 as,m⟩):Spec P f (Args as) m res m':=by
 rw [Bool.and_eq_true] at hk
 exact Spec.intro hC hf hb hname hn qa j5 hm' hk.1 fun X hX hP BA _ _ vals hA=>⟨as,Nat.le_of_ble_eq_true hk.2,hA,h X hX hP BA (by rw [hP];exact hx) ⟨hX,BA,by rw [hP];exact hx⟩⟩
theorem Spec.zC {P:Program} {C:Cfg} {f:Nat} {fn:Func} {c:Code} {n:Nat} {rs:List RV} (rn:List (Nat × Nat)) {as:List AV} {m:List (Nat × AObj)} {res:AV} {m':List (Nat × AObj)}
 (hC:C.Ok P) (hf:P.funcs[f]? =some fn) (hb:fn.body=some c) (hname:(fn.name== "runtime.NumGoroutine")=false) (hn:fn.ntmps=n) (qa:fn.results=(rs.map RV.rv).toArray)
 (j5:∀p∈m,10000≤p.1∧p.2.isNest=false) (hm':∀p∈m',p.1<20000∧p.2.isNest=false) (Bn:∀l,look m l≠none→asN rn l=l) (hinj:∀p∈m',∀q∈m',asN rn p.1=asN rn q.1→p.1=q.1) (hk:(ni n c&&Nat.ble as.length n)=true) (hx:P.follows .mixedOrders=true)
 (h:∀X:Ctx,X.Ok→X.P=P→X.C=C→X.P.follows .mixedOrders=true→Xc X C→bB X c (Fin C rs rn res m') ⟨params 0 as,m⟩):Spec P f (Args as) m res m':=by
 rw [Bool.and_eq_true] at hk
 exact Spec.uM rn hC hf hb hname hn qa j5 hm' Bn hinj hk.1 fun X hX hP BA _ _ vals hA=>⟨as,Nat.le_of_ble_eq_true hk.2,hA,h X hX hP BA (by rw [hP];exact hx) ⟨hX,BA,by rw [hP];exact hx⟩⟩
attribute [go_sem] gd_tt gd_tf gd_ft gd_ff gd_n
attribute [go_sem] mpOk intsOf keyOf kW InR decide_eq_true_eq decide_eq_false_iff_not Bool.not_eq_true' Bool.not_eq_false' decide_true decide_false
end Go.Ab
end
section
namespace Go.Ab
theorem lz {π:Nat→Nat} {m':List (Nat × AObj)} :∀ {m:List (Nat × AObj)},(∀p∈m,look m' p.1≠none)→killM π m' m= []
 | [],_=>rfl
 |(l,o)::r,h=>by
  have h1:=h _ List.mem_cons_self
  simp only at h1
  simp only [killM]
  cases hq:look m' l with
  |none=>exact absurd hq h1
  |some q=>exact lz fun p hp=>h p (List.mem_cons_of_mem _ hp)
theorem lB {π:Nat→Nat} :∀ {m:List (Nat × AObj)},(∀p∈m,p.2.ro=true)→renM π m= []
 | [],_=>rfl
 |(l,o)::r,h=>by
  have h1:=h _ List.mem_cons_self
  cases o<;>simp [AObj.ro] at h1
  simp only [renM]
  exact lB fun p hp=>h p (List.mem_cons_of_mem _ hp)
theorem s4 {X:Ctx} {o:Oper} {s:ASt} {K:LA→Prop} (hX:X.Ok) {C:Cfg} (hC:X.C=C) {P:Program} (hP:X.P=P) {c:Call} {fo:Operand} {f:Nat} {first caps AD zD:List AV} {m:List (Nat × AObj)} {res:AV} (nm:List (Nat × Nat))
 (hs:Spec P f (Args zD) m res m) (ho:o.op= .call c) (hc:c.callee= .value fo) (hf:aev C 0 s fo= .fn f first caps) (has:evA C s c.args.toList c.argTypes.toList=AD)
 (hm:∀p∈m,p.2.ro=true∧((asN nm p.1,p.2.ren (asN nm))∈lookAll s (nm.map (·.2))∨∃cells,p.2= .rob cells∧(asN nm p.1, .box (AV.rens (asN nm) cells))∈lookAll s (nm.map (·.2))))
 (hnm:nodupM m) (iK:∀p∈m,p.1<20000∧p.2.isNest=false) (hinj:∀p∈m,∀q∈m,asN nm p.1=asN nm q.1→p.1=q.1) (kq:AV.rens (asN nm) zD=first++AD++caps)
 (lu:res.ids= []) (hres:res.ren (asN nm)=res) (oK:∀p∈m,∀l∈p.2.ids,look m l≠none)
 (hK:K ⟨rsOf s (fo::c.args.toList),lookAll s (nm.map (·.2)), [], [],o.dst,res⟩):ACall X o (.fn f first caps) AD s K:=by
 subst hC;subst hP
 have hin:∀p∈m,look m p.1≠none:=fun p hp=>by rw [aA hnm hp];simp
 obtain ⟨la,h1,h2,h3⟩:=mw (K:=K) hX (asN nm) (lookAll s (nm.map (·.2))) hs ho hc hf has (b9 s _) (fun p hp=>(hm p hp).2) hnm hnm iK iK
  (fun l l' hl hl' h=>by
    have mem:∀l,(look m l≠none∨look m l≠none)→∃p∈m,p.1=l:=fun l hl=>by
     obtain ⟨q,hq⟩:=Option.ne_none_iff_exists'.1 (hl.elim id id)
     exact ⟨_,aH hq,rfl⟩
    obtain ⟨p,hp,rfl⟩:=mem l hl
    obtain ⟨q,hq,rfl⟩:=mem l' hl'
    exact hinj p hp q hq h)
  (fun p hp h=>absurd h (hin p hp)) (fun p hp _=>aA hnm hp) (fun p hp _=>aA hnm hp) (by rw [lu];simp) oK
  (fun s' E a w _ hE vals hv=>by
    show AVrs w (E.pre (asN nm)) zD vals
    rw [aY,kq];exact hv)
  (by rw [lz hin,lB fun p hp=>(hm p hp).1,hres];exact hK)
 exact ⟨la,h1,h2,h3⟩
structure bu (m:List (Nat × AObj)):Prop where
 ro:∀p∈m,p.2.ro=true
 nd:nodupM m
 low:∀p∈m,10000≤p.1∧p.1<20000
 ids:∀p∈m,∀l∈p.2.ids,look m l≠none
theorem bu.nest {m:List (Nat × AObj)} (h:bu m):∀p∈m,p.2.isNest=false:=fun p hp=>by
 have:=h.ro p hp
 cases hq:p.2<;>rw [hq] at this<;>simp [AObj.ro] at this
 rfl
theorem bu.nil:bu []:=⟨by simp,trivial,by simp,by simp⟩
theorem aL {X:Ctx} {o:Oper} {s:ASt} {K:LA→Prop} (hX:X.Ok) {C:Cfg} (hC:X.C=C) {P:Program} (hP:X.P=P) {c:Call} {fo:Operand} {f:Nat} {first caps as as':List AV} {m:List (Nat × AObj)} {res:AV} (hR:bu m)
 (hs:Spec P f (Args as') m res m) (ho:o.op= .call c) (hc:c.callee= .value fo) (hf:aev C 0 s fo= .fn f first caps) (has:evA C s c.args.toList c.argTypes.toList=as)
 (hm:∀p∈m,look s.m p.1=some p.2) (kq:as'=first++as++caps) (lu:res.ids= [])
 (hK:K ⟨rsOf s (fo::c.args.toList),m, [], [],o.dst,res⟩):ACall X o (.fn f first caps) as s K:=by
 subst hC;subst hP
 have hin:∀p∈m,look m p.1≠none:=fun p hp=>by rw [aA hR.nd hp];simp
 have iK:∀p∈m,p.1<20000∧p.2.isNest=false:=fun p hp=>⟨(hR.low p hp).2,hR.nest p hp⟩
 obtain ⟨la,h1,h2,h3⟩:=mw (K:=K) hX id m hs ho hc hf has hm (fun p hp=> .inl (by rw [AObj.fz];exact hp)) hR.nd hR.nd iK iK (fun l l' _ _ h=>h)
  (fun p hp h=>absurd h (hin p hp)) (fun p hp _=>aA hR.nd hp) (fun p hp _=>aA hR.nd hp) (by rw [lu];simp) hR.ids
  (fun s' E a w _ hE vals hv=>by
    show AVrs w (E.pre id) as' vals
    rw [kq];exact hv)
  (by rw [lz hin,lB hR.ro,AV.fz];exact hK)
 exact ⟨la,h1,h2,h3⟩
mutual
def AV.flat:AV→Bool
 | .d (.sc _)=>true
 | .agg vs=>AV.flats vs
 | .tup vs=>AV.flats vs
 | .cK=>true
 | .cV _=>true
 |_=>false
def AV.flats:List AV→Bool
 | []=>true
 |a::as=>AV.flat a&&AV.flats as
end
mutual
theorem AV.oW {w w':World} {E E':Env} :∀ {a:AV} {v:Value},a.flat=true→aQ w E a v→aQ w' E' a v
 | .d (.sc u),v,_,h=>by cases h with|sc _ h=>exact .sc _ h
 | .agg vs,v,hf,h=>by obtain ⟨us,rfl,h⟩:=h;exact ⟨us,rfl,AV.jD (by simpa [AV.flat] using hf) h⟩
 | .tup vs,v,hf,h=>by obtain ⟨us,rfl,h⟩:=h;exact ⟨us,rfl,AV.jD (by simpa [AV.flat] using hf) h⟩
 | .cK,_,_,_=>trivial
 | .cV _,_,_,h=>h
 | .d (.sl _ _),_,hf,_=>by simp [AV.flat] at hf
 | .d (.pt _),_,hf,_=>by simp [AV.flat] at hf
 | .nil _,_,hf,_=>by simp [AV.flat] at hf
 | .emp _,_,hf,_=>by simp [AV.flat] at hf
 | .ref _,_,hf,_=>by simp [AV.flat] at hf
 | .ptr _ _,_,hf,_=>by simp [AV.flat] at hf
 | .ep _ _ _ _,_,hf,_=>by simp [AV.flat] at hf
 | .vw _ _ _,_,hf,_=>by simp [AV.flat] at hf
 | .fn _ _ _,_,hf,_=>by simp [AV.flat] at hf
 | .mref _,_,hf,_=>by simp [AV.flat] at hf
theorem AV.jD {w w':World} {E E':Env} :∀ {as:List AV} {us:List Value},AV.flats as=true→AVrs w E as us→AVrs w' E' as us
 | [],_,_,h=>h
 |a::as,us,hf,h=>by
  simp only [AV.flats,Bool.and_eq_true] at hf
  obtain ⟨u,us',rfl,h1,h2⟩:=h
  exact ⟨u,us',rfl,AV.oW hf.1 h1,AV.jD hf.2 h2⟩
end
theorem oZ {C:Cfg} {bad:Nat→Bool} {dI:Bool} {m m':List (Nat × AObj)} (hm:∀l o,look m l=some o→look m' l=some o):∀ {n:Nat} {a:AV} {x:D},rdX C bad dI m n a=some x→rdX C bad dI m' n a=some x:=by
 have flat:∀ {n:Nat} {a:AV} {x:D},(∀l o,a≠ .ptr l o)→rdX C bad dI m n a=some x→rdX C bad dI m' n a=some x:=by
  intro n a x hne h
  cases a with
  |ref l=>
   simp only [rdX] at h ⊢
   cases hl:look m l with
   |none=>simp [hl] at h
   |some o=>rw [hm l o hl];rw [hl] at h;exact h
  |vw l sz i=>
   simp only [rdX] at h ⊢
   cases hl:look m l with
   |none=>simp [hl] at h
   |some o=>rw [hm l o hl];rw [hl] at h;exact h
  |ptr l o=>exact absurd rfl (hne l o)
  |_=>first|(simp [rdX] at h;done)|(simpa [rdX] using h)
 intro n
 induction n with
 |zero=>
  intro a x h
  cases a with
  |ptr l o=>simp [rdX] at h
  |_=>exact flat (fun _ _ e=>by cases e) h
 |succ n ih=>
  intro a x h
  have key:∀ {cells:List AV} {ds:List D},allSome (cells.map fun a=>rdX C bad dI m n a)=some ds→allSome (cells.map fun a=>rdX C bad dI m' n a)=some ds:=by
   intro cells
   induction cells with
   |nil=>intro ds h;exact h
   |cons c cells ih2=>
    intro ds h
    simp only [List.map_cons] at h ⊢
    cases hc:rdX C bad dI m n c with
    |none=>rw [hc] at h;simp [allSome] at h
    |some y=>
     rw [hc] at h
     rw [ih hc]
     simp only [allSome] at h ⊢
     cases hr:allSome (cells.map fun a=>rdX C bad dI m n a) with
     |none=>simp [hr] at h
     |some ys=>rw [hr] at h;rw [ih2 hr];exact h
  cases a with
  |ptr l o=>
   simp only [rdX] at h ⊢
   cases hl:look m l with
   |none=>simp [hl] at h
   |some ob=>
    rw [hm l ob hl];rw [hl] at h
    cases ob with
    |box cells=>
     simp only at h ⊢
     split at h
     ·cases h
     ·rename_i hb
      rw [if_neg hb]
      cases hs:allSome (cells.map fun a=>rdX C bad dI m n a) with
      |none=>simp [hs] at h
      |some ds=>rw [hs] at h;rw [key hs];exact h
    |rob cells=>
     simp only at h ⊢
     split at h
     ·rename_i hb
      rw [if_pos hb]
      cases hs:allSome (cells.map fun a=>rdX C bad dI m n a) with
      |none=>simp [hs] at h
      |some ds=>rw [hs] at h;rw [key hs];exact h
     ·cases h
    |_=>cases h
  |_=>exact flat (fun _ _ e=>by cases e) h
def reach (s:ASt):Nat→List Nat→List (Nat × AObj)
 |0,_=> []
 |n+1,ls=>lookAll s ls++(match (lookAll s ls).flatMap fun p=>p.2.ids with| []=> []|ids=>reach s n ids)
theorem iA (s:ASt):∀(n:Nat) (ls:List Nat),∀p∈reach s n ls,look s.m p.1=some p.2
 |0,_,p,h=>by cases h
 |n+1,ls,p,h=>by
  simp only [reach,List.mem_append] at h
  rcases h with h|h
  ·exact b9 s _ p h
  ·split at h
   ·cases h
   ·exact iA s n _ p h
theorem bS {X:Ctx} {o:Oper} {s:ASt} {K:LA→Prop} (hX:X.Ok) {C:Cfg} (hC:X.C=C) {P:Program} (hP:X.P=P) {c:Call} {fo:Operand} {f:Nat} {first caps as as':List AV} {res:AV}
 (hs:Spec P f (Args as') [] res []) (ho:o.op= .call c) (hc:c.callee= .value fo) (hf:aev C 0 s fo= .fn f first caps) (has:evA C s c.args.toList c.argTypes.toList=as)
 (kq:cvts (fun a x=>rdX C (fun _=>false) true (reach s 3 (AV.idss (first++as++caps))) 4 a=some x) (first++as++caps) as') (hfl:res.flat=true)
 (hK:K ⟨rsOf s (fo::c.args.toList),reach s 3 (AV.idss (first++as++caps)), [], [],o.dst,res⟩):ACall X o (.fn f first caps) as s K:=by
 subst hC;subst hP
 refine ⟨_,⟨rfl, ?_⟩,⟨ai s _,iA s _ _⟩,hK⟩
 rintro s' a w hdn dJ ⟨E,hE⟩
 have hfo:=hE.evs dJ.1 X.C 0 (x:=fo) (by simp)
 rw [hf] at hfo
 obtain ⟨us,vs,hfo,om,wZ⟩:=hfo
 have hargs:=iV (s:=s) hE c.args.toList c.argTypes.toList (fun p hp=>dJ.1 p (by cases fo<;>simp [rsOf,hp]))
 rw [has] at hargs
 have oL:AVrs w E (first++as++caps) (us++c.args.toList.map a.eval++vs):=(om.append hargs).append wZ
 obtain ⟨fn,cd,hfn,hname,hbody⟩:=hs.can
 have hrun:(execOp a.eval o).run X.P w= .ok (.enter f (us++c.args.toList.map a.eval++vs).toArray) w:=by
  have h1:us.toArray++c.args.map a.eval++vs.toArray=(us++c.args.toList.map a.eval++vs).toArray:=by
   apply Array.toList_inj.1;simp
  have h2:=ck (P:=X.P) hfn hname hbody (us.toArray++c.args.map a.eval++vs.toArray) w
  rw [h1] at h2
  simp only [execOp,ho,resolve,hc,hfo,Deferred.ofValue,Sem.run_bind,Sem.run_pure,Result.andThen_ok,invoke]
  rw [h1];exact h2
 have dm:∀l,aJ [] l=none:=fun l=>by unfold aJ;split<;>rfl
 have u0:ak w E.z w (fun b=>max (E.z b) (bg w b)):=fun b=>⟨Nat.le_max_left _ _,fun _ _=>rfl⟩
 have u5:Good [] ⟨E.ρ,E.σ,fun b=>max (E.z b) (bg w b)⟩ w:=by
  refine ⟨fun l h=>by simp [look] at h,fun l l' b h=>by simp [dm] at h,fun l o h=>by simp [dm] at h,fun b hb=> ?_⟩
  simp [hE.good.fresh b hb,bg,Array.getElem?_eq_none hb]
 have hA:AVrs w ⟨E.ρ,E.σ,fun b=>max (E.z b) (bg w b)⟩ as' (us++c.args.toList.map a.eval++vs):=
  cL (E':=⟨E.ρ,E.σ,fun b=>max (E.z b) (bg w b)⟩) ⟨u0,fun _ _=>rfl,fun _ _=>rfl⟩ (fun a x v yE hr=>iR hE.good u0 (fun l o b _ _ _ _=>Nat.le_max_right _ _) (oZ (fun l o hl=>dJ.2 _ (aH hl)) yE) hr) kq oL
 unfold Oper.wp
 rw [hrun]
 refine (hs.calls _ w _ u5 hA).mono ?_
 rintro e w' ⟨v,E',rfl,hst,hg',mu,hres⟩
 have hheap:∀b,b<w.heap.size→w'.heap[b]? =w.heap[b]? :=fun b hb=>(hst.frame b hb (by rintro ⟨l,o,hl,_⟩;simp [dm] at hl)).1
 refine ⟨E,hE.app' ⟨rsOf s (fo::c.args.toList),reach s 3 (AV.idss (first++as++caps)), [], [],o.dst,res⟩ E w' v (fun b=>⟨Nat.le_refl _,fun o ho=> ?_⟩) hst.os hst.tape hst.output hst.size (fun l _=>⟨rfl,rfl⟩) (fun l x hl=>by simp [kl] at hl) (fun l _=>⟨rfl,rfl⟩) (fun l hl=>absurd rfl hl) (fun l o hl=>by simp [look] at hl) (fun b hb=> .inl ⟨hheap b hb,rfl⟩)
  (fun l o hl=>by simp [look] at hl) (fun l l' b hl=>absurd rfl hl) (fun l b hl=>absurd rfl hl) (fun b hb=>hE.good.fresh b (Nat.le_trans hst.size hb)) (AV.oW hfl hres) hdn⟩
 by_cases hb:b<w.heap.size
 ·exact cell?_of_heap (hheap b hb) o
 ·rw [hE.good.fresh b (by omega)] at ho;omega
theorem aZ {X:Ctx} {o:Oper} {s:ASt} {K:LA→Prop} (hX:X.Ok) {C:Cfg} (hC:X.C=C) {P:Program} (hP:X.P=P) {c:Call} {fo:Operand} {f:Nat} {first caps as as':List AV} {m m':List (Nat × AObj)} {res:AV} (nm:List (Nat × Nat))
 (hs:Spec P f (Args as') m res m') (ho:o.op= .call c) (hc:c.callee= .value fo) (hf:aev C 0 s fo= .fn f first caps) (has:evA C s c.args.toList c.argTypes.toList=as)
 (hm:∀p∈m,(asN nm p.1,p.2.ren (asN nm))∈lookAll s (m.map fun p=>asN nm p.1)∨∃cells,p.2= .rob cells∧(asN nm p.1, .box (AV.rens (asN nm) cells))∈lookAll s (m.map fun p=>asN nm p.1))
 (hnm:nodupM m) (l5:nodupM m') (iK:∀p∈m,p.1<20000∧p.2.isNest=false) (oJ:∀p∈m',p.1<20000∧p.2.isNest=false)
 (hinj:∀p∈m++m',∀q∈m++m',asN nm p.1=asN nm q.1→p.1=q.1)
 (hnew:∀p∈m',look m p.1=none→asN nm p.1<10000)
 (hro:∀p∈m',p.2.ro=true→look m p.1=some p.2) (qu:∀p∈m,p.2.ro=true→look m' p.1=some p.2)
 (sV:∀l∈res.ids,look m' l≠none) (oK:∀p∈m',∀l∈p.2.ids,look m' l≠none)
 (kq:AV.rens (asN nm) as'=first++as++caps)
 (hK:K ⟨rsOf s (fo::c.args.toList),lookAll s (m.map fun p=>asN nm p.1),killM (asN nm) m m'++killM (asN nm) m' m,renM (asN nm) m',o.dst,res.ren (asN nm)⟩):ACall X o (.fn f first caps) as s K:=by
 subst hC;subst hP
 have mem:∀l,(look m l≠none∨look m' l≠none)→∃p∈m++m',p.1=l:=fun l hl=>by
  rcases hl with hl|hl
  ·obtain ⟨q,hq⟩:=Option.ne_none_iff_exists'.1 hl
   exact ⟨_,List.mem_append_left _ (aH hq),rfl⟩
  ·obtain ⟨q,hq⟩:=Option.ne_none_iff_exists'.1 hl
   exact ⟨_,List.mem_append_right _ (aH hq),rfl⟩
 obtain ⟨la,h1,h2,h3⟩:=mw (K:=K) hX (asN nm) _ hs ho hc hf has (b9 s _) hm hnm l5 iK oJ
  (fun l l' hl hl' h=>by
    obtain ⟨p,hp,rfl⟩:=mem l hl
    obtain ⟨q,hq,rfl⟩:=mem l' hl'
    exact hinj p hp q hq h) hnew hro qu sV oK
  (fun s' E a w _ hE vals hv=>by
    show AVrs w (E.pre (asN nm)) as' vals
    rw [aY,kq];exact hv) hK
 exact ⟨la,h1,h2,h3⟩
def lowI:List Nat→Prop
 | []=>True
 |x::r=>x<1000000∧lowI r
def lowT:List (Nat × AV)→Prop
 | []=>True
 |(_,a)::r=>lowI a.ids∧lowT r
def lowM:List (Nat × AObj)→Prop
 | []=>True
 |(_,o)::r=>lowI o.ids∧lowM r
theorem lC:∀ {l:List Nat},lowI l→∀x∈l,x<1000000
 | [],_,x,h=>by cases h
 |y::r,hl,x,h=>by
  rcases List.mem_cons.1 h with rfl|h
  ·exact hl.1
  ·exact lC hl.2 x h
theorem o3:∀ {t:List (Nat × AV)},lowT t→∀k,∀x∈(get t k).ids,x<1000000
 | [],_,k,x,h=>by simp [get,AV.ids] at h
 |(i,a)::r,hl,k,x,h=>by
  simp only [get] at h
  split at h
  ·exact lC hl.1 x h
  ·exact o3 hl.2 k x h
theorem jb:∀ {m:List (Nat × AObj)},lowM m→∀p∈m,∀x∈p.2.ids,x<1000000
 | [],_,p,h=>by cases h
 |(i,o)::r,hl,p,h=>by
  rcases List.mem_cons.1 h with rfl|h
  ·exact lC hl.1
  ·exact jb hl.2 p h
theorem o4 {X:Ctx} (hX:X.Ok) {c:Code} {Q:Exit→ASt→Prop} {s:ASt} (l:Nat) {e' e sz n:Nat} (hl:look s.m l=some (.nils e' e sz n)) (hd:l<10000) (ht:lowT s.t) (hm:lowM s.m)
 (h:bB X c Q ⟨s.t,(l, .nest e' e sz (List.replicate n []) none)::rml l s.m⟩):bB X c Q s:=by
 refine ⟨fun hk a w ⟨E,hE⟩=>h.run hk a w ?_⟩
 have fm:l<20000:=by omega
 obtain ⟨E',hρ,hσ,hz,nt,qe⟩:∃E':Env,(∀q,(∀i,q≠nn l i)→E'.ρ q=E.ρ q)∧(∀q,(∀i,q≠nn l i)→E'.σ q=E.σ q)∧E'.z=E.z∧(∀i,E'.ρ (nn l i)=none)∧∀i,E'.σ (nn l i)= .slice none 0 0:=by
  classical
  exact ⟨⟨fun q=>if ∃i,q=nn l i then none else E.ρ q,fun q=>if ∃i,q=nn l i then .slice none 0 0 else E.σ q,E.z⟩,
   fun q hq=>by simp only;rw [if_neg (fun ⟨i,hi⟩=>hq i hi)],fun q hq=>by simp only;rw [if_neg (fun ⟨i,hi⟩=>hq i hi)],rfl,fun i=>by simp only;rw [if_pos ⟨i,rfl⟩],fun i=>by simp only;rw [if_pos ⟨i,rfl⟩]⟩
 have u6:∀q,q<1000000→∀i,q≠nn l i:=fun q hq i=>by unfold nn;omega
 have hkeep:kD w E w E' (fun q=>q<1000000):=⟨by rw [hz];exact ak.refl _ _,fun q hq=>hρ q (u6 q hq),fun q hq=>hσ q (u6 q hq)⟩
 have aW:∀q,look ((l,AObj.nest e' e sz (List.replicate n []) none)::rml l s.m) q=if l=q then some (.nest e' e sz (List.replicate n []) none) else look s.m q:=fun q=>by
  simp only [look,kE]
  split<;>rfl
 have dm:∀q o,aJ ((l,AObj.nest e' e sz (List.replicate n []) none)::rml l s.m) q=some o→(q=l∧o= .nest e' e sz (List.replicate n []) none)∨(∃i,q=nn l i∧o= .tip e sz [])∨(q≠l∧(∀i,q≠nn l i)∧aJ s.m q=some o):=by
  intro q o hq
  unfold aJ at hq
  cases bG:nd q with
  |none=>
   rw [bG] at hq
   simp only [aW] at hq
   split at hq
   ·rename_i tP;cases hq;exact .inl ⟨tP.symm,rfl⟩
   ·rename_i tP
    refine .inr (.inr ⟨fun e=>tP e.symm,fun i e=> ?_,by unfold aJ;rw [bG];exact hq⟩)
    rw [e,nd_nn fm] at bG;cases bG
  |some p=>
   obtain ⟨b,i⟩:=p
   obtain ⟨rfl,hb⟩:=j7 bG
   rw [bG] at hq
   simp only [aW] at hq
   split at hq
   ·rename_i hlb
    subst hlb
    simp only [inner,reduceCtorEq,if_false,List.getElem?_replicate] at hq
    split at hq
    ·rename_i r hr
     split at hr
     ·cases hr;cases hq;exact .inr (.inl ⟨i,rfl,rfl⟩)
     ·cases hr
    ·cases hq
   ·rename_i hlb
    refine .inr (.inr ⟨fun e=> ?_,fun j e=> ?_,by rw [ga hb];exact hq⟩)
    ·rw [e,nd_low (by omega)] at bG;cases bG
    ·have h1:=nd_nn (l:=b) (i:=i) hb
     rw [e,nd_nn fm] at h1
     simp only [Option.some.injEq,Prod.mk.injEq] at h1
     exact hlb h1.1
 have BB:aJ s.m l=some (.nils e' e sz n):=hE.good.aJ hl
 have zF:∀i,l≠nn l i:=u6 l (by omega)
 have hold:∀q o,aJ s.m q=some o→q≠l→(∀i,q≠nn l i)→aF w E' q o:=by
  intro q o hq Hp qb
  have ho:=hE.good.dY q o hq
  have xO:=hρ q qb
  have AE:=hσ q qb
  have hmem:∀x∈o.ids,x<1000000:=by
   cases o with
   |box cells=>
    have fU:look s.m q=some (.box cells):=by
     unfold aJ at hq
     split at hq
     ·exact hq
     ·rename_i b i _;cases hb:look s.m b with
      |none=>rw [hb] at hq;simp [inner] at hq
      |some ob=>rw [hb] at hq;cases ob<;>simp [inner] at hq
                split at hq<;>simp at hq
    exact jb hm _ (aH fU)
   |rob cells=>
    have fU:look s.m q=some (.rob cells):=by
     unfold aJ at hq
     split at hq
     ·exact hq
     ·rename_i b i _;cases hb:look s.m b with
      |none=>rw [hb] at hq;simp [inner] at hq
      |some ob=>rw [hb] at hq;cases ob<;>simp [inner] at hq
                split at hq<;>simp at hq
    exact jb hm _ (aH fU)
   |orh e2 r2 i2 g2=>
    have fU:look s.m q=some (.orh e2 r2 i2 g2):=by
     unfold aJ at hq
     split at hq
     ·exact hq
     ·rename_i b i _;cases hb:look s.m b with
      |none=>rw [hb] at hq;simp [inner] at hq
      |some ob=>rw [hb] at hq;cases ob<;>simp [inner] at hq
                split at hq<;>simp at hq
    exact jb hm _ (aH fU)
   |_=>intro x hx;simp [AObj.ids] at hx
  cases o with
  |box cells=>
   obtain ⟨b,vs,e,h1,h2,h3,h4,h5⟩:=ho
   exact ⟨b,vs,e,by rw [xO];exact h1,h2,by rw [hz];exact h3,AVrs.mono hkeep hmem h4,h5⟩
  |rob cells=>
   obtain ⟨b,vs,e,h1,h2,h3,h4,h5⟩:=ho
   exact ⟨b,vs,e,by rw [xO];exact h1,h2,by rw [hz];exact h3,AVrs.mono hkeep hmem h4,h5⟩
  |nest e1 e2 FL rows hole=>
   obtain ⟨b,cur,cap,h1,h2,h3,h4,h5,h6,h7,h8⟩:=ho
   have Ec:q<20000:=by
    unfold aJ at hq
    split at hq
    ·exact hE.good.low q (by rw [hq];simp)
    ·rename_i b i _;cases hb:look s.m b with
     |none=>rw [hb] at hq;simp [inner] at hq
     |some ob=>rw [hb] at hq;cases ob<;>simp [inner] at hq
               split at hq<;>simp at hq
   refine ⟨b,cur,cap,by rw [xO];exact h1,h2,by rw [AE];exact h3,h4,h5,h6,by rw [hz];exact h7,fun i hi hh=> ?_⟩
   rw [hσ (nn q i) (fun j hj=>by
    have h1:=nd_nn (l:=q) (i:=i) Ec
    rw [hj,nd_nn fm] at h1
    simp only [Option.some.injEq,Prod.mk.injEq] at h1
    exact Hp h1.1.symm)]
   exact h8 i hi hh
  |own e sz rows=>simp only [aF] at ho ⊢;rw [xO,AE,hz];exact ho
  |tip e sz rows=>simp only [aF] at ho ⊢;rw [xO,AE,hz];exact ho
  |part e sz rows=>simp only [aF] at ho ⊢;rw [xO,AE,hz];exact ho
  |nils e' e sz n=>simp only [aF] at ho ⊢;rw [xO,AE,hz];exact ho
  |orh e2 r2 i2 g2=>
   obtain ⟨k1,k2,b,cur,cap,h1,h2,h3,h4,h5,h6,h7,h8,h9⟩:=ho
   refine ⟨k1,k2,b,cur,cap,by rw [xO];exact h1,h2,by rw [AE];exact h3,h4,h5,h6,by rw [hz];exact h7,by rw [hz];exact h8,fun g' e=> ?_⟩
   subst e
   rw [hkeep.σ g' (hmem g' (by simp [AObj.ids]))]
   exact h9 g' rfl
  |mp n ag=>simp only [aF] at ho ⊢;rw [xO,hz];exact ho
 have u7:∀q o,aJ ((l,AObj.nest e' e sz (List.replicate n []) none)::rml l s.m) q=some o→∀ {b},E'.ρ q=some b→∃o0,aJ s.m q=some o0∧(o.ro=false→o0.ro=false)∧E.ρ q=some b:=by
  intro q o hq b hb
  rcases dm q o hq with ⟨rfl,rfl⟩|⟨i,rfl,rfl⟩|⟨h1,h2,h3⟩
  ·exact ⟨_,BB,fun _=>rfl,by rw [← hb,hρ q zF]⟩
  ·rw [nt] at hb;cases hb
  ·exact ⟨_,h3,id,by rw [← hb,hρ q h2]⟩
 refine ⟨E',hE.defers,hE.size,⟨fun q hq=> ?_,fun q q' b hq fU hb hb'=> ?_,fun q o hq=> ?_,fun b hb=>by rw [hz];exact hE.good.fresh b hb⟩,⟨hE.dZ.os,hE.dZ.tape,hE.dZ.output,hE.dZ.size,by rw [hz];exact hE.dZ.st,by rw [hz];exact hE.dZ.frame,fun q hq=> ?_⟩,fun q o b hq hro hb=> ?_,fun k=>aQ.mono hkeep (o3 ht k) (hE.slot k)⟩
 ·simp only [aW] at hq
  split at hq
  ·omega
  ·exact hE.good.low q hq
 ·obtain ⟨o,ho⟩:=Option.ne_none_iff_exists'.1 hq
  obtain ⟨o',ho'⟩:=Option.ne_none_iff_exists'.1 fU
  obtain ⟨o1,h1,_,h2⟩:=u7 q o ho hb
  obtain ⟨I2,j9,_,qc⟩:=u7 q' o' ho' hb'
  exact hE.good.inj q q' b (by simp [h1]) (by simp [j9]) h2 qc
 ·rcases dm q o hq with ⟨rfl,rfl⟩|⟨i,rfl,rfl⟩|⟨h1,h2,h3⟩
  ·obtain ⟨b,cur,cap,h1,h2,h3,h4,h5,h6,h7,h8,h9⟩:=hE.good.obj _ _ hl
   refine ⟨b,cur,cap,by rw [hρ q zF];exact h1,h2,by rw [hσ q zF,List.length_replicate];exact h3,by rw [List.length_replicate];exact h4,h5,h6,by rw [hz];exact h7,fun i hi _=> ?_⟩
   rw [qe]
   rw [List.length_replicate] at hi
   exact ⟨h9 i hi,trivial⟩
  ·obtain ⟨b,cur,cap,h1,h2,h3,h4,h5,h6,h7,h8,h9⟩:=hE.good.obj _ _ hl
   exact ⟨by simp,h8, .inl ⟨nt i,rfl,none,qe i⟩⟩
  ·exact hold q o h3 h1 h2
 ·have qb:∀i,q≠nn l i:=fun i e=>by
   subst e
   obtain ⟨o,ho⟩:=Option.ne_none_iff_exists'.1 hq
   rw [ga fm] at ho
   have hlm:look X.m0 l≠none:=fun e=>by rw [e] at ho;simp [inner] at ho
   have:=hX.low l (by rw [bP (by omega)];exact hlm)
   omega
  rw [hρ q qb,hσ q qb]
  exact hE.dZ.yx q hq
 ·obtain ⟨o1,h1,h2,h3⟩:=u7 q o hq hb
  exact hE.mine q o1 b h1 (h2 hro) h3
theorem zG {l i:Nat} (h:l<20000):nd (nn l i)=some (l,i):=nd_nn h
theorem nn_ne {l i n:Nat} (h:n<1000000):(nn l i=n)=False:=eq_false (by unfold nn;omega)
theorem ne_nn {l i n:Nat} (h:n<1000000):(n=nn l i)=False:=eq_false (by unfold nn;omega)
theorem nn_eq {l i j:Nat} :(nn l i=nn l j)=(i=j):=propext ⟨fun h=>by unfold nn at h;omega,fun h=>by rw [h]⟩
attribute [go_sem] nd_low zG nn_ne ne_nn nn_eq inner killM renM reach AV.flat AV.flats lowI lowT lowM List.flatMap_cons List.flatMap_nil
attribute [go_sem] nodupM AObj.ids AObj.ro AObj.isNest
theorem dM {a b:Nat} :(Key.slot a==Key.slot b)=(a==b):=by
 rw [Bool.eq_iff_iff];simp
theorem dN {a b:Nat} :(Key.obj a==Key.obj b)=(a==b):=by
 rw [Bool.eq_iff_iff];simp
theorem dO {a b:Nat} :(Key.slot a==Key.obj b)=false:=by simp
theorem dP {a b:Nat} :(Key.obj a==Key.slot b)=false:=by simp
theorem dQ {l i n:Nat} (h:n<1000000):(n==nn l i)=false:=by simp [ne_nn h]
theorem dR {l i n:Nat} (h:n<1000000):(nn l i==n)=false:=by simp [nn_ne h]
def AV.isNo:AV→Bool
 | .nil _=>true
 | .emp _=>true
 |_=>false
attribute [go_sem] AV.isNo
theorem xP {X:Ctx} (hX:X.Ok) {c:Code} {Q:Exit→ASt→Prop} {s:ASt} (k l:Nat) (o:AObj) (hk:(get s.t k).isNo=true) (hl:look s.m l=none) (hd:l<10000)
 (ho:∃e sz,0<sz∧(o= .own e sz []∨o= .tip e sz []))
 (h:bB X c Q (((⟨[], [], [(l,none)], [(l,o)],none, .cK⟩:LA).app s).put (some k) (.ref l))):bB X c Q s:=by
 refine ⟨fun hk' a w ⟨E,hE⟩=>h.run hk' a w ?_⟩
 obtain ⟨e,sz,hsz,ho⟩:=ho
 have hv:=hE.slot k
 obtain ⟨p,hp⟩:∃p,a.tmps.getD k undef= .slice p 0 0:=by
  cases hq:get s.t k with
  |nil e=>rw [hq] at hv;exact ⟨_,hv⟩
  |emp e=>rw [hq] at hv;exact hv
  |_=>rw [hq] at hk;cases hk
 obtain ⟨E',hρ,hσ,hz,nt,qe⟩:∃E':Env,(∀q,q≠l→E'.ρ q=E.ρ q)∧(∀q,q≠l→E'.σ q=E.σ q)∧E'.z=E.z∧E'.ρ l=none∧E'.σ l= .slice p 0 0:=by
  exact ⟨⟨fun q=>if q=l then none else E.ρ q,fun q=>if q=l then .slice p 0 0 else E.σ q,E.z⟩,fun q hq=>by simp only;rw [if_neg hq],fun q hq=>by simp only;rw [if_neg hq],rfl,by simp,by simp⟩
 have bp:∀q,kl [(l,(none:Option D))] q=if l=q then some none else none:=fun q=>by simp only [kl]
 have hlk:∀q,look [(l,o)] q=if l=q then some o else none:=fun q=>by simp only [look]
 have hr:=hE.app' ⟨[], [], [(l,none)], [(l,o)],none, .cK⟩ E' w undef (by rw [hz];exact ak.refl _ _) rfl rfl rfl (Nat.le_refl _)
  (fun q hq=>by
    have:q≠l:=fun e=>by subst e;simp [kl] at hq
    exact ⟨hρ q this,hσ q this⟩)
  (fun q x hq=>by simp only [bp] at hq;split at hq<;>simp at hq)
  (fun q hq=>by
    have:q≠l:=fun e=>by
     subst e
     refine hq ?_
     rw [bP (by omega)]
     by_cases hm:look X.m0 q=none
     ·exact hm
     ·have:=hX.low q (by rw [bP (by omega)];exact hm)
      omega
    exact ⟨hρ q this,hσ q this⟩)
  (fun q hq=>by simp only [bp] at hq;split at hq<;>simp at hq;omega)
  (fun q o' hq=>by
    simp only [hlk] at hq
    split at hq
    ·cases hq;exact ⟨by omega,by rcases ho with rfl|rfl<;>rfl⟩
    ·cases hq)
  (fun b _=> .inl ⟨rfl,by rw [hz]⟩)
  (fun q o' hq=>by
    simp only [hlk] at hq
    split at hq
    ·rename_i e;subst e
     cases hq
     rcases ho with rfl|rfl
     ·exact ⟨by simp,hsz, .inl ⟨nt,rfl,p,qe⟩⟩
     ·exact ⟨by simp,hsz, .inl ⟨nt,rfl,p,qe⟩⟩
    ·cases hq)
  (fun q q' b hq _ hb=>by
    simp only [hlk] at hq
    split at hq
    ·rename_i e;subst e;rw [nt] at hb;cases hb
    ·exact absurd rfl hq)
  (fun q b hq hb=>by
    simp only [hlk] at hq
    split at hq
    ·rename_i e;subst e;rw [nt] at hb;cases hb
    ·exact absurd rfl hq)
  (fun b hb=>by rw [hz];exact hE.good.fresh b hb) trivial (fun d hd=>by cases hd)
 have ha:a.put none undef=a:=rfl
 rw [ha] at hr
 refine ⟨E',⟨hr.defers,hr.size,hr.good,hr.dZ,hr.mine,fun j=> ?_⟩⟩
 have hj:=hr.slot j
 simp only [ASt.put,get]
 split
 ·rename_i e;subst e
  rw [hp]
  exact ⟨qe.symm,trivial⟩
 ·rename_i hne
  exact hj
theorem nu {X:Ctx} (hX:X.Ok) {c:Code} {Q:Exit→ASt→Prop} {s:ASt} (l:Nat) {o:AObj} {e sz:Nat} {rows:List (List D)} (hl:look s.m l=some o) (ho:o= .own e sz rows∨o= .part e sz rows)
 (h:bB X c Q ((⟨[], [], [(l,some (.sl sz rows))], [],none, .cK⟩:LA).app s)):bB X c Q s:=by
 refine ⟨fun hk' a w ⟨E,hE⟩=>h.run hk' a w ?_⟩
 have fm:l<20000:=hE.good.low l (by rw [hl];simp)
 have hro:o.ro=false:=by rcases ho with rfl|rfl<;>rfl
 obtain ⟨z,hz,tS,gr⟩:∃z:Nat→Nat,(∀b,E.ρ l=some b→z b=max (E.z b) (bg w b))∧(∀b,E.ρ l≠some b→z b=E.z b)∧∀b,w.heap.size≤b→z b=0:=by
  refine ⟨fun b=>if E.ρ l=some b then max (E.z b) (bg w b) else E.z b,fun b hb=>by simp only;rw [if_pos hb],fun b hb=>by simp only;rw [if_neg hb],fun b hb=> ?_⟩
  have h0:=hE.good.fresh b hb
  have h1:bg w b=0:=by simp [bg,Array.getElem?_eq_none hb]
  simp only [h0,h1];split<;>rfl
 have hst:ak w E.z w z:=fun b=>⟨by
  by_cases hb:E.ρ l=some b
  ·rw [hz b hb];exact Nat.le_max_left _ _
  ·rw [tS b hb];exact Nat.le_refl _,fun _ _=>rfl⟩
 have bp:∀q,kl [(l,some (D.sl sz rows))] q=if l=q then some (some (.sl sz rows)) else none:=fun q=>by simp only [kl]
 have hlk:∀q,look ([]:List (Nat × AObj)) q=none:=fun q=>rfl
 have dm:aJ s.m l=some o:=hE.good.aJ hl
 have hr:=hE.app' ⟨[], [], [(l,some (.sl sz rows))], [],none, .cK⟩ ⟨E.ρ,E.σ,z⟩ w undef hst rfl rfl rfl (Nat.le_refl _)
  (fun q _=>⟨rfl,rfl⟩)
  (fun q x hq hs=>by
    simp only [bp] at hq
    split at hq
    ·rename_i e;subst e
     cases hq
     refine iR (C:=X.C) (bad:=fun _=>false) (dI:=false) (m:= [(l,o)]) (E:=E) (z:=z) (n:=1) (a:= .ref l) ?_ hst ?_ ?_ ⟨rfl,hs⟩
     ·exact ⟨fun q hq=>by simp only [look] at hq;split at hq<;>simp_all,fun q q' b hq fU hb hb'=>by
       have f:∀q,aJ [(l,o)] q≠none→q=l:=fun q hq=>by
        unfold aJ at hq
        split at hq
        ·simp only [look] at hq;split at hq
         ·rename_i e;exact e.symm
         ·exact absurd rfl hq
        ·exfalso;simp only [look] at hq;split at hq
         ·rcases ho with rfl|rfl<;>simp [inner] at hq
         ·simp [inner] at hq
       rw [f q hq,f q' fU],fun q o' hq=>by
        have:q=l∧o'=o:=by
         unfold aJ at hq
         split at hq
         ·simp only [look] at hq;split at hq
          ·rename_i e;exact ⟨e.symm,by cases hq;rfl⟩
          ·cases hq
         ·exfalso;simp only [look] at hq;split at hq
          ·rcases ho with rfl|rfl<;>simp [inner] at hq
          ·simp [inner] at hq
        obtain ⟨rfl,rfl⟩:=this
        exact hE.good.obj _ _ hl,hE.good.fresh⟩
     ·intro q o' b hq _ _ hb
      simp only [look] at hq
      split at hq
      ·rename_i e;subst e;rw [hz b hb];exact Nat.le_max_right _ _
      ·cases hq
     ·rcases ho with rfl|rfl<;>simp [rdX,look]
    ·cases hq)
  (fun q _=>⟨rfl,rfl⟩)
  (fun q hq=>by simp only [bp] at hq;split at hq<;>simp at hq;omega)
  (fun q o' hq=>by simp [hlk] at hq)
  (fun b _=>by
    by_cases hb:E.ρ l=some b
    ·exact .inr ⟨l,o,dm,hro,hb, .inl (by simp [bp])⟩
    ·exact .inl ⟨rfl,tS b hb⟩)
  (fun q o' hq=>by simp [hlk] at hq) (fun q q' b hq=>absurd rfl hq) (fun q b hq=>absurd rfl hq) gr trivial (fun d hd=>by cases hd)
 have ha:a.put none undef=a:=rfl
 rw [ha] at hr
 exact ⟨_,hr⟩
theorem gu {X:Ctx} (hX:X.Ok) {c:Code} {Q:Exit→ASt→Prop} {s:ASt} (k l l':Nat) {o:AObj} {e sz:Nat} {rows:List (List D)} (hk:get s.t k= .ref l) (hl:look s.m l=some o) (ho:o= .own e sz rows∨o= .tip e sz rows) (hd:l'<10000)
 (h:bB X c Q (((⟨[], [], [(l,none),(l',none)], [(l',o)],none, .cK⟩:LA).app s).put (some k) (.ref l'))):bB X c Q s:=by
 refine ⟨fun hk' a w ⟨E,hE⟩=>h.run hk' a w ?_⟩
 have hv:=hE.slot k
 rw [hk] at hv
 have fm:l<20000:=hE.good.low l (by rw [hl];simp)
 have hro:o.ro=false:=by rcases ho with rfl|rfl<;>rfl
 have fL:=hE.good.obj l o hl
 obtain ⟨E',hρ,hσ,hz,nt,qe⟩:∃E':Env,(∀q,q≠l'→E'.ρ q=E.ρ q)∧(∀q,q≠l'→E'.σ q=E.σ q)∧E'.z=E.z∧E'.ρ l'=E.ρ l∧E'.σ l'=E.σ l:=by
  exact ⟨⟨fun q=>if q=l' then E.ρ l else E.ρ q,fun q=>if q=l' then E.σ l else E.σ q,E.z⟩,fun q hq=>by simp only;rw [if_neg hq],fun q hq=>by simp only;rw [if_neg hq],rfl,by simp,by simp⟩
 have bp:∀q,kl [(l,(none:Option D)),(l',none)] q=if l=q then some none else if l'=q then some none else none:=fun q=>by simp only [kl]
 have hlk:∀q,look [(l',o)] q=if l'=q then some o else none:=fun q=>by simp only [look]
 have hr:=hE.app' ⟨[], [], [(l,none),(l',none)], [(l',o)],none, .cK⟩ E' w undef (by rw [hz];exact ak.refl _ _) rfl rfl rfl (Nat.le_refl _)
  (fun q hq=>by
    have:q≠l':=fun e=>by subst e;simp [kl] at hq
    exact ⟨hρ q this,hσ q this⟩)
  (fun q x hq=>by simp only [bp] at hq;split at hq<;>(try split at hq)<;>simp at hq)
  (fun q hq=>by
    have:q≠l':=fun e=>by
     subst e
     refine hq ?_
     rw [bP (by omega)]
     by_cases hm:look X.m0 q=none
     ·exact hm
     ·have:=hX.low q (by rw [bP (by omega)];exact hm)
      omega
    exact ⟨hρ q this,hσ q this⟩)
  (fun q hq=>by
    simp only [bp] at hq
    split at hq
    ·omega
    ·split at hq
     ·omega
     ·exact absurd rfl hq)
  (fun q o' hq=>by
    simp only [hlk] at hq
    split at hq
    ·cases hq;exact ⟨by omega,by rcases ho with rfl|rfl<;>rfl⟩
    ·cases hq)
  (fun b _=> .inl ⟨rfl,by rw [hz]⟩)
  (fun q o' hq=>by
    simp only [hlk] at hq
    split at hq
    ·rename_i e;subst e
     cases hq
     rcases ho with rfl|rfl<;>(simp only [aF] at fL ⊢;rw [nt,qe,hz];exact fL)
    ·cases hq)
  (fun q q' b hq fU _ _=>by
    simp only [hlk] at hq fU
    split at hq
    ·rename_i e;split at fU
     ·rename_i e';rw [← e, ← e']
     ·exact absurd rfl fU
    ·exact absurd rfl hq)
  (fun q b hq hb=>by
    simp only [hlk] at hq
    split at hq
    ·rename_i e;subst e;rw [nt] at hb;exact .inr ⟨l,o,hE.good.aJ hl,hro,hb, .inl (by simp [bp])⟩
    ·exact absurd rfl hq)
  (fun b hb=>by rw [hz];exact hE.good.fresh b hb) trivial (fun d hd=>by cases hd)
 have ha:a.put none undef=a:=rfl
 rw [ha] at hr
 refine ⟨E',⟨hr.defers,hr.size,hr.good,hr.dZ,hr.mine,fun j=> ?_⟩⟩
 have hj:=hr.slot j
 simp only [ASt.put,get]
 split
 ·rename_i e;subst e
  exact ⟨by rw [qe];exact hv.1,hv.2⟩
 ·exact hj
theorem o5 {X:Ctx} (hX:X.Ok) {c:Code} {Q:Exit→ASt→Prop} {s:ASt} (bx i l:Nat) (o:AObj) {cells:List AV} {a0:AV} (qf:look s.m bx=some (.box cells)) (hi:cells[i]? =some a0) (ha0:a0.isNo=true) (hl:look s.m l=none) (hd:l<10000) (fV:l∉AV.idss cells)
 (ho:∃e sz,0<sz∧(o= .own e sz []∨o= .tip e sz []))
 (h:bB X c Q ((⟨[], [], [(l,none)], [(l,o),(bx, .box (cells.set i (.ref l)))],none, .cK⟩:LA).app s)):bB X c Q s:=by
 refine ⟨fun hk' a w ⟨E,hE⟩=>h.run hk' a w ?_⟩
 obtain ⟨e,sz,hsz,ho⟩:=ho
 have hne:bx≠l:=fun e=>by rw [e,hl] at qf;cases qf
 obtain ⟨b,vs,et,g1,g2,g3,g4,g5⟩:=hE.good.obj bx _ qf
 obtain ⟨v,AF,zH⟩:=g4.get hi
 obtain ⟨p,hp⟩:∃p,v= .slice p 0 0:=by
  cases a0 with
  |nil e=>exact ⟨_,zH⟩
  |emp e=>exact zH
  |_=>cases ha0
 subst hp
 obtain ⟨E',hρ,hσ,hz,nt,qe⟩:∃E':Env,(∀q,q≠l→E'.ρ q=E.ρ q)∧(∀q,q≠l→E'.σ q=E.σ q)∧E'.z=E.z∧E'.ρ l=none∧E'.σ l= .slice p 0 0:=by
  exact ⟨⟨fun q=>if q=l then none else E.ρ q,fun q=>if q=l then .slice p 0 0 else E.σ q,E.z⟩,fun q hq=>by simp only;rw [if_neg hq],fun q hq=>by simp only;rw [if_neg hq],rfl,by simp,by simp⟩
 have bp:∀q,kl [(l,(none:Option D))] q=if l=q then some none else none:=fun q=>by simp only [kl]
 have hlk:∀q,look [(l,o),(bx, .box (cells.set i (.ref l)))] q=if l=q then some o else if bx=q then some (.box (cells.set i (.ref l))) else none:=fun q=>by simp only [look]
 have hc:AVrs w E' (cells.set i (.ref l)) vs:=by
  have h0:AVrs w E' cells vs:=AVrs.mono (live:=fun q=>q≠l) ⟨by rw [hz];exact ak.refl _ _,hρ,hσ⟩ (fun q hq e=>fV (by rw [← e];exact hq)) g4
  rw [bU] at h0 ⊢
  refine ⟨by rw [List.length_set];exact h0.1,fun j a' u' ha hu=> ?_⟩
  rw [List.getElem?_set] at ha
  split at ha
  ·rename_i hij;subst hij
   split at ha
   ·cases ha
    rw [AF] at hu;cases hu
    exact ⟨qe.symm,trivial⟩
   ·cases ha
  ·exact h0.2 j a' u' ha hu
 have hr:=hE.app' ⟨[], [], [(l,none)], [(l,o),(bx, .box (cells.set i (.ref l)))],none, .cK⟩ E' w undef (by rw [hz];exact ak.refl _ _) rfl rfl rfl (Nat.le_refl _)
  (fun q hq=>by
    have:q≠l:=fun e=>by subst e;simp [kl] at hq
    exact ⟨hρ q this,hσ q this⟩)
  (fun q x hq=>by simp only [bp] at hq;split at hq<;>simp at hq)
  (fun q hq=>by
    have:q≠l:=fun e=>by
     subst e
     refine hq ?_
     rw [bP (by omega)]
     by_cases hm:look X.m0 q=none
     ·exact hm
     ·have:=hX.low q (by rw [bP (by omega)];exact hm)
      omega
    exact ⟨hρ q this,hσ q this⟩)
  (fun q hq=>by simp only [bp] at hq;split at hq<;>simp at hq;omega)
  (fun q o' hq=>by
    simp only [hlk] at hq
    split at hq
    ·cases hq;exact ⟨by omega,by rcases ho with rfl|rfl<;>rfl⟩
    ·split at hq
     ·rename_i e;subst e
      cases hq;exact ⟨hE.good.low bx (by rw [qf];simp),rfl⟩
     ·cases hq)
  (fun b _=> .inl ⟨rfl,by rw [hz]⟩)
  (fun q o' hq=>by
    simp only [hlk] at hq
    split at hq
    ·rename_i e;subst e
     cases hq
     rcases ho with rfl|rfl
     ·exact ⟨by simp,hsz, .inl ⟨nt,rfl,p,qe⟩⟩
     ·exact ⟨by simp,hsz, .inl ⟨nt,rfl,p,qe⟩⟩
    ·split at hq
     ·rename_i e;subst e
      cases hq
      exact ⟨b,vs,et,by rw [hρ _ hne];exact g1,g2,by rw [hz];exact g3,hc,g5⟩
     ·cases hq)
  (fun q q' b hq fU hb hb'=>by
    have f:∀q,look [(l,o),(bx, .box (cells.set i (.ref l)))] q≠none→E'.ρ q=some b→q=bx:=fun q hq hb=>by
     simp only [hlk] at hq
     split at hq
     ·rename_i e;subst e;rw [nt] at hb;cases hb
     ·split at hq
      ·rename_i e;exact e.symm
      ·exact absurd rfl hq
    rw [f q hq hb,f q' fU hb'])
  (fun q b hq hb=>by
    have:q=bx:=by
     simp only [hlk] at hq
     split at hq
     ·rename_i e;subst e;rw [nt] at hb;cases hb
     ·split at hq
      ·rename_i e;exact e.symm
      ·exact absurd rfl hq
    subst this
    rw [hρ _ hne] at hb
    exact .inr ⟨_,_,hE.good.aJ qf,rfl,hb, .inr (by rw [hlk];simp [hne.symm])⟩)
  (fun b hb=>by rw [hz];exact hE.good.fresh b hb) trivial (fun d hd=>by cases hd)
 have ha:a.put none undef=a:=rfl
 rw [ha] at hr
 exact ⟨E',hr⟩
end Go.Ab
end
section
namespace Go.Ab
theorem o6 {X:Ctx} {o:Oper} {s:ASt} {K:LA→Prop} (hX:X.Ok) {C:Cfg} (hC:X.C=C) {P:Program} (hP:X.P=P) {c:Call} {fo:Operand} {f:Nat} {first caps as as':List AV} {ob:AObj} (d:Nat)
 (hs:Spec P f (Args as') [] (.ref 10000) [(10000,ob)]) (ho:o.op= .call c) (hc:c.callee= .value fo) (hf:aev C 0 s fo= .fn f first caps) (has:evA C s c.args.toList c.argTypes.toList=as)
 (kq:cvts (fun a x=>rdX C (fun _=>false) true (reach s 3 (AV.idss (first++as++caps))) 4 a=some x) (first++as++caps) as')
 (xD:∃e sz rows,ob= .tip e sz rows∧∀r∈rows,∀x∈r,∃v,x=D.sc v) (hd:o.dst=some d) (hdl:d<10000)
 (hK:K ⟨rsOf s (fo::c.args.toList),reach s 3 (AV.idss (first++as++caps)), [(d,none)], [(d,ob)],some d, .ref d⟩):ACall X o (.fn f first caps) as s K:=by
 subst hC;subst hP
 refine ⟨_,⟨hd.symm, ?_⟩,⟨ai s _,iA s _ _⟩,hK⟩
 rintro s' a w hdn dJ ⟨E,hE⟩
 have hfo:=hE.evs dJ.1 X.C 0 (x:=fo) (by simp)
 rw [hf] at hfo
 obtain ⟨us,vs,hfo,om,wZ⟩:=hfo
 have hargs:=iV (s:=s) hE c.args.toList c.argTypes.toList (fun p hp=>dJ.1 p (by cases fo<;>simp [rsOf,hp]))
 rw [has] at hargs
 have oL:AVrs w E (first++as++caps) (us++c.args.toList.map a.eval++vs):=(om.append hargs).append wZ
 obtain ⟨fn,cd,hfn,hname,hbody⟩:=hs.can
 have hrun:(execOp a.eval o).run X.P w= .ok (.enter f (us++c.args.toList.map a.eval++vs).toArray) w:=by
  have h1:us.toArray++c.args.map a.eval++vs.toArray=(us++c.args.toList.map a.eval++vs).toArray:=by
   apply Array.toList_inj.1;simp
  have h2:=ck (P:=X.P) hfn hname hbody (us.toArray++c.args.map a.eval++vs.toArray) w
  rw [h1] at h2
  simp only [execOp,ho,resolve,hc,hfo,Deferred.ofValue,Sem.run_bind,Sem.run_pure,Result.andThen_ok,invoke]
  rw [h1];exact h2
 have dm:∀l,aJ [] l=none:=fun l=>by unfold aJ;split<;>rfl
 have u0:ak w E.z w (fun b=>max (E.z b) (bg w b)):=fun b=>⟨Nat.le_max_left _ _,fun _ _=>rfl⟩
 have u5:Good [] ⟨E.ρ,E.σ,fun b=>max (E.z b) (bg w b)⟩ w:=by
  refine ⟨fun l h=>by simp [look] at h,fun l l' b h=>by simp [dm] at h,fun l o h=>by simp [dm] at h,fun b hb=> ?_⟩
  simp [hE.good.fresh b hb,bg,Array.getElem?_eq_none hb]
 have hA:AVrs w ⟨E.ρ,E.σ,fun b=>max (E.z b) (bg w b)⟩ as' (us++c.args.toList.map a.eval++vs):=
  cL (E':=⟨E.ρ,E.σ,fun b=>max (E.z b) (bg w b)⟩) ⟨u0,fun _ _=>rfl,fun _ _=>rfl⟩ (fun a x v yE hr=>iR hE.good u0 (fun l o b _ _ _ _=>Nat.le_max_right _ _) (oZ (fun l o hl=>dJ.2 _ (aH hl)) yE) hr) kq oL
 unfold Oper.wp
 rw [hrun]
 refine (hs.calls _ w _ u5 hA).mono ?_
 rintro e w' ⟨v,E',rfl,hst,hg',mu,hres⟩
 have hheap:∀b,b<w.heap.size→w'.heap[b]? =w.heap[b]? :=fun b hb=>(hst.frame b hb (by rintro ⟨l,o,hl,_⟩;simp [dm] at hl)).1
 obtain ⟨e0,sz,rows,rfl,hfl⟩:=xD
 have BC:aJ [(10000,AObj.tip e0 sz rows)] 10000=some (.tip e0 sz rows):=by rw [bP (by omega)];simp [look]
 have fL:=hg'.dY 10000 _ BC
 have yH:∀b,E'.ρ 10000=some b→w.heap.size≤b:=fun b hb=>by
  rcases mu 10000 _ b BC rfl hb with h|⟨l,q,hl,_⟩
  ·exact h
  ·simp [dm] at hl
 obtain ⟨E2,hρ,hσ,Ed,Ee,gr,C7⟩:∃E2:Env,(∀l,l≠d→E2.ρ l=E.ρ l)∧(∀l,l≠d→E2.σ l=E.σ l)∧E2.ρ d=E'.ρ 10000∧E2.σ d=E'.σ 10000∧(∀b,b<w.heap.size→E2.z b=E.z b)∧(∀b,w.heap.size≤b→E2.z b=E'.z b):=
  ⟨⟨fun l=>if l=d then E'.ρ 10000 else E.ρ l,fun l=>if l=d then E'.σ 10000 else E.σ l,fun b=>if b<w.heap.size then E.z b else E'.z b⟩,fun l h=>by simp [h],fun l h=>by simp [h],by simp,by simp,fun b h=>by simp [h],fun b h=>by simp [show ¬b<w.heap.size by omega]⟩
 have bp:∀l,kl [(d,(none:Option D))] l=if d=l then some none else none:=fun l=>by simp only [kl]
 have hlk:∀l,look [(d,AObj.tip e0 sz rows)] l=if d=l then some (.tip e0 sz rows) else none:=fun l=>by simp only [look]
 refine ⟨E2,hd ▸ hE.app' ⟨rsOf s (fo::c.args.toList),reach s 3 (AV.idss (first++as++caps)), [(d,none)], [(d, .tip e0 sz rows)],some d, .ref d⟩ E2 w' v (fun b=> ?_) hst.os hst.tape hst.output hst.size (fun l hl=> ?_) (fun l x hl=> ?_) (fun l hl=> ?_) (fun l hl=> ?_) (fun l q hl=> ?_) (fun b hb=> .inl ⟨hheap b hb,gr b hb⟩) (fun l q hl=> ?_) (fun l l' b hl hl' _ _=> ?_) (fun l b hl hb=> ?_) (fun b hb=> ?_) ?_ (fun k hk=>hdn k (hd ▸ hk))⟩
 ·by_cases hb:b<w.heap.size
  ·exact ⟨by rw [gr b hb];exact Nat.le_refl _,fun o _=>cell?_of_heap (hheap b hb) o⟩
  ·have:=hE.good.fresh b (by omega)
   exact ⟨by omega,fun o ho=>by omega⟩
 ·have:l≠d:=fun e=>by subst e;simp [kl] at hl
  exact ⟨hρ l this,hσ l this⟩
 ·simp only [bp] at hl;split at hl<;>simp at hl
 ·have:l≠d:=fun e=>by
   subst e
   have:=hX.low l hl
   omega
  exact ⟨hρ l this,hσ l this⟩
 ·simp only [bp] at hl
  split at hl
  ·omega
  ·exact absurd rfl hl
 ·simp only [hlk] at hl
  split at hl
  ·cases hl;exact ⟨by omega,rfl⟩
  ·cases hl
 ·simp only [hlk] at hl
  split at hl
  ·rename_i he;subst he
   cases hl
   obtain ⟨g1,g2,g3⟩:=fL
   refine ⟨g1,g2, ?_⟩
   rcases g3 with ⟨h1,h2,h3⟩|⟨b,cur,cap,h1,h2,h3,h4,h5,h6,h7,h8⟩
   ·exact .inl ⟨by rw [Ed];exact h1,h2,by rw [Ee];exact h3⟩
   ·refine .inr ⟨b,cur,cap,by rw [Ed];exact h1,h2,by rw [Ee];exact h3,h4,h5,h6,by rw [C7 b (yH b h1)];exact h7,fun i j r x hi hj=> ?_⟩
    obtain ⟨v,hv,hx⟩:=h8 i j r x hi hj
    obtain ⟨u,rfl⟩:=hfl r (List.mem_of_getElem? hi) x (List.mem_of_getElem? hj)
    cases hx with
    |sc _ h=>exact ⟨_,hv, .sc _ h⟩
  ·cases hl
 ·simp only [hlk] at hl hl'
  split at hl
  ·rename_i he;split at hl'
   ·rename_i he';rw [← he, ← he']
   ·exact absurd rfl hl'
  ·exact absurd rfl hl
 ·simp only [hlk] at hl
  split at hl
  ·rename_i he;subst he
   rw [Ed] at hb;exact .inl (yH b hb)
  ·exact absurd rfl hl
 ·rw [C7 b (Nat.le_trans hst.size hb)];exact hg'.fresh b hb
 ·exact ⟨by rw [Ee];exact hres.1,hres.2⟩
theorem Rel.Hq {X:Ctx} (hX:X.Ok) {s:ASt} {a:Act} {w:World} (A3:Rel X s a w) (bx i l l':Nat) {o:AObj} {cells:List AV} {e sz:Nat} {rows:List (List D)} (qf:look s.m bx=some (.box cells)) (hi:cells[i]? =some (.ref l)) (hl:look s.m l=some o) (ho:o= .own e sz rows∨o= .tip e sz rows) (hd:l'<10000) (s5:l'≠bx):
 Rel X ((⟨[], [], [(l,none),(l',none)], [(l',o),(bx, .box ((AV.subs [(l,none),(l',none)] cells).set i (.ref l')))],none, .cK⟩:LA).app s) a w:=by
 obtain ⟨E,hE⟩:=A3
 have hne:bx≠l:=fun e=>by rw [e,hl] at qf;cases qf;rcases ho with h|h<;>cases h
 obtain ⟨b,vs,et,g1,g2,g3,g4,g5⟩:=hE.good.obj bx _ qf
 obtain ⟨v,AF,zH⟩:=g4.get hi
 have fm:l<20000:=hE.good.low l (by rw [hl];simp)
 have hro:o.ro=false:=by rcases ho with rfl|rfl<;>rfl
 have fL:=hE.good.obj l o hl
 obtain ⟨E',hρ,hσ,hz,nt,qe⟩:∃E':Env,(∀q,q≠l'→E'.ρ q=E.ρ q)∧(∀q,q≠l'→E'.σ q=E.σ q)∧E'.z=E.z∧E'.ρ l'=E.ρ l∧E'.σ l'=E.σ l:=by
  exact ⟨⟨fun q=>if q=l' then E.ρ l else E.ρ q,fun q=>if q=l' then E.σ l else E.σ q,E.z⟩,fun q hq=>by simp only;rw [if_neg hq],fun q hq=>by simp only;rw [if_neg hq],rfl,by simp,by simp⟩
 have bp:∀q,kl [(l,(none:Option D)),(l',none)] q=if l=q then some none else if l'=q then some none else none:=fun q=>by simp only [kl]
 have hlk:∀q,look [(l',o),(bx, .box ((AV.subs [(l,none),(l',none)] cells).set i (.ref l')))] q=if l'=q then some o else if bx=q then some (.box ((AV.subs [(l,none),(l',none)] cells).set i (.ref l'))) else none:=fun q=>by simp only [look]
 have hkeep:∀q,kl [(l,(none:Option D)),(l',none)] q=none→E'.ρ q=E.ρ q∧E'.σ q=E.σ q:=fun q hq=>by
  have:q≠l':=fun e=>by subst e;simp [kl] at hq
  exact ⟨hρ q this,hσ q this⟩
 have hks:∀q x,kl [(l,(none:Option D)),(l',none)] q=some (some x)→dx (E.σ q)→Rd w E'.z (E.σ q) x:=fun q x hq=>by simp only [bp] at hq;split at hq<;>(try split at hq)<;>simp at hq
 have hst:ak w E.z w E'.z:=by rw [hz];exact ak.refl _ _
 have hc:AVrs w E' ((AV.subs [(l,none),(l',none)] cells).set i (.ref l')) vs:=by
  have h0:AVrs w E' (AV.subs [(l,none),(l',none)] cells) vs:=AVrs.sub hst hkeep hks g4
  rw [bU] at h0 ⊢
  refine ⟨by rw [List.length_set];exact h0.1,fun j a' u' ha hu=> ?_⟩
  rw [List.getElem?_set] at ha
  split at ha
  ·rename_i hij;subst hij
   split at ha
   ·cases ha
    rw [AF] at hu;cases hu
    exact ⟨by rw [qe];exact zH.1,zH.2⟩
   ·cases ha
  ·exact h0.2 j a' u' ha hu
 have hr:=hE.app' ⟨[], [], [(l,none),(l',none)], [(l',o),(bx, .box ((AV.subs [(l,none),(l',none)] cells).set i (.ref l')))],none, .cK⟩ E' w undef hst rfl rfl rfl (Nat.le_refl _)
  hkeep hks
  (fun q hq=>by
    have:q≠l':=fun e=>by
     subst e
     refine hq ?_
     rw [bP (by omega)]
     by_cases hm:look X.m0 q=none
     ·exact hm
     ·have:=hX.low q (by rw [bP (by omega)];exact hm)
      omega
    exact ⟨hρ q this,hσ q this⟩)
  (fun q hq=>by
    simp only [bp] at hq
    split at hq
    ·omega
    ·split at hq
     ·omega
     ·exact absurd rfl hq)
  (fun q o' hq=>by
    simp only [hlk] at hq
    split at hq
    ·cases hq;exact ⟨by omega,by rcases ho with rfl|rfl<;>rfl⟩
    ·split at hq
     ·rename_i e;subst e
      cases hq;exact ⟨hE.good.low bx (by rw [qf];simp),rfl⟩
     ·cases hq)
  (fun b _=> .inl ⟨rfl,by rw [hz]⟩)
  (fun q o' hq=>by
    simp only [hlk] at hq
    split at hq
    ·rename_i e;subst e
     cases hq
     rcases ho with rfl|rfl<;>(simp only [aF] at fL ⊢;rw [nt,qe,hz];exact fL)
    ·split at hq
     ·rename_i e;subst e
      cases hq
      exact ⟨b,vs,et,by rw [hρ _ s5.symm];exact g1,g2,by rw [hz];exact g3,hc,g5⟩
     ·cases hq)
  (fun q q' b' hq fU hb hb'=>by
    have f:∀q,look [(l',o),(bx, .box ((AV.subs [(l,none),(l',none)] cells).set i (.ref l')))] q≠none→E'.ρ q=some b'→(q=l'∧E.ρ l=some b')∨(q=bx∧E.ρ bx=some b'):=fun q hq hb=>by
     simp only [hlk] at hq
     split at hq
     ·rename_i e;subst e;rw [nt] at hb;exact .inl ⟨rfl,hb⟩
     ·split at hq
      ·rename_i e;subst e;rw [hρ _ s5.symm] at hb;exact .inr ⟨rfl,hb⟩
      ·exact absurd rfl hq
    rcases f q hq hb with ⟨h1,h2⟩|⟨h1,h2⟩<;>rcases f q' fU hb' with ⟨h3,h4⟩|⟨h3,h4⟩
    ·rw [h1,h3]
    ·exact absurd (hE.good.inj l bx b' (by simp [hE.good.aJ hl]) (by simp [hE.good.aJ qf]) h2 h4).symm hne
    ·exact absurd (hE.good.inj l bx b' (by simp [hE.good.aJ hl]) (by simp [hE.good.aJ qf]) h4 h2).symm hne
    ·rw [h1,h3])
  (fun q b' hq hb=>by
    simp only [hlk] at hq
    split at hq
    ·rename_i e;subst e;rw [nt] at hb;exact .inr ⟨l,o,hE.good.aJ hl,hro,hb, .inl (by simp [bp])⟩
    ·split at hq
     ·rename_i e;subst e;rw [hρ _ s5.symm] at hb;exact .inr ⟨_,_,hE.good.aJ qf,rfl,hb, .inr (by rw [hlk];simp [s5])⟩
     ·exact absurd rfl hq)
  (fun b hb=>by rw [hz];exact hE.good.fresh b hb) trivial (fun d hd=>by cases hd)
 have ha:a.put none undef=a:=rfl
 rw [ha] at hr
 exact ⟨E',hr⟩
theorem cc {X:Ctx} (hX:X.Ok) {c:Code} {Q:Exit→ASt→Prop} {s:ASt} (bx i l l':Nat) {o:AObj} {cells:List AV} {e sz:Nat} {rows:List (List D)} (qf:look s.m bx=some (.box cells)) (hi:cells[i]? =some (.ref l)) (hl:look s.m l=some o) (ho:o= .own e sz rows∨o= .tip e sz rows) (hd:l'<10000) (s5:l'≠bx)
 (h:bB X c Q ((⟨[], [], [(l,none),(l',none)], [(l',o),(bx, .box ((AV.subs [(l,none),(l',none)] cells).set i (.ref l')))],none, .cK⟩:LA).app s)):bB X c Q s:=
 ⟨fun hk' a w hr=>h.run hk' a w (Rel.Hq hX hr bx i l l' qf hi hl ho hd s5)⟩
end Go.Ab
end
section
namespace Go.Ab
end Go.Ab
end
section
namespace Go.Ab
theorem u9 {X:Ctx} (hX:X.Ok) {c:Code} {Q:Exit→ASt→Prop} {s:ASt} (l:Nat) {o:AObj} {x:D} (hl:look s.m l=some o) (hro:o.ro=false) (gU:l<20000) (hx:rdX X.C (fun q=>decide (q≠l)) false s.m 1 (.ref l)=some x)
 (h:bB X c Q ((⟨[], [], [(l,some x)], [],none, .cK⟩:LA).app s)):bB X c Q s:=by
 refine ⟨fun hk' a w ⟨E,hE⟩=>h.run hk' a w ?_⟩
 obtain ⟨z,hz,tS,gr⟩:∃z:Nat→Nat,(∀b,E.ρ l=some b→z b=max (E.z b) (bg w b))∧(∀b,E.ρ l≠some b→z b=E.z b)∧∀b,w.heap.size≤b→z b=0:=by
  refine ⟨fun b=>if E.ρ l=some b then max (E.z b) (bg w b) else E.z b,fun b hb=>by simp only;rw [if_pos hb],fun b hb=>by simp only;rw [if_neg hb],fun b hb=> ?_⟩
  have h0:=hE.good.fresh b hb
  have h1:bg w b=0:=by simp [bg,Array.getElem?_eq_none hb]
  simp only [h0,h1];split<;>rfl
 have hst:ak w E.z w z:=fun b=>⟨by
  by_cases hb:E.ρ l=some b
  ·rw [hz b hb];exact Nat.le_max_left _ _
  ·rw [tS b hb];exact Nat.le_refl _,fun _ _=>rfl⟩
 have bp:∀q,kl [(l,some x)] q=if l=q then some (some x) else none:=fun q=>by simp only [kl]
 have hlk:∀q,look ([]:List (Nat × AObj)) q=none:=fun q=>rfl
 have dm:aJ s.m l=some o:=hE.good.aJ hl
 have hr:=hE.app' ⟨[], [], [(l,some x)], [],none, .cK⟩ ⟨E.ρ,E.σ,z⟩ w undef hst rfl rfl rfl (Nat.le_refl _)
  (fun q _=>⟨rfl,rfl⟩)
  (fun q y hq hs=>by
    simp only [bp] at hq
    split at hq
    ·rename_i e;subst e
     cases hq
     refine iR (C:=X.C) (bad:=fun q=>decide (q≠l)) (dI:=false) (m:=s.m) (E:=E) (z:=z) (n:=1) (a:= .ref l) hE.good hst ?_ hx ⟨rfl,hs⟩
     intro q o' b hq h1 h2 hb
     have qu:o'.ro=false:=by
      rcases h1 with h1|h1
      ·exact h1
      ·cases h1
     have:=h2 qu
     simp only [ne_eq,decide_not,Bool.not_eq_false',decide_eq_true_eq] at this
     subst this
     rw [hz b hb];exact Nat.le_max_right _ _
    ·cases hq)
  (fun q _=>⟨rfl,rfl⟩)
  (fun q hq=>by simp only [bp] at hq;split at hq<;>simp at hq;omega)
  (fun q o' hq=>by simp [hlk] at hq)
  (fun b _=>by
    by_cases hb:E.ρ l=some b
    ·exact .inr ⟨l,o,dm,hro,hb, .inl (by simp [bp])⟩
    ·exact .inl ⟨rfl,tS b hb⟩)
  (fun q o' hq=>by simp [hlk] at hq) (fun q q' b hq=>absurd rfl hq) (fun q b hq=>absurd rfl hq) gr trivial (fun d hd=>by cases hd)
 have ha:a.put none undef=a:=rfl
 rw [ha] at hr
 exact ⟨_,hr⟩
theorem o7 {X:Ctx} (hX:X.Ok) {c:Code} {Q:Exit→ASt→Prop} {s:ASt} (l:Nat) {e' e sz:Nat} {rows:List (List (List D))} (hl:look s.m l=some (.nest e' e sz rows none)) (gU:l<20000)
 (h:bB X c Q ((⟨[], [], [(l,some (.sl 1 (rows.map fun r=> [.sl sz r])))], [],none, .cK⟩:LA).app s)):bB X c Q s:=
 u9 hX l hl rfl gU (by simp only [rdX,hl];simp) h
def FU (m:List (Nat × AObj)) (a:AV) (x:D):Prop:=a= .d x∨∃b i e' e sz rows r,a= .ref (nn b i)∧look m b=some (.nest e' e sz rows none)∧b<20000∧rows[i]? =some r∧x= .sl sz r
theorem va {rd:AV→D→Prop} (hrd:∀x,rd (.d x) x):∀ {as:List AV},(∀a∈as,∃x,a= .d x)→cvts rd as as
 | [],_=>rfl
 |a::as,h=>by
  obtain ⟨x,rfl⟩:=h a (by simp)
  exact ⟨hrd x,va hrd fun a ha=>h a (List.mem_cons_of_mem _ ha)⟩
theorem o8 {X:Ctx} {o:Oper} {s:ASt} {K:LA→Prop} (hX:X.Ok) {C:Cfg} (hC:X.C=C) {P:Program} (hP:X.P=P) {c:Call} {fo:Operand} {f:Nat} {rest:List AV} {res:AV} (b:Nat) {i e' e sz:Nat} {rows:List (List (List D))} {r:List (List D)}
 (hs:Spec P f (Args (.d (.sl sz r)::rest)) [] res []) (ho:o.op= .call c) (hc:c.callee= .value fo) (hf:aev C 0 s fo= .fn f [] []) (hl:look s.m b=some (.nest e' e sz rows none)) (has:evA C s c.args.toList c.argTypes.toList= .ref (nn b i)::rest)
 (hb:b<20000) (hr:rows[i]? =some r) (BD:∀a∈rest,∃x,a= .d x) (lu:res.ids= [])
 (hK:K ⟨rsOf s (fo::c.args.toList), [(b, .nest e' e sz rows none)], [], [],o.dst,res⟩):ACall X o (.fn f [] []) (.ref (nn b i)::rest) s K:=by
 subst hC;subst hP
 obtain ⟨la,h1,h2,h3⟩:=mw (K:=K) hX id [(b, .nest e' e sz rows none)] hs ho hc hf has (fun p hp=>by rw [List.mem_singleton] at hp;subst hp;exact hl) (by simp) trivial trivial (by simp) (by simp) (fun l l' h=>by simp [look] at h) (by simp) (by simp) (by simp) (by rw [lu];simp) (by simp)
  (fun s' E a w hl' hE vals hv=>by
    have hlb:=hl' (b, .nest e' e sz rows none) (by simp)
    have kq:cvts (FU [(b, .nest e' e sz rows none)]) (.ref (nn b i)::rest) (.d (.sl sz r)::rest):=⟨.inr ⟨b,i,e',e,sz,rows,r,rfl,by simp [look],hb,hr,rfl⟩,va (fun x=> .inl rfl) BD⟩
    have:AVrs w E (.d (.sl sz r)::rest) vals:=cL (rd:=FU [(b, .nest e' e sz rows none)]) ⟨ak.refl _ _,fun _ _=>rfl,fun _ _=>rfl⟩ (fun a x v yE hr=>by
     rcases yE with rfl|⟨b',i',e1,e2,sz',FV,r',rfl,q1,q2,q3,rfl⟩
     ·exact hr
     ·simp only [look] at q1
      split at q1
      ·rename_i Hr
       subst Hr
       cases q1
       simp only [aQ] at hr
       rw [hr.1]
       have dm:aJ s'.m (nn b i')=some (.tip e sz r'):=by rw [ga q2,hlb];simp [inner,q3]
       exact fJ (hE.good.dY _ _ dm)
      ·cases q1) kq (by simpa using hv)
    simpa [Args,Env.pre] using this) (by rw [AV.fz];exact hK)
 exact ⟨la,h1,h2,h3⟩
end Go.Ab
end
