/- A part of the proof. -/
import Derived.KernelRfl
import Derived.Test.YtchjjbfhlchpfaaGreatL2P7
set_option linter.unusedSimpArgs false
set_option linter.unusedVariables false
section
namespace Go.Ab
theorem aE.mk' {P:Program} {t sz ff:Nat} {k:TK} {zc:List AV} (h:(P.info? t).map (fun i=>(i.size,i.bytes,i.zero.map fun z=>z.cells.toList))=some (sz,ff,some (zc.map AV.cv)))
 (ho:(zc.all fun a=>a.cv.oneCell')=true) (hl:zc.length=sz)
 (hk:match k with
   | .sc=>∃d,P.underlying t=some d∧(match d with| .struct _| .array _ _=>False|_=>True)
   | .bool=>P.underlying t=some .bool
   | .int k=>P.underlying t=some (.int k)
   | .sl e=>P.underlying t=some (.slice e)
   | .pt e=>P.underlying t=some (.pointer e)
   | .st fs=>∃fields:Array Field,P.underlying t=some (.struct fields)∧fields.toList.map (fun f=>(f.offset,f.type))=fs
   | .ar n e=>P.underlying t=some (.array n e)
   | .mp k e=>P.underlying t=some (.map k e)∧(∃fs,P.underlying k=some (.struct fs))∧∀w,(zeroValue e).run P w= .ok (.int .i64 0) w):aE P t ⟨k,sz,ff,zc⟩:=by
 refine ⟨?_, ?_⟩
 ·cases hi:P.info? t with
  |none=>simp [hi] at h
  |some i=>
   cases hz:i.zero with
   |none=>simp [hi,hz] at h
   |some z=>
    simp [hi,hz] at h
    obtain ⟨h1,h2,h3⟩:=h
    exact ⟨i,z,rfl,h1,h2,hz,h3,fun a ha=>by rw [List.all_eq_true] at ho;exact ho a ha,hl⟩
 ·cases k<;>exact hk
theorem dD {P:Program} (w:World) {t:Nat} (hu:P.underlying t=some (.int .i64)) (em:Bool) (a:Int):(Instr.checkKey em 9999 t (.int .i64 a)).run P w= .ok () w:=by
 unfold Instr.checkKey
 simp [run_underlying hu]
theorem mO.two {P:Program} {t:Nat} {f g:Field} (hg:P.eqGuardType P.depth t=false) (hs:P.stoodInHeld t=false) (hu:P.underlying t=some (.struct #[f,g]))
 (hf:f.name≠ "_") (Jj:f.offset=0) (DF:P.underlying f.type=some (.int .i64)) (zJ:g.name≠ "_") (Hy:g.offset=1) (hgt:P.underlying g.type=some (.int .i64)):mO P t 2:=by
 refine ⟨hg,fun w xs ys hx hy=> ?_⟩
 obtain ⟨a,b,rfl⟩:∃a b,xs= [a,b]:=by match xs,hx with| [a,b],_=>exact ⟨a,b,rfl⟩
 obtain ⟨c,d,rfl⟩:∃a b,ys= [a,b]:=by match ys,hy with| [a,b],_=>exact ⟨a,b,rfl⟩
 have xD:P.fieldsOf t= #[f,g]:=by simp [Program.fieldsOf,hu]
 have he:=run_equalIn_struct (P:=P) w 9999 t #[.int .i64 a, .int .i64 b] #[.int .i64 c, .int .i64 d] (by rw [xD];exact hu) hs
 rw [xD] at he
 have hpart:∀(ty:Nat) (cs:Array Value) (o:Nat) (v:Value),P.underlying ty=some (.int .i64)→cs[o]? =some v→(part ty cs o).run P w= .ok v w:=by
  intro ty cs o v h1 h2
  simp [part,isAgg,run_underlying h1,h2]
 refine ⟨he.trans ?_,fun em=> ?_⟩
 rotate_left
 ·have xC:=hu
  unfold Instr.checkKey
  simp only [Sem.run_bind,run_underlying xC,Result.andThen_ok,List.map_cons,List.map_nil]
  simp [hf,zJ,Jj,Hy,hpart f.type #[.int .i64 a, .int .i64 b] 0 _ DF rfl,hpart g.type #[.int .i64 a, .int .i64 b] 1 _ hgt rfl,dD w DF em,dD w hgt em]
 simp only [Op.eqFields,hf,zJ,ne_eq,not_false_eq_true,if_true,Jj,Hy,Sem.run_bind]
 rw [hpart f.type _ 0 (.int .i64 a) DF rfl,Result.andThen_ok,hpart f.type _ 0 (.int .i64 c) DF rfl,Result.andThen_ok,run_equalIn_int w 9998 f.type .i64 .i64 a c DF,Result.andThen_ok]
 by_cases hac:a=c
 ·subst hac
  simp only [beq_self_eq_true,Bool.not_true,Bool.false_eq_true,if_false,Sem.run_bind]
  rw [hpart g.type _ 1 (.int .i64 b) hgt rfl,Result.andThen_ok,hpart g.type _ 1 (.int .i64 d) hgt rfl,Result.andThen_ok,run_equalIn_int w 9998 g.type .i64 .i64 b d hgt,Result.andThen_ok]
  by_cases hbd:b=d
  ·subst hbd;simp
  ·simp [hbd]
 ·simp [hac]
theorem mO.three {P:Program} {t:Nat} {f g q:Field} (hg:P.eqGuardType P.depth t=false) (hs:P.stoodInHeld t=false) (hu:P.underlying t=some (.struct #[f,g,q]))
 (hf:f.name≠ "_") (Jj:f.offset=0) (DF:P.underlying f.type=some (.int .i64)) (zJ:g.name≠ "_") (Hy:g.offset=1) (hgt:P.underlying g.type=some (.int .i64))
 (AA:q.name≠ "_") (FT:q.offset=2) (Jk:P.underlying q.type=some (.int .i64)):mO P t 3:=by
 refine ⟨hg,fun w xs ys hx hy=> ?_⟩
 obtain ⟨a,b,c,rfl⟩:∃a b c,xs= [a,b,c]:=by match xs,hx with| [a,b,c],_=>exact ⟨a,b,c,rfl⟩
 obtain ⟨a',b',c',rfl⟩:∃a b c,ys= [a,b,c]:=by match ys,hy with| [a,b,c],_=>exact ⟨a,b,c,rfl⟩
 have xD:P.fieldsOf t= #[f,g,q]:=by simp [Program.fieldsOf,hu]
 have he:=run_equalIn_struct (P:=P) w 9999 t #[.int .i64 a, .int .i64 b, .int .i64 c] #[.int .i64 a', .int .i64 b', .int .i64 c'] (by rw [xD];exact hu) hs
 rw [xD] at he
 have hpart:∀(ty:Nat) (cs:Array Value) (o:Nat) (v:Value),P.underlying ty=some (.int .i64)→cs[o]? =some v→(part ty cs o).run P w= .ok v w:=by
  intro ty cs o v h1 h2
  simp [part,isAgg,run_underlying h1,h2]
 refine ⟨he.trans ?_,fun em=> ?_⟩
 rotate_left
 ·have xC:=hu
  unfold Instr.checkKey
  simp only [Sem.run_bind,run_underlying xC,Result.andThen_ok,List.map_cons,List.map_nil]
  simp [hf,zJ,AA,Jj,Hy,FT,hpart f.type #[.int .i64 a, .int .i64 b, .int .i64 c] 0 _ DF rfl,hpart g.type #[.int .i64 a, .int .i64 b, .int .i64 c] 1 _ hgt rfl,hpart q.type #[.int .i64 a, .int .i64 b, .int .i64 c] 2 _ Jk rfl,dD w DF em,dD w hgt em,dD w Jk em]
 simp only [Op.eqFields,hf,zJ,AA,ne_eq,not_false_eq_true,if_true,Jj,Hy,FT,Sem.run_bind]
 rw [hpart f.type _ 0 (.int .i64 a) DF rfl,Result.andThen_ok,hpart f.type _ 0 (.int .i64 a') DF rfl,Result.andThen_ok,run_equalIn_int w 9998 f.type .i64 .i64 a a' DF,Result.andThen_ok]
 by_cases hac:a=a'
 ·subst hac
  simp only [beq_self_eq_true,Bool.not_true,Bool.false_eq_true,if_false,Sem.run_bind]
  rw [hpart g.type _ 1 (.int .i64 b) hgt rfl,Result.andThen_ok,hpart g.type _ 1 (.int .i64 b') hgt rfl,Result.andThen_ok,run_equalIn_int w 9998 g.type .i64 .i64 b b' hgt,Result.andThen_ok]
  by_cases hbd:b=b'
  ·subst hbd
   simp only [beq_self_eq_true,Bool.not_true,Bool.false_eq_true,if_false,Sem.run_bind]
   rw [hpart q.type _ 2 (.int .i64 c) Jk rfl,Result.andThen_ok,hpart q.type _ 2 (.int .i64 c') Jk rfl,Result.andThen_ok,run_equalIn_int w 9998 q.type .i64 .i64 c c' Jk,Result.andThen_ok]
   by_cases hcd:c=c'
   ·subst hcd;simp
   ·simp [hcd]
  ·simp [hbd]
 ·simp [hac]
section
variable {X:Ctx} {Q:Exit→ASt→Prop} {s:ASt} {C:Cfg}
theorem wB {K:ASt→Prop} (h:K s):athen K Q .normal s:=h
end
theorem aj {X:Ctx} {Q:Exit→ASt→Prop} {s:ASt} {x:Code} {ι:Type} (p:ι→Prop) (I:ι→ASt) (μ:ι→Nat) (i0:ι) (hp:p i0) (h0:Le s (I i0))
 (h:∀i,p i→dK X x (athen (fun s'=>∃j,p j∧Le s' (I j)∧μ j<μ i) Q) (I i)):dK X (.loop x) Q s:=
 Dn (ι:= {i:ι // p i}) (fun i=>I i.1) (fun i=>μ i.1) ⟨i0,hp⟩ h0 fun i=>Dm (h i.1 i.2) fun e s hq=>by
  cases e<;>first|exact hq|(obtain ⟨j,h1,h2,h3⟩:=hq;exact ⟨⟨j,h1⟩,h2,h3⟩)
theorem aa {X:Ctx} {o:Oper} {s:ASt} {K:LA→Prop} (hX:X.Ok) {C:Cfg} (hC:X.C=C) {P:Program} (hP:X.P=P) {c:Call} {fo:Operand} {f:Nat} {as:List AV} {res:AV}
 (hs:Spec P f (Args as) [] res []) (ho:o.op= .call c) (hc:c.callee= .value fo) (hf:aev C 0 s fo= .fn f [] []) (has:evA C s c.args.toList c.argTypes.toList=as) (wo:res.ids= [])
 (hK:K ⟨rsOf s (fo::c.args.toList), [], [], [],o.dst,res⟩):ACall X o (.fn f [] []) as s K:=by
 subst hC;subst hP
 obtain ⟨la,h1,h2,h3⟩:=uK (K:=K) hX id [] hs ho hc hf has (by simp) (by simp) trivial trivial (by simp) (by simp) (fun l l' h=>by simp [look] at h) (by simp) (by simp) (by simp) (by rw [wo];simp) (by simp)
  (fun s' E a w _ hE vals hv=>by simpa [Args,Env.pre] using hv) (by rw [AV.lG];exact hK)
 exact ⟨la,h1,h2,h3⟩
def leT (t:List (Nat × AV)):List (Nat × AV)→Prop
 | []=>True
 |(k,v)::r=>get t k=v∧leT t r
def leM (m:List (Nat × AObj)):List (Nat × AObj)→Prop
 | []=>True
 |(k,v)::r=>look m k=some v∧leM m r
theorem bQ {t:List (Nat × AV)} :∀ {t':List (Nat × AV)},leT t t'→∀k,get t' k= .gE∨get t k=get t' k
 | [],_,k=> .inl rfl
 |(i,v)::r,h,k=>by
  simp only [get]
  split
  ·rename_i hk;subst hk;exact .inr h.1
  ·exact bQ h.2 k
theorem x8 {m:List (Nat × AObj)} :∀ {m':List (Nat × AObj)},leM m m'→∀l o,look m' l=some o→look m l=some o
 | [],_,l,o,h=>by simp [look] at h
 |(i,v)::r,h,l,o,ho=>by
  simp only [look] at ho
  split at ho
  ·rename_i hk;subst hk;cases ho;exact h.1
  ·exact x8 h.2 l o ho
theorem Le.of {s s':ASt} (h1:leT s.t s'.t) (h2:leM s.m s'.m):Le s s':=⟨bQ h1,x8 h2⟩
attribute [go_sem] leT leM Fin resK tupOf leR renA renO asN AV.ren AV.rens AObj.ren AV.emp.injEq AObj.part.injEq AObj.nest.injEq AObj.nils.injEq AObj.orh.injEq mxLo isSlT cvt cvts cvtD rdX allSome List.any_cons List.any_nil D.sc.injEq D.sl.injEq D.pt.injEq Value.bool.injEq Value.int.injEq AV.d.injEq AV.agg.injEq AV.tup.injEq AV.ref.injEq AV.ptr.injEq AV.nil.injEq AObj.box.injEq AObj.tip.injEq AObj.own.injEq Option.some.injEq List.cons.injEq Prod.mk.injEq
attribute [go_sem] vcOp gslot aev cst rsOf LA.app ASt.kill ASt.put putM rml rmk subT kl AV.sub AV.subs AObj.sub get look params vcLoad rowsOf partRows toD toDs allOne AV.isOne AV.fit avCells AV.ids AV.idss msOf over overD fillAV place evParts partOps partAVs allT allF evA evs optHi optLo vcSlice mxOk dlow vcBuiltin vcInt vcU vcSh vcEq eqInts isSlT isPtT isBoT Cfg.sz Cfg.ff Cfg.zrow zrowOf LA.gd skipLA skipT athen ablock
attribute [go_sem] Nat.succ_ne_self ne_eq not_false_eq_true not_true_eq_false true_and and_true and_self false_and and_false if_true if_false Nat.zero_ne_one Nat.one_ne_zero Nat.add_zero Nat.zero_add Nat.zero_le Nat.le_refl Nat.lt_irrefl Nat.zero_lt_succ Nat.lt_add_one Bool.not_true Bool.not_false Bool.true_eq_false Bool.false_eq_true Bool.not_not forall_const true_implies false_implies implies_true beq_self_eq_true BEq.rfl Bool.true_and Bool.and_true Bool.false_and Bool.and_false Bool.true_or Bool.false_or Bool.false_bne Bool.true_bne Bool.bne_false Bool.bne_true Bool.true_xor Bool.false_xor Bool.xor_false Bool.xor_true Option.map_some Option.map_none Option.toList_some Option.toList_none List.length_cons List.length_nil List.length_map List.map_cons List.map_nil List.drop_zero List.drop_succ_cons List.drop_nil List.take_zero List.take_succ_cons List.take_nil List.getElem?_cons_zero List.getElem?_cons_succ List.getElem?_nil List.append_nil List.nil_append List.cons_append List.reverse_nil List.reverse_cons List.mem_cons List.not_mem_nil or_false false_or List.getElem?_toArray List.size_toArray not_or
end Go.Ab
end
section
namespace Go.Ab
inductive OT where
 |nil
 |br (i:Nat) (sub BL:OT)
def OT.DG:OT→List Nat
 | .nil=> []
 | .br i _ BL=>i::BL.DG
def OT.ok (ops:Array Oper):Nat→Bool→Array Bool→OT→Bool
 |_,true,listed, .nil=>Region.ready .any ops listed== []
 |_,false,_, .nil=>true
 |0,_,_, .br _ _ _=>false
 |fuel+1,first,listed, .br i sub BL=>(!first||Region.ready .any ops listed==i::BL.DG)&&OT.ok ops fuel true (listed.setIfInBounds i true) sub&&OT.ok ops (fuel+1) false listed BL
def OT.vc (X:Ctx) (C:Cfg) (l:List Oper) (K:ASt→Prop):OT→Bool→ASt→Prop
 | .nil,first,s=>if first=true then K s else True
 | .br i sub BL,_,s=>(match l[i]? with
   |some o=>o.guard=none∧vcOp X C o s fun la=>OT.vc X C l K sub true (la.app s)
   |none=>False)∧OT.vc X C l K BL false s
theorem OT.BL {X:Ctx} {l:List Oper} {K:ASt→Prop} {s:ASt} :∀ {t:OT} {b:Bool} {fuel:Nat} {listed:Array Bool},OT.ok l.toArray (fuel+1) b listed t=true→t.vc X X.C l K b s→∀i∈t.DG,∃o sub,l[i]? =some o∧o.guard=none∧
 OT.ok l.toArray fuel true (listed.setIfInBounds i true) sub=true∧vcOp X X.C o s fun la=>sub.vc X X.C l K true (la.app s)
 | .nil,_,_,_,_,_,i,hi=>by cases hi
 | .br j sub BL,b,fuel,listed,hok,dJ,i,hi=>by
   simp only [OT.ok,Bool.and_eq_true] at hok
   simp only [OT.vc] at dJ
   rcases List.mem_cons.1 hi with rfl|hi
   ·obtain ⟨h1,_⟩:=dJ
    split at h1
    ·rename_i o ho
     exact ⟨o,sub,ho,h1.1,hok.1.2,h1.2⟩
    ·exact h1.elim
   ·exact OT.BL hok.2 dJ.2 i hi
section
variable {X:Ctx} {Q:Exit→ASt→Prop} {s:ASt} {C:Cfg}
end
theorem BM {X:Ctx} {o:Oper} {s:ASt} {K:LA→Prop} (hX:X.Ok) {C:Cfg} (hC:X.C=C) {P:Program} (hP:X.P=P) {c:Call} {fo:Operand} {f:Nat} {first caps as as':List AV} {res:AV} (mm:List (Nat × AObj))
 (hs:Spec P f (Args as') [] res []) (ho:o.op= .call c) (hc:c.callee= .value fo) (hf:aev C 0 s fo= .fn f first caps) (has:evA C s c.args.toList c.argTypes.toList=as)
 (hmm:∀p∈mm,look s.m p.1=some p.2) (x9:cvts (cvtD ⟨[],mm⟩) (first++as++caps) as') (wo:res.ids= [])
 (hK:K ⟨rsOf s (fo::c.args.toList),mm, [], [],o.dst,res⟩):ACall X o (.fn f first caps) as s K:=by
 subst hC;subst hP
 obtain ⟨la,h1,h2,h3⟩:=uK (K:=K) hX id mm hs ho hc hf has hmm (by simp) trivial trivial (by simp) (by simp) (fun l l' h=>by simp [look] at h) (by simp) (by simp) (by simp) (by rw [wo];simp) (by simp)
  (fun s' E a w hl hE vals hv=>by
    have:AVrs w E as' vals:=gV ⟨aM.refl _ _,fun _ _=>rfl,fun _ _=>rfl⟩ (xW (s:=⟨[],mm⟩) (fun l q hq=>hE.good.obj l q (hl _ (aV hq)))) x9 hv
    simpa [Args,Env.pre] using this) (by rw [AV.lG];exact hK)
 exact ⟨la,h1,h2,h3⟩
def lookAll (s:ASt):List Nat→List (Nat × AObj)
 | []=> []
 |l::r=>match look s.m l with|some o=>(l,o)::lookAll s r|none=>lookAll s r
theorem dR (s:ASt):∀(ls:List Nat),∀p∈lookAll s ls,look s.m p.1=some p.2
 | [],p,h=>by cases h
 |l::r,p,h=>by
  unfold lookAll at h
  split at h
  ·rename_i o ho
   rcases List.mem_cons.1 h with rfl|h
   ·exact ho
   ·exact dR s r p h
  ·exact dR s r p h
theorem bB {X:Ctx} {o:Oper} {s:ASt} {K:LA→Prop} (hX:X.Ok) {C:Cfg} (hC:X.C=C) {P:Program} (hP:X.P=P) {c:Call} {fo:Operand} {f:Nat} {first caps as as':List AV} {res:AV}
 (hs:Spec P f (Args as') [] res []) (ho:o.op= .call c) (hc:c.callee= .value fo) (hf:aev C 0 s fo= .fn f first caps) (has:evA C s c.args.toList c.argTypes.toList=as)
 (x9:cvts (cvtD ⟨[],lookAll s (AV.idss (first++as++caps))⟩) (first++as++caps) as') (wo:res.ids= [])
 (hK:K ⟨rsOf s (fo::c.args.toList),lookAll s (AV.idss (first++as++caps)), [], [],o.dst,res⟩):ACall X o (.fn f first caps) as s K:=
 BM hX hC hP _ hs ho hc hf has (dR s _) x9 wo hK
attribute [go_sem] lookAll
section
variable {X:Ctx} {C:Cfg} {l rest:List Oper} {o:Oper} {s:ASt} {K:ASt→Prop} {KD:ASt→List Rec→Prop} {log:List Rec}
theorem oA (hg:o.guard=none) (h:∀K':LA→Prop,(∀la,eW X C l rest (la.app s) K→K' la)→vcOp X C o s K'):eW X C l (o::rest) s K:=by
 unfold eW;rw [hg];exact h _ fun _ h=>h
theorem oE {j g:Nat} {want b:Bool} (hg:o.guard=some (j,want)) (hs:gslot l j=some g) (hb:get s.t g= .d (.sc (.bool b)))
 (h1:b=want→∀K':LA→Prop,(∀la,eW X C l rest (la.app (s.put (some g) (.d (.sc (.bool want))))) K→K' la)→vcOp X C o (s.put (some g) (.d (.sc (.bool want)))) K')
 (h2:b=(!want)→eW X C l rest ((s.put (some g) (.d (.sc (.bool (!want))))).put o.dst (.tup [])) K):eW X C l (o::rest) s K:=by
 unfold eW;simp only [hg,hs,hb];exact ⟨fun hw=>h1 hw _ fun _ h=>h,h2⟩
theorem oG {j g:Nat} {want:Bool} (hg:o.guard=some (j,want)) (hs:gslot l j=some g) (hb:get s.t g= .tup []) (h:eW X C l rest (s.put o.dst (.tup [])) K):eW X C l (o::rest) s K:=by
 unfold eW;simp only [hg,hs,hb];exact h
theorem oC (h:K s):eW X C l [] s K:=h
theorem oB (hg:o.guard=none) (h:∀K':LA→Prop,(∀la,cT X C l rest (la.app s) (pK C o la s::log) KD→K' la)→vcOp X C o s K'):cT X C l (o::rest) s log KD:=by
 unfold cT;rw [hg];exact h _ fun _ h=>h
theorem oF {j g:Nat} {want b:Bool} (hg:o.guard=some (j,want)) (hs:gslot l j=some g) (hb:get s.t g= .d (.sc (.bool b)))
 (h1:b=want→∀K':LA→Prop,(∀la,cT X C l rest (la.app (s.put (some g) (.d (.sc (.bool want))))) (eo (la.gd g want) (s.put (some g) (.d (.sc (.bool want))))::log) KD→K' la)→vcOp X C o (s.put (some g) (.d (.sc (.bool want)))) K')
 (h2:b=(!want)→cT X C l rest ((s.put (some g) (.d (.sc (.bool (!want))))).put o.dst (.tup [])) (eo (skipLA g (!want) o.dst) (s.put (some g) (.d (.sc (.bool (!want)))))::log) KD):cT X C l (o::rest) s log KD:=by
 unfold cT;simp only [hg,hs,hb];exact ⟨fun hw=>h1 hw _ fun _ h=>h,h2⟩
theorem oH {j g:Nat} {want:Bool} (hg:o.guard=some (j,want)) (hs:gslot l j=some g) (hb:get s.t g= .tup []) (h:cT X C l rest (s.put o.dst (.tup [])) (eo (skipT g o.dst) s::log) KD):cT X C l (o::rest) s log KD:=by
 unfold cT;simp only [hg,hs,hb];exact h
theorem oD {Q:ASt→Prop} (h1:Dt l log.reverse=true) (h2:Q s):cT X C l [] s log (fun s' log=>Dt l log.reverse=true∧Q s'):=⟨h1,h2⟩
theorem oI {i:Nat} {sub BL:OT} {b:Bool} (hi:l[i]? =some o) (hg:o.guard=none) (h:∀K':LA→Prop,(∀la,OT.vc X C l K sub true (la.app s)→K' la)→vcOp X C o s K') (h2:OT.vc X C l K BL false s):OT.vc X C l K (.br i sub BL) b s:=by
 unfold OT.vc;rw [hi];exact ⟨⟨hg,h _ fun _ h=>h⟩,h2⟩
theorem oJ (h:K s):OT.vc X C l K .nil true s:=by unfold OT.vc;exact h
theorem oK:OT.vc X C l K .nil false s:=by unfold OT.vc;exact trivial
end
section
variable {X:Ctx} {Q:Exit→ASt→Prop} {s:ASt} {C:Cfg}
theorem wA {id:Nat} (h:Q .normal s):ablock id Q .normal s:=h
theorem wC (hX:X.Ok) (hC:X.C=C) {id:Nat} {l:List Oper} {y:Code} (h:eW X C l l s fun s'=>dK X y Q s'):dK X (.seq (.region id l.toArray false) y) Q s:=by
 subst hC;exact wG (sj hX h)
theorem wE (hX:X.Ok) (hC:X.C=C) (hm:X.P.follows .mixedOrders=true) {id:Nat} {l:List Oper} {y:Code} (h:cT X C l l s [] (fun s' log=>Dt l log.reverse=true∧dK X y Q s')):dK X (.seq (.region id l.toArray true) y) Q s:=by
 subst hC;exact wG (x7 hX hm h)
theorem wD (hX:X.Ok) (hC:X.C=C) {id:Nat} {l:List Oper} (h:eW X C l l s fun s'=>Q .normal s'):dK X (.region id l.toArray false) Q s:=by
 subst hC;exact sj hX h
theorem wF (hX:X.Ok) (hC:X.C=C) (hm:X.P.follows .mixedOrders=true) {id:Nat} {l:List Oper} (h:cT X C l l s [] (fun s' log=>Dt l log.reverse=true∧Q .normal s')):dK X (.region id l.toArray true) Q s:=by
 subst hC;exact x7 hX hm h
end
attribute [go_sem] mpOk intsOf InR decide_eq_true_eq decide_eq_false_iff_not Bool.not_eq_true' Bool.not_eq_false' decide_true decide_false
end Go.Ab
end
section
namespace Go.Ab
theorem sM {π:Nat→Nat} {m':List (Nat × AObj)} :∀ {m:List (Nat × AObj)},(∀p∈m,look m' p.1≠none)→killM π m' m= []
 | [],_=>rfl
 |(l,o)::r,h=>by
  have h1:=h _ List.mem_cons_self
  simp only at h1
  simp only [killM]
  cases hq:look m' l with
  |none=>exact absurd hq h1
  |some q=>exact sM fun p hp=>h p (List.mem_cons_of_mem _ hp)
theorem sN {π:Nat→Nat} :∀ {m:List (Nat × AObj)},(∀p∈m,p.2.ro=true)→renM π m= []
 | [],_=>rfl
 |(l,o)::r,h=>by
  have h1:=h _ List.mem_cons_self
  cases o<;>simp [AObj.ro] at h1
  simp only [renM]
  exact sN fun p hp=>h p (List.mem_cons_of_mem _ hp)
theorem aF {X:Ctx} {o:Oper} {s:ASt} {K:LA→Prop} (hX:X.Ok) {C:Cfg} (hC:X.C=C) {P:Program} (hP:X.P=P) {c:Call} {fo:Operand} {f:Nat} {first caps Iu Hz:List AV} {m:List (Nat × AObj)} {res:AV} (nm:List (Nat × Nat))
 (hs:Spec P f (Args Hz) m res m) (ho:o.op= .call c) (hc:c.callee= .value fo) (hf:aev C 0 s fo= .fn f first caps) (has:evA C s c.args.toList c.argTypes.toList=Iu)
 (hm:∀p∈m,p.2.ro=true∧((asN nm p.1,p.2.ren (asN nm))∈lookAll s (nm.map (·.2))∨∃cells,p.2= .rob cells∧(asN nm p.1, .box (AV.rens (asN nm) cells))∈lookAll s (nm.map (·.2))))
 (hnm:nodupM m) (fG:∀p∈m,p.1<20000∧p.2.isNest=false) (hinj:∀p∈m,∀q∈m,asN nm p.1=asN nm q.1→p.1=q.1) (x9:AV.rens (asN nm) Hz=first++Iu++caps)
 (wo:res.ids= []) (hres:res.ren (asN nm)=res) (zG:∀p∈m,∀l∈p.2.ids,look m l≠none)
 (hK:K ⟨rsOf s (fo::c.args.toList),lookAll s (nm.map (·.2)), [], [],o.dst,res⟩):ACall X o (.fn f first caps) Iu s K:=by
 subst hC;subst hP
 have hin:∀p∈m,look m p.1≠none:=fun p hp=>by rw [aR hnm hp];simp
 obtain ⟨la,h1,h2,h3⟩:=uK (K:=K) hX (asN nm) (lookAll s (nm.map (·.2))) hs ho hc hf has (dR s _) (fun p hp=>(hm p hp).2) hnm hnm fG fG
  (fun l l' hl hl' h=>by
    have mem:∀l,(look m l≠none∨look m l≠none)→∃p∈m,p.1=l:=fun l hl=>by
     obtain ⟨q,hq⟩:=Option.ne_none_iff_exists'.1 (hl.elim id id)
     exact ⟨_,aV hq,rfl⟩
    obtain ⟨p,hp,rfl⟩:=mem l hl
    obtain ⟨q,hq,rfl⟩:=mem l' hl'
    exact hinj p hp q hq h)
  (fun p hp h=>absurd h (hin p hp)) (fun p hp _=>aR hnm hp) (fun p hp _=>aR hnm hp) (by rw [wo];simp) zG
  (fun s' E a w _ hE vals hv=>by
    show AVrs w (E.pre (asN nm)) Hz vals
    rw [cl,x9];exact hv)
  (by rw [sM hin,sN fun p hp=>(hm p hp).1,hres];exact hK)
 exact ⟨la,h1,h2,h3⟩
structure bw (m:List (Nat × AObj)):Prop where
 ro:∀p∈m,p.2.ro=true
 nd:nodupM m
 low:∀p∈m,10000≤p.1∧p.1<20000
 ids:∀p∈m,∀l∈p.2.ids,look m l≠none
theorem bw.nest {m:List (Nat × AObj)} (h:bw m):∀p∈m,p.2.isNest=false:=fun p hp=>by
 have:=h.ro p hp
 cases hq:p.2<;>rw [hq] at this<;>simp [AObj.ro] at this
 rfl
theorem bw.nil:bw []:=⟨by simp,trivial,by simp,by simp⟩
theorem bf {X:Ctx} {o:Oper} {s:ASt} {K:LA→Prop} (hX:X.Ok) {C:Cfg} (hC:X.C=C) {P:Program} (hP:X.P=P) {c:Call} {fo:Operand} {f:Nat} {first caps as as':List AV} {m:List (Nat × AObj)} {res:AV} (hR:bw m)
 (hs:Spec P f (Args as') m res m) (ho:o.op= .call c) (hc:c.callee= .value fo) (hf:aev C 0 s fo= .fn f first caps) (has:evA C s c.args.toList c.argTypes.toList=as)
 (hm:∀p∈m,look s.m p.1=some p.2) (x9:as'=first++as++caps) (wo:res.ids= [])
 (hK:K ⟨rsOf s (fo::c.args.toList),m, [], [],o.dst,res⟩):ACall X o (.fn f first caps) as s K:=by
 subst hC;subst hP
 have hin:∀p∈m,look m p.1≠none:=fun p hp=>by rw [aR hR.nd hp];simp
 have fG:∀p∈m,p.1<20000∧p.2.isNest=false:=fun p hp=>⟨(hR.low p hp).2,hR.nest p hp⟩
 obtain ⟨la,h1,h2,h3⟩:=uK (K:=K) hX id m hs ho hc hf has hm (fun p hp=> .inl (by rw [AObj.lG];exact hp)) hR.nd hR.nd fG fG (fun l l' _ _ h=>h)
  (fun p hp h=>absurd h (hin p hp)) (fun p hp _=>aR hR.nd hp) (fun p hp _=>aR hR.nd hp) (by rw [wo];simp) hR.ids
  (fun s' E a w _ hE vals hv=>by
    show AVrs w (E.pre id) as' vals
    rw [x9];exact hv)
  (by rw [sM hin,sN hR.ro,AV.lG];exact hK)
 exact ⟨la,h1,h2,h3⟩
mutual
def AV.flat:AV→Bool
 | .d (.sc _)=>true
 | .agg vs=>AV.flats vs
 | .tup vs=>AV.flats vs
 | .gE=>true
 | .iB _=>true
 |_=>false
def AV.flats:List AV→Bool
 | []=>true
 |a::as=>AV.flat a&&AV.flats as
end
mutual
theorem AV.ya {w w':World} {E E':Env} :∀ {a:AV} {v:Value},a.flat=true→cr w E a v→cr w' E' a v
 | .d (.sc u),v,_,h=>by cases h with|sc _ h=>exact .sc _ h
 | .agg vs,v,hf,h=>by obtain ⟨us,rfl,h⟩:=h;exact ⟨us,rfl,AV.pL (by simpa [AV.flat] using hf) h⟩
 | .tup vs,v,hf,h=>by obtain ⟨us,rfl,h⟩:=h;exact ⟨us,rfl,AV.pL (by simpa [AV.flat] using hf) h⟩
 | .gE,_,_,_=>trivial
 | .iB _,_,_,h=>h
 | .d (.sl _ _),_,hf,_=>by simp [AV.flat] at hf
 | .d (.pt _),_,hf,_=>by simp [AV.flat] at hf
 | .nil _,_,hf,_=>by simp [AV.flat] at hf
 | .emp _,_,hf,_=>by simp [AV.flat] at hf
 | .ref _,_,hf,_=>by simp [AV.flat] at hf
 | .ptr _ _,_,hf,_=>by simp [AV.flat] at hf
 | .ep _ _ _ _,_,hf,_=>by simp [AV.flat] at hf
 | .fn _ _ _,_,hf,_=>by simp [AV.flat] at hf
 | .mref _,_,hf,_=>by simp [AV.flat] at hf
theorem AV.pL {w w':World} {E E':Env} :∀ {as:List AV} {us:List Value},AV.flats as=true→AVrs w E as us→AVrs w' E' as us
 | [],_,_,h=>h
 |a::as,us,hf,h=>by
  simp only [AV.flats,Bool.and_eq_true] at hf
  obtain ⟨u,us',rfl,h1,h2⟩:=h
  exact ⟨u,us',rfl,AV.ya hf.1 h1,AV.pL hf.2 h2⟩
end
theorem sO {C:Cfg} {bad:Nat→Bool} {jj:Bool} {m m':List (Nat × AObj)} (hm:∀l o,look m l=some o→look m' l=some o):∀ {n:Nat} {a:AV} {x:D},rdX C bad jj m n a=some x→rdX C bad jj m' n a=some x:=by
 have flat:∀ {n:Nat} {a:AV} {x:D},(∀l o,a≠ .ptr l o)→rdX C bad jj m n a=some x→rdX C bad jj m' n a=some x:=by
  intro n a x hne h
  cases a with
  |ref l=>
   simp only [rdX] at h ⊢
   cases hl:look m l with
   |none=>simp [hl] at h
   |some o=>rw [hm l o hl];rw [hl] at h;exact h
  |ptr l o=>exact absurd rfl (hne l o)
  |_=>first|(simp [rdX] at h;done)|(simpa [rdX] using h)
 intro n
 induction n with
 |zero=>
  intro a x h
  cases a with
  |ptr l o=>simp [rdX] at h
  |_=>exact flat (fun _ _ e=>by cases e) h
 |succ n ih=>
  intro a x h
  have key:∀ {cells:List AV} {ds:List D},allSome (cells.map fun a=>rdX C bad jj m n a)=some ds→allSome (cells.map fun a=>rdX C bad jj m' n a)=some ds:=by
   intro cells
   induction cells with
   |nil=>intro ds h;exact h
   |cons c cells ih2=>
    intro ds h
    simp only [List.map_cons] at h ⊢
    cases hc:rdX C bad jj m n c with
    |none=>rw [hc] at h;simp [allSome] at h
    |some y=>
     rw [hc] at h
     rw [ih hc]
     simp only [allSome] at h ⊢
     cases hr:allSome (cells.map fun a=>rdX C bad jj m n a) with
     |none=>simp [hr] at h
     |some ys=>rw [hr] at h;rw [ih2 hr];exact h
  cases a with
  |ptr l o=>
   simp only [rdX] at h ⊢
   cases hl:look m l with
   |none=>simp [hl] at h
   |some ob=>
    rw [hm l ob hl];rw [hl] at h
    cases ob with
    |box cells=>
     simp only at h ⊢
     split at h
     ·cases h
     ·rename_i hb
      rw [if_neg hb]
      cases hs:allSome (cells.map fun a=>rdX C bad jj m n a) with
      |none=>simp [hs] at h
      |some ds=>rw [hs] at h;rw [key hs];exact h
    |rob cells=>
     simp only at h ⊢
     split at h
     ·rename_i hb
      rw [if_pos hb]
      cases hs:allSome (cells.map fun a=>rdX C bad jj m n a) with
      |none=>simp [hs] at h
      |some ds=>rw [hs] at h;rw [key hs];exact h
     ·cases h
    |_=>cases h
  |_=>exact flat (fun _ _ e=>by cases e) h
def reach (s:ASt):Nat→List Nat→List (Nat × AObj)
 |0,_=> []
 |n+1,ls=>lookAll s ls++(match (lookAll s ls).flatMap fun p=>p.2.ids with| []=> []|ids=>reach s n ids)
theorem kH (s:ASt):∀(n:Nat) (ls:List Nat),∀p∈reach s n ls,look s.m p.1=some p.2
 |0,_,p,h=>by cases h
 |n+1,ls,p,h=>by
  simp only [reach,List.mem_append] at h
  rcases h with h|h
  ·exact dR s _ p h
  ·split at h
   ·cases h
   ·exact kH s n _ p h
theorem ah {X:Ctx} {o:Oper} {s:ASt} {K:LA→Prop} (hX:X.Ok) {C:Cfg} (hC:X.C=C) {P:Program} (hP:X.P=P) {c:Call} {fo:Operand} {f:Nat} {first caps as as':List AV} {res:AV}
 (hs:Spec P f (Args as') [] res []) (ho:o.op= .call c) (hc:c.callee= .value fo) (hf:aev C 0 s fo= .fn f first caps) (has:evA C s c.args.toList c.argTypes.toList=as)
 (x9:cvts (fun a x=>rdX C (fun _=>false) true (reach s 3 (AV.idss (first++as++caps))) 4 a=some x) (first++as++caps) as') (hfl:res.flat=true)
 (hK:K ⟨rsOf s (fo::c.args.toList),reach s 3 (AV.idss (first++as++caps)), [], [],o.dst,res⟩):ACall X o (.fn f first caps) as s K:=by
 subst hC;subst hP
 refine ⟨_,⟨rfl, ?_⟩,⟨aD s _,kH s _ _⟩,hK⟩
 rintro s' a w hdn gG ⟨E,hE⟩
 have hfo:=hE.evs gG.1 X.C 0 (x:=fo) (by simp)
 rw [hf] at hfo
 obtain ⟨us,vs,hfo,jy,uL⟩:=hfo
 have hargs:=mC (s:=s) hE c.args.toList c.argTypes.toList (fun p hp=>gG.1 p (by cases fo<;>simp [rsOf,hp]))
 rw [has] at hargs
 have sx:AVrs w E (first++as++caps) (us++c.args.toList.map a.eval++vs):=(jy.append hargs).append uL
 obtain ⟨fn,cd,hfn,hname,hbody⟩:=hs.can
 have hrun:(execOp a.eval o).run X.P w= .ok (.enter f (us++c.args.toList.map a.eval++vs).toArray) w:=by
  have h1:us.toArray++c.args.map a.eval++vs.toArray=(us++c.args.toList.map a.eval++vs).toArray:=by
   apply Array.toList_inj.1;simp
  have h2:=dn (P:=X.P) hfn hname hbody (us.toArray++c.args.map a.eval++vs.toArray) w
  rw [h1] at h2
  simp only [execOp,ho,resolve,hc,hfo,Deferred.ofValue,Sem.run_bind,Sem.run_pure,Result.andThen_ok,invoke]
  rw [h1];exact h2
 have ig:∀l,bK [] l=none:=fun l=>by unfold bK;split<;>rfl
 have yb:aM w E.z w (fun b=>max (E.z b) (cx w b)):=fun b=>⟨Nat.le_max_left _ _,fun _ _=>rfl⟩
 have sy:Good [] ⟨E.ρ,E.σ,fun b=>max (E.z b) (cx w b)⟩ w:=by
  refine ⟨fun l h=>by simp [look] at h,fun l l' b h=>by simp [ig] at h,fun l o h=>by simp [ig] at h,fun b hb=> ?_⟩
  simp [hE.good.fresh b hb,cx,Array.getElem?_eq_none hb]
 have hA:AVrs w ⟨E.ρ,E.σ,fun b=>max (E.z b) (cx w b)⟩ as' (us++c.args.toList.map a.eval++vs):=
  gV (E':=⟨E.ρ,E.σ,fun b=>max (E.z b) (cx w b)⟩) ⟨yb,fun _ _=>rfl,fun _ _=>rfl⟩ (fun a x v Fg hr=>ot hE.good yb (fun l o b _ _ _ _=>Nat.le_max_right _ _) (sO (fun l o hl=>gG.2 _ (aV hl)) Fg) hr) x9 sx
 unfold Oper.wp
 rw [hrun]
 refine (hs.calls _ w _ sy hA).mono ?_
 rintro e w' ⟨v,E',rfl,hst,hg',uM,hres⟩
 have hheap:∀b,b<w.heap.size→w'.heap[b]? =w.heap[b]? :=fun b hb=>(hst.frame b hb (by rintro ⟨l,o,hl,_⟩;simp [ig] at hl)).1
 refine ⟨E,hE.app' ⟨rsOf s (fo::c.args.toList),reach s 3 (AV.idss (first++as++caps)), [], [],o.dst,res⟩ E w' v (fun b=>⟨Nat.le_refl _,fun o ho=> ?_⟩) hst.os hst.tape hst.output hst.size (fun l _=>⟨rfl,rfl⟩) (fun l x hl=>by simp [kl] at hl) (fun l _=>⟨rfl,rfl⟩) (fun l hl=>absurd rfl hl) (fun l o hl=>by simp [look] at hl) (fun b hb=> .inl ⟨hheap b hb,rfl⟩)
  (fun l o hl=>by simp [look] at hl) (fun l l' b hl=>absurd rfl hl) (fun l b hl=>absurd rfl hl) (fun b hb=>hE.good.fresh b (Nat.le_trans hst.size hb)) (AV.ya hfl hres) hdn⟩
 by_cases hb:b<w.heap.size
 ·exact cell?_of_heap (hheap b hb) o
 ·rw [hE.good.fresh b (by omega)] at ho;omega
theorem aB {X:Ctx} {o:Oper} {s:ASt} {K:LA→Prop} (hX:X.Ok) {C:Cfg} (hC:X.C=C) {P:Program} (hP:X.P=P) {c:Call} {fo:Operand} {f:Nat} {first caps as as':List AV} {m m':List (Nat × AObj)} {res:AV} (nm:List (Nat × Nat))
 (hs:Spec P f (Args as') m res m') (ho:o.op= .call c) (hc:c.callee= .value fo) (hf:aev C 0 s fo= .fn f first caps) (has:evA C s c.args.toList c.argTypes.toList=as)
 (hm:∀p∈m,(asN nm p.1,p.2.ren (asN nm))∈lookAll s (m.map fun p=>asN nm p.1)∨∃cells,p.2= .rob cells∧(asN nm p.1, .box (AV.rens (asN nm) cells))∈lookAll s (m.map fun p=>asN nm p.1))
 (hnm:nodupM m) (wh:nodupM m') (fG:∀p∈m,p.1<20000∧p.2.isNest=false) (sw:∀p∈m',p.1<20000∧p.2.isNest=false)
 (hinj:∀p∈m++m',∀q∈m++m',asN nm p.1=asN nm q.1→p.1=q.1)
 (hnew:∀p∈m',look m p.1=none→asN nm p.1<10000)
 (hro:∀p∈m',p.2.ro=true→look m p.1=some p.2) (FM:∀p∈m,p.2.ro=true→look m' p.1=some p.2)
 (Dq:∀l∈res.ids,look m' l≠none) (zG:∀p∈m',∀l∈p.2.ids,look m' l≠none)
 (x9:AV.rens (asN nm) as'=first++as++caps)
 (hK:K ⟨rsOf s (fo::c.args.toList),lookAll s (m.map fun p=>asN nm p.1),killM (asN nm) m m'++killM (asN nm) m' m,renM (asN nm) m',o.dst,res.ren (asN nm)⟩):ACall X o (.fn f first caps) as s K:=by
 subst hC;subst hP
 have mem:∀l,(look m l≠none∨look m' l≠none)→∃p∈m++m',p.1=l:=fun l hl=>by
  rcases hl with hl|hl
  ·obtain ⟨q,hq⟩:=Option.ne_none_iff_exists'.1 hl
   exact ⟨_,List.mem_append_left _ (aV hq),rfl⟩
  ·obtain ⟨q,hq⟩:=Option.ne_none_iff_exists'.1 hl
   exact ⟨_,List.mem_append_right _ (aV hq),rfl⟩
 obtain ⟨la,h1,h2,h3⟩:=uK (K:=K) hX (asN nm) _ hs ho hc hf has (dR s _) hm hnm wh fG sw
  (fun l l' hl hl' h=>by
    obtain ⟨p,hp,rfl⟩:=mem l hl
    obtain ⟨q,hq,rfl⟩:=mem l' hl'
    exact hinj p hp q hq h) hnew hro FM Dq zG
  (fun s' E a w _ hE vals hv=>by
    show AVrs w (E.pre (asN nm)) as' vals
    rw [cl,x9];exact hv) hK
 exact ⟨la,h1,h2,h3⟩
def lowI:List Nat→Prop
 | []=>True
 |x::r=>x<1000000∧lowI r
def lowT:List (Nat × AV)→Prop
 | []=>True
 |(_,a)::r=>lowI a.ids∧lowT r
def lowM:List (Nat × AObj)→Prop
 | []=>True
 |(_,o)::r=>lowI o.ids∧lowM r
theorem sP:∀ {l:List Nat},lowI l→∀x∈l,x<1000000
 | [],_,x,h=>by cases h
 |y::r,hl,x,h=>by
  rcases List.mem_cons.1 h with rfl|h
  ·exact hl.1
  ·exact sP hl.2 x h
theorem yc:∀ {t:List (Nat × AV)},lowT t→∀k,∀x∈(get t k).ids,x<1000000
 | [],_,k,x,h=>by simp [get,AV.ids] at h
 |(i,a)::r,hl,k,x,h=>by
  simp only [get] at h
  split at h
  ·exact sP hl.1 x h
  ·exact yc hl.2 k x h
theorem oM:∀ {m:List (Nat × AObj)},lowM m→∀p∈m,∀x∈p.2.ids,x<1000000
 | [],_,p,h=>by cases h
 |(i,o)::r,hl,p,h=>by
  rcases List.mem_cons.1 h with rfl|h
  ·exact sP hl.1
  ·exact oM hl.2 p h
theorem yd {X:Ctx} (hX:X.Ok) {c:Code} {Q:Exit→ASt→Prop} {s:ASt} (l:Nat) {e' e sz n:Nat} (hl:look s.m l=some (.nils e' e sz n)) (hd:l<10000) (ht:lowT s.t) (hm:lowM s.m)
 (h:dK X c Q ⟨s.t,(l, .nest e' e sz (List.replicate n []) none)::rml l s.m⟩):dK X c Q s:=by
 refine ⟨fun hk a w ⟨E,hE⟩=>h.run hk a w ?_⟩
 have jL:l<20000:=by omega
 obtain ⟨E',hρ,hσ,hz,wq,zi⟩:∃E':Env,(∀q,(∀i,q≠nn l i)→E'.ρ q=E.ρ q)∧(∀q,(∀i,q≠nn l i)→E'.σ q=E.σ q)∧E'.z=E.z∧(∀i,E'.ρ (nn l i)=none)∧∀i,E'.σ (nn l i)= .slice none 0 0:=by
  classical
  exact ⟨⟨fun q=>if ∃i,q=nn l i then none else E.ρ q,fun q=>if ∃i,q=nn l i then .slice none 0 0 else E.σ q,E.z⟩,
   fun q hq=>by simp only;rw [if_neg (fun ⟨i,hi⟩=>hq i hi)],fun q hq=>by simp only;rw [if_neg (fun ⟨i,hi⟩=>hq i hi)],rfl,fun i=>by simp only;rw [if_pos ⟨i,rfl⟩],fun i=>by simp only;rw [if_pos ⟨i,rfl⟩]⟩
 have DH:∀q,q<1000000→∀i,q≠nn l i:=fun q hq i=>by unfold nn;omega
 have hkeep:rM w E w E' (fun q=>q<1000000):=⟨by rw [hz];exact aM.refl _ _,fun q hq=>hρ q (DH q hq),fun q hq=>hσ q (DH q hq)⟩
 have cw:∀q,look ((l,AObj.nest e' e sz (List.replicate n []) none)::rml l s.m) q=if l=q then some (.nest e' e sz (List.replicate n []) none) else look s.m q:=fun q=>by
  simp only [look,rO]
  split<;>rfl
 have ig:∀q o,bK ((l,AObj.nest e' e sz (List.replicate n []) none)::rml l s.m) q=some o→(q=l∧o= .nest e' e sz (List.replicate n []) none)∨(∃i,q=nn l i∧o= .tip e sz [])∨(q≠l∧(∀i,q≠nn l i)∧bK s.m q=some o):=by
  intro q o hq
  unfold bK at hq
  cases bT:nd q with
  |none=>
   rw [bT] at hq
   simp only [cw] at hq
   split at hq
   ·rename_i BA;cases hq;exact .inl ⟨BA.symm,rfl⟩
   ·rename_i BA
    refine .inr (.inr ⟨fun e=>BA e.symm,fun i e=> ?_,by unfold bK;rw [bT];exact hq⟩)
    rw [e,nd_nn jL] at bT;cases bT
  |some p=>
   obtain ⟨b,i⟩:=p
   obtain ⟨rfl,hb⟩:=qS bT
   rw [bT] at hq
   simp only [cw] at hq
   split at hq
   ·rename_i hlb
    subst hlb
    simp only [inner,reduceCtorEq,if_false,List.getElem?_replicate] at hq
    split at hq
    ·rename_i r hr
     split at hr
     ·cases hr;cases hq;exact .inr (.inl ⟨i,rfl,rfl⟩)
     ·cases hr
    ·cases hq
   ·rename_i hlb
    refine .inr (.inr ⟨fun e=> ?_,fun j e=> ?_,by rw [nr hb];exact hq⟩)
    ·rw [e,nd_low (by omega)] at bT;cases bT
    ·have h1:=nd_nn (l:=b) (i:=i) hb
     rw [e,nd_nn jL] at h1
     simp only [Option.some.injEq,Prod.mk.injEq] at h1
     exact hlb h1.1
 have Jl:bK s.m l=some (.nils e' e sz n):=hE.good.bK hl
 have HA:∀i,l≠nn l i:=DH l (by omega)
 have hold:∀q o,bK s.m q=some o→q≠l→(∀i,q≠nn l i)→bu w E' q o:=by
  intro q o hq N6 AA
  have ho:=hE.good.jI q o hq
  have FU:=hρ q AA
  have Iv:=hσ q AA
  have hmem:∀x∈o.ids,x<1000000:=by
   cases o with
   |box cells=>
    have mU:look s.m q=some (.box cells):=by
     unfold bK at hq
     split at hq
     ·exact hq
     ·rename_i b i _;cases hb:look s.m b with
      |none=>rw [hb] at hq;simp [inner] at hq
      |some ob=>rw [hb] at hq;cases ob<;>simp [inner] at hq
                split at hq<;>simp at hq
    exact oM hm _ (aV mU)
   |rob cells=>
    have mU:look s.m q=some (.rob cells):=by
     unfold bK at hq
     split at hq
     ·exact hq
     ·rename_i b i _;cases hb:look s.m b with
      |none=>rw [hb] at hq;simp [inner] at hq
      |some ob=>rw [hb] at hq;cases ob<;>simp [inner] at hq
                split at hq<;>simp at hq
    exact oM hm _ (aV mU)
   |orh e2 r2 i2 g2=>
    have mU:look s.m q=some (.orh e2 r2 i2 g2):=by
     unfold bK at hq
     split at hq
     ·exact hq
     ·rename_i b i _;cases hb:look s.m b with
      |none=>rw [hb] at hq;simp [inner] at hq
      |some ob=>rw [hb] at hq;cases ob<;>simp [inner] at hq
                split at hq<;>simp at hq
    exact oM hm _ (aV mU)
   |_=>intro x hx;simp [AObj.ids] at hx
  cases o with
  |box cells=>
   obtain ⟨b,vs,e,h1,h2,h3,h4,h5⟩:=ho
   exact ⟨b,vs,e,by rw [FU];exact h1,h2,by rw [hz];exact h3,AVrs.mono hkeep hmem h4,h5⟩
  |rob cells=>
   obtain ⟨b,vs,e,h1,h2,h3,h4,h5⟩:=ho
   exact ⟨b,vs,e,by rw [FU];exact h1,h2,by rw [hz];exact h3,AVrs.mono hkeep hmem h4,h5⟩
  |nest e1 e2 MR rows hole=>
   obtain ⟨b,cur,cap,h1,h2,h3,h4,h5,h6,h7,h8⟩:=ho
   have Lj:q<20000:=by
    unfold bK at hq
    split at hq
    ·exact hE.good.low q (by rw [hq];simp)
    ·rename_i b i _;cases hb:look s.m b with
     |none=>rw [hb] at hq;simp [inner] at hq
     |some ob=>rw [hb] at hq;cases ob<;>simp [inner] at hq
               split at hq<;>simp at hq
   refine ⟨b,cur,cap,by rw [FU];exact h1,h2,by rw [Iv];exact h3,h4,h5,h6,by rw [hz];exact h7,fun i hi hh=> ?_⟩
   rw [hσ (nn q i) (fun j hj=>by
    have h1:=nd_nn (l:=q) (i:=i) Lj
    rw [hj,nd_nn jL] at h1
    simp only [Option.some.injEq,Prod.mk.injEq] at h1
    exact N6 h1.1.symm)]
   exact h8 i hi hh
  |own e sz rows=>simp only [bu] at ho ⊢;rw [FU,Iv,hz];exact ho
  |tip e sz rows=>simp only [bu] at ho ⊢;rw [FU,Iv,hz];exact ho
  |part e sz rows=>simp only [bu] at ho ⊢;rw [FU,Iv,hz];exact ho
  |nils e' e sz n=>simp only [bu] at ho ⊢;rw [FU,Iv,hz];exact ho
  |orh e2 r2 i2 g2=>
   obtain ⟨k1,k2,b,cur,cap,h1,h2,h3,h4,h5,h6,h7,h8,h9⟩:=ho
   refine ⟨k1,k2,b,cur,cap,by rw [FU];exact h1,h2,by rw [Iv];exact h3,h4,h5,h6,by rw [hz];exact h7,by rw [hz];exact h8,fun g' e=> ?_⟩
   subst e
   rw [hkeep.σ g' (hmem g' (by simp [AObj.ids]))]
   exact h9 g' rfl
  |mp n aK=>simp only [bu] at ho ⊢;rw [FU,hz];exact ho
 have DI:∀q o,bK ((l,AObj.nest e' e sz (List.replicate n []) none)::rml l s.m) q=some o→∀ {b},E'.ρ q=some b→∃o0,bK s.m q=some o0∧(o.ro=false→o0.ro=false)∧E.ρ q=some b:=by
  intro q o hq b hb
  rcases ig q o hq with ⟨rfl,rfl⟩|⟨i,rfl,rfl⟩|⟨h1,h2,h3⟩
  ·exact ⟨_,Jl,fun _=>rfl,by rw [← hb,hρ q HA]⟩
  ·rw [wq] at hb;cases hb
  ·exact ⟨_,h3,id,by rw [← hb,hρ q h2]⟩
 refine ⟨E',hE.defers,hE.size,⟨fun q hq=> ?_,fun q q' b hq mU hb hb'=> ?_,fun q o hq=> ?_,fun b hb=>by rw [hz];exact hE.good.fresh b hb⟩,⟨hE.ld.os,hE.ld.tape,hE.ld.output,hE.ld.size,by rw [hz];exact hE.ld.st,by rw [hz];exact hE.ld.frame,fun q hq=> ?_⟩,fun q o b hq hro hb=> ?_,fun k=>cr.mono hkeep (yc ht k) (hE.slot k)⟩
 ·simp only [cw] at hq
  split at hq
  ·omega
  ·exact hE.good.low q hq
 ·obtain ⟨o,ho⟩:=Option.ne_none_iff_exists'.1 hq
  obtain ⟨o',ho'⟩:=Option.ne_none_iff_exists'.1 mU
  obtain ⟨o1,h1,_,h2⟩:=DI q o ho hb
  obtain ⟨PF,CR,_,GD⟩:=DI q' o' ho' hb'
  exact hE.good.inj q q' b (by simp [h1]) (by simp [CR]) h2 GD
 ·rcases ig q o hq with ⟨rfl,rfl⟩|⟨i,rfl,rfl⟩|⟨h1,h2,h3⟩
  ·obtain ⟨b,cur,cap,h1,h2,h3,h4,h5,h6,h7,h8,h9⟩:=hE.good.obj _ _ hl
   refine ⟨b,cur,cap,by rw [hρ q HA];exact h1,h2,by rw [hσ q HA,List.length_replicate];exact h3,by rw [List.length_replicate];exact h4,h5,h6,by rw [hz];exact h7,fun i hi _=> ?_⟩
   rw [zi]
   rw [List.length_replicate] at hi
   exact ⟨h9 i hi,trivial⟩
  ·obtain ⟨b,cur,cap,h1,h2,h3,h4,h5,h6,h7,h8,h9⟩:=hE.good.obj _ _ hl
   exact ⟨by simp,h8, .inl ⟨wq i,rfl,none,zi i⟩⟩
  ·exact hold q o h3 h1 h2
 ·have AA:∀i,q≠nn l i:=fun i e=>by
   subst e
   obtain ⟨o,ho⟩:=Option.ne_none_iff_exists'.1 hq
   rw [nr jL] at ho
   have hlm:look X.m0 l≠none:=fun e=>by rw [e] at ho;simp [inner] at ho
   have:=hX.low l (by rw [dO (by omega)];exact hlm)
   omega
  rw [hρ q AA,hσ q AA]
  exact hE.ld.G0 q hq
 ·obtain ⟨o1,h1,h2,h3⟩:=DI q o hq hb
  exact hE.mine q o1 b h1 (h2 hro) h3
theorem HB {l i:Nat} (h:l<20000):nd (nn l i)=some (l,i):=nd_nn h
theorem nn_ne {l i n:Nat} (h:n<1000000):(nn l i=n)=False:=eq_false (by unfold nn;omega)
theorem ne_nn {l i n:Nat} (h:n<1000000):(n=nn l i)=False:=eq_false (by unfold nn;omega)
theorem nn_eq {l i j:Nat} :(nn l i=nn l j)=(i=j):=propext ⟨fun h=>by unfold nn at h;omega,fun h=>by rw [h]⟩
attribute [go_sem] nd_low HB nn_ne ne_nn nn_eq inner killM renM reach AV.flat AV.flats lowI lowT lowM List.flatMap_cons List.flatMap_nil
attribute [go_sem] nodupM AObj.ids AObj.ro AObj.isNest
theorem DJ {a b:Nat} :(Key.slot a==Key.slot b)=(a==b):=by
 rw [Bool.eq_iff_iff];simp
theorem DK {a b:Nat} :(Key.obj a==Key.obj b)=(a==b):=by
 rw [Bool.eq_iff_iff];simp
theorem DL {a b:Nat} :(Key.slot a==Key.obj b)=false:=by simp
theorem DM {a b:Nat} :(Key.obj a==Key.slot b)=false:=by simp
theorem DN {l i n:Nat} (h:n<1000000):(n==nn l i)=false:=by simp [ne_nn h]
theorem DO {l i n:Nat} (h:n<1000000):(nn l i==n)=false:=by simp [nn_ne h]
def AV.isNo:AV→Bool
 | .nil _=>true
 | .emp _=>true
 |_=>false
attribute [go_sem] AV.isNo
theorem fX {X:Ctx} (hX:X.Ok) {c:Code} {Q:Exit→ASt→Prop} {s:ASt} (k l:Nat) (o:AObj) (hk:(get s.t k).isNo=true) (hl:look s.m l=none) (hd:l<10000)
 (ho:∃e sz,0<sz∧(o= .own e sz []∨o= .tip e sz []))
 (h:dK X c Q (((⟨[], [], [(l,none)], [(l,o)],none, .gE⟩:LA).app s).put (some k) (.ref l))):dK X c Q s:=by
 refine ⟨fun hk' a w ⟨E,hE⟩=>h.run hk' a w ?_⟩
 obtain ⟨e,sz,hsz,ho⟩:=ho
 have hv:=hE.slot k
 obtain ⟨p,hp⟩:∃p,a.tmps.getD k undef= .slice p 0 0:=by
  cases hq:get s.t k with
  |nil e=>rw [hq] at hv;exact ⟨_,hv⟩
  |emp e=>rw [hq] at hv;exact hv
  |_=>rw [hq] at hk;cases hk
 obtain ⟨E',hρ,hσ,hz,wq,zi⟩:∃E':Env,(∀q,q≠l→E'.ρ q=E.ρ q)∧(∀q,q≠l→E'.σ q=E.σ q)∧E'.z=E.z∧E'.ρ l=none∧E'.σ l= .slice p 0 0:=by
  exact ⟨⟨fun q=>if q=l then none else E.ρ q,fun q=>if q=l then .slice p 0 0 else E.σ q,E.z⟩,fun q hq=>by simp only;rw [if_neg hq],fun q hq=>by simp only;rw [if_neg hq],rfl,by simp,by simp⟩
 have cz:∀q,kl [(l,(none:Option D))] q=if l=q then some none else none:=fun q=>by simp only [kl]
 have hlk:∀q,look [(l,o)] q=if l=q then some o else none:=fun q=>by simp only [look]
 have hr:=hE.app' ⟨[], [], [(l,none)], [(l,o)],none, .gE⟩ E' w undef (by rw [hz];exact aM.refl _ _) rfl rfl rfl (Nat.le_refl _)
  (fun q hq=>by
    have:q≠l:=fun e=>by subst e;simp [kl] at hq
    exact ⟨hρ q this,hσ q this⟩)
  (fun q x hq=>by simp only [cz] at hq;split at hq<;>simp at hq)
  (fun q hq=>by
    have:q≠l:=fun e=>by
     subst e
     refine hq ?_
     rw [dO (by omega)]
     by_cases hm:look X.m0 q=none
     ·exact hm
     ·have:=hX.low q (by rw [dO (by omega)];exact hm)
      omega
    exact ⟨hρ q this,hσ q this⟩)
  (fun q hq=>by simp only [cz] at hq;split at hq<;>simp at hq;omega)
  (fun q o' hq=>by
    simp only [hlk] at hq
    split at hq
    ·cases hq;exact ⟨by omega,by rcases ho with rfl|rfl<;>rfl⟩
    ·cases hq)
  (fun b _=> .inl ⟨rfl,by rw [hz]⟩)
  (fun q o' hq=>by
    simp only [hlk] at hq
    split at hq
    ·rename_i e;subst e
     cases hq
     rcases ho with rfl|rfl
     ·exact ⟨by simp,hsz, .inl ⟨wq,rfl,p,zi⟩⟩
     ·exact ⟨by simp,hsz, .inl ⟨wq,rfl,p,zi⟩⟩
    ·cases hq)
  (fun q q' b hq _ hb=>by
    simp only [hlk] at hq
    split at hq
    ·rename_i e;subst e;rw [wq] at hb;cases hb
    ·exact absurd rfl hq)
  (fun q b hq hb=>by
    simp only [hlk] at hq
    split at hq
    ·rename_i e;subst e;rw [wq] at hb;cases hb
    ·exact absurd rfl hq)
  (fun b hb=>by rw [hz];exact hE.good.fresh b hb) trivial (fun d hd=>by cases hd)
 have ha:a.put none undef=a:=rfl
 rw [ha] at hr
 refine ⟨E',⟨hr.defers,hr.size,hr.good,hr.ld,hr.mine,fun j=> ?_⟩⟩
 have hj:=hr.slot j
 simp only [ASt.put,get]
 split
 ·rename_i e;subst e
  rw [hp]
  exact ⟨zi.symm,trivial⟩
 ·rename_i hne
  exact hj
theorem dS {X:Ctx} (hX:X.Ok) {c:Code} {Q:Exit→ASt→Prop} {s:ASt} (l:Nat) {o:AObj} {e sz:Nat} {rows:List (List D)} (hl:look s.m l=some o) (ho:o= .own e sz rows∨o= .part e sz rows)
 (h:dK X c Q ((⟨[], [], [(l,some (.sl sz rows))], [],none, .gE⟩:LA).app s)):dK X c Q s:=by
 refine ⟨fun hk' a w ⟨E,hE⟩=>h.run hk' a w ?_⟩
 have jL:l<20000:=hE.good.low l (by rw [hl];simp)
 have hro:o.ro=false:=by rcases ho with rfl|rfl<;>rfl
 obtain ⟨z,hz,FI,FV⟩:∃z:Nat→Nat,(∀b,E.ρ l=some b→z b=max (E.z b) (cx w b))∧(∀b,E.ρ l≠some b→z b=E.z b)∧∀b,w.heap.size≤b→z b=0:=by
  refine ⟨fun b=>if E.ρ l=some b then max (E.z b) (cx w b) else E.z b,fun b hb=>by simp only;rw [if_pos hb],fun b hb=>by simp only;rw [if_neg hb],fun b hb=> ?_⟩
  have h0:=hE.good.fresh b hb
  have h1:cx w b=0:=by simp [cx,Array.getElem?_eq_none hb]
  simp only [h0,h1];split<;>rfl
 have hst:aM w E.z w z:=fun b=>⟨by
  by_cases hb:E.ρ l=some b
  ·rw [hz b hb];exact Nat.le_max_left _ _
  ·rw [FI b hb];exact Nat.le_refl _,fun _ _=>rfl⟩
 have cz:∀q,kl [(l,some (D.sl sz rows))] q=if l=q then some (some (.sl sz rows)) else none:=fun q=>by simp only [kl]
 have hlk:∀q,look ([]:List (Nat × AObj)) q=none:=fun q=>rfl
 have ig:bK s.m l=some o:=hE.good.bK hl
 have hr:=hE.app' ⟨[], [], [(l,some (.sl sz rows))], [],none, .gE⟩ ⟨E.ρ,E.σ,z⟩ w undef hst rfl rfl rfl (Nat.le_refl _)
  (fun q _=>⟨rfl,rfl⟩)
  (fun q x hq hs=>by
    simp only [cz] at hq
    split at hq
    ·rename_i e;subst e
     cases hq
     refine ot (C:=X.C) (bad:=fun _=>false) (jj:=false) (m:= [(l,o)]) (E:=E) (z:=z) (n:=1) (a:= .ref l) ?_ hst ?_ ?_ ⟨rfl,hs⟩
     ·exact ⟨fun q hq=>by simp only [look] at hq;split at hq<;>simp_all,fun q q' b hq mU hb hb'=>by
       have f:∀q,bK [(l,o)] q≠none→q=l:=fun q hq=>by
        unfold bK at hq
        split at hq
        ·simp only [look] at hq;split at hq
         ·rename_i e;exact e.symm
         ·exact absurd rfl hq
        ·exfalso;simp only [look] at hq;split at hq
         ·rcases ho with rfl|rfl<;>simp [inner] at hq
         ·simp [inner] at hq
       rw [f q hq,f q' mU],fun q o' hq=>by
        have:q=l∧o'=o:=by
         unfold bK at hq
         split at hq
         ·simp only [look] at hq;split at hq
          ·rename_i e;exact ⟨e.symm,by cases hq;rfl⟩
          ·cases hq
         ·exfalso;simp only [look] at hq;split at hq
          ·rcases ho with rfl|rfl<;>simp [inner] at hq
          ·simp [inner] at hq
        obtain ⟨rfl,rfl⟩:=this
        exact hE.good.obj _ _ hl,hE.good.fresh⟩
     ·intro q o' b hq _ _ hb
      simp only [look] at hq
      split at hq
      ·rename_i e;subst e;rw [hz b hb];exact Nat.le_max_right _ _
      ·cases hq
     ·rcases ho with rfl|rfl<;>simp [rdX,look]
    ·cases hq)
  (fun q _=>⟨rfl,rfl⟩)
  (fun q hq=>by simp only [cz] at hq;split at hq<;>simp at hq;omega)
  (fun q o' hq=>by simp [hlk] at hq)
  (fun b _=>by
    by_cases hb:E.ρ l=some b
    ·exact .inr ⟨l,o,ig,hro,hb, .inl (by simp [cz])⟩
    ·exact .inl ⟨rfl,FI b hb⟩)
  (fun q o' hq=>by simp [hlk] at hq) (fun q q' b hq=>absurd rfl hq) (fun q b hq=>absurd rfl hq) FV trivial (fun d hd=>by cases hd)
 have ha:a.put none undef=a:=rfl
 rw [ha] at hr
 exact ⟨_,hr⟩
theorem lI {X:Ctx} (hX:X.Ok) {c:Code} {Q:Exit→ASt→Prop} {s:ASt} (k l l':Nat) {o:AObj} {e sz:Nat} {rows:List (List D)} (hk:get s.t k= .ref l) (hl:look s.m l=some o) (ho:o= .own e sz rows∨o= .tip e sz rows) (hd:l'<10000)
 (h:dK X c Q (((⟨[], [], [(l,none),(l',none)], [(l',o)],none, .gE⟩:LA).app s).put (some k) (.ref l'))):dK X c Q s:=by
 refine ⟨fun hk' a w ⟨E,hE⟩=>h.run hk' a w ?_⟩
 have hv:=hE.slot k
 rw [hk] at hv
 have jL:l<20000:=hE.good.low l (by rw [hl];simp)
 have hro:o.ro=false:=by rcases ho with rfl|rfl<;>rfl
 have jG:=hE.good.obj l o hl
 obtain ⟨E',hρ,hσ,hz,wq,zi⟩:∃E':Env,(∀q,q≠l'→E'.ρ q=E.ρ q)∧(∀q,q≠l'→E'.σ q=E.σ q)∧E'.z=E.z∧E'.ρ l'=E.ρ l∧E'.σ l'=E.σ l:=by
  exact ⟨⟨fun q=>if q=l' then E.ρ l else E.ρ q,fun q=>if q=l' then E.σ l else E.σ q,E.z⟩,fun q hq=>by simp only;rw [if_neg hq],fun q hq=>by simp only;rw [if_neg hq],rfl,by simp,by simp⟩
 have cz:∀q,kl [(l,(none:Option D)),(l',none)] q=if l=q then some none else if l'=q then some none else none:=fun q=>by simp only [kl]
 have hlk:∀q,look [(l',o)] q=if l'=q then some o else none:=fun q=>by simp only [look]
 have hr:=hE.app' ⟨[], [], [(l,none),(l',none)], [(l',o)],none, .gE⟩ E' w undef (by rw [hz];exact aM.refl _ _) rfl rfl rfl (Nat.le_refl _)
  (fun q hq=>by
    have:q≠l':=fun e=>by subst e;simp [kl] at hq
    exact ⟨hρ q this,hσ q this⟩)
  (fun q x hq=>by simp only [cz] at hq;split at hq<;>(try split at hq)<;>simp at hq)
  (fun q hq=>by
    have:q≠l':=fun e=>by
     subst e
     refine hq ?_
     rw [dO (by omega)]
     by_cases hm:look X.m0 q=none
     ·exact hm
     ·have:=hX.low q (by rw [dO (by omega)];exact hm)
      omega
    exact ⟨hρ q this,hσ q this⟩)
  (fun q hq=>by
    simp only [cz] at hq
    split at hq
    ·omega
    ·split at hq
     ·omega
     ·exact absurd rfl hq)
  (fun q o' hq=>by
    simp only [hlk] at hq
    split at hq
    ·cases hq;exact ⟨by omega,by rcases ho with rfl|rfl<;>rfl⟩
    ·cases hq)
  (fun b _=> .inl ⟨rfl,by rw [hz]⟩)
  (fun q o' hq=>by
    simp only [hlk] at hq
    split at hq
    ·rename_i e;subst e
     cases hq
     rcases ho with rfl|rfl<;>(simp only [bu] at jG ⊢;rw [wq,zi,hz];exact jG)
    ·cases hq)
  (fun q q' b hq mU _ _=>by
    simp only [hlk] at hq mU
    split at hq
    ·rename_i e;split at mU
     ·rename_i e';rw [← e, ← e']
     ·exact absurd rfl mU
    ·exact absurd rfl hq)
  (fun q b hq hb=>by
    simp only [hlk] at hq
    split at hq
    ·rename_i e;subst e;rw [wq] at hb;exact .inr ⟨l,o,hE.good.bK hl,hro,hb, .inl (by simp [cz])⟩
    ·exact absurd rfl hq)
  (fun b hb=>by rw [hz];exact hE.good.fresh b hb) trivial (fun d hd=>by cases hd)
 have ha:a.put none undef=a:=rfl
 rw [ha] at hr
 refine ⟨E',⟨hr.defers,hr.size,hr.good,hr.ld,hr.mine,fun j=> ?_⟩⟩
 have hj:=hr.slot j
 simp only [ASt.put,get]
 split
 ·rename_i e;subst e
  exact ⟨by rw [zi];exact hv.1,hv.2⟩
 ·exact hj
theorem sQ {X:Ctx} (hX:X.Ok) {c:Code} {Q:Exit→ASt→Prop} {s:ASt} (bx i l:Nat) (o:AObj) {cells:List AV} {a0:AV} (ye:look s.m bx=some (.box cells)) (hi:cells[i]? =some a0) (ha0:a0.isNo=true) (hl:look s.m l=none) (hd:l<10000) (dW:l∉AV.idss cells)
 (ho:∃e sz,0<sz∧(o= .own e sz []∨o= .tip e sz []))
 (h:dK X c Q ((⟨[], [], [(l,none)], [(l,o),(bx, .box (cells.set i (.ref l)))],none, .gE⟩:LA).app s)):dK X c Q s:=by
 refine ⟨fun hk' a w ⟨E,hE⟩=>h.run hk' a w ?_⟩
 obtain ⟨e,sz,hsz,ho⟩:=ho
 have hne:bx≠l:=fun e=>by rw [e,hl] at ye;cases ye
 obtain ⟨b,vs,et,g1,g2,g3,g4,g5⟩:=hE.good.obj bx _ ye
 obtain ⟨v,BN,Fh⟩:=g4.get hi
 obtain ⟨p,hp⟩:∃p,v= .slice p 0 0:=by
  cases a0 with
  |nil e=>exact ⟨_,Fh⟩
  |emp e=>exact Fh
  |_=>cases ha0
 subst hp
 obtain ⟨E',hρ,hσ,hz,wq,zi⟩:∃E':Env,(∀q,q≠l→E'.ρ q=E.ρ q)∧(∀q,q≠l→E'.σ q=E.σ q)∧E'.z=E.z∧E'.ρ l=none∧E'.σ l= .slice p 0 0:=by
  exact ⟨⟨fun q=>if q=l then none else E.ρ q,fun q=>if q=l then .slice p 0 0 else E.σ q,E.z⟩,fun q hq=>by simp only;rw [if_neg hq],fun q hq=>by simp only;rw [if_neg hq],rfl,by simp,by simp⟩
 have cz:∀q,kl [(l,(none:Option D))] q=if l=q then some none else none:=fun q=>by simp only [kl]
 have hlk:∀q,look [(l,o),(bx, .box (cells.set i (.ref l)))] q=if l=q then some o else if bx=q then some (.box (cells.set i (.ref l))) else none:=fun q=>by simp only [look]
 have hc:AVrs w E' (cells.set i (.ref l)) vs:=by
  have h0:AVrs w E' cells vs:=AVrs.mono (live:=fun q=>q≠l) ⟨by rw [hz];exact aM.refl _ _,hρ,hσ⟩ (fun q hq e=>dW (by rw [← e];exact hq)) g4
  rw [dx] at h0 ⊢
  refine ⟨by rw [List.length_set];exact h0.1,fun j a' u' ha hu=> ?_⟩
  rw [List.getElem?_set] at ha
  split at ha
  ·rename_i hij;subst hij
   split at ha
   ·cases ha
    rw [BN] at hu;cases hu
    exact ⟨zi.symm,trivial⟩
   ·cases ha
  ·exact h0.2 j a' u' ha hu
 have hr:=hE.app' ⟨[], [], [(l,none)], [(l,o),(bx, .box (cells.set i (.ref l)))],none, .gE⟩ E' w undef (by rw [hz];exact aM.refl _ _) rfl rfl rfl (Nat.le_refl _)
  (fun q hq=>by
    have:q≠l:=fun e=>by subst e;simp [kl] at hq
    exact ⟨hρ q this,hσ q this⟩)
  (fun q x hq=>by simp only [cz] at hq;split at hq<;>simp at hq)
  (fun q hq=>by
    have:q≠l:=fun e=>by
     subst e
     refine hq ?_
     rw [dO (by omega)]
     by_cases hm:look X.m0 q=none
     ·exact hm
     ·have:=hX.low q (by rw [dO (by omega)];exact hm)
      omega
    exact ⟨hρ q this,hσ q this⟩)
  (fun q hq=>by simp only [cz] at hq;split at hq<;>simp at hq;omega)
  (fun q o' hq=>by
    simp only [hlk] at hq
    split at hq
    ·cases hq;exact ⟨by omega,by rcases ho with rfl|rfl<;>rfl⟩
    ·split at hq
     ·rename_i e;subst e
      cases hq;exact ⟨hE.good.low bx (by rw [ye];simp),rfl⟩
     ·cases hq)
  (fun b _=> .inl ⟨rfl,by rw [hz]⟩)
  (fun q o' hq=>by
    simp only [hlk] at hq
    split at hq
    ·rename_i e;subst e
     cases hq
     rcases ho with rfl|rfl
     ·exact ⟨by simp,hsz, .inl ⟨wq,rfl,p,zi⟩⟩
     ·exact ⟨by simp,hsz, .inl ⟨wq,rfl,p,zi⟩⟩
    ·split at hq
     ·rename_i e;subst e
      cases hq
      exact ⟨b,vs,et,by rw [hρ _ hne];exact g1,g2,by rw [hz];exact g3,hc,g5⟩
     ·cases hq)
  (fun q q' b hq mU hb hb'=>by
    have f:∀q,look [(l,o),(bx, .box (cells.set i (.ref l)))] q≠none→E'.ρ q=some b→q=bx:=fun q hq hb=>by
     simp only [hlk] at hq
     split at hq
     ·rename_i e;subst e;rw [wq] at hb;cases hb
     ·split at hq
      ·rename_i e;exact e.symm
      ·exact absurd rfl hq
    rw [f q hq hb,f q' mU hb'])
  (fun q b hq hb=>by
    have:q=bx:=by
     simp only [hlk] at hq
     split at hq
     ·rename_i e;subst e;rw [wq] at hb;cases hb
     ·split at hq
      ·rename_i e;exact e.symm
      ·exact absurd rfl hq
    subst this
    rw [hρ _ hne] at hb
    exact .inr ⟨_,_,hE.good.bK ye,rfl,hb, .inr (by rw [hlk];simp [hne.symm])⟩)
  (fun b hb=>by rw [hz];exact hE.good.fresh b hb) trivial (fun d hd=>by cases hd)
 have ha:a.put none undef=a:=rfl
 rw [ha] at hr
 exact ⟨E',hr⟩
end Go.Ab
end
section
namespace Go.Ab
theorem lJ {X:Ctx} {o:Oper} {s:ASt} {K:LA→Prop} (hX:X.Ok) {C:Cfg} (hC:X.C=C) {P:Program} (hP:X.P=P) {c:Call} {fo:Operand} {f:Nat} {first caps as as':List AV} {ob:AObj} (d:Nat)
 (hs:Spec P f (Args as') [] (.ref 10000) [(10000,ob)]) (ho:o.op= .call c) (hc:c.callee= .value fo) (hf:aev C 0 s fo= .fn f first caps) (has:evA C s c.args.toList c.argTypes.toList=as)
 (x9:cvts (fun a x=>rdX C (fun _=>false) true (reach s 3 (AV.idss (first++as++caps))) 4 a=some x) (first++as++caps) as')
 (zg:∃e sz rows,ob= .tip e sz rows∧∀r∈rows,∀x∈r,∃v,x=D.sc v) (hd:o.dst=some d) (hdl:d<10000)
 (hK:K ⟨rsOf s (fo::c.args.toList),reach s 3 (AV.idss (first++as++caps)), [(d,none)], [(d,ob)],some d, .ref d⟩):ACall X o (.fn f first caps) as s K:=by
 subst hC;subst hP
 refine ⟨_,⟨hd.symm, ?_⟩,⟨aD s _,kH s _ _⟩,hK⟩
 rintro s' a w hdn gG ⟨E,hE⟩
 have hfo:=hE.evs gG.1 X.C 0 (x:=fo) (by simp)
 rw [hf] at hfo
 obtain ⟨us,vs,hfo,jy,uL⟩:=hfo
 have hargs:=mC (s:=s) hE c.args.toList c.argTypes.toList (fun p hp=>gG.1 p (by cases fo<;>simp [rsOf,hp]))
 rw [has] at hargs
 have sx:AVrs w E (first++as++caps) (us++c.args.toList.map a.eval++vs):=(jy.append hargs).append uL
 obtain ⟨fn,cd,hfn,hname,hbody⟩:=hs.can
 have hrun:(execOp a.eval o).run X.P w= .ok (.enter f (us++c.args.toList.map a.eval++vs).toArray) w:=by
  have h1:us.toArray++c.args.map a.eval++vs.toArray=(us++c.args.toList.map a.eval++vs).toArray:=by
   apply Array.toList_inj.1;simp
  have h2:=dn (P:=X.P) hfn hname hbody (us.toArray++c.args.map a.eval++vs.toArray) w
  rw [h1] at h2
  simp only [execOp,ho,resolve,hc,hfo,Deferred.ofValue,Sem.run_bind,Sem.run_pure,Result.andThen_ok,invoke]
  rw [h1];exact h2
 have ig:∀l,bK [] l=none:=fun l=>by unfold bK;split<;>rfl
 have yb:aM w E.z w (fun b=>max (E.z b) (cx w b)):=fun b=>⟨Nat.le_max_left _ _,fun _ _=>rfl⟩
 have sy:Good [] ⟨E.ρ,E.σ,fun b=>max (E.z b) (cx w b)⟩ w:=by
  refine ⟨fun l h=>by simp [look] at h,fun l l' b h=>by simp [ig] at h,fun l o h=>by simp [ig] at h,fun b hb=> ?_⟩
  simp [hE.good.fresh b hb,cx,Array.getElem?_eq_none hb]
 have hA:AVrs w ⟨E.ρ,E.σ,fun b=>max (E.z b) (cx w b)⟩ as' (us++c.args.toList.map a.eval++vs):=
  gV (E':=⟨E.ρ,E.σ,fun b=>max (E.z b) (cx w b)⟩) ⟨yb,fun _ _=>rfl,fun _ _=>rfl⟩ (fun a x v Fg hr=>ot hE.good yb (fun l o b _ _ _ _=>Nat.le_max_right _ _) (sO (fun l o hl=>gG.2 _ (aV hl)) Fg) hr) x9 sx
 unfold Oper.wp
 rw [hrun]
 refine (hs.calls _ w _ sy hA).mono ?_
 rintro e w' ⟨v,E',rfl,hst,hg',uM,hres⟩
 have hheap:∀b,b<w.heap.size→w'.heap[b]? =w.heap[b]? :=fun b hb=>(hst.frame b hb (by rintro ⟨l,o,hl,_⟩;simp [ig] at hl)).1
 obtain ⟨e0,sz,rows,rfl,hfl⟩:=zg
 have DP:bK [(10000,AObj.tip e0 sz rows)] 10000=some (.tip e0 sz rows):=by rw [dO (by omega)];simp [look]
 have jG:=hg'.jI 10000 _ DP
 have yf:∀b,E'.ρ 10000=some b→w.heap.size≤b:=fun b hb=>by
  rcases uM 10000 _ b DP rfl hb with h|⟨l,q,hl,_⟩
  ·exact h
  ·simp [ig] at hl
 obtain ⟨E2,hρ,hσ,HC,HD,FV,BO⟩:∃E2:Env,(∀l,l≠d→E2.ρ l=E.ρ l)∧(∀l,l≠d→E2.σ l=E.σ l)∧E2.ρ d=E'.ρ 10000∧E2.σ d=E'.σ 10000∧(∀b,b<w.heap.size→E2.z b=E.z b)∧(∀b,w.heap.size≤b→E2.z b=E'.z b):=
  ⟨⟨fun l=>if l=d then E'.ρ 10000 else E.ρ l,fun l=>if l=d then E'.σ 10000 else E.σ l,fun b=>if b<w.heap.size then E.z b else E'.z b⟩,fun l h=>by simp [h],fun l h=>by simp [h],by simp,by simp,fun b h=>by simp [h],fun b h=>by simp [show ¬b<w.heap.size by omega]⟩
 have cz:∀l,kl [(d,(none:Option D))] l=if d=l then some none else none:=fun l=>by simp only [kl]
 have hlk:∀l,look [(d,AObj.tip e0 sz rows)] l=if d=l then some (.tip e0 sz rows) else none:=fun l=>by simp only [look]
 refine ⟨E2,hd ▸ hE.app' ⟨rsOf s (fo::c.args.toList),reach s 3 (AV.idss (first++as++caps)), [(d,none)], [(d, .tip e0 sz rows)],some d, .ref d⟩ E2 w' v (fun b=> ?_) hst.os hst.tape hst.output hst.size (fun l hl=> ?_) (fun l x hl=> ?_) (fun l hl=> ?_) (fun l hl=> ?_) (fun l q hl=> ?_) (fun b hb=> .inl ⟨hheap b hb,FV b hb⟩) (fun l q hl=> ?_) (fun l l' b hl hl' _ _=> ?_) (fun l b hl hb=> ?_) (fun b hb=> ?_) ?_ (fun k hk=>hdn k (hd ▸ hk))⟩
 ·by_cases hb:b<w.heap.size
  ·exact ⟨by rw [FV b hb];exact Nat.le_refl _,fun o _=>cell?_of_heap (hheap b hb) o⟩
  ·have:=hE.good.fresh b (by omega)
   exact ⟨by omega,fun o ho=>by omega⟩
 ·have:l≠d:=fun e=>by subst e;simp [kl] at hl
  exact ⟨hρ l this,hσ l this⟩
 ·simp only [cz] at hl;split at hl<;>simp at hl
 ·have:l≠d:=fun e=>by
   subst e
   have:=hX.low l hl
   omega
  exact ⟨hρ l this,hσ l this⟩
 ·simp only [cz] at hl
  split at hl
  ·omega
  ·exact absurd rfl hl
 ·simp only [hlk] at hl
  split at hl
  ·cases hl;exact ⟨by omega,rfl⟩
  ·cases hl
 ·simp only [hlk] at hl
  split at hl
  ·rename_i he;subst he
   cases hl
   obtain ⟨g1,g2,g3⟩:=jG
   refine ⟨g1,g2, ?_⟩
   rcases g3 with ⟨h1,h2,h3⟩|⟨b,cur,cap,h1,h2,h3,h4,h5,h6,h7,h8⟩
   ·exact .inl ⟨by rw [HC];exact h1,h2,by rw [HD];exact h3⟩
   ·refine .inr ⟨b,cur,cap,by rw [HC];exact h1,h2,by rw [HD];exact h3,h4,h5,h6,by rw [BO b (yf b h1)];exact h7,fun i j r x hi hj=> ?_⟩
    obtain ⟨v,hv,hx⟩:=h8 i j r x hi hj
    obtain ⟨u,rfl⟩:=hfl r (List.mem_of_getElem? hi) x (List.mem_of_getElem? hj)
    cases hx with
    |sc _ h=>exact ⟨_,hv, .sc _ h⟩
  ·cases hl
 ·simp only [hlk] at hl hl'
  split at hl
  ·rename_i he;split at hl'
   ·rename_i he';rw [← he, ← he']
   ·exact absurd rfl hl'
  ·exact absurd rfl hl
 ·simp only [hlk] at hl
  split at hl
  ·rename_i he;subst he
   rw [HC] at hb;exact .inl (yf b hb)
  ·exact absurd rfl hl
 ·rw [BO b (Nat.le_trans hst.size hb)];exact hg'.fresh b hb
 ·exact ⟨by rw [HD];exact hres.1,hres.2⟩
theorem dF {X:Ctx} (hX:X.Ok) {c:Code} {Q:Exit→ASt→Prop} {s:ASt} (l:Nat) {e sz:Nat} {rows:List (List D)} (hl:look s.m l=some (.tip e sz rows))
 (h:dK X c Q ((⟨[], [], [(l,some (.sl sz rows))], [],none, .gE⟩:LA).app s)):dK X c Q s:=by
 refine ⟨fun hk' a w ⟨E,hE⟩=>h.run hk' a w ?_⟩
 have jL:l<20000:=hE.good.low l (by rw [hl];simp)
 have cz:∀q,kl [(l,some (D.sl sz rows))] q=if l=q then some (some (.sl sz rows)) else none:=fun q=>by simp only [kl]
 have hlk:∀q,look ([]:List (Nat × AObj)) q=none:=fun q=>rfl
 have hr:=hE.app' ⟨[], [], [(l,some (.sl sz rows))], [],none, .gE⟩ E w undef (aM.refl _ _) rfl rfl rfl (Nat.le_refl _)
  (fun q _=>⟨rfl,rfl⟩)
  (fun q x hq hs=>by
    simp only [cz] at hq
    split at hq
    ·rename_i e;subst e
     cases hq
     exact kY (hE.good.obj _ _ hl)
    ·cases hq)
  (fun q _=>⟨rfl,rfl⟩)
  (fun q hq=>by simp only [cz] at hq;split at hq<;>simp at hq;omega)
  (fun q o' hq=>by simp [hlk] at hq)
  (fun b _=> .inl ⟨rfl,rfl⟩)
  (fun q o' hq=>by simp [hlk] at hq) (fun q q' b hq=>absurd rfl hq) (fun q b hq=>absurd rfl hq) hE.good.fresh trivial (fun d hd=>by cases hd)
 have ha:a.put none undef=a:=rfl
 rw [ha] at hr
 exact ⟨_,hr⟩
theorem iD {X:Ctx} (hX:X.Ok) {c:Code} {Q:Exit→ASt→Prop} {s:ASt} (bx i l l':Nat) {o:AObj} {cells:List AV} {e sz:Nat} {rows:List (List D)} (ye:look s.m bx=some (.box cells)) (hi:cells[i]? =some (.ref l)) (hl:look s.m l=some o) (ho:o= .own e sz rows∨o= .tip e sz rows) (hd:l'<10000) (FW:l'≠bx)
 (h:dK X c Q ((⟨[], [], [(l,none),(l',none)], [(l',o),(bx, .box ((AV.subs [(l,none),(l',none)] cells).set i (.ref l')))],none, .gE⟩:LA).app s)):dK X c Q s:=by
 refine ⟨fun hk' a w ⟨E,hE⟩=>h.run hk' a w ?_⟩
 have hne:bx≠l:=fun e=>by rw [e,hl] at ye;cases ye;rcases ho with h|h<;>cases h
 obtain ⟨b,vs,et,g1,g2,g3,g4,g5⟩:=hE.good.obj bx _ ye
 obtain ⟨v,BN,Fh⟩:=g4.get hi
 have jL:l<20000:=hE.good.low l (by rw [hl];simp)
 have hro:o.ro=false:=by rcases ho with rfl|rfl<;>rfl
 have jG:=hE.good.obj l o hl
 obtain ⟨E',hρ,hσ,hz,wq,zi⟩:∃E':Env,(∀q,q≠l'→E'.ρ q=E.ρ q)∧(∀q,q≠l'→E'.σ q=E.σ q)∧E'.z=E.z∧E'.ρ l'=E.ρ l∧E'.σ l'=E.σ l:=by
  exact ⟨⟨fun q=>if q=l' then E.ρ l else E.ρ q,fun q=>if q=l' then E.σ l else E.σ q,E.z⟩,fun q hq=>by simp only;rw [if_neg hq],fun q hq=>by simp only;rw [if_neg hq],rfl,by simp,by simp⟩
 have cz:∀q,kl [(l,(none:Option D)),(l',none)] q=if l=q then some none else if l'=q then some none else none:=fun q=>by simp only [kl]
 have hlk:∀q,look [(l',o),(bx, .box ((AV.subs [(l,none),(l',none)] cells).set i (.ref l')))] q=if l'=q then some o else if bx=q then some (.box ((AV.subs [(l,none),(l',none)] cells).set i (.ref l'))) else none:=fun q=>by simp only [look]
 have hkeep:∀q,kl [(l,(none:Option D)),(l',none)] q=none→E'.ρ q=E.ρ q∧E'.σ q=E.σ q:=fun q hq=>by
  have:q≠l':=fun e=>by subst e;simp [kl] at hq
  exact ⟨hρ q this,hσ q this⟩
 have hks:∀q x,kl [(l,(none:Option D)),(l',none)] q=some (some x)→iC (E.σ q)→Rd w E'.z (E.σ q) x:=fun q x hq=>by simp only [cz] at hq;split at hq<;>(try split at hq)<;>simp at hq
 have hst:aM w E.z w E'.z:=by rw [hz];exact aM.refl _ _
 have hc:AVrs w E' ((AV.subs [(l,none),(l',none)] cells).set i (.ref l')) vs:=by
  have h0:AVrs w E' (AV.subs [(l,none),(l',none)] cells) vs:=AVrs.sub hst hkeep hks g4
  rw [dx] at h0 ⊢
  refine ⟨by rw [List.length_set];exact h0.1,fun j a' u' ha hu=> ?_⟩
  rw [List.getElem?_set] at ha
  split at ha
  ·rename_i hij;subst hij
   split at ha
   ·cases ha
    rw [BN] at hu;cases hu
    exact ⟨by rw [zi];exact Fh.1,Fh.2⟩
   ·cases ha
  ·exact h0.2 j a' u' ha hu
 have hr:=hE.app' ⟨[], [], [(l,none),(l',none)], [(l',o),(bx, .box ((AV.subs [(l,none),(l',none)] cells).set i (.ref l')))],none, .gE⟩ E' w undef hst rfl rfl rfl (Nat.le_refl _)
  hkeep hks
  (fun q hq=>by
    have:q≠l':=fun e=>by
     subst e
     refine hq ?_
     rw [dO (by omega)]
     by_cases hm:look X.m0 q=none
     ·exact hm
     ·have:=hX.low q (by rw [dO (by omega)];exact hm)
      omega
    exact ⟨hρ q this,hσ q this⟩)
  (fun q hq=>by
    simp only [cz] at hq
    split at hq
    ·omega
    ·split at hq
     ·omega
     ·exact absurd rfl hq)
  (fun q o' hq=>by
    simp only [hlk] at hq
    split at hq
    ·cases hq;exact ⟨by omega,by rcases ho with rfl|rfl<;>rfl⟩
    ·split at hq
     ·rename_i e;subst e
      cases hq;exact ⟨hE.good.low bx (by rw [ye];simp),rfl⟩
     ·cases hq)
  (fun b _=> .inl ⟨rfl,by rw [hz]⟩)
  (fun q o' hq=>by
    simp only [hlk] at hq
    split at hq
    ·rename_i e;subst e
     cases hq
     rcases ho with rfl|rfl<;>(simp only [bu] at jG ⊢;rw [wq,zi,hz];exact jG)
    ·split at hq
     ·rename_i e;subst e
      cases hq
      exact ⟨b,vs,et,by rw [hρ _ FW.symm];exact g1,g2,by rw [hz];exact g3,hc,g5⟩
     ·cases hq)
  (fun q q' b' hq mU hb hb'=>by
    have f:∀q,look [(l',o),(bx, .box ((AV.subs [(l,none),(l',none)] cells).set i (.ref l')))] q≠none→E'.ρ q=some b'→(q=l'∧E.ρ l=some b')∨(q=bx∧E.ρ bx=some b'):=fun q hq hb=>by
     simp only [hlk] at hq
     split at hq
     ·rename_i e;subst e;rw [wq] at hb;exact .inl ⟨rfl,hb⟩
     ·split at hq
      ·rename_i e;subst e;rw [hρ _ FW.symm] at hb;exact .inr ⟨rfl,hb⟩
      ·exact absurd rfl hq
    rcases f q hq hb with ⟨h1,h2⟩|⟨h1,h2⟩<;>rcases f q' mU hb' with ⟨h3,h4⟩|⟨h3,h4⟩
    ·rw [h1,h3]
    ·exact absurd (hE.good.inj l bx b' (by simp [hE.good.bK hl]) (by simp [hE.good.bK ye]) h2 h4).symm hne
    ·exact absurd (hE.good.inj l bx b' (by simp [hE.good.bK hl]) (by simp [hE.good.bK ye]) h4 h2).symm hne
    ·rw [h1,h3])
  (fun q b' hq hb=>by
    simp only [hlk] at hq
    split at hq
    ·rename_i e;subst e;rw [wq] at hb;exact .inr ⟨l,o,hE.good.bK hl,hro,hb, .inl (by simp [cz])⟩
    ·split at hq
     ·rename_i e;subst e;rw [hρ _ FW.symm] at hb;exact .inr ⟨_,_,hE.good.bK ye,rfl,hb, .inr (by rw [hlk];simp [FW])⟩
     ·exact absurd rfl hq)
  (fun b hb=>by rw [hz];exact hE.good.fresh b hb) trivial (fun d hd=>by cases hd)
 have ha:a.put none undef=a:=rfl
 rw [ha] at hr
 exact ⟨E',hr⟩
theorem lK {X:Ctx} {c:Code} {Q:Exit→ASt→Prop} {s:ASt} (bx i sz:Nat) {cells:List AV} {a0:AV} (ye:look s.m bx=some (.box cells)) (hi:cells[i]? =some a0) (ha0:a0.isNo=true)
 (h:dK X c Q ((⟨[], [], [], [(bx, .box (cells.set i (.d (.sl sz []))))],none, .gE⟩:LA).app s)):dK X c Q s:=by
 refine ⟨fun hk' a w ⟨E,hE⟩=>h.run hk' a w ⟨E, ?_⟩⟩
 have ha:a.put none undef=a:=rfl
 rw [← ha]
 obtain ⟨b,vs,et,g1,g2,g3,g4,g5⟩:=hE.good.obj bx _ ye
 obtain ⟨v,BN,Fh⟩:=g4.get hi
 obtain ⟨p,hp⟩:∃p,v= .slice p 0 0:=by
  cases a0 with
  |nil e=>exact ⟨_,Fh⟩
  |emp e=>exact Fh
  |_=>cases ha0
 subst hp
 refine hE.write ye rfl g1 g3 rfl (fun _ _=>rfl) rfl rfl rfl ⟨b,vs,et,g1,g2,g3, ?_,g5⟩ trivial (fun d hd=>by cases hd)
 rw [dx] at g4 ⊢
 refine ⟨by rw [List.length_set];exact g4.1,fun j a' u' ha hu=> ?_⟩
 rw [List.getElem?_set] at ha
 split at ha
 ·rename_i hij;subst hij
  split at ha
  ·cases ha
   rw [BN] at hu;cases hu
   exact .nil _ _
  ·cases ha
 ·exact g4.2 j a' u' ha hu
theorem nE {X:Ctx} {o:Oper} {s:ASt} {K:LA→Prop} (hX:X.Ok) {C:Cfg} (hC:X.C=C) {P:Program} (hP:X.P=P) {c:Call} {fo:Operand} {f:Nat} {first caps as as':List AV} {m m':List (Nat × AObj)} {res:AV} (nm:List (Nat × Nat))
 (hs:Spec P f (Args as') m res m') (ho:o.op= .call c) (hc:c.callee= .value fo) (hf:aev C 0 s fo= .fn f first caps) (has:evA C s c.args.toList c.argTypes.toList=as)
 (hm:∀p∈m,(asN nm p.1,p.2.ren (asN nm))∈lookAll s (m.map fun p=>asN nm p.1)∨∃cells,p.2= .rob cells∧(asN nm p.1, .box (AV.rens (asN nm) cells))∈lookAll s (m.map fun p=>asN nm p.1))
 (hnm:nodupM m) (wh:nodupM m') (fG:∀p∈m,p.1<20000∧p.2.isNest=false) (sw:∀p∈m',p.1<20000∧p.2.isNest=false)
 (hinj:∀p∈m++m',∀q∈m++m',asN nm p.1=asN nm q.1→p.1=q.1)
 (hnew:∀p∈m',look m p.1=none→asN nm p.1<10000)
 (hro:∀p∈m',p.2.ro=true→look m p.1=some p.2) (FM:∀p∈m,p.2.ro=true→look m' p.1=some p.2)
 (Dq:∀l∈res.ids,look m' l≠none) (zG:∀p∈m',∀l∈p.2.ids,look m' l≠none)
 (x9:cvts (cvtD ⟨[],lookAll s (AV.idss (first++as++caps))⟩) (first++as++caps) (AV.rens (asN nm) as'))
 (hK:K ⟨rsOf s (fo::c.args.toList),lookAll s (m.map fun p=>asN nm p.1)++lookAll s (AV.idss (first++as++caps)),killM (asN nm) m m'++killM (asN nm) m' m,renM (asN nm) m',o.dst,res.ren (asN nm)⟩):ACall X o (.fn f first caps) as s K:=by
 subst hC;subst hP
 have mem:∀l,(look m l≠none∨look m' l≠none)→∃p∈m++m',p.1=l:=fun l hl=>by
  rcases hl with hl|hl
  ·obtain ⟨q,hq⟩:=Option.ne_none_iff_exists'.1 hl
   exact ⟨_,List.mem_append_left _ (aV hq),rfl⟩
  ·obtain ⟨q,hq⟩:=Option.ne_none_iff_exists'.1 hl
   exact ⟨_,List.mem_append_right _ (aV hq),rfl⟩
 obtain ⟨la,h1,h2,h3⟩:=uK (K:=K) hX (asN nm) (lookAll s (m.map fun p=>asN nm p.1)++lookAll s (AV.idss (first++as++caps))) hs ho hc hf has
  (fun p hp=>by rcases List.mem_append.1 hp with h|h<;>exact dR s _ p h)
  (fun p hp=>(hm p hp).imp (fun h=>List.mem_append_left _ h) (fun ⟨cells,h1,h2⟩=>⟨cells,h1,List.mem_append_left _ h2⟩)) hnm wh fG sw
  (fun l l' hl hl' h=>by
    obtain ⟨p,hp,rfl⟩:=mem l hl
    obtain ⟨q,hq,rfl⟩:=mem l' hl'
    exact hinj p hp q hq h) hnew hro FM Dq zG
  (fun s' E a w hmm hE vals hv=>by
    show AVrs w (E.pre (asN nm)) as' vals
    rw [cl]
    exact gV (E':=E) ⟨aM.refl _ _,fun _ _=>rfl,fun _ _=>rfl⟩
     (fun a x v Fg hr=>xW (fun l o hl=>hE.good.obj _ _ (hmm (l,o) (List.mem_append_right _ (aV hl)))) a x v Fg hr) x9 hv) hK
 exact ⟨la,h1,h2,h3⟩
end Go.Ab
end
section
namespace Go.Ab
theorem kI {X:Ctx} {o:Oper} {s:ASt} {K:LA→Prop} (hX:X.Ok) {C:Cfg} (hC:X.C=C) {P:Program} (hP:X.P=P) {c:Call} {fo:Operand} {f:Nat} {first caps HE HF:List AV} {ob:AObj} (d:Nat)
 (hs:Spec P f (Args HF) [] (.ref 10000) [(10000,ob)]) (ho:o.op= .call c) (hc:c.callee= .value fo) (hf:aev C 0 s fo= .fn f first caps) (has:evA C s c.args.toList c.argTypes.toList=HE)
 (x9:cvts (fun a x=>rdX C (fun _=>false) true (reach s 3 (AV.idss (first++HE++caps))) 4 a=some x) (first++HE++caps) HF)
 (zg:∃e sz rows,ob= .own e sz rows∧∀r∈rows,∀x∈r,∃v,x=D.sc v) (hd:o.dst=some d) (hdl:d<10000)
 (hK:K ⟨rsOf s (fo::c.args.toList),reach s 3 (AV.idss (first++HE++caps)), [(d,none)], [(d,ob)],some d, .ref d⟩):ACall X o (.fn f first caps) HE s K:=by
 subst hC;subst hP
 refine ⟨_,⟨hd.symm, ?_⟩,⟨aD s _,kH s _ _⟩,hK⟩
 rintro s' a w hdn gG ⟨E,hE⟩
 have hfo:=hE.evs gG.1 X.C 0 (x:=fo) (by simp)
 rw [hf] at hfo
 obtain ⟨us,vs,hfo,jy,uL⟩:=hfo
 have hargs:=mC (s:=s) hE c.args.toList c.argTypes.toList (fun p hp=>gG.1 p (by cases fo<;>simp [rsOf,hp]))
 rw [has] at hargs
 have sx:AVrs w E (first++HE++caps) (us++c.args.toList.map a.eval++vs):=(jy.append hargs).append uL
 obtain ⟨fn,cd,hfn,hname,hbody⟩:=hs.can
 have hrun:(execOp a.eval o).run X.P w= .ok (.enter f (us++c.args.toList.map a.eval++vs).toArray) w:=by
  have h1:us.toArray++c.args.map a.eval++vs.toArray=(us++c.args.toList.map a.eval++vs).toArray:=by
   apply Array.toList_inj.1;simp
  have h2:=dn (P:=X.P) hfn hname hbody (us.toArray++c.args.map a.eval++vs.toArray) w
  rw [h1] at h2
  simp only [execOp,ho,resolve,hc,hfo,Deferred.ofValue,Sem.run_bind,Sem.run_pure,Result.andThen_ok,invoke]
  rw [h1];exact h2
 have ig:∀l,bK [] l=none:=fun l=>by unfold bK;split<;>rfl
 have yb:aM w E.z w (fun b=>max (E.z b) (cx w b)):=fun b=>⟨Nat.le_max_left _ _,fun _ _=>rfl⟩
 have sy:Good [] ⟨E.ρ,E.σ,fun b=>max (E.z b) (cx w b)⟩ w:=by
  refine ⟨fun l h=>by simp [look] at h,fun l l' b h=>by simp [ig] at h,fun l o h=>by simp [ig] at h,fun b hb=> ?_⟩
  simp [hE.good.fresh b hb,cx,Array.getElem?_eq_none hb]
 have hA:AVrs w ⟨E.ρ,E.σ,fun b=>max (E.z b) (cx w b)⟩ HF (us++c.args.toList.map a.eval++vs):=
  gV (E':=⟨E.ρ,E.σ,fun b=>max (E.z b) (cx w b)⟩) ⟨yb,fun _ _=>rfl,fun _ _=>rfl⟩ (fun a x v Fg hr=>ot hE.good yb (fun l o b _ _ _ _=>Nat.le_max_right _ _) (sO (fun l o hl=>gG.2 _ (aV hl)) Fg) hr) x9 sx
 unfold Oper.wp
 rw [hrun]
 refine (hs.calls _ w _ sy hA).mono ?_
 rintro e w' ⟨v,E',rfl,hst,hg',uM,hres⟩
 have hheap:∀b,b<w.heap.size→w'.heap[b]? =w.heap[b]? :=fun b hb=>(hst.frame b hb (by rintro ⟨l,o,hl,_⟩;simp [ig] at hl)).1
 obtain ⟨e0,sz,rows,rfl,hfl⟩:=zg
 have DP:bK [(10000,AObj.own e0 sz rows)] 10000=some (.own e0 sz rows):=by rw [dO (by omega)];simp [look]
 have jG:=hg'.jI 10000 _ DP
 have yf:∀b,E'.ρ 10000=some b→w.heap.size≤b:=fun b hb=>by
  rcases uM 10000 _ b DP rfl hb with h|⟨l,q,hl,_⟩
  ·exact h
  ·simp [ig] at hl
 obtain ⟨E2,hρ,hσ,HC,HD,FV,BO⟩:∃E2:Env,(∀l,l≠d→E2.ρ l=E.ρ l)∧(∀l,l≠d→E2.σ l=E.σ l)∧E2.ρ d=E'.ρ 10000∧E2.σ d=E'.σ 10000∧(∀b,b<w.heap.size→E2.z b=E.z b)∧(∀b,w.heap.size≤b→E2.z b=E'.z b):=
  ⟨⟨fun l=>if l=d then E'.ρ 10000 else E.ρ l,fun l=>if l=d then E'.σ 10000 else E.σ l,fun b=>if b<w.heap.size then E.z b else E'.z b⟩,fun l h=>by simp [h],fun l h=>by simp [h],by simp,by simp,fun b h=>by simp [h],fun b h=>by simp [show ¬b<w.heap.size by omega]⟩
 have cz:∀l,kl [(d,(none:Option D))] l=if d=l then some none else none:=fun l=>by simp only [kl]
 have hlk:∀l,look [(d,AObj.own e0 sz rows)] l=if d=l then some (.own e0 sz rows) else none:=fun l=>by simp only [look]
 refine ⟨E2,hd ▸ hE.app' ⟨rsOf s (fo::c.args.toList),reach s 3 (AV.idss (first++HE++caps)), [(d,none)], [(d, .own e0 sz rows)],some d, .ref d⟩ E2 w' v (fun b=> ?_) hst.os hst.tape hst.output hst.size (fun l hl=> ?_) (fun l x hl=> ?_) (fun l hl=> ?_) (fun l hl=> ?_) (fun l q hl=> ?_) (fun b hb=> .inl ⟨hheap b hb,FV b hb⟩) (fun l q hl=> ?_) (fun l l' b hl hl' _ _=> ?_) (fun l b hl hb=> ?_) (fun b hb=> ?_) ?_ (fun k hk=>hdn k (hd ▸ hk))⟩
 ·by_cases hb:b<w.heap.size
  ·exact ⟨by rw [FV b hb];exact Nat.le_refl _,fun o _=>cell?_of_heap (hheap b hb) o⟩
  ·have:=hE.good.fresh b (by omega)
   exact ⟨by omega,fun o ho=>by omega⟩
 ·have:l≠d:=fun e=>by subst e;simp [kl] at hl
  exact ⟨hρ l this,hσ l this⟩
 ·simp only [cz] at hl;split at hl<;>simp at hl
 ·have:l≠d:=fun e=>by
   subst e
   have:=hX.low l hl
   omega
  exact ⟨hρ l this,hσ l this⟩
 ·simp only [cz] at hl
  split at hl
  ·omega
  ·exact absurd rfl hl
 ·simp only [hlk] at hl
  split at hl
  ·cases hl;exact ⟨by omega,rfl⟩
  ·cases hl
 ·simp only [hlk] at hl
  split at hl
  ·rename_i he;subst he
   cases hl
   obtain ⟨g1,g2,g3⟩:=jG
   refine ⟨g1,g2, ?_⟩
   rcases g3 with ⟨h1,h2,h3⟩|⟨b,cur,cap,h1,h2,h3,h4,h5,h6,h7,h8⟩
   ·exact .inl ⟨by rw [HC];exact h1,h2,by rw [HD];exact h3⟩
   ·refine .inr ⟨b,cur,cap,by rw [HC];exact h1,h2,by rw [HD];exact h3,h4,h5,h6,by rw [BO b (yf b h1)];exact h7,fun i j r x hi hj=> ?_⟩
    obtain ⟨v,hv,hx⟩:=h8 i j r x hi hj
    obtain ⟨u,rfl⟩:=hfl r (List.mem_of_getElem? hi) x (List.mem_of_getElem? hj)
    cases hx with
    |sc _ h=>exact ⟨_,hv, .sc _ h⟩
  ·cases hl
 ·simp only [hlk] at hl hl'
  split at hl
  ·rename_i he;split at hl'
   ·rename_i he';rw [← he, ← he']
   ·exact absurd rfl hl'
  ·exact absurd rfl hl
 ·simp only [hlk] at hl
  split at hl
  ·rename_i he;subst he
   rw [HC] at hb;exact .inl (yf b hb)
  ·exact absurd rfl hl
 ·rw [BO b (Nat.le_trans hst.size hb)];exact hg'.fresh b hb
 ·exact ⟨by rw [HD];exact hres.1,hres.2⟩
end Go.Ab
end
