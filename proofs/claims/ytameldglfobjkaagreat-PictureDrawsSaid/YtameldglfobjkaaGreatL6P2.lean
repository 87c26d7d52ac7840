/- A part of the proof. -/
import Derived.Laws.StructEq
import Derived.Test.YtameldglfobjkaaGreatL6P1
set_option linter.unusedSimpArgs false
set_option linter.unusedVariables false
section
namespace Go.Ab
theorem Kb{s s':ASt} :∀ {xs:List Operand},(∀p∈rsOf s xs,get s'.t p.1=p.2)->∀t, .tmp t∈xs->get s'.t t=get s.t t
 | [],_,_,hm=>by cases hm
 |x::xs,h,t,hm=>by
  cases hm with
  |head=>exact h (t,get s.t t) (by simp[rsOf])
  |tail _ hm=>
   refine Kb (xs:=xs) (fun p hp=>h p ?_) t hm
   cases x<;>simp[rsOf,hp]
theorem Kc{C:Cfg}{ty:Nat}{s s':ASt}{xs:List Operand}(h:∀p∈rsOf s xs,get s'.t p.1=p.2){x:Operand}(hx:x∈xs):aev C ty s' x=aev C ty s x:=by
 cases x with
 |tmp t=>exact Kb h t hx
 |const v=>rfl
 |global g=>rfl
 |func f=>rfl
theorem RZ{C:Cfg}{w:World}{E:Env}(ty:Nat)(v:Value):cG w E (cst C ty v) v:=by
 unfold cst
 split
 ·split
  ·rfl
  ·trivial
 ·exact .sc _ rfl
 ·exact .sc _ rfl
 ·exact .sc _ rfl
 ·exact .sc _ rfl
 ·trivial
theorem bh.ev{X:Ctx}{E:Env}{s:ASt}{a:Act}{w:World}(h:bh X E s a w)(C:Cfg)(ty:Nat)(x:Operand):cG w E (aev C ty s x) (a.eval x):=by
 cases x with
 |tmp t=>exact h.slot t
 |const v=>exact RZ ty v
 |global g=>trivial
 |func f=>exact⟨[], [],rfl,rfl,rfl⟩
theorem bh.evs{X:Ctx}{E:Env}{s s':ASt}{a:Act}{w:World}(h:bh X E s' a w){xs:List Operand}(hs:∀p∈rsOf s xs,get s'.t p.1=p.2)(C:Cfg)(ty:Nat){x:Operand}(hx:x∈xs):cG w E (aev C ty s x) (a.eval x):=by
 rw[<- Kc hs hx];exact h.ev C ty x
theorem aH(s:ASt):∀(xs:List Operand),∀p∈rsOf s xs,get s.t p.1=p.2
 | [],_,h=>by cases h
 |x::xs,p,h=>by
  cases x<;>simp only[rsOf]at h
  case tmp t=>
   rcases adv.1 h with rfl|h
   ·rfl
   ·exact aH s xs p h
  all_goals exact aH s xs p h
theorem aN.val{X:Ctx}{o:Oper}{rs:List (Nat × AV)}{ms:List (Nat × AObj)}{v:AV}
 (h:∀s E a w,Sat ⟨rs,ms, [], [],o.dst,v⟩ s->bh X E s a w->∃v',(execOp a.eval o).run X.P w= .ok (.value v') w/\cG w E v v'):
 aN X o ⟨rs,ms, [], [],o.dst,v⟩:=by
 refine⟨rfl, ?_⟩
 rintro s a w hd hs ⟨E,hE⟩
 obtain⟨v',hr,hv⟩:=h s E a w hs hE
 unfold Oper.wp
 rw[hr]
 exact⟨E,hE.app ⟨rs,ms, [], [],o.dst,v⟩ E w v' (aK.refl _ _) rfl rfl rfl (adg _) (fun l _=>⟨rfl,rfl⟩) (fun l x hl=>by simp[kl]at hl)
  (fun l _=>⟨rfl,rfl⟩) (fun l hl=>absurd rfl hl) (fun l o hl=>by simp[look]at hl) (fun b _=> .inl ⟨rfl,rfl⟩) (fun l o hl=>by simp[look]at hl) (fun l l' hl=>absurd rfl hl) (fun l b hl=>absurd rfl hl) (fun b hb=>hE.good.fresh b hb) hv hd⟩
section
variable {X:Ctx} {o:Oper} {s:ASt} {K:LA->Prop}
theorem bN{w:World}{E:Env}{v:Value}{k:IntKind}{n:Int}(h:cG w E (.d (.sc (.int k n))) v):v= .int k n:=by cases h;rfl
theorem dM{w:World}{E:Env}{v u:Value}(h:cG w E (.d (.sc u)) v):v=u:=by cases h;rfl
theorem cQ{w:World}{E:Env}(u:Value)(h:u.oneCell'=true):cG w E (.d (.sc u)) u:= .sc u h
theorem Ke{x:Operand}(ho:o.op= .move x\/o.op= .assign x)(h:vcOp X X.C o s K):∃la,aN X o la/\Sat la s/\K la:=by
 have hK:K ⟨rsOf s [x], [], [], [],o.dst,aev X.C o.type s x⟩:=by rcases ho with ho|ho<;>simpa only[vcOp,ho]using h
 refine⟨_,aN.val fun s' E a w hs hE=>⟨a.eval x, ?_,hE.evs hs.1 _ _ (by simp)⟩,⟨aH s _,by simp⟩,hK⟩
 rcases ho with ho|ho<;>simp[execOp,ho]
theorem R2{c x y:Operand}(ho:o.op= .pick c x y)(h:vcOp X X.C o s K):∃la,aN X o la/\Sat la s/\K la:=by
 simp only[vcOp,ho]at h
 split at h
 ·rename_i t ht
  cases t with
  |true=>
   refine⟨_,aN.val fun s' E a w hs hE=>⟨a.eval x, ?_,hE.evs hs.1 _ _ (by simp)⟩,⟨aH s _,by simp⟩,h.1 rfl⟩
   have hc:=hE.evs hs.1 X.C 4 (x:=c) (by simp)
   rw[ht]at hc
   simp[execOp,ho,dM hc,asBool]
  |false=>
   refine⟨_,aN.val fun s' E a w hs hE=>⟨a.eval y, ?_,hE.evs hs.1 _ _ (by simp)⟩,⟨aH s _,by simp⟩,h.2 rfl⟩
   have hc:=hE.evs hs.1 X.C 4 (x:=c) (by simp)
   rw[ht]at hc
   simp[execOp,ho,dM hc,asBool]
 ·exact h.elim
theorem o7{n:Int}(h:InR n):IntKind.i64.wrap n=n:=by
 obtain⟨h1,h2⟩:=h
 rw[IntKind.wrap_i64];omega
theorem Og(a:Int):(BitVec.ofInt 64 a &&& BitVec.ofInt 64 65535).toNat=(a % 65536).toNat:=by
 have h1:(65535:Nat)=2 ^ 16 - 1:=by decide
 have h2:(BitVec.ofInt 64 65535).toNat=65535:=by decide
 rw[BitVec.toNat_and,h2,h1,Nat.and_two_pow_sub_one_eq_mod,BitVec.toNat_ofInt]
 have:((a % (2 ^ 64:Nat)).toNat:Int)=a % 18446744073709551616:=by
  rw[afj (Int.emod_nonneg _ (by decide))];rfl
 omega
theorem Uz{op:BinOp}{xt yt:Nat}{x y:Operand}(ho:o.op= .binOp op xt x y yt){p q:Int}(hx:aev X.C xt s x= .d (.sc (.int .i64 p)))(hy:aev X.C xt s y= .d (.sc (.int .i64 q)))
 (h:vcInt op p q fun v=>K ⟨rsOf s [x,y], [], [], [],o.dst,v⟩):∃la,aN X o la/\Sat la s/\K la:=by
 have key:∀v':Value,v'.oneCell'=true->(∀w,(binOp op xt (.int .i64 p) (.int .i64 q)).run X.P w= .ok v' w)->K ⟨rsOf s [x,y], [], [], [],o.dst, .d (.sc v')⟩->∃la,aN X o la/\Sat la s/\K la:=by
  intro v' h1 hr hK
  refine⟨_,aN.val fun s' E a w hs hE=>⟨v', ?_,cQ _ h1⟩,⟨aH s _,by simp⟩,hK⟩
  have ex:=hE.evs hs.1 X.C xt (x:=x) (by simp)
  have ey:=hE.evs hs.1 X.C xt (x:=y) (by simp)
  rw[hx]at ex;rw[hy]at ey
  simp only[execOp,ho,dM ex,dM ey,Sem.run_bind]
  have hg:(eqGuard op xt x y (.int .i64 p) (.int .i64 q)).run X.P w= .ok () w:=by cases op<;>simp[eqGuard]
  rw[hg]
  simp[hr]
 unfold vcInt at h
 cases op<;>simp only at h<;>first|exact h.elim|skip
 case add=>exact key _ rfl (fun w=>by simp[binOp,Op.intArith,o7 h.1]) h.2
 case sub=>exact key _ rfl (fun w=>by simp[binOp,Op.intArith,o7 h.1]) h.2
 case mul=>exact key _ rfl (fun w=>by simp[binOp,Op.intArith,o7 h.1]) h.2
 case quo=>exact key _ rfl (fun w=>by simp[binOp,Op.intDiv,h.1,o7 h.2.1]) h.2.2
 case rem=>exact key _ rfl (fun w=>by simp[binOp,Op.intDiv,h.1]) h.2
 case eql=>exact key _ rfl (fun w=>by simp[binOp,Op.intCmp];rw[ad0];simp) h
 case neq=>exact key _ rfl (fun w=>by simp[binOp,Op.intCmp];rw[ad0];simp) h
 case lss=>exact key _ rfl (fun w=>by simp[binOp,Op.intCmp]) h
 case leq=>exact key _ rfl (fun w=>by simp[binOp,Op.intCmp]) h
 case gtr=>exact key _ rfl (fun w=>by simp[binOp,Op.intCmp]) h
 case geq=>exact key _ rfl (fun w=>by simp[binOp,Op.intCmp]) h
 case and=>
  obtain⟨rfl,h⟩:=h
  refine key _ rfl (fun w=> ?_) h
  have:=Og p
  have hm:IntKind.i64.wrap ((BitVec.ofInt 64 p &&& BitVec.ofInt 64 65535).toNat:Int)=p % 65536:=by
   rw[this,o7 (by constructor<;>omega)];omega
  simp[binOp,Op.intBits]
  exact hm
theorem vm{a:Int}(h:InU a):(BitVec.ofInt 64 a).toNat=a.toNat:=by
 obtain⟨h1,h2⟩:=h
 rw[BitVec.toNat_ofInt]
 have:a % ((2 ^ 64:Nat):Int)=a:=Int.emod_eq_of_lt h1 (by simpa using h2)
 rw[this]
theorem Oh{a:Int}(h:InU a):BitVec.ofInt 64 a=BitVec.ofNat 64 a.toNat:=by
 apply BitVec.eq_of_toNat_eq
 rw[vm h,BitVec.toNat_ofNat,aeB]
 obtain⟨h1,h2⟩:=h
 omega
theorem DU(b:BitVec 64):IntKind.u64.wrap (b.toNat:Int)=(b.toNat:Int):=by
 have:IntKind.u64.wrap (b.toNat:Int)=(b.toNat:Int) % 18446744073709551616:=by simp[IntKind.wrap,IntKind.bits,IntKind.signed]
 rw[this,Int.emod_eq_of_lt (by omega)]
 have:=b.isLt
 omega
theorem ZO{op:BinOp}{xt yt:Nat}{x y:Operand}(ho:o.op= .binOp op xt x y yt){p q:Int}(hx:aev X.C xt s x= .d (.sc (.int .u64 p)))(hy:aev X.C xt s y= .d (.sc (.int .u64 q)))
 (h:vcU op p q fun v=>K ⟨rsOf s [x,y], [], [], [],o.dst,v⟩):∃la,aN X o la/\Sat la s/\K la:=by
 have key:∀v':Value,v'.oneCell'=true->(∀w,(binOp op xt (.int .u64 p) (.int .u64 q)).run X.P w= .ok v' w)->K ⟨rsOf s [x,y], [], [], [],o.dst, .d (.sc v')⟩->∃la,aN X o la/\Sat la s/\K la:=by
  intro v' h1 hr hK
  refine⟨_,aN.val fun s' E a w hs hE=>⟨v', ?_,cQ _ h1⟩,⟨aH s _,by simp⟩,hK⟩
  have ex:=hE.evs hs.1 X.C xt (x:=x) (by simp)
  have ey:=hE.evs hs.1 X.C xt (x:=y) (by simp)
  rw[hx]at ex;rw[hy]at ey
  simp only[execOp,ho,dM ex,dM ey,Sem.run_bind]
  have hg:(eqGuard op xt x y (.int .u64 p) (.int .u64 q)).run X.P w= .ok () w:=by cases op<;>simp[eqGuard]
  rw[hg]
  simp[hr]
 unfold vcU at h
 cases op<;>simp only at h<;>first|exact h.elim|skip
 case or=>
  obtain⟨⟨h1,h2⟩,h⟩:=h
  refine key _ rfl (fun w=> ?_) h
  have e:=DU (BitVec.ofInt 64 p ||| BitVec.ofInt 64 q)
  rw[BitVec.toNat_or,vm h1,vm h2]at e
  simp[binOp,Op.intBits]
  rw[<- e, <- vm h1, <- vm h2];rfl
 case and=>
  obtain⟨⟨h1,h2⟩,h⟩:=h
  refine key _ rfl (fun w=> ?_) h
  have e:=DU (BitVec.ofInt 64 p &&& BitVec.ofInt 64 q)
  rw[BitVec.toNat_and,vm h1,vm h2]at e
  simp[binOp,Op.intBits]
  rw[<- e, <- vm h1, <- vm h2];rfl
 case andNot=>
  obtain⟨⟨h1,h2⟩,h⟩:=h
  refine key _ rfl (fun w=> ?_) h
  have e:=DU (BitVec.ofInt 64 p &&& ~~~BitVec.ofInt 64 q)
  rw[<- Oh h1, <- Oh h2, <- e]
  rfl
 case eql=>exact key _ rfl (fun w=>by simp[binOp,Op.intCmp];rw[ad0];simp) h
 case neq=>exact key _ rfl (fun w=>by simp[binOp,Op.intCmp];rw[ad0];simp) h
theorem W8{op:BinOp}{xt yt:Nat}{x y:Operand}(ho:o.op= .binOp op xt x y yt){p q:Int}(hx:aev X.C xt s x= .d (.sc (.int .u64 p)))(hy:aev X.C xt s y= .d (.sc (.int .i64 q)))
 (h:vcSh op p q fun v=>K ⟨rsOf s [x,y], [], [], [],o.dst,v⟩):∃la,aN X o la/\Sat la s/\K la:=by
 have key:∀v':Value,v'.oneCell'=true->(∀w,(binOp op xt (.int .u64 p) (.int .i64 q)).run X.P w= .ok v' w)->K ⟨rsOf s [x,y], [], [], [],o.dst, .d (.sc v')⟩->∃la,aN X o la/\Sat la s/\K la:=by
  intro v' h1 hr hK
  refine⟨_,aN.val fun s' E a w hs hE=>⟨v', ?_,cQ _ h1⟩,⟨aH s _,by simp⟩,hK⟩
  have ex:=hE.evs hs.1 X.C xt (x:=x) (by simp)
  have ey:=hE.evs hs.1 X.C xt (x:=y) (by simp)
  rw[hx]at ex;rw[hy]at ey
  simp only[execOp,ho,dM ex,dM ey,Sem.run_bind]
  have hg:(eqGuard op xt x y (.int .u64 p) (.int .i64 q)).run X.P w= .ok () w:=by cases op<;>simp[eqGuard]
  rw[hg]
  simp[hr]
 unfold vcSh at h
 cases op<;>simp only at h<;>first|exact h.elim|skip
 case shl=>
  obtain⟨⟨⟨h1,CO⟩,h2,h3⟩,h⟩:=h
  refine key _ rfl (fun w=> ?_) h
  have e1:min q.toNat IntKind.u64.bits=q.toNat:=agq (by show q.toNat<=64;omega)
  have e2:¬q<0:=by omega
  have e3:IntKind.u64.wrap (p*2 ^ q.toNat)=((p.toNat <<< q.toNat % 18446744073709551616:Nat):Int):=by
   have:IntKind.u64.wrap (p*2 ^ q.toNat)=(p*2 ^ q.toNat) % 18446744073709551616:=by simp[IntKind.wrap,IntKind.bits,IntKind.signed]
   rw[this,Nat.shiftLeft_eq]
   have hp:p=(p.toNat:Int):=by omega
   conv=>lhs;rw[hp]
   simp
  simp only[binOp,Op.shift,ac7 e2,e1,e3]
  simp
 case shr=>
  obtain⟨⟨⟨h1,CO⟩,h2,h3⟩,h⟩:=h
  refine key _ rfl (fun w=> ?_) h
  have e1:min q.toNat IntKind.u64.bits=q.toNat:=agq (by show q.toNat<=64;omega)
  have e2:¬q<0:=by omega
  have e3:p.fdiv (2 ^ q.toNat)=((p.toNat >>> q.toNat:Nat):Int):=by
   rw[Nat.shiftRight_eq_div_pow]
   have hp:p=(p.toNat:Int):=by omega
   conv=>lhs;rw[hp]
   rw[Int.fdiv_eq_ediv_of_nonneg _ (by exact ahc (Int.pow_pos (by decide)))]
   simp
  simp only[binOp,Op.shift,ac7 e2,e1,e3]
  simp
end
section
variable {X:Ctx} {o:Oper} {s:ASt} {K:LA->Prop}
theorem uq{w:World}{E:Env} :∀ {xs ys:List AV} {e:Bool} {us vs:List Value},eqInts xs ys=some e->AVrs w E xs us->AVrs w E ys vs->
 ∃as bs:List Int,us=as.map (Value.int .i64)/\vs=bs.map (Value.int .i64)/\as.length=xs.length/\bs.length=xs.length/\e=decide (as=bs)
 | [], [],e,us,vs,h,hx,hy=>by
   simp only[AVrs]at hx hy
   simp only[eqInts,ady]at h
   exact⟨[], [],by simp[hx],by simp[hy],rfl,rfl,by simp[<- h]⟩
 | [],y::ys,e,us,vs,h,_,_=>by simp[eqInts]at h
 |x::xs, [],e,us,vs,h,_,_=>by simp[eqInts]at h
 |x::xs,y::ys,e,us,vs,h,hx,hy=>by
  obtain⟨u,us',rfl,h1,h2⟩:=hx
  obtain⟨v,vs',rfl,h3,h4⟩:=hy
  unfold eqInts at h
  split at h
  ·rename_i UA W9;cases UA
  ·rename_i a r b q UA W9
   cases UA;cases W9
   split at h
   ·rename_i e' he'
    obtain⟨as,bs,r1,r2,r3,r4,r5⟩:=uq he' h2 h4
    refine⟨a::as,b::bs,by simp[bN h1,r1],by simp[bN h3,r2],by simp[r3],by simp[r4], ?_⟩
    cases h
    subst r5
    rw[ad0];simp
   ·cases h
  ·cases h
theorem Kf{x:AV}{p:Bool}(h:boOf x=some p):x= .d (.sc (.bool p)):=by
 unfold boOf at h
 split at h
 ·cases h;rfl
 ·cases h
theorem Oi{w:World}{E:Env}{xs ys:List AV}{e:Bool}{us vs:List Value}(h:eqBI xs ys=some e)(hx:AVrs w E xs us)(hy:AVrs w E ys vs):
 ∃(p q:Bool) (as bs:List Int),us=Value.bool p::as.map (Value.int .i64)/\vs=Value.bool q::bs.map (Value.int .i64)/\as.length+1=xs.length/\bs.length+1=xs.length/\e=((p==q)&&decide (as=bs)):=by
 unfold eqBI at h
 split at h
 ·rename_i x xs y ys
  obtain⟨u,us',rfl,h1,h2⟩:=hx
  obtain⟨v,vs',rfl,h3,h4⟩:=hy
  split at h
  ·rename_i p q e' hp hq he'
   cases h
   obtain⟨as,bs,r1,r2,r3,r4,r5⟩:=uq he' h2 h4
   rw[Kf hp]at h1
   rw[Kf hq]at h3
   refine⟨p,q,as,bs,by rw[r1,dM h1],by rw[r2,dM h3],by simp[r3],by simp[r4],by rw[r5]⟩
  ·cases h
 ·cases h
section
variable {P:Program} (w:World) (t:TypeId)
theorem tN{e:TypeId}(hu:P.underlying t=some (.slice e))(d:Nat)(ao:Option Addr)(n c:Nat):
 (Op.equalIn (d+1) t (.slice ao n c) (.slice none 0 0)).run P w= .ok ao.isNone w:=by
 cases ao<;>simp[Op.equalIn,run_underlying hu]
theorem FE{e:TypeId}(hu:P.underlying t=some (.pointer e))(d:Nat)(ao:Option Addr):
 (Op.equalIn (d+1) t (.pointer ao) (.pointer none)).run P w= .ok ao.isNone w:=by
 cases ao<;>simp[Op.equalIn,run_underlying hu]
theorem DV(hu:P.underlying t=some .bool)(d:Nat)(a b:Bool):
 (Op.equalIn (d+1) t (.bool a) (.bool b)).run P w= .ok (a==b) w:=by
 simp[Op.equalIn,run_underlying hu]
theorem zL(x y:Value)(b:Bool)(hi:(∃a n c,x= .slice a n c)\/(∃a,x= .pointer a/\y= .pointer none)\/∃a,x= .bool a)(h:(Op.equalIn 10000 t x y).run P w= .ok b w):
 (binOp .eql t x y).run P w= .ok (.bool b) w/\(binOp .neq t x y).run P w= .ok (.bool (!b)) w:=by
 have h':(Op.equal t x y).run P w= .ok b w:=h
 rcases hi with ⟨a,n,c,rfl⟩|⟨a,rfl,rfl⟩|⟨a,rfl⟩<;>constructor<;>simp only[binOp]<;>simp[h']
end
theorem TS{op:BinOp}{neg:Bool}(hop:(op= .eql/\neg=false)\/(op= .neq/\neg=true))(hX:X.Ok){xt yt:Nat}{x y:Operand}(ho:o.op= .binOp op xt x y yt)
 (h:vcEq X.C xt s neg (aev X.C xt s x) (aev X.C xt s y) fun ms v=>K ⟨rsOf s [x,y],ms, [], [],o.dst,v⟩):∃la,aN X o la/\Sat la s/\K la:=by
 have key:∀(ms:List (Nat × AObj)) (b:Bool),(∀p∈ms,look s.m p.1=some p.2)->
  (∀(s':ASt) (E:Env) (a:Act) (w:World),Sat ⟨rsOf s [x,y],ms, [], [],o.dst, .d (.sc (.bool (neg ^^ b)))⟩ s'->bh X E s' a w->
    (eqGuard op xt x y (a.eval x) (a.eval y)).run X.P w= .ok () w/\(binOp op xt (a.eval x) (a.eval y)).run X.P w= .ok (.bool (neg ^^ b)) w)->
  K ⟨rsOf s [x,y],ms, [], [],o.dst, .d (.sc (.bool (neg ^^ b)))⟩->∃la,aN X o la/\Sat la s/\K la:=by
  intro ms b CP hr hK
  refine⟨_,aN.val fun s' E a w hs hE=>⟨.bool (neg ^^ b), ?_,cQ _ rfl⟩,⟨aH s _,CP⟩,hK⟩
  obtain⟨r1,r2⟩:=hr s' E a w hs hE
  simp only[execOp,ho,Sem.run_bind,r1,r2,Result.andThen_ok,Sem.run_pure]
 have ksl:∀(ms:List (Nat × AObj)) (p:Prop),neg=false->isSlT (X.C.T xt)->(∀p∈ms,look s.m p.1=some p.2)->
  (∀(s':ASt) (E:Env) (a:Act) (w:World),Sat ⟨rsOf s [x,y],ms, [], [],o.dst, .jE p⟩ s'->bh X E s' a w->
    ∃ao n c,a.eval x= .slice ao n c/\(ao.isNone=true->p)/\a.eval y= .slice none 0 0)->
  K ⟨rsOf s [x,y],ms, [], [],o.dst, .jE p⟩->∃la,aN X o la/\Sat la s/\K la:=by
  intro ms p hneg ht CP hr hK
  subst hneg
  have ZP:op= .eql:=by rcases hop with ⟨h1,_⟩|⟨_,h2⟩;exact h1;cases h2
  subst ZP
  have hu:∃e,X.P.underlying xt=some (.slice e):=by
   unfold isSlT at ht
   split at ht
   ·rename_i e sz iu zc hT;exact⟨e,(hX.C.T _ _ hT).2⟩
   ·exact ht.elim
  obtain⟨e,hu⟩:=hu
  refine⟨_,aN.val fun s' E a w hs hE=> ?_,⟨aH s _,CP⟩,hK⟩
  obtain⟨ao,n,c,e1,e2,e3⟩:=hr s' E a w hs hE
  refine⟨.bool ao.isNone, ?_,ao.isNone,rfl,e2⟩
  have h1:=(zL w xt _ _ _ (.inl ⟨ao,n,c,rfl⟩) (tN (P:=X.P) w xt hu 9999 ao n c)).1
  have h2:(eqGuard .eql xt x y (.slice ao n c) (.slice none 0 0)).run X.P w= .ok () w:=by simp[eqGuard]
  simp only[execOp,ho,e1,e3,Sem.run_bind,h1,h2,Result.andThen_ok,Sem.run_pure]
 have Wp:∀(b:Bool),isPtT (X.C.T xt)->
  (∀(s':ASt) (E:Env) (a:Act) (w:World),Sat ⟨rsOf s [x,y], [], [], [],o.dst, .d (.sc (.bool (neg ^^ b)))⟩ s'->bh X E s' a w->
    ∃ao,a.eval x= .pointer ao/\(ao.isNone=b)/\a.eval y= .pointer none)->
  K ⟨rsOf s [x,y], [], [], [],o.dst, .d (.sc (.bool (neg ^^ b)))⟩->∃la,aN X o la/\Sat la s/\K la:=by
  intro b ht hr hK
  refine key [] b (by simp) (fun s' E a w hs hE=> ?_) hK
  obtain⟨ao,e1,e2,e3⟩:=hr s' E a w hs hE
  have hu:∃e,X.P.underlying xt=some (.pointer e):=by
   unfold isPtT at ht
   split at ht
   ·rename_i e sz iu zc hT;exact⟨e,(hX.C.T _ _ hT).2⟩
   ·exact ht.elim
  obtain⟨e,hu⟩:=hu
  rw[e1,e3]
  refine⟨by rcases hop with ⟨rfl,rfl⟩|⟨rfl,rfl⟩<;>simp[eqGuard], ?_⟩
  subst e2
  have:=zL w xt _ _ _ (.inr (.inl ⟨ao,rfl,rfl⟩)) (FE (P:=X.P) w xt hu 9999 ao)
  rcases hop with ⟨rfl,rfl⟩|⟨rfl,rfl⟩
  ·simpa using this.1
  ·simpa using this.2
 have hx:∀ {s':ASt} {E:Env} {a:Act} {w:World} {ms:List (Nat × AObj)} {v:AV},Sat ⟨rsOf s [x,y],ms, [], [],o.dst,v⟩ s'->bh X E s' a w->cG w E (aev X.C xt s x) (a.eval x):=fun hs hE=>hE.evs hs.1 _ _ (by simp)
 have hy:∀ {s':ASt} {E:Env} {a:Act} {w:World} {ms:List (Nat × AObj)} {v:AV},Sat ⟨rsOf s [x,y],ms, [], [],o.dst,v⟩ s'->bh X E s' a w->cG w E (aev X.C xt s y) (a.eval y):=fun hs hE=>hE.evs hs.1 _ _ (by simp)
 generalize aev X.C xt s x=ax at*
 generalize aev X.C xt s y=ay at*
 unfold vcEq at h
 split at h
 ·rename_i a b
  obtain⟨ht,hK⟩:=h
  refine key [] (a==b) (by simp) (fun s' E ac w hs hE=> ?_) hK
  rw[dM (hx hs hE),dM (hy hs hE)]
  refine⟨by rcases hop with ⟨rfl,rfl⟩|⟨rfl,rfl⟩<;>simp[eqGuard], ?_⟩
  have hu:X.P.underlying xt=some .bool:=by
   unfold isBoT at ht
   split at ht
   ·rename_i sz iu zc hT;exact(hX.C.T _ _ hT).2
   ·exact ht.elim
  have:=zL w xt _ _ _ (.inr (.inr ⟨a,rfl⟩)) (DV (P:=X.P) w xt hu 9999 a b)
  rcases hop with ⟨rfl,rfl⟩|⟨rfl,rfl⟩
  ·simpa using this.1
  ·simpa using this.2
 ·rename_i xs ys
  split at h
  ·rename_i hn
   split at h
   ·rename_i e he
    obtain⟨hl,hK⟩:=h
    refine key [] e (by simp) (fun s' E ac w hs hE=> ?_) hK
    obtain⟨us,e1,r1⟩:=hx hs hE
    obtain⟨vs,e2,r2⟩:=hy hs hE
    obtain⟨p,q,as,bs,rfl,rfl,l1,l2,rfl⟩:=Oi he r1 r2
    obtain⟨g1,g2⟩:=hX.C.HZ _ _ hn
    rw[e1,e2]
    refine⟨run_eqGuard_agg w op xt x y _ _ g1, ?_⟩
    have:=g2 w p q as bs (by omega) (by omega)
    rcases hop with ⟨rfl,rfl⟩|⟨rfl,rfl⟩
    ·rw[run_eql_struct,this];simp
    ·rw[run_neq_struct,this];simp
   ·exact h.elim
  ·rename_i n hn
   split at h
   ·rename_i e he
    obtain⟨hl,hK⟩:=h
    refine key [] e (by simp) (fun s' E ac w hs hE=> ?_) hK
    obtain⟨us,e1,r1⟩:=hx hs hE
    obtain⟨vs,e2,r2⟩:=hy hs hE
    obtain⟨as,bs,rfl,rfl,l1,l2,rfl⟩:=uq he r1 r2
    obtain⟨g1,g2⟩:=hX.C.HZ _ _ hn
    rw[e1,e2]
    refine⟨run_eqGuard_agg w op xt x y _ _ g1, ?_⟩
    have:=(g2 w as bs (l1.trans hl) (l2.trans hl)).1
    rcases hop with ⟨rfl,rfl⟩|⟨rfl,rfl⟩
    ·rw[run_eql_struct,this];simp
    ·rw[run_neq_struct,this];simp
   ·exact h.elim
  ·exact h.elim
 ·obtain⟨ht,hK⟩:=h
  refine key [] true (by simp) (fun s' E a w hs hE=> ?_) hK
  have hu:∃e,X.P.underlying xt=some (.slice e):=by
   unfold isSlT at ht
   split at ht
   ·rename_i e sz iu zc hT;exact⟨e,(hX.C.T _ _ hT).2⟩
   ·exact ht.elim
  obtain⟨e,hu⟩:=hu
  have e1:=hx hs hE;have e2:=hy hs hE
  simp only[cG]at e1 e2
  rw[e1,e2]
  have h1:=zL w xt _ _ _ (.inl ⟨none,0,0,rfl⟩) (tN (P:=X.P) w xt hu 9999 none 0 0)
  refine⟨by rcases hop with ⟨rfl,rfl⟩|⟨rfl,rfl⟩<;>simp[eqGuard], ?_⟩
  rcases hop with ⟨rfl,rfl⟩|⟨rfl,rfl⟩
  ·simpa using h1.1
  ·simpa using h1.2
 ·obtain⟨⟨hn,ht⟩,hK⟩:=h
  refine ksl [] _ hn ht (by simp) (fun s' E a w hs hE=> ?_) hK
  have e1:=hx hs hE
  have e2:=hy hs hE
  simp only[cG]at e1 e2
  generalize a.eval x=vx at e1
  cases e1 with
  |nil p=>exact⟨p,0,0,rfl,fun _=>rfl,e2⟩
  |sl b off n cap sz rows vs h1 h2 h3 h4 h5 h6=>exact⟨_,_,_,rfl,fun h=>by simp at h,e2⟩
 ·rename_i l e
  have fin:∀(q:AObj) (rows:List (List D)),(look s.m l=some q)->(∀w E,bF w E l q->∃ao n c,E.σ l= .slice ao n c/\(ao.isNone=true->rows= []))->(neg=false/\isSlT (X.C.T xt))->K ⟨rsOf s [x,y], [(l,q)], [], [],o.dst, .jE (rows= [])⟩->
   ∃la,aN X o la/\Sat la s/\K la:=by
   intro q rows hq hr ⟨hn,ht⟩ hK
   refine ksl [(l,q)] _ hn ht (by simp[hq]) (fun s' E a w hs hE=> ?_) hK
   have e1:=hx hs hE
   have e2:=hy hs hE
   simp only[cG]at e1 e2
   obtain⟨ao,n,c,h1,h2⟩:=hr w E (hE.good.obj l q (hs.2 (l,q) (by simp)))
   exact⟨ao,n,c,e1.1.trans h1,h2,e2⟩
  split at h
  ·rename_i e' sz rows hq
   refine fin _ rows hq (fun w E ho=> ?_) h.1 h.2
   obtain⟨_,_,⟨_,h1,p,h2⟩|⟨b,cur,cap,_,_,h1,_⟩⟩:=ho
   ·exact⟨p,0,0,h2,fun _=>h1⟩
   ·exact⟨_,_,_,h1,fun h=>by simp at h⟩
  ·rename_i e' sz rows hq
   refine fin _ rows hq (fun w E ho=> ?_) h.1 h.2
   obtain⟨_,_,⟨_,h1,p,h2⟩|⟨b,cur,cap,_,_,h1,_⟩⟩:=ho
   ·exact⟨p,0,0,h2,fun _=>h1⟩
   ·exact⟨_,_,_,h1,fun h=>by simp at h⟩
  ·exact h.elim
 ·obtain⟨ht,hK⟩:=h
  refine Wp false ht (fun s' E a w hs hE=> ?_) hK
  obtain⟨b,hb,e1⟩:=hx hs hE
  exact⟨_,e1,rfl,dM (hy hs hE)⟩
 ·obtain⟨ht,hK⟩:=h
  refine Wp false ht (fun s' E a w hs hE=> ?_) hK
  have e1:=hx hs hE
  simp only[cG]at e1
  generalize a.eval x=vx at e1
  cases e1 with
  |pt b off cells vs hz hc hr=>exact⟨_,rfl,rfl,dM (hy hs hE)⟩
 ·obtain⟨ht,hK⟩:=h
  exact Wp true ht (fun s' E a w hs hE=>⟨none,dM (hx hs hE),rfl,dM (hy hs hE)⟩) hK
 ·exact h.elim
end
theorem AVrs.length{w:World}{E:Env}{as:List AV}{us:List Value}(h:AVrs w E as us):us.length=as.length:=(dW.1 h).1
theorem AVrs.get{w:World}{E:Env}{as:List AV}{us:List Value}(h:AVrs w E as us){i:Nat}{a:AV}(ha:as[i]? =some a):∃u,us[i]? =some u/\cG w E a u:=by
 obtain⟨h1,h2⟩:=dW.1 h
 have hi:i<us.length:=by rw[h1];exact(adh.1 ha).1
 exact⟨us[i],acF hi,h2 i a _ ha (acF hi)⟩
theorem AVrs.drop{w:World}{E:Env}{as:List AV}{us:List Value}(h:AVrs w E as us)(n:Nat):AVrs w E (as.drop n) (us.drop n):=by
 obtain⟨h1,h2⟩:=dW.1 h
 exact dW.2 ⟨by simp[h1],fun i a u ha hu=>h2 (n+i) a u (by simpa using ha) (by simpa using hu)⟩
theorem AVrs.take{w:World}{E:Env}{as:List AV}{us:List Value}(h:AVrs w E as us)(n:Nat):AVrs w E (as.take n) (us.take n):=by
 obtain⟨h1,h2⟩:=dW.1 h
 refine dW.2 ⟨by simp[h1],fun i a u ha hu=> ?_⟩
 rw[adD]at ha hu
 split at ha
 ·rename_i hi;simp only[hi,if_true]at hu;exact h2 i a u ha hu
 ·cases ha
theorem AVrs.append{w:World}{E:Env} :∀ {as bs:List AV} {us vs:List Value},AVrs w E as us->AVrs w E bs vs->AVrs w E (as++bs) (us++vs)
 | [],_,_,_,h,k=>by simp only[AVrs]at h;subst h;exact k
 |a::as,_,_,_,h,k=>by
  obtain⟨u,us',rfl,h1,h2⟩:=h
  exact⟨u,us'++_,rfl,h1,AVrs.append h2 k⟩
theorem bG.size{P:Program}{t:Nat}{ti:TI}(h:bG P t ti):(P.info? t).map (·.size)=some ti.sz:=by
 obtain⟨⟨i,z,h1,h2,_⟩,_⟩:=h
 simp[h1,h2]
theorem xT{P:Program}(w:World)(t b q:Nat)(v:Value){d:TypeDesc}(hu:P.underlying t=some d)(hd:d.isRow=false)(hc:w.cell? ⟨b,q,none⟩=some v):
 (Instr.loadAt t (.pointer (some ⟨b,q,none⟩))).run P w= .ok v w:=by
 have hagg:(isAgg t).run P w= .ok false w:=by
  unfold isAgg
  rw[Sem.run_bind,run_underlying hu w]
  cases d<;>simp_all[TK.isRow]
 simp[Instr.loadAt,Instr.sureAddr,loadVar,hagg,hc]
theorem bG.desc{P:Program}{t:Nat}{ti:TI}(h:bG P t ti):∃d,P.underlying t=some d/\d.isRow=ti.k.isRow:=by
 obtain⟨k,sz,iu,zc⟩:=ti
 obtain⟨_,h⟩:=h
 cases k<;>simp only at h
 case sc=>
  obtain⟨d,h1,h2⟩:=h
  refine⟨d,h1, ?_⟩
  cases d<;>simp_all[TK.isRow]
 case st fs=>
  obtain⟨fs,h1,h2⟩:=h
  exact⟨_,h1,rfl⟩
 case mp k e=>exact⟨_,h.1,rfl⟩
 all_goals exact⟨_,h,rfl⟩
theorem rZ{P:Program}{t:Nat}{T:Option TI}(hT:∀ti,T=some ti->bG P t ti){cells:List AV}{q:Nat}{K:AV->Prop}(h:vcLoad T cells q K):
 ∃av,K av/\∀(w:World) (E:Env) (b base:Nat) (vs:List Value),AVrs w E cells vs->(∀j v,vs[j]? =some v->w.cell? ⟨b,base+j,none⟩=some v)->
  ∃v,(Instr.loadAt t (.pointer (some ⟨b,base+q,none⟩))).run P w= .ok v w/\cG w E av v:=by
 have wide:∀ti,T=some ti->ti.k.isRow=true->q+ti.sz<=cells.length->K (.agg ((cells.drop q).take ti.sz))->∃av,K av/\∀(w:World) (E:Env) (b base:Nat) (vs:List Value),AVrs w E cells vs->(∀j v,vs[j]? =some v->w.cell? ⟨b,base+j,none⟩=some v)->
  ∃v,(Instr.loadAt t (.pointer (some ⟨b,base+q,none⟩))).run P w= .ok v w/\cG w E av v:=by
  intro ti r8 hk hle hK
  refine⟨_,hK,fun w E b base vs hr hc=> ?_⟩
  obtain⟨d,hu,hd⟩:=(hT ti r8).desc
  have hl:=hr.length
  refine⟨_,run_loadAt_mid w b (base+q) t ((vs.drop q).take ti.sz) d (fun j v hv=> ?_) hu (hd.trans hk) ?_,⟨_,rfl,(hr.drop q).take ti.sz⟩⟩
  ·rw[adD]at hv
   split at hv
   ·rw[ad3]at hv
    have:=hc _ _ hv
    rw[af3];exact this
   ·cases hv
  ·rw[(hT ti r8).size]
   simp;omega
 unfold vcLoad at h
 split at h
 ·exact wide _ rfl rfl h.1 h.2
 ·exact wide _ rfl rfl h.1 h.2
 ·rename_i ti h1 h2
  split at h
  ·rename_i v hv
   refine⟨v,h,fun w E b base vs hr hc=> ?_⟩
   obtain⟨u,hu,UB⟩:=hr.get hv
   obtain⟨d,hd,hrow⟩:=(hT ti rfl).desc
   refine⟨u,xT w t b (base+q) u hd ?_ (hc _ _ hu),UB⟩
   rw[hrow]
   obtain⟨k,sz,iu,zc⟩:=ti
   cases k<;>first|rfl|exact(h1 _ _ _ _ rfl).elim|exact(h2 _ _ _ _ _ rfl).elim
  ·exact h.elim
 ·exact h.elim
theorem Rd.R3{w:World}{E:Env}{cells:List D}{v:Value}(h:Rd w E.z v (.pt cells)):
 ∃b off,∃vs:List Value,v= .pointer (some ⟨b,off,none⟩)/\AVrs w E (cells.map .d) vs/\(∀j u,vs[j]? =some u->w.cell? ⟨b,off+j,none⟩=some u)/\off+cells.length<=E.z b:=by
 cases h with
 |pt b off _ vs hz hc hr=>
  refine⟨b,off,(List.range cells.length).map vs,rfl,dW.2 ⟨by simp,fun i a u ha hu=> ?_⟩,fun j u hu=> ?_,hz⟩
  ·simp only[adm,ad9]at ha hu
   obtain⟨x,hx,rfl⟩:=ha
   obtain⟨j,hj,rfl⟩:=hu
   have:j=i:=by
    rw[adp]at hj
    ·exact(aeU hj).symm
    ·exact(adh.1 hx).1
   subst this
   exact hr _ _ hx
  ·simp only[adm,ad9]at hu
   obtain⟨i,hi,rfl⟩:=hu
   have hlt:j<cells.length:=by have:=(adh.1 hi).1;simpa using this
   rw[adp hlt]at hi
   cases hi
   exact hc _ hlt
theorem Ap{w:World}{E:Env}{l:Nat}{cells:List AV}(h:bF w E l (.box cells)):∃b,∃vs:List Value,E.ρ l=some b/\AVrs w E cells vs/\∀j u,vs[j]? =some u->w.cell? ⟨b,j,none⟩=some u:=by
 obtain⟨b,vs,e,h1,h2,h3,h4,h5⟩:=h
 exact⟨b,vs,h1,h4,fun j u hu=>by simp[World.cell?,h2,hu]⟩
theorem rowAt{w:World}{E:Env}{b off e sz i cap:Nat}{cur:Array Value}{rows:List (List D)}(g1:∀r∈rows,r.length=sz)(h2:w.heap[b]? =some (.cells cur e (0,0)))(h4:rows.length<=cap)(h5:off+cap*sz<=cur.size)
 (h8:∀(i j:Nat) (r:List D) (x:D),rows[i]? =some r->r[j]? =some x->∃v,cur[off+(i*sz+j)]? =some v/\Rd w E.z v x) (hi:i<rows.length) (dflt:List D):
 ∃vs:List Value,AVrs w E ((rows.getD i dflt).map .d) vs/\∀j u,vs[j]? =some u->w.cell? ⟨b,off+i*sz+j,none⟩=some u:=by
 have Cr:rows[i]? =some rows[i]:=acF hi
 have hrow:rows.getD i dflt=rows[i]:=by rw[aas,Cr];rfl
 rw[hrow]
 have hlen:rows[i].length=sz:=g1 _ (ad2 hi)
 refine⟨(cur.toList.drop (off+i*sz)).take sz,dW.2 ⟨?_,fun j a u ha hu=> ?_⟩,fun j u hu=> ?_⟩
 ·simp only[adG,aeC,Array.length_toList,adn,hlen]
  have:(i+1)*sz<=cap*sz:=adF _ (by omega)
  rw[ad6]at this
  omega
 ·simp only[adm,ad9]at ha
  obtain⟨x,hx,rfl⟩:=ha
  obtain⟨v,hv,hx'⟩:=h8 i j _ x Cr hx
  rw[adD]at hu
  split at hu
  ·rw[ad3,ael,af3,hv]at hu
   cases hu
   exact hx'
  ·cases hu
 ·rw[adD]at hu
  split at hu
  ·rw[ad3,ael]at hu
   simp[World.cell?,h2,hu]
  ·cases hu
theorem ownRow{w:World}{E:Env}{l e sz i:Nat}{rows:List (List D)}(h:bF w E l (.own e sz rows))(hi:i<rows.length)(dflt:List D):
 ∃b off n cap,∃vs:List Value,E.σ l= .slice (some ⟨b,off,none⟩) n cap/\AVrs w E ((rows.getD i dflt).map .d) vs/\∀j u,vs[j]? =some u->w.cell? ⟨b,off+i*sz+j,none⟩=some u:=by
 obtain⟨g1,g2,⟨h1,h2,h3⟩|⟨b,cur,cap,h1,h2,h3,h4,h5,h6,h7,h8⟩⟩:=h
 ·subst h2;simp at hi
 ·obtain⟨vs,k1,k2⟩:=rowAt (off:=0) g1 h2 h4 (by omega) (fun i j r x hi hj=>by rw[adT];exact h8 i j r x hi hj) hi dflt
  exact⟨b,0,_,_,vs,h3,k1,k2⟩
theorem R4{w:World}{E:Env}{l e sz i:Nat}{rows:List (List D)}(h:bF w E l (.part e sz rows))(hi:i<rows.length)(dflt:List D):
 ∃b off n cap,∃vs:List Value,E.σ l= .slice (some ⟨b,off,none⟩) n cap/\AVrs w E ((rows.getD i dflt).map .d) vs/\∀j u,vs[j]? =some u->w.cell? ⟨b,off+i*sz+j,none⟩=some u:=by
 obtain⟨g1,g2,⟨h1,h2,h3⟩|⟨b,off,cur,cap,h1,h2,h3,h4,h5,h6,h7,h8⟩⟩:=h
 ·subst h2;simp at hi
 ·obtain⟨vs,k1,k2⟩:=rowAt g1 h2 h4 h5 h8 hi dflt
  exact⟨b,off,_,_,vs,h3,k1,k2⟩
section
variable {X:Ctx} {o:Oper} {s:ASt} {K:LA->Prop}
theorem R5(hX:X.Ok){t:Nat}{x:Operand}(ho:o.op= .load t x)(h:vcOp X X.C o s K):∃la,aN X o la/\Sat la s/\K la:=by
 simp only[vcOp,ho]at h
 have hT:∀ti,X.C.T t=some ti->bG X.P t ti:=fun ti h=>hX.C.T t ti h
 have hrun:∀ {a:Act} {w:World} {v:Value},(Instr.loadAt t (a.eval x)).run X.P w= .ok v w->(execOp a.eval o).run X.P w= .ok (.value v) w:=by
  intro a w v hr
  simp only[execOp,ho,Sem.run_bind,hr,Result.andThen_ok,Sem.run_pure]
 split at h
 ·
  rename_i l q hx
  split at h
  ·rename_i cells hl
   obtain⟨av,hK,hr⟩:=rZ hT h
   refine⟨_,aN.val fun s' E a w hs hE=> ?_,⟨aH s _,by simp[hl]⟩,hK⟩
   obtain⟨b,vs,h1,h2,h3⟩:=Ap (hE.good.obj l _ (hs.2 (l, .box cells) (by simp)))
   have ex:=hE.evs hs.1 X.C 0 (x:=x) (by simp)
   rw[hx]at ex
   obtain⟨b',hb',ex⟩:=ex
   rw[h1]at hb';cases hb'
   obtain⟨v,hv,FF⟩:=hr w E b 0 vs h2 (fun j u hu=>by rw[adT];exact h3 j u hu)
   rw[adT]at hv
   exact⟨v,hrun (by rw[ex];exact hv),FF⟩
  ·rename_i cells hl
   obtain⟨av,hK,hr⟩:=rZ hT h
   refine⟨_,aN.val fun s' E a w hs hE=> ?_,⟨aH s _,by simp[hl]⟩,hK⟩
   obtain⟨b,vs,h1,h2,h3⟩:=Ap (show bF w E l (.box cells) from hE.good.obj l (.rob cells) (hs.2 (l, .rob cells) (by simp)))
   have ex:=hE.evs hs.1 X.C 0 (x:=x) (by simp)
   rw[hx]at ex
   obtain⟨b',hb',ex⟩:=ex
   rw[h1]at hb';cases hb'
   obtain⟨v,hv,FF⟩:=hr w E b 0 vs h2 (fun j u hu=>by rw[adT];exact h3 j u hu)
   rw[adT]at hv
   exact⟨v,hrun (by rw[ex];exact hv),FF⟩
  ·exact h.elim
 ·rename_i cells hx
  obtain⟨av,hK,hr⟩:=rZ hT h
  refine⟨_,aN.val fun s' E a w hs hE=> ?_,⟨aH s _,by simp⟩,hK⟩
  have ex:=hE.evs hs.1 X.C 0 (x:=x) (by simp)
  rw[hx]at ex
  obtain⟨b,off,vs,h1,h2,h3,h4⟩:=Rd.R3 ex
  obtain⟨v,hv,FF⟩:=hr w E b off vs h2 h3
  exact⟨v,hrun (by rw[h1];exact hv),FF⟩
 ·rename_i l sz i q hx
  split at h
  ·rename_i e sz' rows hl
   obtain⟨⟨rfl,hi⟩,h⟩:=h
   obtain⟨av,hK,hr⟩:=rZ hT h
   refine⟨_,aN.val fun s' E a w hs hE=> ?_,⟨aH s _,by simp[hl]⟩,hK⟩
   obtain⟨b,off,n,cap,vs,h1,h2,h3⟩:=ownRow (hE.good.obj l _ (hs.2 (l, .own e sz rows) (by simp))) hi (X.C.zrow e)
   have ex:=hE.evs hs.1 X.C 0 (x:=x) (by simp)
   rw[hx]at ex
   obtain⟨b',off',n',cap',hb',ex⟩:=ex
   rw[h1]at hb';cases hb'
   obtain⟨v,hv,FF⟩:=hr w E b (off+i*sz) vs h2 h3
   exact⟨v,hrun (by rw[ex, <- Nat.add_assoc];exact hv),FF⟩
  ·rename_i e sz' rows hl
   obtain⟨⟨rfl,hi⟩,h⟩:=h
   obtain⟨av,hK,hr⟩:=rZ hT h
   refine⟨_,aN.val fun s' E a w hs hE=> ?_,⟨aH s _,by simp[hl]⟩,hK⟩
   obtain⟨b,off,n,cap,vs,h1,h2,h3⟩:=R4 (hE.good.obj l _ (hs.2 (l, .part e sz rows) (by simp))) hi (X.C.zrow e)
   have ex:=hE.evs hs.1 X.C 0 (x:=x) (by simp)
   rw[hx]at ex
   obtain⟨b',off',n',cap',hb',ex⟩:=ex
   rw[h1]at hb';cases hb'
   obtain⟨v,hv,FF⟩:=hr w E b (off+i*sz) vs h2 h3
   exact⟨v,hrun (by rw[ex, <- Nat.add_assoc];exact hv),FF⟩
  ·rename_i e' e sz' rows hh hl
   obtain⟨⟨rfl,rfl,hi,hho,ht⟩,hK⟩:=h
   refine⟨_,aN.val fun s' E a w hs hE=> ?_,⟨aH s _,by simp[hl]⟩,hK⟩
   obtain⟨b,cur,cap,h1,h2,h3,h4,h5,h6,h7,h8⟩:=hE.good.obj l _ (hs.2 (l, .nest e' e sz' rows hh) (by simp))
   have ex:=hE.evs hs.1 X.C 0 (x:=x) (by simp)
   rw[hx]at ex
   obtain⟨b',off',n',cap',hb',ex⟩:=ex
   rw[h3]at hb';cases hb'
   obtain⟨c1,c2⟩:=h8 i hi hho
   unfold isSlT at ht
   split at ht
   ·rename_i e2 sz2 by2 zc2 H6
    obtain⟨d,hd,hrow⟩:=(hT _ H6).desc
    refine⟨_,hrun ?_,rfl,c2⟩
    rw[ex]
    exact xT w t b _ _ hd (by rw[hrow];rfl) (by simp[World.cell?,h2,c1])
   ·exact ht.elim
  ·rename_i e rows hh g hl
   obtain⟨⟨rfl,rfl,rfl,ht⟩,hK⟩:=h
   refine⟨_,aN.val fun s' E a w hs hE=> ?_,⟨aH s _,by simp[hl]⟩,hK⟩
   obtain⟨g1,g2,b,cur,cap,h1,h2,h3,h4,h5,h6,h7,h8,h9⟩:=hE.good.obj l _ (hs.2 (l, .orh e rows i (some g)) (by simp))
   have ex:=hE.evs hs.1 X.C 0 (x:=x) (by simp)
   rw[hx]at ex
   obtain⟨b',off',n',cap',hb',ex⟩:=ex
   rw[h3]at hb';cases hb'
   obtain⟨c1,c2⟩:=h9 g rfl
   unfold isSlT at ht
   split at ht
   ·rename_i e2 sz2 by2 zc2 H6
    obtain⟨d,hd,hrow⟩:=(hT _ H6).desc
    refine⟨_,hrun ?_,rfl,c2⟩
    rw[ex]
    exact xT w t b _ _ hd (by rw[hrow];rfl) (by simp[World.cell?,h2,c1])
   ·exact ht.elim
  ·exact h.elim
 ·exact h.elim
theorem R6{op:UnOp}{xt:Nat}{x:Operand}(ho:o.op= .unOp op xt x)(h:vcOp X X.C o s K):∃la,aN X o la/\Sat la s/\K la:=by
 simp only[vcOp,ho]at h
 split at h
 ·rename_i b hb
  refine⟨_,aN.val fun s' E a w hs hE=>⟨.bool (!b), ?_,cQ _ rfl⟩,⟨aH s _,by simp⟩,h⟩
  have ex:=hE.evs hs.1 X.C xt (x:=x) (by simp)
  rw[hb]at ex
  simp[execOp,ho,dM ex,Op.unary]
 ·rename_i n hb
  refine⟨_,aN.val fun s' E a w hs hE=>⟨.int .i64 (-n), ?_,cQ _ rfl⟩,⟨aH s _,by simp⟩,h.2⟩
  have ex:=hE.evs hs.1 X.C xt (x:=x) (by simp)
  rw[hb]at ex
  have:IntKind.i64.wrap (0 - n)= -n:=by rw[Int.zero_sub];exact o7 h.1
  simp[execOp,ho,dM ex,Op.unary,Op.intArith]
  simpa using this
 ·exact h.elim
theorem FG{x:Operand}(ho:o.op= .nilCheck x)(h:vcOp X X.C o s K):∃la,aN X o la/\Sat la s/\K la:=by
 simp only[vcOp,ho]at h
 have fin:∀ {av:AV},aev X.C 0 s x=av->(∀w E v,cG w E av v->∃ad,v= .pointer (some ad))->K ⟨rsOf s [x], [], [], [],o.dst,av⟩->∃la,aN X o la/\Sat la s/\K la:=by
  intro av FF hp hK
  refine⟨_,aN.val fun s' E a w hs hE=> ?_,⟨aH s _,by simp⟩,hK⟩
  have ex:=hE.evs hs.1 X.C 0 (x:=x) (by simp)
  rw[FF]at ex
  obtain⟨ad,hv⟩:=hp w E _ ex
  refine⟨a.eval x, ?_,ex⟩
  rw[hv]
  simp[execOp,ho,hv]
 split at h
 ·rename_i l q hx;exact fin hx (fun w E v hv=>by obtain⟨b,_,rfl⟩:=hv;exact⟨_,rfl⟩) h
 ·rename_i cells hx;exact fin hx (fun w E v hv=>by cases hv;exact⟨_,rfl⟩) h
 ·rename_i l sz i q hx;exact fin hx (fun w E v hv=>by obtain⟨b,off,n,cap,_,rfl⟩:=hv;exact⟨_,rfl⟩) h
 ·exact h.elim
theorem Ij{x:Operand}{i:Nat}(ho:o.op= .extract x i)(h:vcOp X X.C o s K):∃la,aN X o la/\Sat la s/\K la:=by
 simp only[vcOp,ho]at h
 split at h
 ·rename_i vs hx
  split at h
  ·rename_i v hv
   refine⟨_,aN.val fun s' E a w hs hE=> ?_,⟨aH s _,by simp⟩,h⟩
   have ex:=hE.evs hs.1 X.C 0 (x:=x) (by simp)
   rw[hx]at ex
   obtain⟨us,e1,e2⟩:=ex
   obtain⟨u,hu,hr⟩:=e2.get hv
   exact⟨u,by simp[execOp,ho,e1,Instr.extract,hu],hr⟩
  ·exact h.elim
 ·exact h.elim
theorem Ik(hX:X.Ok){t' t:Nat}{x:Operand}(ho:o.op= .convert t' t x)(h:vcOp X X.C o s K):∃la,aN X o la/\Sat la s/\K la:=by
 simp only[vcOp,ho]at h
 split at h
 ·rename_i ti sz iu zc n UC hT hx
  obtain⟨hn,hK⟩:=h
  obtain⟨d,hd,_⟩:=(hX.C.T _ _ UC).desc
  have hu:=(hX.C.T _ _ hT).2
  simp only at hu
  refine⟨_,aN.val fun s' E a w hs hE=>⟨.int .i64 n, ?_,cQ _ rfl⟩,⟨aH s _,by simp⟩,hK⟩
  have ex:=hE.evs hs.1 X.C t (x:=x) (by simp)
  rw[hx]at ex
  have:(convert t' t (.int .i64 n)).run X.P w= .ok (.int .i64 n) w:=by
   unfold convert
   rw[Sem.run_bind,run_underlying hd,Result.andThen_ok,Sem.run_bind,run_underlying hu,Result.andThen_ok]
   simp[Conv.intToInt,o7 hn]
  simp only[execOp,ho,dM ex,Sem.run_bind,this,Result.andThen_ok,Sem.run_pure]
 ·exact h.elim
end
theorem cG.one{w:World}{E:Env}{a:AV}{v:Value}(h:cG w E a v)(ha:a.isOne=true):v.oneCell'=true:=by
 cases a<;>simp only[AV.isOne,aec]at ha<;>simp only[cG]at h
 case nil e=>subst h;rfl
 case d x=>exact h.one
 case ref l=>have h2:=h.2;unfold kN at h2;split at h2;rfl;exact h2.elim
 case ptr l o=>obtain⟨b,_,rfl⟩:=h;rfl
 case ep l sz i o=>obtain⟨b,off,n,cap,_,rfl⟩:=h;rfl
 case emp e=>obtain⟨p,rfl⟩:=h;rfl
 case vw l sz a=>obtain⟨b,off,n,cap,_,_,rfl⟩:=h;rfl
 case fn f first caps=>obtain⟨us,vs,rfl,_⟩:=h;rfl
 case mref l=>obtain⟨b,_,rfl⟩:=h;rfl
theorem cells_one{v:Value}(h:v.oneCell'=true):v.cells= #[v]:=by
 cases v<;>first|rfl|simp[Value.oneCell']at h
theorem cG.cells{w:World}{E:Env}{a:AV}{v:Value}(h:cG w E a v)(ha:a.fit=true):AVrs w E (avCells a) v.cells.toList:=by
 have one:a.isOne=true->avCells a= [a]->AVrs w E (avCells a) v.cells.toList:=by
  intro h1 h2
  rw[h2,cells_one (h.one h1)]
  exact⟨v, [],rfl,h,rfl⟩
 cases a<;>simp only[AV.fit]at ha
 case agg vs=>obtain⟨us,rfl,h⟩:=h;simpa[avCells,Value.cells]using h
 all_goals exact one ha rfl
theorem foldl_set(off:Nat):∀(us:List Value) (k:Nat) (cs:Array Value),off+k+us.length<=cs.size->
 ((us.zipIdx k).foldl (fun cs (x:Value × Nat)=>cs.setIfInBounds (off+x.2) x.1) cs).toList=cs.toList.take (off+k)++us++cs.toList.drop (off+k+us.length)
 | [],k,cs,_=>by simp
 |u::us,k,cs,h=>by
  simp only[List.zipIdx_cons,List.foldl_cons,List.length_cons]at h ⊢
  rw[foldl_set off us (k+1) (cs.setIfInBounds (off+k) u) (by simp;omega)]
  simp only[Array.toList_setIfInBounds]
  have h1:(cs.toList.set (off+k) u).take (off+(k+1))=cs.toList.take (off+k)++ [u]:=by
   rw[show off+(k+1)=off+k+1 from by omega,ad1,List.take_set_of_le (by omega),af7 (by simp;omega)]
   rfl
  have h2:(cs.toList.set (off+k) u).drop (off+(k+1)+us.length)=cs.toList.drop (off+k+(us.length+1)):=by
   rw[List.drop_set_of_lt (by omega)];congr 1;omega
  rw[h1,h2];simp
theorem Kg{w:World}{E:Env}{pl:Nat->Option (Nat × Nat)} :∀ {ps:List (Nat × AV)} {vs:List (Nat × Value)} {cells cells':List AV} {us:List Value},
 fillAV pl cells ps=some cells'->AVrs w E cells us->vs.map (·.1)=ps.map (·.1)->AVrs w E (ps.map (·.2)) (vs.map (·.2))->
 ∃us':List Value,Instr.fill pl us.toArray vs=some us'.toArray/\AVrs w E cells' us'
 | [],vs,cells,cells',us,h,hc,hi,hv=>by
   have:vs= []:=by simpa using hi
   subst this
   simp only[fillAV,ady]at h
   subst h
   exact⟨us,rfl,hc⟩
 |(i,a)::ps,vs,cells,cells',us,h,hc,hi,hv=>by
  cases vs with
  |nil=>simp at hi
  |cons p vs=>
   obtain⟨i',v⟩:=p
   simp only[adC,adA]at hi
   obtain⟨rfl,hi⟩:=hi
   obtain⟨v',us',he,h1,h2⟩:=hv
   simp only[adC,adA]at he
   obtain⟨rfl,rfl⟩:=he
   unfold fillAV at h
   cases hp:pl i' with
   |none=>simp[hp]at h
   |some q=>
    obtain⟨off,size⟩:=q
    simp only[hp]at h
    split at h
    ·rename_i Xa
     obtain⟨g1,g2,g3⟩:=Xa
     have hcell:=h1.cells g1
     have hl:=hcell.length
     simp only[Array.length_toList]at hl
     have hus:=hc.length
     have YY:AVrs w E (over cells off (avCells a)) (us.take off++v.cells.toList++us.drop (off+v.cells.size)):=by
      unfold over
      rw[show off+v.cells.size=off+(avCells a).length from by rw[hl]]
      exact((hc.take _).append hcell).append (hc.drop _)
     obtain⟨us',f1,f2⟩:=Kg h YY hi h2
     refine⟨us', ?_,f2⟩
     unfold Instr.fill
     simp only[hp]
     rw[ac7 (by simp only[aed,hl,g2];simp;omega)]
     rw[<- f1]
     congr 1
     apply adW.1
     rw[<- Array.foldl_toList,Array.toList_zipIdx]
     have:=foldl_set off v.cells.toList 0 us.toArray (by simp;omega)
     simpa using this
    ·cases h
theorem Cfg.Oj{C:Cfg}{t:Nat}{ti:TI}(h:C.T t=some ti):C.sz t=ti.sz:=by simp[Cfg.sz,h]
theorem yH{P:Program}{C:Cfg}(hC:C.Ok P):∀(fields:List Field),allF C (fields.map fun f=>(f.offset,f.type))->
 fields.mapM (fun f=>(P.info? f.type).map fun i=>(f.offset,i.size))=some (fields.map fun f=>(f.offset,C.sz f.type))
 | [],_=>rfl
 |f::fs,h=>by
  simp only[adC,allF]at h
  obtain⟨h1,h2⟩:=h
  split at h1
  ·rename_i ti hT
   obtain⟨⟨i,z,e1,e2,_⟩,_⟩:=hC.T _ _ hT
   have ih:=yH hC fs h2
   simp only[ag4,e1,Option.map_some,ih,adC,C.Oj hT, <- e2]
   rfl
  ·exact h1.elim
theorem mS(C:Cfg)(ti:TI)(s:ASt):∀ps:List (Nat × Operand),(evParts C ti s ps).map (·.1)=ps.map (·.1)
 | []=>rfl
 |(i,x)::r=>by simp[evParts,mS C ti s r]
section
variable {X:Ctx} {o:Oper} {s:ASt} {K:LA->Prop}
theorem qz{E:Env}{s s':ASt}{a:Act}{w:World}(hE:bh X E s' a w)(ti:TI):∀(ps:List (Nat × Operand)),(∀p∈rsOf s (partOps ps),get s'.t p.1=p.2)->
 AVrs w E ((evParts X.C ti s ps).map (·.2)) ((ps.map fun p=>(p.1,a.eval p.2)).map (·.2))
 | [],_=>rfl
 |(i,x)::r,h=>by
  have h1:cG w E (aev X.C (match ti.k with| .st fs=>(match fs[i]? with|some (_,t)=>t|none=>0)| .ar _ e=>e| .sl e=>e|_=>0) s x) (a.eval x):=hE.evs h _ _ (by simp[partOps])
  refine⟨_,_,rfl,h1,qz hE ti r fun p hp=>h p ?_⟩
  cases x<;>simp[partOps,rsOf,hp]
theorem lQ{P:Program}{t:Nat}{ti:TI}(h:bG P t ti)(w:World)(E:Env):∃i z,P.info? t=some i/\i.zero=some z/\z.cells.size=ti.sz/\AVrs w E ti.zc z.cells.toList/\∀v∈z.cells.toList,v.oneCell'=true:=by
 obtain⟨⟨i,z,h1,h2,h3,h4,h5,h6,h7⟩,_⟩:=h
 refine⟨i,z,h1,h4, ?_, ?_, ?_⟩
 ·rw[<- Array.length_toList,h5];simpa using h7
 ·rw[h5]
  have:∀l:List AV,(∀a∈l,a.cv.oneCell'=true)->AVrs w E l (l.map AV.cv):=by
   intro l
   induction l with
   |nil=>intro _;rfl
   |cons a l ih=>
    intro hl
    refine⟨_,_,rfl, ?_,ih fun b hb=>hl b (by simp[hb])⟩
    have ha:=hl a (by simp)
    unfold AV.cv at ha ⊢
    split at ha
    ·rfl
    ·exact .sc _ ha
    ·simp[Value.oneCell']at ha
  exact this _ h6
 ·rw[h5]
  intro v hv
  obtain⟨a,ha,rfl⟩:=ada.1 hv
  exact h6 a ha
theorem Ol(hX:X.Ok){t:Nat}{parts:Array (Nat × Operand)}(ho:o.op= .build t parts)(h:vcOp X X.C o s K):∃la,aN X o la/\Sat la s/\K la:=by
 simp only[vcOp,ho]at h
 split at h
 ·rename_i ti hT
  obtain⟨hall,h⟩:=h
  split at h
  ·rename_i cells hf
   refine⟨_,aN.val fun s' E a w hs hE=> ?_,⟨aH s _,by simp⟩,h⟩
   obtain⟨i,z,e1,e2,e3,e4,_⟩:=lQ (hX.C.T _ _ hT) w E
   have hp:=qz (s:=s) hE ti parts.toList hs.1
   obtain⟨us',f1,f2⟩:=Kg (vs:=parts.toList.map fun p=>(p.1,a.eval p.2)) hf e4 (by rw[mS];simp[Function.comp_def]) hp
   refine⟨.agg us'.toArray, ?_,⟨us',rfl,f2⟩⟩
   have hb:X.P.built t (parts.map fun (i,x)=>(i,a.eval x)).toList=some us'.toArray:=by
    have hparts:(parts.map fun (i,x)=>(i,a.eval x)).toList=parts.toList.map fun p=>(p.1,a.eval p.2):=by simp
    rw[hparts]
    have hu:=(hX.C.T _ _ hT).2
    obtain⟨k,sz,iu,zc⟩:=ti
    unfold Program.built
    cases k<;>simp only[allT]at hall<;>simp only at hu
    case st fs=>
     obtain⟨fields,hu,NR⟩:=hu
     have dI:=yH hX.C fields.toList (by rw[NR];exact hall)
     simp only[e1,hu,e2,dI]
     rw[<- f1]
     have:(fun x=>(fields.toList.map fun f=>(f.offset,X.C.sz f.type)).toArray[x]?)=place X.C ⟨.st fs,sz,iu,zc⟩:=by
      funext x
      simp only[place, <- NR]
      simp only[aeq,adm]
      cases fields.toList[x]? <;>rfl
     rw[this]
    case ar n e=>
     split at hall
     ·rename_i te NS
      obtain⟨⟨ie,ze,g1,g2,_⟩,_⟩:=hX.C.T _ _ NS
      simp only[e1,hu,e2,g1]
      rw[<- f1]
      have:(fun i=>some (i*ie.size,ie.size))=place X.C ⟨.ar n e,sz,iu,zc⟩:=by
       funext x
       simp only[place,X.C.Oj NS,g2]
      rw[this]
     ·exact hall.elim
   simp only[execOp,ho,Sem.run_bind,run_build w t _ _ hb,Result.andThen_ok,Sem.run_pure]
  ·exact h.elim
 ·exact h.elim
theorem FH{f:Nat}{first captured:Array Operand}(ho:o.op= .makeFunc (.func f) first captured)(h:vcOp X X.C o s K):∃la,aN X o la/\Sat la s/\K la:=by
 simp only[vcOp,ho]at h
 refine⟨⟨rsOf s (first.toList++captured.toList), [], [], [],o.dst, .fn f (Ab.evs X.C 0 s first.toList) (Ab.evs X.C 0 s captured.toList)⟩,aN.val fun s' E a w hs hE=>⟨.func (.func f) (first.map a.eval) (captured.map a.eval), ?_,⟨first.toList.map a.eval,captured.toList.map a.eval,by rw[<- Array.toList_map, <- Array.toList_map], ?_, ?_⟩⟩,⟨aH s _,by simp⟩,h⟩
 ·simp[execOp,ho,Instr.makeFunc]
 all_goals
  have:∀l:List Operand,(∀x∈l,x∈first.toList++captured.toList)->AVrs w E (Ab.evs X.C 0 s l) (l.map a.eval):=by
   intro l
   induction l with
   |nil=>intro _;rfl
   |cons x l ih=>intro hl;exact⟨_,_,rfl,hE.evs hs.1 _ _ (hl x (by simp)),ih fun y hy=>hl y (by simp[hy])⟩
  exact this _ fun x hx=>by simp[hx]
theorem Aq{P:Program}(w:World)(b q:Nat)(f:Field){i:TypeInfo}(hi:P.info? f.type=some i)(hz:i.size≠0):
 (fieldPlace ⟨b,q,none⟩ f).run P w= .ok ⟨b,q+f.offset,none⟩ w:=by
 simp[fieldPlace,sizeOf,typeInfo,hi,hz,Addr.add_mid]
theorem DW(hX:X.Ok){st f:Nat}{x:Operand}(ho:o.op= .fieldAddr st x f)(h:vcOp X X.C o s K):∃la,aN X o la/\Sat la s/\K la:=by
 simp only[vcOp,ho]at h
 split at h
 ·rename_i fs sz iu zc hT
  split at h
  ·rename_i off ft hf
   obtain⟨hz,h⟩:=h
   have hrun:∀(a:Act) (w:World) (b q:Nat),a.eval x= .pointer (some ⟨b,q,none⟩)->(execOp a.eval o).run X.P w= .ok (.value (.pointer (some ⟨b,q+off,none⟩))) w:=by
    intro a w b q hx
    obtain⟨fields,hu,NR⟩:=(hX.C.T _ _ hT).2
    rw[<- NR,adm]at hf
    obtain⟨fl,hfl,heq⟩:=ad9.1 hf
    cases heq
    have UC:∃ti,X.C.T fl.type=some ti/\ti.sz≠0:=by
     unfold Cfg.sz at hz
     split at hz
     ·rename_i ti r8;exact⟨ti,r8,hz⟩
     ·exact absurd rfl hz
    obtain⟨ti,r8,ZQ⟩:=UC
    obtain⟨⟨i,z,e1,e2,_⟩,_⟩:=hX.C.T _ _ r8
    have vo:fields[f]? =some fl:=by simpa using hfl
    have hp:=Aq (P:=X.P) w b q fl e1 (by rw[e2];exact ZQ)
    simp[execOp,ho,hx,Instr.fieldAt,run_underlying hu,vo,Instr.sureAddr,hp]
   split at h
   ·rename_i l q hx
    refine⟨_,aN.val fun s' E a w hs hE=> ?_,⟨aH s _,by simp⟩,h⟩
    have ex:=hE.evs hs.1 X.C 0 (x:=x) (by simp)
    rw[hx]at ex
    obtain⟨b,hb,ex⟩:=ex
    exact⟨_,hrun a w b q ex,⟨b,hb,rfl⟩⟩
   ·rename_i cells hx
    obtain⟨hle,hK⟩:=h
    refine⟨_,aN.val fun s' E a w hs hE=> ?_,⟨aH s _,by simp⟩,hK⟩
    have ex:=hE.evs hs.1 X.C 0 (x:=x) (by simp)
    rw[hx]at ex
    simp only[cG]at ex
    generalize hv:a.eval x=vx at ex
    cases ex with
    |pt b q _ vs hz hc hr=>
     refine⟨_,hrun a w b q hv, .pt b (q+off) _ (fun k=>vs (off+k)) (by simp;omega) (fun k hk=> ?_) (fun j d hj=> ?_)⟩
     ·rw[af3];exact hc _ (by simp at hk;omega)
     ·exact hr _ _ (by simpa using hj)
   ·rename_i l sz' i q hx
    refine⟨_,aN.val fun s' E a w hs hE=> ?_,⟨aH s _,by simp⟩,h⟩
    have ex:=hE.evs hs.1 X.C 0 (x:=x) (by simp)
    rw[hx]at ex
    obtain⟨b,off',n,cap,hb,ex⟩:=ex
    exact⟨_,hrun a w b _ ex,⟨b,off',n,cap,hb,by congr 3;omega⟩⟩
   ·exact h.elim
  ·exact h.elim
 ·exact h.elim
end
theorem qA{w:World}{E:Env}{l e sz:Nat}{rows:List (List D)}(h:bF w E l (.tip e sz rows)):Rd w E.z (E.σ l) (.sl sz rows):=by
 obtain⟨g1,g2,⟨h1,h2,p,h3⟩|⟨b,cur,cap,h1,h2,h3,h4,h5,h6,h7,h8⟩⟩:=h
 ·rw[h3,h2];exact .nil p sz
 ·rw[h3]
  have hin:∀k,k<rows.length*sz->k<cur.size:=fun k hk=>by
   have:=adF sz h4
   omega
  refine .sl b 0 rows.length cap sz rows (fun k=>cur.getD k undef) rfl g1 (by omega) h4 (fun k hk=> ?_) (fun i j r x hi hj=> ?_)
  ·have:=hin k hk
   simp[World.cell?,h2,adX this]
  ·obtain⟨v,hv,hx⟩:=h8 i j r x hi hj
   have:cur.getD (i*sz+j) undef=v:=by simp[hv]
   rw[this];exact hx
theorem Om{w:World}{E:Env}{sz:Nat}{rows:List (List D)}{v:Value}(h:Rd w E.z v (.sl sz rows)):∃a c,v= .slice a rows.length c/\rows.length<=c:=by
 cases h with
 |nil p=>exact⟨p,0,rfl,adg _⟩
 |sl b off n cap _ _ vs hn hsz hz hcap hc hr=>subst hn;exact⟨_,cap,rfl,hcap⟩
theorem UD{w:World}{E:Env}{l e sz:Nat}{rows:List (List D)}(h:bF w E l (.own e sz rows)):∃a c,E.σ l= .slice a rows.length c:=by
 obtain⟨g1,g2,⟨h1,h2,p,h3⟩|⟨b,cur,cap,h1,h2,h3,_⟩⟩:=h
 ·subst h2;exact⟨p,0,h3⟩
 ·exact⟨_,cap,h3⟩
theorem R7{w:World}{E:Env}{l e sz:Nat}{rows:List (List D)}(h:bF w E l (.part e sz rows)):∃a c,E.σ l= .slice a rows.length c:=by
 obtain⟨g1,g2,⟨h1,h2,p,h3⟩|⟨b,off,cur,cap,h1,h2,h3,_⟩⟩:=h
 ·subst h2;exact⟨p,0,h3⟩
 ·exact⟨_,cap,h3⟩
theorem Il{C:Cfg}{e:Nat}{s:ASt}{av:AV}{rows:List (List D)}(h:rowsOf C e s av=some rows){w:World}{E:Env}(CP:∀p∈msOf s [av],bF w E p.1 p.2)
 {v:Value} (hv:cG w E av v):∃a c,v= .slice a rows.length c:=by
 unfold rowsOf at h
 split at h
 ·cases h;exact⟨none,0,hv⟩
 ·cases h;obtain⟨p,hv⟩:=hv;exact⟨p,0,hv⟩
 ·split at h
  ·cases h;obtain⟨a,c,h1,_⟩:=Om hv;exact⟨a,c,h1⟩
  ·cases h
 ·rename_i l
  split at h
  ·rename_i e' sz r hl
   split at h
   ·cases h
    have:=CP (l, .tip e' sz rows) (by simp[msOf,hl])
    obtain⟨a,c,h1,_⟩:=Om (qA this)
    exact⟨a,c,hv.1.trans h1⟩
   ·cases h
  ·rename_i e' sz r hl
   split at h
   ·cases h
    have:=CP (l, .own e' sz rows) (by simp[msOf,hl])
    obtain⟨a,c,h1⟩:=UD this
    exact⟨a,c,hv.1.trans h1⟩
   ·cases h
  ·rename_i e' sz r hl
   split at h
   ·cases h
    have:=CP (l, .part e' sz rows) (by simp[msOf,hl])
    obtain⟨a,c,h1⟩:=R7 this
    exact⟨a,c,hv.1.trans h1⟩
   ·cases h
  ·cases h
 ·cases h
theorem iO(s:ASt):∀(as:List AV),∀p∈msOf s as,look s.m p.1=some p.2
 | [],_,h=>by cases h
 |a::as,p,h=>by
  have ih:=iO s as p
  cases a<;>simp only[msOf]at h
  case ref l=>
   split at h
   ·rename_i o hl
    rcases adv.1 h with rfl|h
    ·exact hl
    ·exact ih h
   ·exact ih h
  all_goals exact ih h
theorem iQ{P:Program}(w:World){t e:Nat}{te:TI}(hu:P.underlying t=some (.slice e))(he:bG P e te)(b off n cap:Nat)(k:IntKind)(i:Int)(h0:0<=i)(h1:i<n):
 (Instr.indexAt t (.slice (some ⟨b,off,none⟩) n cap) (.int k i)).run P w= .ok (.pointer (some ⟨b,off+i.toNat*te.sz,none⟩)) w:=by
 obtain⟨⟨ie,z,g1,g2,_⟩,_⟩:=he
 simp[Instr.indexAt,run_underlying hu,asIntOf,h0,h1,sizeOf,typeInfo,g1,g2,Addr.add_mid]
theorem TT{w:World}{z:Nat->Nat}{b off n cap sz:Nat}{rows:List (List D)}(h:Rd w z (.slice (some ⟨b,off,none⟩) n cap) (.sl sz rows)){i:Nat}(hi:i<rows.length)(dflt:List D):
 Rd w z (.pointer (some ⟨b,off+i*sz,none⟩)) (.pt (rows.getD i dflt)):=by
 cases h with
 |nil=>simp at hi
 |sl _ _ _ _ _ _ vs hn hsz hz hcap hc hr=>
  have Cr:rows[i]? =some rows[i]:=acF hi
  have hrow:rows.getD i dflt=rows[i]:=by rw[aas,Cr];rfl
  rw[hrow]
  have hlen:rows[i].length=sz:=hsz _ (ad2 hi)
  have hle:(i+1)*sz<=n*sz:=adF _ (by omega)
  rw[ad6]at hle
  refine .pt b (off+i*sz) _ (fun k=>vs (i*sz+k)) (by omega) (fun k hk=> ?_) (fun j x hj=>hr i j _ x Cr hj)
  rw[af3];exact hc _ (by omega)
section
variable {X:Ctx} {o:Oper} {s:ASt} {K:LA->Prop}
theorem DX(hX:X.Ok){t:Nat}{x i:Operand}(ho:o.op= .indexAddr t x i)(h:vcOp X X.C o s K):∃la,aN X o la/\Sat la s/\K la:=by
 simp only[vcOp,ho]at h
 split at h
 ·rename_i k n e R8 iu zc hi hT
  have hu:=(hX.C.T _ _ hT).2
  simp only at hu
  have hsz:∀ {sz:Nat} {rows:List (List D)},sz=X.C.sz e->(∀r∈rows,r.length=sz)->0<rows.length->True:=fun _ _ _=>trivial
  have hte:∀sz,sz=X.C.sz e->0<sz->∃te,bG X.P e te/\te.sz=sz:=by
   intro sz h1 h2
   unfold Cfg.sz at h1
   split at h1
   ·rename_i te hte;exact⟨te,hX.C.T _ _ hte,h1.symm⟩
   ·omega
  split at h
  ·rename_i sz rows hx
   obtain⟨⟨h1,h2,h3,hpos⟩,hK⟩:=h
   refine⟨_,aN.val fun s' E a w hs hE=> ?_,⟨aH s _,by simp⟩,hK⟩
   have ex:=hE.evs hs.1 X.C t (x:=x) (by simp)
   have ei:=hE.evs hs.1 X.C 3 (x:=i) (by simp)
   rw[hx]at ex;rw[hi]at ei
   obtain⟨te,nw,j7⟩:=hte sz h1 hpos
   simp only[cG]at ex
   generalize hv:a.eval x=vx at ex
   cases ex with
   |nil=>simp at h3;omega
   |sl b off m cap _ _ vs hn hsz hz hcap hc hr=>
    have hrd:Rd w E.z (.slice (some ⟨b,off,none⟩) m cap) (.sl sz rows):= .sl b off m cap sz rows vs hn hsz hz hcap hc hr
    refine⟨_, ?_,TT hrd (i:=n.toNat) (by omega) (X.C.zrow e)⟩
    have:=iQ (P:=X.P) w hu nw b off m cap k n h2 (by omega)
    rw[j7]at this
    simp only[execOp,ho,hv,bN ei,Sem.run_bind,this,Result.andThen_ok,Sem.run_pure]
  ·rename_i l hx
   split at h
   ·rename_i e' sz rows hl
    obtain⟨⟨h0,h1,h2,h3⟩,hK⟩:=h
    refine⟨_,aN.val fun s' E a w hs hE=> ?_,⟨aH s _,by simp[hl]⟩,hK⟩
    have ex:=hE.evs hs.1 X.C t (x:=x) (by simp)
    have ei:=hE.evs hs.1 X.C 3 (x:=i) (by simp)
    rw[hx]at ex;rw[hi]at ei
    have ho':=hE.good.obj l _ (hs.2 (l, .tip e' sz rows) (by simp))
    obtain⟨te,nw,j7⟩:=hte sz h1 ho'.2.1
    have hrd:=qA ho'
    rw[<- ex.1]at hrd
    generalize hv:a.eval x=vx at hrd
    cases hrd with
    |nil=>simp at h3;omega
    |sl b off m cap _ _ vs hn hsz hz hcap hc hr=>
     have hrd:Rd w E.z (.slice (some ⟨b,off,none⟩) m cap) (.sl sz rows):= .sl b off m cap sz rows vs hn hsz hz hcap hc hr
     refine⟨_, ?_,TT hrd (i:=n.toNat) (by omega) (X.C.zrow e)⟩
     have:=iQ (P:=X.P) w hu nw b off m cap k n h2 (by omega)
     rw[j7]at this
     simp only[execOp,ho,hv,bN ei,Sem.run_bind,this,Result.andThen_ok,Sem.run_pure]
   ·rename_i e' sz rows hl
    obtain⟨⟨h0,h1,h2,h3⟩,hK⟩:=h
    refine⟨_,aN.val fun s' E a w hs hE=> ?_,⟨aH s _,by simp[hl]⟩,hK⟩
    have ex:=hE.evs hs.1 X.C t (x:=x) (by simp)
    have ei:=hE.evs hs.1 X.C 3 (x:=i) (by simp)
    rw[hx]at ex;rw[hi]at ei
    have ho':=hE.good.obj l _ (hs.2 (l, .own e' sz rows) (by simp))
    obtain⟨te,nw,j7⟩:=hte sz h1 ho'.2.1
    obtain⟨g1,g2,⟨q1,q2,q3⟩|⟨b,cur,cap,q1,q2,q3,_⟩⟩:=ho'
    ·subst q2;simp at h3;omega
    ·refine⟨_, ?_,⟨b,0,_,_,q3,rfl⟩⟩
     have:=iQ (P:=X.P) w hu nw b 0 rows.length cap k n h2 h3
     rw[j7]at this
     simp only[execOp,ho,ex.1,q3,bN ei,Sem.run_bind,this,Result.andThen_ok,Sem.run_pure,adT,Nat.add_zero]
   ·rename_i e' sz rows hl
    obtain⟨⟨h0,h1,h2,h3⟩,hK⟩:=h
    refine⟨_,aN.val fun s' E a w hs hE=> ?_,⟨aH s _,by simp[hl]⟩,hK⟩
    have ex:=hE.evs hs.1 X.C t (x:=x) (by simp)
    have ei:=hE.evs hs.1 X.C 3 (x:=i) (by simp)
    rw[hx]at ex;rw[hi]at ei
    have ho':=hE.good.obj l _ (hs.2 (l, .part e' sz rows) (by simp))
    obtain⟨te,nw,j7⟩:=hte sz h1 ho'.2.1
    obtain⟨g1,g2,⟨q1,q2,q3⟩|⟨b,off,cur,cap,q1,q2,q3,_⟩⟩:=ho'
    ·subst q2;simp at h3;omega
    ·refine⟨_, ?_,⟨b,off,_,_,q3,rfl⟩⟩
     have:=iQ (P:=X.P) w hu nw b off rows.length cap k n h2 h3
     rw[j7]at this
     simp only[execOp,ho,ex.1,q3,bN ei,Sem.run_bind,this,Result.andThen_ok,Sem.run_pure,Nat.add_zero]
   ·rename_i e' e0 sz rows hh hl
    obtain⟨⟨h0,h1,h2,h3⟩,hK⟩:=h
    refine⟨_,aN.val fun s' E a w hs hE=> ?_,⟨aH s _,by simp[hl]⟩,hK⟩
    have ex:=hE.evs hs.1 X.C t (x:=x) (by simp)
    have ei:=hE.evs hs.1 X.C 3 (x:=i) (by simp)
    rw[hx]at ex;rw[hi]at ei
    obtain⟨b,cur,cap,q1,q2,q3,_⟩:=hE.good.obj l _ (hs.2 (l, .nest e' e0 sz rows hh) (by simp))
    obtain⟨te,nw,j7⟩:=hte 1 h1.symm (by omega)
    refine⟨_, ?_,⟨b,0,_,_,q3,rfl⟩⟩
    have:=iQ (P:=X.P) w hu nw b 0 rows.length cap k n h2 h3
    rw[j7]at this
    simp only[execOp,ho,ex.1,q3,bN ei,Sem.run_bind,this,Result.andThen_ok,Sem.run_pure,adT,Nat.add_zero]
   ·rename_i e' rows hh g hl
    obtain⟨⟨h0,h1,h2,h3⟩,hK⟩:=h
    refine⟨_,aN.val fun s' E a w hs hE=> ?_,⟨aH s _,by simp[hl]⟩,hK⟩
    have ex:=hE.evs hs.1 X.C t (x:=x) (by simp)
    have ei:=hE.evs hs.1 X.C 3 (x:=i) (by simp)
    rw[hx]at ex;rw[hi]at ei
    obtain⟨_,_,b,cur,cap,q1,q2,q3,_⟩:=hE.good.obj l _ (hs.2 (l, .orh e' rows hh g) (by simp))
    obtain⟨te,nw,j7⟩:=hte 1 h1.symm (by omega)
    refine⟨_, ?_,⟨b,0,_,_,q3,rfl⟩⟩
    have:=iQ (P:=X.P) w hu nw b 0 rows.length cap k n h2 h3
    rw[j7]at this
    simp only[execOp,ho,ex.1,q3,bN ei,Sem.run_bind,this,Result.andThen_ok,Sem.run_pure,adT,Nat.add_zero]
   ·exact h.elim
  ·exact h.elim
 ·exact h.elim
theorem UE(hX:X.Ok){x:Operand}{t:Nat}{c:Call}(ho:o.op= .call c)(hc:c.callee= .builtin .len)(ha:c.args.toList= [x])(ht:c.argTypes.toList= [t])
 (h:vcBuiltin X.C s o .len [x] [t] K):∃la,aN X o la/\Sat la s/\K la:=by
 simp only[vcBuiltin]at h
 split at h
 ·rename_i e sz iu zc hT
  have hu:=(hX.C.T _ _ hT).2
  simp only at hu
  split at h
  ·rename_i rows hr
   refine⟨_,aN.val fun s' E a w hs hE=>⟨.int .i64 rows.length, ?_,cQ _ rfl⟩,⟨aH s _,iO s _⟩,h⟩
   have ex:=hE.evs hs.1 X.C t (x:=x) (by simp)
   obtain⟨ao,cp,hv⟩:=Il hr (fun p hp=>hE.good.obj _ _ (hs.2 p hp)) ex
   have hargs:c.args.map a.eval= #[a.eval x]:=by apply adW.1;simp[ha]
   have On:c.argTypes= #[t]:=by apply adW.1;simpa using ht
   simp[execOp,ho,resolve,hc,invoke,builtin,hargs,On,hv,Builtin.len_,run_underlying hu,goInt]
  ·split at h
   ·rename_i l hx
    split at h
    ·rename_i e' e0 sz rows hh hl
     refine⟨_,aN.val fun s' E a w hs hE=>⟨.int .i64 rows.length, ?_,cQ _ rfl⟩,⟨aH s _,by simp[hl]⟩,h⟩
     have ex:=hE.evs hs.1 X.C t (x:=x) (by simp)
     rw[hx]at ex
     obtain⟨b,cur,cap,q1,q2,q3,_⟩:=hE.good.obj l _ (hs.2 (l, .nest e' e0 sz rows hh) (by simp))
     have hargs:c.args.map a.eval= #[a.eval x]:=by apply adW.1;simp[ha]
     have On:c.argTypes= #[t]:=by apply adW.1;simpa using ht
     simp[execOp,ho,resolve,hc,invoke,builtin,hargs,On,ex.1,q3,Builtin.len_,run_underlying hu,goInt]
    ·exact h.elim
   ·exact h.elim
 ·rename_i km em sz iu zc hT
  have hu:=(hX.C.T _ _ hT).2.1
  split at h
  ·rename_i l hx
   split at h
   ·rename_i n ak hl
    refine⟨_,aN.val fun s' E a w hs hE=>⟨.int .i64 ak.length, ?_,cQ _ rfl⟩,⟨aH s _,by simp[hl]⟩,h⟩
    have ex:=hE.evs hs.1 X.C t (x:=x) (by simp)
    rw[hx]at ex
    obtain⟨b,es,h1,h2,h3,h4⟩:=hE.good.obj l _ (hs.2 (l, .mp n ak) (by simp))
    obtain⟨b',hb',hv⟩:=ex
    rw[h1]at hb';cases hb'
    have hargs:c.args.map a.eval= #[a.eval x]:=by apply adW.1;simp[ha]
    have On:c.argTypes= #[t]:=by apply adW.1;simpa using ht
    have hg:(getObj b).run X.P w= .ok (.map es es.size) w:=by simp[getObj,Sem.run,h2]
    simp[execOp,ho,resolve,hc,invoke,builtin,hargs,On,hv,Builtin.len_,run_underlying hu,goInt,hg,h4.size]
   ·exact h.elim
  ·exact h.elim
 ·exact h.elim
theorem UF(hX:X.Ok){x:Operand}{t:Nat}{c:Call}(ho:o.op= .call c)(hc:c.callee= .builtin .cap)(ha:c.args.toList= [x])(ht:c.argTypes.toList= [t])
 (h:vcBuiltin X.C s o .cap [x] [t] K):∃la,aN X o la/\Sat la s/\K la:=by
 simp only[vcBuiltin]at h
 split at h
 ·rename_i e sz iu zc e0 hT hx
  have hu:=(hX.C.T _ _ hT).2
  simp only at hu
  refine⟨_,aN.val fun s' E a w hs hE=>⟨.int .i64 0, ?_,cQ _ rfl⟩,⟨aH s _,by simp⟩,h⟩
  have ex:=hE.evs hs.1 X.C t (x:=x) (by simp)
  rw[hx]at ex
  have ex:a.eval x= .slice none 0 0:=ex
  have hargs:c.args.map a.eval= #[a.eval x]:=by apply adW.1;simp[ha]
  have On:c.argTypes= #[t]:=by apply adW.1;simpa using ht
  simp[execOp,ho,resolve,hc,invoke,builtin,hargs,On,ex,Builtin.cap_,run_underlying hu,goInt]
 ·exact h.elim
theorem CQ{x y:Operand}{c:Call}{b:Builtin}(hb:b= .min\/b= .max)(ho:o.op= .call c)(hc:c.callee= .builtin b)(ha:c.args.toList= [x,y])
 {ts:List Nat} (h:vcBuiltin X.C s o b [x,y] ts K):∃la,aN X o la/\Sat la s/\K la:=by
 rcases hb with rfl|rfl
 ·simp only[vcBuiltin]at h
  split at h
  ·rename_i p q hp hq
   refine⟨_,aN.val fun s' E a w hs hE=>⟨.int .i64 (min p q), ?_,cQ _ rfl⟩,⟨aH s _,by simp⟩,h⟩
   have ex:=hE.evs hs.1 X.C 0 (x:=x) (by simp)
   have ey:=hE.evs hs.1 X.C 0 (x:=y) (by simp)
   rw[hp]at ex;rw[hq]at ey
   have hargs:c.args.map a.eval= #[.int .i64 p, .int .i64 q]:=by apply adW.1;simp[ha,bN ex,bN ey]
   simp[execOp,ho,resolve,hc,invoke,builtin,hargs,Builtin.min_,Builtin.min2]
   omega
  ·exact h.elim
 ·simp only[vcBuiltin]at h
  split at h
  ·rename_i p q hp hq
   refine⟨_,aN.val fun s' E a w hs hE=>⟨.int .i64 (max p q), ?_,cQ _ rfl⟩,⟨aH s _,by simp⟩,h⟩
   have ex:=hE.evs hs.1 X.C 0 (x:=x) (by simp)
   have ey:=hE.evs hs.1 X.C 0 (x:=y) (by simp)
   rw[hp]at ex;rw[hq]at ey
   have hargs:c.args.map a.eval= #[.int .i64 p, .int .i64 q]:=by apply adW.1;simp[ha,bN ex,bN ey]
   simp[execOp,ho,resolve,hc,invoke,builtin,hargs,Builtin.max_,Builtin.max2]
   omega
  ·exact h.elim
theorem Kh{P:Program}{t:Nat}{T:Option TI}(hT:∀ti,T=some ti->bG P t ti){cells:List AV}{q:Nat}{K:AV->Prop}(h:vcLoad T cells q K):
 ∃av,K av/\∀(w:World) (E:Env) (vs:List Value),AVrs w E cells vs->∃v,(part t vs.toArray q).run P w= .ok v w/\cG w E av v:=by
 have hagg:∀ti,T=some ti->∀w,(isAgg t).run P w= .ok ti.k.isRow w:=by
  intro ti r8 w
  obtain⟨d,hu,hd⟩:=(hT ti r8).desc
  rw[<- hd]
  unfold isAgg
  rw[Sem.run_bind,run_underlying hu w]
  cases d<;>simp[TypeDesc.isRow]
 have hsz:∀ti,T=some ti->∀w,(sizeOf t).run P w= .ok ti.sz w:=by
  intro ti r8 w
  obtain⟨⟨i,z,e1,e2,_⟩,_⟩:=hT ti r8
  simp[sizeOf,typeInfo,e1,e2]
 have wide:∀ti,T=some ti->ti.k.isRow=true->q+ti.sz<=cells.length->K (.agg ((cells.drop q).take ti.sz))->∃av,K av/\∀(w:World) (E:Env) (vs:List Value),AVrs w E cells vs->∃v,(part t vs.toArray q).run P w= .ok v w/\cG w E av v:=by
  intro ti r8 hk hle hK
  refine⟨_,hK,fun w E vs hr=>⟨.agg ((vs.drop q).take ti.sz).toArray, ?_,⟨_,rfl,(hr.drop q).take ti.sz⟩⟩⟩
  unfold part
  rw[Sem.run_bind,hagg ti r8 w,hk]
  simp only[Result.andThen_ok,if_true,Sem.run_bind,hsz ti r8 w,Sem.run_pure]
  congr 2
  apply adW.1
  simp[List.take_drop]
 unfold vcLoad at h
 split at h
 ·exact wide _ rfl rfl h.1 h.2
 ·exact wide _ rfl rfl h.1 h.2
 ·rename_i ti h1 h2
  split at h
  ·rename_i v hv
   refine⟨v,h,fun w E vs hr=> ?_⟩
   obtain⟨u,hu,UB⟩:=hr.get hv
   refine⟨u, ?_,UB⟩
   have hk:ti.k.isRow=false:=by
    obtain⟨k,sz,iu,zc⟩:=ti
    cases k<;>first|rfl|exact(h1 _ _ _ _ rfl).elim|exact(h2 _ _ _ _ _ rfl).elim
   unfold part
   rw[Sem.run_bind,hagg ti rfl w,hk]
   simp[hu]
  ·exact h.elim
 ·exact h.elim
theorem Oo(hX:X.Ok){st f:Nat}{x:Operand}(ho:o.op= .field st x f)(h:vcOp X X.C o s K):∃la,aN X o la/\Sat la s/\K la:=by
 simp only[vcOp,ho]at h
 split at h
 ·rename_i fs sz iu zc cs hT hx
  split at h
  ·rename_i off ft hf
   obtain⟨av,hK,hr⟩:=Kh (P:=X.P) (t:=ft) (fun ti r8=>hX.C.T _ _ r8) h
   refine⟨_,aN.val fun s' E a w hs hE=> ?_,⟨aH s _,by simp⟩,hK⟩
   have ex:=hE.evs hs.1 X.C st (x:=x) (by simp)
   rw[hx]at ex
   obtain⟨us,e1,e2⟩:=ex
   obtain⟨v,hv,FF⟩:=hr w E us e2
   refine⟨v, ?_,FF⟩
   obtain⟨fields,hu,NR⟩:=(hX.C.T _ _ hT).2
   rw[<- NR,adm]at hf
   obtain⟨fl,hfl,heq⟩:=ad9.1 hf
   cases heq
   have vo:fields[f]? =some fl:=by simpa using hfl
   simp[execOp,ho,e1,Instr.field,run_underlying hu,vo,asAgg,hv]
  ·exact h.elim
 ·exact h.elim
theorem Oq(hX:X.Ok){t:Nat}{x i:Operand}(ho:o.op= .index t x i)(h:vcOp X X.C o s K):∃la,aN X o la/\Sat la s/\K la:=by
 simp only[vcOp,ho]at h
 split at h
 ·rename_i n e sz iu zc cs ik k hT hx hi
  obtain⟨⟨h0,h1⟩,h⟩:=h
  obtain⟨av,hK,hr⟩:=Kh (P:=X.P) (t:=e) (fun ti r8=>hX.C.T _ _ r8) h
  refine⟨_,aN.val fun s' E a w hs hE=> ?_,⟨aH s _,by simp⟩,hK⟩
  have ex:=hE.evs hs.1 X.C t (x:=x) (by simp)
  have ei:=hE.evs hs.1 X.C 3 (x:=i) (by simp)
  rw[hx]at ex;rw[hi]at ei
  obtain⟨us,e1,e2⟩:=ex
  obtain⟨v,hv,FF⟩:=hr w E us e2
  refine⟨v, ?_,FF⟩
  have hu:=(hX.C.T _ _ hT).2
  simp only at hu
  have hse:(sizeOf e).run X.P w= .ok (X.C.sz e) w:=by
   unfold vcLoad at h
   cases NS:X.C.T e with
   |none=>simp[NS]at h
   |some te=>
    obtain⟨⟨ie,z,g1,g2,_⟩,_⟩:=hX.C.T _ _ NS
    simp[sizeOf,typeInfo,g1,g2,X.C.Oj NS]
  simp[execOp,ho,e1,bN ei,Instr.index,asIntOf,run_underlying hu,h0,h1,hse,hv]
 ·exact h.elim
end
def cL(E:Env)(d b:Nat)(v:Value)(zb:Nat):Env:=⟨fun l=>if l=d then some b else E.ρ l,fun l=>if l=d then v else E.σ l,fun x=>if x=b then zb else E.z x⟩
theorem cell?_of_heap{w w':World}{b:Nat}(h:w'.heap[b]? =w.heap[b]?)(o:Nat):w'.cell? ⟨b,o,none⟩=w.cell? ⟨b,o,none⟩:=by simp[World.cell?,h]
theorem fP{w w':World}{E:Env}{d:Nat}{v:Value}{zb:Nat}(hf:∀b,w.heap.size<=b->E.z b=0)(hh:∀b,b<w.heap.size->w'.heap[b]? =w.heap[b]?):
 aK w E.z w' (cL E d w.heap.size v zb).z:=by
 intro b
 simp only[cL]
 by_cases hb:b=w.heap.size
 ·subst hb
  simp[hf _ (adg _)]
 ·simp only[hb,if_false]
  refine⟨adg _,fun o ho=> ?_⟩
  by_cases hlt:b<w.heap.size
  ·exact cell?_of_heap (hh b hlt) o
  ·rw[hf b (by omega)]at ho;omega
theorem bh.create{X:Ctx}(hX:X.Ok){E:Env}{s:ASt}{a:Act}{w:World}(h:bh X E s a w){d:Nat}(hd:d<10000){kill:List (Nat × Option D)}(H7:kl kill d≠none)
 (kJ:∀l,kl kill l≠none->l<20000) {rs:List (Nat × AV)} {ms:List (Nat × AObj)} {ob:AObj} {v:Value} {zb:Nat} {w':World} {Im:AV} {dst:Option Nat} {v':Value}
 (hsize:w'.heap.size=w.heap.size+1) (hh:∀b,b<w.heap.size->w'.heap[b]? =w.heap[b]?) (hos:w'.os=w.os) (nN:w'.tape=w.tape) (hout:w'.output=w.output)
 (hkx:∀l x,kl kill l=some (some x)->kN (E.σ l)->Rd w' (cL E d w.heap.size v zb).z (E.σ l) x)
 (oV:bF w' (cL E d w.heap.size v zb) d ob) (hv:cG w' (cL E d w.heap.size v zb) Im v') (bV:∀k,dst=some k->k<X.n) (Cs:ob.isNest=false:=by rfl):
 bh X (cL E d w.heap.size v zb) ((⟨rs,ms,kill, [(d,ob)],dst,Im⟩:LA).app s) (a.put dst v') w':=by
 have dx:∀l,look [(d,ob)] l=if d=l then some ob else none:=fun l=>by simp[look]
 refine h.app ⟨rs,ms,kill, [(d,ob)],dst,Im⟩ _ w' v' (fP h.good.fresh hh) hos nN hout (by omega) (fun l hl=> ?_) hkx (fun l hl=> ?_) kJ (fun l o hl=> ?_) (fun b hb=> ?_) (fun l o hl=> ?_) (fun l l' hl hl'=> ?_) (fun l b hl hb=> ?_) (fun b hb=> ?_) hv bV
 ·have:l≠d:=fun e=>H7 (e ▸ hl)
  simp[cL,this]
 ·have h1:=hX.low l hl
  have:l≠d:=by omega
  simp[cL,this]
 ·simp only[dx]at hl
  split at hl
  ·rename_i hdl;subst hdl;cases hl;exact⟨by omega,Cs⟩
  ·cases hl
 ·left
  refine⟨hh b hb, ?_⟩
  have:b≠w.heap.size:=by omega
  simp[cL,this]
 ·simp only[dx]at hl
  split at hl
  ·rename_i hdl;subst hdl;cases hl;exact oV
  ·cases hl
 ·simp only[dx]at hl hl'
  split at hl
  ·split at hl'
   ·omega
   ·simp at hl'
  ·simp at hl
 ·simp only[dx]at hl
  split at hl
  ·rename_i hdl
   subst hdl
   simp only[cL,if_true,ady]at hb
   left;omega
  ·simp at hl
 ·have h1:b≠w.heap.size:=by omega
  simp only[cL,h1,if_false]
  exact h.good.fresh b (by omega)
section
variable {X:Ctx} {o:Oper} {s:ASt} {K:LA->Prop}
theorem aN.mk{la:LA}(hd:la.dst=o.dst)
 (h:∀s E a w,(∀d,o.dst=some d->d<X.n)->Sat la s->bh X E s a w->∃v' w' E',(execOp a.eval o).run X.P w= .ok (.value v') w'/\bh X E' (la.app s) (a.put o.dst v') w'):aN X o la:=by
 refine⟨hd, ?_⟩
 rintro s a w hdn hs ⟨E,hE⟩
 obtain⟨v',w',E',hr,hr'⟩:=h s E a w hdn hs hE
 unfold Oper.wp
 rw[hr]
 exact⟨E',hr'⟩
theorem qB(d l:Nat):kl [(d,(none:Option D))] l≠none->l=d:=by
 simp only[kl]
 split
 ·intro _;omega
 ·intro h;exact absurd rfl h
theorem dX(d l:Nat)(x:D):kl [(d,(none:Option D))] l≠some (some x):=by
 simp only[kl]
 split<;>simp
theorem Ot{w:World}{E:Env}{d b:Nat}{cells:List AV}{vs:List Value}{e:Nat}(hb:E.ρ d=some b)(hh:w.heap[b]? =some (.cells vs.toArray e (0,0)))(hz:E.z b=0)
 (hr:AVrs w E cells vs) (h1:∀v∈vs,v.oneCell'=true):bF w E d (.box cells):=⟨b,vs,e,hb,hh,hz,hr,h1⟩
theorem Ou(hX:X.Ok){e:Nat}(ho:o.op= .alloc e)(h:vcOp X X.C o s K):∃la,aN X o la/\Sat la s/\K la:=by
 simp only[vcOp,ho]at h
 split at h
 ·rename_i d ti bV hT
  obtain⟨hd,hK⟩:=h
  refine⟨_,aN.mk bV.symm fun s' E a w hdn hs hE=> ?_,⟨by simp,by simp⟩,hK⟩
  obtain⟨i,z,e1,e2,e3,e4,e5⟩:=lQ (hX.C.T _ _ hT) (w.alloc (.cells #[] 0)) E
  have hrun:(execOp a.eval o).run X.P w= .ok (.value (.pointer (some ⟨w.heap.size,0,none⟩))) (w.alloc (.cells z.cells e)):=by
   simp[execOp,ho,Instr.alloc,zeroValue,typeInfo,e1,e2,newVar,newRow]
  refine⟨_,_,cL E d w.heap.size (E.σ d) 0,hrun, ?_⟩
  rw[bV]
  refine hE.create hX hd (kill:= [(d,none)]) (by simp[kl]) (fun l hl=>by have:=qB d l hl;unfold dlow at hd;omega) (by simp) (fun b hb=>heap_alloc_old w _ hb) rfl rfl rfl
   (fun l x hl=>absurd hl (dX d l x)) ?_ ⟨w.heap.size,by simp[cL],rfl⟩ (fun k hk=>hdn k (by rw[bV];exact hk))
  refine Ot (b:=w.heap.size) (vs:=z.cells.toList) (e:=e) (by simp[cL]) (by rw[heap_alloc_new]) (by simp[cL]) ?_ e5
  have:∀(l:List AV) (us:List Value),(∀a∈l,(∃e,a= .nil e)\/∃v,a= .d (.sc v))->AVrs (w.alloc (.cells #[] 0)) E l us->AVrs (w.alloc (.cells z.cells e)) (cL E d w.heap.size (E.σ d) 0) l us:=by
   intro l
   induction l with
   |nil=>intro us _ h;exact h
   |cons q l ih=>
    rintro us hq ⟨u,us',rfl,h1,h2⟩
    refine⟨u,us',rfl, ?_,ih _ (fun b hb=>hq b (by simp[hb])) h2⟩
    rcases hq q (by simp) with ⟨e',rfl⟩|⟨v,rfl⟩
    ·exact h1
    ·simp only[cG]at h1 ⊢;cases h1 with|sc _ h=>exact .sc _ h
  refine this _ _ ?_ e4
  obtain⟨⟨i',z',f1,f2,f3,f4,f5,f6,f7⟩,_⟩:=hX.C.T _ _ hT
  intro q hq
  have:=f6 q hq
  unfold AV.cv at this
  split at this
  ·exact .inl ⟨_,rfl⟩
  ·exact .inr ⟨_,rfl⟩
  ·simp[Value.oneCell']at this
 ·exact h.elim
theorem UG(hX:X.Ok){e:Nat}{x:Operand}(ho:o.op= .box e x)(h:vcOp X X.C o s K):∃la,aN X o la/\Sat la s/\K la:=by
 simp only[vcOp,ho]at h
 split at h
 ·rename_i d bV
  obtain⟨hd,⟨hone,hnot⟩,hK⟩:=h
  refine⟨_,aN.mk bV.symm fun s' E a w hdn hs hE=> ?_,⟨aH s _,by simp⟩,hK⟩
  have ex:=hE.evs hs.1 X.C e (x:=x) (by simp)
  have hrun:(execOp a.eval o).run X.P w= .ok (.value (.pointer (some ⟨w.heap.size,0,none⟩))) (w.alloc (.cells (a.eval x).cells e)):=by
   simp[execOp,ho,Instr.box,newVar,newRow]
  refine⟨_,_,cL E d w.heap.size (E.σ d) 0,hrun, ?_⟩
  rw[bV]
  refine hE.create hX hd (kill:= [(d,none)]) (by simp[kl]) (fun l hl=>by have:=qB d l hl;unfold dlow at hd;omega) (by simp) (fun b hb=>heap_alloc_old w _ hb) rfl rfl rfl
   (fun l x hl=>absurd hl (dX d l x)) ?_ ⟨w.heap.size,by simp[cL],rfl⟩ (fun k hk=>hdn k (by rw[bV];exact hk))
  have hfit:(aev X.C e s x).fit=true:=by
   cases hq:aev X.C e s x<;>simp only[hq,avCells,allOne,aeY]at hone<;>first|rfl|exact hone
  have hc:=ex.cells hfit
  have hall:∀(as:List AV) (us:List Value),allOne as=true->AVrs w E as us->∀v∈us,v.oneCell'=true:=by
   intro as
   induction as with
   |nil=>intro us _ h v hv;simp only[AVrs]at h;subst h;cases hv
   |cons q as ih=>
    rintro us hq ⟨u,us',rfl,h1,h2⟩ v hv
    simp only[allOne,adf]at hq
    rcases adv.1 hv with rfl|hv
    ·exact h1.one hq.1
    ·exact ih _ hq.2 h2 v hv
  refine Ot (b:=w.heap.size) (vs:=(a.eval x).cells.toList) (e:=e) (by simp[cL]) (by rw[heap_alloc_new]) (by simp[cL]) ?_ (hall _ _ hone hc)
  refine AVrs.mono (live:=fun l=>l≠d) ⟨fP hE.good.fresh (fun b hb=>heap_alloc_old w _ hb),fun l hl=>by simp[cL,hl],fun l hl=>by simp[cL,hl]⟩ (fun l hl=> ?_) hc
  intro DY;subst DY;exact hnot hl
 ·exact h.elim
theorem yI{w:World}{E:Env} :∀ {as:List AV} {us:List Value},allOne as=true->AVrs w E as us->∀v∈us,v.oneCell'=true
 | [],us,_,h,v,hv=>by simp only[AVrs]at h;subst h;cases hv
 |q::as,us,hq,h,v,hv=>by
  obtain⟨u,us',rfl,h1,h2⟩:=h
  simp only[allOne,adf]at hq
  rcases adv.1 hv with rfl|hv
  ·exact h1.one hq.1
  ·exact yI hq.2 h2 v hv
end
end Go.Ab
end
