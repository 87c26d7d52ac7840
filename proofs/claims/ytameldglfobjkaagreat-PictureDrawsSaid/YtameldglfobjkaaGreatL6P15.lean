/- A part of the proof. -/
import Derived.RangeFuncBox
import Derived.RangeFuncLeaves
import Derived.Shelf.Abstract
import Derived.WalkKit
import Derived.OwnWalkIn
import Derived.TacticsInMore
import Derived.LoopNIn
import Derived.LoopIn
import Derived.Maps.AppendAt
import Derived.Sort.OwnSortedInts
import Derived.Test.YtameldglfobjkaaGreatL6P14
set_option linter.unusedSimpArgs false
set_option linter.unusedVariables false
section
namespace Go.Ab
open Go.Proofs Go.RowKit Go.Shelf Go.Sort
attribute [local go_sem] Oper.semAt_some
def upto{α:Type}(f:Nat->α)(k:Nat):List α:=(List.range k).map f
theorem Da{α:Type}(f:Nat->α)(k:Nat):upto f (k+1)=upto f k++ [f k]:=by simp[upto,adW]
theorem GH{α:Type}(f:Nat->α)(k:Nat):(upto f k).length=k:=by simp[upto]
theorem P3(zs:List Int):upto (fun j=>zs[j]?.getD 0) zs.length=zs:=by
 apply agn
 ·simp[upto]
 ·intro i h1 h2
  simp[upto,h2]
theorem MM(zs:List Int){k:Nat}(hk:k<=zs.length):upto (fun j=>zs[j]?.getD 0) k=zs.take k:=by
 apply agn
 ·simp[upto,hk]
 ·intro i h1 h2
  have:i<zs.length:=by simp[upto]at h1;omega
  simp[upto,this]
set_option maxRecDepth 100000 in
set_option maxHeartbeats 2000000 in
theorem I4{ob:Nat}(F:Fence)(n:Nat)(h7:F.fn 189)(hro:F.round=none)(hn:1<=n)(l Bs n₀ b off len cap:Nat)(zs:List Int)(nI:len*8<=140737488351232)(hb:b<n₀)(J Jx:List Int->World->Prop)
 (hY:∀pre x W,J pre W->pre.length<len->YieldAt F (n - 1) Tryz.prog l #[.int .i64 x] W fun e W'=>
   (e= .returned (.bool true)/\J (pre++ [x]) W'/\Below n₀ W W')\/(e= .returned (.bool false)/\Jx (pre++ [x]) W'))
 (W:World) (P4:W.cell? ⟨Bs,ob,none⟩=some (.slice (some ⟨b,off,none⟩) len cap)) (hc:∀j,j<len->W.cell? ⟨b,off+j,none⟩=some (.int .i64 (zs[j]?.getD 0))) (h0:J [] W):
 CallsIn F n Tryz.prog 189 #[.func (.yield l) #[] #[], .pointer (some ⟨Bs,ob,none⟩)] W fun e W'=>(∃v,e= .returned v)/\
  ((∃ys,ys=upto (fun j=>zs[j]?.getD 0) len/\J ys W')\/(∃pre,(∃k,k<=len/\pre=upto (fun j=>zs[j]?.getD 0) k)/\Jx pre W')):=by
 refine callsIn_of_wp Tryz.func189 rfl h7 ?_ hro
 simp only[Tryz.ntmps189,aee,List.length_cons,List.length_nil,Nat.reduceAdd,Nat.reduceSub,afy,Array.replicate_zero,afL,afB,List.nil_append,List.cons_append]
 gi_wp2
 gi_loopw [7] (fun i wr=>∃k:Nat,k<=len/\i= .int .i64 k/\J (upto (fun j=>zs[j]?.getD 0) k) wr/\Below n₀ W wr)
  (fun i _=>len - (Go.Proofs.intOf i).toNat)
 case atStart=>exact⟨0,afC _,rfl,h0,Below.refl _ _⟩
 case round=>
  obtain⟨k,hk,rfl,Ze,dw⟩:=hrel
  have hcx:k<len->wr.cell? ⟨b,off+k,none⟩=some (.int .i64 (zs[k]?.getD 0)):=fun h=>(dw.cell (p:=⟨b,off+k,none⟩) hb).trans (hc k h)
  by_cases hlt:k<len
  ·obtain⟨fn,tmps,assign,body,hy,hR⟩:=hY _ (zs[k]?.getD 0) wr Ze (by rw[GH];exact hlt)
   have acG:=hcx hlt
   gi_wp2
   refine hR.mono ?_
   rintro e W3 (⟨rfl,hJ3,WI⟩|⟨rfl,aaV⟩)
   ·gi_wp2
    go_roundw
    case rel=>exact⟨k+1,by omega,by simp,by rw[Da];exact hJ3,dw.trans WI⟩
    case measure=>simp[Go.Proofs.intOf];omega
   ·gi_wp2
    refine bodyPost_ret (results_none rfl _ _ _) rfl ?_
    exact⟨⟨_,rfl⟩, .inr ⟨_,⟨k+1,by omega,(Da _ _).symm⟩,aaV⟩⟩
  ·obtain rfl:k=len:=by omega
   gi_wp2
   go_end0
   exact⟨⟨_,rfl⟩, .inl ⟨_,rfl,Ze⟩⟩
def Ints(n₀:Nat)(W:World)(sv:Value)(zs:List Int):Prop:=
 (∃p c,sv= .slice p 0 c/\zs= [])\/∃b off cap,sv= .slice (some ⟨b,off,none⟩) zs.length cap/\b<n₀/\∀j,j<zs.length->W.cell? ⟨b,off+j,none⟩=some (.int .i64 (zs[j]?.getD 0))
theorem Ints.below{n₀:Nat}{A B:World}(h:Below n₀ A B){sv:Value}{zs:List Int} :Ints n₀ A sv zs->Ints n₀ B sv zs
 | .inl e=> .inl e
 | .inr ⟨b,off,cap,e,hb,hc⟩=> .inr ⟨b,off,cap,e,hb,fun j hj=>(h.cell (p:=⟨b,off+j,none⟩) hb).trans (hc j hj)⟩
set_option maxRecDepth 100000 in
set_option maxHeartbeats 1000000 in
theorem Bn{ob:Nat}(F:Fence)(n:Nat)(h7:F.fn 189)(hro:F.round=none)(l Bs:Nat)(p:Option Addr)(c:Nat)(J:List Int->World->Prop)(W:World)(P4:W.cell? ⟨Bs,ob,none⟩=some (.slice p 0 c))(h0:J [] W):
 CallsIn F n Tryz.prog 189 #[.func (.yield l) #[] #[], .pointer (some ⟨Bs,ob,none⟩)] W fun e W'=>(∃v,e= .returned v)/\J [] W':=by
 refine callsIn_of_wp Tryz.func189 rfl h7 ?_ hro
 simp only[Tryz.ntmps189,aee,List.length_cons,List.length_nil,Nat.reduceAdd,Nat.reduceSub,afy,Array.replicate_zero,afL,afB,List.nil_append,List.cons_append]
 gi_wp2
 gi_loopw [7] (fun i wr=>i= .int .i64 0/\J [] wr) (fun _ _=>0)
 case atStart=>exact⟨rfl,h0⟩
 case round=>
  obtain⟨rfl,Ze⟩:=hrel
  gi_wp2
  go_end0
  exact⟨⟨_,rfl⟩,Ze⟩
theorem ED{ob:Nat}(F:Fence)(n:Nat)(h7:F.fn 189)(hro:F.round=none)(hn:1<=n)(Bs n₀:Nat)(sv:Value)(zs:List Int)(nI:zs.length*8<=140737488351232)(w:World)(P4:Bs<w.heap.size)(hn₀:n₀<=w.heap.size)
 (hc:w.cell? ⟨Bs,ob,none⟩=some sv) (hI:Ints n₀ w sv zs):
 SeqStopsK F n Tryz.prog 189 #[.pointer (some ⟨Bs,ob,none⟩)] (fun x:Int=> #[Value.int .i64 x]) (Below n₀) (fun ys=>ys=zs) (fun pre=>pre<+:zs) zs.length w:=fun l J Jx W hW _ _ hY h0=>by
 have zq:=(hW.cell (p:=⟨Bs,ob,none⟩) P4).trans hc
 rcases hI.below (hW.mono hn₀) with ⟨p,c,rfl,rfl⟩|⟨b,off,cap,rfl,hb,hcs⟩
 ·exact(Bn F n h7 hro l Bs p c J W zq h0).mono fun e W' ⟨he,hj⟩=>⟨he, .inl ⟨_,rfl,hj⟩⟩
 ·refine(I4 F n h7 hro hn l Bs n₀ b off zs.length cap zs nI hb J Jx hY W zq hcs h0).mono ?_
  rintro e W' ⟨he,⟨ys,rfl,hj⟩|⟨pre,⟨k,hk,rfl⟩,hj⟩⟩
  ·exact⟨he, .inl ⟨_,P3 zs,hj⟩⟩
  ·exact⟨he, .inr ⟨_,by rw[MM zs hk];exact List.take_prefix _ _,hj⟩⟩
theorem SL:(Tryz.prog.info? 3).map (fun i=>(i.zero,i.size,i.bytes))=some (some (.int .i64 0),1,8):=by kernel_rfl
set_option maxRecDepth 100000 in
set_option maxHeartbeats 2000000 in
theorem EE{ob:Nat}(F:Fence)(n:Nat)(h3:F.fn 203)(h5:F.fn 189)(hro:F.round=none)(hn:3<=n)(Bs:Nat)(sv:Value)(zs:List Int)(nI:zs.length*8<=140737488351232)(w:World)(P4:Bs<w.heap.size)
 (hcs:w.cell? ⟨Bs,ob,none⟩=some sv) (hI:Ints w.heap.size w sv zs):
 CallsIn F n Tryz.prog 203 #[.slice none 0 0, .func (.func 189) #[] #[.pointer (some ⟨Bs,ob,none⟩)]] w fun e W'=>∃v,e= .returned v/\W'.ownsRow w.heap.size 3 1 v zs.length (zs.map (Value.int .i64))/\(v= .slice none 0 0↔zs= [])/\Below w.heap.size w W':=by
 have h1:1<=n:=by omega
 obtain⟨i0,hi,Sf,hz1,Me⟩:=info_parts SL
 refine callsIn_of_wp_marks Tryz.func203 rfl h3 ?_ hro
 simp only[Tryz.ntmps203,aee,List.length_cons,List.length_nil,Nat.reduceAdd,Nat.reduceSub,afy,Array.replicate_zero,afL,afB,List.nil_append,List.cons_append]
 gi_wp2
 have bO:=Boxed.new w 25 (.slice none 0 0)
 have XZ:Below w.heap.size w (w.alloc (.cells #[.slice none 0 0] 25)):=(Below.refl _ w).alloc (adh _) _
 refine wpIn_rangeFunc_ownG hro h1 (gf:=189) (lb:= #[.pointer (some ⟨Bs,ob,none⟩)]) rfl h5 (enters_of Tryz.func189 (by kernel_rfl) rfl)
  (ED F (n - 1) h5 hro (by omega) Bs w.heap.size sv zs nI _ (by simp;omega) (by simp) ((XZ.cell (p:=⟨Bs,ob,none⟩) P4).trans hcs) (hI.below XZ)) belowK_t (belowK_b (by simp)) (Below.refl _ _) (fun _=>rfl)
  (fun pre W=>(∃v,Boxed W w.heap.size 25 v/\W.ownsRow w.heap.size 3 1 v pre.length (pre.map (Value.int .i64))/\(v= .slice none 0 0↔pre= []))/\Below w.heap.size w W)
  (fun _ _ _=>False)
  (OwnFrom.and (Own.from(holdsRow_own w.heap.size w.heap.size 25 3 1 (fun pre=>pre.length) (fun pre=>pre.map (Value.int .i64)) (fun pre v=>v= .slice none 0 0↔pre= [])) _) (ownFrom_below (adh _) (by simp)))
  (fun _ _ _ _ _ hs _ _=>hs)
  ⟨⟨_,bO,World.ownsRow_nil _ _ _ _,by simp⟩,XZ⟩
  (fun x=> {tmps:= #[.slice none 0 0, .func (.func 189) #[] #[.pointer (some ⟨Bs,ob,none⟩)], .pointer (some ⟨w.heap.size,0,none⟩),undef, .slice none 0 0, .int .i64 x, .func (.func 189) #[] #[.pointer (some ⟨Bs,ob,none⟩)], .int .i64 x,undef,undef,undef,undef,undef],defers:= []}) ?assign ?body ?done ?stop
 case assign=>
  intro l x W K hK
  gi_wp2
  exact hK
 case body=>
  rintro l pre x W ⟨⟨v,hv,hrow,hnil⟩,hB⟩ hlt
  have hc:=hv.cell
  have hml:maxLen=9223372036854775807:=rfl
  gi_wp2_with (gi_at_builtin;refine wpListIn_append_own _ rfl _ _ 25 rfl w.heap.size 3 i0 (.int .i64 0) 1 8 Tryz.underlying25 hi Sf hz1 Me rfl (by decide) _ _ _ rfl (hrow.alloc _) ⟨W.heap.size,0,none⟩ 1 1 [.int .i64 x] rfl rfl (cell_one_new _ _ _) (by simp[Value.oneCell']) (by omega) (by omega) (by have:=hB.size;simp;omega) ?_;intro v' w1 hown' hgrow _;obtain⟨g',cap',rfl⟩:=ownsRow_succ hown';obtain⟨Kz,O2,tQ,hk2,hb2⟩:=hv.appended (by decide) hrow hB.size (adh _) hown' hgrow;have hc1:=Kz.cell;have Zb:=Kz.frozen)
  exact⟨hk2.from _,hb2,⟨_,O2,by simpa using tQ,by simp⟩,hB.trans hb2⟩
 case done=>
  rintro D ys W hD rfl ⟨⟨v,hv,hrow,hnil⟩,hB⟩ hK
  have hc:=hv.cell
  gi_wp2
  refine⟨by simp, .inl ⟨_,_,rfl,run_takeDeferred hK, ?_⟩⟩
  exact⟨_,results_tmp rfl _ _ _,v,rfl,ownsRow_putObj hrow _ hK rfl,hnil,hB.trans (belowK_b (w:=w) (adh _) W D _ _ (by simp at hD;omega) hK rfl rfl)⟩
 case stop=>
  rintro D c pre W _ _ h _
  exact h.elim
set_option maxRecDepth 100000 in
set_option maxHeartbeats 2000000 in
theorem I5{ob:Nat}(F:Fence)(n:Nat)(h2:F.fn 187)(h3:F.fn 203)(h5:F.fn 189)(hro:F.round=none)(hn:4<=n)(Bs:Nat)(sv:Value)(zs:List Int)(nI:zs.length*8<=140737488351232)(w:World)(P4:Bs<w.heap.size)
 (hcs:w.cell? ⟨Bs,ob,none⟩=some sv) (hI:Ints w.heap.size w sv zs):
 CallsIn F n Tryz.prog 187 #[.func (.func 189) #[] #[.pointer (some ⟨Bs,ob,none⟩)]] w fun e W'=>∃v,e= .returned v/\W'.ownsRow w.heap.size 3 1 v zs.length (zs.map (Value.int .i64))/\(v= .slice none 0 0↔zs= [])/\Below w.heap.size w W':=by
 have h1:1<=n:=by omega
 refine callsIn_of_wp Tryz.func187 rfl h2 ?_ hro
 simp only[Tryz.ntmps187,aee,List.length_cons,List.length_nil,Nat.reduceAdd,Nat.reduceSub,afy,Array.replicate_zero,afL,afB,List.nil_append,List.cons_append]
 gi_wp2_with (gi_at_call 203;refine(EE F (n - 1) h3 h5 hro (by omega) Bs sv zs nI _ P4 hcs hI).mono ?_;rintro e W ⟨v,rfl,hrow,hnil,hb⟩)
 go_ret
 exact⟨v,rfl,hrow,hnil,hb⟩
def lu(l:List Int):List Int:=l.mergeSort fun x y=>decide (x<=y)
set_option maxRecDepth 100000 in
set_option maxHeartbeats 2000000 in
theorem MN{ob:Nat}(F:Fence)(n:Nat)(CO:F.fn 136)(h2:F.fn 187)(h3:F.fn 203)(h5:F.fn 189)(h9:F.fn 188)(hro:F.round=none)(hn:5<=n)
 (hsort:∀(blk off cap:Nat) (ss:List Int) (W:World),Holds (Value.int .i64) W blk off ss.toArray->blk<W.heap.size->ss.length<4611686018427387904->
   CallsIn F (n - 1) Tryz.prog 188 #[.slice (some ⟨blk,off,none⟩) ss.length cap] W fun e w'=>e= .returned (.tuple #[])/\∃k os,w'=grow (putRow (Value.int .i64) (Sort.ahead W k) blk off (ss.mergeSort fun x y=>decide (x<=y)).toArray) os)
 (hnone:∀(p:Option Addr) (cap:Nat) (W:World),CallsIn F (n - 1) Tryz.prog 188 #[.slice p 0 cap] W fun e w'=>e= .returned (.tuple #[])/\w'=W) (Bs:Nat) (sv:Value) (zs:List Int) (nI:zs.length*8<=140737488351232) (w:World) (P4:Bs<w.heap.size)
 (hcs:w.cell? ⟨Bs,ob,none⟩=some sv) (hI:Ints w.heap.size w sv zs):
 CallsIn F n Tryz.prog 136 #[.func (.func 189) #[] #[.pointer (some ⟨Bs,ob,none⟩)]] w fun e W'=>∃v,e= .returned v/\W'.ownsRow w.heap.size 3 1 v zs.length ((lu zs).map (Value.int .i64))/\Below w.heap.size w W':=by
 have h1:1<=n:=by omega
 refine callsIn_of_wp Tryz.func136 rfl CO ?_ hro
 simp only[Tryz.ntmps136,aee,List.length_cons,List.length_nil,Nat.reduceAdd,Nat.reduceSub,afy,Array.replicate_zero,afL,afB,List.nil_append,List.cons_append]
 gi_wp2_with (gi_at_call 187;refine(I5 F (n - 1) h2 h3 h5 hro (by omega) Bs sv zs nI _ P4 hcs hI).mono ?_;rintro e W ⟨v,rfl,hrow,hnil,hb⟩)
 rcases hrow.2 with ⟨rfl,hz⟩|⟨gb,cap,cur,rfl,hbase,Vw,r1,r2,r3,r4⟩
 ·have hss:zs= []:=adF hz
  subst hss
  have cS:=hnone none 0 W
  gi_wp2_with (gi_at_call 188;refine cS.mono ?_;rintro e w' ⟨rfl,rfl⟩)
  go_ret
  exact⟨.slice none 0 0,rfl,by simpa[lu]using hrow,hb⟩
 ·have hH:Holds (Value.int .i64) W gb 0 zs.toArray:=holds_of_blockI Vw (by simpa using r4)
  have yJ:gb<W.heap.size:=(adr.1 Vw).1
  have hsz:zs.length<4611686018427387904:=by omega
  have cS:=hsort gb 0 cap zs W hH yJ hsz
  gi_wp2_with (gi_at_call 188;refine cS.mono ?_;rintro e w' ⟨rfl,nn,os,rfl⟩)
  go_ret
  exact⟨_,rfl,ownsRow_sortedI (by simp[lu]) hbase Vw r1 r2 r3,hb.grown (grownBy_sortedI _) hb.size (fun j hj=>by cases hj;exact hbase)⟩
theorem EF{ob:Nat}(Bs:Nat)(sv:Value)(zs:List Int)(nI:zs.length*8<=140737488351232)(w:World)(P4:Bs<w.heap.size)
 (hcs:w.cell? ⟨Bs,ob,none⟩=some sv) (hI:Ints w.heap.size w sv zs):
 Calls Tryz.prog 136 #[.func (.func 189) #[] #[.pointer (some ⟨Bs,ob,none⟩)]] w fun e W'=>∃v,e= .returned v/\W'.ownsRow w.heap.size 3 1 v zs.length ((lu zs).map (Value.int .i64))/\Below w.heap.size w W':=
 (callsIn_wide (n:=5)).1 (MN Fence.wide 5 trivial trivial trivial trivial trivial rfl (adh _)
   (fun blk off cap ss W h1 h2 h3=>callsIn_wide.2 (AnyM.slices_Sort_int Tryz.Ui blk off cap ss W h1 h2 h3))
   (fun p cap W=>callsIn_wide.2 (AnyM.slices_Sort_int_none Tryz.Ui p cap W)) Bs sv zs nI w P4 hcs hI)
end Go.Ab
end
section
set_option maxHeartbeats 4000000
set_option maxRecDepth 10000
namespace Go.Ab
attribute [local congr] ACall.congr gd.congr Hd.congr Ny.congr vcOps.congr
open Go.Proofs Go.RowKit
def Uj(E:Env)(w w':World):Env:=⟨E.ρ,E.σ,fun b=>if b<w.heap.size then E.z b else dh w' b⟩
theorem I6{m:List (Nat × AObj)}{E:Env}{w w':World}(hg:Good m E w)(hb:Below w.heap.size w w'):aK w E.z w' (Uj E w w').z:=by
 intro b
 by_cases h:b<w.heap.size
 ·exact⟨by simp[Uj,h],fun o _=>hb.cell (p:=⟨b,o,none⟩) h⟩
 ·have h0:=hg.fresh b (by omega)
  exact⟨by rw[h0];exact afC _,fun o ho=>by rw[h0]at ho;omega⟩
theorem Spec.P5{P:Program}{f:Nat}{A:Env->World->List Value->Prop}{m:List (Nat × AObj)}{res:AV}(hR:cC m)(hc:zN P f)
 (h:∀E w vals,Good m E w->A E w vals->Calls P f vals.toArray w fun e w'=>∃v,e= .returned v/\Below w.heap.size w w'/\cG w' (Uj E w w') res v):Spec P f A m res m:=by
 refine⟨hc,fun E w vals hg hA=>(h E w vals hg hA).mono ?_⟩
 rintro e w' ⟨v,rfl,hb,hv⟩
 have hst:=I6 hg hb
 have nE:∀ {l o},bM m l=some o->look m l=some o:=fun hl=>(fG (fun p hp=>hR.nest p hp) hl).1
 have hro:∀ {l o},bM m l=some o->o.ro=true:=fun hl=>hR.ro _ (bn (nE hl))
 refine⟨v,Uj E w w',rfl,⟨hb.os,hb.tape,hb.output,hb.size,hst,fun b h1 _=>⟨hb.block b h1,by simp[Uj,h1]⟩,fun _ _=>⟨rfl,rfl⟩⟩,⟨hg.low,hg.inj,fun l o hl=> ?_,fun b h1=> ?_⟩,fun l o b hl h1=> ?_,hv⟩
 ·have h0:=hg.gw l o hl
  have h1:=hro hl
  cases o<;>simp only[AObj.ro]at h1<;>try cases h1
  obtain⟨b,vs,e,g1,g2,g3,g4,g5⟩:=h0
  have hlt:b<w.heap.size:=(adr.1 g2).1
  exact⟨b,vs,e,g1,(hb.block b hlt).trans g2,by simp[Uj,hlt,g3],AVrs.mono ⟨hst,fun _ _=>rfl,fun _ _=>rfl⟩ (fun _ _=>trivial) (live:=fun _=>True) g4,g5⟩
 ·simp only[Uj,dh]
  rw[ac8 (by have:=hb.size;omega),aeh h1]
 ·rw[hro hl]at h1;cases h1
theorem mq{w:World}{z:Nat->Nat}{v:Value}{x:Int}(h:Rd w z v (.sc (.int .i64 x))):v= .int .i64 x:=by cases h;rfl
theorem SM{w:World}{z:Nat->Nat}{v:Value}{l:List Int}(h:Rd w z v (sI l)):Ints w.heap.size w v l:=by
 generalize hx:sI l=x at h
 cases h with
 |sc v h=>cases hx
 |pt b off cells vs hz hc hr=>cases hx
 |nil p sz=>
  simp only[sI,D.sl.injEq,aeG]at hx
  exact .inl ⟨p,0,rfl,hx.2⟩
 |sl b off n cap sz rows vs hn hsz hz hcap hc hr=>
  simp only[sI,D.sl.injEq]at hx
  obtain⟨rfl,rfl⟩:=hx
  rw[ado]at hn
  subst hn
  rcases af6 l.length with h0|hpos
  ·exact .inl ⟨some ⟨b,off,none⟩,cap,by rw[h0],adF h0⟩
  refine .inr ⟨b,off,cap,rfl, ?_,fun j hj=> ?_⟩
  ·have:=hc 0 (by omega)
   by_cases hlt:b<w.heap.size
   ·exact hlt
   ·exfalso
    simp[World.cell?,aeh (ago hlt)]at this
  ·have h1:=hc j (by omega)
   have h2:=hr j 0 (rI l[j]) (.sc (.int .i64 l[j])) (by simp[acF hj]) rfl
   have h3:=mq h2
   simp only[af7,Nat.add_zero]at h3
   rw[h1,h3]
   simp[acF hj]
theorem MO{w':World}{z:Nat->Nat}{base e:Nat}{v:Value}{l:List Int}(h:w'.ownsRow base e 1 v l.length (l.map (Value.int .i64)))(hz:∀b,base<=b->dh w' b<=z b):Rd w' z v (sI l):=by
 rcases h.2 with ⟨rfl,h0⟩|⟨g,cap,cur,rfl,h1,h2,h3,h4,h5,h6⟩
 ·have:l= []:=adF h0
  subst this
  exact .nil _ _
 ·have hzg:=hz g h1
  simp only[dh,h2]at hzg
  refine .sl g 0 l.length cap 1 _ (fun k=> .int .i64 (l.getD k 0)) (by simp) (by simp[rI]) (by omega) h3 (fun k hk=> ?_) (fun i j r x hi hj=> ?_)
  ·have h7:(cur.toList.take (l.length*1))[k]? =(l.map (Value.int .i64))[k]? :=by rw[h6]
   rw[afV hk,aem]at h7
   have cM:k<l.length:=by omega
   simp only[World.cell?,h2,adU,Option.isSome_none,aed,if_false,h7,adn,acF cM,Option.map_some,aas,Option.getD_some]
  ·rw[adn]at hi
   obtain⟨y,hy,rfl⟩:=aea.1 hi
   cases j with
   |succ j=>simp[rI]at hj
   |zero=>
    simp only[rI,List.getElem?_cons_zero,adz]at hj
    subst hj
    simp only[af7,Nat.add_zero,aas,hy,Option.getD_some]
    exact .sc _ rfl
theorem iH(l:List Int):(lu l).length=l.length:=by simp[lu]
theorem aaW(l:List Int):cC [(10000, .rob [.d (sI l)])]:=⟨by simp[AObj.ro],by simp[nodupM,look],by simp,by simp[AObj.ids,AV.ids,AV.idss]⟩
theorem jo(l:List Int)(hl:l.length<=17592186043904):Spec Tryz.prog 136 (Args [.fn 189 [] [.ptr 10000 0]]) [(10000, .rob [.d (sI l)])] (.d (sI (lu l))) [(10000, .rob [.d (sI l)])]:=by
 refine Spec.P5 (aaW l) ⟨Tryz.f136,_,Tryz.func136,by kernel_rfl,rfl⟩ ?_
 intro E w vals hg hA
 obtain⟨v,vs,rfl,h0,h3⟩:=hA
 obtain⟨us,us',rfl,h1,h2⟩:=h0
 obtain⟨u,Sm,rfl,h4,h5⟩:=h2
 obtain⟨B,hB,rfl⟩:=h4
 simp only[AVrs]at h1 h5 h3
 subst h1 h5 h3
 obtain⟨b,ws,e,g1,g2,g3,g4,g5⟩:=hg.gw 10000 (.rob [.d (sI l)]) rfl
 obtain rfl:b=B:=by rw[g1]at hB;exact aeV hB
 obtain⟨sv,ws',rfl,g6,g7⟩:=g4
 simp only[AVrs]at g7
 subst g7
 have hlt:b<w.heap.size:=(adr.1 g2).1
 refine(EF b sv l (by omega) w hlt (by simp[World.cell?,g2]) (SM g6)).mono ?_
 rintro e w' ⟨v,rfl,hrow,hb⟩
 refine⟨v,rfl,hb, ?_⟩
 rw[<- iH]at hrow
 exact MO hrow fun b hb=>by simp only[Uj];rw[ac8 (by omega)];exact adh _
end Go.Ab
end
section
set_option maxHeartbeats 4000000
set_option maxRecDepth 10000
namespace Go.Ab
attribute [local congr] ACall.congr gd.congr Hd.congr Ny.congr vcOps.congr
open Go.Proofs
def g0:Gr:=⟨3, [(0,1),(1,2),(2,1)]⟩
def KJ(g:Gr):Bool:=decide (g.n<=((aZ g).length:Int))
def SN(g:Gr):List Int:=if KJ g then aZ g else []
def ql(l:List Int)(n:Int):Bool:=decide ((l.length:Int)=n)&&(List.range n.toNat).all fun x:Nat=>decide ((x:Int)∈l)
theorem count_le:∀(xs l:List Int),xs.Nodup->(∀x∈xs,x∈l)->xs.length<=l.countP (fun y=>decide (y∈xs))
 | [],_,_,_=>afC _
 |a::r,l,hd,h=>by
  obtain⟨h1,h2⟩:=ad6.1 hd
  have ih:=count_le r l h2 fun x hx=>h x (adA _ hx)
  have hp:=pI (p:=fun y=>decide (y∈a::r)) (q:=fun y=>decide (y∈r)) (r:=fun y=>decide (y=a)) (l:=l) (fun y _=>by
   by_cases hy:y=a
   ·subst hy;simp[h1]
   ·simp[hy])
  have ha:0<l.countP (fun y=>decide (y=a)):=af1.2 ⟨a,h a adI,by simp⟩
  rw[hp,List.length_cons];omega
def dD(n:Nat):List Int:=(List.range n).map Int.ofNat
theorem cE{n:Nat}{x:Int} :x∈dD n↔0<=x/\x<n:=by
 simp only[dD,adb,adl]
 constructor
 ·rintro⟨a,h,rfl⟩;simp;omega
 ·intro h;exact⟨x.toNat,by omega,by simp;omega⟩
theorem jM{n:Nat} :(dD n).Nodup:=by
 unfold dD
 exact aey _ (fun a b h e=>h (afp e)) afW
theorem cV{l:List Int}{n:Int} :ql l n=true↔(l.length:Int)=n/\∀x∈dD n.toNat,x∈l:=by
 simp only[ql,adg,ade,ad8,adl]
 constructor
 ·rintro⟨h1,h2⟩
  refine⟨h1,fun x hx=> ?_⟩
  obtain⟨a,b⟩:=cE.1 hx
  have:=h2 x.toNat (by omega)
  rwa [show((x.toNat:Nat):Int)=x from by omega]at this
 ·rintro⟨h1,h2⟩
  exact⟨h1,fun x hx=>h2 _ (cE.2 (by omega))⟩
theorem Bo{l:List Int}{n:Int}(h:ql l n=true):∀x∈l,0<=x/\x<n:=by
 obtain⟨h1,h2⟩:=cV.1 h
 have hc:=count_le (dD n.toNat) l jM h2
 have hlen:(dD n.toNat).length=n.toNat:=by simp[dD]
 have he:l.countP (fun y=>decide (y∈dD n.toNat))=l.length:=by
  have:=aeR (p:=fun y=>decide (y∈dD n.toNat)) (l:=l)
  omega
 intro x hx
 have:=afI.1 he x hx
 have:=cE.1 (ael this)
 omega
def GI(n:Nat)(l:List Int):Nat->List Int
 |0=>List.replicate n 0
 |k+1=>(GI n l k).set (l.getD k 0).toNat k
theorem atK_length{n:Nat}{l:List Int} :∀ {k:Nat},(GI n l k).length=n
 |0=>by simp[GI]
 |k+1=>by simp[GI,atK_length (k:=k)]
def P6(g:Gr)(l:List Int)(j:Nat):Bool:=(List.range j).all fun i=>decide ((GI g.n.toNat l l.length).getD (tl g i).toNat 0<(GI g.n.toNat l l.length).getD (hd g i).toNat 0)
def EG(g:Gr)(l:List Int):Bool:=ql l g.n&&P6 g l g.es.length
attribute [go_sem] atK_length
end Go.Ab
end
section
namespace Go.Ab
def Sel(g:Gr)(out:List Int):Prop:=∀p,p<out.length->out.getD p 0=jg (eS g (out.take p)) 0/\0<=out.getD p 0
theorem KK{g:Gr}(hm:aM g=true)(h:KJ g=true):ql (aZ g) g.n=true:=by
 obtain⟨hP,_,_⟩:=jL hm
 have hn:=aB hm
 have hf:=hP.fuel
 have hok:=ael h
 refine cV.2 ⟨by omega,fun x hx=> ?_⟩
 obtain⟨h1,h2⟩:=cE.1 hx
 have h0:(List.range g.n.toNat).countP (fun y:Nat=> !decide ((y:Int)∈aZ g))=0:=by omega
 have:=ae5.1 h0 x.toNat (adl.2 (by omega))
 rw[show((x.toNat:Nat):Int)=x from by omega]at this
 simpa using this
theorem KL{g:Gr}(hm:aM g=true)(h:KJ g=false):∃y:Nat,y<g.n.toNat/\(y:Int)∉aZ g:=by
 obtain⟨hP,_,_⟩:=jL hm
 have hn:=aB hm
 have hf:=hP.fuel
 have hok:=of_decide_eq_false h
 have h0:0<(List.range g.n.toNat).countP (fun y:Nat=> !decide ((y:Int)∈aZ g)):=by omega
 obtain⟨y,hy,hp⟩:=af1.1 h0
 exact⟨y,adl.1 hy,by simpa using hp⟩
theorem P7{g:Gr}{l:List Int}(h:EG g l=true){i:Nat}(hi:i<g.es.length):(GI g.n.toNat l l.length).getD (tl g i).toNat 0<(GI g.n.toNat l l.length).getD (hd g i).toNat 0:=by
 simp only[EG,adg]at h
 have:=ad8.1 h.2 i (adl.2 hi)
 exact ael this
theorem Bp{n:Nat}{l:List Int} :∀ {k:Nat} {y:Nat},0<=(GI n l k).getD y 0
 |0,y=>by
  simp only[GI,aas,afh]
  split<;>simp
 |k+1,y=>by
  have ih:=Bp (n:=n) (l:=l) (k:=k) (y:=y)
  simp only[GI,aas,aeb]at ih ⊢
  split
  ·split<;>simp
  ·exact ih
theorem EH{l:List Int}{i j:Nat}(hij:i<j)(hj:j<l.length)(e:l.getD i 0=l.getD j 0):∀x∈l,x∈l.eraseIdx i:=by
 intro x hx
 obtain⟨k,hk,rfl⟩:=ae4 hx
 rw[aej]
 rcases aex k i with h|h|h
 ·exact⟨k,by rw[agE,ada h,acF hk]⟩
 ·subst h
  refine⟨j - 1, ?_⟩
  rw[agE,ac8 (by omega),show j - 1+1=j from by omega,acF hj]
  rw[aas,aas,acF hk,acF hj]at e
  exact congrArg some e.symm
 ·exact⟨k - 1,by rw[agE,ac8 (by omega),show k - 1+1=k from by omega,acF hk]⟩
theorem pR{l:List Int}{n:Int}(h:ql l n=true){i j:Nat}(hi:i<l.length)(hj:j<l.length)(e:l.getD i 0=l.getD j 0):i=j:=by
 obtain⟨h1,h2⟩:=cV.1 h
 have key:∀i j,i<j->j<l.length->l.getD i 0=l.getD j 0->False:=by
  intro i j hij hj e
  have hc:=count_le (dD n.toNat) (l.eraseIdx i) jM fun x hx=>EH hij hj e x (h2 x hx)
  have hlen:(dD n.toNat).length=n.toNat:=by simp[dD]
  have hle:=aeR (p:=fun y=>decide (y∈dD n.toNat)) (l:=l.eraseIdx i)
  rw[List.length_eraseIdx_of_lt (by omega)]at hle
  omega
 rcases aex i j with h|h|h
 ·exact(key i j h hj e).elim
 ·exact h
 ·exact(key j i h hi e.symm).elim
theorem EI{l:List Int}{n:Int}(h:ql l n=true){p:Nat} :∀ {k:Nat},p<k->k<=l.length->(GI n.toNat l k).getD (l.getD p 0).toNat 0=p
 |0,hp,_=>by omega
 |k+1,hp,hk=>by
  have hlo:=Bo h
  have hp1:=hlo _ (l8 (l:=l) (m:=p) (by omega))
  have Ao:=hlo _ (l8 (l:=l) (m:=k) (by omega))
  simp only[GI,aas (l:=(GI n.toNat l k).set _ _),aeb,atK_length]
  by_cases hpk:p=k
  ·subst hpk
   rw[ada rfl,ada (by omega)];rfl
  ·have hne:¬(l.getD k 0).toNat=(l.getD p 0).toNat:=fun e=>hpk (pR h (i:=p) (j:=k) (by omega) (by omega) (by omega))
   rw[ac8 hne, <- List.getD_eq_getElem?_getD]
   exact EI h (by omega) (by omega)
theorem MP{g:Gr}(hm:aM g=true)(h:KJ g=true):EG g (aZ g)=true:=by
 have he:=KK hm h
 obtain⟨hP,hO,_⟩:=jL hm
 have hall:=(cV.1 he).2
 simp only[EG,he,aep,P6,ad8,adl,ade]
 intro i hi
 have hh:=aU hm hi
 obtain⟨p,hp,e⟩:=ae4 (hall (hd g i) (cE.2 (by omega)))
 have e':(aZ g).getD p 0=hd g i:=by rw[aas,acF hp];exact e
 have ht:=hO p hp i hi e'.symm
 rw[aej]at ht
 obtain⟨q,hq⟩:=ht
 rw[adE]at hq
 split at hq
 ·rename_i hqp
  have e2:(aZ g).getD q 0=tl g i:=by rw[aas,hq];rfl
  rw[<- e', <- e2,EI he hp (adh _),EI he (by omega) (adh _)]
  omega
 ·cases hq
end Go.Ab
end
section
set_option maxHeartbeats 8000000
set_option maxRecDepth 10000
namespace Go.Ab
attribute [local congr] ACall.congr gd.congr Hd.congr Ny.congr vcOps.congr
open Go.Proofs
def gz:Gr:=⟨0, []⟩
def vz:D:= .pt [.sc (.int .i64 0), .sl 2 [], .sl 1 [], .sl 1 []]
def bQ(f:Edge->Int)(g:Gr)(x:Int):List Int:=if 0<=x/\x<g.n then aJ f g.es g.es.length x else []
theorem Bq(f:Edge->Int)(g:Gr)(hm:aM g=true)(x:Int):Spec Tryz.prog 128 (Args [.d (vw g), .d (.sl 1 (RQ f g)),eN x]) [] (.d (sI (bQ f g x))) []:=by
 rw[cm]
 have hn:=aB hm
 have hl':(aJ f g.es g.es.length x).length<=1000000:=by have:=iU (f:=f) (es:=g.es) (k:=g.es.length) (x:=x);omega
 (refine T.h [] [] [.t 6] Tryz.func128 rfl rfl (by kernel_rfl) fun X hX hP hC aA bB=> ?_)
 by_cases hx:0<=x/\x<g.n
 ·have hv:=qO (f:=f) (g:=g) (x:=x.toNat) (by omega)
  have he:gU f g.es g.es.length x.toNat=aJ f g.es g.es.length x:=by rw[oe,show((x.toNat:Nat):Int)=x from by omega]
  rw[he]at hv
  have hb1:decide (x<0)=false:=ac6 (by omega)
  have hb2:decide (g.n<=x)=false:=ac6 (by omega)
  have ht:bQ f g x=aJ f g.es g.es.length x:=ada hx
  repeat' (first|refine Rn.p ?_|((first|refine Rs.p ?_|refine Hd.mk ?_|refine aa (qL (aJ f g.es g.es.length x) hl') rfl ?_);try simp only[go_sem,simprocAttr,hv,hb1,hb2])|with_reducible (apply And.intro)|omega)
  simp[ht]
 ·have ht:bQ f g x= []:=ac8 hx
  repeat' (first|refine Rn.p ?_|((first|refine Rs.p ?_|refine Hd.mk ?_);try simp only[go_sem,simprocAttr,ht])|with_reducible (first|apply And.intro|(intro h;try simp only[go_sem,simprocAttr,ht]at h))|omega)
theorem sM(g:Gr)(hm:aM g=true)(x:Int):Spec Tryz.prog 73 (Args [.d (vw g),eN x]) [] (.d (sI (bQ (·.1) g x))) []:=by
 (refine T.h [] [] [.t 4] Tryz.func73 rfl rfl (by kernel_rfl) fun X hX hP hC aA bB=> ?_)
 repeat' (first|refine Rn.p ?_|((first|refine Rs.p ?_|refine Hd.mk ?_|refine aa (Bq (·.1) g hm x) rfl ?_);try simp only[go_sem,simprocAttr,cm]))
theorem Bt(g:Gr)(hm:aM g=true)(x:Int):Spec Tryz.prog 100 (Args [.d (vw g),eN x]) [] (.d (sI (bQ (·.2) g x))) []:=by
 (refine T.h [] [] [.t 4] Tryz.func100 rfl rfl (by kernel_rfl) fun X hX hP hC aA bB=> ?_)
 repeat' (first|refine Rn.p ?_|((first|refine Rs.p ?_|refine Hd.mk ?_|refine aa (Bq (·.2) g hm x) rfl ?_);try simp only[go_sem,simprocAttr,cm]))
abbrev It:=Int × Int × Int
def rT(t:It):List D:= [.sc (.int .i64 t.1), .sc (.int .i64 t.2.1), .sc (.int .i64 t.2.2)]
def eT(t:It):AV:= .agg [.d (.sc (.int .i64 t.1)), .d (.sc (.int .i64 t.2.1)), .d (.sc (.int .i64 t.2.2))]
def sT(ts:List It):D:= .sl 3 (ts.map rT)
theorem getD_rT(ps:List It)(i:Nat):(ps.map rT).getD i [.sc (.int .i64 0), .sc (.int .i64 0), .sc (.int .i64 0)]=rT (ps.getD i (0,0,0)):=by
 simp only[aas,adn]
 cases ps[i]? <;>rfl
theorem rT_eq(t:It):rT t= [.sc (.int .i64 t.1), .sc (.int .i64 t.2.1), .sc (.int .i64 t.2.2)]:=rfl
attribute [go_sem] getD_rT rT_eq eT sT
theorem tV{l:List Int} :∀r∈l.map rI,∀x∈r,∃v,x=D.sc v:=by
 intro r hr x hx
 obtain⟨y,_,rfl⟩:=adb.1 hr
 simp only[rI,adv]at hx
 exact⟨_,hx⟩
theorem tW{l:List It} :∀r∈l.map rT,∀x∈r,∃v,x=D.sc v:=by
 intro r hr x hx
 obtain⟨y,_,rfl⟩:=adb.1 hr
 simp only[rT,adw,aeo,or_false]at hx
 rcases hx with h|h|h<;>exact⟨_,h⟩
theorem y4(ps:List It)(hl:ps.length<=1000000):
 Spec Tryz.prog 142 (Args [.d (sT ps)]) [] (.ref 10000) [(10000, .tip 92 3 (ps.map rT))]:=by
 (refine T.hR [] [] [.t 2] [(10000,7)] Tryz.func142 rfl rfl (by kernel_rfl) fun X hX hP hC aA bB=> ?_)
 repeat' (first|(show cR _ .ret _ _;(try simp only[go_sem,simprocAttr]);refine dQ hX 2 7 (.tip 92 3 []) ?_ ?_ (by decide) ⟨92,3,by decide, .inr rfl⟩ ?_;(iterate 2 (focus(simp only[go_sem,simprocAttr];done)));simp only[go_sem,simprocAttr])|refine Rn.p ?_|((first|refine Rs.p ?_|refine Hd.mk ?_);try simp only[go_sem,simprocAttr])|with_reducible (first|apply And.intro|(intro h;try simp only[go_sem,simprocAttr]at h))|omega)
 exact h.symm
theorem EJ(ps:List Int)(hl:ps.length<=1000000):
 Spec Tryz.prog 44 (Args [.d (sI ps)]) [] (.ref 10000) [(10000, .tip 3 1 (ps.map rI))]:=by
 (refine T.hR [] [] [.t 2] [(10000,7)] Tryz.func44 rfl rfl (by kernel_rfl) fun X hX hP hC aA bB=> ?_)
 repeat' (first|(show cR _ .ret _ _;(try simp only[go_sem,simprocAttr]);refine dQ hX 2 7 (.tip 3 1 []) ?_ ?_ (by decide) ⟨3,1,by decide, .inr rfl⟩ ?_;(iterate 2 (focus(simp only[go_sem,simprocAttr];done)));simp only[go_sem,simprocAttr])|refine Rn.p ?_|((first|refine Rs.p ?_|refine Hd.mk ?_);try simp only[go_sem,simprocAttr])|with_reducible (first|apply And.intro|(intro h;try simp only[go_sem,simprocAttr]at h))|omega)
 exact h.symm
theorem qm{m:List (Nat × AObj)}(hR:cC m)(f:Nat)(caps:List AV)(g:It->Bool)(ps:List It)(hf:∀p∈ps,Spec Tryz.prog f (Args (eT p::caps)) m (eB (g p)) m)(hl:ps.length<=9223372036854775807):
 Spec Tryz.prog 219 (Args [.d (sT ps), .fn f [] caps]) m (eN (bT g ps)) m:=by
 (refine T.hS [] [] [.t 4] hR Tryz.func219 rfl rfl (by kernel_rfl) fun X hX hP hC aA bB=> ?_)
 repeat' (first|refine Rn.p ?_|((first|refine Rs.p ?_|refine Hd.mk ?_);try simp only[go_sem,simprocAttr]))
 refine ag (fun k:Nat=>k<=ps.length/\∀j,j<k->g (ps.getD j (0,0,0))=false) (fun k=>⟨[(0, .d (sT ps)),(1, .fn f [] caps),(7,eN ps.length),(8,eN k)],m⟩) (fun k=>ps.length - k) 0 (by simp) ?_ ?_
 ·(refine⟨bS ?_,fun _ _ h=>h⟩;simp[go_sem,simprocAttr])
 rintro k ⟨hk,hg⟩
 rcases adk k ps.length with hlt|hge
 ·have hb:decide ((k:Int)<(ps.length:Int))=true:=ac7 (by omega)
  have hf':=hf (ps.getD k (0,0,0)) (az hlt)
  repeat' (first|refine Rn.p ?_|((first|refine Rs.p ?_|refine Hd.mk ?_|(first|(refine aR hR (hf') ?_ rfl rfl ?_;(focus(first|exact fun p hp=>aL (cC.nd hR) hp|(simp[go_sem,simprocAttr,hb];done))))|(refine aR hR (hf') ?_ ?_ rfl ?_;(focus(first|exact fun p hp=>aL (cC.nd hR) hp|(simp[go_sem,simprocAttr,hb];done)));(focus(simp[go_sem,simprocAttr,hb];done)))));try simp only[go_sem,simprocAttr,hb])|with_reducible (first|apply And.intro|(intro h;try simp only[go_sem,simprocAttr,hb]at h))|omega)
  ·exact(b9 (by omega) hg h).symm
  ·exact cu hR
  ·refine⟨k+1,⟨by omega,fun j hj=> ?_⟩, ?_,by omega⟩
   ·by_cases hjk:j=k
    ·subst hjk;exact h
    ·exact hg j (by omega)
   ·(refine⟨bS ?_,fun _ _ h=>h⟩;simp[go_sem,simprocAttr,hb])
 ·have hb:decide ((k:Int)<(ps.length:Int))=false:=ac6 (by omega)
  repeat' (first|refine Rn.p ?_|((first|refine Rs.p ?_|refine Hd.mk ?_);try simp only[go_sem,simprocAttr,hb])|with_reducible (apply And.intro))
  ·exact(bL (0,0,0) fun j hj=>hg j (by omega)).symm
  ·exact cu hR
theorem uQ{m:List (Nat × AObj)}(hR:cC m)(f:Nat)(caps:List AV)(g:It->Bool)(ps:List It)(hf:∀p∈ps,Spec Tryz.prog f (Args (eT p::caps)) m (eB (g p)) m)(hl:ps.length<=9223372036854775807):
 Spec Tryz.prog 205 (Args [.d (sT ps), .fn f [] caps]) m (eB (ps.any g)) m:=by
 (refine T.hS [] [] [.t 4] hR Tryz.func205 rfl rfl (by kernel_rfl) fun X hX hP hC aA bB=> ?_)
 repeat' (first|refine Rn.p ?_|((first|refine Rs.p ?_|refine Hd.mk ?_|(first|(refine aR hR (qm hR f caps g ps hf hl) ?_ rfl rfl ?_;(focus(first|exact fun p hp=>aL (cC.nd hR) hp|(simp[go_sem,simprocAttr];done))))|(refine aR hR (qm hR f caps g ps hf hl) ?_ ?_ rfl ?_;(focus(first|exact fun p hp=>aL (cC.nd hR) hp|(simp[go_sem,simprocAttr];done)));(focus(simp[go_sem,simprocAttr];done)))));try simp only[go_sem,simprocAttr])|with_reducible (apply And.intro))
 ·exact cT g ps
 ·exact cu hR
theorem I7(n:Int)(h0:0<n)(hl:n<=1000000):Spec Tryz.prog 207 (Args [.nil 92,eN n]) [] (.ref 10000) [(10000, .own 92 3 [])]:=by
 (refine T.hR [] [] [.t 4] [(10000,25)] Tryz.func207 rfl rfl (by kernel_rfl) fun X hX hP hC aA bB=> ?_)
 repeat' (first|refine Rn.p ?_|((first|refine Rs.p ?_|refine Hd.mk ?_);try simp only[go_sem,simprocAttr])|with_reducible (first|apply And.intro|(intro h;try simp only[go_sem,simprocAttr]at h))|omega)
def vT(ls:List (List It)):List (List D):=ls.map fun l=> [sT l]
theorem vT_length{ls:List (List It)} :(vT ls).length=ls.length:=by simp[vT]
theorem wu{ls:List (List It)}{k:Nat}(h:k<ls.length)(d:List D):(vT ls).getD k d= [sT (ls.getD k [])]:=by
 simp[vT,aas,acF h]
attribute [go_sem] vT_length
theorem Bu{α:Type}{ls:List (List α)}{k:Nat}(h:k<ls.length):(ls.take (k+1)).flatten=(ls.take k).flatten++ls.getD k []:=by
 rw[ad2,af0,acF h,aas,acF h]
 simp
theorem wz{α:Type}{ls:List (List α)}{k:Nat} :(ls.take k).flatten.length<=ls.flatten.length:=by
 have:=congrArg (fun x=>x.flatten.length) (afG k ls)
 simp only[af0,adj]at this
 omega
theorem EK(ls:List (List It))(hn:ls.length<=1000)(h0:0<ls.flatten.length)(hl:ls.flatten.length<=1000000):Spec Tryz.prog 191 (Args [.d (.sl 1 (vT ls))]) [] (.d (sT ls.flatten)) []:=by
 (refine T.h [] [] [.t 2] Tryz.func191 rfl rfl (by kernel_rfl) fun X hX hP hC aA bB=> ?_)
 repeat' (first|refine Rn.p ?_|((first|refine Rs.p ?_|refine Hd.mk ?_);try simp only[go_sem,simprocAttr]))
 refine ag (fun k:Nat=>k<=ls.length) (fun k=>⟨[(0, .d (.sl 1 (vT ls))),(9, .d (.sl 1 (vT ls))),(10,eN ls.length),(11,eN k),(3,eN ((ls.take k).flatten.length))], []⟩) (fun k=>ls.length - k) 0 (by omega) ?_ ?_
 ·(refine Le.of ?_ ?_<;>simp[go_sem,simprocAttr])
 ·rintro k hk
  rcases adk k ls.length with hlt|hge
  ·have hb:decide ((k:Int)<(ls.length:Int))=true:=ac7 (by omega)
   have hv:=wu hlt
   have hf:=Bu hlt
   have Zb:=wz (ls:=ls) (k:=k)
   have Pn:=wz (ls:=ls) (k:=k+1)
   rw[hf,adj]at Pn
   have hneg:decide (((ls.take k).flatten.length:Int)+((ls.getD k []).length:Int)<0)=false:=ac6 (by omega)
   repeat' (first|refine Rn.p ?_|((first|refine Rs.p ?_|refine Hd.mk ?_);try simp only[go_sem,simprocAttr,hb,hv,hneg])|with_reducible (apply And.intro)|omega)
   refine⟨k+1,by omega, ?_,by omega⟩
   simp only[hf]
   refine Le.of ?_ ?_<;>simp[go_sem,simprocAttr,hb,hv,hneg]
  ·have hb:decide ((k:Int)<(ls.length:Int))=false:=ac6 (by omega)
   have ht:ls.take k=ls:=adC (by omega)
   repeat' (first|refine Rn.p ?_|((first|refine Rs.p ?_|refine Hd.mk ?_|(refine aS [(10000,33)] (I7 (ls.flatten.length:Int) (by omega) (by omega)) ?_ ?_;(focus(simp[go_sem,simprocAttr,hb,ht];done))));try simp only[go_sem,simprocAttr,hb,ht]))
   refine ag (fun k:Nat=>k<=ls.length) (fun k=>⟨[(25, .d (.sl 1 (vT ls))),(26,eN ls.length),(27,eN k),(6, .ref 33)], [(33, .own 92 3 ((ls.take k).flatten.map rT))]⟩) (fun k=>ls.length - k) 0 (by omega) ?_ ?_
   ·(refine Le.of ?_ ?_<;>simp[go_sem,simprocAttr,hb,ht])
   ·clear hb ht hk hge
    rintro k hk
    rcases adk k ls.length with hlt|hge
    ·have hb:decide ((k:Int)<(ls.length:Int))=true:=ac7 (by omega)
     have hv:=wu hlt
     have hf:=Bu hlt
     have Zb:=wz (ls:=ls) (k:=k)
     have Pn:=wz (ls:=ls) (k:=k+1)
     rw[hf,adj]at Pn
     repeat' (first|refine Rn.p ?_|((first|refine Rs.p ?_|refine Hd.mk ?_);try simp only[go_sem,simprocAttr,hb,hv])|with_reducible (apply And.intro)|omega)
     refine⟨k+1,by omega, ?_,by omega⟩
     simp only[hf]
     refine Le.of ?_ ?_<;>simp[go_sem,simprocAttr,hb,hv]
    ·have hb:decide ((k:Int)<(ls.length:Int))=false:=ac6 (by omega)
     have ht:ls.take k=ls:=adC (by omega)
     repeat' (first|refine Rn.p ?_|((first|refine Rs.p ?_|refine Hd.mk ?_);try simp only[go_sem,simprocAttr,hb,ht]))
structure Fr where
 row:List It
 pl:List Int
def tX(g:Gr)(f:Fr):D:= .pt [sT f.row,vw g,sI f.pl]
def iZ(row:List It)(x:Int):Nat->Int × Int × Int
 |0=>(-1,0,0)
 |k+1=>if(row.getD k (0,0,0)).2.2=x then(if(iZ row x k).1= -1 then(k:Int) else(iZ row x k).1,(k:Int)+1,(iZ row x k).2.2+1) else iZ row x k
def bH(row:List It)(x:Int):Int × Int × Int:=iZ row x row.length
theorem uR{row:List It}{x:Int}{k:Nat} :iZ row x (k+1)=if(row.getD k (0,0,0)).2.2=x then(if(iZ row x k).1= -1 then(k:Int) else(iZ row x k).1,(k:Int)+1,(iZ row x k).2.2+1) else iZ row x k:=rfl
theorem gX{row:List It}{x:Int} :∀k:Nat,(iZ row x k=(-1,0,0)/\∀j,j<k->(row.getD j (0,0,0)).2.2≠x)\/
 ∃a b c:Nat,iZ row x k=((a:Int),(b:Int),(c:Int))/\a<b/\b<=k/\0<c/\c<=k/\(row.getD a (0,0,0)).2.2=x/\(row.getD (b - 1) (0,0,0)).2.2=x/\(∀j,j<a->(row.getD j (0,0,0)).2.2≠x)/\(∀j,b<=j->j<k->(row.getD j (0,0,0)).2.2≠x)
 |0=> .inl ⟨rfl,fun j hj=>by omega⟩
 |k+1=>by
  rw[uR]
  by_cases hx:(row.getD k (0,0,0)).2.2=x
  ·rw[ada hx]
   right
   rcases gX (row:=row) (x:=x) k with ⟨h1,h2⟩|⟨a,b,c,h1,h2,h3,h4,h5,h6,h7,h8,h9⟩
   ·refine⟨k,k+1,1,by rw[h1];rfl,by omega,by omega,by omega,by omega,hx,hx,h2,fun j h1 h2=>by omega⟩
   ·refine⟨a,k+1,c+1,by rw[h1];simp only[aff];exact⟨by rw[ac8 (by omega)],by omega,by omega⟩,by omega,by omega,by omega,by omega,h6,hx,h8,fun j h1 h2=>by omega⟩
  ·rw[ac8 hx]
   rcases gX (row:=row) (x:=x) k with ⟨h1,h2⟩|⟨a,b,c,h1,h2,h3,h4,h5,h6,h7,h8,h9⟩
   ·refine .inl ⟨h1,fun j hj=> ?_⟩
    by_cases hjk:j=k
    ·subst hjk;exact hx
    ·exact h2 j (by omega)
   ·refine .inr ⟨a,b,c,h1,h2,by omega,h4,by omega,h6,h7,h8,fun j X3 h11=> ?_⟩
    by_cases hjk:j=k
    ·subst hjk;exact hx
    ·exact h9 j X3 (by omega)
theorem sN(ds:List D)(row:List It)(x:Int)(hl:row.length<=1000000):Spec Tryz.prog 139 (Args [.d (.pt (sT row::ds)),eN x]) [] (.tup [eN (bH row x).1,eN (bH row x).2.1,eN (bH row x).2.2]) []:=by
 (refine T.h [] [] [.t 4, .t 5, .t 6] Tryz.func139 rfl rfl (by kernel_rfl) fun X hX hP hC aA bB=> ?_)
 repeat' (first|refine Rn.p ?_|((first|refine Rs.p ?_|refine Hd.mk ?_);try simp only[go_sem,simprocAttr,bH]))
 refine ag (fun k:Nat=>k<=row.length) (fun k=>⟨[(1,eN x),(12, .d (sT row)),(13,eN row.length),(14,eN k),(4,eN (iZ row x k).1),(5,eN (iZ row x k).2.1),(6,eN (iZ row x k).2.2)], []⟩) (fun k=>row.length - k) 0 (by simp) ?_ ?_
 ·refine Le.of ?_ ?_<;>simp[go_sem,simprocAttr,bH,iZ]
 rintro k hk
 rcases adk k row.length with hlt|hge
 ·have hb:decide ((k:Int)<(row.length:Int))=true:=ac7 (by omega)
  have hok:=gX (row:=row) (x:=x) k
  have hc: -1<=(iZ row x k).2.2/\(iZ row x k).2.2<=k:=by
   rcases hok with ⟨h1,_⟩|⟨a,b,c,h1,_,_,_,_,_⟩<;>rw[h1]<;>simp only<;>omega
  have dw:=uR (row:=row) (x:=x) (k:=k)
  repeat' (first|refine Rn.p ?_|((first|refine Rs.p ?_|refine Hd.mk ?_);try simp only[go_sem,simprocAttr,hb])|with_reducible (first|apply And.intro|(intro h;try simp only[go_sem,simprocAttr,hb]at h))|omega)
  all_goals(first|rw[ac8 (by assumption)]at dw|(rw[ada (by assumption)]at dw;first|rw[ada (by assumption)]at dw|rw[ac8 (by assumption)]at dw))
  all_goals(refine⟨k+1,by omega, ?_,by omega⟩;refine Le.of ?_ ?_<;>simp[go_sem,simprocAttr,hb,dw])
 ·have hb:decide ((k:Int)<(row.length:Int))=false:=ac6 (by omega)
  obtain rfl:k=row.length:=by omega
  repeat' (first|refine Rn.p ?_|((first|refine Rs.p ?_|refine Hd.mk ?_);try simp only[go_sem,simprocAttr,hb,bH]))
def pS(x:Int)(t:It):Bool:=decide (t.2.2≠x)&&decide (t.2.2≠ -1)
def y5(row:List It)(x:Int)(a b:Nat):Bool:= !((row.take b).drop a).any (pS x)
theorem VC(x:Int):cC [(10000, .rob [eN x])]:=⟨by simp[AObj.ro],by simp[nodupM,look],by simp,by simp[AObj.ids,AV.ids,AV.idss,eN]⟩
theorem I8(x:Int)(t:It):Spec Tryz.prog 206 (Args [eT t, .ptr 10000 0]) [(10000, .rob [eN x])] (eB (pS x t)) [(10000, .rob [eN x])]:=by
 (refine T.hS [] [] [.t 3] (VC x) Tryz.func206 rfl rfl (by kernel_rfl) fun X hX hP hC aA bB=> ?_)
 repeat' (first|refine Rn.p ?_|((first|refine Rs.p ?_|refine Hd.mk ?_);try simp only[go_sem,simprocAttr])|with_reducible (first|apply And.intro|(intro h;try simp only[go_sem,simprocAttr]at h)))
 all_goals(simp only[pS];first|exact cu (VC x)|simp[*])
theorem I9(ds:List D)(row:List It)(x:Int)(a b:Nat)(hab:a<=b)(hb:b<=row.length)(hl:row.length<=1000000):Spec Tryz.prog 190 (Args [.d (.pt (sT row::ds)),eN x,eN a,eN b]) [] (eB (y5 row x a b)) []:=by
 have CR:sT ((row.take b).drop a)= .sl 3 (((row.map rT).take b).drop a):=by simp[sT,aew,aeM]
 have iF:((row.take b).drop a).length<=9223372036854775807:=by simp;omega
 (refine T.h [] [] [.t 8] Tryz.func190 rfl rfl (by kernel_rfl) fun X hX hP hC aA bB=> ?_)
 repeat' (first|refine Rn.p ?_|((first|refine Rs.p ?_|refine Hd.mk ?_|(refine bw [(10000,5)] (uQ (VC x) _ [.ptr 10000 0] (pS x) ((row.take b).drop a) (fun t _=>I8 x t) iF) ?_ ?_;(focus(simp[go_sem,simprocAttr,aew,aeM];done))));try simp only[go_sem,simprocAttr,aew,aeM])|with_reducible (apply And.intro)|omega)
 rfl
def gh(g:Gr)(f:Fr)(x:Int):Bool:=
 if x<0\/g.n<=x\/x∈f.pl then false else
 decide ((bH f.row x).2.2=((bQ (·.2) g x).length:Int))&&(decide ((bQ (·.2) g x).length=0)||y5 f.row x (bH f.row x).1.toNat (bH f.row x).2.1.toNat)
theorem Ja{f:Edge->Int}{g:Gr}{x:Int} :(bQ f g x).length<=g.es.length:=by
 unfold bQ
 split
 ·exact iU
 ·simp
theorem pT(g:Gr)(hm:aM g=true)(f:Fr)(x:Int)(hr:f.row.length<=1000000)(dI:f.pl.length<=1000000):Spec Tryz.prog 138 (Args [.d (tX g f),eN x]) [] (eB (gh g f x)) []:=by
 have hp:f.pl.length<=9223372036854775807:=by omega
 have hn:=aB hm
 unfold tX
 by_cases hx:x<0\/g.n<=x\/x∈f.pl
 ·have hR:gh g f x=false:=ada hx
  (refine T.h [] [] [.t 4] Tryz.func138 rfl rfl (by kernel_rfl) fun X hX hP hC aA bB=> ?_)
  by_cases h1:x<0
  ·have hb1:decide (x<0)=true:=ac7 h1
   repeat' (first|refine Rn.p ?_|((first|refine Rs.p ?_|refine Hd.mk ?_);try simp only[go_sem,simprocAttr,cm,hR,hb1]))
  have hb1:decide (x<0)=false:=ac6 h1
  by_cases h2:g.n<=x
  ·have hb2:decide (g.n<=x)=true:=ac7 h2
   repeat' (first|refine Rn.p ?_|((first|refine Rs.p ?_|refine Hd.mk ?_);try simp only[go_sem,simprocAttr,cm,hR,hb1,hb2]))
  have hb2:decide (g.n<=x)=false:=ac6 h2
  have h3:x∈f.pl:=by rcases hx with h|h|h;exact absurd h h1;exact absurd h h2;exact h
  have hb3:decide (x∈f.pl)=true:=ac7 h3
  repeat' (first|refine Rn.p ?_|((first|refine Rs.p ?_|refine Hd.mk ?_|refine aa (dm f.pl x hp) rfl ?_);try simp only[go_sem,simprocAttr,cm,hR,hb1,hb2,hb3]))
 ·have hb1:decide (x<0)=false:=ac6 fun h=>hx (.inl h)
  have hb2:decide (g.n<=x)=false:=ac6 fun h=>hx (.inr (.inl h))
  have hb3:decide (x∈f.pl)=false:=ac6 fun h=>hx (.inr (.inr h))
  have hR:gh g f x=(decide ((bH f.row x).2.2=((bQ (·.2) g x).length:Int))&&(decide ((bQ (·.2) g x).length=0)||y5 f.row x (bH f.row x).1.toNat (bH f.row x).2.1.toNat)):=ac8 hx
  by_cases h4:(bH f.row x).2.2=((bQ (·.2) g x).length:Int)
  ·have hb4:decide ((bH f.row x).2.2=((bQ (·.2) g x).length:Int))=true:=ac7 h4
   by_cases h5:(bQ (·.2) g x).length=0
   ·have hb5:decide (((bQ (·.2) g x).length:Int)=0)=true:=ac7 (by omega)
    rw[hb4,ac7 h5]at hR
    (refine T.h [] [] [.t 4] Tryz.func138 rfl rfl (by kernel_rfl) fun X hX hP hC aA bB=> ?_)
    repeat' (first|refine Rn.p ?_|((first|refine Rs.p ?_|refine Hd.mk ?_|refine aa (Bt g hm x) rfl ?_|refine aa (dm f.pl x hp) rfl ?_|refine aa (sN [vw g,sI f.pl] f.row x hr) rfl ?_);try simp only[go_sem,simprocAttr,cm,hR,hb1,hb2,hb3,hb4,hb5]))
   ·have hb5:decide (((bQ (·.2) g x).length:Int)=0)=false:=ac6 (by omega)
    rcases gX (row:=f.row) (x:=x) f.row.length with ⟨h6,_⟩|⟨a,b,c,h6,hab,Ct,_⟩
    ·exfalso
     have:(bH f.row x).2.2=0:=by unfold bH;rw[h6]
     omega
    ·have hsp:bH f.row x=((a:Int),(b:Int),(c:Int)):=h6
     have hab:a<=b:=by omega
     rw[hb4,ac6 h5,hsp]at hR
     simp only[aep,aeL,Int.toNat_natCast]at hR
     rw[hsp]at hb4
     (refine T.h [] [] [.t 4] Tryz.func138 rfl rfl (by kernel_rfl) fun X hX hP hC aA bB=> ?_)
     repeat' (first|refine Rn.p ?_|((first|refine Rs.p ?_|refine Hd.mk ?_|refine aa (Bt g hm x) rfl ?_|refine aa (dm f.pl x hp) rfl ?_|refine aa (sN [vw g,sI f.pl] f.row x hr) rfl ?_|refine aa (I9 [vw g,sI f.pl] f.row x a b hab Ct hr) rfl ?_);try simp only[go_sem,simprocAttr,cm,hR,hb1,hb2,hb3,hb4,hb5,hsp]))
  ·have hb4:decide ((bH f.row x).2.2=((bQ (·.2) g x).length:Int))=false:=ac6 h4
   rw[hb4,agc]at hR
   (refine T.h [] [] [.t 4] Tryz.func138 rfl rfl (by kernel_rfl) fun X hX hP hC aA bB=> ?_)
   repeat' (first|refine Rn.p ?_|((first|refine Rs.p ?_|refine Hd.mk ?_|refine aa (Bt g hm x) rfl ?_|refine aa (dm f.pl x hp) rfl ?_|refine aa (sN [vw g,sI f.pl] f.row x hr) rfl ?_);try simp only[go_sem,simprocAttr,cm,hR,hb1,hb2,hb3,hb4]))
theorem MQ(ds:List D)(row:List It)(hr:row.length<=1000000):Spec Tryz.prog 90 (Args [.d (.pt (sT row::ds))]) [] (.ref 10000) [(10000, .tip 92 3 (row.map rT))]:=by
 (refine T.hR [] [] [.t 2] [(10000,7)] Tryz.func90 rfl rfl (by kernel_rfl) fun X hX hP hC aA bB=> ?_)
 repeat' (first|refine Rn.p ?_|((first|refine Rs.p ?_|refine Hd.mk ?_|(refine aS [(10000,7)] (y4 row hr) ?_ ?_;(focus(simp[go_sem,simprocAttr];done))));try simp only[go_sem,simprocAttr]))
theorem kg(l:List Int):Spec Tryz.prog 137 (Args [.d (sI l)]) [] (.fn 189 [] [.ptr 10000 0]) [(10000, .box [.d (sI l)])]:=by
 (refine T.hR [] [] [.t 2] [(10000,1)] Tryz.func137 rfl rfl (by kernel_rfl) fun X hX hP hC aA bB=> ?_)
 repeat' (first|refine Rn.p ?_|((first|refine Rs.p ?_|refine Hd.mk ?_);try simp only[go_sem,simprocAttr]))
theorem ki(xs ys:List Int)(hlen:xs.length<=9223372036854775807):Spec Tryz.prog 133 (Args [.d (sI xs), .d (sI ys)]) [] (eB (decide (xs=ys))) []:=by
 (refine T.h [] [] [.t 4] Tryz.func133 rfl rfl (by kernel_rfl) fun X hX hP hC aA bB=> ?_)
 repeat' (first|refine Rn.p ?_|((first|refine Rs.p ?_|refine Hd.mk ?_);try simp only[go_sem,simprocAttr])|with_reducible (first|apply And.intro|(intro h;try simp only[go_sem,simprocAttr]at h)))
 ·have:xs≠ys:=fun e=>h (by rw[e])
  simp[this]
 refine ag (fun k:Nat=>k<=xs.length/\xs.take k=ys.take k) (fun k=>⟨[(0, .d (sI xs)),(1, .d (sI ys)),(12,eN xs.length),(13,eN k)], []⟩) (fun k=>xs.length - k) 0 (by simp) ?_ ?_
 ·(refine⟨bS ?_,fun _ _ h=>h⟩;simp[go_sem,simprocAttr])
 rintro k ⟨hk,hp⟩
 have L3:xs.length=ys.length:=by omega
 repeat' (first|refine Rn.p ?_|((first|refine Rs.p ?_|refine Hd.mk ?_);try simp only[go_sem,simprocAttr])|with_reducible (first|apply And.intro|refine oD (by kernel_rfl) ?_|(intro h;try simp only[go_sem,simprocAttr]at h))|omega)
 ·have:xs≠ys:=fun e=>h (by rw[e])
  simp[this]
 ·refine⟨k+1,⟨by omega,Mj 0 (by omega) (by omega) hp h⟩, ?_,by omega⟩
  (refine⟨bS ?_,fun _ _ h=>h⟩;simp[go_sem,simprocAttr])
 ·have:k=xs.length:=by omega
  subst this
  rw[adC (adh _),adC (by omega)]at hp
  simp[hp]
def gM(g:Gr)(x:Int)(i:Int):It:=(i,x,(g.es.getD i.toNat (0,0)).2)
def aQ(g:Gr)(x:Int)(outs:List Int):List It:=if outs= [] then [(-1,x, -1)] else outs.map (gM g x)
theorem uS{α β:Type}{f:α->β}{l:List α}{d:α}{k:Nat}(h:k<l.length):(l.take (k+1)).map f=(l.take k).map f++ [f (l.getD k d)]:=by
 rw[ad2,adt,acF h,aas,acF h]
 rfl
theorem Jb(g:Gr)(f:Fr)(x:Int)(outs:List Int)(hl:outs.length<=1000000)(ho:∀i∈outs,0<=i/\i<g.es.length):Spec Tryz.prog 141 (Args [.d (tX g f),eN x, .d (sI outs)]) [] (.ref 10000) [(10000, .tip 92 3 ((aQ g x outs).map rT))]:=by
 unfold tX
 by_cases h0:outs= []
 ·subst h0
  have hA:aQ g x []= [(-1,x, -1)]:=ada rfl
  rw[hA]
  (refine T.hR [] [] [.t 6] [(10000,14)] Tryz.func141 rfl rfl (by kernel_rfl) fun X hX hP hC aA bB=> ?_)
  repeat' (first|refine Rn.p ?_|((first|refine Rs.p ?_|refine Hd.mk ?_);try simp only[go_sem,simprocAttr,cm]))
 ·have hA:aQ g x outs=outs.map (gM g x):=ac8 h0
  rw[hA]
  have hb0:decide ((outs.length:Int)=0)=false:=ac6 fun h=>h0 (adF (by omega))
  (refine T.hR [] [] [.t 6] [(10000,38)] Tryz.func141 rfl rfl (by kernel_rfl) fun X hX hP hC aA bB=> ?_)
  repeat' (first|refine Rn.p ?_|((first|refine Rs.p ?_|refine Hd.mk ?_);try simp only[go_sem,simprocAttr,cm,hb0]))
  (refine dQ hX 6 38 (.tip 92 3 []) (by simp only[go_sem,simprocAttr,cm,hb0]) (by simp only[go_sem,simprocAttr,cm,hb0]) (by decide) ⟨92,3,by decide, .inr rfl⟩ ?_;simp only[go_sem,simprocAttr,cm,hb0])
  refine ag (fun k:Nat=>k<=outs.length) (fun k=>⟨[(0, .d (tX g f)),(1,eN x),(15, .d (sI outs)),(16,eN outs.length),(17,eN k),(6, .ref 38)], [(38, .tip 92 3 (((outs.take k).map (gM g x)).map rT))]⟩) (fun k=>outs.length - k) 0 (by omega) ?_ ?_
  ·refine Le.of ?_ ?_<;>simp[go_sem,simprocAttr,cm,hb0,tX]
  unfold tX
  rintro k hk
  rcases adk k outs.length with hlt|hge
  ·have hb:decide ((k:Int)<(outs.length:Int))=true:=ac7 (by omega)
   have dw:=uS (f:=gM g x) (d:=0) hlt
   have Wy:=ho _ (az (d:=0) hlt)
   have hlk:(outs.take k).length=k:=by simp;omega
   repeat' (first|refine Rn.p ?_|((first|refine Rs.p ?_|refine Hd.mk ?_);try simp only[go_sem,simprocAttr,cm,hb,hlk])|with_reducible (apply And.intro)|omega)
   refine⟨k+1,by omega, ?_,by omega⟩
   refine Le.of ?_ ?_<;>simp[go_sem,simprocAttr,cm,hb,hlk,dw,gM]
  ·have hb:decide ((k:Int)<(outs.length:Int))=false:=ac6 (by omega)
   obtain rfl:k=outs.length:=by omega
   have ht:outs.take outs.length=outs:=adC (by omega)
   repeat' (first|refine Rn.p ?_|((first|refine Rs.p ?_|refine Hd.mk ?_);try simp only[go_sem,simprocAttr,cm,hb,ht]))
def wN(g:Gr)(f:Fr):List (Nat × AObj):= [(10000, .box [.d (sT f.row), .d (vw g), .ref 10001]),(10001, .tip 3 1 (f.pl.map rI))]
theorem EL(row items:List It)(a b:Nat)(h0:0<items.length)(hr:row.length<=400000)(hi:items.length<=100000):Spec Tryz.prog 191 (Args [.d (.sl 1 [[.sl 3 (List.take a (row.map rT))], [.sl 3 (items.map rT)], [.sl 3 (List.drop b (row.map rT))]])]) [] (.d (sT (row.take a++items++row.drop b))) []:=by
 have hf: [row.take a,items,row.drop b].flatten=row.take a++items++row.drop b:=by simp
 have hlen: [row.take a,items,row.drop b].flatten.length=min a row.length+items.length+(row.length - b):=by simp;omega
 have:=EK [row.take a,items,row.drop b] (by simp) (by omega) (by omega)
 rw[hf]at this
 simpa only[vT,adD,adP,sT,aew,aeM]using this
theorem MR(g:Gr)(row items:List It)(pl:List Int)(a b:Nat)(hab:a<=b)(hb:b<=row.length)(h0:0<items.length)(hr:row.length<=400000)(hi:items.length<=100000):
 Spec Tryz.prog 140 (Args [.ptr 10000 0,eN a,eN b, .ref 10003]) (wN g ⟨row,pl⟩++ [(10003, .tip 92 3 (items.map rT))]) (.d (sT ((row.take b).drop a))) (wN g ⟨row.take a++items++row.drop b,pl⟩):=by
 have hcl:((row.take b).drop a).length<=1000000:=by simp;omega
 have Db:List.take row.length (row.map rT)=row.map rT:=adC (by simp)
 unfold wN
 simp only[List.cons_append,List.nil_append]
 (refine T.h [] [] [.t 8] Tryz.func140 rfl rfl (by kernel_rfl) fun X hX hP hC aA bB=> ?_)
 repeat' (first|refine Rn.p ?_|((first|refine Rs.p ?_|refine Hd.mk ?_|(refine aS [(10000,17)] (y4 ((row.take b).drop a) hcl) ?_ ?_;(focus(simp[go_sem,simprocAttr,aew,aeM,Db];done)))|(refine dN (EL row items a b h0 hr hi) ?_ rfl ?_;(focus(simp only[go_sem,simprocAttr,aew,aeM,Db];done))));try simp only[go_sem,simprocAttr,aew,aeM,Db])|with_reducible (first|apply And.intro|refine oD (by kernel_rfl) ?_)|omega)
def EM(g:Gr)(f:Fr):List (Nat × AObj):= [(10000, .box [.d (sT f.row), .d (vw g), .ref 10002]),(10002, .tip 3 1 (f.pl.map rI))]
def nJ(g:Gr)(f:Fr)(x:Int)(outs:List Int):(List It × Int) × Fr:=
 if gh g f x=false then(([],3),f) else if lu outs≠bQ (·.1) g x then(([],1),f) else
 (((f.row.take (bH f.row x).2.1.toNat).drop (max (bH f.row x).1 0).toNat,0),⟨f.row.take (max (bH f.row x).1 0).toNat++aQ g x outs++f.row.drop (bH f.row x).2.1.toNat,f.pl++ [x]⟩)
theorem gA{f:Edge->Int}{es:List Edge}{k:Nat}{x i:Int}(h:i∈aJ f es k x):(0<=i/\i<k)/\f (es.getD i.toNat (0,0))=x:=by
 simp only[aJ,adb,adJ,adl,ade]at h
 obtain⟨j,⟨h1,h2⟩,rfl⟩:=h
 exact⟨⟨Int.natCast_nonneg j,by simp;omega⟩,h2⟩
theorem Jc{f:Edge->Int}{g:Gr}{x i:Int}(h:i∈bQ f g x):(0<=i/\i<g.es.length)/\f (g.es.getD i.toNat (0,0))=x:=by
 unfold bQ at h
 split at h
 ·exact gA h
 ·cases h
theorem GJ{l:List Int}{x:Int} :x∈lu l↔x∈l:=by simp[lu]
theorem Dc(row:List It)(x:Int):∃a b:Nat,max (bH row x).1 0=(a:Int)/\(bH row x).2.1=(b:Int)/\a<=b/\b<=row.length:=by
 rcases gX (row:=row) (x:=x) row.length with ⟨h,_⟩|⟨a,b,c,h,h1,h2,_⟩
 ·exact⟨0,0,by unfold bH;rw[h];rfl,by unfold bH;rw[h];rfl,by omega,by omega⟩
 ·exact⟨a,b,by unfold bH;rw[h];simp only;omega,by unfold bH;rw[h],by omega,by omega⟩
theorem uT{g:Gr}{x:Int}{outs:List Int} :0<(aQ g x outs).length/\(aQ g x outs).length<=outs.length+1:=by
 unfold aQ
 split
 ·simp
 ·rename_i h
  have:=ae7.2 h
  simp;omega
theorem Jd(g:Gr)(hm:aM g=true)(f:Fr)(x:Int)(outs:List Int)(hr:f.row.length<=300000)(hp:f.pl.length<=100000)(ho:outs.length<=17592186043904):
 Spec Tryz.prog 89 (Args [.ptr 10000 0,eN x, .d (sI outs)]) (wN g f) (.tup [.d (sT (nJ g f x outs).1.1),eN (nJ g f x outs).1.2]) (EM g (nJ g f x outs).2):=by
 have uu:f.row.length<=1000000:=by omega
 have hp1:f.pl.length<=1000000:=by omega
 have hs:(lu outs).length<=9223372036854775807:=by rw[iH];omega
 have hn:=aB hm
 cases hR:gh g f x with
 |false=>
  have hP:nJ g f x outs=(([],3),f):=ada hR
  rw[hP]
  unfold wN EM
  (refine T.hR [] [] [.t 6, .t 7] [(10002,10001)] Tryz.func89 rfl rfl (by kernel_rfl) fun X hX hP hC aA bB=> ?_)
  repeat' (first|refine Rn.p ?_|((first|refine Rs.p ?_|refine Hd.mk ?_|(refine cr (pT g hm f x uu hp1) ?_ ?_ ?_;iterate 2 (focus(simp only[go_sem,simprocAttr,hR,tX];done))));try simp only[go_sem,simprocAttr,hR,tX]))
 |true=>
 have Zf:¬gh g f x=false:=by rw[hR];simp
 by_cases hE:¬lu outs=bQ (·.1) g x
 ·have hb1:decide (lu outs=bQ (·.1) g x)=false:=ac6 hE
  have hP:nJ g f x outs=(([],1),f):=by unfold nJ;rw[ac8 Zf,ada hE]
  rw[hP]
  unfold wN EM
  (refine T.hR [] [] [.t 6, .t 7] [(10002,10001)] Tryz.func89 rfl rfl (by kernel_rfl) fun X hX hP hC aA bB=> ?_)
  repeat' (first|refine Rn.p ?_|((first|refine Rs.p ?_|refine Hd.mk ?_|(refine cr (pT g hm f x uu hp1) ?_ ?_ ?_;iterate 2 (focus(simp only[go_sem,simprocAttr,hR,hb1,tX];done)))|(refine aS [(10000,16)] (kg outs) ?_ ?_;(focus(simp[go_sem,simprocAttr,hR,hb1,tX];done)))|(refine bw [(10000,16)] (jo outs ho) ?_ ?_;(focus(simp[go_sem,simprocAttr,hR,hb1,tX];done)))|refine aa (sM g hm x) rfl ?_|refine aa (ki (lu outs) (bQ (·.1) g x) hs) rfl ?_);try simp only[go_sem,simprocAttr,hR,hb1,tX])|with_reducible (refine oD (by kernel_rfl) ?_))
 rw[afJ]at hE
 have hb1:decide (lu outs=bQ (·.1) g x)=true:=ac7 hE
 have hP:nJ g f x outs=(((f.row.take (bH f.row x).2.1.toNat).drop (max (bH f.row x).1 0).toNat,0),⟨f.row.take (max (bH f.row x).1 0).toNat++aQ g x outs++f.row.drop (bH f.row x).2.1.toNat,f.pl++ [x]⟩):=by
  unfold nJ;rw[ac8 Zf,ac8 (by rw[hE];simp)]
 rw[hP]
 obtain⟨a,b,ha,hb,hab,Ct⟩:=Dc f.row x
 rw[ha,hb]
 simp only[Int.toNat_natCast]
 have Ax:outs.length<=128:=by
  have h1:=congrArg List.length hE
  rw[iH]at h1
  have h2:=Ja (f:=(·.1)) (g:=g) (x:=x)
  omega
 have VD:∀i∈outs,0<=i/\i<g.es.length:=fun i hi=>(Jc (f:=(·.1)) (g:=g) (x:=x) (by rw[<- hE];exact GJ.2 hi)).1
 obtain⟨h0,h1⟩:=uT (g:=g) (x:=x) (outs:=outs)
 have y6:(aQ g x outs).length<=100000:=by omega
 have tQ:f.row.length<=400000:=by omega
 have aaX:outs.length<=1000000:=by omega
 unfold wN EM
 (refine T.hR [] [] [.t 6, .t 7] [(10002,42)] Tryz.func89 rfl rfl (by kernel_rfl) fun X hX hP hC aA bB=> ?_)
 repeat' (first|refine Rn.p ?_|((first|refine Rs.p ?_|refine Hd.mk ?_|(refine cr (pT g hm f x uu hp1) ?_ ?_ ?_;iterate 2 (focus(simp only[go_sem,simprocAttr,hR,hb1,ha,hb,tX,ado,adt,adD,adP,rI,wN,List.cons_append,List.nil_append,aew,aeM];done)))|(refine aS [(10000,16)] (kg outs) ?_ ?_;(focus(simp[go_sem,simprocAttr,hR,hb1,ha,hb,tX,ado,adt,adD,adP,rI,wN,List.cons_append,List.nil_append,aew,aeM];done)))|(refine bw [(10000,16)] (jo outs ho) ?_ ?_;(focus(simp[go_sem,simprocAttr,hR,hb1,ha,hb,tX,ado,adt,adD,adP,rI,wN,List.cons_append,List.nil_append,aew,aeM];done)))|refine aa (sM g hm x) rfl ?_|refine aa (ki (lu outs) (bQ (·.1) g x) hs) rfl ?_|(refine cr (sN [vw g,sI f.pl] f.row x uu) ?_ ?_ ?_;iterate 2 (focus(simp only[go_sem,simprocAttr,hR,hb1,ha,hb,tX,ado,adt,adD,adP,rI,wN,List.cons_append,List.nil_append,aew,aeM];done)))|(refine qI 54 (Jb g ⟨f.row,f.pl++ [x]⟩ x outs aaX VD) ?_ (by first|exact tV|exact tW|exact tY|exact wO) rfl (by decide) ?_;(focus(simp only[go_sem,simprocAttr,hR,hb1,ha,hb,tX,ado,adt,adD,adP,rI,wN,List.cons_append,List.nil_append,aew,aeM];done)))|(refine aS [(10001,42),(10003,54)] (MR g f.row (aQ g x outs) (f.pl++ [x]) a b hab Ct h0 tQ y6) ?_ ?_;(focus(simp[go_sem,simprocAttr,hR,hb1,ha,hb,tX,ado,adt,adD,adP,rI,wN,List.cons_append,List.nil_append,aew,aeM];done))));try simp only[go_sem,simprocAttr,hR,hb1,ha,hb,tX,ado,adt,adD,adP,rI,wN,List.cons_append,List.nil_append,aew,aeM])|with_reducible (first|apply And.intro|refine oD (by kernel_rfl) ?_)|omega)
def nK(g:Gr)(f:Fr)(k:Nat):List Int:=((List.range k).filter fun x:Nat=>gh g f (x:Int)).map Int.ofNat
def gQ(g:Gr)(f:Fr):List Int:=nK g f g.n.toNat
theorem GK{g:Gr}{f:Fr}{k:Nat} :nK g f (k+1)=nK g f k++if gh g f (k:Int)=true then [(k:Int)] else []:=by
 simp only[nK,adW,ad9,adt,aeE,List.filter_nil]
 split<;>simp_all
theorem Bv{g:Gr}{f:Fr}{k:Nat} :(nK g f k).length<=k:=by
 simpa[nK]using aeI (fun x:Nat=>gh g f (x:Int)) (List.range k)
theorem GL(g:Gr)(hm:aM g=true)(f:Fr)(hr:f.row.length<=1000000)(hp:f.pl.length<=1000000):Spec Tryz.prog 155 (Args [.d (tX g f)]) [] (.ref 10000) [(10000, .tip 3 1 ((gQ g f).map rI))]:=by
 have hn:=aB hm
 unfold tX
 (refine T.hR [] [] [.t 2] [(10000,21)] Tryz.func155 rfl rfl (by kernel_rfl) fun X hX hP hC aA bB=> ?_)
 repeat' (first|refine Rn.p ?_|((first|refine Rs.p ?_|refine Hd.mk ?_);try simp only[go_sem,simprocAttr,cm]))
 (refine dQ hX 2 21 (.tip 3 1 []) (by simp only[go_sem,simprocAttr,cm]) (by simp only[go_sem,simprocAttr,cm]) (by decide) ⟨3,1,by decide, .inr rfl⟩ ?_;simp only[go_sem,simprocAttr,cm])
 refine ag (fun k:Nat=>k<=g.n.toNat) (fun k=>⟨[(0, .d (tX g f)),(11,eN g.n),(12,eN k),(2, .ref 21)], [(21, .tip 3 1 ((nK g f k).map rI))]⟩) (fun k=>g.n.toNat - k) 0 (by omega) ?_ ?_
 ·refine Le.of ?_ ?_<;>simp[go_sem,simprocAttr,cm,tX,nK]
 rintro k hk
 rcases adk k g.n.toNat with hlt|hge
 ·have hb:decide ((k:Int)<g.n)=true:=ac7 (by omega)
  have dw:=GK (g:=g) (f:=f) (k:=k)
  have hlk:=Bv (g:=g) (f:=f) (k:=k)
  repeat' (first|refine Rn.p ?_|((first|refine Rs.p ?_|refine Hd.mk ?_|refine aa (pT g hm f (k:Int) hr hp) rfl ?_);try simp only[go_sem,simprocAttr,hb])|with_reducible (first|apply And.intro|(intro h;try simp only[go_sem,simprocAttr,hb]at h))|omega)
  ·rw[ada (by assumption)]at dw
   refine⟨k+1,by omega, ?_,by omega⟩
   refine Le.of ?_ ?_<;>simp[go_sem,simprocAttr,hb,dw,rI]
  ·rw[ac8 (by simp[*]),ad5]at dw
   refine⟨k+1,by omega, ?_,by omega⟩
   refine Le.of ?_ ?_<;>simp[go_sem,simprocAttr,hb,dw,rI]
 ·have hb:decide ((k:Int)<g.n)=false:=ac6 (by omega)
  obtain rfl:k=g.n.toNat:=by omega
  repeat' (first|refine Rn.p ?_|((first|refine Rs.p ?_|refine Hd.mk ?_);try simp only[go_sem,simprocAttr,hb,gQ]))
theorem yc(g:Gr)(hl:g.es.length<=1000)(h0:(bX g).1=0)(hm:aM g=true):Spec Tryz.prog 87 (Args [eG g]) [] (.tup [.ptr 10000 0,eN 0]) [(10000, .box [.nil 92, .d (vw g), .nil 3])]:=by
 (refine T.hR [] [] [.t 2, .t 3] [(10000,11)] Tryz.func87 rfl rfl (by kernel_rfl) fun X hX hP hC aA bB=> ?_)
 repeat' (first|refine Rn.p ?_|((first|refine Rs.p ?_|refine Hd.mk ?_|refine aa (iE g hl) rfl ?_|refine aa (sx g hm) rfl ?_);try simp only[go_sem,simprocAttr,h0]))
theorem MT(g:Gr)(hl:g.es.length<=1000)(h0:(bX g).1≠0):Spec Tryz.prog 87 (Args [eG g]) [] (.tup [.d (.sc (.pointer none)),eN 1]) []:=by
 have hb:decide ((bX g).1=0)=false:=ac6 h0
 (refine T.h [] [] [.t 2, .t 3] Tryz.func87 rfl rfl (by kernel_rfl) fun X hX hP hC aA bB=> ?_)
 repeat' (first|refine Rn.p ?_|((first|refine Rs.p ?_|refine Hd.mk ?_|refine aa (iE g hl) rfl ?_);try simp only[go_sem,simprocAttr,hb]))
def rfC(g:Gr)(f:Fr):List AV:= [eN g.n, .d (sE g.es), .d (sT f.row), .d (sI f.pl)]
def kP(row:List It)(x:Int):Nat->Int
 |0=>0
 |k+1=>if(row.getD k (0,0,0)).2.2=x then kP row x k+1 else kP row x k
theorem jN{row:List It}{x:Int}{k:Nat} :kP row x (k+1)=if(row.getD k (0,0,0)).2.2=x then kP row x k+1 else kP row x k:=rfl
def P8(row:List It)(x:Int)(need:Nat)(j:Nat):Bool:=decide ((row.getD j (0,0,0)).2.2≠x)&&decide (0<=(row.getD j (0,0,0)).1)&&decide (0<kP row x j)&&decide (kP row x j<need)
theorem Dd{row:List It}{x:Int}{need j:Nat} :P8 row x need j=true↔((row.getD j (0,0,0)).2.2≠x/\0<=(row.getD j (0,0,0)).1)/\0<kP row x j/\kP row x j<need:=by
 simp only[P8,adg,ade,and_assoc]
def aV(g:Gr)(x:Int):Nat:=(aJ (·.2) g.es g.es.length x).length
def au(g:Gr)(f:Fr)(x:Int):Bool:=
 if x<0\/g.n<=x\/x∈f.pl then false else if aV g x=0 then true else
 !(List.range f.row.length).any (P8 f.row x (aV g x))&&decide (kP f.row x f.row.length=aV g x)
def b8(g:Gr)(x:Int):List Int:=aJ (·.1) g.es g.es.length x
def aC(g:Gr)(f:Fr)(x:Int)(outs:List Int):(List It × Int) × Fr:=
 (((f.row.take (bH f.row x).2.1.toNat).drop (max (bH f.row x).1 0).toNat,0),⟨f.row.take (max (bH f.row x).1 0).toNat++aQ g x outs++f.row.drop (bH f.row x).2.1.toNat,f.pl++ [x]⟩)
def jq(g:Gr)(f:Fr)(x:Int)(outs:List Int):(List It × Int) × Fr:=
 if au g f x=false then(([],3),f) else
 if outs.length≠(b8 g x).length\/∃i∈b8 g x,i∉outs then(([],1),f) else aC g f x outs
theorem b7{f:Edge->Int}{es:List Edge}{k:Nat}{x:Int} :(aJ f es k x).Nodup:=by
 unfold aJ
 exact aey _ (fun a b h e=>h (afp e)) (agH _ afW)
theorem Je:∀ {ms os:List Int},ms.Nodup->(∀i∈ms,i∈os)->os.length=ms.length->∀i∈os,i∈ms
 | [],os,_,_,hl,i,hi=>by
   have:os= []:=adF (by simpa using hl)
   rw[this]at hi;exact hi
 |m::ms,os,hn,hs,hl,i,hi=>by
  rw[ad6]at hn
  have hm:=hs m (adI ..)
  by_cases h:i=m
  ·rw[h];exact adI ..
  ·refine adA _ (Je hn.2 (os:=os.erase m) (fun j hj=> ?_) ?_ i ?_)
   ·have:j≠m:=fun e=>hn.1 (e ▸ hj)
    exact(afP this).2 (hs j (adA _ hj))
   ·rw[afX hm,hl];simp
   ·exact(afP h).2 hi
theorem P9{g:Gr}{x:Int} :(b8 g x).length<=g.es.length:=iU
def vI(ls:List (List Int)):List (List D):=ls.map fun l=> [sI l]
theorem vI_length{ls:List (List Int)} :(vI ls).length=ls.length:=by simp[vI]
theorem jr{ls:List (List Int)}{k:Nat}(h:k<ls.length)(d:List D):(vI ls).getD k d= [sI (ls.getD k [])]:=by
 simp[vI,aas,acF h]
attribute [go_sem] vI_length
def KM(l:List Int)(i:Nat):List Int:=l.take i++l.drop (i+1)
def SO:Nat->List Int->List (List Int)
 |0,_=> [[]]
 |n+1,l=>(List.range l.length).flatMap fun i=>(SO n (KM l i)).map fun t=>l.getD i 0::t
def acH(n:Nat)(l:List Int)(k:Nat):List (List Int):=(List.range k).flatMap fun i=>(SO n (KM l i)).map fun t=>l.getD i 0::t
def fac:Nat->Nat
 |0=>1
 |n+1=>(n+1)*fac n
def X4(g:Gr):Nat->Fr->Bool
 |0,f=>decide ((f.pl.length:Int)=g.n)
 |m+1,f=>decide ((f.pl.length:Int)=g.n)||(List.range g.n.toNat).any fun x=>au g f (x:Int)&&(SO (b8 g (x:Int)).length (b8 g (x:Int))).any fun o=>X4 g m (aC g f (x:Int) o).2
def acI(g:Gr)(m:Nat)(f:Fr)(x:Nat):Bool:=au g f (x:Int)&&(SO (b8 g (x:Int)).length (b8 g (x:Int))).any fun o=>X4 g m (aC g f (x:Int) o).2
theorem De{g:Gr}{f:Fr}{x:Int}{o:List Int} :(aC g f x o).2.row.length<=f.row.length+o.length+1/\(aC g f x o).2.pl.length=f.pl.length+1:=by
 obtain⟨a,b,ha,hb,hab,Ct⟩:=Dc f.row x
 have:=uT (g:=g) (x:=x) (outs:=o)
 have e:aC g f x o=(((f.row.take b).drop a,0),⟨f.row.take a++aQ g x o++f.row.drop b,f.pl++ [x]⟩):=by
  simp only[aC,ha,hb,Int.toNat_natCast]
 rw[e]
 refine⟨?_,by simp⟩
 show(f.row.take a++aQ g x o++f.row.drop b).length<=_
 rw[adj,adj,adH,aeD]
 omega
def g9:Gr:=⟨3, [(0,1),(0,2),(1,2)]⟩
def fr0:Fr:=⟨[], []⟩
def fr1:Fr:=⟨[(0,0,1),(1,0,2)], [0]⟩
def fr2:Fr:=⟨[(2,1,2),(1,0,2)], [0,1]⟩
def fr3:Fr:=⟨[(-1,2, -1)], [0,1,2]⟩
end Go.Ab
end
section
set_option maxRecDepth 10000
namespace Go.Ab
open Go.Proofs
def Jf(g:Gr)(t:It):Prop:=(t.1= -1/\t.2.2= -1)\/(0<=t.1/\t.1<g.es.length/\t.2.1=(g.es.getD t.1.toNat (0,0)).1/\t.2.2=(g.es.getD t.1.toNat (0,0)).2)
structure fL (g:Gr) (f:Fr):Prop where
 it:∀t∈f.row,Jf g t
 pl:f.pl.Nodup
 lg:∀x∈f.pl,0<=x/\x<g.n
theorem ot{row:List It}{x:Int} :∀k:Nat,(iZ row x k).2.2=kP row x k
 |0=>rfl
 |k+1=>by
  rw[uR,jN]
  split
  ·show(iZ row x k).2.2+1=_
   rw[ot k]
  ·exact ot k
theorem yd{row:List It}{x:Int}{j:Nat} :∀d:Nat,kP row x j<=kP row x (j+d)
 |0=>afQ _
 |d+1=>by
  have:=yd (row:=row) (x:=x) (j:=j) d
  rw[<- Nat.add_assoc,jN]
  split<;>omega
theorem ou{row:List It}{x:Int} :∀ {k:Nat},(∀j,j<k->(row.getD j (0,0,0)).2.2≠x)->kP row x k=0
 |0,_=>rfl
 |k+1,h=>by
  rw[jN,ac8 (h k (by omega))]
  exact ou fun j hj=>h j (by omega)
theorem ye{row:List It}{x:Int}{b:Nat} :∀ {d:Nat},(∀j,b<=j->j<b+d->(row.getD j (0,0,0)).2.2≠x)->kP row x (b+d)=kP row x b
 |0,_=>rfl
 |d+1,h=>by
  rw[<- Nat.add_assoc,jN,ac8 (h (b+d) (by omega) (by omega))]
  exact ye fun j h1 h2=>h j h1 (by omega)
theorem jO{f:Edge->Int}{g:Gr}{x:Int}(h0:0<=x)(h1:x<g.n):bQ f g x=aJ f g.es g.es.length x:=ada ⟨h0,h1⟩
theorem sO{g:Gr}{e:Int}(h0:0<=e)(h1:e<g.es.length):0<aV g (g.es.getD e.toNat (0,0)).2:=by
 refine ae7.2 fun h=> ?_
 have hm:e∈aJ (·.2) g.es g.es.length (g.es.getD e.toNat (0,0)).2:=by
  simp only[aJ,adb,adJ,adl,ade]
  exact⟨e.toNat,⟨by omega,rfl⟩,by simp;omega⟩
 rw[h]at hm;cases hm
theorem Df{row:List It}{p:It->Bool}{a b:Nat}(hb:b<=row.length):((row.take b).drop a).any p=true↔∃j,a<=j/\j<b/\p (row.getD j (0,0,0))=true:=by
 rw[adR]
 constructor
 ·rintro⟨t,ht,hp⟩
  obtain⟨k,hk,rfl⟩:=ads.1 ht
  simp only[aeD,adH]at hk
  refine⟨a+k,by omega,by omega, ?_⟩
  rw[aas,acF (show a+k<row.length by omega)]
  simpa using hp
 ·rintro⟨j,h1,h2,hp⟩
  rw[aas,acF (show j<row.length by omega)]at hp
  refine⟨row[j], ?_,hp⟩
  refine ads.2 ⟨j - a,by simp;omega, ?_⟩
  simp only[List.getElem_drop,aga]
  congr 1;omega
theorem Jf.head{g:Gr}(hm:aM g=true){t:It}(h:Jf g t):(0<=t.1↔t.2.2≠ -1)/\ -1<=t.2.2:=by
 rcases h with ⟨h1,h2⟩|⟨h1,h2,_,h4⟩
 ·omega
 ·obtain⟨_,h5,_⟩:=cU hm (k:=t.1.toNat) (by omega)
  omega
theorem kj{g:Gr}(hm:aM g=true){f:Fr}(hi:fL g f)(x:Int):gh g f x=au g f x:=by
 by_cases hx:x<0\/g.n<=x\/x∈f.pl
 ·rw[gh,au,ada hx,ada hx]
 rw[gh,au,ac8 hx,ac8 hx]
 have hx0:0<=x/\x<g.n:=by
  constructor
  ·exact agy.1 fun h=>hx (.inl h)
  ·exact ahc.1 fun h=>hx (.inr (.inl h))
 have hmem:∀j,j<f.row.length->Jf g (f.row.getD j (0,0,0)):=fun j hj=>hi.it _ (az hj)
 rw[jO hx0.1 hx0.2]
 have hN:(aJ (fun e=>e.2) g.es g.es.length x).length=aV g x:=rfl
 rw[hN]
 have VE:(bH f.row x).2.2=kP f.row x f.row.length:=ot _
 by_cases h0:aV g x=0
 ·rw[ada h0,h0,ac7 rfl,afe,aeZ,ade,VE,ou]
  ·rfl
  ·intro j hj he
   rcases hmem j hj with ⟨_,h2⟩|⟨h1,h2,_,h4⟩
   ·omega
   ·have:=sO h1 h2
    rw[<- h4,he]at this
    omega
 ·rw[ac8 h0,ac6 h0,aeL,VE]
  generalize aV g x=need at h0
  rcases gX (row:=f.row) (x:=x) f.row.length with ⟨hs,hno⟩|⟨a,b,c,hs,hab,Ct,hc0,hcl,ha,hb,hlo,hhi⟩
  ·rw[ou hno]
   have e1:decide ((0:Int)=(need:Int))=false:=ac6 (by omega)
   rw[e1,agc,afS]
  ·have hs':bH f.row x=((a:Int),(b:Int),(c:Int)):=hs
   have RW:kP f.row x f.row.length=c:=by rw[<- VE,hs']
   rw[hs',RW]
   simp only[Int.toNat_natCast]
   rw[Bool.and_comm]
   by_cases Xk:¬(c:Int)=need
   ·rw[ac6 Xk,afS,afS]
   rw[afJ]at Xk
   rw[ac7 Xk,aeZ,aeZ,y5]
   congr 1
   rw[ad1,Df Ct,adR]
   have ma:kP f.row x a=0:=ou hlo
   have ma1:kP f.row x (a+1)=1:=by rw[jN,ada ha,ma];rfl
   have mb:kP f.row x b=need:=by
    have h:=ye (row:=f.row) (x:=x) (b:=b) (d:=f.row.length - b) fun j h1 h2=>hhi j h1 (by omega)
    rw[show b+(f.row.length - b)=f.row.length by omega,RW]at h
    omega
   have mb1:kP f.row x (b - 1)+1=need:=by
    have h:=jN (row:=f.row) (x:=x) (k:=b - 1)
    rw[ada hb,show b - 1+1=b by omega,mb]at h
    omega
   constructor
   ·rintro⟨j,h1,h2,hp⟩
    simp only[pS,adg,ade]at hp
    have hja:j≠a:=fun e=>hp.1 (by rw[e];exact ha)
    have hjb:j≠b - 1:=fun e=>hp.1 (by rw[e];exact hb)
    have g1:=yd (row:=f.row) (x:=x) (j:=a+1) (j - (a+1))
    rw[show a+1+(j - (a+1))=j by omega]at g1
    have g2:=yd (row:=f.row) (x:=x) (j:=j) (b - 1 - j)
    rw[show j+(b - 1 - j)=b - 1 by omega]at g2
    exact⟨j,adl.2 (by omega),Dd.2 ⟨⟨hp.1,((hmem j (by omega)).head hm).1.2 hp.2⟩,by omega,by omega⟩⟩
   ·rintro⟨j,hj,hl⟩
    have hj:=adl.1 hj
    obtain⟨⟨h1,h2⟩,h3,h4⟩:=Dd.1 hl
    refine⟨j, ?_, ?_, ?_⟩
    ·refine Nat.not_lt.1 fun h=> ?_
     have:=ou (row:=f.row) (x:=x) (k:=j) fun i hi=>hlo i (by omega)
     omega
    ·refine Nat.not_le.1 fun h=> ?_
     have:=ye (row:=f.row) (x:=x) (b:=b) (d:=j - b) fun i h1 h2=>hhi i h1 (by omega)
     rw[show b+(j - b)=j by omega]at this
     omega
    ·simp only[pS,adg,ade]
     exact⟨h1,((hmem j hj).head hm).1.1 h2⟩
theorem wQ:∀ {ms os:List Int},ms.Nodup->(∀i∈ms,i∈os)->os.length=ms.length->os.Perm ms
 | [],os,_,_,hl=>by
   have h:os= []:=adF (by simpa using hl)
   rw[h]
 |m::ms,os,hn,hs,hl=>by
  rw[ad6]at hn
  have hm:=hs m (adI ..)
  refine(List.perm_cons_erase hm).trans (List.Perm.cons m (wQ hn.2 (fun j hj=> ?_) ?_))
  ·have:j≠m:=fun e=>hn.1 (e ▸ hj)
   exact(afP this).2 (hs j (adA _ hj))
  ·rw[afX hm,hl];simp
theorem y7{g:Gr}{x:Int} :(b8 g x).Pairwise (· <= ·):=by
 unfold b8 aJ
 refine aey _ (fun a b (h:a<b)=> ?_) (agH _ ag3)
 show(a:Int)<=b
 omega
theorem Bw{l m:List Int}(h:l.Perm m)(hm:m.Pairwise (· <= ·)):lu l=m:=by
 have h1:(lu l).Pairwise (· <= ·):=by
  have:=List.pairwise_mergeSort (le:=fun a b:Int=>decide (a<=b)) (by simp;omega) (by simp;omega) l
  simpa[lu]using this
 have h2:(lu l).Perm m:=(by unfold lu;exact(List.mergeSort_perm l _).trans h)
 exact h2.eq_of_pairwise (fun a b _ _ h1 h2=>Int.le_antisymm h1 h2) h1 hm
theorem aF{g:Gr}{f:Fr}{x:Int}(h:au g f x=true):0<=x/\x<g.n/\x∉f.pl:=by
 unfold au at h
 by_cases hx:x<0\/g.n<=x\/x∈f.pl
 ·rw[ada hx]at h;cases h
 ·exact⟨agy.1 fun h=>hx (.inl h),ahc.1 fun h=>hx (.inr (.inl h)),fun h=>hx (.inr (.inr h))⟩
theorem Qa{g:Gr}(hm:aM g=true){f:Fr}(hi:fL g f)(x:Int)(outs:List Int):nJ g f x outs=jq g f x outs:=by
 rw[nJ,jq,kj hm hi]
 cases hR:au g f x with
 |false=>rw[ada rfl,ada rfl]
 |true=>
  obtain⟨h0,h1,h2⟩:=aF hR
  have ht:¬(true=false):=by simp
  rw[ac8 ht,ac8 ht,jO h0 h1]
  show(if lu outs≠b8 g x then _ else aC g f x outs)=_
  by_cases hs:lu outs=b8 g x
  ·rw[ac8 (fun h=>h hs),ac8]
   rintro(h|⟨i,h3,h4⟩)
   ·exact h (by rw[<- hs,iH])
   ·exact h4 (GJ.1 (hs ▸ h3))
  ·rw[ada hs,ada]
   refine adm fun h=>hs ?_
   have hl:outs.length=(b8 g x).length:=adm fun e=>h (.inl e)
   exact Bw (wQ b7 (fun i hi=>adm fun e=>h (.inr ⟨i,hi,e⟩)) hl) y7
theorem Qb{g:Gr}{x:Int}{outs:List Int}(ho:∀i∈outs,i∈b8 g x):∀t∈aQ g x outs,Jf g t:=by
 intro t ht
 unfold aQ at ht
 split at ht
 ·rw[adv]at ht
  rw[ht];exact .inl ⟨rfl,rfl⟩
 ·obtain⟨i,hi,rfl⟩:=adb.1 ht
  obtain⟨⟨h1,h2⟩,h3⟩:=gA (ho i hi)
  exact .inr ⟨h1,h2,h3.symm,rfl⟩
theorem Qc{g:Gr}{f:Fr}(hi:fL g f){x:Int}(hR:au g f x=true){outs:List Int}(ho:∀i∈outs,i∈b8 g x):fL g (aC g f x outs).2:=by
 obtain⟨h0,h1,h2⟩:=aF hR
 refine⟨fun t ht=> ?_, ?_,fun y hy=> ?_⟩
 ·simp only[aC,ac9]at ht
  rcases ht with (ht|ht)|ht
  ·exact hi.it t (afv ht)
  ·exact Qb ho t ht
  ·exact hi.it t (afw ht)
 ·show(f.pl++ [x]).Nodup
  rw[adu]
  refine⟨hi.pl,by simp,fun a ha b hb e=>h2 ?_⟩
  rw[adv]at hb
  rw[<- hb, <- e];exact ha
 ·have hy:y∈f.pl++ [x]:=hy
  rcases ac9.1 hy with h|h
  ·exact hi.lg y h
  ·rw[adv]at h
   rw[h];exact⟨h0,h1⟩
def lz(x:Int)(t:It):Bool:=decide (t.2.2=x)
structure Mid (x:Int) (X:List It):Prop where
 fst:∃p X',X=p::X'/\p.2.2=x
 GM:∃X' q,X=X'++ [q]/\q.2.2=x
 al:∀t∈X,t.2.2=x\/t.2.2= -1
def gv(x:Int)(l:List It):Prop:=∀t∈l,t.2.2≠x
theorem gv.app{x:Int}{l m:List It}(h:gv x l)(h':gv x m):gv x (l++m):=fun t ht=>(ac9.1 ht).elim (h t) (h' t)
theorem gv.left{x:Int}{l m:List It}(h:gv x (l++m)):gv x l:=fun t ht=>h t (ac9.2 (.inl ht))
theorem gv.right{x:Int}{l m:List It}(h:gv x (l++m)):gv x m:=fun t ht=>h t (ac9.2 (.inr ht))
theorem Mid.noH{x y:Int}{X:List It}(h:Mid x X)(hxy:x≠y)(hy:0<=y):gv y X:=fun t ht e=>by
 rcases h.al t ht with h1|h1<;>omega
theorem pU{row:List It}{x:Int} :∀ {k:Nat},k<=row.length->kP row x k=((row.take k).countP (lz x):Nat)
 |0,_=>by simp[kP]
 |k+1,h=>by
  rw[jN,pU (k:=k) (by omega),ad2,acF (show k<row.length by omega),aeN]
  simp only[Option.toList,afU,List.countP_nil,lz,ade,aas,acF (show k<row.length by omega),Option.getD_some]
  split<;>simp
theorem MU{A X C:List It}{p:It}{X':List It}(h:X=p::X'):(A++X++C).getD A.length (0,0,0)=p:=by
 subst h;simp[aas]
theorem MV{A X C:List It}{q:It}{X':List It}(h:X=X'++ [q]):(A++X++C).getD (A.length+X.length - 1) (0,0,0)=q:=by
 subst h
 have e:A.length+(X'++ [q]).length - 1=(A++X').length:=by simp
 rw[e,show A++(X'++ [q])++C=(A++X')++([q]++C) by simp]
 simp[aas]
theorem MW{A L:List It}{j:Nat}(h:j<A.length):(A++L).getD j (0,0,0)∈A:=by
 rw[aas,ady h,acF h]
 exact ad3 h
theorem MX{A L:List It}{j:Nat}(h:A.length<=j)(h':j<(A++L).length):(A++L).getD j (0,0,0)∈L:=by
 rw[adj]at h'
 rw[aas,adx h,acF (by omega)]
 exact ad3 _
theorem KN{A X C:List It}{x:Int}(hA:gv x A)(hC:gv x C)(hX:Mid x X):
 (bH (A++X++C) x).1=(A.length:Int)/\(bH (A++X++C) x).2.1=((A.length+X.length:Nat):Int)/\(bH (A++X++C) x).2.2=(X.countP (lz x):Nat):=by
 have AQ:(bH (A++X++C) x).2.2=(X.countP (lz x):Nat):=by
  unfold bH
  rw[ot,pU (adh _),aef,aeN,aeN]
  have h1:A.countP (lz x)=0:=ae5.2 fun t ht=>by simp[lz,hA t ht]
  have h2:C.countP (lz x)=0:=ae5.2 fun t ht=>by simp[lz,hC t ht]
  rw[h1,h2];simp
 obtain⟨p,X',e1,hp⟩:=hX.fst
 obtain⟨X'',q,e2,hq⟩:=hX.GM
 have g1:=MU (A:=A) (C:=C) e1
 have g2:=MV (A:=A) (C:=C) e2
 have Uk:0<X.length:=by rw[e1];simp
 have hlen:(A++X++C).length=A.length+X.length+C.length:=by simp;omega
 rcases gX (row:=A++X++C) (x:=x) (A++X++C).length with ⟨_,hno⟩|⟨a,b,c,hs,hab,Ct,hc0,hcl,ha,hb,hlo,hhi⟩
 ·exact absurd (by rw[g1];exact hp) (hno A.length (by omega))
 ·have hs':bH (A++X++C) x=((a:Int),(b:Int),(c:Int)):=hs
  refine⟨?_, ?_,AQ⟩
  ·rw[hs']
   have h1:¬A.length<a:=fun h=>hlo _ h (by rw[g1];exact hp)
   have h2:¬a<A.length:=fun h=>hA _ (by have:=MW (L:=X++C) h;rw[<- List.append_assoc]at this;exact this) ha
   simp only;omega
  ·rw[hs']
   have h1:¬b<A.length+X.length:=fun h=>hhi (A.length+X.length - 1) (by omega) (by omega) (by rw[g2];exact hq)
   have h2:¬A.length+X.length<b:=fun h=>hC _ (MX (A:=A++X) (j:=b - 1) (by simp;omega) (by omega)) hb
   simp only;omega
theorem mu{g:Gr}(hm:aM g=true){f:Fr}(hi:fL g f){A X C:List It}{x:Int}(h0:0<=x)(h1:x<g.n)(hp:x∉f.pl)(hr:f.row=A++X++C)(hA:gv x A)(hC:gv x C)(hX:Mid x X)
 (hc:X.countP (lz x)=aV g x):au g f x=true:=by
 rw[<- kj hm hi,gh,ac8 (by rintro(h|h|h);omega;omega;exact hp h)]
 obtain⟨e1,e2,e3⟩:=KN hA hC hX
 rw[hr,e1,e2,e3,jO h0 h1,adg,ade]
 refine⟨by rw[hc];rfl, ?_⟩
 rw[adL];right
 simp only[y5,Int.toNat_natCast]
 rw[aez (by simp),adC (by simp),ag7,adK,adV]
 intro t ht
 simp only[pS,adg,ade]
 rcases hX.al t ht with h|h<;>simp[h]
theorem bD{g:Gr}(hm:aM g=true){f:Fr}(hi:fL g f){x:Int}(hR:au g f x=true)(hn:aV g x≠0):
 ∃A X C,f.row=A++X++C/\gv x A/\gv x C/\Mid x X/\X.countP (lz x)=aV g x:=by
 obtain⟨h0,h1,h2⟩:=aF hR
 rw[<- kj hm hi,gh,ac8 (by rintro(h|h|h);omega;omega;exact h2 h),jO h0 h1,adg,ade]at hR
 have hN:(aJ (fun e=>e.2) g.es g.es.length x).length=aV g x:=rfl
 rw[hN,ac6 hn,aeL]at hR
 obtain⟨hc,hb⟩:=hR
 have AQ:(f.row.countP (lz x):Int)=aV g x:=by
  rw[<- hc];unfold bH
  rw[ot,pU (adh _),aef]
 rcases gX (row:=f.row) (x:=x) f.row.length with ⟨hs,hno⟩|⟨a,b,c,hs,hab,Ct,hc0,hcl,ha,hb',hlo,hhi⟩
 ·have:bH f.row x=(-1,0,0):=hs
  rw[this]at hc
  exfalso;simp only at hc;omega
 ·have hs':bH f.row x=((a:Int),(b:Int),(c:Int)):=hs
  rw[hs']at hb
  simp only[Int.toNat_natCast]at hb
  have hA:gv x (f.row.take a):=fun t ht=>by
   obtain⟨j,hj,rfl⟩:=ads.1 ht
   simp only[adH]at hj
   have:=hlo j (by omega)
   rw[aas,acF (show j<f.row.length by omega)]at this
   simpa using this
  have hC:gv x (f.row.drop b):=fun t ht=>by
   obtain⟨j,hj,rfl⟩:=ads.1 ht
   simp only[aeD]at hj
   have:=hhi (b+j) (by omega) (by omega)
   rw[aas,acF (show b+j<f.row.length by omega)]at this
   simpa using this
  have hrow:f.row=f.row.take a++(f.row.take b).drop a++f.row.drop b:=by
   have e1:f.row.take a=(f.row.take b).take a:=by rw[List.take_take,agr (by omega)]
   rw[e1,afG,afG]
  refine⟨f.row.take a,(f.row.take b).drop a,f.row.drop b,hrow,hA,hC,⟨?_, ?_, ?_⟩, ?_⟩
  ·refine⟨f.row.getD a (0,0,0),(f.row.take b).drop (a+1), ?_,ha⟩
   rw[List.drop_eq_getElem_cons (by simp;omega)]
   congr 1
   rw[aas,acF (show a<f.row.length by omega)]
   simp
  ·refine⟨(f.row.take (b - 1)).drop a,f.row.getD (b - 1) (0,0,0), ?_,hb'⟩
   have e:f.row.take b=f.row.take (b - 1)++ [f.row.getD (b - 1) (0,0,0)]:=by
    conv=>lhs;rw[show b=b - 1+1 by omega]
    rw[ad2,aas,acF (show b - 1<f.row.length by omega)]
    rfl
   rw[e,List.drop_append_of_le_length (by simp;omega)]
  ·intro t ht
   rw[y5,adK,adV]at hb
   have:=hb t ht
   simp only[pS,adg,ade,not_and]at this
   by_cases h:t.2.2=x
   ·exact .inl h
   ·exact .inr (adm fun h'=>this h h')
  ·have h1:(f.row.take a).countP (lz x)=0:=ae5.2 fun t ht=>by simp[lz,hA t ht]
   have h2:(f.row.drop b).countP (lz x)=0:=ae5.2 fun t ht=>by simp[lz,hC t ht]
   rw[hrow,aeN,aeN,h1,h2]at AQ
   omega
theorem dR{g:Gr}{f:Fr}{A X C:List It}{x:Int}(o:List Int)(hr:f.row=A++X++C)(hA:gv x A)(hC:gv x C)(hX:Mid x X):
 aC g f x o=((X,0),⟨A++aQ g x o++C,f.pl++ [x]⟩):=by
 obtain⟨e1,e2,e3⟩:=KN hA hC hX
 have e4:max (A.length:Int) 0=(A.length:Int):=by omega
 unfold aC
 rw[hr,e1,e2,e4,Int.toNat_natCast,Int.toNat_natCast]
 rw[aez (show A.length+X.length<=(A++X).length by simp),adC (show(A++X).length<=A.length+X.length by simp),ag7]
 rw[show(A++X++C).take A.length=A by rw[adO,ag6]]
 rw[show(A++X++C).drop (A.length+X.length)=C by rw[<- List.length_append,ag7]]
theorem cH{g:Gr}{f:Fr}{x:Int}(o:List Int)(hr:gv x f.row):aC g f x o=(([],0),⟨aQ g x o++f.row,f.pl++ [x]⟩):=by
 have hs:bH f.row x=(-1,0,0):=by
  rcases gX (row:=f.row) (x:=x) f.row.length with ⟨hs,_⟩|⟨a,b,c,hs,hab,Ct,hc0,hcl,ha,hb',hlo,hhi⟩
  ·exact hs
  ·exact absurd ha (hr _ (az (by omega)))
 have e4:max (-1:Int) 0=0:=by omega
 unfold aC
 rw[hs]
 simp[e4]
structure Bx (g:Gr) (f:Fr):Prop extends fL g f where
 tail:∀t∈f.row,0<=t.1->t.2.1∈f.pl
 head:∀t∈f.row,0<=t.1->t.2.2∉f.pl
 once:f.row.Pairwise fun s t=>0<=s.1->s.1≠t.1
 low:∀i,i<g.es.length->hd g i∈f.pl->tl g i∈f.pl
 src:(f.pl= []/\f.row= [])\/∃s∈f.pl,aV g s=0
theorem wR(g:Gr):Bx g ⟨[], []⟩:=
 {it:=by simp,pl:=by simp,lg:=by simp,tail:=by simp,head:=by simp,once:=by simp,low:=by simp,src:= .inl ⟨rfl,rfl⟩}
theorem yf{g:Gr}(hm:aM g=true){f:Fr}(hi:Bx g f){x:Int}(hR:au g f x=true){i:Nat}(hl:i<g.es.length)(hx:hd g i=x):∃t∈f.row,t.1=i/\t.2.1=tl g i/\t.2.2=x:=by
 have hn:aV g x≠0:=by
  have:=sO (g:=g) (e:=(i:Int)) (by omega) (by omega)
  rw[Int.toNat_natCast,show(g.es.getD i (0,0)).2=x from hx]at this
  omega
 obtain⟨A,X,C,hr,hA,hC,hX,hc⟩:=bD hm hi.tofL hR hn
 have hN:(aJ (fun e=>e.2) g.es g.es.length x).length=aV g x:=rfl
 have hok:∀t∈f.row,t.2.2=x->0<=t.1/\t.1<g.es.length/\t.2.1=(g.es.getD t.1.toNat (0,0)).1/\t.2.2=(g.es.getD t.1.toNat (0,0)).2:=fun t ht he=>by
  rcases hi.it t ht with ⟨_,h2⟩|h
  ·have:=(aF hR).1;omega
  ·exact h
 have hmem:∀t∈X,t∈f.row:=fun t ht=>by rw[hr];simp[ht]
 have KO:=wQ (ms:=(X.filter (lz x)).map (·.1)) (os:=aJ (fun e=>e.2) g.es g.es.length x)
 have key:∀i∈aJ (fun e=>e.2) g.es g.es.length x,i∈(X.filter (lz x)).map (·.1):=by
  refine Je (ms:=(X.filter (lz x)).map (·.1)) (os:=aJ (fun e=>e.2) g.es g.es.length x) ?_ ?_ ?_
  ·have h1:X.Pairwise fun s t=>0<=s.1->s.1≠t.1:=by
    have:=hi.once
    rw[hr,aeg,aeg]at this
    exact this.1.2.1
   have h2:=h1.filter (lz x)
   rw[List.Nodup,aeJ]
   refine h2.imp_of_mem fun {a b} ha hb h=>h ?_
   obtain⟨ha1,ha2⟩:=adJ.1 ha
   exact(hok a (hmem a ha1) (by simpa[lz]using ha2)).1
  ·intro e he
   obtain⟨t,ht,rfl⟩:=adb.1 he
   obtain⟨ht1,ht2⟩:=adJ.1 ht
   have ht2:t.2.2=x:=by simpa[lz]using ht2
   obtain⟨h1,h2,h3,h4⟩:=hok t (hmem t ht1) ht2
   simp only[aJ,adb,adJ,adl,ade]
   exact⟨t.1.toNat,⟨by omega,by rw[<- h4];exact ht2⟩,by simp;omega⟩
  ·rw[hN, <- hc,ado,agf]
 have hie:(i:Int)∈aJ (fun e=>e.2) g.es g.es.length x:=by
  simp only[aJ,adb,adJ,adl,ade]
  exact⟨i,⟨hl,hx⟩,rfl⟩
 obtain⟨t,ht,he⟩:=adb.1 (key _ hie)
 obtain⟨ht1,ht2⟩:=adJ.1 ht
 have ht2:t.2.2=x:=by simpa[lz]using ht2
 obtain⟨h1,h2,h3,h4⟩:=hok t (hmem t ht1) ht2
 refine⟨t,hmem t ht1,he, ?_,ht2⟩
 rw[h3,he,Int.toNat_natCast];rfl
theorem dO{g:Gr}(hm:aM g=true){f:Fr}(hi:fL g f){x:Int}(h0:0<=x)(hn:aV g x=0):gv x f.row:=by
 intro t ht he
 rcases hi.it t ht with ⟨_,h2⟩|⟨h1,h2,_,h4⟩
 ·omega
 ·have:=sO h1 h2
  rw[<- h4,he]at this
  omega
theorem iJ{g:Gr}(hm:aM g=true){f:Fr}(hi:fL g f){x:Int}(hR:au g f x=true):
 ∃A X C,f.row=A++X++C/\gv x A/\gv x C/\(∀t∈X,t.2.2=x\/t.2.2= -1)/\∀o,aC g f x o=((X,0),⟨A++aQ g x o++C,f.pl++ [x]⟩):=by
 by_cases hn:aV g x=0
 ·have h:=dO hm hi (aF hR).1 hn
  exact⟨[], [],f.row,by simp,fun t ht=>(by cases ht),h,fun t ht=>(by cases ht),fun o=>by rw[cH o h];simp⟩
 ·obtain⟨A,X,C,hr,hA,hC,hX,_⟩:=bD hm hi hR hn
  exact⟨A,X,C,hr,hA,hC,hX.al,fun o=>dR o hr hA hC hX⟩
theorem ko{g:Gr}{x i:Int}(h:i∈b8 g x):∃k:Nat,i=k/\k<g.es.length/\tl g k=x:=by
 obtain⟨⟨h1,h2⟩,h3⟩:=gA h
 exact⟨i.toNat,by omega,by omega,h3⟩
theorem ow{g:Gr}{x:Int}{o:List Int}(ho:∀i∈o,i∈b8 g x){t:It}(h:t∈aQ g x o):(t.1= -1/\t.2.2= -1)\/∃k:Nat,k<g.es.length/\t.1=k/\t.2.1=x/\t.2.2=hd g k/\tl g k=x/\t.1∈o:=by
 unfold aQ at h
 split at h
 ·rw[adv]at h
  rw[h];exact .inl ⟨rfl,rfl⟩
 ·obtain⟨i,hio,rfl⟩:=adb.1 h
  obtain⟨k,rfl,h1,h2⟩:=ko (ho i hio)
  exact .inr ⟨k,h1,rfl,rfl,by simp[gM];rfl,h2,hio⟩
theorem yg{g:Gr}(hm:aM g=true){f:Fr}(hi:Bx g f){x y:Int}(hx:x∉f.pl)(hR:au g f y=true){o:List Int}(ho:∀i∈o,i∈b8 g x):gv y (aQ g x o):=by
 intro t ht he
 rcases ow ho ht with ⟨_,h⟩|⟨k,h1,h2,h3,h4,h5,_⟩
 ·have:=(aF hR).1;omega
 ·obtain⟨s,hs,e1,e2,e3⟩:=yf hm hi hR h1 (by rw[<- h4];exact he)
  refine hx ?_
  rw[<- h5, <- e2]
  exact hi.tail s hs (by omega)
theorem kr{g:Gr}(hm:aM g=true){f:Fr}(hi:Bx g f){x:Int}(hR:au g f x=true){o:List Int}(ho:o.Perm (b8 g x)):Bx g (aC g f x o).2:=by
 have VD:∀i∈o,i∈b8 g x:=fun i h=>ho.mem_iff.1 h
 have hx:=(aF hR).2.2
 have h0:=Qc hi.tofL hR VD
 obtain⟨A,X,C,hr,hA,hC,hX,hs⟩:=iJ hm hi.tofL hR
 have dI:(aC g f x o).2.pl=f.pl++ [x]:=rfl
 have hrow:(aC g f x o).2.row=A++aQ g x o++C:=by rw[hs o]
 have hmA:∀t∈A,t∈f.row:=fun t ht=>by rw[hr];simp[ht]
 have hmC:∀t∈C,t∈f.row:=fun t ht=>by rw[hr];simp[ht]
 have X5:=yg hm hi hx hR VD
 refine {tofL:=h0,tail:= ?_,head:= ?_,once:= ?_,low:= ?_,src:= .inr ?_}
 ·intro t ht h1
  rw[dI]
  rw[hrow,ac9,ac9]at ht
  rcases ht with (ht|ht)|ht
  ·exact adS _ (hi.tail t (hmA t ht) h1)
  ·rcases ow VD ht with ⟨h,_⟩|⟨k,_,_,h3,_⟩
   ·omega
   ·rw[h3];simp
  ·exact adS _ (hi.tail t (hmC t ht) h1)
 ·intro t ht h1
  rw[dI,ac9,adv]
  rw[hrow,ac9,ac9]at ht
  rcases ht with (ht|ht)|ht
  ·rintro(h|h)
   ·exact hi.head t (hmA t ht) h1 h
   ·exact hA t ht h
  ·rintro(h|h)
   ·rcases ow VD ht with ⟨h',_⟩|⟨k,hk,_,_,h4,h5,_⟩
    ·omega
    ·rw[h4]at h
     have:=hi.low k hk h
     rw[h5]at this;exact hx this
   ·exact X5 t ht h
  ·rintro(h|h)
   ·exact hi.head t (hmC t ht) h1 h
   ·exact hC t ht h
 ·have Cs:=hi.once
  rw[hr,aeg,aeg]at Cs
  obtain⟨⟨hoA,_,_⟩,hoC,aaY⟩:=Cs
  have old:∀s∈f.row,0<=s.1->∀t∈aQ g x o,s.1≠t.1:=fun s hs h1 t ht e=>by
   rcases ow VD ht with ⟨h,_⟩|⟨k,hk,h2,h3,h4,h5,_⟩
   ·omega
   ·rcases hi.it s hs with ⟨h,_⟩|⟨_,_,h6,_⟩
    ·omega
    ·have:=hi.tail s hs h1
     rw[h6,e,h2,Int.toNat_natCast]at this
     exact hx (h5 ▸ this)
  rw[hrow,aeg,aeg]
  refine⟨⟨hoA, ?_,fun s hs t ht h1=>old s (hmA s hs) h1 t ht⟩,hoC, ?_⟩
  ·unfold aQ
   split
   ·simp
   ·refine aeJ.2 ((ho.nodup_iff.2 b7).imp fun {i j} (h:i≠j) _=> ?_)
    exact h
  ·intro s hs t ht h1
   rcases ac9.1 hs with hs|hs
   ·exact aaY s (adS _ hs) t ht h1
   ·intro e
    exact old t (hmC t ht) (by omega) s hs e.symm
 ·intro i hl h
  rw[dI,ac9,adv]at h ⊢
  left
  rcases h with h|h
  ·exact hi.low i hl h
  ·obtain⟨t,ht,e1,e2,_⟩:=yf hm hi hR hl h
   rw[<- e2]
   exact hi.tail t ht (by omega)
 ·rcases hi.src with ⟨h1,h2⟩|⟨s,hs,h⟩
  ·refine⟨x,by rw[dI];simp, ?_⟩
   refine adm fun hn=> ?_
   obtain⟨A,X,C,hr,_,_,hX,_⟩:=bD hm hi.tofL hR hn
   obtain⟨p,X',e,_⟩:=hX.fst
   rw[h2,e]at hr
   simp at hr
  ·exact⟨s,by rw[dI];simp[hs],h⟩
theorem apart{x y:Int}(hx:0<=x)(hy:0<=y)(hxy:x≠y){A X C B Y D:List It}(h:A++X++C=B++Y++D)(hX:Mid x X)(hY:Mid y Y):
 (∃M,B=A++X++M/\C=M++Y++D)\/(∃M,A=B++Y++M/\D=M++X++C):=by
 obtain⟨p,X',Jg,hp⟩:=hX.fst
 obtain⟨q,Y',hY',hq⟩:=hY.fst
 have nX:q∉X:=fun h=>hX.noH hxy hy q h hq
 have nY:p∉Y:=fun h=>hY.noH (Ne.symm hxy) hx p h hp
 rw[show B++Y++D=B++(Y++D) by simp,ae9]at h
 rcases h with ⟨es,h1,h2⟩|⟨cs,h1,h2⟩
 ·exact .inl ⟨es,h1,by rw[h2];simp⟩
 ·match cs,h1,h2 with
  | [],h1,h2=>exact .inl ⟨[],by simpa using h1.symm,by simpa using h2.symm⟩
  |c::cs,h1,h2=>
   have hcq:c=q:=by rw[hY']at h2;simp at h2;exact h2.1.symm
   rw[ae9]at h1
   rcases h1 with ⟨es,h3,h4⟩|⟨ds,h3,h4⟩
   ·exfalso;refine nX ?_
    rw[h4, <- hcq];simp
   ·rw[h4,adO,ae9]at h2
    rcases h2 with ⟨es,h5,h6⟩|⟨bs,h5,h6⟩
    ·exact .inr ⟨es,by rw[h3,h5];simp,by rw[h6];simp⟩
    ·match bs,h5,h6 with
     | [],h5,h6=>exact .inr ⟨[],by rw[h3,h5];simp,by simpa using h6.symm⟩
     |b::bs,h5,h6=>
      exfalso;refine nY ?_
      have hbp:b=p:=by rw[Jg]at h6;simp at h6;exact h6.1.symm
      rw[h5, <- hbp];simp
theorem GN{g:Gr}(hm:aM g=true){f:Fr}(hi:Bx g f){x y:Int}(hxy:x≠y)(KP:au g f x=true)(zC:au g f y=true)
 {a b:List Int} (ha:a.Perm (b8 g x)) (hb:b.Perm (b8 g y)) {A X M Y D:List It} (hr:f.row=A++X++M++Y++D) (hX:Mid x X) (hY:Mid y Y)
 (cX:X.countP (lz x)=aV g x) (cY:Y.countP (lz y)=aV g y)
 (nA:gv x A) (nC:gv x (M++Y++D)) (nB:gv y (A++X++M)) (nD:gv y D):
 au g (aC g f x a).2 y=true/\au g (aC g f y b).2 x=true/\(aC g (aC g f x a).2 y b).2.row=(aC g (aC g f y b).2 x a).2.row/\
 (aC g f x a).1=(aC g (aC g f y b).2 x a).1/\(aC g f y b).1=(aC g (aC g f x a).2 y b).1:=by
 obtain⟨x0,x1,x2⟩:=aF KP
 obtain⟨y0,y1,y2⟩:=aF zC
 have i1:=(kr hm hi KP ha).tofL
 have i2:=(kr hm hi zC hb).tofL
 have ux:=yg hm hi x2 zC (fun i h=>ha.mem_iff.1 h)
 have uy:=yg hm hi y2 KP (fun i h=>hb.mem_iff.1 h)
 have r1:f.row=A++X++(M++Y++D):=by rw[hr];simp
 have r2:f.row=(A++X++M)++Y++D:=by rw[hr]
 have e1:=dR (g:=g) a r1 nA nC hX
 have e2:=dR (g:=g) b r2 nB nD hY
 rw[e1]at i1 ⊢;rw[e2]at i2 ⊢
 have r3:A++aQ g x a++(M++Y++D)=(A++aQ g x a++M)++Y++D:=by simp
 have r4:A++X++M++aQ g y b++D=A++X++(M++aQ g y b++D):=by simp
 have n3:gv y (A++aQ g x a++M):=((nB.left.left).app ux).app nB.right
 have n4:gv x (M++aQ g y b++D):=(nC.left.left.app uy).app nC.right
 have e3:=dR (g:=g) (f:=⟨A++aQ g x a++(M++Y++D),f.pl++ [x]⟩) b r3 n3 nD hY
 have e4:=dR (g:=g) (f:=⟨A++X++M++aQ g y b++D,f.pl++ [y]⟩) a r4 nA n4 hX
 refine⟨mu hm i1 y0 y1 ?_ r3 n3 nD hY cY,mu hm i2 x0 x1 ?_ r4 nA n4 hX cX, ?_, ?_, ?_⟩
 ·simp[y2,Ne.symm hxy]
 ·simp[x2,hxy]
 ·simp only[e3,e4];simp
 ·simp only[e4]
 ·simp only[e3]
theorem MY{g:Gr}(hm:aM g=true){f:Fr}(hi:Bx g f){x y:Int}(hxy:x≠y)(KP:au g f x=true)(zC:au g f y=true)
 {a b:List Int} (ha:a.Perm (b8 g x)) (hb:b.Perm (b8 g y)) (nx:aV g x≠0) (ny:aV g y≠0):
 au g (aC g f x a).2 y=true/\au g (aC g f y b).2 x=true/\(aC g (aC g f x a).2 y b).2.row=(aC g (aC g f y b).2 x a).2.row/\
 (aC g f x a).1=(aC g (aC g f y b).2 x a).1/\(aC g f y b).1=(aC g (aC g f x a).2 y b).1:=by
 obtain⟨A,X,C,hr,hA,hC,hX,cX⟩:=bD hm hi.tofL KP nx
 obtain⟨B,Y,D,hr',hB,hD,hY,cY⟩:=bD hm hi.tofL zC ny
 rcases apart (aF KP).1 (aF zC).1 hxy (hr.symm.trans hr') hX hY with ⟨M,rfl,rfl⟩|⟨M,rfl,rfl⟩
 ·exact GN hm hi hxy KP zC ha hb (by rw[hr];simp) hX hY cX cY hA hC hB hD
 ·obtain⟨h1,h2,h3,h4,h5⟩:=GN hm hi (Ne.symm hxy) zC KP hb ha (by rw[hr'];simp) hY hX cY cX hB hD hA hC
  exact⟨h2,h1,h3.symm,h5,h4⟩
theorem sR{g:Gr}{y:Int} :y∈bZ (·.2) g↔(0<=y/\y<g.n)/\aV g y=0:=by
 simp only[bZ,lW,adb,adJ,adl,ade]
 have he:∀x:Nat,x<g.n.toNat->(((eR (·.2) g).getD x []).length=aV g (x:Int)):=by
  intro x hx
  have e:(eR (·.2) g).getD x []=aJ (·.2) g.es g.es.length (x:Int):=by
   simp[eR,aas,adq hx,oe]
  rw[e];rfl
 constructor
 ·rintro⟨x,⟨hx,h0⟩,rfl⟩
  refine⟨by simp;omega,by rw[he x hx]at h0;exact h0⟩
 ·rintro⟨⟨h1,h2⟩,h3⟩
  have e:((y.toNat:Nat):Int)=y:=by omega
  exact⟨y.toNat,⟨by omega,by rw[he _ (by omega),e];exact h3⟩,e⟩
theorem gB{g:Gr}(hc:(bX g).1=0){x y:Int}(hx:0<=x/\x<g.n)(hy:0<=y/\y<g.n)(nx:aV g x=0)(ny:aV g y=0):x=y:=by
 have h1:(bZ (·.2) g).length<=1:=by
  unfold bX iT at hc
  refine Nat.not_lt.1 fun h=> ?_
  split at hc
  ·cases hc
  split at hc
  ·cases hc
  split at hc
  ·cases hc
  split at hc
  ·cases hc
  cases hc
 have h2:=sR.2 ⟨hx,nx⟩
 have h3:=sR.2 ⟨hy,ny⟩
 match hb:bZ (·.2) g with
 | []=>rw[hb]at h2;cases h2
 | [z]=>rw[hb,adv]at h2 h3;rw[h2,h3]
 |_::_::_=>rw[hb]at h1;simp at h1
theorem ah{g:Gr}(hc:(bX g).1=0):aM g=true:=by
 unfold bX iT at hc
 split at hc
 ·cases hc
 ·rename_i h;simpa using h
theorem GO{g:Gr}(hc:(bX g).1=0){f:Fr}(hi:Bx g f){x y:Int}(hxy:x≠y)(KP:au g f x=true)(zC:au g f y=true):aV g x≠0:=by
 intro nx
 have hm:=ah hc
 obtain⟨x0,x1,x2⟩:=aF KP
 obtain⟨y0,y1,y2⟩:=aF zC
 rcases hi.src with ⟨h1,h2⟩|⟨s,hs,h⟩
 ·have ny:aV g y≠0:=fun ny=>hxy (gB hc ⟨x0,x1⟩ ⟨y0,y1⟩ nx ny)
  obtain⟨A,X,C,hr,_,_,hX,_⟩:=bD hm hi.tofL zC ny
  obtain⟨p,X',e,_⟩:=hX.fst
  rw[h2,e]at hr
  simp at hr
 ·exact x2 (gB hc (hi.lg s hs) ⟨x0,x1⟩ h nx ▸ hs)
theorem Dg{g:Gr}(hc:(bX g).1=0){f:Fr}(hi:Bx g f){x y:Int}(hxy:x≠y)(KP:au g f x=true)(zC:au g f y=true)
 {a b:List Int} (ha:a.Perm (b8 g x)) (hb:b.Perm (b8 g y)):
 au g (aC g f x a).2 y=true/\au g (aC g f y b).2 x=true/\(aC g (aC g f x a).2 y b).2.row=(aC g (aC g f y b).2 x a).2.row/\
 (aC g f x a).1=(aC g (aC g f y b).2 x a).1/\(aC g f y b).1=(aC g (aC g f x a).2 y b).1:=
 MY (ah hc) hi hxy KP zC ha hb (GO hc hi hxy KP zC) (GO hc hi (Ne.symm hxy) zC KP)
end Go.Ab
end
section
set_option maxHeartbeats 8000000
set_option maxRecDepth 10000
namespace Go.Ab
attribute [local congr] ACall.congr gd.congr Hd.congr Ny.congr vcOps.congr
open Go.Proofs
def KQ(row:List It)(a b:Int):Nat->Int × Int
 |0=>(-1,0)
 |k+1=>if((row.getD k (0,0,0)).2.2=a\/(row.getD k (0,0,0)).2.2=b)/\(row.getD k (0,0,0)).2.2≠(KQ row a b k).1 then((row.getD k (0,0,0)).2.2,(KQ row a b k).2+1) else KQ row a b k
def WJ(row:List It)(i:Nat):Int:=(row.getD i (0,0,0)).2.2
def aaZ(row:List It)(i j:Nat):Bool:=decide (WJ row i≠ -1)&&decide (WJ row j≠ -1)&&decide (WJ row i≠WJ row j)&&decide (4<=(KQ row (WJ row i) (WJ row j) row.length).2)
def abU(row:List It):Bool:=(List.range row.length).any fun i=>(List.range row.length).any (aaZ row i)
def T4(row:List It)(a b c d:Nat):Prop:=0<=(row.getD a (0,0,0)).2.2/\0<=(row.getD b (0,0,0)).2.2/\(row.getD a (0,0,0)).2.2≠(row.getD b (0,0,0)).2.2/\(row.getD a (0,0,0)).2.2=(row.getD c (0,0,0)).2.2/\(row.getD b (0,0,0)).2.2=(row.getD d (0,0,0)).2.2
def acJ(row:List It):Prop:=∃a b c d,a<b/\b<c/\c<d/\d<row.length/\T4 row a b c d
end Go.Ab
end
section
set_option maxRecDepth 10000
namespace Go.Ab
open Go.Proofs
theorem y8{g:Gr}{f f':Fr}(hr:f.row=f'.row)(hp:f.pl.Perm f'.pl)(x:Int):au g f x=au g f' x:=by
 unfold au
 rw[hr]
 by_cases h:x<0\/g.n<=x\/x∈f.pl
 ·rw[ada h,ada (by rw[<- hp.mem_iff];exact h)]
 ·have h':¬(x<0\/g.n<=x\/x∈f'.pl):=by rw[<- hp.mem_iff];exact h
  rw[ac8 h,ac8 h']
theorem jP:∀ {l m:List Int},l.Nodup->(∀i∈l,i∈m)->l.length<=m.length
 | [],_,_,_=>by simp
 |a::l,m,hn,hs=>by
  rw[ad6]at hn
  have ha:=hs a (adI ..)
  have:=jP hn.2 (m:=m.erase a) fun i hi=>(afP (fun e:i=a=>hn.1 (e ▸ hi))).2 (hs i (adA _ hi))
  rw[afX ha]at this
  have:=afD ha
  rw[List.length_cons];omega
theorem jQ{g:Gr}{f:Fr}(hi:fL g f)(hf:(f.pl.length:Int)=g.n){x:Int}(hx:0<=x/\x<g.n):x∈f.pl:=by
 refine adm fun h=> ?_
 have h1:(x::f.pl).Nodup:=ad6.2 ⟨h,hi.pl⟩
 have h2:((List.range g.n.toNat).map Int.ofNat).length=g.n.toNat:=by simp
 have h3:=jP h1 (m:=(List.range g.n.toNat).map Int.ofNat) (fun y hy=>by
  rw[adb]
  have:0<=y/\y<g.n:=by
   rcases adw.1 hy with h|h
   ·rw[h];exact hx
   ·exact hi.lg y h
  exact⟨y.toNat,adl.2 (by omega),by simp;omega⟩)
 rw[h2,List.length_cons]at h3
 omega
def Tg(a b:Int)(row:List It):Prop:=∃l:List It,l.Sublist row/\l.map (fun t=>t.2.2)= [a,b,a,b]
def Qd(a b:Int)(t:It):Bool:=decide (t.2.2=a)||decide (t.2.2=b)
theorem Tg.aa0{a b:Int}{row:List It} :Tg a b row↔Tg a b (row.filter (Qd a b)):=by
 constructor
 ·rintro⟨l,h,e⟩
  refine⟨l, ?_,e⟩
  have h1:=h.filter (Qd a b)
  rw[afl.2]at h1
  ·exact h1
  ·intro t ht
   have:t.2.2∈l.map (fun t=>t.2.2):=adb.2 ⟨t,ht,rfl⟩
   rw[e]at this
   simp only[Qd,adL,ade]
   simp only[adw,aeo,or_false]at this
   omega
 ·rintro⟨l,h,e⟩
  exact⟨l,h.trans List.filter_sublist,e⟩
theorem Tg.keep{a b x:Int}(ha:0<=a)(hb:0<=b)(RN:a≠x)(Ef:b≠x){A X C u:List It}(hX:∀t∈X,t.2.2=x\/t.2.2= -1)(h:Tg a b (A++X++C)):Tg a b (A++u++C):=by
 rw[Tg.aa0]at h ⊢
 obtain⟨l,h,e⟩:=h
 refine⟨l,h.trans ?_,e⟩
 rw[ad9,ad9,ad9,ad9]
 have:X.filter (Qd a b)= []:=aeA.2 fun t ht=>by
  simp only[Qd,adL,ade]
  rcases hX t ht with h|h<;>omega
 rw[this,ad5]
 exact List.Sublist.append_right (List.sublist_append_left _ _) _
theorem Tg.not{a b x:Int}(hab:a≠b)(hb0:0<=b)(ha0:0<=a)(hx:x=a\/x=b){A X C:List It}(hA:gv x A)(hC:gv x C)(hX:∀t∈X,t.2.2=x\/t.2.2= -1):¬Tg a b (A++X++C):=by
 rintro⟨l,h,e⟩
 rw[adO,af2]at h
 obtain⟨l1,l',rfl,h1,h'⟩:=h
 rw[af2]at h'
 obtain⟨l2,l3,rfl,h2,h3⟩:=h'
 have k1:∀t∈l1,t.2.2≠x:=fun t ht=>hA t (h1.subset ht)
 have k2:∀t∈l2,t.2.2=x\/t.2.2= -1:=fun t ht=>hX t (h2.subset ht)
 have k3:∀t∈l3,t.2.2≠x:=fun t ht=>hC t (h3.subset ht)
 clear h1 h2 h3
 match l1,k1,e with
 |t1::t2::_,k1,e=>
  simp only[List.cons_append,adD,adB]at e
  rcases hx with h|h
  ·exact k1 t1 (by simp) (by omega)
  ·exact k1 t2 (by simp) (by omega)
 | [t1],k1,e=>
   simp only[List.cons_append,List.nil_append,adD,adB]at e
   rcases hx with h|h
   ·exact k1 t1 (by simp) (by omega)
   ·match l2,k2,e with
    | [],_,e=>
      match l3,k3,e with
      | [s1,s2,s3],k3,e=>
        simp only[List.nil_append,adD,adP,adB,afd]at e
        exact k3 s1 (by simp) (by omega)
      | [],_,e=>simp at e
      | [_],_,e=>simp at e
      | [_,_],_,e=>simp at e
      |_::_::_::_::_,_,e=>simp at e
    |s1::s2::_,k2,e=>
     simp only[List.cons_append,adD,adB]at e
     rcases k2 s2 (by simp) with h|h<;>omega
    | [s1],k2,e=>
      match l3,k3,e with
      | [u1,u2],k3,e=>
        simp only[List.cons_append,List.nil_append,adD,adP,adB,afd]at e
        exact k3 u2 (by simp) (by omega)
      | [],_,e=>simp at e
      | [_],_,e=>simp at e
      |_::_::_::_,_,e=>simp at e
 | [],_,e=>
   simp only[List.nil_append]at e
   match l2,k2,e with
   | [],_,e=>
     match l3,k3,e with
     | [],_,e=>simp at e
     | [_],_,e=>simp at e
     |s1::s2::_,k3,e=>
      simp only[List.nil_append,adD,adB]at e
      rcases hx with h|h
      ·exact k3 s1 (by simp) (by omega)
      ·exact k3 s2 (by simp) (by omega)
   |s1::s2::_,k2,e=>
    simp only[List.cons_append,adD,adB]at e
    have q1:=k2 s1 (by simp)
    have q2:=k2 s2 (by simp)
    omega
   | [s1],k2,e=>
     match l3,k3,e with
     | [],_,e=>simp at e
     | [_],_,e=>simp at e
     | [_,_],_,e=>simp at e
     |u1::u2::u3::_,k3,e=>
      simp only[List.cons_append,List.nil_append,adD,adB]at e
      have q1:=k2 s1 (by simp)
      exact k3 u2 (by simp) (by omega)
theorem Dh{row:List It}{k:Nat}(h:k<row.length):row.take (k+1)=row.take k++ [row.getD k (0,0,0)]:=by
 rw[ad2,aas,acF h];rfl
theorem Qe{row:List It}{i j:Nat}(h:i<=j):(row.take i).Sublist (row.take j):=by
 rw[show row.take i=(row.take j).take i by rw[List.take_take,agr h]]
 exact List.take_sublist _ _
theorem By{row l:List It}{i j:Nat}(h:l.Sublist (row.take i))(hij:i<=j)(hj:j<row.length):(l++ [row.getD j (0,0,0)]).Sublist (row.take (j+1)):=by
 rw[Dh hj]
 exact agK (h.trans (Qe hij)) (agC _)
def aa1(a b:Int):List It->Prop
 | []=>True
 | [t]=>t.2.2=a\/t.2.2=b
 |s::t::l=>(s.2.2=a\/s.2.2=b)/\s.2.2≠t.2.2/\aa1 a b (t::l)
end Go.Ab
end
section
set_option maxHeartbeats 4000000
set_option maxRecDepth 10000
namespace Go.Ab
attribute [local congr] ACall.congr gd.congr Hd.congr Ny.congr vcOps.congr
open Go.Proofs
def aa2(g:Gr)(out:List Int)(x:Nat)(i:Nat):Bool:=(List.range i).all fun j=> !decide (hd g j=(x:Int))||decide (tl g j∈out)
def acK(g:Gr)(out:List Int)(k:Nat)(f:Bool):Prop:=k<=g.n.toNat/\(if f then 0<k/\wt g out (k - 1)=0/\∀j,j<k - 1->wt g out j≠0 else ∀j,j<k->wt g out j≠0)
def acL(out:List Int)(k:Nat)(f:Bool):List Int:=if f then out++ [((k - 1:Nat):Int)] else out
end Go.Ab
end
section
set_option maxRecDepth 10000
namespace Go.Ab
open Go.Proofs
structure Pl where
 ord:List Int
 outs:List (List Int)
def aq(p:Pl)(k:Nat):Int:=p.ord.getD k 0
def bE(p:Pl)(x:Int):List Int:=p.outs.getD x.toNat []
def bq(g:Gr)(p:Pl):Prop:=p.outs.length=g.n.toNat/\p.ord.Perm (dD g.n.toNat)/\∀x:Nat,x<g.n.toNat->(p.outs.getD x []).Perm (b8 g x)
def fK(g:Gr)(p:Pl):Nat->Fr
 |0=>⟨[], []⟩
 |k+1=>(aC g (fK g p k) (aq p k) (bE p (aq p k))).2
def cB(g:Gr)(p:Pl)(k:Nat):List It:=(aC g (fK g p k) (aq p k) (bE p (aq p k))).1.1
def xP(g:Gr)(p:Pl)(k:Nat):Bool:=au g (fK g p k) (aq p k)
def gC(g:Gr)(p:Pl):Nat->List (List It)
 |0=>List.replicate g.n.toNat []
 |k+1=>(gC g p k).set (aq p k).toNat (cB g p k)
def ox(g:Gr)(p:Pl):Nat->Option Nat
 |0=>none
 |k+1=>match ox g p k with
  |some i=>some i
  |none=>if xP g p k=true then none else some k
def aG(g:Gr)(p:Pl):Prop:=(bX g).1=0/\bq g p/\∀k,k<g.n.toNat->xP g p k=true
theorem jR{g:Gr}{p:Pl} :∀ {k:Nat},ox g p k=none↔∀j,j<k->xP g p j=true
 |0=>by simp[ox]
 |k+1=>by
  rw[ox]
  cases h:ox g p k with
  |some i=>
   simp only[reduceCtorEq,false_iff]
   intro h2
   rw[jR.2 fun j hj=>h2 j (by omega)]at h
   cases h
  |none=>
   have ih:=jR.1 h
   simp only
   constructor
   ·intro h2 j hj
    by_cases hjk:j=k
    ·subst hjk
     refine adm fun hn=> ?_
     rw[ac8 hn]at h2;cases h2
    ·exact ih j (by omega)
   ·intro h2
    rw[ada (h2 k (by omega))]
theorem Bz{g:Gr}{p:Pl}{i:Nat} :∀ {k:Nat},ox g p k=some i↔i<k/\xP g p i=false/\∀j,j<i->xP g p j=true
 |0=>by simp[ox]
 |k+1=>by
  rw[ox]
  cases h:ox g p k with
  |some i'=>
   have ih:=(Bz (g:=g) (p:=p)).1 h
   simp only[adz]
   constructor
   ·rintro rfl
    exact⟨by omega,ih.2⟩
   ·rintro⟨h1,h2,h3⟩
    rcases aex i' i with h4|h4|h4
    ·rw[h3 i' h4]at ih;simp at ih
    ·exact h4
    ·rw[ih.2.2 i h4]at h2;cases h2
  |none=>
   have ih:=jR.1 h
   simp only
   constructor
   ·intro h2
    by_cases hk:xP g p k=true
    ·rw[ada hk]at h2;cases h2
    ·rw[ac8 hk]at h2
     cases h2
     exact⟨by omega,by simpa using hk,ih⟩
   ·rintro⟨h1,h2,h3⟩
    have:i=k:=by
     by_cases h4:i<k
     ·rw[ih i h4]at h2;cases h2
     ·omega
    subst this
    rw[ac8 (by rw[h2];simp)]
theorem gY{n:Nat} :(dD n).length=n:=by simp[dD]
theorem aI{g:Gr}{p:Pl}(h:bq g p):p.ord.length=g.n.toNat:=by rw[h.2.1.length_eq,gY]
theorem cF{g:Gr}{p:Pl}(h:bq g p):p.ord.Nodup:=h.2.1.nodup_iff.2 jM
theorem aD{g:Gr}{p:Pl}(h:bq g p){k:Nat}(hk:k<g.n.toNat):0<=aq p k/\aq p k<g.n:=by
 have h1:aq p k∈p.ord:=az (by rw[aI h];exact hk)
 have:=cE.1 (h.2.1.mem_iff.1 h1)
 omega
theorem dS{g:Gr}{p:Pl}(h:bq g p){i j:Nat}(hi:i<g.n.toNat)(hj:j<g.n.toNat)(e:aq p i=aq p j):i=j:=
 l9 (cF h) (by rw[aI h];exact hi) (by rw[aI h];exact hj) e
theorem cq{g:Gr}{p:Pl}(h:bq g p){x:Int}(h0:0<=x)(h1:x<g.n):∃k,k<g.n.toNat/\aq p k=x:=by
 have:x∈p.ord:=h.2.1.mem_iff.2 (cE.2 (by omega))
 obtain⟨k,hk,e⟩:=ads.1 this
 refine⟨k,by rw[<- aI h];exact hk, ?_⟩
 rw[aq,aas,acF hk,Option.getD_some,e]
theorem aW{g:Gr}{p:Pl}(h:bq g p){x:Int}(h0:0<=x)(h1:x<g.n):(bE p x).Perm (b8 g x):=by
 have:=h.2.2 x.toNat (by omega)
 rwa [show((x.toNat:Nat):Int)=x by omega]at this
theorem wS{g:Gr}{p:Pl}(h:bq g p){x:Int}(h0:0<=x)(h1:x<g.n):(bE p x).length<=g.es.length:=by
 rw[(aW h h0 h1).length_eq];exact P9
theorem bz{g:Gr}(hm:aM g=true){p:Pl}(h:bq g p):∀ {k:Nat},k<=g.n.toNat->(∀j,j<k->xP g p j=true)->Bx g (fK g p k)/\(fK g p k).pl=p.ord.take k/\(fK g p k).row.length<=k*(g.es.length+1)
 |0,_,_=>⟨wR g,by simp[fK],by simp[fK]⟩
 |k+1,hk,hok=>by
  obtain⟨h1,h2,h3⟩:=bz hm h (k:=k) (by omega) fun j hj=>hok j (by omega)
  obtain⟨x0,x1⟩:=aD h (k:=k) (by omega)
  have hl:=De (g:=g) (f:=fK g p k) (x:=aq p k) (o:=bE p (aq p k))
  have IA:=wS h x0 x1
  refine⟨kr hm h1 (hok k (by omega)) (aW h x0 x1), ?_, ?_⟩
  ·show(fK g p k).pl++ [aq p k]=_
   rw[h2,ad2,acF (by rw[aI h];omega),aq,aas,acF (by rw[aI h];omega)]
   rfl
  ·show(aC _ _ _ _).2.row.length<=_
   rw[ad7];omega
theorem Qf{g:Gr}{p:Pl}(h:bq g p){k:Nat}(hk:k<g.n.toNat)(hR:xP g p k=true):jq g (fK g p k) (aq p k) (bE p (aq p k))=aC g (fK g p k) (aq p k) (bE p (aq p k)):=by
 have hp:=aW h (aD h hk).1 (aD h hk).2
 unfold jq
 have Zf:au g (fK g p k) (aq p k)=true:=hR
 rw[ac8 (by rw[Zf];simp),ac8]
 rintro(h|⟨i,h1,h2⟩)
 ·exact h hp.length_eq
 ·exact h2 (hp.mem_iff.2 h1)
theorem Qg{g:Gr}{p:Pl}{k:Nat}(hR:xP g p k=false):jq g (fK g p k) (aq p k) (bE p (aq p k))=(([],3),fK g p k):=ada hR
theorem qW{g:Gr}{p:Pl} :∀ {k:Nat},(gC g p k).length=g.n.toNat
 |0=>by simp[gC]
 |k+1=>by rw[gC,adQ,qW]
theorem sS{α:Type}{l:List α}{i j:Nat}{a d:α}(hi:i<l.length):(l.set i a).getD j d=if j=i then a else l.getD j d:=by
 rw[aas,aeb,aas]
 by_cases h:i=j
 ·subst h;simp[hi]
 ·rw[ac8 h,ac8 (Ne.symm h)]
theorem wT{g:Gr}{p:Pl}(h:bq g p):∀ {k:Nat},k<=g.n.toNat->∀ {i:Nat},i<k->(gC g p k).getD (aq p i).toNat []=cB g p i
 |0,_,i,hi=>by omega
 |k+1,hk,i,hi=>by
  have hm:=aD h (k:=k) (by omega)
  rw[gC,sS (by rw[qW];omega)]
  by_cases e:i=k
  ·subst e;rw[ada rfl]
  ·have Sh:=aD h (k:=i) (by omega)
   rw[ac8 (fun h2=>e (dS h (by omega) (by omega) (by omega)))]
   exact wT h (by omega) (by omega)
theorem wU{l m:List Int}(h:lu l=m):l.Perm m:=by
 rw[<- h];exact(List.mergeSort_perm l _).symm
theorem GP{n:Nat} :(dD n).Pairwise (· <= ·):=by
 unfold dD
 refine aey _ (fun a b (h:a<b)=> ?_) ag3
 show(a:Int)<=b
 omega
theorem SP{g:Gr}(hm:aM g=true){p:Pl} :(p.outs.length=g.n.toNat/\p.ord.length=g.n.toNat/\(∀i:Nat,i<(lu p.ord).length->(lu p.ord).getD i 0=i)/\∀x:Nat,x<p.outs.length->lu (p.outs.getD x [])=bQ (·.1) g x)↔bq g p:=by
 constructor
 ·rintro⟨h1,h2,h3,h4⟩
  refine⟨h1,wU ?_,fun x hx=> ?_⟩
  ·refine agn (by rw[iH,h2,gY]) fun i h5 h6=> ?_
   have:=h3 i h5
   rw[aas,acF h5,Option.getD_some]at this
   rw[this];simp[dD]
  ·have:=h4 x (by omega)
   rw[jO (by omega) (by omega)]at this
   exact wU this
 ·intro h
  refine⟨h.1,aI h, ?_,fun x hx=> ?_⟩
  ·rw[Bw h.2.1 GP]
   intro i hi
   rw[gY]at hi
   simp[dD,aas,adq hi]
  ·rw[jO (by omega) (by have:=h.1;omega)]
   exact Bw (h.2.2 x (by rw[<- h.1];exact hx)) y7
theorem SQ{g:Gr}(hm:aM g=true){p:Pl} :(ql p.ord g.n=true/\p.outs.length=g.n.toNat/\(∀x:Nat,x<p.outs.length->∀i∈p.outs.getD x [],i∈b8 g x)/\p.outs.flatten.Nodup/\∀i:Nat,i<g.es.length->(i:Int)∈p.outs.flatten)↔bq g p:=by
 have hn:=aB hm
 constructor
 ·rintro⟨h1,h2,h3,h4,h5⟩
  refine⟨h2, ?_,fun x hx=> ?_⟩
  ·obtain⟨e1,e2⟩:=cV.1 h1
   exact wQ jM e2 (by rw[gY];omega)
  ·have hxl:x<p.outs.length:=by omega
   have hmem:p.outs.getD x []∈p.outs:=az hxl
   have bR:(p.outs.getD x []).Nodup:=by
    rw[List.Nodup,ag8]at h4
    exact h4.1 _ hmem
   refine(aec bR b7).2 fun i=>⟨h3 x hxl i,fun hi=> ?_⟩
   obtain⟨k,rfl,hk,ht⟩:=ko hi
   obtain⟨l,hl,cM⟩:=agU.1 (h5 k hk)
   obtain⟨y,hy,rfl⟩:=ads.1 hl
   have e:p.outs.getD y []=p.outs[y]:=by rw[aas,acF hy];rfl
   rw[<- e]at cM
   obtain⟨k',e1,_,e2⟩:=ko (h3 y hy _ cM)
   have:k=k':=by omega
   subst this
   have:x=y:=by omega
   subst this
   exact cM
 ·intro h
  refine⟨cV.2 ⟨?_,fun x hx=>h.2.1.mem_iff.2 hx⟩,h.1,fun x hx i hi=>(h.2.2 x (by rw[<- h.1];exact hx)).mem_iff.1 hi, ?_,fun i hi=> ?_⟩
  ·have:=aI h;omega
  ·rw[List.Nodup,ag8]
   constructor
   ·intro l hl
    obtain⟨x,hx,rfl⟩:=ads.1 hl
    have e:p.outs.getD x []=p.outs[x]:=by rw[aas,acF hx];rfl
    rw[<- e]
    exact(h.2.2 x (by rw[<- h.1];exact hx)).nodup_iff.2 b7
   ·refine aei.2 fun x y hx hy hxy a ha b hb e=> ?_
    subst e
    have ex:p.outs.getD x []=p.outs[x]:=by rw[aas,acF hx];rfl
    have ey:p.outs.getD y []=p.outs[y]:=by rw[aas,acF hy];rfl
    rw[<- ex]at ha
    rw[<- ey]at hb
    obtain⟨k,e1,_,e2⟩:=ko ((h.2.2 x (by rw[<- h.1];exact hx)).mem_iff.1 ha)
    obtain⟨k',e3,_,e4⟩:=ko ((h.2.2 y (by rw[<- h.1];exact hy)).mem_iff.1 hb)
    have:k=k':=by omega
    subst this
    omega
  ·have ht:=(cU hm hi).1
   refine agU.2 ⟨p.outs.getD (tl g i).toNat [],az (by rw[h.1];have:0<=tl g i/\tl g i<g.n:=ht;omega), ?_⟩
   have:0<=tl g i/\tl g i<g.n:=ht
   refine(h.2.2 _ (by omega)).mem_iff.2 ?_
   simp only[b8,aJ,adb,adJ,adl,ade]
   exact⟨i,⟨hi,by show tl g i=_;omega⟩,rfl⟩
def KR(lt:Int->Int->Bool)(us:List Int):Nat->Int
 |0=> -1
 |k+1=>if(!decide ((k:Int)∈us))&&(decide (KR lt us k<0)||lt k (KR lt us k)) then k else KR lt us k
def X6(lt:Int->Int->Bool)(n:Nat):Nat->List Int
 |0=> []
 |j+1=>X6 lt n j++ [KR lt (X6 lt n j) n]
def LtP(lt:Int->Int->Bool)(u v:Int):Prop:=lt u v=true/\lt v u=false
section
variable {lt:Int->Int->Bool} {n:Nat} {ord:List Int} (hp:ord.Perm (dD n)) (hs:ord.Pairwise (LtP lt))
include hp hs
end
def CH(sw:Int->Int->Bool):Int->List Int->Int × List Int
 |a, []=>(a, [])
 |a,c::r=>if sw a c then((CH sw c r).1,a::(CH sw c r).2) else((CH sw a r).1,c::(CH sw a r).2)
def SR(sw:Int->Int->Bool):Nat->List Int->List Int
 |0,l=>l
 |_+1, []=> []
 |n+1,a::r=>(CH sw a r).1::SR sw n (CH sw a r).2
theorem mw{sw:Int->Int->Bool} :∀ {l:List Int} {a:Int},((CH sw a l).1::(CH sw a l).2).Perm (a::l)
 | [],a=>agM _
 |c::r,a=>by
  rw[CH]
  split
  ·exact(List.Perm.swap ..).trans ((List.Perm.cons a (mw (l:=r) (a:=c))))
  ·exact(List.Perm.swap ..).trans ((List.Perm.cons c (mw (l:=r) (a:=a))).trans (List.Perm.swap ..))
theorem SS{sw:Int->Int->Bool}{l:List Int}{a:Int} :(CH sw a l).2.length=l.length:=by
 have:=(mw (sw:=sw) (l:=l) (a:=a)).length_eq
 simpa using this
theorem wV{sw:Int->Int->Bool} :∀ {n:Nat} {l:List Int},(SR sw n l).Perm l
 |0,l=>agM _
 |_+1, []=>agM _
 |n+1,a::r=>by
  rw[SR]
  exact(List.Perm.cons _ wV).trans mw
section
variable {sw:Int->Int->Bool} {R:Int->Int->Prop} {S:Int->Prop} (htr:∀a b c,S a->S b->S c->R a b->R b c->R a c) (hsw:∀a c,S a->S c->a≠c->if sw a c=true then R c a else R a c)
include htr hsw
theorem EN:∀ {l:List Int} {a:Int},(a::l).Nodup->(∀x∈a::l,S x)->((CH sw a l).1=a\/R (CH sw a l).1 a)/\∀y∈(CH sw a l).2,R (CH sw a l).1 y
 | [],a,_,_=>⟨.inl rfl,fun y hy=>by cases hy⟩
 |c::r,a,hn,hS=>by
  have hac:a≠c:=fun e=>by subst e;simp at hn
  have h0:=hsw a c (hS a (by simp)) (hS c (by simp)) hac
  have n1:(c::r).Nodup:=(ad6.1 hn).2
  have n2:(a::r).Nodup:=by
   rw[ad6]at hn ⊢
   exact⟨fun h=>hn.1 (by simp[h]),(ad6.1 hn.2).2⟩
  rw[CH]
  split at h0<;>rename_i hs
  ·rw[ada hs]
   obtain⟨h1,h2⟩:=EN (l:=r) (a:=c) n1 fun x hx=>hS x (by simp at hx ⊢;rcases hx with h|h<;>simp[h])
   have hSm:S (CH sw c r).1:=hS _ (by have:=(mw (sw:=sw) (l:=r) (a:=c)).mem_iff.1 (adI ..);simp at this ⊢;rcases this with h|h<;>simp[h])
   have hma:R (CH sw c r).1 a:=by
    rcases h1 with h1|h1
    ·rw[h1];exact h0
    ·exact htr _ _ _ hSm (hS c (by simp)) (hS a (by simp)) h1 h0
   exact⟨.inr hma,fun y hy=>(adw.1 hy).elim (fun e=>e ▸ hma) (h2 y)⟩
  ·rw[ac8 hs]
   obtain⟨h1,h2⟩:=EN (l:=r) (a:=a) n2 fun x hx=>hS x (by simp at hx ⊢;rcases hx with h|h<;>simp[h])
   have hSm:S (CH sw a r).1:=hS _ (by have:=(mw (sw:=sw) (l:=r) (a:=a)).mem_iff.1 (adI ..);simp at this ⊢;rcases this with h|h<;>simp[h])
   have RW:R (CH sw a r).1 c:=by
    rcases h1 with h1|h1
    ·rw[h1];exact h0
    ·exact htr _ _ _ hSm (hS a (by simp)) (hS c (by simp)) h1 h0
   exact⟨h1,fun y hy=>(adw.1 hy).elim (fun e=>e ▸ RW) (h2 y)⟩
theorem uU:∀ {n:Nat} {l:List Int},l.length<=n->l.Nodup->(∀x∈l,S x)->(SR sw n l).Pairwise R
 |0,l,h,_,_=>by
  have:l= []:=adF (by omega)
  subst this;exact List.Pairwise.nil
 |n+1, [],_,_,_=>List.Pairwise.nil
 |n+1,a::r,h,hn,hS=>by
  rw[SR,aeW]
  have hp:=mw (sw:=sw) (l:=r) (a:=a)
  refine⟨fun y hy=>(EN htr hsw hn hS).2 y (wV.mem_iff.1 hy),uU (by rw[SS];simpa using h) (ad6.1 (hp.nodup_iff.2 hn)).2 fun x hx=>hS x (hp.mem_iff.1 (by simp[hx]))⟩
end
theorem MZ{R:Int->Int->Prop}{l m:List Int}(hp:l.Perm m)(ha:∀a b,R a b->R b a->False)(h1:l.Pairwise R)(h2:m.Pairwise R):l=m:=by
 induction l generalizing m with
 |nil=>exact hp.symm.eq_nil.symm
 |cons a l ih=>
  cases m with
  |nil=>exact absurd hp.length_eq (by simp)
  |cons b m=>
   obtain⟨a1,a2⟩:=aeW.1 h1
   obtain⟨b1,b2⟩:=aeW.1 h2
   have hab:a=b:=by
    refine adm fun hne=> ?_
    have ma:a∈b::m:=hp.mem_iff.1 (by simp)
    have mb:b∈a::l:=hp.mem_iff.2 (by simp)
    have ma:a∈m:=(adw.1 ma).elim (fun e=>absurd e hne) id
    have mb:b∈l:=(adw.1 mb).elim (fun e=>absurd e.symm hne) id
    exact ha a b (a1 b mb) (b1 a ma)
   subst hab
   rw[ih ((List.perm_cons a).1 hp) a2 b2]
def exF(sw:Int->Int->Bool)(a:Int)(done todo:List Int):List Int:=(CH sw a todo).1::SR sw (done.length+todo.length) (done++(CH sw a todo).2)
end Go.Ab
end
section
namespace Go.Ab
set_option maxRecDepth 10000
structure PS where
 m:Nat
 src:Int
 VF:Int
 tl:Int->Int
 hd:Int->Int
 ins:Int->List Int
 outs:Int->List Int
 WL:Int->Nat
 Row:Nat->List Int->List Int->Prop
 k0:Nat
def PS.E(P:PS)(e:Int):Prop:=0<=e/\e<P.m
structure PS.Ok (P:PS):Prop where
 bI:∀x e,e∈P.outs x↔P.E e/\P.tl e=x
 cz:∀x e,e∈P.ins x↔P.E e/\P.hd e=x
 wW:∀x,(P.outs x).Nodup
 Jh:∀x,(P.ins x).Nodup
 EO:∀e,P.E e->P.WL (P.tl e)<P.WL (P.hd e)
 SU:P.Row P.k0 (P.outs P.src) [P.src]
 qX:∀ {k W D},P.Row k W D->W.Nodup
 eW:∀ {k W D},P.Row k W D->∀e,e∈W↔P.E e/\P.tl e∈D/\P.hd e∉D
 qY:∀ {k W D},P.Row (k+1) W D->∃x A C,W=A++P.ins x++C/\P.ins x≠ []
 row_step:∀ {k W D x A C},P.Row k W D->W=A++P.ins x++C->P.ins x≠ []->∃k',k=k'+1/\P.Row k' (A++P.outs x++C) (D++ [x])
 sV:∀ {W D},P.Row 0 W D->∀e,P.E e->P.hd e∈D
 wX:∀ {k W D},P.Row k W D->P.src∈D
 zR:∀ {k W D},P.Row k W D->P.VF∈D->k=0
 BA:P.ins P.src= []
 wY:∀x,P.ins x≠ []->(P.outs x= []↔x=P.VF)
theorem yh{l:List Int} :l.reverse.Nodup↔l.Nodup:=(List.reverse_perm l).nodup_iff
def PS.Di(P:PS):PS:= {P with ins:=fun x=>(P.ins x).reverse,outs:=fun x=>(P.outs x).reverse,Row:=fun k W D=>P.Row k W.reverse D}
theorem PS.Ok.Di{P:PS}(h:P.Ok):P.Di.Ok:=
 {bI:=fun x e=>by show e∈(P.outs x).reverse↔_;rw[aeY];exact h.bI x e
  cz:=fun x e=>by show e∈(P.ins x).reverse↔_;rw[aeY];exact h.cz x e
  wW:=fun x=>by show(P.outs x).reverse.Nodup;exact yh.2 (h.wW x)
  Jh:=fun x=>by show(P.ins x).reverse.Nodup;exact yh.2 (h.Jh x)
  EO:=h.EO
  SU:=by show P.Row _ (P.outs P.src).reverse.reverse _;rw[agl];exact h.SU
  qX:=fun {k W D} hr=>yh.1 (h.qX (show P.Row k W.reverse D from hr))
  eW:=fun {k W D} hr e=>by
   have:=h.eW (show P.Row k W.reverse D from hr) e
   rw[aeY]at this
   exact this
  qY:=fun {k W D} hr=>by
   obtain⟨x,A,C,h1,h2⟩:=h.qY (show P.Row (k+1) W.reverse D from hr)
   refine⟨x,C.reverse,A.reverse, ?_,fun h3=>h2 (agA.1 h3)⟩
   show W=C.reverse++(P.ins x).reverse++A.reverse
   rw[<- List.reverse_reverse W,h1]
   simp
  row_step:=fun {k W D x A C} hr h1 h2=>by
   have h1:W=A++(P.ins x).reverse++C:=h1
   obtain⟨k',h3,h4⟩:=h.row_step (x:=x) (A:=C.reverse) (C:=A.reverse) (show P.Row k W.reverse D from hr) (by rw[h1];simp) (fun h3=>h2 (agA.2 h3))
   refine⟨k',h3, ?_⟩
   show P.Row k' (A++(P.outs x).reverse++C).reverse (D++ [x])
   have e:(A++(P.outs x).reverse++C).reverse=C.reverse++P.outs x++A.reverse:=by simp
   rw[e];exact h4
  sV:=fun {W D} hr=>h.sV (show P.Row 0 W.reverse D from hr)
  wX:=fun {k W D} hr=>h.wX (show P.Row k W.reverse D from hr)
  zR:=fun {k W D} hr=>h.zR (show P.Row k W.reverse D from hr)
  BA:=by show(P.ins P.src).reverse= [];rw[h.BA];rfl
  wY:=fun x hx=>by
   have h2:P.ins x≠ []:=fun h3=>hx (by show(P.ins x).reverse= [];rw[h3];rfl)
   show(P.outs x).reverse= []↔_
   rw[agA];exact h.wY x h2}
structure MS where
 A:List Int
 B:List Int
 D:List Int
def PS.next(P:PS)(s:MS):MS:=
 match s.B with
 | []=>s
 |e::B=>if P.ins (P.hd e)<:+s.A++ [e] then⟨(s.A++ [e]).take (s.A.length+1 - (P.ins (P.hd e)).length),P.outs (P.hd e)++B,s.D++ [P.hd e]⟩ else⟨s.A++ [e],B,s.D⟩
def PS.st(P:PS):Nat->MS
 |0=>⟨[],P.outs P.src, [P.src]⟩
 |j+1=>P.next (P.st j)
def PS.sh(P:PS)(j:Nat):Int:=(P.st j).B.headD 0
def PS.xQ(P:PS)(j:Nat):List Int:=(List.range j).map P.sh
variable {P:PS}
theorem PS.BB{j:Nat} :P.xQ (j+1)=P.xQ j++ [P.sh j]:=by simp[PS.xQ,adW]
theorem PS.zS{j:Nat} :(P.xQ j).length=j:=by simp[PS.xQ]
theorem PS.wZ{j:Nat}{e:Int} :e∈P.xQ j↔∃i,i<j/\P.sh i=e:=by simp[PS.xQ]
structure PS.Inv (P:PS) (j:Nat) (s:MS):Prop where
 row:∃k,P.Row k (s.A++s.B) s.D
 no:∀h,P.ins h≠ []->¬P.ins h<:+:s.A
 nd:(P.xQ j).Nodup
 sh:∀e,e∈P.xQ j↔P.E e/\(e∈s.A\/P.hd e∈s.D)
 len:j<=P.m
theorem lB:∀ {l m:List Int},l.Nodup->(∀i∈l,i∈m)->l.length<=m.length
 | [],_,_,_=>afC _
 |a::l,m,hn,h=>by
  rw[ad6]at hn
  have ha:=h a (adI ..)
  have:=lB (m:=m.erase a) hn.2 fun i hi=>(afP (show i≠a from fun e=>hn.1 (by rw[<- e];exact hi))).2 (h i (adA _ hi))
  rw[afX ha]at this
  have:=afD ha
  rw[List.length_cons];omega
theorem Dj{l:List Int}{m:Nat}(hall:∀e:Int,0<=e->e<m->e∈l):m<=l.length:=by
 have:=lB (l:=(List.range m).map Int.ofNat) (m:=l) (aeJ.2 (List.nodup_range.imp fun hab e=>hab (afp e))) fun x hx=>by
  obtain⟨a,ha,rfl⟩:=adb.1 hx
  have:=adl.1 ha
  exact hall _ (by simp) (by simp;omega)
 simpa using this
theorem GQ{X Y:List Int}(h:X<:+Y):Y=Y.take (Y.length - X.length)++X:=by
 obtain⟨t,rfl⟩:=h
 simp
theorem PS.Inv.more(h:P.Ok){j:Nat}{s:MS}(hi:P.Inv j s)(hj:j<P.m):∃e B,s.B=e::B:=by
 cases hB:s.B with
 |cons e B=>exact⟨e,B,rfl⟩
 |nil=>
  exfalso
  obtain⟨k,hr⟩:=hi.row
  rw[hB,ad5]at hr
  cases k with
  |succ k=>
   obtain⟨x,A,C,h1,h2⟩:=h.qY hr
   exact hi.no x h2 ⟨A,C,h1.symm⟩
  |zero=>
   have hall:∀e,P.E e->e∈P.xQ j:=fun e he=>(hi.sh e).2 ⟨he, .inr (h.sV hr e he)⟩
   have:=Dj (fun e h1 h2=>hall e ⟨h1,h2⟩)
   rw[PS.zS]at this
   omega
theorem PS.M0{s:MS}{e:Int}{B:List Int}(hB:s.B=e::B):P.next s=if P.ins (P.hd e)<:+s.A++ [e] then⟨(s.A++ [e]).take (s.A.length+1 - (P.ins (P.hd e)).length),P.outs (P.hd e)++B,s.D++ [P.hd e]⟩ else⟨s.A++ [e],B,s.D⟩:=by
 unfold PS.next;rw[hB]
theorem PS.BC(h:P.Ok){s:MS}{k:Nat}{e:Int}{B:List Int}(hr:P.Row k (s.A++s.B) s.D)(hB:s.B=e::B):
 P.E e/\((∃A',s.A++ [e]=A'++P.ins (P.hd e)/\P.ins (P.hd e)≠ []/\P.next s=⟨A',P.outs (P.hd e)++B,s.D++ [P.hd e]⟩)\/(¬P.ins (P.hd e)<:+s.A++ [e]/\P.next s=⟨s.A++ [e],B,s.D⟩)):=by
 have he:P.E e:=((h.eW hr e).1 (by rw[hB];simp)).1
 refine⟨he, ?_⟩
 rw[PS.M0 hB]
 by_cases hs:P.ins (P.hd e)<:+s.A++ [e]
 ·rw[ada hs]
  refine .inl ⟨_, ?_,fun h0=> ?_,rfl⟩
  ·have:=GQ hs
   simpa using this
  ·have:=(h.cz (P.hd e) e).2 ⟨he,rfl⟩
   rw[h0]at this;cases this
 ·rw[ac8 hs];exact .inr ⟨hs,rfl⟩
theorem Ji{X A:List Int}{e:Int}(h:X<:+:A++ [e]):X<:+:A\/X<:+A++ [e]:=by
 obtain⟨s,t,ht⟩:=h
 rcases afu t with rfl|⟨t',a,rfl⟩
 ·rw[ad5]at ht;exact .inr ⟨s,ht⟩
 ·left
  refine⟨s,t', ?_⟩
  have:s++X++t'++ [a]=A++ [e]:=by rw[<- ht];simp
  exact(afY this rfl).1
theorem PS.inv(h:P.Ok):∀j,j<=P.m->P.Inv j (P.st j)
 |0,_=>⟨⟨_,h.SU⟩,fun x hx hs=>hx (by
    have:P.ins x<:+: []:=hs
    simpa using this),by simp[PS.xQ],fun e=>(by
     simp only[PS.xQ,List.range_zero,adP,aeo,false_iff]
     rintro⟨he,h1|h1⟩
     ·cases h1
     ·have h1:P.hd e∈ [P.src]:=h1
      have h2:P.hd e=P.src:=by simpa using h1
      have:=(h.cz P.src e).2 ⟨he,h2⟩
      rw[h.BA]at this;cases this),afC _⟩
 |j+1,hj=>by
  have hi:=PS.inv h j (by omega)
  obtain⟨e,B,hB⟩:=hi.more h (by omega)
  obtain⟨k,hr⟩:=hi.row
  have hsh:P.sh j=e:=by unfold PS.sh;rw[hB];rfl
  have heB:e∈(P.st j).A++(P.st j).B:=by rw[hB];simp
  have hm:=(h.eW hr e).1 heB
  have bR:=h.qX hr
  have hnA:e∉(P.st j).A:=fun hA=>by
   rw[adu]at bR
   exact bR.2.2 e hA e (by rw[hB];simp) rfl
  have hnew:e∉P.xQ j:=fun h1=>by
   rcases((hi.sh e).1 h1).2 with h2|h2
   ·exact hnA h2
   ·exact hm.2.2 h2
  have ji:(P.xQ (j+1)).Nodup:=by
   rw[PS.BB,hsh,adu]
   exact⟨hi.nd,by simp,fun a ha b hb=>by
    rw[adv]at hb
    subst hb
    intro e2;exact hnew (e2 ▸ ha)⟩
  obtain⟨he,hc⟩:=PS.BC h hr hB
  have hst:P.st (j+1)=P.next (P.st j):=rfl
  rw[hst]
  rcases hc with ⟨A',h1,h2,h3⟩|⟨h1,h3⟩
  ·rw[h3]
   have hrow:(P.st j).A++(P.st j).B=A'++P.ins (P.hd e)++B:=by rw[hB, <- h1];simp
   obtain⟨k',rfl,hr'⟩:=h.row_step hr hrow h2
   refine⟨⟨k',by simpa using hr'⟩,fun x hx hs=> ?_,ji,fun f=> ?_,hj⟩
   ·have hs:P.ins x<:+:A':=hs
    have hA:¬P.ins x<:+:(P.st j).A:=hi.no x hx
    obtain⟨u,v,huv⟩:=hs
    rcases afu (P.ins (P.hd e)) with h0|⟨I',a,h0⟩
    ·exact h2 h0
    ·rw[h0, <- List.concat_eq_append,agi]at h1
     have h4:(P.st j).A++ [e]=(A'++I')++ [a]:=by rw[h1];simp
     have h5:=(afY h4 rfl).1
     exact hA ⟨u,v++I',by rw[h5, <- huv];simp⟩
   ·rw[PS.BB,hsh,ac9,adv,hi.sh f]
    show _↔P.E f/\(f∈A'\/P.hd f∈(P.st j).D++ [P.hd e])
    constructor
    ·rintro(⟨h4,h5|h5⟩|rfl)
     ·have:f∈A'++P.ins (P.hd e):=by rw[<- h1];exact ac9.2 (.inl h5)
      rcases ac9.1 this with h6|h6
      ·exact⟨h4, .inl h6⟩
      ·exact⟨h4, .inr (by rw[((h.cz _ _).1 h6).2];simp)⟩
     ·exact⟨h4, .inr (ac9.2 (.inl h5))⟩
     ·exact⟨he, .inr (by simp)⟩
    ·rintro⟨h4,h5|h5⟩
     ·have:f∈(P.st j).A++ [e]:=by rw[h1];exact ac9.2 (.inl h5)
      rcases ac9.1 this with h6|h6
      ·exact .inl ⟨h4, .inl h6⟩
      ·exact .inr (by simpa using h6)
     ·rcases ac9.1 h5 with h6|h6
      ·exact .inl ⟨h4, .inr h6⟩
      ·have h6:P.hd f=P.hd e:=by simpa using h6
       have h7:f∈P.ins (P.hd e):=(h.cz _ _).2 ⟨h4,h6⟩
       have:f∈(P.st j).A++ [e]:=by rw[h1];exact ac9.2 (.inr h7)
       rcases ac9.1 this with h8|h8
       ·exact .inl ⟨h4, .inl h8⟩
       ·exact .inr (by simpa using h8)
  ·rw[h3]
   refine⟨⟨k,by simpa[hB]using hr⟩,fun x hx hs=> ?_,ji,fun f=> ?_,hj⟩
   ·rcases Ji hs with h4|h4
    ·exact hi.no x hx h4
    ·have hne:e∈P.ins x:=by
      obtain⟨t,ht⟩:=h4
      rcases afu (P.ins x) with h0|⟨I',a,h0⟩
      ·exact absurd h0 hx
      ·rw[h0]at ht
       have h5:(t++I')++ [a]=(P.st j).A++ [e]:=by rw[<- ht];simp
       have:=(afY h5 rfl).2
       rw[h0];simp at this ⊢;exact .inr this.symm
     rw[((h.cz _ _).1 hne).2]at h1
     exact h1 h4
   ·rw[PS.BB,hsh,ac9,adv,hi.sh f]
    show _↔P.E f/\(f∈(P.st j).A++ [e]\/P.hd f∈(P.st j).D)
    rw[ac9,adv]
    constructor
    ·rintro(⟨h4,h5|h5⟩|rfl)
     ·exact⟨h4, .inl (.inl h5)⟩
     ·exact⟨h4, .inr h5⟩
     ·exact⟨he, .inl (.inr rfl)⟩
    ·rintro⟨h4,(h5|h5)|h5⟩
     ·exact .inl ⟨h4, .inl h5⟩
     ·exact .inr h5
     ·exact .inl ⟨h4, .inr h5⟩
end Go.Ab
end
section
namespace Go.Ab
set_option maxRecDepth 10000
set_option linter.unusedSectionVars false
variable {P:PS}
structure PS.fM (P:PS) (L R:Int->Int) (f0 f1:Int) (low:Int->Int):Prop where
 ne:f0≠f1
 kQ:∀ {x u a b v},P.outs x=u++a::b::v->R a=L b
 uV:∀ {x u a b v},P.ins x=u++a::b::v->R a=L b
 fst:∀ {x a u b v},P.ins x=a::u->P.outs x=b::v->L a=L b
 GM:∀ {x a u b v},P.ins x=u++ [a]->P.outs x=v++ [b]->R a=R b
 s0:∀ {b v},P.outs P.src=b::v->L b=f0
 s1:∀ {b v},P.outs P.src=v++ [b]->R b=f1
 new:∀ {x u a b v},P.outs x=u++a::b::v->low (R a)=x/\R a≠f0/\R a≠f1
 new1:∀ {x u a b v u' a' b' v'},P.outs x=u++a::b::v->P.outs x=u'++a'::b'::v'->R a=R a'->a=a'
theorem Qh{l u v u' v':List Int}{a:Int}(hn:l.Nodup)(h1:l=u++a::v)(h2:l=u'++a::v'):u=u'/\v=v':=by
 induction u generalizing l u' with
 |nil=>
  cases u' with
  |nil=>rw[h1]at h2;simpa using h2
  |cons b u'=>
   rw[h1]at h2
   simp only[List.nil_append,List.cons_append,adB]at h2
   rw[h1,h2.2]at hn
   simp at hn
 |cons b u ih=>
  cases u' with
  |nil=>
   rw[h2]at h1
   simp only[List.nil_append,List.cons_append,adB]at h1
   rw[h2,h1.2]at hn
   simp at hn
  |cons b' u'=>
   have h3:=h1.symm.trans h2
   simp only[List.cons_append,adB]at h3
   rw[h1,List.cons_append,ad6]at hn
   obtain⟨h4,h5⟩:=ih hn.2 rfl h3.2
   exact⟨by rw[h3.1,h4],h5⟩
theorem lC{l u v:List Int}{a b:Int}(h:l.reverse=u++a::b::v):l=v.reverse++b::a::u.reverse:=by
 have:=congrArg List.reverse h
 simpa using this
theorem PS.fM.Di(h:P.Ok){L R:Int->Int}{f0 f1:Int}{low:Int->Int}(F:P.fM L R f0 f1 low):P.Di.fM R L f1 f0 low:=
 {ne:=F.ne.symm
  kQ:=fun {x u a b v} h=>(F.kQ (lC (show(P.outs x).reverse=_ from h))).symm
  uV:=fun {x u a b v} h=>(F.uV (lC (show(P.ins x).reverse=_ from h))).symm
  fst:=fun {x a u b v} h1 h2=>F.GM (x:=x) (u:=u.reverse) (v:=v.reverse) (by
     have:=congrArg List.reverse (show(P.ins x).reverse=_ from h1);simpa using this) (by
     have:=congrArg List.reverse (show(P.outs x).reverse=_ from h2);simpa using this)
  GM:=fun {x a u b v} h1 h2=>F.fst (x:=x) (u:=u.reverse) (v:=v.reverse) (by
    have:=congrArg List.reverse (show(P.ins x).reverse=_ from h1);simpa using this) (by
    have:=congrArg List.reverse (show(P.outs x).reverse=_ from h2);simpa using this)
  s0:=fun {b v} h1=>F.s1 (v:=v.reverse) (by
     have:=congrArg List.reverse (show(P.outs P.src).reverse=_ from h1);simpa using this)
  s1:=fun {b v} h1=>F.s0 (v:=v.reverse) (by
     have:=congrArg List.reverse (show(P.outs P.src).reverse=_ from h1);simpa using this)
  new:=fun {x u a b v} h1=>by
   have h2:=lC (show(P.outs x).reverse=_ from h1)
   obtain⟨h3,h4,h5⟩:=F.new h2
   have h6:=F.kQ h2
   rw[<- h6];exact⟨h3,h5,h4⟩
  new1:=fun {x u a b v u' a' b' v'} h1 h2 h3=>by
   have g1:=lC (show(P.outs x).reverse=_ from h1)
   have g2:=lC (show(P.outs x).reverse=_ from h2)
   rw[<- F.kQ g1, <- F.kQ g2]at h3
   have h4:=F.new1 g1 g2 h3
   subst h4
   have:=(Qh (h.wW x) g1 g2).2
   simp only[adB]at this
   exact this.1}
def ja(L R:Int->Int):Int->List Int->Prop
 |_, []=>True
 |f,a::W=>L a=f/\ja L R (R a) W
def ku(R:Int->Int):Int->List Int->Int
 |f, []=>f
 |_,a::W=>ku R (R a) W
theorem cw{L R:Int->Int} :∀ {A B:List Int} {f:Int},ja L R f (A++B)↔ja L R f A/\ja L R (ku R f A) B
 | [],B,f=>by simp[ja,ku]
 |a::A,B,f=>by simp[ja,ku,cw,and_assoc]
theorem dn{R:Int->Int} :∀ {A B:List Int} {f:Int},ku R f (A++B)=ku R (ku R f A) B
 | [],B,f=>rfl
 |a::A,B,f=>by simp[ku,dn]
theorem cW{R:Int->Int}{A:List Int}{a f:Int} :ku R f (A++ [a])=R a:=by rw[dn];rfl
theorem w5{L R:Int->Int} :∀ {X:List Int} {f:Int},(∀u a b v,X=u++a::b::v->R a=L b)->(∀a u,X=a::u->L a=f)->ja L R f X
 | [],f,_,_=>trivial
 |a::X,f,h,h1=>⟨h1 a X rfl,w5 (fun u b c v e=>h (a::u) b c v (by rw[e];rfl)) fun b v e=>(h [] a b v (by rw[e];rfl)).symm⟩
theorem Qi{L R:Int->Int}{f:Int}{u v:List Int}{a b:Int}(h:ja L R f (u++a::b::v)):R a=L b:=by
 have:=(cw.1 h).2
 exact this.2.1.symm
theorem iA{l:List Int}(h:l≠ []):∃u a,l=u++ [a]:=by
 rcases afu l with h1|⟨u,a,h1⟩
 ·exact absurd h1 h
 ·exact⟨u,a,by rw[h1,agi]⟩
theorem jZ{l:List Int}(h:l≠ []):∃a u,l=a::u:=by
 cases l with
 |nil=>exact absurd rfl h
 |cons a u=>exact⟨a,u,rfl⟩
structure GR (L R:Int->Int) (f0 f1:Int) (low:Int->Int) (W D:List Int):Prop where
 lk:ja L R f0 W
 en:ku R f0 W=f1
 nd:(W.map R).Nodup
 lo:∀a∈W,R a≠f0/\(R a=f1\/(R a≠f1/\low (R a)∈D))
theorem M1{X U V Y:List Int}{r:Int}(h:(X++(U++ [r])++Y).Nodup)(hV:V.Nodup)(hd:∀z∈V,z∉X/\z≠r/\z∉Y):(X++(V++ [r])++Y).Nodup:=by
 have h1:(X++ [r]++Y).Nodup:=by
  refine List.Nodup.sublist ?_ h
  refine agK (agK (agC _) ?_) (agC _)
  exact List.sublist_append_right ..
 have h2:(V++(X++ [r]++Y)).Nodup:=by
  rw[adu]
  refine⟨hV,h1,fun a ha b hb e=> ?_⟩
  subst e
  obtain⟨g1,g2,g3⟩:=hd a ha
  simp only[ac9,adv]at hb
  rcases hb with (hb|hb)|hb
  ·exact g1 hb
  ·exact g2 hb
  ·exact g3 hb
 refine(List.Perm.nodup_iff ?_).1 h2
 have:X++(V++ [r])++Y=(X++V)++([r]++Y):=by simp
 rw[this]
 have:V++(X++ [r]++Y)=(V++X)++([r]++Y):=by simp
 rw[this]
 exact List.Perm.append_right _ List.perm_append_comm
theorem tZ{R:Int->Int} :∀ {l:List Int},l.Nodup->(∀a∈l,∀b∈l,R a=R b->a=b)->(l.map R).Nodup
 | [],_,_=>by simp
 |a::l,hn,h=>by
  rw[ad6]at hn
  rw[adD,ad6]
  refine⟨fun hm=> ?_,tZ hn.2 fun x hx y hy=>h x (adA _ hx) y (adA _ hy)⟩
  obtain⟨b,hb,e⟩:=adb.1 hm
  have:=h b (adA _ hb) a (adI ..) e
  exact hn.1 (this ▸ hb)
section
variable (h:P.Ok) {L R:Int->Int} {f0 f1:Int} {low:Int->Int} (F:P.fM L R f0 f1 low)
include h F
theorem uW{v:List Int}{b:Int}{x:Int}(hv:P.outs x=v++ [b]){a:Int}(ha:a∈v):∃u c w,P.outs x=u++a::c::w:=by
 obtain⟨s,t,rfl⟩:=aeX ha
 cases t with
 |nil=>exact⟨s,b, [],by rw[hv];simp⟩
 |cons c t=>exact⟨s,c,t++ [b],by rw[hv];simp⟩
theorem sW{x f:Int}(hf:∀b v,P.outs x=b::v->L b=f):ja L R f (P.outs x):=w5 (fun u a b v e=>F.kQ e) fun a u e=>hf a u e
theorem GS{x f:Int}(hf:∀b v,P.ins x=b::v->L b=f):ja L R f (P.ins x):=w5 (fun u a b v e=>F.uV e) fun a u e=>hf a u e
theorem KS{x:Int}{v:List Int}{b:Int}(hv:P.outs x=v++ [b]):(v.map R).Nodup/\∀z∈v.map R,low z=x/\z≠f0/\z≠f1:=by
 have hn:=h.wW x
 rw[hv,adu]at hn
 refine⟨tZ hn.1 fun a ha a' T0 e=> ?_,fun z hz=> ?_⟩
 ·obtain⟨u,c,w,h1⟩:=uW h F hv ha
  obtain⟨u',c',w',h2⟩:=uW h F hv T0
  exact F.new1 h1 h2 e
 ·obtain⟨a,ha,rfl⟩:=adb.1 hz
  obtain⟨u,c,w,h1⟩:=uW h F hv ha
  exact F.new h1
theorem GR.start(hne:P.outs P.src≠ []):GR L R f0 f1 low (P.outs P.src) [P.src]:=by
 obtain⟨v,b,hv⟩:=iA hne
 obtain⟨n1,n2⟩:=KS h F hv
 have hb:=F.s1 hv
 refine⟨sW h F fun b v e=>F.s0 e,by rw[hv,cW,hb], ?_,fun a ha=> ?_⟩
 ·rw[hv,adt,adu]
  refine⟨n1,by simp,fun z hz y hy e=> ?_⟩
  simp only[adD,adP,adv]at hy
  exact(n2 z hz).2.2 (by rw[e,hy,hb])
 ·rw[hv,ac9,adv]at ha
  rcases ha with ha|rfl
  ·obtain⟨g1,g2,g3⟩:=n2 (R a) (aeP ha)
   exact⟨g2, .inr ⟨g3,by rw[g1];simp⟩⟩
  ·exact⟨by rw[hb];exact F.ne.symm, .inl hb⟩
theorem GR.step{A C D:List Int}{x:Int}(hi:GR L R f0 f1 low (A++P.ins x++C) D)(hI:P.ins x≠ [])(hO:P.outs x≠ [])(hx:x∉D):GR L R f0 f1 low (A++P.outs x++C) (D++ [x]):=by
 obtain⟨u,a,hu⟩:=iA hI
 obtain⟨v,b,hv⟩:=iA hO
 obtain⟨a0,u0,VG⟩:=jZ hI
 obtain⟨b0,v0,TW⟩:=jZ hO
 have hab:=F.GM hu hv
 have h0:=F.fst VG TW
 obtain⟨l1,l2⟩:=cw.1 hi.lk
 obtain⟨l3,l4⟩:=cw.1 l1
 have WM:∀f,ku R f (P.ins x)=R a:=fun f=>by rw[hu,cW]
 have heb:∀f,ku R f (P.outs x)=R b:=fun f=>by rw[hv,cW]
 have hL:L a0=ku R f0 A:=by rw[VG]at l4;exact l4.1
 obtain⟨n1,n2⟩:=KS h F hv
 have bR:=hi.nd
 have hlo:=hi.lo
 refine⟨?_, ?_, ?_,fun c hc=> ?_⟩
 ·rw[cw,cw]
  refine⟨⟨l3,sW h F fun b' v' e=> ?_⟩, ?_⟩
  ·rw[TW]at e
   simp only[adB]at e
   rw[<- e.1, <- h0,hL]
  ·rw[dn,heb]
   rw[dn,WM]at l2
   rw[<- hab];exact l2
 ·have:=hi.en
  rw[dn,dn,WM]at this
  rw[dn,dn,heb, <- hab];exact this
 ·rw[adt,adt,hv,adt]
  rw[adt,adt,hu,adt]at bR
  simp only[adD,adP]at bR ⊢
  rw[<- hab]
  have hold:∀c∈A++P.ins x++C,R c∉v.map R:=fun c hc hz=>by
   obtain⟨g1,g2,g3⟩:=n2 _ hz
   rcases(hlo c hc).2 with h1|⟨_,h1⟩
   ·exact g3 h1
   ·rw[g1]at h1;exact hx h1
  refine M1 bR n1 fun z hz=>⟨fun Me=> ?_,fun Me=> ?_,fun Me=> ?_⟩
  ·obtain⟨c,hc,rfl⟩:=adb.1 Me
   exact hold c (by simp[hc]) hz
  ·exact hold a (by rw[hu];simp) (Me ▸ hz)
  ·obtain⟨c,hc,rfl⟩:=adb.1 Me
   exact hold c (by simp[hc]) hz
 ·have hold:∀c∈A++P.ins x++C,R c≠f0/\(R c=f1\/(R c≠f1/\low (R c)∈D++ [x])):=fun c hc=>by
   obtain⟨g1,g2⟩:=hlo c hc
   exact⟨g1,g2.imp id fun ⟨g3,g4⟩=>⟨g3,ac9.2 (.inl g4)⟩⟩
  simp only[ac9]at hc
  rcases hc with (hc|hc)|hc
  ·exact hold c (by simp[hc])
  ·rw[hv,ac9,adv]at hc
   rcases hc with hc|rfl
   ·obtain⟨g1,g2,g3⟩:=n2 (R c) (aeP hc)
    exact⟨g2, .inr ⟨g3,by rw[g1];simp⟩⟩
   ·have:=hold a (by rw[hu];simp)
    rw[hab]at this;exact this
  ·exact hold c (by simp[hc])
end
end Go.Ab
end
section
namespace Go.Ab
set_option maxRecDepth 10000
set_option linter.unusedSectionVars false
variable {P:PS}
inductive PS.gD (P:PS) (x:Int):Int->Prop
 |refl:P.gD x x
 |step {e:Int} :P.gD x (P.tl e)->P.E e->P.gD x (P.hd e)
theorem PS.gD.trans{x y z:Int}(h1:P.gD x y)(h2:P.gD y z):P.gD x z:=by
 induction h2 with
 |refl=>exact h1
 |step _ he ih=>exact .step ih he
inductive PS.Lp (P:PS) (L R:Int->Int) (F:Int):Int->Prop
 |refl:P.Lp L R F F
 |step {e:Int} :P.Lp L R F (L e)->P.E e->P.Lp L R F (R e)
theorem PS.Lp.trans{L R:Int->Int}{x y z:Int}(h1:P.Lp L R x y)(h2:P.Lp L R y z):P.Lp L R x z:=by
 induction h2 with
 |refl=>exact h1
 |step _ he ih=>exact .step ih he
theorem PS.Lp.head{L R:Int->Int}{e z:Int}(he:P.E e)(h2:P.Lp L R (R e) z):P.Lp L R (L e) z:=(PS.Lp.step .refl he).trans h2
theorem PS.Lp.Di{L R:Int->Int}{x y:Int}(h1:P.Lp L R x y):P.Di.Lp R L y x:=by
 induction h1 with
 |refl=>exact .refl
 | @step e h1 he ih=>exact PS.Lp.head (P:=P.Di) (L:=R) (R:=L) (e:=e) he ih
theorem PS.gD.Di{x y:Int}(h1:P.gD x y):P.Di.gD x y:=by
 induction h1 with
 |refl=>exact .refl
 |step h1 he ih=>exact PS.gD.step (P:=P.Di) ih he
section
variable (h:P.Ok)
include h
theorem pV{j:Nat}(hj:j<=P.m):∃k,P.Row k ((P.st j).A++(P.st j).B) (P.st j).D:=(P.inv h j hj).row
theorem js{j:Nat}(hj:j<P.m):∃B,(P.st j).B=P.sh j::B:=by
 obtain⟨e,B,hB⟩:=(P.inv h j (by omega)).more h hj
 refine⟨B, ?_⟩
 have:P.sh j=e:=by unfold PS.sh;rw[hB];rfl
 rw[this,hB]
theorem EP{j:Nat}(hj:j<P.m):P.E (P.sh j):=by
 obtain⟨B,hB⟩:=js h hj
 obtain⟨k,hr⟩:=pV h (agb hj)
 exact((h.eW hr _).1 (by rw[hB];simp)).1
theorem yj{i j:Nat}(hi:i<P.m)(hj:j<P.m)(e:P.sh i=P.sh j):i=j:=by
 have hn:=(P.inv h P.m (adh _)).nd
 have hl:=PS.zS (P:=P) (j:=P.m)
 have gi:(P.xQ P.m)[i]'(by omega)=P.sh i:=by simp[PS.xQ]
 have gj:(P.xQ P.m)[j]'(by omega)=P.sh j:=by simp[PS.xQ]
 exact(agm hn).1 (by rw[gi,gj,e])
theorem j0{e:Int}(he:P.E e):∃j,j<P.m/\P.sh j=e:=by
 have hi:=P.inv h P.m (adh _)
 refine adm fun hne=> ?_
 have hne:e∉P.xQ P.m:=fun hm=>hne (PS.wZ.1 hm)
 have bR:(e::P.xQ P.m).Nodup:=ad6.2 ⟨hne,hi.nd⟩
 have:=lB (m:=(List.range P.m).map Int.ofNat) bR fun x hx=>by
  have hE:P.E x:=by
   rcases adw.1 hx with rfl|hx
   ·exact he
   ·exact((hi.sh x).1 hx).1
  have h1:=hE.1;have h2:=hE.2
  exact adb.2 ⟨x.toNat,adl.2 (by omega),by simp;omega⟩
 simp[PS.zS]at this
 omega
theorem w6{i j:Nat}(hi:i<P.m)(hj:j<=P.m):P.sh i∈P.xQ j↔i<j:=by
 rw[PS.wZ]
 constructor
 ·rintro⟨i',h1,h2⟩
  have:=yj h (by omega) hi h2
  omega
 ·exact fun h1=>⟨i,h1,rfl⟩
theorem Qj:(P.st P.m).A= []:=by
 have hi:=P.inv h P.m (adh _)
 obtain⟨k,hr⟩:=hi.row
 have hB:(P.st P.m).B= []:=by
  cases hB:(P.st P.m).B with
  |nil=>rfl
  |cons e B=>
   exfalso
   have hm:=(h.eW hr e).1 (by rw[hB];simp)
   obtain⟨j,hj,e2⟩:=j0 h hm.1
   have h1:e∈P.xQ P.m:=PS.wZ.2 ⟨j,hj,e2⟩
   have bR:=h.qX hr
   rw[adu]at bR
   rcases((hi.sh e).1 h1).2 with h2|h2
   ·exact bR.2.2 e h2 e (by rw[hB];simp) rfl
   ·exact hm.2.2 h2
 rw[hB,ad5]at hr
 cases k with
 |succ k=>
  obtain⟨x,A,C,h1,h2⟩:=h.qY hr
  exact absurd ⟨A,C,h1.symm⟩ (hi.no x h2)
 |zero=>
  cases hA:(P.st P.m).A with
  |nil=>rfl
  |cons e A=>
   have hm:=(h.eW hr e).1 (by rw[hA];simp)
   exact absurd (h.sV hr e hm.1) hm.2.2
theorem mX{j:Nat}(hj:j<P.m):∃B,(P.st j).B=P.sh j::B/\((∃A',(P.st j).A++ [P.sh j]=A'++P.ins (P.hd (P.sh j))/\P.ins (P.hd (P.sh j))≠ []/\P.st (j+1)=⟨A',P.outs (P.hd (P.sh j))++B,(P.st j).D++ [P.hd (P.sh j)]⟩)\/
 (¬P.ins (P.hd (P.sh j))<:+(P.st j).A++ [P.sh j]/\P.st (j+1)=⟨(P.st j).A++ [P.sh j],B,(P.st j).D⟩)):=by
 obtain⟨B,hB⟩:=js h hj
 obtain⟨k,hr⟩:=pV h (agb hj)
 exact⟨B,hB,(PS.BC h hr hB).2⟩
theorem aa3{j:Nat}(hj:j<P.m):P.sh j∉(P.st j).A:=by
 obtain⟨B,hB⟩:=js h hj
 obtain⟨k,hr⟩:=pV h (agb hj)
 have bR:=h.qX hr
 rw[adu]at bR
 exact fun hA=>bR.2.2 _ hA _ (by rw[hB];simp) rfl
theorem GU:∀ {d j:Nat},j+d=P.m->∀t∈(P.st j).A,∀u,P.ins (P.hd t)≠u++ [t]
 |0,j,hj,t,ht,u=>by
  obtain rfl:j=P.m:=by omega
  rw[Qj h]at ht;cases ht
 |d+1,j,hj,t,ht,u=>by
  have ih:=GU (d:=d) (j:=j+1) (by omega)
  have hjm:j<P.m:=by omega
  obtain⟨B,hB,hc⟩:=mX h hjm
  have hne:=aa3 h hjm
  rcases hc with ⟨A',h1,h2,h3⟩|⟨h1,h3⟩
  ·have Sy:t∈A'++P.ins (P.hd (P.sh j)):=by rw[<- h1];simp[ht]
   rcases ac9.1 Sy with h4|h4
   ·exact ih t (by rw[h3];exact h4) u
   ·intro hu
    rw[((h.cz _ _).1 h4).2]at hu
    rw[hu, <- List.append_assoc]at h1
    have:=(afY h1 rfl).2
    simp only[adB,afd]at this
    exact hne (this ▸ ht)
  ·exact ih t (by rw[h3];simp[ht]) u
theorem KT{j:Nat}(hj:j<P.m):P.VF∉(P.st j).D:=fun hs=>by
 have hi:=P.inv h j (by omega)
 obtain⟨k,hr⟩:=hi.row
 have:=h.zR hr hs
 subst this
 have:=Dj (l:=P.xQ j) (m:=P.m) fun e h1 h2=>(hi.sh e).2 ⟨⟨h1,h2⟩, .inr (h.sV hr e ⟨h1,h2⟩)⟩
 rw[PS.zS]at this
 omega
variable {L R:Int->Int} {f0 f1:Int} {low:Int->Int} (F:P.fM L R f0 f1 low)
include F
theorem qZ:∀ {j:Nat},j<P.m->GR L R f0 f1 low ((P.st j).A++(P.st j).B) (P.st j).D
 |0,hj=>by
  obtain⟨B,hB⟩:=js h hj
  have hB:P.outs P.src=P.sh 0::B:=hB
  exact GR.start h F (by rw[hB];simp)
 |j+1,hj=>by
  have ih:=qZ (j:=j) (by omega)
  obtain⟨B,hB,hc⟩:=mX h (show j<P.m by omega)
  obtain⟨k,hr⟩:=pV h (show j<=P.m by omega)
  rcases hc with ⟨A',h1,h2,h3⟩|⟨h1,h3⟩
  ·have hs:=KT h hj
   rw[h3]at hs ⊢
   have hx:P.hd (P.sh j)≠P.VF:=fun e=>hs (by simp[e])
   have hO:P.outs (P.hd (P.sh j))≠ []:=fun e=>hx ((h.wY _ h2).1 e)
   have hm:=(h.eW hr (P.sh j)).1 (by rw[hB];simp)
   have hW:(P.st j).A++(P.st j).B=A'++P.ins (P.hd (P.sh j))++B:=by rw[hB, <- h1];simp
   rw[hW]at ih
   have:=GR.step h F ih h2 hO hm.2.2
   simpa using this
  ·rw[h3]
   have hW:(P.st j).A++(P.st j).B=(P.st j).A++ [P.sh j]++B:=by rw[hB];simp
   rw[hW]at ih
   exact ih
theorem Qk{j:Nat}(hj:j<P.m){a b:Int}(ha:a∈(P.st j).A++(P.st j).B)(hb:b∈(P.st j).A++(P.st j).B)(e:R a=R b):a=b:=by
 have hn:=(qZ h F hj).nd
 obtain⟨i,hi,rfl⟩:=ads.1 ha
 obtain⟨k,hk,rfl⟩:=ads.1 hb
 have:=(agm (i:=i) (j:=k) (h₀:=by simpa using hi) (h₁:=by simpa using hk) hn).1 (by rw[afZ,afZ];exact e)
 subst this;rfl
theorem uX{j:Nat}(hj:j<P.m):∀ {d:Nat} {e:Int},P.WL (P.tl e)<d->P.E e->R e=L (P.sh j)->e∈P.xQ j
 |0,e,hd,_,_=>by omega
 |d+1,e,hd,he,hR=>by
  refine adm fun hne=> ?_
  have hi:=P.inv h j (by omega)
  have hF:=qZ h F hj
  obtain⟨B,hB⟩:=js h hj
  obtain⟨k,hr⟩:=hi.row
  have ER:¬(e∈(P.st j).A\/P.hd e∈(P.st j).D):=fun h1=>hne ((hi.sh e).2 ⟨he,h1⟩)
  have hlk:=hF.lk
  rw[cw,hB]at hlk
  have ES:L (P.sh j)=ku R f0 (P.st j).A:=hlk.2.1
  rcases afu (P.st j).A with hA|⟨A',t,hA⟩
  ·
   have ES:L (P.sh j)=f0:=by rw[ES,hA];rfl
   have hR0:R e≠f0:=by
    obtain⟨i,hi2,e2⟩:=j0 h he
    obtain⟨B2,CI⟩:=js h hi2
    have:=((qZ h F hi2).lo (P.sh i) (by rw[CI];simp)).1
    rw[e2]at this;exact this
   exact hR0 (hR.trans ES)
  ·rw[agi]at hA
   have ES:L (P.sh j)=R t:=by rw[ES,hA,cW]
   have WN:t∈(P.st j).A:=by rw[hA];simp
   have Zg:t∈(P.st j).A++(P.st j).B:=ac9.2 (.inl WN)
   have X7:R e=R t:=hR.trans ES
   by_cases hc:P.tl e∈(P.st j).D
   ·have heW:=(h.eW hr e).2 ⟨he,hc,fun h1=>ER (.inr h1)⟩
    have:=Qk h F hj heW Zg X7
    exact ER (.inl (this ▸ WN))
   ·have hem:e∈P.outs (P.tl e):=(h.bI _ _).2 ⟨he,rfl⟩
    obtain⟨s,w,hs⟩:=aeX hem
    have X8:R t≠f1:=fun h1=>by
     have h2:=hF.en
     rw[hB,dn]at h2
     obtain⟨V,b,hVb⟩:=iA (l:=P.sh j::B) (by simp)
     rw[hVb,cW]at h2
     have hbB:b∈(P.st j).B:=by rw[hB,hVb];simp
     have h3:=Qk h F hj Zg (ac9.2 (.inr hbB)) (h1.trans h2.symm)
     have bR:=h.qX hr
     rw[adu]at bR
     exact bR.2.2 t WN b hbB h3
    cases w with
    |cons b w=>
     obtain⟨g1,g2,g3⟩:=F.new hs
     have h4:=(hF.lo t Zg).2
     rw[<- X7]at h4 X8
     rcases h4 with h4|⟨_,h4⟩
     ·exact X8 h4
     ·rw[g1]at h4;exact hc h4
    |nil=>
     have hI:P.ins (P.tl e)≠ []:=fun h0=>by
      have h5:P.tl e≠P.src:=fun h6=>hc (h6 ▸ h.wX hr)
      obtain⟨i,hi2,e2⟩:=j0 h he
      obtain⟨k2,tQ⟩:=pV h (show i<=P.m by omega)
      obtain⟨B2,CI⟩:=js h hi2
      have hm2:=(h.eW tQ (P.sh i)).1 (by rw[CI];simp)
      have:∀i,i<=P.m->∀x∈(P.st i).D,x=P.src\/P.ins x≠ []:=by
       intro i
       induction i with
       |zero=>intro _ x hx;exact .inl (by simpa[PS.st]using hx)
       |succ i ih=>
        intro hi3 x hx
        obtain⟨B3,hB3,WE⟩:=mX h (show i<P.m by omega)
        rcases WE with ⟨A3,k1,k2,k3⟩|⟨k1,k3⟩
        ·rw[k3]at hx
         rcases ac9.1 hx with hx|hx
         ·exact ih (by omega) x hx
         ·rw[adv]at hx
          exact .inr (hx ▸ k2)
        ·rw[k3]at hx;exact ih (by omega) x hx
      rcases this i (by omega) _ hm2.2.1 with h6|h6
      ·rw[e2]at h6;exact h5 h6
      ·rw[e2]at h6;exact h6 h0
     obtain⟨u,a,hu⟩:=iA hI
     have X9:=(h.cz (P.tl e) a).1 (by rw[hu];simp)
     have Ya:R a=R e:=F.GM hu hs
     have hp:=h.EO a X9.1
     rw[X9.2]at hp
     have hin:=uX (d:=d) (e:=a) hj (by omega) X9.1 (Ya.trans hR)
     rcases((hi.sh a).1 hin).2 with h7|h7
     ·have h8:=Qk h F hj (ac9.2 (.inl h7)) Zg (Ya.trans X7)
      subst h8
      exact GU h (d:=P.m - j) (by omega) a WN u (by rw[X9.2];exact hu)
     ·rw[X9.2]at h7;exact hc h7
theorem M3{i j:Nat}(hi:i<P.m)(hj:j<P.m)(hR:P.Lp L R (R (P.sh i)) (L (P.sh j))):i<j:=by
 have key:∀y,P.Lp L R (R (P.sh i)) y->∀j,j<P.m->L (P.sh j)=y->i<j:=by
  intro y hy
  induction hy with
  |refl=>
   intro j hj e
   exact(w6 h hi (by omega)).1 (uX h F hj (d:=P.WL (P.tl (P.sh i))+1) (by omega) (EP h hi) e.symm)
  | @step f _ hf ih=>
    intro j hj e
    obtain⟨k,hk,rfl⟩:=j0 h hf
    have h1:=ih k hk rfl
    have h2:=(w6 h hk (by omega)).1 (uX h F hj (d:=P.WL (P.tl (P.sh k))+1) (by omega) hf e.symm)
    omega
 exact key _ hR j hj rfl
end
end Go.Ab
end
section
namespace Go.Ab
set_option maxRecDepth 10000
set_option linter.unusedSectionVars false
variable {P:PS}
theorem w8{L R:Int->Int} :∀ {A:List Int} {f:Int},(∀a∈A,P.E a)->ja L R f A->P.Lp L R f (ku R f A)
 | [],_,_,_=> .refl
 |a::A,f,hE,⟨h1,h2⟩=>by
  have:=w8 (A:=A) (f:=R a) (fun b hb=>hE b (adA _ hb)) h2
  rw[<- h1]
  exact PS.Lp.head (hE a (adI ..)) this
section
variable (h:P.Ok) {L R:Int->Int} {f0 f1:Int} {low:Int->Int} (F:P.fM L R f0 f1 low)
include h F
theorem Ql{x:Int}{u v v':List Int}{e a:Int}(hu:P.ins x=u++e::v)(ha:P.ins x=v'++ [a]):P.Lp L R (R e) (R a):=by
 have hl:ja L R (L ((P.ins x).headD 0)) (P.ins x):=by
  cases hI:P.ins x with
  |nil=>trivial
  |cons b w=>rw[<- hI];exact GS h F fun b' w' e'=>by rw[hI];rw[hI]at e';simp only[adB]at e';simp[e'.1]
 rw[hu,show u++e::v=(u++ [e])++v by simp,cw,cW]at hl
 have h2:=w8 (P:=P) (fun b hb=>((h.cz x b).1 (by rw[hu];simp[hb])).1) hl.2
 have h3:ku R (R e) v=R a:=by
  have e1:ku R 0 (P.ins x)=R a:=by rw[ha,cW]
  rw[hu,show u++e::v=(u++ [e])++v by simp,dn,cW]at e1
  exact e1
 rw[h3]at h2;exact h2
theorem Dk{x:Int}(hx:x≠P.src):∀ {j:Nat},j<=P.m->x∈(P.st j).D->∃i B,i<j/\x∉(P.st i).D/\P.hd (P.sh i)=x/\(∃u,P.ins x=u++ [P.sh i])/\(∀e∈P.ins x,e∈P.xQ (i+1))/\(P.st (i+1)).B=P.outs x++B/\(P.st i).B=P.sh i::B
 |0,_,hm=>by
  have:x∈ [P.src]:=hm
  simp at this;exact absurd this hx
 |j+1,hj,hm=>by
  by_cases hp:x∈(P.st j).D
  ·obtain⟨i,B,h1,h2⟩:=Dk hx (by omega) hp
   exact⟨i,B,by omega,h2⟩
  ·obtain⟨B,hB,hc⟩:=mX h (show j<P.m by omega)
   rcases hc with ⟨A',h1,h2,h3⟩|⟨h1,h3⟩
   ·rw[h3]at hm
    rcases ac9.1 hm with hm|hm
    ·exact absurd hm hp
    ·rw[adv]at hm
     subst hm
     refine⟨j,B,by omega,hp,rfl, ?_,fun e he=> ?_,by rw[h3],hB⟩
     ·obtain⟨u,a,hu⟩:=iA h2
      rw[hu, <- List.append_assoc]at h1
      have:=(afY h1 rfl).2
      simp only[adB,afd]at this
      exact⟨u,by rw[hu,this]⟩
     ·refine((P.inv h (j+1) hj).sh e).2 ⟨((h.cz _ _).1 he).1, .inr ?_⟩
      rw[h3,((h.cz _ _).1 he).2];simp
   ·rw[h3]at hm;exact absurd hm hp
theorem BD{x a:Int}{i k:Nat}(hk:k<P.m)(hik:i<k){v B:List Int}(hB:(P.st (i+1)).B=v++a::B)(hv:∀e∈v,P.tl e=x)(ha:P.tl a=x)(hka:P.sh k=a):
 ∀ {t:Nat},i+1<=t->t<=k->∃Z,(P.st t).B=Z++a::B/\∀z∈Z,P.gD x (P.tl z)
 |0,h1,_=>by omega
 |t+1,h1,h2=>by
  by_cases r8:t=i
  ·subst r8
   exact⟨v,hB,fun z hz=>by rw[hv z hz];exact .refl⟩
  ·obtain⟨Z,hZ,hr⟩:=BD hk hik hB hv ha hka (t:=t) (by omega) (by omega)
   obtain⟨B2,CI,hc⟩:=mX h (show t<P.m by omega)
   cases Z with
   |nil=>
    rw[hZ]at CI
    simp only[List.nil_append,adB]at CI
    have:=yj h hk (show t<P.m by omega) (hka.trans CI.1)
    omega
   |cons z Z=>
    rw[hZ]at CI
    simp only[List.cons_append,adB]at CI
    rcases hc with ⟨A',g1,g2,g3⟩|⟨g1,g3⟩
    ·refine⟨P.outs (P.hd (P.sh t))++Z,by rw[g3, <- CI.2];simp,fun y hy=> ?_⟩
     rcases ac9.1 hy with hy|hy
     ·rw[((h.bI _ _).1 hy).2]
      have:=hr z (adI ..)
      rw[CI.1]at this
      exact .step this (EP h (by omega))
     ·exact hr y (adA _ hy)
    ·exact⟨Z,by rw[g3, <- CI.2],fun y hy=>hr y (adA _ hy)⟩
theorem uY:∀ {d i j:Nat},j - i<=d->i<j->j<P.m->P.gD (P.hd (P.sh i)) (P.tl (P.sh j))\/P.Lp L R (R (P.sh i)) (L (P.sh j))
 |0,i,j,hd,hij,_=>by omega
 |d+1,i,j,hd,hij,hj=>by
  have hi:=P.inv h j (by omega)
  have SV:=EP h (show i<P.m by omega)
  obtain⟨B,hB⟩:=js h hj
  obtain⟨k,hr⟩:=hi.row
  have hin:=(w6 h (show i<P.m by omega) (show j<=P.m by omega)).2 hij
  rcases((hi.sh _).1 hin).2 with hA|hD
  ·right
   obtain⟨u,w,hA⟩:=aeX hA
   have hlk:=(qZ h F hj).lk
   rw[hB,hA,show u++P.sh i::w++P.sh j::B=(u++ [P.sh i])++(w++P.sh j::B) by simp,cw,cW]at hlk
   have IA:=cw.1 hlk.2
   have h1:=w8 (P:=P) (A:=w) (fun b hb=>((h.eW hr b).1 (by rw[hA];simp[hb])).1) IA.1
   rw[<- IA.2.1]at h1
   exact h1
  ·generalize hx:P.hd (P.sh i)=x at hD
   have hxs:x≠P.src:=fun e=>by
    have:=(h.cz x (P.sh i)).2 ⟨SV,hx⟩
    rw[e,h.BA]at this;cases this
   obtain⟨i',B',q1,q2,q3,⟨u,q4⟩,q5,q6,q7⟩:=Dk h F hxs (by omega) hD
   have Sh:=(h.cz x (P.sh i)).2 ⟨SV,hx⟩
   have hii:i<i'+1:=(w6 h (show i<P.m by omega) (by omega)).1 (q5 _ Sh)
   have hI:P.ins x≠ []:=fun h0=>by rw[h0]at Sh;cases Sh
   have hO:P.outs x≠ []:=fun h0=>by
    have:=(h.wY x hI).1 h0
    exact KT h hj (this ▸ hD)
   obtain⟨v,a,hv⟩:=iA hO
   have ha:=(h.bI x a).1 (by rw[hv];simp)
   obtain⟨k2,hk2,hka⟩:=j0 h ha.1
   have hik:i'<k2:=by
    refine adm fun hlt=> ?_
    have h1:a∈P.xQ (i'+1):=hka ▸ (w6 h hk2 (by omega)).2 (by omega)
    have hi':=P.inv h (i'+1) (by omega)
    obtain⟨k3,hr3⟩:=hi'.row
    have haB:a∈(P.st (i'+1)).B:=by rw[q6,hv];simp
    have WH:=(h.eW hr3 a).1 (ac9.2 (.inr haB))
    have bR:=h.qX hr3
    rw[adu]at bR
    rcases((hi'.sh a).1 h1).2 with h2|h2
    ·exact bR.2.2 a h2 a haB rfl
    ·exact WH.2.2 h2
   have hlp:P.Lp L R (R (P.sh i)) (R a):=by
    obtain⟨s,w,hs⟩:=aeX Sh
    have h1:=Ql h F hs q4
    rw[F.GM q4 hv]at h1
    exact h1
   by_cases hjk:j<=k2
   ·left
    obtain⟨Z,hZ,hZr⟩:=BD h F hk2 hik (x:=x) (a:=a) (v:=v) (B:=B') (by rw[q6,hv];simp) (fun e he=>((h.bI x e).1 (by rw[hv];simp[he])).2) ha.2 hka (t:=j) (by omega) hjk
    rw[hB]at hZ
    cases Z with
    |nil=>
     simp only[List.nil_append,adB]at hZ
     rw[hZ.1,ha.2];exact .refl
    |cons z Z=>
     simp only[List.cons_append,adB]at hZ
     rw[hZ.1];exact hZr z (adI ..)
   ·rcases uY (d:=d) (i:=k2) (j:=j) (by omega) (by omega) hj with h1|h1
    ·left
     rw[hka]at h1
     have:P.gD x (P.hd a):= .step (ha.2 ▸ .refl) ha.1
     exact this.trans h1
    ·right
     rw[hka]at h1
     exact hlp.trans h1
end
section
variable (h:P.Ok) {L R:Int->Int} {f0 f1:Int} {low:Int->Int} (F:P.fM L R f0 f1 low) {e f:Int} (he:P.E e) (hf:P.E f)
include h F he hf
theorem oy(hu:P.Lp L R (R e) (L f)):∃i j,i<j/\j<P.m/\P.sh i=e/\P.sh j=f:=by
 obtain⟨i,hi,rfl⟩:=j0 h he
 obtain⟨j,hj,rfl⟩:=j0 h hf
 exact⟨i,j,M3 h F hi hj hu,hj,rfl,rfl⟩
theorem M4{i j i' j':Nat}(h1:i<j/\j<P.m/\P.sh i=e/\P.sh j=f)(h2:i'<j'/\j'<P.m/\P.sh i'=f/\P.sh j'=e):False:=by
 have:=yj h (show i<P.m by omega) (show j'<P.m by omega) (h1.2.2.1.trans h2.2.2.2.symm)
 have:=yj h (show j<P.m by omega) (show i'<P.m by omega) (h1.2.2.2.trans h2.2.2.1.symm)
 omega
end
theorem Dl(h:P.Ok){L R:Int->Int}{f0 f1:Int}{low:Int->Int}(F:P.fM L R f0 f1 low){e f:Int}(he:P.E e)(hf:P.E f)(hne:e≠f):
 P.gD (P.hd e) (P.tl f)\/P.gD (P.hd f) (P.tl e)\/P.Lp L R (R e) (L f)\/P.Lp L R (R f) (L e):=by
 obtain⟨i,hi,rfl⟩:=j0 h he
 obtain⟨j,hj,rfl⟩:=j0 h hf
 rcases aex i j with h1|h1|h1
 ·rcases uY h F (d:=j - i) (adh _) h1 hj with h2|h2
  ·exact .inl h2
  ·exact .inr (.inr (.inl h2))
 ·exact absurd (by rw[h1]) hne
 ·rcases uY h F (d:=i - j) (adh _) h1 hi with h2|h2
  ·exact .inr (.inl h2)
  ·exact .inr (.inr (.inr h2))
section
variable (h:P.Ok) {L R:Int->Int} {f0 f1:Int} {low:Int->Int} (F:P.fM L R f0 f1 low) {e f:Int} (he:P.E e) (hf:P.E f)
include h F he hf
theorem mz(h1:P.Lp L R (R e) (L f))(h2:P.Lp L R (R f) (L e)):False:=by
 obtain⟨i,j,a⟩:=oy h F he hf h1
 obtain⟨i',j',b⟩:=oy h F hf he h2
 exact M4 h F he hf a b
end
end Go.Ab
end
