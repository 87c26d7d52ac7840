/- A part of the proof. -/
import Derived.RangeFuncBox
import Derived.RangeFuncLeaves
import Derived.Shelf.Abstract
import Derived.WalkKit
import Derived.OwnWalkIn
import Derived.TacticsInMore
import Derived.LoopNIn
import Derived.LoopIn
import Derived.Maps.AppendAt
import Derived.Sort.OwnSortedInts
import Derived.Test.YtameldglfobjkaaGreatL6P20
set_option linter.unusedSimpArgs false
set_option linter.unusedVariables false
section
namespace Go.Ab
open Go.Proofs Go.RowKit Go.Shelf Go.Sort
attribute [local go_sem] Oper.semAt_some
def upto{α:Type}(f:Nat->α)(k:Nat):List α:=(List.range k).map f
theorem Da{α:Type}(f:Nat->α)(k:Nat):upto f (k+1)=upto f k++ [f k]:=by simp[upto,adV]
theorem GG{α:Type}(f:Nat->α)(k:Nat):(upto f k).length=k:=by simp[upto]
theorem PZ(zs:List Int):upto (fun j=>zs[j]?.getD 0) zs.length=zs:=by
 apply agm
 ·simp[upto]
 ·intro i h1 h2
  simp[upto,h2]
theorem ML(zs:List Int){k:Nat}(hk:k<=zs.length):upto (fun j=>zs[j]?.getD 0) k=zs.take k:=by
 apply agm
 ·simp[upto,hk]
 ·intro i h1 h2
  have:i<zs.length:=by simp[upto]at h1;omega
  simp[upto,this]
set_option maxRecDepth 100000 in
set_option maxHeartbeats 2000000 in
theorem I3{ob:Nat}(F:Fence)(n:Nat)(h7:F.fn 189)(hro:F.round=none)(hn:1<=n)(l Bs n₀ b off len cap:Nat)(zs:List Int)(nI:len*8<=140737488351232)(hb:b<n₀)(J Jx:List Int->World->Prop)
 (hY:∀pre x W,J pre W->pre.length<len->YieldAt F (n - 1) Tryz.prog l #[.int .i64 x] W fun e W'=>
   (e= .returned (.bool true)/\J (pre++ [x]) W'/\Below n₀ W W')\/(e= .returned (.bool false)/\Jx (pre++ [x]) W'))
 (W:World) (P3:W.cell? ⟨Bs,ob,none⟩=some (.slice (some ⟨b,off,none⟩) len cap)) (hc:∀j,j<len->W.cell? ⟨b,off+j,none⟩=some (.int .i64 (zs[j]?.getD 0))) (h0:J [] W):
 CallsIn F n Tryz.prog 189 #[.func (.yield l) #[] #[], .pointer (some ⟨Bs,ob,none⟩)] W fun e W'=>(∃v,e= .returned v)/\
  ((∃ys,ys=upto (fun j=>zs[j]?.getD 0) len/\J ys W')\/(∃pre,(∃k,k<=len/\pre=upto (fun j=>zs[j]?.getD 0) k)/\Jx pre W')):=by
 refine callsIn_of_wp Tryz.func189 rfl h7 ?_ hro
 simp only[Tryz.ntmps189,aed,List.length_cons,List.length_nil,Nat.reduceAdd,Nat.reduceSub,afx,Array.replicate_zero,afK,afA,List.nil_append,List.cons_append]
 gi_wp2
 gi_loopw [7] (fun i wr=>∃k:Nat,k<=len/\i= .int .i64 k/\J (upto (fun j=>zs[j]?.getD 0) k) wr/\Below n₀ W wr)
  (fun i _=>len - (Go.Proofs.intOf i).toNat)
 case atStart=>exact⟨0,afB _,rfl,h0,Below.refl _ _⟩
 case round=>
  obtain⟨k,hk,rfl,Zd,dw⟩:=hrel
  have hcx:k<len->wr.cell? ⟨b,off+k,none⟩=some (.int .i64 (zs[k]?.getD 0)):=fun h=>(dw.cell (p:=⟨b,off+k,none⟩) hb).trans (hc k h)
  by_cases hlt:k<len
  ·obtain⟨fn,tmps,assign,body,hy,hR⟩:=hY _ (zs[k]?.getD 0) wr Zd (by rw[GG];exact hlt)
   have acE:=hcx hlt
   gi_wp2
   refine hR.mono ?_
   rintro e W3 (⟨rfl,hJ3,WH⟩|⟨rfl,aaU⟩)
   ·gi_wp2
    go_roundw
    case rel=>exact⟨k+1,by omega,by simp,by rw[Da];exact hJ3,dw.trans WH⟩
    case measure=>simp[Go.Proofs.intOf];omega
   ·gi_wp2
    refine bodyPost_ret (results_none rfl _ _ _) rfl ?_
    exact⟨⟨_,rfl⟩, .inr ⟨_,⟨k+1,by omega,(Da _ _).symm⟩,aaU⟩⟩
  ·obtain rfl:k=len:=by omega
   gi_wp2
   go_end0
   exact⟨⟨_,rfl⟩, .inl ⟨_,rfl,Zd⟩⟩
def Ints(n₀:Nat)(W:World)(sv:Value)(zs:List Int):Prop:=
 (∃p c,sv= .slice p 0 c/\zs= [])\/∃b off cap,sv= .slice (some ⟨b,off,none⟩) zs.length cap/\b<n₀/\∀j,j<zs.length->W.cell? ⟨b,off+j,none⟩=some (.int .i64 (zs[j]?.getD 0))
theorem Ints.below{n₀:Nat}{A B:World}(h:Below n₀ A B){sv:Value}{zs:List Int} :Ints n₀ A sv zs->Ints n₀ B sv zs
 | .inl e=> .inl e
 | .inr ⟨b,off,cap,e,hb,hc⟩=> .inr ⟨b,off,cap,e,hb,fun j hj=>(h.cell (p:=⟨b,off+j,none⟩) hb).trans (hc j hj)⟩
set_option maxRecDepth 100000 in
set_option maxHeartbeats 1000000 in
theorem Bn{ob:Nat}(F:Fence)(n:Nat)(h7:F.fn 189)(hro:F.round=none)(l Bs:Nat)(p:Option Addr)(c:Nat)(J:List Int->World->Prop)(W:World)(P3:W.cell? ⟨Bs,ob,none⟩=some (.slice p 0 c))(h0:J [] W):
 CallsIn F n Tryz.prog 189 #[.func (.yield l) #[] #[], .pointer (some ⟨Bs,ob,none⟩)] W fun e W'=>(∃v,e= .returned v)/\J [] W':=by
 refine callsIn_of_wp Tryz.func189 rfl h7 ?_ hro
 simp only[Tryz.ntmps189,aed,List.length_cons,List.length_nil,Nat.reduceAdd,Nat.reduceSub,afx,Array.replicate_zero,afK,afA,List.nil_append,List.cons_append]
 gi_wp2
 gi_loopw [7] (fun i wr=>i= .int .i64 0/\J [] wr) (fun _ _=>0)
 case atStart=>exact⟨rfl,h0⟩
 case round=>
  obtain⟨rfl,Zd⟩:=hrel
  gi_wp2
  go_end0
  exact⟨⟨_,rfl⟩,Zd⟩
theorem ED{ob:Nat}(F:Fence)(n:Nat)(h7:F.fn 189)(hro:F.round=none)(hn:1<=n)(Bs n₀:Nat)(sv:Value)(zs:List Int)(nI:zs.length*8<=140737488351232)(w:World)(P3:Bs<w.heap.size)(hn₀:n₀<=w.heap.size)
 (hc:w.cell? ⟨Bs,ob,none⟩=some sv) (hI:Ints n₀ w sv zs):
 SeqStopsK F n Tryz.prog 189 #[.pointer (some ⟨Bs,ob,none⟩)] (fun x:Int=> #[Value.int .i64 x]) (Below n₀) (fun ys=>ys=zs) (fun pre=>pre<+:zs) zs.length w:=fun l J Jx W hW _ _ hY h0=>by
 have zq:=(hW.cell (p:=⟨Bs,ob,none⟩) P3).trans hc
 rcases hI.below (hW.mono hn₀) with ⟨p,c,rfl,rfl⟩|⟨b,off,cap,rfl,hb,hcs⟩
 ·exact(Bn F n h7 hro l Bs p c J W zq h0).mono fun e W' ⟨he,hj⟩=>⟨he, .inl ⟨_,rfl,hj⟩⟩
 ·refine(I3 F n h7 hro hn l Bs n₀ b off zs.length cap zs nI hb J Jx hY W zq hcs h0).mono ?_
  rintro e W' ⟨he,⟨ys,rfl,hj⟩|⟨pre,⟨k,hk,rfl⟩,hj⟩⟩
  ·exact⟨he, .inl ⟨_,PZ zs,hj⟩⟩
  ·exact⟨he, .inr ⟨_,by rw[ML zs hk];exact List.take_prefix _ _,hj⟩⟩
theorem SK:(Tryz.prog.info? 3).map (fun i=>(i.zero,i.size,i.bytes))=some (some (.int .i64 0),1,8):=by kernel_rfl
set_option maxRecDepth 100000 in
set_option maxHeartbeats 2000000 in
theorem EE{ob:Nat}(F:Fence)(n:Nat)(h3:F.fn 203)(h5:F.fn 189)(hro:F.round=none)(hn:3<=n)(Bs:Nat)(sv:Value)(zs:List Int)(nI:zs.length*8<=140737488351232)(w:World)(P3:Bs<w.heap.size)
 (hcs:w.cell? ⟨Bs,ob,none⟩=some sv) (hI:Ints w.heap.size w sv zs):
 CallsIn F n Tryz.prog 203 #[.slice none 0 0, .func (.func 189) #[] #[.pointer (some ⟨Bs,ob,none⟩)]] w fun e W'=>∃v,e= .returned v/\W'.ownsRow w.heap.size 3 1 v zs.length (zs.map (Value.int .i64))/\(v= .slice none 0 0↔zs= [])/\Below w.heap.size w W':=by
 have h1:1<=n:=by omega
 obtain⟨i0,hi,Se,hz1,Md⟩:=info_parts SK
 refine callsIn_of_wp_marks Tryz.func203 rfl h3 ?_ hro
 simp only[Tryz.ntmps203,aed,List.length_cons,List.length_nil,Nat.reduceAdd,Nat.reduceSub,afx,Array.replicate_zero,afK,afA,List.nil_append,List.cons_append]
 gi_wp2
 have bO:=Boxed.new w 25 (.slice none 0 0)
 have XY:Below w.heap.size w (w.alloc (.cells #[.slice none 0 0] 25)):=(Below.refl _ w).alloc (adg _) _
 refine wpIn_rangeFunc_ownG hro h1 (gf:=189) (lb:= #[.pointer (some ⟨Bs,ob,none⟩)]) rfl h5 (enters_of Tryz.func189 (by kernel_rfl) rfl)
  (ED F (n - 1) h5 hro (by omega) Bs w.heap.size sv zs nI _ (by simp;omega) (by simp) ((XY.cell (p:=⟨Bs,ob,none⟩) P3).trans hcs) (hI.below XY)) belowK_t (belowK_b (by simp)) (Below.refl _ _) (fun _=>rfl)
  (fun pre W=>(∃v,Boxed W w.heap.size 25 v/\W.ownsRow w.heap.size 3 1 v pre.length (pre.map (Value.int .i64))/\(v= .slice none 0 0↔pre= []))/\Below w.heap.size w W)
  (fun _ _ _=>False)
  (OwnFrom.and (Own.from (holdsRow_own w.heap.size w.heap.size 25 3 1 (fun pre=>pre.length) (fun pre=>pre.map (Value.int .i64)) (fun pre v=>v= .slice none 0 0↔pre= [])) _) (ownFrom_below (adg _) (by simp)))
  (fun _ _ _ _ _ hs _ _=>hs)
  ⟨⟨_,bO,World.ownsRow_nil _ _ _ _,by simp⟩,XY⟩
  (fun x=> {tmps:= #[.slice none 0 0, .func (.func 189) #[] #[.pointer (some ⟨Bs,ob,none⟩)], .pointer (some ⟨w.heap.size,0,none⟩),undef, .slice none 0 0, .int .i64 x, .func (.func 189) #[] #[.pointer (some ⟨Bs,ob,none⟩)], .int .i64 x,undef,undef,undef,undef,undef],defers:= []}) ?assign ?body ?done ?stop
 case assign=>
  intro l x W K hK
  gi_wp2
  exact hK
 case body=>
  rintro l pre x W ⟨⟨v,hv,hrow,hnil⟩,hB⟩ hlt
  have hc:=hv.cell
  have hml:maxLen=9223372036854775807:=rfl
  gi_wp2_with (gi_at_builtin;refine wpListIn_append_own _ rfl _ _ 25 rfl w.heap.size 3 i0 (.int .i64 0) 1 8 Tryz.underlying25 hi Se hz1 Md rfl (by decide) _ _ _ rfl (hrow.alloc _) ⟨W.heap.size,0,none⟩ 1 1 [.int .i64 x] rfl rfl (cell_one_new _ _ _) (by simp[Value.oneCell']) (by omega) (by omega) (by have:=hB.size;simp;omega) ?_;intro v' w1 hown' hgrow _;obtain⟨g',cap',rfl⟩:=ownsRow_succ hown';obtain⟨Ky,O0,tQ,hk2,hb2⟩:=hv.appended (by decide) hrow hB.size (adg _) hown' hgrow;have hc1:=Ky.cell;have Za:=Ky.frozen)
  exact⟨hk2.from _,hb2,⟨_,O0,by simpa using tQ,by simp⟩,hB.trans hb2⟩
 case done=>
  rintro D ys W hD rfl ⟨⟨v,hv,hrow,hnil⟩,hB⟩ hK
  have hc:=hv.cell
  gi_wp2
  refine⟨by simp, .inl ⟨_,_,rfl,run_takeDeferred hK, ?_⟩⟩
  exact⟨_,results_tmp rfl _ _ _,v,rfl,ownsRow_putObj hrow _ hK rfl,hnil,hB.trans (belowK_b (w:=w) (adg _) W D _ _ (by simp at hD;omega) hK rfl rfl)⟩
 case stop=>
  rintro D c pre W _ _ h _
  exact h.elim
set_option maxRecDepth 100000 in
set_option maxHeartbeats 2000000 in
theorem I4{ob:Nat}(F:Fence)(n:Nat)(h2:F.fn 187)(h3:F.fn 203)(h5:F.fn 189)(hro:F.round=none)(hn:4<=n)(Bs:Nat)(sv:Value)(zs:List Int)(nI:zs.length*8<=140737488351232)(w:World)(P3:Bs<w.heap.size)
 (hcs:w.cell? ⟨Bs,ob,none⟩=some sv) (hI:Ints w.heap.size w sv zs):
 CallsIn F n Tryz.prog 187 #[.func (.func 189) #[] #[.pointer (some ⟨Bs,ob,none⟩)]] w fun e W'=>∃v,e= .returned v/\W'.ownsRow w.heap.size 3 1 v zs.length (zs.map (Value.int .i64))/\(v= .slice none 0 0↔zs= [])/\Below w.heap.size w W':=by
 have h1:1<=n:=by omega
 refine callsIn_of_wp Tryz.func187 rfl h2 ?_ hro
 simp only[Tryz.ntmps187,aed,List.length_cons,List.length_nil,Nat.reduceAdd,Nat.reduceSub,afx,Array.replicate_zero,afK,afA,List.nil_append,List.cons_append]
 gi_wp2_with (gi_at_call 203;refine(EE F (n - 1) h3 h5 hro (by omega) Bs sv zs nI _ P3 hcs hI).mono ?_;rintro e W ⟨v,rfl,hrow,hnil,hb⟩)
 go_ret
 exact⟨v,rfl,hrow,hnil,hb⟩
def lu(l:List Int):List Int:=l.mergeSort fun x y=>decide (x<=y)
set_option maxRecDepth 100000 in
set_option maxHeartbeats 2000000 in
theorem MM{ob:Nat}(F:Fence)(n:Nat)(CO:F.fn 136)(h2:F.fn 187)(h3:F.fn 203)(h5:F.fn 189)(h9:F.fn 188)(hro:F.round=none)(hn:5<=n)
 (hsort:∀(blk off cap:Nat) (ss:List Int) (W:World),Holds (Value.int .i64) W blk off ss.toArray->blk<W.heap.size->ss.length<4611686018427387904->
   CallsIn F (n - 1) Tryz.prog 188 #[.slice (some ⟨blk,off,none⟩) ss.length cap] W fun e w'=>e= .returned (.tuple #[])/\∃k os,w'=grow (putRow (Value.int .i64) (Sort.ahead W k) blk off (ss.mergeSort fun x y=>decide (x<=y)).toArray) os)
 (hnone:∀(p:Option Addr) (cap:Nat) (W:World),CallsIn F (n - 1) Tryz.prog 188 #[.slice p 0 cap] W fun e w'=>e= .returned (.tuple #[])/\w'=W) (Bs:Nat) (sv:Value) (zs:List Int) (nI:zs.length*8<=140737488351232) (w:World) (P3:Bs<w.heap.size)
 (hcs:w.cell? ⟨Bs,ob,none⟩=some sv) (hI:Ints w.heap.size w sv zs):
 CallsIn F n Tryz.prog 136 #[.func (.func 189) #[] #[.pointer (some ⟨Bs,ob,none⟩)]] w fun e W'=>∃v,e= .returned v/\W'.ownsRow w.heap.size 3 1 v zs.length ((lu zs).map (Value.int .i64))/\Below w.heap.size w W':=by
 have h1:1<=n:=by omega
 refine callsIn_of_wp Tryz.func136 rfl CO ?_ hro
 simp only[Tryz.ntmps136,aed,List.length_cons,List.length_nil,Nat.reduceAdd,Nat.reduceSub,afx,Array.replicate_zero,afK,afA,List.nil_append,List.cons_append]
 gi_wp2_with (gi_at_call 187;refine(I4 F (n - 1) h2 h3 h5 hro (by omega) Bs sv zs nI _ P3 hcs hI).mono ?_;rintro e W ⟨v,rfl,hrow,hnil,hb⟩)
 rcases hrow.2 with ⟨rfl,hz⟩|⟨gb,cap,cur,rfl,hbase,Vv,r1,r2,r3,r4⟩
 ·have hss:zs= []:=adE hz
  subst hss
  have cS:=hnone none 0 W
  gi_wp2_with (gi_at_call 188;refine cS.mono ?_;rintro e w' ⟨rfl,rfl⟩)
  go_ret
  exact⟨.slice none 0 0,rfl,by simpa[lu]using hrow,hb⟩
 ·have hH:Holds (Value.int .i64) W gb 0 zs.toArray:=holds_of_blockI Vv (by simpa using r4)
  have yJ:gb<W.heap.size:=(adq.1 Vv).1
  have hsz:zs.length<4611686018427387904:=by omega
  have cS:=hsort gb 0 cap zs W hH yJ hsz
  gi_wp2_with (gi_at_call 188;refine cS.mono ?_;rintro e w' ⟨rfl,nn,os,rfl⟩)
  go_ret
  exact⟨_,rfl,ownsRow_sortedI (by simp[lu]) hbase Vv r1 r2 r3,hb.grown (grownBy_sortedI _) hb.size (fun j hj=>by cases hj;exact hbase)⟩
theorem EF{ob:Nat}(Bs:Nat)(sv:Value)(zs:List Int)(nI:zs.length*8<=140737488351232)(w:World)(P3:Bs<w.heap.size)
 (hcs:w.cell? ⟨Bs,ob,none⟩=some sv) (hI:Ints w.heap.size w sv zs):
 Calls Tryz.prog 136 #[.func (.func 189) #[] #[.pointer (some ⟨Bs,ob,none⟩)]] w fun e W'=>∃v,e= .returned v/\W'.ownsRow w.heap.size 3 1 v zs.length ((lu zs).map (Value.int .i64))/\Below w.heap.size w W':=
 (callsIn_wide (n:=5)).1 (MM Fence.wide 5 trivial trivial trivial trivial trivial rfl (adg _)
   (fun blk off cap ss W h1 h2 h3=>callsIn_wide.2 (AnyM.slices_Sort_int Tryz.Uh blk off cap ss W h1 h2 h3))
   (fun p cap W=>callsIn_wide.2 (AnyM.slices_Sort_int_none Tryz.Uh p cap W)) Bs sv zs nI w P3 hcs hI)
end Go.Ab
end
section
set_option maxHeartbeats 4000000
set_option maxRecDepth 10000
namespace Go.Ab
attribute [local congr] ACall.congr gd.congr Ny.congr vcOps.congr
open Go.Proofs Go.RowKit
def Ui(E:Env)(w w':World):Env:=⟨E.ρ,E.σ,fun b=>if b<w.heap.size then E.z b else dh w' b⟩
theorem I5{m:List (Nat × AObj)}{E:Env}{w w':World}(hg:Good m E w)(hb:Below w.heap.size w w'):aK w E.z w' (Ui E w w').z:=by
 intro b
 by_cases h:b<w.heap.size
 ·exact⟨by simp[Ui,h],fun o _=>hb.cell (p:=⟨b,o,none⟩) h⟩
 ·have h0:=hg.fresh b (by omega)
  exact⟨by rw[h0];exact afB _,fun o ho=>by rw[h0]at ho;omega⟩
theorem Spec.P4{P:Program}{f:Nat}{A:Env->World->List Value->Prop}{m:List (Nat × AObj)}{res:AV}(hR:cC m)(hc:zN P f)
 (h:∀E w vals,Good m E w->A E w vals->Calls P f vals.toArray w fun e w'=>∃v,e= .returned v/\Below w.heap.size w w'/\cG w' (Ui E w w') res v):Spec P f A m res m:=by
 refine⟨hc,fun E w vals hg hA=>(h E w vals hg hA).mono ?_⟩
 rintro e w' ⟨v,rfl,hb,hv⟩
 have hst:=I5 hg hb
 have nE:∀ {l o},bM m l=some o->look m l=some o:=fun hl=>(fG (fun p hp=>hR.nest p hp) hl).1
 have hro:∀ {l o},bM m l=some o->o.ro=true:=fun hl=>hR.ro _ (bn (nE hl))
 refine⟨v,Ui E w w',rfl,⟨hb.os,hb.tape,hb.output,hb.size,hst,fun b h1 _=>⟨hb.block b h1,by simp[Ui,h1]⟩,fun _ _=>⟨rfl,rfl⟩⟩,⟨hg.low,hg.inj,fun l o hl=> ?_,fun b h1=> ?_⟩,fun l o b hl h1=> ?_,hv⟩
 ·have h0:=hg.gw l o hl
  have h1:=hro hl
  cases o<;>simp only[AObj.ro]at h1<;>try cases h1
  obtain⟨b,vs,e,g1,g2,g3,g4,g5⟩:=h0
  have hlt:b<w.heap.size:=(adq.1 g2).1
  exact⟨b,vs,e,g1,(hb.block b hlt).trans g2,by simp[Ui,hlt,g3],AVrs.mono ⟨hst,fun _ _=>rfl,fun _ _=>rfl⟩ (fun _ _=>trivial) (live:=fun _=>True) g4,g5⟩
 ·simp only[Ui,dh]
  rw[ac7 (by have:=hb.size;omega),aeg h1]
 ·rw[hro hl]at h1;cases h1
theorem mq{w:World}{z:Nat->Nat}{v:Value}{x:Int}(h:Rd w z v (.sc (.int .i64 x))):v= .int .i64 x:=by cases h;rfl
theorem SL{w:World}{z:Nat->Nat}{v:Value}{l:List Int}(h:Rd w z v (sI l)):Ints w.heap.size w v l:=by
 generalize hx:sI l=x at h
 cases h with
 |sc v h=>cases hx
 |pt b off cells vs hz hc hr=>cases hx
 |nil p sz=>
  simp only[sI,D.sl.injEq,aeF]at hx
  exact .inl ⟨p,0,rfl,hx.2⟩
 |sl b off n cap sz rows vs hn hsz hz hcap hc hr=>
  simp only[sI,D.sl.injEq]at hx
  obtain⟨rfl,rfl⟩:=hx
  rw[adn]at hn
  subst hn
  rcases af5 l.length with h0|hpos
  ·exact .inl ⟨some ⟨b,off,none⟩,cap,by rw[h0],adE h0⟩
  refine .inr ⟨b,off,cap,rfl, ?_,fun j hj=> ?_⟩
  ·have:=hc 0 (by omega)
   by_cases hlt:b<w.heap.size
   ·exact hlt
   ·exfalso
    simp[World.cell?,aeg (agn hlt)]at this
  ·have h1:=hc j (by omega)
   have h2:=hr j 0 (rI l[j]) (.sc (.int .i64 l[j])) (by simp[acF hj]) rfl
   have h3:=mq h2
   simp only[af6,Nat.add_zero]at h3
   rw[h1,h3]
   simp[acF hj]
theorem MN{w':World}{z:Nat->Nat}{base e:Nat}{v:Value}{l:List Int}(h:w'.ownsRow base e 1 v l.length (l.map (Value.int .i64)))(hz:∀b,base<=b->dh w' b<=z b):Rd w' z v (sI l):=by
 rcases h.2 with ⟨rfl,h0⟩|⟨g,cap,cur,rfl,h1,h2,h3,h4,h5,h6⟩
 ·have:l= []:=adE h0
  subst this
  exact .nil _ _
 ·have hzg:=hz g h1
  simp only[dh,h2]at hzg
  refine .sl g 0 l.length cap 1 _ (fun k=> .int .i64 (l.getD k 0)) (by simp) (by simp[rI]) (by omega) h3 (fun k hk=> ?_) (fun i j r x hi hj=> ?_)
  ·have h7:(cur.toList.take (l.length*1))[k]? =(l.map (Value.int .i64))[k]? :=by rw[h6]
   rw[afU hk,ael]at h7
   have cM:k<l.length:=by omega
   simp only[World.cell?,h2,adT,Option.isSome_none,aec,if_false,h7,adm,acF cM,Option.map_some,aas,Option.getD_some]
  ·rw[adm]at hi
   obtain⟨y,hy,rfl⟩:=ad9.1 hi
   cases j with
   |succ j=>simp[rI]at hj
   |zero=>
    simp only[rI,List.getElem?_cons_zero,ady]at hj
    subst hj
    simp only[af6,Nat.add_zero,aas,hy,Option.getD_some]
    exact .sc _ rfl
theorem iH(l:List Int):(lu l).length=l.length:=by simp[lu]
theorem aaV(l:List Int):cC [(10000, .rob [.d (sI l)])]:=⟨by simp[AObj.ro],by simp[nodupM,look],by simp,by simp[AObj.ids,AV.ids,AV.idss]⟩
theorem jo(l:List Int)(hl:l.length<=17592186043904):Spec Tryz.prog 136 (Args [.fn 189 [] [.ptr 10000 0]]) [(10000, .rob [.d (sI l)])] (.d (sI (lu l))) [(10000, .rob [.d (sI l)])]:=by
 refine Spec.P4 (aaV l) ⟨Tryz.f136,_,Tryz.func136,by kernel_rfl,rfl⟩ ?_
 intro E w vals hg hA
 obtain⟨v,vs,rfl,h0,h3⟩:=hA
 obtain⟨us,us',rfl,h1,h2⟩:=h0
 obtain⟨u,Sl,rfl,h4,h5⟩:=h2
 obtain⟨B,hB,rfl⟩:=h4
 simp only[AVrs]at h1 h5 h3
 subst h1 h5 h3
 obtain⟨b,ws,e,g1,g2,g3,g4,g5⟩:=hg.gw 10000 (.rob [.d (sI l)]) rfl
 obtain rfl:b=B:=by rw[g1]at hB;exact aeU hB
 obtain⟨sv,ws',rfl,g6,g7⟩:=g4
 simp only[AVrs]at g7
 subst g7
 have hlt:b<w.heap.size:=(adq.1 g2).1
 refine(EF b sv l (by omega) w hlt (by simp[World.cell?,g2]) (SL g6)).mono ?_
 rintro e w' ⟨v,rfl,hrow,hb⟩
 refine⟨v,rfl,hb, ?_⟩
 rw[<- iH]at hrow
 exact MN hrow fun b hb=>by simp only[Ui];rw[ac7 (by omega)];exact adg _
end Go.Ab
end
section
set_option maxHeartbeats 4000000
set_option maxRecDepth 10000
namespace Go.Ab
attribute [local congr] ACall.congr gd.congr Ny.congr vcOps.congr
open Go.Proofs
def g0:Gr:=⟨3, [(0,1),(1,2),(2,1)]⟩
def KI(g:Gr):Bool:=decide (g.n<=((aZ g).length:Int))
def SM(g:Gr):List Int:=if KI g then aZ g else []
def ql(l:List Int)(n:Int):Bool:=decide ((l.length:Int)=n)&&(List.range n.toNat).all fun x:Nat=>decide ((x:Int)∈l)
theorem count_le:∀(xs l:List Int),xs.Nodup->(∀x∈xs,x∈l)->xs.length<=l.countP (fun y=>decide (y∈xs))
 | [],_,_,_=>afB _
 |a::r,l,hd,h=>by
  obtain⟨h1,h2⟩:=ad5.1 hd
  have ih:=count_le r l h2 fun x hx=>h x (adz _ hx)
  have hp:=pI (p:=fun y=>decide (y∈a::r)) (q:=fun y=>decide (y∈r)) (r:=fun y=>decide (y=a)) (l:=l) (fun y _=>by
   by_cases hy:y=a
   ·subst hy;simp[h1]
   ·simp[hy])
  have ha:0<l.countP (fun y=>decide (y=a)):=af0.2 ⟨a,h a adH,by simp⟩
  rw[hp,List.length_cons];omega
def dD(n:Nat):List Int:=(List.range n).map Int.ofNat
theorem cE{n:Nat}{x:Int} :x∈dD n↔0<=x/\x<n:=by
 simp only[dD,ada,adk]
 constructor
 ·rintro⟨a,h,rfl⟩;simp;omega
 ·intro h;exact⟨x.toNat,by omega,by simp;omega⟩
theorem jM{n:Nat} :(dD n).Nodup:=by
 unfold dD
 exact aex _ (fun a b h e=>h (afo e)) afV
theorem cV{l:List Int}{n:Int} :ql l n=true↔(l.length:Int)=n/\∀x∈dD n.toNat,x∈l:=by
 simp only[ql,adf,adb,ad7,adk]
 constructor
 ·rintro⟨h1,h2⟩
  refine⟨h1,fun x hx=> ?_⟩
  obtain⟨a,b⟩:=cE.1 hx
  have:=h2 x.toNat (by omega)
  rwa [show((x.toNat:Nat):Int)=x from by omega]at this
 ·rintro⟨h1,h2⟩
  exact⟨h1,fun x hx=>h2 _ (cE.2 (by omega))⟩
theorem Bo{l:List Int}{n:Int}(h:ql l n=true):∀x∈l,0<=x/\x<n:=by
 obtain⟨h1,h2⟩:=cV.1 h
 have hc:=count_le (dD n.toNat) l jM h2
 have hlen:(dD n.toNat).length=n.toNat:=by simp[dD]
 have he:l.countP (fun y=>decide (y∈dD n.toNat))=l.length:=by
  have:=aeQ (p:=fun y=>decide (y∈dD n.toNat)) (l:=l)
  omega
 intro x hx
 have:=afH.1 he x hx
 have:=cE.1 (aek this)
 omega
def GH(n:Nat)(l:List Int):Nat->List Int
 |0=>List.replicate n 0
 |k+1=>(GH n l k).set (l.getD k 0).toNat k
theorem atK_length{n:Nat}{l:List Int} :∀ {k:Nat},(GH n l k).length=n
 |0=>by simp[GH]
 |k+1=>by simp[GH,atK_length (k:=k)]
def P5(g:Gr)(l:List Int)(j:Nat):Bool:=(List.range j).all fun i=>decide ((GH g.n.toNat l l.length).getD (tl g i).toNat 0<(GH g.n.toNat l l.length).getD (hd g i).toNat 0)
def EG(g:Gr)(l:List Int):Bool:=ql l g.n&&P5 g l g.es.length
attribute [go_sem] atK_length
end Go.Ab
end
section
namespace Go.Ab
def Sel(g:Gr)(out:List Int):Prop:=∀p,p<out.length->out.getD p 0=jg (eS g (out.take p)) 0/\0<=out.getD p 0
theorem KJ{g:Gr}(hm:aM g=true)(h:KI g=true):ql (aZ g) g.n=true:=by
 obtain⟨hP,_,_⟩:=jL hm
 have hn:=aB hm
 have hf:=hP.fuel
 have hok:=aek h
 refine cV.2 ⟨by omega,fun x hx=> ?_⟩
 obtain⟨h1,h2⟩:=cE.1 hx
 have h0:(List.range g.n.toNat).countP (fun y:Nat=> !decide ((y:Int)∈aZ g))=0:=by omega
 have:=ae4.1 h0 x.toNat (adk.2 (by omega))
 rw[show((x.toNat:Nat):Int)=x from by omega]at this
 simpa using this
theorem KK{g:Gr}(hm:aM g=true)(h:KI g=false):∃y:Nat,y<g.n.toNat/\(y:Int)∉aZ g:=by
 obtain⟨hP,_,_⟩:=jL hm
 have hn:=aB hm
 have hf:=hP.fuel
 have hok:=of_decide_eq_false h
 have h0:0<(List.range g.n.toNat).countP (fun y:Nat=> !decide ((y:Int)∈aZ g)):=by omega
 obtain⟨y,hy,hp⟩:=af0.1 h0
 exact⟨y,adk.1 hy,by simpa using hp⟩
theorem P6{g:Gr}{l:List Int}(h:EG g l=true){i:Nat}(hi:i<g.es.length):(GH g.n.toNat l l.length).getD (tl g i).toNat 0<(GH g.n.toNat l l.length).getD (hd g i).toNat 0:=by
 simp only[EG,adf]at h
 have:=ad7.1 h.2 i (adk.2 hi)
 exact aek this
theorem Bp{n:Nat}{l:List Int} :∀ {k:Nat} {y:Nat},0<=(GH n l k).getD y 0
 |0,y=>by
  simp only[GH,aas,afg]
  split<;>simp
 |k+1,y=>by
  have ih:=Bp (n:=n) (l:=l) (k:=k) (y:=y)
  simp only[GH,aas,aea]at ih ⊢
  split
  ·split<;>simp
  ·exact ih
theorem EH{l:List Int}{i j:Nat}(hij:i<j)(hj:j<l.length)(e:l.getD i 0=l.getD j 0):∀x∈l,x∈l.eraseIdx i:=by
 intro x hx
 obtain⟨k,hk,rfl⟩:=ae3 hx
 rw[aei]
 rcases aew k i with h|h|h
 ·exact⟨k,by rw[agD,ac9 h,acF hk]⟩
 ·subst h
  refine⟨j - 1, ?_⟩
  rw[agD,ac7 (by omega),show j - 1+1=j from by omega,acF hj]
  rw[aas,aas,acF hk,acF hj]at e
  exact congrArg some e.symm
 ·exact⟨k - 1,by rw[agD,ac7 (by omega),show k - 1+1=k from by omega,acF hk]⟩
theorem pR{l:List Int}{n:Int}(h:ql l n=true){i j:Nat}(hi:i<l.length)(hj:j<l.length)(e:l.getD i 0=l.getD j 0):i=j:=by
 obtain⟨h1,h2⟩:=cV.1 h
 have key:∀i j,i<j->j<l.length->l.getD i 0=l.getD j 0->False:=by
  intro i j hij hj e
  have hc:=count_le (dD n.toNat) (l.eraseIdx i) jM fun x hx=>EH hij hj e x (h2 x hx)
  have hlen:(dD n.toNat).length=n.toNat:=by simp[dD]
  have hle:=aeQ (p:=fun y=>decide (y∈dD n.toNat)) (l:=l.eraseIdx i)
  rw[List.length_eraseIdx_of_lt (by omega)]at hle
  omega
 rcases aew i j with h|h|h
 ·exact(key i j h hj e).elim
 ·exact h
 ·exact(key j i h hi e.symm).elim
theorem EI{l:List Int}{n:Int}(h:ql l n=true){p:Nat} :∀ {k:Nat},p<k->k<=l.length->(GH n.toNat l k).getD (l.getD p 0).toNat 0=p
 |0,hp,_=>by omega
 |k+1,hp,hk=>by
  have hlo:=Bo h
  have hp1:=hlo _ (l8 (l:=l) (m:=p) (by omega))
  have Ao:=hlo _ (l8 (l:=l) (m:=k) (by omega))
  simp only[GH,aas (l:=(GH n.toNat l k).set _ _),aea,atK_length]
  by_cases hpk:p=k
  ·subst hpk
   rw[ac9 rfl,ac9 (by omega)];rfl
  ·have hne:¬(l.getD k 0).toNat=(l.getD p 0).toNat:=fun e=>hpk (pR h (i:=p) (j:=k) (by omega) (by omega) (by omega))
   rw[ac7 hne, <- List.getD_eq_getElem?_getD]
   exact EI h (by omega) (by omega)
theorem MO{g:Gr}(hm:aM g=true)(h:KI g=true):EG g (aZ g)=true:=by
 have he:=KJ hm h
 obtain⟨hP,hO,_⟩:=jL hm
 have hall:=(cV.1 he).2
 simp only[EG,he,aeo,P5,ad7,adk,adb]
 intro i hi
 have hh:=aU hm hi
 obtain⟨p,hp,e⟩:=ae3 (hall (hd g i) (cE.2 (by omega)))
 have e':(aZ g).getD p 0=hd g i:=by rw[aas,acF hp];exact e
 have ht:=hO p hp i hi e'.symm
 rw[aei]at ht
 obtain⟨q,hq⟩:=ht
 rw[adD]at hq
 split at hq
 ·rename_i hqp
  have e2:(aZ g).getD q 0=tl g i:=by rw[aas,hq];rfl
  rw[<- e', <- e2,EI he hp (adg _),EI he (by omega) (adg _)]
  omega
 ·cases hq
end Go.Ab
end
section
set_option maxHeartbeats 8000000
set_option maxRecDepth 10000
namespace Go.Ab
attribute [local congr] ACall.congr gd.congr Ny.congr vcOps.congr
open Go.Proofs
def gz:Gr:=⟨0, []⟩
def vz:D:= .pt [.sc (.int .i64 0), .sl 2 [], .sl 1 [], .sl 1 []]
def bQ(f:Edge->Int)(g:Gr)(x:Int):List Int:=if 0<=x/\x<g.n then aJ f g.es g.es.length x else []
theorem Bq(f:Edge->Int)(g:Gr)(hm:aM g=true)(x:Int):Spec Tryz.prog 128 (Args [.d (vw g), .d (.sl 1 (RP f g)),eN x]) [] (.d (sI (bQ f g x))) []:=by
 rw[cm]
 have hn:=aB hm
 have hl':(aJ f g.es g.es.length x).length<=1000000:=by have:=iU (f:=f) (es:=g.es) (k:=g.es.length) (x:=x);omega
 (refine T.h [] [] [.t 6] Tryz.func128 rfl rfl (by kernel_rfl) fun X hX hP hC aA bB=> ?_)
 by_cases hx:0<=x/\x<g.n
 ·have hv:=qO (f:=f) (g:=g) (x:=x.toNat) (by omega)
  have he:gU f g.es g.es.length x.toNat=aJ f g.es g.es.length x:=by rw[oe,show((x.toNat:Nat):Int)=x from by omega]
  rw[he]at hv
  have hb1:decide (x<0)=false:=ac5 (by omega)
  have hb2:decide (g.n<=x)=false:=ac5 (by omega)
  have ht:bQ f g x=aJ f g.es g.es.length x:=ac9 hx
  repeat' (first|refine Rn.p ?_|((first|refine Rs.p ?_|with_reducible intro K hK|(refine hK _ ?_;clear hK K)|refine aa (qL (aJ f g.es g.es.length x) hl') rfl ?_);try simp only[go_sem,simprocAttr,hv,hb1,hb2])|with_reducible (apply And.intro)|omega)
  simp[ht]
 ·have ht:bQ f g x= []:=ac7 hx
  repeat' (first|refine Rn.p ?_|((first|refine Rs.p ?_|with_reducible intro K hK|(refine hK _ ?_;clear hK K));try simp only[go_sem,simprocAttr,ht])|with_reducible (first|apply And.intro|(intro h;try simp only[go_sem,simprocAttr,ht]at h))|omega)
theorem sM(g:Gr)(hm:aM g=true)(x:Int):Spec Tryz.prog 73 (Args [.d (vw g),eN x]) [] (.d (sI (bQ (·.1) g x))) []:=by
 (refine T.h [] [] [.t 4] Tryz.func73 rfl rfl (by kernel_rfl) fun X hX hP hC aA bB=> ?_)
 repeat' (first|refine Rn.p ?_|((first|refine Rs.p ?_|with_reducible intro K hK|(refine hK _ ?_;clear hK K)|refine aa (Bq (·.1) g hm x) rfl ?_);try simp only[go_sem,simprocAttr,cm]))
theorem Bt(g:Gr)(hm:aM g=true)(x:Int):Spec Tryz.prog 100 (Args [.d (vw g),eN x]) [] (.d (sI (bQ (·.2) g x))) []:=by
 (refine T.h [] [] [.t 4] Tryz.func100 rfl rfl (by kernel_rfl) fun X hX hP hC aA bB=> ?_)
 repeat' (first|refine Rn.p ?_|((first|refine Rs.p ?_|with_reducible intro K hK|(refine hK _ ?_;clear hK K)|refine aa (Bq (·.2) g hm x) rfl ?_);try simp only[go_sem,simprocAttr,cm]))
abbrev It:=Int × Int × Int
def rT(t:It):List D:= [.sc (.int .i64 t.1), .sc (.int .i64 t.2.1), .sc (.int .i64 t.2.2)]
def eT(t:It):AV:= .agg [.d (.sc (.int .i64 t.1)), .d (.sc (.int .i64 t.2.1)), .d (.sc (.int .i64 t.2.2))]
def sT(ts:List It):D:= .sl 3 (ts.map rT)
theorem getD_rT(ps:List It)(i:Nat):(ps.map rT).getD i [.sc (.int .i64 0), .sc (.int .i64 0), .sc (.int .i64 0)]=rT (ps.getD i (0,0,0)):=by
 simp only[aas,adm]
 cases ps[i]? <;>rfl
theorem rT_eq(t:It):rT t= [.sc (.int .i64 t.1), .sc (.int .i64 t.2.1), .sc (.int .i64 t.2.2)]:=rfl
attribute [go_sem] getD_rT rT_eq eT sT
theorem tV{l:List Int} :∀r∈l.map rI,∀x∈r,∃v,x=D.sc v:=by
 intro r hr x hx
 obtain⟨y,_,rfl⟩:=ada.1 hr
 simp only[rI,adu]at hx
 exact⟨_,hx⟩
theorem tW{l:List It} :∀r∈l.map rT,∀x∈r,∃v,x=D.sc v:=by
 intro r hr x hx
 obtain⟨y,_,rfl⟩:=ada.1 hr
 simp only[rT,adv,aen,or_false]at hx
 rcases hx with h|h|h<;>exact⟨_,h⟩
theorem y4(ps:List It)(hl:ps.length<=1000000):
 Spec Tryz.prog 142 (Args [.d (sT ps)]) [] (.ref 10000) [(10000, .tip 92 3 (ps.map rT))]:=by
 (refine T.hR [] [] [.t 2] [(10000,7)] Tryz.func142 rfl rfl (by kernel_rfl) fun X hX hP hC aA bB=> ?_)
 repeat' (first|(show cR _ .ret _ _;(try simp only[go_sem,simprocAttr]);refine dQ hX 2 7 (.tip 92 3 []) ?_ ?_ (by decide) ⟨92,3,by decide, .inr rfl⟩ ?_;(iterate 2 (focus(simp only[go_sem,simprocAttr];done)));simp only[go_sem,simprocAttr])|refine Rn.p ?_|((first|refine Rs.p ?_|with_reducible intro K hK|(refine hK _ ?_;clear hK K));try simp only[go_sem,simprocAttr])|with_reducible (first|apply And.intro|(intro h;try simp only[go_sem,simprocAttr]at h))|omega)
 exact h.symm
theorem EJ(ps:List Int)(hl:ps.length<=1000000):
 Spec Tryz.prog 44 (Args [.d (sI ps)]) [] (.ref 10000) [(10000, .tip 3 1 (ps.map rI))]:=by
 (refine T.hR [] [] [.t 2] [(10000,7)] Tryz.func44 rfl rfl (by kernel_rfl) fun X hX hP hC aA bB=> ?_)
 repeat' (first|(show cR _ .ret _ _;(try simp only[go_sem,simprocAttr]);refine dQ hX 2 7 (.tip 3 1 []) ?_ ?_ (by decide) ⟨3,1,by decide, .inr rfl⟩ ?_;(iterate 2 (focus(simp only[go_sem,simprocAttr];done)));simp only[go_sem,simprocAttr])|refine Rn.p ?_|((first|refine Rs.p ?_|with_reducible intro K hK|(refine hK _ ?_;clear hK K));try simp only[go_sem,simprocAttr])|with_reducible (first|apply And.intro|(intro h;try simp only[go_sem,simprocAttr]at h))|omega)
 exact h.symm
theorem qm{m:List (Nat × AObj)}(hR:cC m)(f:Nat)(caps:List AV)(g:It->Bool)(ps:List It)(hf:∀p∈ps,Spec Tryz.prog f (Args (eT p::caps)) m (eB (g p)) m)(hl:ps.length<=9223372036854775807):
 Spec Tryz.prog 219 (Args [.d (sT ps), .fn f [] caps]) m (eN (bT g ps)) m:=by
 (refine T.hS [] [] [.t 4] hR Tryz.func219 rfl rfl (by kernel_rfl) fun X hX hP hC aA bB=> ?_)
 repeat' (first|refine Rn.p ?_|((first|refine Rs.p ?_|with_reducible intro K hK|(refine hK _ ?_;clear hK K));try simp only[go_sem,simprocAttr]))
 refine ag (fun k:Nat=>k<=ps.length/\∀j,j<k->g (ps.getD j (0,0,0))=false) (fun k=>⟨[(0, .d (sT ps)),(1, .fn f [] caps),(7,eN ps.length),(8,eN k)],m⟩) (fun k=>ps.length - k) 0 (by simp) ?_ ?_
 ·(refine⟨bS ?_,fun _ _ h=>h⟩;simp[go_sem,simprocAttr])
 rintro k ⟨hk,hg⟩
 rcases adj k ps.length with hlt|hge
 ·have hb:decide ((k:Int)<(ps.length:Int))=true:=ac6 (by omega)
  have hf':=hf (ps.getD k (0,0,0)) (az hlt)
  repeat' (first|refine Rn.p ?_|((first|refine Rs.p ?_|with_reducible intro K hK|(refine hK _ ?_;clear hK K)|(first|(refine aR hR (hf') ?_ rfl rfl ?_;(focus(first|exact fun p hp=>aL (cC.nd hR) hp|(simp[go_sem,simprocAttr,hb];done))))|(refine aR hR (hf') ?_ ?_ rfl ?_;(focus(first|exact fun p hp=>aL (cC.nd hR) hp|(simp[go_sem,simprocAttr,hb];done)));(focus(simp[go_sem,simprocAttr,hb];done)))));try simp only[go_sem,simprocAttr,hb])|with_reducible (first|apply And.intro|(intro h;try simp only[go_sem,simprocAttr,hb]at h))|omega)
  ·exact(b9 (by omega) hg h).symm
  ·exact cu hR
  ·refine⟨k+1,⟨by omega,fun j hj=> ?_⟩, ?_,by omega⟩
   ·by_cases hjk:j=k
    ·subst hjk;exact h
    ·exact hg j (by omega)
   ·(refine⟨bS ?_,fun _ _ h=>h⟩;simp[go_sem,simprocAttr,hb])
 ·have hb:decide ((k:Int)<(ps.length:Int))=false:=ac5 (by omega)
  repeat' (first|refine Rn.p ?_|((first|refine Rs.p ?_|with_reducible intro K hK|(refine hK _ ?_;clear hK K));try simp only[go_sem,simprocAttr,hb])|with_reducible (apply And.intro))
  ·exact(bL (0,0,0) fun j hj=>hg j (by omega)).symm
  ·exact cu hR
theorem uQ{m:List (Nat × AObj)}(hR:cC m)(f:Nat)(caps:List AV)(g:It->Bool)(ps:List It)(hf:∀p∈ps,Spec Tryz.prog f (Args (eT p::caps)) m (eB (g p)) m)(hl:ps.length<=9223372036854775807):
 Spec Tryz.prog 205 (Args [.d (sT ps), .fn f [] caps]) m (eB (ps.any g)) m:=by
 (refine T.hS [] [] [.t 4] hR Tryz.func205 rfl rfl (by kernel_rfl) fun X hX hP hC aA bB=> ?_)
 repeat' (first|refine Rn.p ?_|((first|refine Rs.p ?_|with_reducible intro K hK|(refine hK _ ?_;clear hK K)|(first|(refine aR hR (qm hR f caps g ps hf hl) ?_ rfl rfl ?_;(focus(first|exact fun p hp=>aL (cC.nd hR) hp|(simp[go_sem,simprocAttr];done))))|(refine aR hR (qm hR f caps g ps hf hl) ?_ ?_ rfl ?_;(focus(first|exact fun p hp=>aL (cC.nd hR) hp|(simp[go_sem,simprocAttr];done)));(focus(simp[go_sem,simprocAttr];done)))));try simp only[go_sem,simprocAttr])|with_reducible (apply And.intro))
 ·exact cT g ps
 ·exact cu hR
theorem I6(n:Int)(h0:0<n)(hl:n<=1000000):Spec Tryz.prog 207 (Args [.nil 92,eN n]) [] (.ref 10000) [(10000, .own 92 3 [])]:=by
 (refine T.hR [] [] [.t 4] [(10000,25)] Tryz.func207 rfl rfl (by kernel_rfl) fun X hX hP hC aA bB=> ?_)
 repeat' (first|refine Rn.p ?_|((first|refine Rs.p ?_|with_reducible intro K hK|(refine hK _ ?_;clear hK K));try simp only[go_sem,simprocAttr])|with_reducible (first|apply And.intro|(intro h;try simp only[go_sem,simprocAttr]at h))|omega)
def vT(ls:List (List It)):List (List D):=ls.map fun l=> [sT l]
theorem vT_length{ls:List (List It)} :(vT ls).length=ls.length:=by simp[vT]
theorem wu{ls:List (List It)}{k:Nat}(h:k<ls.length)(d:List D):(vT ls).getD k d= [sT (ls.getD k [])]:=by
 simp[vT,aas,acF h]
attribute [go_sem] vT_length
theorem Bu{α:Type}{ls:List (List α)}{k:Nat}(h:k<ls.length):(ls.take (k+1)).flatten=(ls.take k).flatten++ls.getD k []:=by
 rw[ad1,afZ,acF h,aas,acF h]
 simp
theorem wz{α:Type}{ls:List (List α)}{k:Nat} :(ls.take k).flatten.length<=ls.flatten.length:=by
 have:=congrArg (fun x=>x.flatten.length) (afF k ls)
 simp only[afZ,adi]at this
 omega
theorem EK(ls:List (List It))(hn:ls.length<=1000)(h0:0<ls.flatten.length)(hl:ls.flatten.length<=1000000):Spec Tryz.prog 191 (Args [.d (.sl 1 (vT ls))]) [] (.d (sT ls.flatten)) []:=by
 (refine T.h [] [] [.t 2] Tryz.func191 rfl rfl (by kernel_rfl) fun X hX hP hC aA bB=> ?_)
 repeat' (first|refine Rn.p ?_|((first|refine Rs.p ?_|with_reducible intro K hK|(refine hK _ ?_;clear hK K));try simp only[go_sem,simprocAttr]))
 refine ag (fun k:Nat=>k<=ls.length) (fun k=>⟨[(0, .d (.sl 1 (vT ls))),(9, .d (.sl 1 (vT ls))),(10,eN ls.length),(11,eN k),(3,eN ((ls.take k).flatten.length))], []⟩) (fun k=>ls.length - k) 0 (by omega) ?_ ?_
 ·(refine Le.of ?_ ?_<;>simp[go_sem,simprocAttr])
 ·rintro k hk
  rcases adj k ls.length with hlt|hge
  ·have hb:decide ((k:Int)<(ls.length:Int))=true:=ac6 (by omega)
   have hv:=wu hlt
   have hf:=Bu hlt
   have Za:=wz (ls:=ls) (k:=k)
   have Pm:=wz (ls:=ls) (k:=k+1)
   rw[hf,adi]at Pm
   have hneg:decide (((ls.take k).flatten.length:Int)+((ls.getD k []).length:Int)<0)=false:=ac5 (by omega)
   repeat' (first|refine Rn.p ?_|((first|refine Rs.p ?_|with_reducible intro K hK|(refine hK _ ?_;clear hK K));try simp only[go_sem,simprocAttr,hb,hv,hneg])|with_reducible (apply And.intro)|omega)
   refine⟨k+1,by omega, ?_,by omega⟩
   simp only[hf]
   refine Le.of ?_ ?_<;>simp[go_sem,simprocAttr,hb,hv,hneg]
  ·have hb:decide ((k:Int)<(ls.length:Int))=false:=ac5 (by omega)
   have ht:ls.take k=ls:=adB (by omega)
   repeat' (first|refine Rn.p ?_|((first|refine Rs.p ?_|with_reducible intro K hK|(refine hK _ ?_;clear hK K)|(refine aS [(10000,33)] (I6 (ls.flatten.length:Int) (by omega) (by omega)) ?_ ?_;(focus(simp[go_sem,simprocAttr,hb,ht];done))));try simp only[go_sem,simprocAttr,hb,ht]))
   refine ag (fun k:Nat=>k<=ls.length) (fun k=>⟨[(25, .d (.sl 1 (vT ls))),(26,eN ls.length),(27,eN k),(6, .ref 33)], [(33, .own 92 3 ((ls.take k).flatten.map rT))]⟩) (fun k=>ls.length - k) 0 (by omega) ?_ ?_
   ·(refine Le.of ?_ ?_<;>simp[go_sem,simprocAttr,hb,ht])
   ·clear hb ht hk hge
    rintro k hk
    rcases adj k ls.length with hlt|hge
    ·have hb:decide ((k:Int)<(ls.length:Int))=true:=ac6 (by omega)
     have hv:=wu hlt
     have hf:=Bu hlt
     have Za:=wz (ls:=ls) (k:=k)
     have Pm:=wz (ls:=ls) (k:=k+1)
     rw[hf,adi]at Pm
     repeat' (first|refine Rn.p ?_|((first|refine Rs.p ?_|with_reducible intro K hK|(refine hK _ ?_;clear hK K));try simp only[go_sem,simprocAttr,hb,hv])|with_reducible (apply And.intro)|omega)
     refine⟨k+1,by omega, ?_,by omega⟩
     simp only[hf]
     refine Le.of ?_ ?_<;>simp[go_sem,simprocAttr,hb,hv]
    ·have hb:decide ((k:Int)<(ls.length:Int))=false:=ac5 (by omega)
     have ht:ls.take k=ls:=adB (by omega)
     repeat' (first|refine Rn.p ?_|((first|refine Rs.p ?_|with_reducible intro K hK|(refine hK _ ?_;clear hK K));try simp only[go_sem,simprocAttr,hb,ht]))
structure Fr where
 row:List It
 pl:List Int
def tX(g:Gr)(f:Fr):D:= .pt [sT f.row,vw g,sI f.pl]
def iZ(row:List It)(x:Int):Nat->Int × Int × Int
 |0=>(-1,0,0)
 |k+1=>if(row.getD k (0,0,0)).2.2=x then(if(iZ row x k).1= -1 then(k:Int) else(iZ row x k).1,(k:Int)+1,(iZ row x k).2.2+1) else iZ row x k
def bH(row:List It)(x:Int):Int × Int × Int:=iZ row x row.length
theorem uR{row:List It}{x:Int}{k:Nat} :iZ row x (k+1)=if(row.getD k (0,0,0)).2.2=x then(if(iZ row x k).1= -1 then(k:Int) else(iZ row x k).1,(k:Int)+1,(iZ row x k).2.2+1) else iZ row x k:=rfl
theorem gX{row:List It}{x:Int} :∀k:Nat,(iZ row x k=(-1,0,0)/\∀j,j<k->(row.getD j (0,0,0)).2.2≠x)\/
 ∃a b c:Nat,iZ row x k=((a:Int),(b:Int),(c:Int))/\a<b/\b<=k/\0<c/\c<=k/\(row.getD a (0,0,0)).2.2=x/\(row.getD (b - 1) (0,0,0)).2.2=x/\(∀j,j<a->(row.getD j (0,0,0)).2.2≠x)/\(∀j,b<=j->j<k->(row.getD j (0,0,0)).2.2≠x)
 |0=> .inl ⟨rfl,fun j hj=>by omega⟩
 |k+1=>by
  rw[uR]
  by_cases hx:(row.getD k (0,0,0)).2.2=x
  ·rw[ac9 hx]
   right
   rcases gX (row:=row) (x:=x) k with ⟨h1,h2⟩|⟨a,b,c,h1,h2,h3,h4,h5,h6,h7,h8,h9⟩
   ·refine⟨k,k+1,1,by rw[h1];rfl,by omega,by omega,by omega,by omega,hx,hx,h2,fun j h1 h2=>by omega⟩
   ·refine⟨a,k+1,c+1,by rw[h1];simp only[afe];exact⟨by rw[ac7 (by omega)],by omega,by omega⟩,by omega,by omega,by omega,by omega,h6,hx,h8,fun j h1 h2=>by omega⟩
  ·rw[ac7 hx]
   rcases gX (row:=row) (x:=x) k with ⟨h1,h2⟩|⟨a,b,c,h1,h2,h3,h4,h5,h6,h7,h8,h9⟩
   ·refine .inl ⟨h1,fun j hj=> ?_⟩
    by_cases hjk:j=k
    ·subst hjk;exact hx
    ·exact h2 j (by omega)
   ·refine .inr ⟨a,b,c,h1,h2,by omega,h4,by omega,h6,h7,h8,fun j XZ h11=> ?_⟩
    by_cases hjk:j=k
    ·subst hjk;exact hx
    ·exact h9 j XZ (by omega)
theorem sN(ds:List D)(row:List It)(x:Int)(hl:row.length<=1000000):Spec Tryz.prog 139 (Args [.d (.pt (sT row::ds)),eN x]) [] (.tup [eN (bH row x).1,eN (bH row x).2.1,eN (bH row x).2.2]) []:=by
 (refine T.h [] [] [.t 4, .t 5, .t 6] Tryz.func139 rfl rfl (by kernel_rfl) fun X hX hP hC aA bB=> ?_)
 repeat' (first|refine Rn.p ?_|((first|refine Rs.p ?_|with_reducible intro K hK|(refine hK _ ?_;clear hK K));try simp only[go_sem,simprocAttr,bH]))
 refine ag (fun k:Nat=>k<=row.length) (fun k=>⟨[(1,eN x),(12, .d (sT row)),(13,eN row.length),(14,eN k),(4,eN (iZ row x k).1),(5,eN (iZ row x k).2.1),(6,eN (iZ row x k).2.2)], []⟩) (fun k=>row.length - k) 0 (by simp) ?_ ?_
 ·refine Le.of ?_ ?_<;>simp[go_sem,simprocAttr,bH,iZ]
 rintro k hk
 rcases adj k row.length with hlt|hge
 ·have hb:decide ((k:Int)<(row.length:Int))=true:=ac6 (by omega)
  have hok:=gX (row:=row) (x:=x) k
  have hc: -1<=(iZ row x k).2.2/\(iZ row x k).2.2<=k:=by
   rcases hok with ⟨h1,_⟩|⟨a,b,c,h1,_,_,_,_,_⟩<;>rw[h1]<;>simp only<;>omega
  have dw:=uR (row:=row) (x:=x) (k:=k)
  repeat' (first|refine Rn.p ?_|((first|refine Rs.p ?_|with_reducible intro K hK|(refine hK _ ?_;clear hK K));try simp only[go_sem,simprocAttr,hb])|with_reducible (first|apply And.intro|(intro h;try simp only[go_sem,simprocAttr,hb]at h))|omega)
  all_goals(first|rw[ac7 (by assumption)]at dw|(rw[ac9 (by assumption)]at dw;first|rw[ac9 (by assumption)]at dw|rw[ac7 (by assumption)]at dw))
  all_goals(refine⟨k+1,by omega, ?_,by omega⟩;refine Le.of ?_ ?_<;>simp[go_sem,simprocAttr,hb,dw])
 ·have hb:decide ((k:Int)<(row.length:Int))=false:=ac5 (by omega)
  obtain rfl:k=row.length:=by omega
  repeat' (first|refine Rn.p ?_|((first|refine Rs.p ?_|with_reducible intro K hK|(refine hK _ ?_;clear hK K));try simp only[go_sem,simprocAttr,hb,bH]))
def pS(x:Int)(t:It):Bool:=decide (t.2.2≠x)&&decide (t.2.2≠ -1)
def y5(row:List It)(x:Int)(a b:Nat):Bool:= !((row.take b).drop a).any (pS x)
theorem VB(x:Int):cC [(10000, .rob [eN x])]:=⟨by simp[AObj.ro],by simp[nodupM,look],by simp,by simp[AObj.ids,AV.ids,AV.idss,eN]⟩
theorem I7(x:Int)(t:It):Spec Tryz.prog 206 (Args [eT t, .ptr 10000 0]) [(10000, .rob [eN x])] (eB (pS x t)) [(10000, .rob [eN x])]:=by
 (refine T.hS [] [] [.t 3] (VB x) Tryz.func206 rfl rfl (by kernel_rfl) fun X hX hP hC aA bB=> ?_)
 repeat' (first|refine Rn.p ?_|((first|refine Rs.p ?_|with_reducible intro K hK|(refine hK _ ?_;clear hK K));try simp only[go_sem,simprocAttr])|with_reducible (first|apply And.intro|(intro h;try simp only[go_sem,simprocAttr]at h)))
 all_goals(simp only[pS];first|exact cu (VB x)|simp[*])
theorem I8(ds:List D)(row:List It)(x:Int)(a b:Nat)(hab:a<=b)(hb:b<=row.length)(hl:row.length<=1000000):Spec Tryz.prog 190 (Args [.d (.pt (sT row::ds)),eN x,eN a,eN b]) [] (eB (y5 row x a b)) []:=by
 have CR:sT ((row.take b).drop a)= .sl 3 (((row.map rT).take b).drop a):=by simp[sT,aeu,aeL]
 have iF:((row.take b).drop a).length<=9223372036854775807:=by simp;omega
 (refine T.h [] [] [.t 8] Tryz.func190 rfl rfl (by kernel_rfl) fun X hX hP hC aA bB=> ?_)
 repeat' (first|refine Rn.p ?_|((first|refine Rs.p ?_|with_reducible intro K hK|(refine hK _ ?_;clear hK K)|(refine bw [(10000,5)] (uQ (VB x) _ [.ptr 10000 0] (pS x) ((row.take b).drop a) (fun t _=>I7 x t) iF) ?_ ?_;(focus(simp[go_sem,simprocAttr,aeu,aeL];done))));try simp only[go_sem,simprocAttr,aeu,aeL])|with_reducible (apply And.intro)|omega)
 rfl
def gh(g:Gr)(f:Fr)(x:Int):Bool:=
 if x<0\/g.n<=x\/x∈f.pl then false else
 decide ((bH f.row x).2.2=((bQ (·.2) g x).length:Int))&&(decide ((bQ (·.2) g x).length=0)||y5 f.row x (bH f.row x).1.toNat (bH f.row x).2.1.toNat)
theorem I9{f:Edge->Int}{g:Gr}{x:Int} :(bQ f g x).length<=g.es.length:=by
 unfold bQ
 split
 ·exact iU
 ·simp
theorem pT(g:Gr)(hm:aM g=true)(f:Fr)(x:Int)(hr:f.row.length<=1000000)(dI:f.pl.length<=1000000):Spec Tryz.prog 138 (Args [.d (tX g f),eN x]) [] (eB (gh g f x)) []:=by
 have hp:f.pl.length<=9223372036854775807:=by omega
 have hn:=aB hm
 unfold tX
 by_cases hx:x<0\/g.n<=x\/x∈f.pl
 ·have hR:gh g f x=false:=ac9 hx
  (refine T.h [] [] [.t 4] Tryz.func138 rfl rfl (by kernel_rfl) fun X hX hP hC aA bB=> ?_)
  by_cases h1:x<0
  ·have hb1:decide (x<0)=true:=ac6 h1
   repeat' (first|refine Rn.p ?_|((first|refine Rs.p ?_|with_reducible intro K hK|(refine hK _ ?_;clear hK K));try simp only[go_sem,simprocAttr,cm,hR,hb1]))
  have hb1:decide (x<0)=false:=ac5 h1
  by_cases h2:g.n<=x
  ·have hb2:decide (g.n<=x)=true:=ac6 h2
   repeat' (first|refine Rn.p ?_|((first|refine Rs.p ?_|with_reducible intro K hK|(refine hK _ ?_;clear hK K));try simp only[go_sem,simprocAttr,cm,hR,hb1,hb2]))
  have hb2:decide (g.n<=x)=false:=ac5 h2
  have h3:x∈f.pl:=by rcases hx with h|h|h;exact absurd h h1;exact absurd h h2;exact h
  have hb3:decide (x∈f.pl)=true:=ac6 h3
  repeat' (first|refine Rn.p ?_|((first|refine Rs.p ?_|with_reducible intro K hK|(refine hK _ ?_;clear hK K)|refine aa (dm f.pl x hp) rfl ?_);try simp only[go_sem,simprocAttr,cm,hR,hb1,hb2,hb3]))
 ·have hb1:decide (x<0)=false:=ac5 fun h=>hx (.inl h)
  have hb2:decide (g.n<=x)=false:=ac5 fun h=>hx (.inr (.inl h))
  have hb3:decide (x∈f.pl)=false:=ac5 fun h=>hx (.inr (.inr h))
  have hR:gh g f x=(decide ((bH f.row x).2.2=((bQ (·.2) g x).length:Int))&&(decide ((bQ (·.2) g x).length=0)||y5 f.row x (bH f.row x).1.toNat (bH f.row x).2.1.toNat)):=ac7 hx
  by_cases h4:(bH f.row x).2.2=((bQ (·.2) g x).length:Int)
  ·have hb4:decide ((bH f.row x).2.2=((bQ (·.2) g x).length:Int))=true:=ac6 h4
   by_cases h5:(bQ (·.2) g x).length=0
   ·have hb5:decide (((bQ (·.2) g x).length:Int)=0)=true:=ac6 (by omega)
    rw[hb4,ac6 h5]at hR
    (refine T.h [] [] [.t 4] Tryz.func138 rfl rfl (by kernel_rfl) fun X hX hP hC aA bB=> ?_)
    repeat' (first|refine Rn.p ?_|((first|refine Rs.p ?_|with_reducible intro K hK|(refine hK _ ?_;clear hK K)|refine aa (Bt g hm x) rfl ?_|refine aa (dm f.pl x hp) rfl ?_|refine aa (sN [vw g,sI f.pl] f.row x hr) rfl ?_);try simp only[go_sem,simprocAttr,cm,hR,hb1,hb2,hb3,hb4,hb5]))
   ·have hb5:decide (((bQ (·.2) g x).length:Int)=0)=false:=ac5 (by omega)
    rcases gX (row:=f.row) (x:=x) f.row.length with ⟨h6,_⟩|⟨a,b,c,h6,hab,Ct,_⟩
    ·exfalso
     have:(bH f.row x).2.2=0:=by unfold bH;rw[h6]
     omega
    ·have hsp:bH f.row x=((a:Int),(b:Int),(c:Int)):=h6
     have hab:a<=b:=by omega
     rw[hb4,ac5 h5,hsp]at hR
     simp only[aeo,aeK,Int.toNat_natCast]at hR
     rw[hsp]at hb4
     (refine T.h [] [] [.t 4] Tryz.func138 rfl rfl (by kernel_rfl) fun X hX hP hC aA bB=> ?_)
     repeat' (first|refine Rn.p ?_|((first|refine Rs.p ?_|with_reducible intro K hK|(refine hK _ ?_;clear hK K)|refine aa (Bt g hm x) rfl ?_|refine aa (dm f.pl x hp) rfl ?_|refine aa (sN [vw g,sI f.pl] f.row x hr) rfl ?_|refine aa (I8 [vw g,sI f.pl] f.row x a b hab Ct hr) rfl ?_);try simp only[go_sem,simprocAttr,cm,hR,hb1,hb2,hb3,hb4,hb5,hsp]))
  ·have hb4:decide ((bH f.row x).2.2=((bQ (·.2) g x).length:Int))=false:=ac5 h4
   rw[hb4,agb]at hR
   (refine T.h [] [] [.t 4] Tryz.func138 rfl rfl (by kernel_rfl) fun X hX hP hC aA bB=> ?_)
   repeat' (first|refine Rn.p ?_|((first|refine Rs.p ?_|with_reducible intro K hK|(refine hK _ ?_;clear hK K)|refine aa (Bt g hm x) rfl ?_|refine aa (dm f.pl x hp) rfl ?_|refine aa (sN [vw g,sI f.pl] f.row x hr) rfl ?_);try simp only[go_sem,simprocAttr,cm,hR,hb1,hb2,hb3,hb4]))
theorem MP(ds:List D)(row:List It)(hr:row.length<=1000000):Spec Tryz.prog 90 (Args [.d (.pt (sT row::ds))]) [] (.ref 10000) [(10000, .tip 92 3 (row.map rT))]:=by
 (refine T.hR [] [] [.t 2] [(10000,7)] Tryz.func90 rfl rfl (by kernel_rfl) fun X hX hP hC aA bB=> ?_)
 repeat' (first|refine Rn.p ?_|((first|refine Rs.p ?_|with_reducible intro K hK|(refine hK _ ?_;clear hK K)|(refine aS [(10000,7)] (y4 row hr) ?_ ?_;(focus(simp[go_sem,simprocAttr];done))));try simp only[go_sem,simprocAttr]))
theorem kg(l:List Int):Spec Tryz.prog 137 (Args [.d (sI l)]) [] (.fn 189 [] [.ptr 10000 0]) [(10000, .box [.d (sI l)])]:=by
 (refine T.hR [] [] [.t 2] [(10000,1)] Tryz.func137 rfl rfl (by kernel_rfl) fun X hX hP hC aA bB=> ?_)
 repeat' (first|refine Rn.p ?_|((first|refine Rs.p ?_|with_reducible intro K hK|(refine hK _ ?_;clear hK K));try simp only[go_sem,simprocAttr]))
theorem ki(xs ys:List Int)(hlen:xs.length<=9223372036854775807):Spec Tryz.prog 133 (Args [.d (sI xs), .d (sI ys)]) [] (eB (decide (xs=ys))) []:=by
 (refine T.h [] [] [.t 4] Tryz.func133 rfl rfl (by kernel_rfl) fun X hX hP hC aA bB=> ?_)
 repeat' (first|refine Rn.p ?_|((first|refine Rs.p ?_|with_reducible intro K hK|(refine hK _ ?_;clear hK K));try simp only[go_sem,simprocAttr])|with_reducible (first|apply And.intro|(intro h;try simp only[go_sem,simprocAttr]at h)))
 ·have:xs≠ys:=fun e=>h (by rw[e])
  simp[this]
 refine ag (fun k:Nat=>k<=xs.length/\xs.take k=ys.take k) (fun k=>⟨[(0, .d (sI xs)),(1, .d (sI ys)),(12,eN xs.length),(13,eN k)], []⟩) (fun k=>xs.length - k) 0 (by simp) ?_ ?_
 ·(refine⟨bS ?_,fun _ _ h=>h⟩;simp[go_sem,simprocAttr])
 rintro k ⟨hk,hp⟩
 have L0:xs.length=ys.length:=by omega
 repeat' (first|refine Rn.p ?_|((first|refine Rs.p ?_|with_reducible intro K hK|(refine hK _ ?_;clear hK K));try simp only[go_sem,simprocAttr])|with_reducible (first|apply And.intro|refine oD (by kernel_rfl) ?_|(intro h;try simp only[go_sem,simprocAttr]at h))|omega)
 ·have:xs≠ys:=fun e=>h (by rw[e])
  simp[this]
 ·refine⟨k+1,⟨by omega,Mi 0 (by omega) (by omega) hp h⟩, ?_,by omega⟩
  (refine⟨bS ?_,fun _ _ h=>h⟩;simp[go_sem,simprocAttr])
 ·have:k=xs.length:=by omega
  subst this
  rw[adB (adg _),adB (by omega)]at hp
  simp[hp]
def gM(g:Gr)(x:Int)(i:Int):It:=(i,x,(g.es.getD i.toNat (0,0)).2)
def aQ(g:Gr)(x:Int)(outs:List Int):List It:=if outs= [] then [(-1,x, -1)] else outs.map (gM g x)
theorem uS{α β:Type}{f:α->β}{l:List α}{d:α}{k:Nat}(h:k<l.length):(l.take (k+1)).map f=(l.take k).map f++ [f (l.getD k d)]:=by
 rw[ad1,ads,acF h,aas,acF h]
 rfl
theorem Ja(g:Gr)(f:Fr)(x:Int)(outs:List Int)(hl:outs.length<=1000000)(ho:∀i∈outs,0<=i/\i<g.es.length):Spec Tryz.prog 141 (Args [.d (tX g f),eN x, .d (sI outs)]) [] (.ref 10000) [(10000, .tip 92 3 ((aQ g x outs).map rT))]:=by
 unfold tX
 by_cases h0:outs= []
 ·subst h0
  have hA:aQ g x []= [(-1,x, -1)]:=ac9 rfl
  rw[hA]
  (refine T.hR [] [] [.t 6] [(10000,14)] Tryz.func141 rfl rfl (by kernel_rfl) fun X hX hP hC aA bB=> ?_)
  repeat' (first|refine Rn.p ?_|((first|refine Rs.p ?_|with_reducible intro K hK|(refine hK _ ?_;clear hK K));try simp only[go_sem,simprocAttr,cm]))
 ·have hA:aQ g x outs=outs.map (gM g x):=ac7 h0
  rw[hA]
  have hb0:decide ((outs.length:Int)=0)=false:=ac5 fun h=>h0 (adE (by omega))
  (refine T.hR [] [] [.t 6] [(10000,38)] Tryz.func141 rfl rfl (by kernel_rfl) fun X hX hP hC aA bB=> ?_)
  repeat' (first|refine Rn.p ?_|((first|refine Rs.p ?_|with_reducible intro K hK|(refine hK _ ?_;clear hK K));try simp only[go_sem,simprocAttr,cm,hb0]))
  (refine dQ hX 6 38 (.tip 92 3 []) (by simp only[go_sem,simprocAttr,cm,hb0]) (by simp only[go_sem,simprocAttr,cm,hb0]) (by decide) ⟨92,3,by decide, .inr rfl⟩ ?_;simp only[go_sem,simprocAttr,cm,hb0])
  refine ag (fun k:Nat=>k<=outs.length) (fun k=>⟨[(0, .d (tX g f)),(1,eN x),(15, .d (sI outs)),(16,eN outs.length),(17,eN k),(6, .ref 38)], [(38, .tip 92 3 (((outs.take k).map (gM g x)).map rT))]⟩) (fun k=>outs.length - k) 0 (by omega) ?_ ?_
  ·refine Le.of ?_ ?_<;>simp[go_sem,simprocAttr,cm,hb0,tX]
  unfold tX
  rintro k hk
  rcases adj k outs.length with hlt|hge
  ·have hb:decide ((k:Int)<(outs.length:Int))=true:=ac6 (by omega)
   have dw:=uS (f:=gM g x) (d:=0) hlt
   have Wx:=ho _ (az (d:=0) hlt)
   have hlk:(outs.take k).length=k:=by simp;omega
   repeat' (first|refine Rn.p ?_|((first|refine Rs.p ?_|with_reducible intro K hK|(refine hK _ ?_;clear hK K));try simp only[go_sem,simprocAttr,cm,hb,hlk])|with_reducible (apply And.intro)|omega)
   refine⟨k+1,by omega, ?_,by omega⟩
   refine Le.of ?_ ?_<;>simp[go_sem,simprocAttr,cm,hb,hlk,dw,gM]
  ·have hb:decide ((k:Int)<(outs.length:Int))=false:=ac5 (by omega)
   obtain rfl:k=outs.length:=by omega
   have ht:outs.take outs.length=outs:=adB (by omega)
   repeat' (first|refine Rn.p ?_|((first|refine Rs.p ?_|with_reducible intro K hK|(refine hK _ ?_;clear hK K));try simp only[go_sem,simprocAttr,cm,hb,ht]))
def wN(g:Gr)(f:Fr):List (Nat × AObj):= [(10000, .box [.d (sT f.row), .d (vw g), .ref 10001]),(10001, .tip 3 1 (f.pl.map rI))]
theorem EL(row items:List It)(a b:Nat)(h0:0<items.length)(hr:row.length<=400000)(hi:items.length<=100000):Spec Tryz.prog 191 (Args [.d (.sl 1 [[.sl 3 (List.take a (row.map rT))], [.sl 3 (items.map rT)], [.sl 3 (List.drop b (row.map rT))]])]) [] (.d (sT (row.take a++items++row.drop b))) []:=by
 have hf: [row.take a,items,row.drop b].flatten=row.take a++items++row.drop b:=by simp
 have hlen: [row.take a,items,row.drop b].flatten.length=min a row.length+items.length+(row.length - b):=by simp;omega
 have:=EK [row.take a,items,row.drop b] (by simp) (by omega) (by omega)
 rw[hf]at this
 simpa only[vT,adC,adO,sT,aeu,aeL]using this
theorem MQ(g:Gr)(row items:List It)(pl:List Int)(a b:Nat)(hab:a<=b)(hb:b<=row.length)(h0:0<items.length)(hr:row.length<=400000)(hi:items.length<=100000):
 Spec Tryz.prog 140 (Args [.ptr 10000 0,eN a,eN b, .ref 10003]) (wN g ⟨row,pl⟩++ [(10003, .tip 92 3 (items.map rT))]) (.d (sT ((row.take b).drop a))) (wN g ⟨row.take a++items++row.drop b,pl⟩):=by
 have hcl:((row.take b).drop a).length<=1000000:=by simp;omega
 have Db:List.take row.length (row.map rT)=row.map rT:=adB (by simp)
 unfold wN
 simp only[List.cons_append,List.nil_append]
 (refine T.h [] [] [.t 8] Tryz.func140 rfl rfl (by kernel_rfl) fun X hX hP hC aA bB=> ?_)
 repeat' (first|refine Rn.p ?_|((first|refine Rs.p ?_|with_reducible intro K hK|(refine hK _ ?_;clear hK K)|(refine aS [(10000,17)] (y4 ((row.take b).drop a) hcl) ?_ ?_;(focus(simp[go_sem,simprocAttr,aeu,aeL,Db];done)))|(refine dN (EL row items a b h0 hr hi) ?_ rfl ?_;(focus(simp only[go_sem,simprocAttr,aeu,aeL,Db];done))));try simp only[go_sem,simprocAttr,aeu,aeL,Db])|with_reducible (first|apply And.intro|refine oD (by kernel_rfl) ?_)|omega)
def EM(g:Gr)(f:Fr):List (Nat × AObj):= [(10000, .box [.d (sT f.row), .d (vw g), .ref 10002]),(10002, .tip 3 1 (f.pl.map rI))]
def nJ(g:Gr)(f:Fr)(x:Int)(outs:List Int):(List It × Int) × Fr:=
 if gh g f x=false then(([],3),f) else if lu outs≠bQ (·.1) g x then(([],1),f) else
 (((f.row.take (bH f.row x).2.1.toNat).drop (max (bH f.row x).1 0).toNat,0),⟨f.row.take (max (bH f.row x).1 0).toNat++aQ g x outs++f.row.drop (bH f.row x).2.1.toNat,f.pl++ [x]⟩)
theorem gA{f:Edge->Int}{es:List Edge}{k:Nat}{x i:Int}(h:i∈aJ f es k x):(0<=i/\i<k)/\f (es.getD i.toNat (0,0))=x:=by
 simp only[aJ,ada,adI,adk,adb]at h
 obtain⟨j,⟨h1,h2⟩,rfl⟩:=h
 exact⟨⟨Int.natCast_nonneg j,by simp;omega⟩,h2⟩
theorem Jb{f:Edge->Int}{g:Gr}{x i:Int}(h:i∈bQ f g x):(0<=i/\i<g.es.length)/\f (g.es.getD i.toNat (0,0))=x:=by
 unfold bQ at h
 split at h
 ·exact gA h
 ·cases h
theorem GI{l:List Int}{x:Int} :x∈lu l↔x∈l:=by simp[lu]
theorem Dc(row:List It)(x:Int):∃a b:Nat,max (bH row x).1 0=(a:Int)/\(bH row x).2.1=(b:Int)/\a<=b/\b<=row.length:=by
 rcases gX (row:=row) (x:=x) row.length with ⟨h,_⟩|⟨a,b,c,h,h1,h2,_⟩
 ·exact⟨0,0,by unfold bH;rw[h];rfl,by unfold bH;rw[h];rfl,by omega,by omega⟩
 ·exact⟨a,b,by unfold bH;rw[h];simp only;omega,by unfold bH;rw[h],by omega,by omega⟩
theorem uT{g:Gr}{x:Int}{outs:List Int} :0<(aQ g x outs).length/\(aQ g x outs).length<=outs.length+1:=by
 unfold aQ
 split
 ·simp
 ·rename_i h
  have:=ae6.2 h
  simp;omega
theorem Jc(g:Gr)(hm:aM g=true)(f:Fr)(x:Int)(outs:List Int)(hr:f.row.length<=300000)(hp:f.pl.length<=100000)(ho:outs.length<=17592186043904):
 Spec Tryz.prog 89 (Args [.ptr 10000 0,eN x, .d (sI outs)]) (wN g f) (.tup [.d (sT (nJ g f x outs).1.1),eN (nJ g f x outs).1.2]) (EM g (nJ g f x outs).2):=by
 have uu:f.row.length<=1000000:=by omega
 have hp1:f.pl.length<=1000000:=by omega
 have hs:(lu outs).length<=9223372036854775807:=by rw[iH];omega
 have hn:=aB hm
 cases hR:gh g f x with
 |false=>
  have hP:nJ g f x outs=(([],3),f):=ac9 hR
  rw[hP]
  unfold wN EM
  (refine T.hR [] [] [.t 6, .t 7] [(10002,10001)] Tryz.func89 rfl rfl (by kernel_rfl) fun X hX hP hC aA bB=> ?_)
  repeat' (first|refine Rn.p ?_|((first|refine Rs.p ?_|with_reducible intro K hK|(refine hK _ ?_;clear hK K)|(refine cr (pT g hm f x uu hp1) ?_ ?_ ?_;iterate 2 (focus(simp only[go_sem,simprocAttr,hR,tX];done))));try simp only[go_sem,simprocAttr,hR,tX]))
 |true=>
 have Ze:¬gh g f x=false:=by rw[hR];simp
 by_cases hE:¬lu outs=bQ (·.1) g x
 ·have hb1:decide (lu outs=bQ (·.1) g x)=false:=ac5 hE
  have hP:nJ g f x outs=(([],1),f):=by unfold nJ;rw[ac7 Ze,ac9 hE]
  rw[hP]
  unfold wN EM
  (refine T.hR [] [] [.t 6, .t 7] [(10002,10001)] Tryz.func89 rfl rfl (by kernel_rfl) fun X hX hP hC aA bB=> ?_)
  repeat' (first|refine Rn.p ?_|((first|refine Rs.p ?_|with_reducible intro K hK|(refine hK _ ?_;clear hK K)|(refine cr (pT g hm f x uu hp1) ?_ ?_ ?_;iterate 2 (focus(simp only[go_sem,simprocAttr,hR,hb1,tX];done)))|(refine aS [(10000,16)] (kg outs) ?_ ?_;(focus(simp[go_sem,simprocAttr,hR,hb1,tX];done)))|(refine bw [(10000,16)] (jo outs ho) ?_ ?_;(focus(simp[go_sem,simprocAttr,hR,hb1,tX];done)))|refine aa (sM g hm x) rfl ?_|refine aa (ki (lu outs) (bQ (·.1) g x) hs) rfl ?_);try simp only[go_sem,simprocAttr,hR,hb1,tX])|with_reducible (refine oD (by kernel_rfl) ?_))
 rw[afI]at hE
 have hb1:decide (lu outs=bQ (·.1) g x)=true:=ac6 hE
 have hP:nJ g f x outs=(((f.row.take (bH f.row x).2.1.toNat).drop (max (bH f.row x).1 0).toNat,0),⟨f.row.take (max (bH f.row x).1 0).toNat++aQ g x outs++f.row.drop (bH f.row x).2.1.toNat,f.pl++ [x]⟩):=by
  unfold nJ;rw[ac7 Ze,ac7 (by rw[hE];simp)]
 rw[hP]
 obtain⟨a,b,ha,hb,hab,Ct⟩:=Dc f.row x
 rw[ha,hb]
 simp only[Int.toNat_natCast]
 have Ax:outs.length<=128:=by
  have h1:=congrArg List.length hE
  rw[iH]at h1
  have h2:=I9 (f:=(·.1)) (g:=g) (x:=x)
  omega
 have VC:∀i∈outs,0<=i/\i<g.es.length:=fun i hi=>(Jb (f:=(·.1)) (g:=g) (x:=x) (by rw[<- hE];exact GI.2 hi)).1
 obtain⟨h0,h1⟩:=uT (g:=g) (x:=x) (outs:=outs)
 have y6:(aQ g x outs).length<=100000:=by omega
 have tQ:f.row.length<=400000:=by omega
 have aaW:outs.length<=1000000:=by omega
 unfold wN EM
 (refine T.hR [] [] [.t 6, .t 7] [(10002,42)] Tryz.func89 rfl rfl (by kernel_rfl) fun X hX hP hC aA bB=> ?_)
 repeat' (first|refine Rn.p ?_|((first|refine Rs.p ?_|with_reducible intro K hK|(refine hK _ ?_;clear hK K)|(refine cr (pT g hm f x uu hp1) ?_ ?_ ?_;iterate 2 (focus(simp only[go_sem,simprocAttr,hR,hb1,ha,hb,tX,adn,ads,adC,adO,rI,wN,List.cons_append,List.nil_append,aeu,aeL];done)))|(refine aS [(10000,16)] (kg outs) ?_ ?_;(focus(simp[go_sem,simprocAttr,hR,hb1,ha,hb,tX,adn,ads,adC,adO,rI,wN,List.cons_append,List.nil_append,aeu,aeL];done)))|(refine bw [(10000,16)] (jo outs ho) ?_ ?_;(focus(simp[go_sem,simprocAttr,hR,hb1,ha,hb,tX,adn,ads,adC,adO,rI,wN,List.cons_append,List.nil_append,aeu,aeL];done)))|refine aa (sM g hm x) rfl ?_|refine aa (ki (lu outs) (bQ (·.1) g x) hs) rfl ?_|(refine cr (sN [vw g,sI f.pl] f.row x uu) ?_ ?_ ?_;iterate 2 (focus(simp only[go_sem,simprocAttr,hR,hb1,ha,hb,tX,adn,ads,adC,adO,rI,wN,List.cons_append,List.nil_append,aeu,aeL];done)))|(refine qI 54 (Ja g ⟨f.row,f.pl++ [x]⟩ x outs aaW VC) ?_ (by first|exact tV|exact tW|exact tY|exact wO) rfl (by decide) ?_;(focus(simp only[go_sem,simprocAttr,hR,hb1,ha,hb,tX,adn,ads,adC,adO,rI,wN,List.cons_append,List.nil_append,aeu,aeL];done)))|(refine aS [(10001,42),(10003,54)] (MQ g f.row (aQ g x outs) (f.pl++ [x]) a b hab Ct h0 tQ y6) ?_ ?_;(focus(simp[go_sem,simprocAttr,hR,hb1,ha,hb,tX,adn,ads,adC,adO,rI,wN,List.cons_append,List.nil_append,aeu,aeL];done))));try simp only[go_sem,simprocAttr,hR,hb1,ha,hb,tX,adn,ads,adC,adO,rI,wN,List.cons_append,List.nil_append,aeu,aeL])|with_reducible (first|apply And.intro|refine oD (by kernel_rfl) ?_)|omega)
def nK(g:Gr)(f:Fr)(k:Nat):List Int:=((List.range k).filter fun x:Nat=>gh g f (x:Int)).map Int.ofNat
def gQ(g:Gr)(f:Fr):List Int:=nK g f g.n.toNat
theorem GJ{g:Gr}{f:Fr}{k:Nat} :nK g f (k+1)=nK g f k++if gh g f (k:Int)=true then [(k:Int)] else []:=by
 simp only[nK,adV,ad8,ads,aeD,List.filter_nil]
 split<;>simp_all
theorem Bv{g:Gr}{f:Fr}{k:Nat} :(nK g f k).length<=k:=by
 simpa[nK]using aeH (fun x:Nat=>gh g f (x:Int)) (List.range k)
theorem GK(g:Gr)(hm:aM g=true)(f:Fr)(hr:f.row.length<=1000000)(hp:f.pl.length<=1000000):Spec Tryz.prog 155 (Args [.d (tX g f)]) [] (.ref 10000) [(10000, .tip 3 1 ((gQ g f).map rI))]:=by
 have hn:=aB hm
 unfold tX
 (refine T.hR [] [] [.t 2] [(10000,21)] Tryz.func155 rfl rfl (by kernel_rfl) fun X hX hP hC aA bB=> ?_)
 repeat' (first|refine Rn.p ?_|((first|refine Rs.p ?_|with_reducible intro K hK|(refine hK _ ?_;clear hK K));try simp only[go_sem,simprocAttr,cm]))
 (refine dQ hX 2 21 (.tip 3 1 []) (by simp only[go_sem,simprocAttr,cm]) (by simp only[go_sem,simprocAttr,cm]) (by decide) ⟨3,1,by decide, .inr rfl⟩ ?_;simp only[go_sem,simprocAttr,cm])
 refine ag (fun k:Nat=>k<=g.n.toNat) (fun k=>⟨[(0, .d (tX g f)),(11,eN g.n),(12,eN k),(2, .ref 21)], [(21, .tip 3 1 ((nK g f k).map rI))]⟩) (fun k=>g.n.toNat - k) 0 (by omega) ?_ ?_
 ·refine Le.of ?_ ?_<;>simp[go_sem,simprocAttr,cm,tX,nK]
 rintro k hk
 rcases adj k g.n.toNat with hlt|hge
 ·have hb:decide ((k:Int)<g.n)=true:=ac6 (by omega)
  have dw:=GJ (g:=g) (f:=f) (k:=k)
  have hlk:=Bv (g:=g) (f:=f) (k:=k)
  repeat' (first|refine Rn.p ?_|((first|refine Rs.p ?_|with_reducible intro K hK|(refine hK _ ?_;clear hK K)|refine aa (pT g hm f (k:Int) hr hp) rfl ?_);try simp only[go_sem,simprocAttr,hb])|with_reducible (first|apply And.intro|(intro h;try simp only[go_sem,simprocAttr,hb]at h))|omega)
  ·rw[ac9 (by assumption)]at dw
   refine⟨k+1,by omega, ?_,by omega⟩
   refine Le.of ?_ ?_<;>simp[go_sem,simprocAttr,hb,dw,rI]
  ·rw[ac7 (by simp[*]),ad4]at dw
   refine⟨k+1,by omega, ?_,by omega⟩
   refine Le.of ?_ ?_<;>simp[go_sem,simprocAttr,hb,dw,rI]
 ·have hb:decide ((k:Int)<g.n)=false:=ac5 (by omega)
  obtain rfl:k=g.n.toNat:=by omega
  repeat' (first|refine Rn.p ?_|((first|refine Rs.p ?_|with_reducible intro K hK|(refine hK _ ?_;clear hK K));try simp only[go_sem,simprocAttr,hb,gQ]))
theorem yc(g:Gr)(hl:g.es.length<=1000)(h0:(bX g).1=0)(hm:aM g=true):Spec Tryz.prog 87 (Args [eG g]) [] (.tup [.ptr 10000 0,eN 0]) [(10000, .box [.nil 92, .d (vw g), .nil 3])]:=by
 (refine T.hR [] [] [.t 2, .t 3] [(10000,11)] Tryz.func87 rfl rfl (by kernel_rfl) fun X hX hP hC aA bB=> ?_)
 repeat' (first|refine Rn.p ?_|((first|refine Rs.p ?_|with_reducible intro K hK|(refine hK _ ?_;clear hK K)|refine aa (iE g hl) rfl ?_|refine aa (sx g hm) rfl ?_);try simp only[go_sem,simprocAttr,h0]))
theorem MR(g:Gr)(hl:g.es.length<=1000)(h0:(bX g).1≠0):Spec Tryz.prog 87 (Args [eG g]) [] (.tup [.d (.sc (.pointer none)),eN 1]) []:=by
 have hb:decide ((bX g).1=0)=false:=ac5 h0
 (refine T.h [] [] [.t 2, .t 3] Tryz.func87 rfl rfl (by kernel_rfl) fun X hX hP hC aA bB=> ?_)
 repeat' (first|refine Rn.p ?_|((first|refine Rs.p ?_|with_reducible intro K hK|(refine hK _ ?_;clear hK K)|refine aa (iE g hl) rfl ?_);try simp only[go_sem,simprocAttr,hb]))
def rfC(g:Gr)(f:Fr):List AV:= [eN g.n, .d (sE g.es), .d (sT f.row), .d (sI f.pl)]
def kP(row:List It)(x:Int):Nat->Int
 |0=>0
 |k+1=>if(row.getD k (0,0,0)).2.2=x then kP row x k+1 else kP row x k
theorem jN{row:List It}{x:Int}{k:Nat} :kP row x (k+1)=if(row.getD k (0,0,0)).2.2=x then kP row x k+1 else kP row x k:=rfl
def P7(row:List It)(x:Int)(need:Nat)(j:Nat):Bool:=decide ((row.getD j (0,0,0)).2.2≠x)&&decide (0<=(row.getD j (0,0,0)).1)&&decide (0<kP row x j)&&decide (kP row x j<need)
theorem Dd{row:List It}{x:Int}{need j:Nat} :P7 row x need j=true↔((row.getD j (0,0,0)).2.2≠x/\0<=(row.getD j (0,0,0)).1)/\0<kP row x j/\kP row x j<need:=by
 simp only[P7,adf,adb,and_assoc]
def aV(g:Gr)(x:Int):Nat:=(aJ (·.2) g.es g.es.length x).length
def au(g:Gr)(f:Fr)(x:Int):Bool:=
 if x<0\/g.n<=x\/x∈f.pl then false else if aV g x=0 then true else
 !(List.range f.row.length).any (P7 f.row x (aV g x))&&decide (kP f.row x f.row.length=aV g x)
def b8(g:Gr)(x:Int):List Int:=aJ (·.1) g.es g.es.length x
def aC(g:Gr)(f:Fr)(x:Int)(outs:List Int):(List It × Int) × Fr:=
 (((f.row.take (bH f.row x).2.1.toNat).drop (max (bH f.row x).1 0).toNat,0),⟨f.row.take (max (bH f.row x).1 0).toNat++aQ g x outs++f.row.drop (bH f.row x).2.1.toNat,f.pl++ [x]⟩)
def jq(g:Gr)(f:Fr)(x:Int)(outs:List Int):(List It × Int) × Fr:=
 if au g f x=false then(([],3),f) else
 if outs.length≠(b8 g x).length\/∃i∈b8 g x,i∉outs then(([],1),f) else aC g f x outs
theorem b7{f:Edge->Int}{es:List Edge}{k:Nat}{x:Int} :(aJ f es k x).Nodup:=by
 unfold aJ
 exact aex _ (fun a b h e=>h (afo e)) (agG _ afV)
theorem Jd:∀ {ms os:List Int},ms.Nodup->(∀i∈ms,i∈os)->os.length=ms.length->∀i∈os,i∈ms
 | [],os,_,_,hl,i,hi=>by
   have:os= []:=adE (by simpa using hl)
   rw[this]at hi;exact hi
 |m::ms,os,hn,hs,hl,i,hi=>by
  rw[ad5]at hn
  have hm:=hs m (adH ..)
  by_cases h:i=m
  ·rw[h];exact adH ..
  ·refine adz _ (Jd hn.2 (os:=os.erase m) (fun j hj=> ?_) ?_ i ?_)
   ·have:j≠m:=fun e=>hn.1 (e ▸ hj)
    exact(afO this).2 (hs j (adz _ hj))
   ·rw[afW hm,hl];simp
   ·exact(afO h).2 hi
theorem P8{g:Gr}{x:Int} :(b8 g x).length<=g.es.length:=iU
def vI(ls:List (List Int)):List (List D):=ls.map fun l=> [sI l]
theorem vI_length{ls:List (List Int)} :(vI ls).length=ls.length:=by simp[vI]
theorem jr{ls:List (List Int)}{k:Nat}(h:k<ls.length)(d:List D):(vI ls).getD k d= [sI (ls.getD k [])]:=by
 simp[vI,aas,acF h]
attribute [go_sem] vI_length
def KL(l:List Int)(i:Nat):List Int:=l.take i++l.drop (i+1)
def SN:Nat->List Int->List (List Int)
 |0,_=> [[]]
 |n+1,l=>(List.range l.length).flatMap fun i=>(SN n (KL l i)).map fun t=>l.getD i 0::t
def acG(n:Nat)(l:List Int)(k:Nat):List (List Int):=(List.range k).flatMap fun i=>(SN n (KL l i)).map fun t=>l.getD i 0::t
def fac:Nat->Nat
 |0=>1
 |n+1=>(n+1)*fac n
def X3(g:Gr):Nat->Fr->Bool
 |0,f=>decide ((f.pl.length:Int)=g.n)
 |m+1,f=>decide ((f.pl.length:Int)=g.n)||(List.range g.n.toNat).any fun x=>au g f (x:Int)&&(SN (b8 g (x:Int)).length (b8 g (x:Int))).any fun o=>X3 g m (aC g f (x:Int) o).2
def acH(g:Gr)(m:Nat)(f:Fr)(x:Nat):Bool:=au g f (x:Int)&&(SN (b8 g (x:Int)).length (b8 g (x:Int))).any fun o=>X3 g m (aC g f (x:Int) o).2
theorem De{g:Gr}{f:Fr}{x:Int}{o:List Int} :(aC g f x o).2.row.length<=f.row.length+o.length+1/\(aC g f x o).2.pl.length=f.pl.length+1:=by
 obtain⟨a,b,ha,hb,hab,Ct⟩:=Dc f.row x
 have:=uT (g:=g) (x:=x) (outs:=o)
 have e:aC g f x o=(((f.row.take b).drop a,0),⟨f.row.take a++aQ g x o++f.row.drop b,f.pl++ [x]⟩):=by
  simp only[aC,ha,hb,Int.toNat_natCast]
 rw[e]
 refine⟨?_,by simp⟩
 show(f.row.take a++aQ g x o++f.row.drop b).length<=_
 rw[adi,adi,adG,aeC]
 omega
def g9:Gr:=⟨3, [(0,1),(0,2),(1,2)]⟩
def fr0:Fr:=⟨[], []⟩
def fr1:Fr:=⟨[(0,0,1),(1,0,2)], [0]⟩
def fr2:Fr:=⟨[(2,1,2),(1,0,2)], [0,1]⟩
def fr3:Fr:=⟨[(-1,2, -1)], [0,1,2]⟩
end Go.Ab
end
