/- A part of the proof. -/
import Derived.RangeFuncBox
import Derived.RangeFuncLeaves
import Derived.Shelf.Abstract
import Derived.WalkKit
import Derived.OwnWalkIn
import Derived.TacticsInMore
import Derived.LoopNIn
import Derived.LoopIn
import Derived.Maps.AppendAt
import Derived.Sort.OwnSortedInts
import Derived.Test.YtameldglfobjkaaGreatL4P14
set_option linter.unusedSimpArgs false
set_option linter.unusedVariables false
section
namespace Go.Ab
open Go.Proofs Go.RowKit Go.Shelf Go.Sort
attribute [local go_sem] Oper.semAt_some
def upto {α:Type} (f:Nat→α) (k:Nat):List α:=(List.range k).map f
theorem tW {α:Type} (f:Nat→α) (k:Nat):upto f (k+1)=upto f k++ [f k]:=by simp [upto,List.range_succ]
theorem xE {α:Type} (f:Nat→α) (k:Nat):(upto f k).length=k:=by simp [upto]
theorem Dy (zs:List Int):upto (fun j=>zs[j]?.getD 0) zs.length=zs:=by
 apply List.ext_getElem
 ·simp [upto]
 ·intro i h1 h2
  simp [upto,h2]
theorem Bo (zs:List Int) {k:Nat} (hk:k≤zs.length):upto (fun j=>zs[j]?.getD 0) k=zs.take k:=by
 apply List.ext_getElem
 ·simp [upto,hk]
 ·intro i h1 h2
  have:i<zs.length:=by simp [upto] at h1;omega
  simp [upto,this]
set_option maxRecDepth 100000 in
set_option maxHeartbeats 2000000 in
theorem yV (F:Fence) (n:Nat) (h7:F.fn 189) (hro:F.round=none) (hn:1≤n) (l Bs n₀ b off len cap:Nat) (zs:List Int) (je:len*8≤140737488351232) (hb:b<n₀) (J Jx:List Int→World→Prop)
 (hY:∀pre x W,J pre W→pre.length<len→YieldAt F (n - 1) Tryz.prog l #[.int .i64 x] W fun e W'=>
   (e= .returned (.bool true)∧J (pre++ [x]) W'∧Below n₀ W W')∨(e= .returned (.bool false)∧Jx (pre++ [x]) W'))
 (W:World) (Dz:W.cell? ⟨Bs,0,none⟩=some (.slice (some ⟨b,off,none⟩) len cap)) (hc:∀j,j<len→W.cell? ⟨b,off+j,none⟩=some (.int .i64 (zs[j]?.getD 0))) (h0:J [] W):
 CallsIn F n Tryz.prog 189 #[.func (.yield l) #[] #[], .pointer (some ⟨Bs,0,none⟩)] W fun e W'=>(∃v,e= .returned v)∧
  ((∃ys,ys=upto (fun j=>zs[j]?.getD 0) len∧J ys W')∨(∃pre,(∃k,k≤len∧pre=upto (fun j=>zs[j]?.getD 0) k)∧Jx pre W')):=by
 refine callsIn_of_wp Tryz.func189 rfl h7 ?_ hro
 simp only [Tryz.ntmps189,List.size_toArray,List.length_cons,List.length_nil,Nat.reduceAdd,Nat.reduceSub,Array.replicate_succ,Array.replicate_zero,List.push_toArray,List.append_toArray,List.nil_append,List.cons_append]
 gi_wp2
 gi_loopw [7] (fun i wr=>∃k:Nat,k≤len∧i= .int .i64 k∧J (upto (fun j=>zs[j]?.getD 0) k) wr∧Below n₀ W wr)
  (fun i _=>len - (Go.Proofs.intOf i).toNat)
 case atStart=>exact ⟨0,Nat.zero_le _,rfl,h0,Below.refl _ _⟩
 case round=>
  obtain ⟨k,hk,rfl,Lc,dV⟩:=hrel
  have Oe:k<len→wr.cell? ⟨b,off+k,none⟩=some (.int .i64 (zs[k]?.getD 0)):=fun h=>(dV.cell (p:=⟨b,off+k,none⟩) hb).trans (hc k h)
  by_cases hlt:k<len
  ·obtain ⟨fn,tmps,assign,body,hy,hR⟩:=hY _ (zs[k]?.getD 0) wr Lc (by rw [xE];exact hlt)
   have PR:=Oe hlt
   gi_wp2
   refine hR.mono ?_
   rintro e W3 (⟨rfl,Nc,Kk⟩|⟨rfl,Nd⟩)
   ·gi_wp2
    go_roundw
    case rel=>exact ⟨k+1,by omega,by simp,by rw [tW];exact Nc,dV.trans Kk⟩
    case measure=>simp [Go.Proofs.intOf];omega
   ·gi_wp2
    refine bodyPost_ret (results_none rfl _ _ _) rfl ?_
    exact ⟨⟨_,rfl⟩, .inr ⟨_,⟨k+1,by omega,(tW _ _).symm⟩,Nd⟩⟩
  ·obtain rfl:k=len:=by omega
   gi_wp2
   go_end0
   exact ⟨⟨_,rfl⟩, .inl ⟨_,rfl,Lc⟩⟩
def Ints (n₀:Nat) (W:World) (sv:Value) (zs:List Int):Prop:=
 (∃p c,sv= .slice p 0 c∧zs= [])∨∃b off cap,sv= .slice (some ⟨b,off,none⟩) zs.length cap∧b<n₀∧∀j,j<zs.length→W.cell? ⟨b,off+j,none⟩=some (.int .i64 (zs[j]?.getD 0))
theorem Ints.below {n₀:Nat} {A B:World} (h:Below n₀ A B) {sv:Value} {zs:List Int} :Ints n₀ A sv zs→Ints n₀ B sv zs
 | .inl e=> .inl e
 | .inr ⟨b,off,cap,e,hb,hc⟩=> .inr ⟨b,off,cap,e,hb,fun j hj=>(h.cell (p:=⟨b,off+j,none⟩) hb).trans (hc j hj)⟩
set_option maxRecDepth 100000 in
set_option maxHeartbeats 1000000 in
theorem sr (F:Fence) (n:Nat) (h7:F.fn 189) (hro:F.round=none) (l Bs:Nat) (p:Option Addr) (c:Nat) (J:List Int→World→Prop) (W:World) (Dz:W.cell? ⟨Bs,0,none⟩=some (.slice p 0 c)) (h0:J [] W):
 CallsIn F n Tryz.prog 189 #[.func (.yield l) #[] #[], .pointer (some ⟨Bs,0,none⟩)] W fun e W'=>(∃v,e= .returned v)∧J [] W':=by
 refine callsIn_of_wp Tryz.func189 rfl h7 ?_ hro
 simp only [Tryz.ntmps189,List.size_toArray,List.length_cons,List.length_nil,Nat.reduceAdd,Nat.reduceSub,Array.replicate_succ,Array.replicate_zero,List.push_toArray,List.append_toArray,List.nil_append,List.cons_append]
 gi_wp2
 gi_loopw [7] (fun i wr=>i= .int .i64 0∧J [] wr) (fun _ _=>0)
 case atStart=>exact ⟨rfl,h0⟩
 case round=>
  obtain ⟨rfl,Lc⟩:=hrel
  gi_wp2
  go_end0
  exact ⟨⟨_,rfl⟩,Lc⟩
theorem vk (F:Fence) (n:Nat) (h7:F.fn 189) (hro:F.round=none) (hn:1≤n) (Bs n₀:Nat) (sv:Value) (zs:List Int) (je:zs.length*8≤140737488351232) (w:World) (Dz:Bs<w.heap.size) (hn₀:n₀≤w.heap.size)
 (hc:w.cell? ⟨Bs,0,none⟩=some sv) (hI:Ints n₀ w sv zs):
 SeqStopsK F n Tryz.prog 189 #[.pointer (some ⟨Bs,0,none⟩)] (fun x:Int=> #[Value.int .i64 x]) (Below n₀) (fun ys=>ys=zs) (fun pre=>pre<+:zs) zs.length w:=fun l J Jx W hW _ _ hY h0=>by
 have yF:=(hW.cell (p:=⟨Bs,0,none⟩) Dz).trans hc
 rcases hI.below (hW.mono hn₀) with ⟨p,c,rfl,rfl⟩|⟨b,off,cap,rfl,hb,hcs⟩
 ·exact (sr F n h7 hro l Bs p c J W yF h0).mono fun e W' ⟨he,hj⟩=>⟨he, .inl ⟨_,rfl,hj⟩⟩
 ·refine (yV F n h7 hro hn l Bs n₀ b off zs.length cap zs je hb J Jx hY W yF hcs h0).mono ?_
  rintro e W' ⟨he,⟨ys,rfl,hj⟩|⟨pre,⟨k,hk,rfl⟩,hj⟩⟩
  ·exact ⟨he, .inl ⟨_,Dy zs,hj⟩⟩
  ·exact ⟨he, .inr ⟨_,by rw [Bo zs hk];exact List.take_prefix _ _,hj⟩⟩
theorem FL:(Tryz.prog.info? 3).map (fun i=>(i.zero,i.size,i.bytes))=some (some (.int .i64 0),1,8):=by kernel_rfl
set_option maxRecDepth 100000 in
set_option maxHeartbeats 2000000 in
theorem vl (F:Fence) (n:Nat) (h3:F.fn 203) (h5:F.fn 189) (hro:F.round=none) (hn:3≤n) (Bs:Nat) (sv:Value) (zs:List Int) (je:zs.length*8≤140737488351232) (w:World) (Dz:Bs<w.heap.size)
 (hcs:w.cell? ⟨Bs,0,none⟩=some sv) (hI:Ints w.heap.size w sv zs):
 CallsIn F n Tryz.prog 203 #[.slice none 0 0, .func (.func 189) #[] #[.pointer (some ⟨Bs,0,none⟩)]] w fun e W'=>∃v,e= .returned v∧W'.ownsRow w.heap.size 3 1 v zs.length (zs.map (Value.int .i64))∧(v= .slice none 0 0↔zs= [])∧Below w.heap.size w W':=by
 have h1:1≤n:=by omega
 obtain ⟨i0,hi,Fp,FC,ES⟩:=info_parts FL
 refine callsIn_of_wp_marks Tryz.func203 rfl h3 ?_ hro
 simp only [Tryz.ntmps203,List.size_toArray,List.length_cons,List.length_nil,Nat.reduceAdd,Nat.reduceSub,Array.replicate_succ,Array.replicate_zero,List.push_toArray,List.append_toArray,List.nil_append,List.cons_append]
 gi_wp2
 have bO:=Boxed.new w 25 (.slice none 0 0)
 have Kl:Below w.heap.size w (w.alloc (.cells #[.slice none 0 0] 25)):=(Below.refl _ w).alloc (Nat.le_refl _) _
 refine wpIn_rangeFunc_ownG hro h1 (gf:=189) (lb:= #[.pointer (some ⟨Bs,0,none⟩)]) rfl h5 (enters_of Tryz.func189 (by kernel_rfl) rfl)
  (vk F (n - 1) h5 hro (by omega) Bs w.heap.size sv zs je _ (by simp;omega) (by simp) ((Kl.cell (p:=⟨Bs,0,none⟩) Dz).trans hcs) (hI.below Kl)) belowK_t (belowK_b (by simp)) (Below.refl _ _) (fun _=>rfl)
  (fun pre W=>(∃v,Boxed W w.heap.size 25 v∧W.ownsRow w.heap.size 3 1 v pre.length (pre.map (Value.int .i64))∧(v= .slice none 0 0↔pre= []))∧Below w.heap.size w W)
  (fun _ _ _=>False)
  (OwnFrom.and (Own.from (holdsRow_own w.heap.size w.heap.size 25 3 1 (fun pre=>pre.length) (fun pre=>pre.map (Value.int .i64)) (fun pre v=>v= .slice none 0 0↔pre= [])) _) (ownFrom_below (Nat.le_refl _) (by simp)))
  (fun _ _ _ _ _ hs _ _=>hs)
  ⟨⟨_,bO,World.ownsRow_nil _ _ _ _,by simp⟩,Kl⟩
  (fun x=> {tmps:= #[.slice none 0 0, .func (.func 189) #[] #[.pointer (some ⟨Bs,0,none⟩)], .pointer (some ⟨w.heap.size,0,none⟩),undef, .slice none 0 0, .int .i64 x, .func (.func 189) #[] #[.pointer (some ⟨Bs,0,none⟩)], .int .i64 x,undef,undef,undef,undef,undef],defers:= []}) ?assign ?body ?done ?stop
 case assign=>
  intro l x W K hK
  gi_wp2
  exact hK
 case body=>
  rintro l pre x W ⟨⟨v,hv,hrow,qv⟩,hB⟩ hlt
  have hc:=hv.cell
  have hml:maxLen=9223372036854775807:=rfl
  gi_wp2_with (gi_at_builtin;refine wpListIn_append_own _ rfl _ _ 25 rfl w.heap.size 3 i0 (.int .i64 0) 1 8 Tryz.underlying25 hi Fp FC ES rfl (by decide) _ _ _ rfl (hrow.alloc _) ⟨W.heap.size,0,none⟩ 1 1 [.int .i64 x] rfl rfl (cell_one_new _ _ _) (by simp [Value.oneCell']) (by omega) (by omega) (by have:=hB.size;simp;omega) ?_;intro v' w1 hown' hgrow _;obtain ⟨g',cap',rfl⟩:=ownsRow_succ hown';obtain ⟨A7,ER,tK,hk2,an⟩:=hv.appended (by decide) hrow hB.size (Nat.le_refl _) hown' hgrow;have hc1:=A7.cell;have K9:=A7.frozen)
  exact ⟨hk2.from _,an,⟨_,ER,by simpa using tK,by simp⟩,hB.trans an⟩
 case done=>
  rintro D ys W hD rfl ⟨⟨v,hv,hrow,qv⟩,hB⟩ hK
  have hc:=hv.cell
  gi_wp2
  refine ⟨by simp, .inl ⟨_,_,rfl,run_takeDeferred hK, ?_⟩⟩
  exact ⟨_,results_tmp rfl _ _ _,v,rfl,ownsRow_putObj hrow _ hK rfl,qv,hB.trans (belowK_b (w:=w) (Nat.le_refl _) W D _ _ (by simp at hD;omega) hK rfl rfl)⟩
 case stop=>
  rintro D c pre W _ _ h _
  exact h.elim
set_option maxRecDepth 100000 in
set_option maxHeartbeats 2000000 in
theorem yW (F:Fence) (n:Nat) (h2:F.fn 187) (h3:F.fn 203) (h5:F.fn 189) (hro:F.round=none) (hn:4≤n) (Bs:Nat) (sv:Value) (zs:List Int) (je:zs.length*8≤140737488351232) (w:World) (Dz:Bs<w.heap.size)
 (hcs:w.cell? ⟨Bs,0,none⟩=some sv) (hI:Ints w.heap.size w sv zs):
 CallsIn F n Tryz.prog 187 #[.func (.func 189) #[] #[.pointer (some ⟨Bs,0,none⟩)]] w fun e W'=>∃v,e= .returned v∧W'.ownsRow w.heap.size 3 1 v zs.length (zs.map (Value.int .i64))∧(v= .slice none 0 0↔zs= [])∧Below w.heap.size w W':=by
 have h1:1≤n:=by omega
 refine callsIn_of_wp Tryz.func187 rfl h2 ?_ hro
 simp only [Tryz.ntmps187,List.size_toArray,List.length_cons,List.length_nil,Nat.reduceAdd,Nat.reduceSub,Array.replicate_succ,Array.replicate_zero,List.push_toArray,List.append_toArray,List.nil_append,List.cons_append]
 gi_wp2_with (gi_at_call 203;refine (vl F (n - 1) h3 h5 hro (by omega) Bs sv zs je _ Dz hcs hI).mono ?_;rintro e W ⟨v,rfl,hrow,qv,hb⟩)
 go_ret
 exact ⟨v,rfl,hrow,qv,hb⟩
def gG (l:List Int):List Int:=l.mergeSort fun x y=>decide (x≤y)
set_option maxRecDepth 100000 in
set_option maxHeartbeats 2000000 in
theorem Bp (F:Fence) (n:Nat) (B5:F.fn 136) (h2:F.fn 187) (h3:F.fn 203) (h5:F.fn 189) (h9:F.fn 188) (hro:F.round=none) (hn:5≤n)
 (hsort:∀(blk off cap:Nat) (ss:List Int) (W:World),Holds (Value.int .i64) W blk off ss.toArray→blk<W.heap.size→ss.length<4611686018427387904→
   CallsIn F (n - 1) Tryz.prog 188 #[.slice (some ⟨blk,off,none⟩) ss.length cap] W fun e w'=>e= .returned (.tuple #[])∧∃k os,w'=grow (putRow (Value.int .i64) (Sort.ahead W k) blk off (ss.mergeSort fun x y=>decide (x≤y)).toArray) os)
 (hnone:∀(p:Option Addr) (cap:Nat) (W:World),CallsIn F (n - 1) Tryz.prog 188 #[.slice p 0 cap] W fun e w'=>e= .returned (.tuple #[])∧w'=W) (Bs:Nat) (sv:Value) (zs:List Int) (je:zs.length*8≤140737488351232) (w:World) (Dz:Bs<w.heap.size)
 (hcs:w.cell? ⟨Bs,0,none⟩=some sv) (hI:Ints w.heap.size w sv zs):
 CallsIn F n Tryz.prog 136 #[.func (.func 189) #[] #[.pointer (some ⟨Bs,0,none⟩)]] w fun e W'=>∃v,e= .returned v∧W'.ownsRow w.heap.size 3 1 v zs.length ((gG zs).map (Value.int .i64))∧Below w.heap.size w W':=by
 have h1:1≤n:=by omega
 refine callsIn_of_wp Tryz.func136 rfl B5 ?_ hro
 simp only [Tryz.ntmps136,List.size_toArray,List.length_cons,List.length_nil,Nat.reduceAdd,Nat.reduceSub,Array.replicate_succ,Array.replicate_zero,List.push_toArray,List.append_toArray,List.nil_append,List.cons_append]
 gi_wp2_with (gi_at_call 187;refine (yW F (n - 1) h2 h3 h5 hro (by omega) Bs sv zs je _ Dz hcs hI).mono ?_;rintro e W ⟨v,rfl,hrow,qv,hb⟩)
 rcases hrow.2 with ⟨rfl,hz⟩|⟨gb,cap,cur,rfl,hbase,Nf,r1,r2,r3,r4⟩
 ·have PT:zs= []:=List.eq_nil_of_length_eq_zero hz
  subst PT
  have cS:=hnone none 0 W
  gi_wp2_with (gi_at_call 188;refine cS.mono ?_;rintro e w' ⟨rfl,rfl⟩)
  go_ret
  exact ⟨.slice none 0 0,rfl,by simpa [gG] using hrow,hb⟩
 ·have hH:Holds (Value.int .i64) W gb 0 zs.toArray:=holds_of_blockI Nf (by simpa using r4)
  have tF:gb<W.heap.size:=(Array.getElem?_eq_some_iff.1 Nf).1
  have hsz:zs.length<4611686018427387904:=by omega
  have cS:=hsort gb 0 cap zs W hH tF hsz
  gi_wp2_with (gi_at_call 188;refine cS.mono ?_;rintro e w' ⟨rfl,nn,os,rfl⟩)
  go_ret
  exact ⟨_,rfl,ownsRow_sortedI (by simp [gG]) hbase Nf r1 r2 r3,hb.grown (grownBy_sortedI _) hb.size (fun j hj=>by cases hj;exact hbase)⟩
theorem vm (Bs:Nat) (sv:Value) (zs:List Int) (je:zs.length*8≤140737488351232) (w:World) (Dz:Bs<w.heap.size)
 (hcs:w.cell? ⟨Bs,0,none⟩=some sv) (hI:Ints w.heap.size w sv zs):
 Calls Tryz.prog 136 #[.func (.func 189) #[] #[.pointer (some ⟨Bs,0,none⟩)]] w fun e W'=>∃v,e= .returned v∧W'.ownsRow w.heap.size 3 1 v zs.length ((gG zs).map (Value.int .i64))∧Below w.heap.size w W':=
 (callsIn_wide (n:=5)).1 (Bp Fence.wide 5 trivial trivial trivial trivial trivial rfl (Nat.le_refl _)
   (fun blk off cap ss W h1 h2 h3=>callsIn_wide.2 (AnyM.slices_Sort_int Tryz.GN blk off cap ss W h1 h2 h3))
   (fun p cap W=>callsIn_wide.2 (AnyM.slices_Sort_int_none Tryz.GN p cap W)) Bs sv zs je w Dz hcs hI)
end Go.Ab
end
section
namespace Go.Ab
open Go.Proofs Go.RowKit
attribute [local congr] ACall.congr gd.congr Nx.congr
set_option maxRecDepth 10000
def GO (E:Env) (w w':World):Env:=⟨E.ρ,E.σ,fun b=>if b<w.heap.size then E.z b else cU w' b⟩
theorem yX {m:List (Nat × AObj)} {E:Env} {w w':World} (hg:Good m E w) (hb:Below w.heap.size w w'):aH w E.z w' (GO E w w').z:=by
 intro b
 by_cases h:b<w.heap.size
 ·exact ⟨by simp [GO,h],fun o _=>hb.cell (p:=⟨b,o,none⟩) h⟩
 ·have h0:=hg.fresh b (by omega)
  exact ⟨by rw [h0];exact Nat.zero_le _,fun o ho=>by rw [h0] at ho;omega⟩
theorem Spec.DA {P:Program} {f:Nat} {A:Env→World→List Value→Prop} {m:List (Nat × AObj)} {res:AV} (hR:bA m) (hc:uV P f)
 (h:∀E w vals,Good m E w→A E w vals→Calls P f vals.toArray w fun e w'=>∃v,e= .returned v∧Below w.heap.size w w'∧bY w' (GO E w w') res v):Spec P f A m res m:=by
 refine ⟨hc,fun E w vals hg hA=>(h E w vals hg hA).mono ?_⟩
 rintro e w' ⟨v,rfl,hb,hv⟩
 have hst:=yX hg hb
 have kQ:∀ {l o},bE m l=some o→look m l=some o:=fun hl=>(fJ (fun p hp=>hR.nest p hp) hl).1
 have hro:∀ {l o},bE m l=some o→o.ro=true:=fun hl=>hR.ro _ (aW (kQ hl))
 refine ⟨v,GO E w w',rfl,⟨hb.os,hb.tape,hb.output,hb.size,hst,fun b h1 _=>⟨hb.block b h1,by simp [GO,h1]⟩,fun _ _=>⟨rfl,rfl⟩⟩,⟨hg.low,hg.inj,fun l o hl=> ?_,fun b h1=> ?_⟩,fun l o b hl h1=> ?_,hv⟩
 ·have h0:=hg.iE l o hl
  have h1:=hro hl
  cases o<;>simp only [AObj.ro] at h1<;>try cases h1
  obtain ⟨b,vs,e,g1,g2,g3,g4,g5⟩:=h0
  have hlt:b<w.heap.size:=(Array.getElem?_eq_some_iff.1 g2).1
  exact ⟨b,vs,e,g1,(hb.block b hlt).trans g2,by simp [GO,hlt,g3],AVrs.mono ⟨hst,fun _ _=>rfl,fun _ _=>rfl⟩ (fun _ _=>trivial) (live:=fun _=>True) g4,g5⟩
 ·simp only [GO,cU]
  rw [if_neg (by have:=hb.size;omega),Array.getElem?_eq_none h1]
 ·rw [hro hl] at h1;cases h1
theorem HT {w:World} {z:Nat→Nat} {v:Value} {x:Int} (h:Rd w z v (.sc (.int .i64 x))):v= .int .i64 x:=by cases h;rfl
theorem FM {w:World} {z:Nat→Nat} {v:Value} {l:List Int} (h:Rd w z v (sI l)):Ints w.heap.size w v l:=by
 generalize hx:sI l=x at h
 cases h with
 |sc v h=>cases hx
 |pt b off cells vs hz hc hr=>cases hx
 |nil p sz=>
  simp only [sI,D.sl.injEq,List.map_eq_nil_iff] at hx
  exact .inl ⟨p,0,rfl,hx.2⟩
 |sl b off n cap sz rows vs hn hsz hz hcap hc hr=>
  simp only [sI,D.sl.injEq] at hx
  obtain ⟨rfl,rfl⟩:=hx
  rw [List.length_map] at hn
  subst hn
  rcases Nat.eq_zero_or_pos l.length with h0|hpos
  ·exact .inl ⟨some ⟨b,off,none⟩,cap,by rw [h0],List.eq_nil_of_length_eq_zero h0⟩
  refine .inr ⟨b,off,cap,rfl, ?_,fun j hj=> ?_⟩
  ·have:=hc 0 (by omega)
   by_cases hlt:b<w.heap.size
   ·exact hlt
   ·exfalso
    simp [World.cell?,Array.getElem?_eq_none (Nat.le_of_not_lt hlt)] at this
  ·have h1:=hc j (by omega)
   have h2:=hr j 0 (rI l[j]) (.sc (.int .i64 l[j])) (by simp [List.getElem?_eq_getElem hj]) rfl
   have h3:=HT h2
   simp only [Nat.mul_one,Nat.add_zero] at h3
   rw [h1,h3]
   simp [List.getElem?_eq_getElem hj]
theorem Bq {w':World} {z:Nat→Nat} {base e:Nat} {v:Value} {l:List Int} (h:w'.ownsRow base e 1 v l.length (l.map (Value.int .i64))) (hz:∀b,base≤b→cU w' b≤z b):Rd w' z v (sI l):=by
 rcases h.2 with ⟨rfl,h0⟩|⟨g,cap,cur,rfl,h1,h2,h3,h4,h5,h6⟩
 ·have:l= []:=List.eq_nil_of_length_eq_zero h0
  subst this
  exact .nil _ _
 ·have PU:=hz g h1
  simp only [cU,h2] at PU
  refine .sl g 0 l.length cap 1 _ (fun k=> .int .i64 (l.getD k 0)) (by simp) (by simp [rI]) (by omega) h3 (fun k hk=> ?_) (fun i j r x hi hj=> ?_)
  ·have h7:(cur.toList.take (l.length*1))[k]? =(l.map (Value.int .i64))[k]? :=by rw [h6]
   rw [List.getElem?_take_of_lt hk,Array.getElem?_toList] at h7
   have ck:k<l.length:=by omega
   simp only [World.cell?,h2,Nat.zero_add,Option.isSome_none,Bool.false_eq_true,if_false,h7,List.getElem?_map,List.getElem?_eq_getElem ck,Option.map_some,List.getD_eq_getElem?_getD,Option.getD_some]
  ·rw [List.getElem?_map] at hi
   obtain ⟨y,hy,rfl⟩:=Option.map_eq_some_iff.1 hi
   cases j with
   |succ j=>simp [rI] at hj
   |zero=>
    simp only [rI,List.getElem?_cons_zero,Option.some.injEq] at hj
    subst hj
    simp only [Nat.mul_one,Nat.add_zero,List.getD_eq_getElem?_getD,hy,Option.getD_some]
    exact .sc _ rfl
theorem eH (l:List Int):(gG l).length=l.length:=by simp [gG]
theorem Ng (l:List Int):bA [(10000, .rob [.d (sI l)])]:=⟨by simp [AObj.ro],by simp [nodupM,look],by simp,by simp [AObj.ids,AV.ids,AV.idss]⟩
theorem cj (l:List Int) (hl:l.length≤17592186043904):Spec Tryz.prog 136 (Args [.fn 189 [] [.ptr 10000 0]]) [(10000, .rob [.d (sI l)])] (.d (sI (gG l))) [(10000, .rob [.d (sI l)])]:=by
 refine Spec.DA (Ng l) ⟨Tryz.f136,_,Tryz.func136,by kernel_rfl,rfl⟩ ?_
 intro E w vals hg hA
 obtain ⟨v,vs,rfl,h0,h3⟩:=hA
 obtain ⟨us,us',rfl,h1,h2⟩:=h0
 obtain ⟨u,Jo,rfl,h4,h5⟩:=h2
 obtain ⟨B,hB,rfl⟩:=h4
 simp only [AVrs] at h1 h5 h3
 subst h1 h5 h3
 obtain ⟨b,ws,e,g1,g2,g3,g4,g5⟩:=hg.iE 10000 (.rob [.d (sI l)]) rfl
 obtain rfl:b=B:=by rw [g1] at hB;exact Option.some.inj hB
 obtain ⟨sv,RB,rfl,g6,g7⟩:=g4
 simp only [AVrs] at g7
 subst g7
 have hlt:b<w.heap.size:=(Array.getElem?_eq_some_iff.1 g2).1
 refine (vm b sv l (by omega) w hlt (by simp [World.cell?,g2]) (FM g6)).mono ?_
 rintro e w' ⟨v,rfl,hrow,hb⟩
 refine ⟨v,rfl,hb, ?_⟩
 rw [← eH] at hrow
 exact Bq hrow fun b hb=>by simp only [GO];rw [if_neg (by omega)];exact Nat.le_refl _
end Go.Ab
end
section
namespace Go.Ab
open Go.Proofs
attribute [local congr] ACall.congr gd.congr Nx.congr
set_option maxRecDepth 10000
def RC (l:List Int) (k:Nat):Bool:=(List.range k).all fun i=>decide (l.getD i 0=(i:Int))
def FN (g:Gr) (names order:List Int) (k:Nat):List Edge:=(List.range k).map fun i=>(names.getD (g.es.getD (order.getD i 0).toNat (0,0)).1.toNat 0,names.getD (g.es.getD (order.getD i 0).toNat (0,0)).2.toNat 0)
def gA (g:Gr) (names order:List Int):Gr:=⟨g.n,FN g names order order.length⟩
theorem xF {g:Gr} {names order:List Int} {k:Nat} :(FN g names order k).length=k:=by simp [FN]
def Km (g:Gr) (names order:List Int):Bool:=aP g&&fF names g.n&&fF order g.es.length
def PV (g:Gr) (names order:List Int):Gr:=if Km g names order then gA g names order else ⟨0, []⟩
end Go.Ab
end
section
namespace Go.Ab
def Ed (g:Gr) (a b:Int):Prop:=∃i,i<g.es.length∧tl g i=a∧hd g i=b
def Ld (g:Gr) (l:List Int):Prop:=∀i,i<l.length→Ed g (l.getD i 0) (l.getD ((i+1) % l.length) 0)
def DB (g:Gr) (way:List Int) (at_:Int):Prop:=∀p,p<way.length→Ed g ((way++ [at_]).getD (p+1) 0) (way.getD p 0)
theorem pH {l:List Int} {a:Int} :(l++ [a]).getD l.length 0=a:=by
 rw [List.getD_eq_getElem?_getD,List.getElem?_append_right (Nat.le_refl _)];simp
theorem sw {g:Gr} (hm:aP g=true):∀(f:Nat) (way:List Int) (a:Nat),a<g.n.toNat→(a:Int)∉aI g→DB g way a→left g way≤f→
 DB g (kj g (cE g (aI g)) f way a).1 (kj g (cE g (aI g)) f way a).2∧0≤(kj g (cE g (aI g)) f way a).2∧(kj g (cE g (aI g)) f way a).2∈(kj g (cE g (aI g)) f way a).1
 |f,way,a,ha,hn,hc,hl=>by
  by_cases hmem:(a:Int)∈way
  ·rw [jG (.inr hmem)]
   exact ⟨hc,by simp only;omega,hmem⟩
  ·have hla:=ij ha hmem
   cases f with
   |zero=>omega
   |succ f=>
    obtain ⟨⟨i,hi,PW,B7,Ki⟩,_⟩:=sg hm (HQ hm ha hn)
    have htr:=bX hm hi
    rw [B7] at htr
    obtain ⟨b,Kj⟩:∃b:Nat,iP g (cE g (aI g)) a=b:=⟨(iP g (cE g (aI g)) a).toNat,by omega⟩
    rw [Kj] at Ki htr B7
    have e1:kj g (cE g (aI g)) (f+1) way a=kj g (cE g (aI g)) f (way++ [(a:Int)]) b:=by
     simp only [kj];rw [if_neg (by intro h;rcases h with h|h;omega;exact hmem h),Kj]
    rw [e1]
    refine sw hm f (way++ [(a:Int)]) b (by omega) Ki ?_ (by omega)
    intro p hp
    rw [List.length_append,List.length_singleton] at hp
    by_cases gw:p<way.length
    ·have:=hc p gw
     rw [lE (by simp;omega),lE gw]
     exact this
    ·have:p=way.length:=by omega
     subst this
     have e2:=pH (l:=way++ [(a:Int)]) (a:=(b:Int))
     rw [List.length_append,List.length_singleton] at e2
     rw [e2,pH]
     exact ⟨i,hi,B7,PW⟩
theorem pI {l:List Int} {k p:Nat} :(l.drop k).getD p 0=l.getD (k+p) 0:=by
 rw [List.getD_eq_getElem?_getD,List.getElem?_drop, ← List.getD_eq_getElem?_getD]
theorem Ld.FD {g:Gr} {l:List Int} (h:∀p,p<l.length→Ed g (l.getD ((p+1) % l.length) 0) (l.getD p 0)) (h0:0<l.length):Ld g (kL l.reverse):=by
 have Lb:0<l.reverse.length:=by simpa using h0
 obtain ⟨k,yy,hk2,_⟩:=dy (iq Lb)
 rw [List.length_reverse] at hk2
 have e1:kL l.reverse=l.reverse.drop k++l.reverse.take k:=by simp only [kL,yy,Int.toNat_natCast]
 have hlen:(kL l.reverse).length=l.length:=by rw [e1];simp;omega
 have hg:∀i,i<l.length→(kL l.reverse).getD i 0=l.getD (l.length - 1 - (i+k) % l.length) 0:=by
  intro i hi
  rw [e1,List.getD_eq_getElem?_getD]
  by_cases hik:i<l.length - k
  ·rw [List.getElem?_append_left (by simp;omega),List.getElem?_drop,List.getElem?_reverse (by omega),Nat.mod_eq_of_lt (by omega), ← List.getD_eq_getElem?_getD]
   congr 1;omega
  ·rw [List.getElem?_append_right (by simp;omega),List.length_drop,List.length_reverse,List.getElem?_take,if_pos (by omega),List.getElem?_reverse (by omega), ← List.getD_eq_getElem?_getD]
   have:(i+k) % l.length=i+k - l.length:=by rw [Nat.mod_eq_sub_mod (by omega),Nat.mod_eq_of_lt (by omega)]
   rw [this];congr 1;omega
 intro i hi
 rw [hlen] at hi ⊢
 rw [hg i hi,hg _ (Nat.mod_lt _ h0)]
 have hmm:((i+1) % l.length+k) % l.length=((i+k) % l.length+1) % l.length:=by
  rw [Nat.mod_add_mod,Nat.mod_add_mod];congr 1;omega
 rw [hmm]
 have hj:=Nat.mod_lt (i+k) h0
 generalize (i+k) % l.length=j at hj ⊢
 by_cases tX:j+1<l.length
 ·rw [Nat.mod_eq_of_lt tX]
  have:=h (l.length - 1 - (j+1)) (by omega)
  rw [Nat.mod_eq_of_lt (by omega),show l.length - 1 - (j+1)+1=l.length - 1 - j from by omega] at this
  exact this
 ·have:j+1=l.length:=by omega
  rw [this,Nat.mod_self]
  have:=h (l.length - 1) (by omega)
  rw [show l.length - 1+1=l.length from by omega,Nat.mod_self] at this
  rw [show l.length - 1 - j=0 from by omega]
  exact this
def Nh (g:Gr):Prop:=∃r:Int→Nat,∀i,i<g.es.length→r (tl g i)<r (hd g i)
theorem zZ {g:Gr} (hm:aP g=true):B9 g=true↔Nh g:=by
 constructor
 ·intro h
  refine ⟨fun v=>((xD g.n.toNat (aI g) (aI g).length).getD v.toNat 0).toNat,fun i hi=> ?_⟩
  have h1:=Dx (Bm hm h) hi
  have h2:=sn (n:=g.n.toNat) (l:=aI g) (k:=(aI g).length) (y:=(tl g i).toNat)
  simp only;omega
 ·rintro ⟨r,hr⟩
  cases h:B9 g with
  |true=>rfl
  |false=>
   exfalso
   obtain ⟨y,hy,hn⟩:=zY hm h
   have key:∀(p:Nat) (y:Nat),y<g.n.toNat→(y:Int)∉aI g→r y=p→False:=by
    intro p
    induction p using Nat.strongRecOn with
    |_ p ih=>
     intro y hy hn hp
     obtain ⟨t,i,hi,h1,rfl,h2⟩:=HQ hm hy hn
     have htr:=bX hm hi
     have hlt:=hr i hi
     rw [h1,hp] at hlt
     have e:((tl g i).toNat:Int)=tl g i:=by omega
     exact ih (r (tl g i)) hlt (tl g i).toNat (by omega) (by rw [e];exact h2) (by rw [e])
   exact key _ y hy hn rfl
theorem FO {g:Gr} (hm:aP g=true) (h:B9 g=true):jF g= []:=by
 have hall:=(b7.1 (zX hm h)).2
 have hn:=aU hm
 rcases start_eq hm with ⟨h1,h2⟩|⟨a,ha,h1,h2,h3⟩
 ·have:jE g=([], -1):=by
   unfold jE;rw [h1];exact jG (.inl (by omega)) _
  simp only [jF,this]
  rw [if_pos (by omega)]
 ·exact absurd (hall a (dS.2 (by omega))) h3
theorem DC {g:Gr} (hm:aP g=true) (h:B9 g=false):0<(jF g).length∧Ld g (jF g):=by
 obtain ⟨y,hy,PX⟩:=zY hm h
 have hn:=aU hm
 rcases start_eq hm with ⟨h1,h2⟩|⟨a,ha,h1,h2,h3⟩
 ·exfalso
  rcases eC (f:=fun n:Int=>decide (0<n)) (l:=cE g (aI g)) 0 with ⟨_,h4⟩|⟨k,h4,_⟩
  ·have h5:=(pG hm hy).2 PX
   have h6:=h4 ((cE g (aI g)).getD y 0) (by rw [List.getD_eq_getElem?_getD,kg hy];exact List.mem_of_getElem? (kg hy))
   rw [lp hy] at h6
   exact absurd h5 (of_decide_eq_false h6)
  ·omega
 ·obtain ⟨h4,h5,h6⟩:=sw hm g.n.toNat [] a ha h3 (fun p hp=>by simp at hp) vg
  have hw:jE g=kj g (cE g (aI g)) g.n.toNat [] a:=by unfold jE;rw [h1]
  rw [← hw] at h4 h5 h6
  obtain ⟨k,yy,hk2,Kk⟩:=dy h6
  have hc:jF g=kL ((jE g).1.drop k).reverse:=by
   simp only [jF]
   rw [if_neg (by omega),yy,Int.toNat_natCast]
  have hlen:((jE g).1.drop k).length=(jE g).1.length - k:=by simp
  have h0:0<((jE g).1.drop k).length:=by omega
  refine ⟨?_, ?_⟩
  ·rw [hc]
   simp only [kL,List.length_append,List.length_drop,List.length_take,List.length_reverse]
   omega
  ·rw [hc]
   refine Ld.FD (fun p hp=> ?_) h0
   rw [hlen] at hp ⊢
   have h7:=h4 (k+p) (by omega)
   rw [pI (p:=p)]
   by_cases tX:p+1<(jE g).1.length - k
   ·rw [Nat.mod_eq_of_lt tX,pI]
    rw [lE (by omega)] at h7
    exact h7
   ·have:p+1=(jE g).1.length - k:=by omega
    rw [this,Nat.mod_self,pI,Nat.add_zero,Kk]
    rw [show k+p+1=(jE g).1.length from by omega,pH] at h7
    exact h7
end Go.Ab
end
section
namespace Go.Ab
set_option maxRecDepth 10000
structure PS where
 m:Nat
 src:Int
 DD:Int
 tl:Int→Int
 hd:Int→Int
 ins:Int→List Int
 outs:Int→List Int
 xG:Int→Nat
 Row:Nat→List Int→List Int→Prop
 k0:Nat
def PS.E (P:PS) (e:Int):Prop:=0≤e∧e<P.m
structure PS.Ok (P:PS):Prop where
 cq:∀x e,e∈P.outs x↔P.E e∧P.tl e=x
 cA:∀x e,e∈P.ins x↔P.E e∧P.hd e=x
 kA:∀x,(P.outs x).Nodup
 vn:∀x,(P.ins x).Nodup
 nk:∀e,P.E e→P.xG (P.tl e)<P.xG (P.hd e)
 FP:P.Row P.k0 (P.outs P.src) [P.src]
 sx:∀ {k W D},P.Row k W D→W.Nodup
 fW:∀ {k W D},P.Row k W D→∀e,e∈W↔P.E e∧P.tl e∈D∧P.hd e∉D
 lF:∀ {k W D},P.Row (k+1) W D→∃x A C,W=A++P.ins x++C∧P.ins x≠ []
 oz:∀ {k W D x A C},P.Row k W D→W=A++P.ins x++C→P.ins x≠ []→∃k',k=k'+1∧P.Row k' (A++P.outs x++C) (D++ [x])
 l7:∀ {W D},P.Row 0 W D→∀e,P.E e→P.hd e∈D
 vo:∀ {k W D},P.Row k W D→P.src∈D
 qH:∀ {k W D},P.Row k W D→P.DD∈D→k=0
 vp:P.ins P.src= []
 l8:∀x,P.ins x≠ []→(P.outs x= []↔x=P.DD)
theorem l9 {l:List Int} :l.reverse.Nodup↔l.Nodup:=(List.reverse_perm l).nodup_iff
def PS.Ca (P:PS):PS:= {P with ins:=fun x=>(P.ins x).reverse,outs:=fun x=>(P.outs x).reverse,Row:=fun k W D=>P.Row k W.reverse D}
theorem PS.Ok.Ca {P:PS} (h:P.Ok):P.Ca.Ok:=
 {cq:=fun x e=>by show e∈(P.outs x).reverse↔_;rw [List.mem_reverse];exact h.cq x e
  cA:=fun x e=>by show e∈(P.ins x).reverse↔_;rw [List.mem_reverse];exact h.cA x e
  kA:=fun x=>by show (P.outs x).reverse.Nodup;exact l9.2 (h.kA x)
  vn:=fun x=>by show (P.ins x).reverse.Nodup;exact l9.2 (h.vn x)
  nk:=h.nk
  FP:=by show P.Row _ (P.outs P.src).reverse.reverse _;rw [List.reverse_reverse];exact h.FP
  sx:=fun {k W D} hr=>l9.1 (h.sx (show P.Row k W.reverse D from hr))
  fW:=fun {k W D} hr e=>by
   have:=h.fW (show P.Row k W.reverse D from hr) e
   rw [List.mem_reverse] at this
   exact this
  lF:=fun {k W D} hr=>by
   obtain ⟨x,A,C,h1,h2⟩:=h.lF (show P.Row (k+1) W.reverse D from hr)
   refine ⟨x,C.reverse,A.reverse, ?_,fun h3=>h2 (List.reverse_eq_nil_iff.1 h3)⟩
   show W=C.reverse++(P.ins x).reverse++A.reverse
   rw [← List.reverse_reverse W,h1]
   simp
  oz:=fun {k W D x A C} hr h1 h2=>by
   have h1:W=A++(P.ins x).reverse++C:=h1
   obtain ⟨k',h3,h4⟩:=h.oz (x:=x) (A:=C.reverse) (C:=A.reverse) (show P.Row k W.reverse D from hr) (by rw [h1];simp) (fun h3=>h2 (List.reverse_eq_nil_iff.2 h3))
   refine ⟨k',h3, ?_⟩
   show P.Row k' (A++(P.outs x).reverse++C).reverse (D++ [x])
   have e:(A++(P.outs x).reverse++C).reverse=C.reverse++P.outs x++A.reverse:=by simp
   rw [e];exact h4
  l7:=fun {W D} hr=>h.l7 (show P.Row 0 W.reverse D from hr)
  vo:=fun {k W D} hr=>h.vo (show P.Row k W.reverse D from hr)
  qH:=fun {k W D} hr=>h.qH (show P.Row k W.reverse D from hr)
  vp:=by show (P.ins P.src).reverse= [];rw [h.vp];rfl
  l8:=fun x hx=>by
   have h2:P.ins x≠ []:=fun h3=>hx (by show (P.ins x).reverse= [];rw [h3];rfl)
   show (P.outs x).reverse= []↔_
   rw [List.reverse_eq_nil_iff];exact h.l8 x h2}
structure MS where
 A:List Int
 B:List Int
 D:List Int
def PS.next (P:PS) (s:MS):MS:=
 match s.B with
 | []=>s
 |e::B=>if P.ins (P.hd e)<:+s.A++ [e] then ⟨(s.A++ [e]).take (s.A.length+1 - (P.ins (P.hd e)).length),P.outs (P.hd e)++B,s.D++ [P.hd e]⟩ else ⟨s.A++ [e],B,s.D⟩
def PS.st (P:PS):Nat→MS
 |0=>⟨[],P.outs P.src, [P.src]⟩
 |j+1=>P.next (P.st j)
def PS.sh (P:PS) (j:Nat):Int:=(P.st j).B.headD 0
def PS.tY (P:PS) (j:Nat):List Int:=(List.range j).map P.sh
variable {P:PS}
theorem PS.sy {j:Nat} :P.tY (j+1)=P.tY j++ [P.sh j]:=by simp [PS.tY,List.range_succ]
theorem PS.vq {j:Nat} :(P.tY j).length=j:=by simp [PS.tY]
theorem PS.vr {j:Nat} {e:Int} :e∈P.tY j↔∃i,i<j∧P.sh i=e:=by simp [PS.tY]
structure PS.Inv (P:PS) (j:Nat) (s:MS):Prop where
 row:∃k,P.Row k (s.A++s.B) s.D
 no:∀h,P.ins h≠ []→¬P.ins h<:+:s.A
 nd:(P.tY j).Nodup
 sh:∀e,e∈P.tY j↔P.E e∧(e∈s.A∨P.hd e∈s.D)
 len:j≤P.m
theorem eW:∀ {l m:List Int},l.Nodup→(∀i∈l,i∈m)→l.length≤m.length
 | [],_,_,_=>Nat.zero_le _
 |a::l,m,hn,h=>by
  rw [List.nodup_cons] at hn
  have ha:=h a (List.mem_cons_self ..)
  have:=eW (m:=m.erase a) hn.2 fun i hi=>(List.mem_erase_of_ne (show i≠a from fun e=>hn.1 (by rw [← e];exact hi))).2 (h i (List.mem_cons_of_mem _ hi))
  rw [List.length_erase_of_mem ha] at this
  have:=List.length_pos_of_mem ha
  rw [List.length_cons];omega
theorem pJ {l:List Int} {m:Nat} (hall:∀e:Int,0≤e→e<m→e∈l):m≤l.length:=by
 have:=eW (l:=(List.range m).map Int.ofNat) (m:=l) (List.pairwise_map.2 (List.nodup_range.imp fun hab e=>hab (Int.ofNat.inj e))) fun x hx=>by
  obtain ⟨a,ha,rfl⟩:=List.mem_map.1 hx
  have:=List.mem_range.1 ha
  exact hall _ (by simp) (by simp;omega)
 simpa using this
theorem xH {X Y:List Int} (h:X<:+Y):Y=Y.take (Y.length - X.length)++X:=by
 obtain ⟨t,rfl⟩:=h
 simp
theorem PS.Inv.more (h:P.Ok) {j:Nat} {s:MS} (hi:P.Inv j s) (hj:j<P.m):∃e B,s.B=e::B:=by
 cases hB:s.B with
 |cons e B=>exact ⟨e,B,rfl⟩
 |nil=>
  exfalso
  obtain ⟨k,hr⟩:=hi.row
  rw [hB,List.append_nil] at hr
  cases k with
  |succ k=>
   obtain ⟨x,A,C,h1,h2⟩:=h.lF hr
   exact hi.no x h2 ⟨A,C,h1.symm⟩
  |zero=>
   have hall:∀e,P.E e→e∈P.tY j:=fun e he=>(hi.sh e).2 ⟨he, .inr (h.l7 hr e he)⟩
   have:=pJ (fun e h1 h2=>hall e ⟨h1,h2⟩)
   rw [PS.vq] at this
   omega
theorem PS.Bt {s:MS} {e:Int} {B:List Int} (hB:s.B=e::B):P.next s=if P.ins (P.hd e)<:+s.A++ [e] then ⟨(s.A++ [e]).take (s.A.length+1 - (P.ins (P.hd e)).length),P.outs (P.hd e)++B,s.D++ [P.hd e]⟩ else ⟨s.A++ [e],B,s.D⟩:=by
 unfold PS.next;rw [hB]
theorem PS.sC (h:P.Ok) {s:MS} {k:Nat} {e:Int} {B:List Int} (hr:P.Row k (s.A++s.B) s.D) (hB:s.B=e::B):
 P.E e∧((∃A',s.A++ [e]=A'++P.ins (P.hd e)∧P.ins (P.hd e)≠ []∧P.next s=⟨A',P.outs (P.hd e)++B,s.D++ [P.hd e]⟩)∨(¬P.ins (P.hd e)<:+s.A++ [e]∧P.next s=⟨s.A++ [e],B,s.D⟩)):=by
 have he:P.E e:=((h.fW hr e).1 (by rw [hB];simp)).1
 refine ⟨he, ?_⟩
 rw [PS.Bt hB]
 by_cases hs:P.ins (P.hd e)<:+s.A++ [e]
 ·rw [if_pos hs]
  refine .inl ⟨_, ?_,fun h0=> ?_,rfl⟩
  ·have:=xH hs
   simpa using this
  ·have:=(h.cA (P.hd e) e).2 ⟨he,rfl⟩
   rw [h0] at this;cases this
 ·rw [if_neg hs];exact .inr ⟨hs,rfl⟩
theorem yY {X A:List Int} {e:Int} (h:X<:+:A++ [e]):X<:+:A∨X<:+A++ [e]:=by
 obtain ⟨s,t,ht⟩:=h
 rcases List.eq_nil_or_concat t with rfl|⟨t',a,rfl⟩
 ·rw [List.append_nil] at ht;exact .inr ⟨s,ht⟩
 ·left
  refine ⟨s,t', ?_⟩
  have:s++X++t'++ [a]=A++ [e]:=by rw [← ht];simp
  exact (List.append_inj' this rfl).1
theorem PS.inv (h:P.Ok):∀j,j≤P.m→P.Inv j (P.st j)
 |0,_=>⟨⟨_,h.FP⟩,fun x hx hs=>hx (by
    have:P.ins x<:+: []:=hs
    simpa using this),by simp [PS.tY],fun e=>(by
     simp only [PS.tY,List.range_zero,List.map_nil,List.not_mem_nil,false_iff]
     rintro ⟨he,h1|h1⟩
     ·cases h1
     ·have h1:P.hd e∈ [P.src]:=h1
      have h2:P.hd e=P.src:=by simpa using h1
      have:=(h.cA P.src e).2 ⟨he,h2⟩
      rw [h.vp] at this;cases this),Nat.zero_le _⟩
 |j+1,hj=>by
  have hi:=PS.inv h j (by omega)
  obtain ⟨e,B,hB⟩:=hi.more h (by omega)
  obtain ⟨k,hr⟩:=hi.row
  have hsh:P.sh j=e:=by unfold PS.sh;rw [hB];rfl
  have PY:e∈(P.st j).A++(P.st j).B:=by rw [hB];simp
  have hm:=(h.fW hr e).1 PY
  have b8:=h.sx hr
  have PZ:e∉(P.st j).A:=fun hA=>by
   rw [List.nodup_append] at b8
   exact b8.2.2 e hA e (by rw [hB];simp) rfl
  have hnew:e∉P.tY j:=fun h1=>by
   rcases ((hi.sh e).1 h1).2 with h2|h2
   ·exact PZ h2
   ·exact hm.2.2 h2
  have Kn:(P.tY (j+1)).Nodup:=by
   rw [PS.sy,hsh,List.nodup_append]
   exact ⟨hi.nd,by simp,fun a ha b hb=>by
    rw [List.mem_singleton] at hb
    subst hb
    intro e2;exact hnew (e2 ▸ ha)⟩
  obtain ⟨he,hc⟩:=PS.sC h hr hB
  have hst:P.st (j+1)=P.next (P.st j):=rfl
  rw [hst]
  rcases hc with ⟨A',h1,h2,h3⟩|⟨h1,h3⟩
  ·rw [h3]
   have hrow:(P.st j).A++(P.st j).B=A'++P.ins (P.hd e)++B:=by rw [hB, ← h1];simp
   obtain ⟨k',rfl,hr'⟩:=h.oz hr hrow h2
   refine ⟨⟨k',by simpa using hr'⟩,fun x hx hs=> ?_,Kn,fun f=> ?_,hj⟩
   ·have hs:P.ins x<:+:A':=hs
    have hA:¬P.ins x<:+:(P.st j).A:=hi.no x hx
    obtain ⟨u,v,huv⟩:=hs
    rcases List.eq_nil_or_concat (P.ins (P.hd e)) with h0|⟨I',a,h0⟩
    ·exact h2 h0
    ·rw [h0, ← List.concat_eq_append,List.concat_eq_append] at h1
     have h4:(P.st j).A++ [e]=(A'++I')++ [a]:=by rw [h1];simp
     have h5:=(List.append_inj' h4 rfl).1
     exact hA ⟨u,v++I',by rw [h5, ← huv];simp⟩
   ·rw [PS.sy,hsh,List.mem_append,List.mem_singleton,hi.sh f]
    show _↔P.E f∧(f∈A'∨P.hd f∈(P.st j).D++ [P.hd e])
    constructor
    ·rintro (⟨h4,h5|h5⟩|rfl)
     ·have:f∈A'++P.ins (P.hd e):=by rw [← h1];exact List.mem_append.2 (.inl h5)
      rcases List.mem_append.1 this with h6|h6
      ·exact ⟨h4, .inl h6⟩
      ·exact ⟨h4, .inr (by rw [((h.cA _ _).1 h6).2];simp)⟩
     ·exact ⟨h4, .inr (List.mem_append.2 (.inl h5))⟩
     ·exact ⟨he, .inr (by simp)⟩
    ·rintro ⟨h4,h5|h5⟩
     ·have:f∈(P.st j).A++ [e]:=by rw [h1];exact List.mem_append.2 (.inl h5)
      rcases List.mem_append.1 this with h6|h6
      ·exact .inl ⟨h4, .inl h6⟩
      ·exact .inr (by simpa using h6)
     ·rcases List.mem_append.1 h5 with h6|h6
      ·exact .inl ⟨h4, .inr h6⟩
      ·have h6:P.hd f=P.hd e:=by simpa using h6
       have h7:f∈P.ins (P.hd e):=(h.cA _ _).2 ⟨h4,h6⟩
       have:f∈(P.st j).A++ [e]:=by rw [h1];exact List.mem_append.2 (.inr h7)
       rcases List.mem_append.1 this with h8|h8
       ·exact .inl ⟨h4, .inl h8⟩
       ·exact .inr (by simpa using h8)
  ·rw [h3]
   refine ⟨⟨k,by simpa [hB] using hr⟩,fun x hx hs=> ?_,Kn,fun f=> ?_,hj⟩
   ·rcases yY hs with h4|h4
    ·exact hi.no x hx h4
    ·have hne:e∈P.ins x:=by
      obtain ⟨t,ht⟩:=h4
      rcases List.eq_nil_or_concat (P.ins x) with h0|⟨I',a,h0⟩
      ·exact absurd h0 hx
      ·rw [h0] at ht
       have h5:(t++I')++ [a]=(P.st j).A++ [e]:=by rw [← ht];simp
       have:=(List.append_inj' h5 rfl).2
       rw [h0];simp at this ⊢;exact .inr this.symm
     rw [((h.cA _ _).1 hne).2] at h1
     exact h1 h4
   ·rw [PS.sy,hsh,List.mem_append,List.mem_singleton,hi.sh f]
    show _↔P.E f∧(f∈(P.st j).A++ [e]∨P.hd f∈(P.st j).D)
    rw [List.mem_append,List.mem_singleton]
    constructor
    ·rintro (⟨h4,h5|h5⟩|rfl)
     ·exact ⟨h4, .inl (.inl h5)⟩
     ·exact ⟨h4, .inr h5⟩
     ·exact ⟨he, .inl (.inr rfl)⟩
    ·rintro ⟨h4,(h5|h5)|h5⟩
     ·exact .inl ⟨h4, .inl h5⟩
     ·exact .inr h5
     ·exact .inl ⟨h4, .inr h5⟩
end Go.Ab
end
section
namespace Go.Ab
set_option maxRecDepth 10000
set_option linter.unusedSectionVars false
variable {P:PS}
structure PS.gm (P:PS) (L R:Int→Int) (f0 f1:Int) (low:Int→Int):Prop where
 ne:f0≠f1
 fX:∀ {x u a b v},P.outs x=u++a::b::v→R a=L b
 sD:∀ {x u a b v},P.ins x=u++a::b::v→R a=L b
 fst:∀ {x a u b v},P.ins x=a::u→P.outs x=b::v→L a=L b
 EX:∀ {x a u b v},P.ins x=u++ [a]→P.outs x=v++ [b]→R a=R b
 s0:∀ {b v},P.outs P.src=b::v→L b=f0
 s1:∀ {b v},P.outs P.src=v++ [b]→R b=f1
 new:∀ {x u a b v},P.outs x=u++a::b::v→low (R a)=x∧R a≠f0∧R a≠f1
 new1:∀ {x u a b v u' a' b' v'},P.outs x=u++a::b::v→P.outs x=u'++a'::b'::v'→R a=R a'→a=a'
theorem xI {l u v u' v':List Int} {a:Int} (hn:l.Nodup) (h1:l=u++a::v) (h2:l=u'++a::v'):u=u'∧v=v':=by
 induction u generalizing l u' with
 |nil=>
  cases u' with
  |nil=>rw [h1] at h2;simpa using h2
  |cons b u'=>
   rw [h1] at h2
   simp only [List.nil_append,List.cons_append,List.cons.injEq] at h2
   rw [h1,h2.2] at hn
   simp at hn
 |cons b u ih=>
  cases u' with
  |nil=>
   rw [h2] at h1
   simp only [List.nil_append,List.cons_append,List.cons.injEq] at h1
   rw [h2,h1.2] at hn
   simp at hn
  |cons b' u'=>
   have h3:=h1.symm.trans h2
   simp only [List.cons_append,List.cons.injEq] at h3
   rw [h1,List.cons_append,List.nodup_cons] at hn
   obtain ⟨h4,h5⟩:=ih hn.2 rfl h3.2
   exact ⟨by rw [h3.1,h4],h5⟩
theorem gV {l u v:List Int} {a b:Int} (h:l.reverse=u++a::b::v):l=v.reverse++b::a::u.reverse:=by
 have:=congrArg List.reverse h
 simpa using this
theorem PS.gm.Ca (h:P.Ok) {L R:Int→Int} {f0 f1:Int} {low:Int→Int} (F:P.gm L R f0 f1 low):P.Ca.gm R L f1 f0 low:=
 {ne:=F.ne.symm
  fX:=fun {x u a b v} h=>(F.fX (gV (show (P.outs x).reverse=_ from h))).symm
  sD:=fun {x u a b v} h=>(F.sD (gV (show (P.ins x).reverse=_ from h))).symm
  fst:=fun {x a u b v} h1 h2=>F.EX (x:=x) (u:=u.reverse) (v:=v.reverse) (by
     have:=congrArg List.reverse (show (P.ins x).reverse=_ from h1);simpa using this) (by
     have:=congrArg List.reverse (show (P.outs x).reverse=_ from h2);simpa using this)
  EX:=fun {x a u b v} h1 h2=>F.fst (x:=x) (u:=u.reverse) (v:=v.reverse) (by
    have:=congrArg List.reverse (show (P.ins x).reverse=_ from h1);simpa using this) (by
    have:=congrArg List.reverse (show (P.outs x).reverse=_ from h2);simpa using this)
  s0:=fun {b v} h1=>F.s1 (v:=v.reverse) (by
     have:=congrArg List.reverse (show (P.outs P.src).reverse=_ from h1);simpa using this)
  s1:=fun {b v} h1=>F.s0 (v:=v.reverse) (by
     have:=congrArg List.reverse (show (P.outs P.src).reverse=_ from h1);simpa using this)
  new:=fun {x u a b v} h1=>by
   have h2:=gV (show (P.outs x).reverse=_ from h1)
   obtain ⟨h3,h4,h5⟩:=F.new h2
   have h6:=F.fX h2
   rw [← h6];exact ⟨h3,h5,h4⟩
  new1:=fun {x u a b v u' a' b' v'} h1 h2 h3=>by
   have g1:=gV (show (P.outs x).reverse=_ from h1)
   have g2:=gV (show (P.outs x).reverse=_ from h2)
   rw [← F.fX g1, ← F.fX g2] at h3
   have h4:=F.new1 g1 g2 h3
   subst h4
   have:=(xI (h.kA x) g1 g2).2
   simp only [List.cons.injEq] at this
   exact this.1}
def gH (L R:Int→Int):Int→List Int→Prop
 |_, []=>True
 |f,a::W=>L a=f∧gH L R (R a) W
def jf (R:Int→Int):Int→List Int→Int
 |f, []=>f
 |_,a::W=>jf R (R a) W
theorem cP {L R:Int→Int} :∀ {A B:List Int} {f:Int},gH L R f (A++B)↔gH L R f A∧gH L R (jf R f A) B
 | [],B,f=>by simp [gH,jf]
 |a::A,B,f=>by simp [gH,jf,cP,and_assoc]
theorem cZ {R:Int→Int} :∀ {A B:List Int} {f:Int},jf R f (A++B)=jf R (jf R f A) B
 | [],B,f=>rfl
 |a::A,B,f=>by simp [jf,cZ]
theorem fN {R:Int→Int} {A:List Int} {a f:Int} :jf R f (A++ [a])=R a:=by rw [cZ];rfl
theorem sF {L R:Int→Int} :∀ {X:List Int} {f:Int},(∀u a b v,X=u++a::b::v→R a=L b)→(∀a u,X=a::u→L a=f)→gH L R f X
 | [],f,_,_=>trivial
 |a::X,f,h,h1=>⟨h1 a X rfl,sF (fun u b c v e=>h (a::u) b c v (by rw [e];rfl)) fun b v e=>(h [] a b v (by rw [e];rfl)).symm⟩
theorem DE {L R:Int→Int} {f:Int} {u v:List Int} {a b:Int} (h:gH L R f (u++a::b::v)):R a=L b:=by
 have:=(cP.1 h).2
 exact this.2.1.symm
theorem c7 {l:List Int} (h:l≠ []):∃u a,l=u++ [a]:=by
 rcases List.eq_nil_or_concat l with h1|⟨u,a,h1⟩
 ·exact absurd h1 h
 ·exact ⟨u,a,by rw [h1,List.concat_eq_append]⟩
theorem gN {l:List Int} (h:l≠ []):∃a u,l=a::u:=by
 cases l with
 |nil=>exact absurd rfl h
 |cons a u=>exact ⟨a,u,rfl⟩
structure xJ (L R:Int→Int) (f0 f1:Int) (low:Int→Int) (W D:List Int):Prop where
 lk:gH L R f0 W
 en:jf R f0 W=f1
 nd:(W.map R).Nodup
 lo:∀a∈W,R a≠f0∧(R a=f1∨(R a≠f1∧low (R a)∈D))
theorem Bu {X U V Y:List Int} {r:Int} (h:(X++(U++ [r])++Y).Nodup) (hV:V.Nodup) (hd:∀z∈V,z∉X∧z≠r∧z∉Y):(X++(V++ [r])++Y).Nodup:=by
 have h1:(X++ [r]++Y).Nodup:=by
  refine List.Nodup.sublist ?_ h
  refine List.Sublist.append (List.Sublist.append (List.Sublist.refl _) ?_) (List.Sublist.refl _)
  exact List.sublist_append_right ..
 have h2:(V++(X++ [r]++Y)).Nodup:=by
  rw [List.nodup_append]
  refine ⟨hV,h1,fun a ha b hb e=> ?_⟩
  subst e
  obtain ⟨g1,g2,g3⟩:=hd a ha
  simp only [List.mem_append,List.mem_singleton] at hb
  rcases hb with (hb|hb)|hb
  ·exact g1 hb
  ·exact g2 hb
  ·exact g3 hb
 refine (List.Perm.nodup_iff ?_).1 h2
 have:X++(V++ [r])++Y=(X++V)++([r]++Y):=by simp
 rw [this]
 have:V++(X++ [r]++Y)=(V++X)++([r]++Y):=by simp
 rw [this]
 exact List.Perm.append_right _ List.perm_append_comm
theorem jg {R:Int→Int} :∀ {l:List Int},l.Nodup→(∀a∈l,∀b∈l,R a=R b→a=b)→(l.map R).Nodup
 | [],_,_=>by simp
 |a::l,hn,h=>by
  rw [List.nodup_cons] at hn
  rw [List.map_cons,List.nodup_cons]
  refine ⟨fun hm=> ?_,jg hn.2 fun x hx y hy=>h x (List.mem_cons_of_mem _ hx) y (List.mem_cons_of_mem _ hy)⟩
  obtain ⟨b,hb,e⟩:=List.mem_map.1 hm
  have:=h b (List.mem_cons_of_mem _ hb) a (List.mem_cons_self ..) e
  exact hn.1 (this ▸ hb)
section
variable (h:P.Ok) {L R:Int→Int} {f0 f1:Int} {low:Int→Int} (F:P.gm L R f0 f1 low)
include h F
theorem nq {v:List Int} {b:Int} {x:Int} (hv:P.outs x=v++ [b]) {a:Int} (ha:a∈v):∃u c w,P.outs x=u++a::c::w:=by
 obtain ⟨s,t,rfl⟩:=List.append_of_mem ha
 cases t with
 |nil=>exact ⟨s,b, [],by rw [hv];simp⟩
 |cons c t=>exact ⟨s,c,t++ [b],by rw [hv];simp⟩
theorem tZ {x f:Int} (hf:∀b v,P.outs x=b::v→L b=f):gH L R f (P.outs x):=sF (fun u a b v e=>F.fX e) fun a u e=>hf a u e
theorem z2 {x:Int} {v:List Int} {b:Int} (hv:P.outs x=v++ [b]):(v.map R).Nodup∧∀z∈v.map R,low z=x∧z≠f0∧z≠f1:=by
 have hn:=h.kA x
 rw [hv,List.nodup_append] at hn
 refine ⟨jg hn.1 fun a ha a' Fw e=> ?_,fun z hz=> ?_⟩
 ·obtain ⟨u,c,w,h1⟩:=nq h F hv ha
  obtain ⟨u',c',w',h2⟩:=nq h F hv Fw
  exact F.new1 h1 h2 e
 ·obtain ⟨a,ha,rfl⟩:=List.mem_map.1 hz
  obtain ⟨u,c,w,h1⟩:=nq h F hv ha
  exact F.new h1
theorem xJ.start (hne:P.outs P.src≠ []):xJ L R f0 f1 low (P.outs P.src) [P.src]:=by
 obtain ⟨v,b,hv⟩:=c7 hne
 obtain ⟨n1,n2⟩:=z2 h F hv
 have hb:=F.s1 hv
 refine ⟨tZ h F fun b v e=>F.s0 e,by rw [hv,fN,hb], ?_,fun a ha=> ?_⟩
 ·rw [hv,List.map_append,List.nodup_append]
  refine ⟨n1,by simp,fun z hz y hy e=> ?_⟩
  simp only [List.map_cons,List.map_nil,List.mem_singleton] at hy
  exact (n2 z hz).2.2 (by rw [e,hy,hb])
 ·rw [hv,List.mem_append,List.mem_singleton] at ha
  rcases ha with ha|rfl
  ·obtain ⟨g1,g2,g3⟩:=n2 (R a) (List.mem_map_of_mem ha)
   exact ⟨g2, .inr ⟨g3,by rw [g1];simp⟩⟩
  ·exact ⟨by rw [hb];exact F.ne.symm, .inl hb⟩
theorem xJ.step {A C D:List Int} {x:Int} (hi:xJ L R f0 f1 low (A++P.ins x++C) D) (hI:P.ins x≠ []) (hO:P.outs x≠ []) (hx:x∉D):xJ L R f0 f1 low (A++P.outs x++C) (D++ [x]):=by
 obtain ⟨u,a,hu⟩:=c7 hI
 obtain ⟨v,b,hv⟩:=c7 hO
 obtain ⟨a0,u0,FQ⟩:=gN hI
 obtain ⟨b0,v0,th⟩:=gN hO
 have hab:=F.EX hu hv
 have h0:=F.fst FQ th
 obtain ⟨l1,l2⟩:=cP.1 hi.lk
 obtain ⟨l3,l4⟩:=cP.1 l1
 have Of:∀f,jf R f (P.ins x)=R a:=fun f=>by rw [hu,fN]
 have Og:∀f,jf R f (P.outs x)=R b:=fun f=>by rw [hv,fN]
 have hL:L a0=jf R f0 A:=by rw [FQ] at l4;exact l4.1
 obtain ⟨n1,n2⟩:=z2 h F hv
 have b8:=hi.nd
 have hlo:=hi.lo
 refine ⟨?_, ?_, ?_,fun c hc=> ?_⟩
 ·rw [cP,cP]
  refine ⟨⟨l3,tZ h F fun b' v' e=> ?_⟩, ?_⟩
  ·rw [th] at e
   simp only [List.cons.injEq] at e
   rw [← e.1, ← h0,hL]
  ·rw [cZ,Og]
   rw [cZ,Of] at l2
   rw [← hab];exact l2
 ·have:=hi.en
  rw [cZ,cZ,Of] at this
  rw [cZ,cZ,Og, ← hab];exact this
 ·rw [List.map_append,List.map_append,hv,List.map_append]
  rw [List.map_append,List.map_append,hu,List.map_append] at b8
  simp only [List.map_cons,List.map_nil] at b8 ⊢
  rw [← hab]
  have hold:∀c∈A++P.ins x++C,R c∉v.map R:=fun c hc hz=>by
   obtain ⟨g1,g2,g3⟩:=n2 _ hz
   rcases (hlo c hc).2 with h1|⟨_,h1⟩
   ·exact g3 h1
   ·rw [g1] at h1;exact hx h1
  refine Bu b8 n1 fun z hz=>⟨fun ES=> ?_,fun ES=> ?_,fun ES=> ?_⟩
  ·obtain ⟨c,hc,rfl⟩:=List.mem_map.1 ES
   exact hold c (by simp [hc]) hz
  ·exact hold a (by rw [hu];simp) (ES ▸ hz)
  ·obtain ⟨c,hc,rfl⟩:=List.mem_map.1 ES
   exact hold c (by simp [hc]) hz
 ·have hold:∀c∈A++P.ins x++C,R c≠f0∧(R c=f1∨(R c≠f1∧low (R c)∈D++ [x])):=fun c hc=>by
   obtain ⟨g1,g2⟩:=hlo c hc
   exact ⟨g1,g2.imp id fun ⟨g3,g4⟩=>⟨g3,List.mem_append.2 (.inl g4)⟩⟩
  simp only [List.mem_append] at hc
  rcases hc with (hc|hc)|hc
  ·exact hold c (by simp [hc])
  ·rw [hv,List.mem_append,List.mem_singleton] at hc
   rcases hc with hc|rfl
   ·obtain ⟨g1,g2,g3⟩:=n2 (R c) (List.mem_map_of_mem hc)
    exact ⟨g2, .inr ⟨g3,by rw [g1];simp⟩⟩
   ·have:=hold a (by rw [hu];simp)
    rw [hab] at this;exact this
  ·exact hold c (by simp [hc])
end
end Go.Ab
end
section
namespace Go.Ab
set_option maxRecDepth 10000
set_option linter.unusedSectionVars false
variable {P:PS}
inductive PS.DF (P:PS) (x:Int):Int→Prop
 |refl:P.DF x x
 |step {e:Int} :P.DF x (P.tl e)→P.E e→P.DF x (P.hd e)
theorem PS.DF.trans {x y z:Int} (h1:P.DF x y) (h2:P.DF y z):P.DF x z:=by
 induction h2 with
 |refl=>exact h1
 |step _ he ih=>exact .step ih he
inductive PS.Lp (P:PS) (L R:Int→Int) (F:Int):Int→Prop
 |refl:P.Lp L R F F
 |step {e:Int} :P.Lp L R F (L e)→P.E e→P.Lp L R F (R e)
theorem PS.Lp.trans {L R:Int→Int} {x y z:Int} (h1:P.Lp L R x y) (h2:P.Lp L R y z):P.Lp L R x z:=by
 induction h2 with
 |refl=>exact h1
 |step _ he ih=>exact .step ih he
theorem PS.Lp.head {L R:Int→Int} {e z:Int} (he:P.E e) (h2:P.Lp L R (R e) z):P.Lp L R (L e) z:=(PS.Lp.step .refl he).trans h2
theorem PS.Lp.Ca {L R:Int→Int} {x y:Int} (h1:P.Lp L R x y):P.Ca.Lp R L y x:=by
 induction h1 with
 |refl=>exact .refl
 | @step e h1 he ih=>exact PS.Lp.head (P:=P.Ca) (L:=R) (R:=L) (e:=e) he ih
theorem PS.DF.Ca {x y:Int} (h1:P.DF x y):P.Ca.DF x y:=by
 induction h1 with
 |refl=>exact .refl
 |step h1 he ih=>exact PS.DF.step (P:=P.Ca) ih he
section
variable (h:P.Ok)
include h
theorem yZ {j:Nat} (hj:j≤P.m):∃k,P.Row k ((P.st j).A++(P.st j).B) (P.st j).D:=(P.inv h j hj).row
theorem vt {j:Nat} (hj:j<P.m):∃B,(P.st j).B=P.sh j::B:=by
 obtain ⟨e,B,hB⟩:=(P.inv h j (by omega)).more h hj
 refine ⟨B, ?_⟩
 have:P.sh j=e:=by unfold PS.sh;rw [hB];rfl
 rw [this,hB]
theorem vu {e:Int} (he:P.E e):∃j,j<P.m∧P.sh j=e:=by
 have hi:=P.inv h P.m (Nat.le_refl _)
 refine Decidable.byContradiction fun hne=> ?_
 have hne:e∉P.tY P.m:=fun hm=>hne (PS.vr.1 hm)
 have b8:(e::P.tY P.m).Nodup:=List.nodup_cons.2 ⟨hne,hi.nd⟩
 have:=eW (m:=(List.range P.m).map Int.ofNat) b8 fun x hx=>by
  have hE:P.E x:=by
   rcases List.mem_cons.1 hx with rfl|hx
   ·exact he
   ·exact ((hi.sh x).1 hx).1
  have h1:=hE.1;have h2:=hE.2
  exact List.mem_map.2 ⟨x.toNat,List.mem_range.2 (by omega),by simp;omega⟩
 simp [PS.vq] at this
 omega
theorem HU:(P.st P.m).A= []:=by
 have hi:=P.inv h P.m (Nat.le_refl _)
 obtain ⟨k,hr⟩:=hi.row
 have hB:(P.st P.m).B= []:=by
  cases hB:(P.st P.m).B with
  |nil=>rfl
  |cons e B=>
   exfalso
   have hm:=(h.fW hr e).1 (by rw [hB];simp)
   obtain ⟨j,hj,e2⟩:=vu h hm.1
   have h1:e∈P.tY P.m:=PS.vr.2 ⟨j,hj,e2⟩
   have b8:=h.sx hr
   rw [List.nodup_append] at b8
   rcases ((hi.sh e).1 h1).2 with h2|h2
   ·exact b8.2.2 e h2 e (by rw [hB];simp) rfl
   ·exact hm.2.2 h2
 rw [hB,List.append_nil] at hr
 cases k with
 |succ k=>
  obtain ⟨x,A,C,h1,h2⟩:=h.lF hr
  exact absurd ⟨A,C,h1.symm⟩ (hi.no x h2)
 |zero=>
  cases hA:(P.st P.m).A with
  |nil=>rfl
  |cons e A=>
   have hm:=(h.fW hr e).1 (by rw [hA];simp)
   exact absurd (h.l7 hr e hm.1) hm.2.2
theorem vv {j:Nat} (hj:j<P.m):∃B,(P.st j).B=P.sh j::B∧((∃A',(P.st j).A++ [P.sh j]=A'++P.ins (P.hd (P.sh j))∧P.ins (P.hd (P.sh j))≠ []∧P.st (j+1)=⟨A',P.outs (P.hd (P.sh j))++B,(P.st j).D++ [P.hd (P.sh j)]⟩)∨
 (¬P.ins (P.hd (P.sh j))<:+(P.st j).A++ [P.sh j]∧P.st (j+1)=⟨(P.st j).A++ [P.sh j],B,(P.st j).D⟩)):=by
 obtain ⟨B,hB⟩:=vt h hj
 obtain ⟨k,hr⟩:=yZ h (Nat.le_of_lt hj)
 exact ⟨B,hB,(PS.sC h hr hB).2⟩
theorem FR {j:Nat} (hj:j<P.m):P.DD∉(P.st j).D:=fun hs=>by
 have hi:=P.inv h j (by omega)
 obtain ⟨k,hr⟩:=hi.row
 have:=h.qH hr hs
 subst this
 have:=pJ (l:=P.tY j) (m:=P.m) fun e h1 h2=>(hi.sh e).2 ⟨⟨h1,h2⟩, .inr (h.l7 hr e ⟨h1,h2⟩)⟩
 rw [PS.vq] at this
 omega
variable {L R:Int→Int} {f0 f1:Int} {low:Int→Int} (F:P.gm L R f0 f1 low)
include F
theorem xK:∀ {j:Nat},j<P.m→xJ L R f0 f1 low ((P.st j).A++(P.st j).B) (P.st j).D
 |0,hj=>by
  obtain ⟨B,hB⟩:=vt h hj
  have hB:P.outs P.src=P.sh 0::B:=hB
  exact xJ.start h F (by rw [hB];simp)
 |j+1,hj=>by
  have ih:=xK (j:=j) (by omega)
  obtain ⟨B,hB,hc⟩:=vv h (show j<P.m by omega)
  obtain ⟨k,hr⟩:=yZ h (show j≤P.m by omega)
  rcases hc with ⟨A',h1,h2,h3⟩|⟨h1,h3⟩
  ·have hs:=FR h hj
   rw [h3] at hs ⊢
   have hx:P.hd (P.sh j)≠P.DD:=fun e=>hs (by simp [e])
   have hO:P.outs (P.hd (P.sh j))≠ []:=fun e=>hx ((h.l8 _ h2).1 e)
   have hm:=(h.fW hr (P.sh j)).1 (by rw [hB];simp)
   have hW:(P.st j).A++(P.st j).B=A'++P.ins (P.hd (P.sh j))++B:=by rw [hB, ← h1];simp
   rw [hW] at ih
   have:=xJ.step h F ih h2 hO hm.2.2
   simpa using this
  ·rw [h3]
   have hW:(P.st j).A++(P.st j).B=(P.st j).A++ [P.sh j]++B:=by rw [hB];simp
   rw [hW] at ih
   exact ih
end
end Go.Ab
end
section
namespace Go.Ab
set_option maxRecDepth 10000
set_option linter.unusedSectionVars false
variable {P:PS}
section
variable (h:P.Ok) {L R:Int→Int} {f0 f1:Int} {low:Int→Int} (F:P.gm L R f0 f1 low)
include h F
theorem ua {x:Int} (hx:x≠P.src):∀ {j:Nat},j≤P.m→x∈(P.st j).D→∃i B,i<j∧x∉(P.st i).D∧P.hd (P.sh i)=x∧(∃u,P.ins x=u++ [P.sh i])∧(∀e∈P.ins x,e∈P.tY (i+1))∧(P.st (i+1)).B=P.outs x++B∧(P.st i).B=P.sh i::B
 |0,_,hm=>by
  have:x∈ [P.src]:=hm
  simp at this;exact absurd this hx
 |j+1,hj,hm=>by
  by_cases hp:x∈(P.st j).D
  ·obtain ⟨i,B,h1,h2⟩:=ua hx (by omega) hp
   exact ⟨i,B,by omega,h2⟩
  ·obtain ⟨B,hB,hc⟩:=vv h (show j<P.m by omega)
   rcases hc with ⟨A',h1,h2,h3⟩|⟨h1,h3⟩
   ·rw [h3] at hm
    rcases List.mem_append.1 hm with hm|hm
    ·exact absurd hm hp
    ·rw [List.mem_singleton] at hm
     subst hm
     refine ⟨j,B,by omega,hp,rfl, ?_,fun e he=> ?_,by rw [h3],hB⟩
     ·obtain ⟨u,a,hu⟩:=c7 h2
      rw [hu, ← List.append_assoc] at h1
      have:=(List.append_inj' h1 rfl).2
      simp only [List.cons.injEq,and_true] at this
      exact ⟨u,by rw [hu,this]⟩
     ·refine ((P.inv h (j+1) hj).sh e).2 ⟨((h.cA _ _).1 he).1, .inr ?_⟩
      rw [h3,((h.cA _ _).1 he).2];simp
   ·rw [h3] at hm;exact absurd hm hp
end
section
variable (h:P.Ok) {L R:Int→Int} {f0 f1:Int} {low:Int→Int} (F:P.gm L R f0 f1 low) {e f:Int} (he:P.E e) (hf:P.E f)
include h F he hf
end
section
variable (h:P.Ok) {L R:Int→Int} {f0 f1:Int} {low:Int→Int} (F:P.gm L R f0 f1 low) {e f:Int} (he:P.E e) (hf:P.E f)
include h F he hf
end
end Go.Ab
end
section
namespace Go.Ab
open Go.Proofs
attribute [local congr] ACall.congr gd.congr Nx.congr
set_option maxRecDepth 10000
abbrev It:=Int × Int × Int
def rT (t:It):List D:= [.sc (.int .i64 t.1), .sc (.int .i64 t.2.1), .sc (.int .i64 t.2.2)]
def eT (t:It):AV:= .agg [.d (.sc (.int .i64 t.1)), .d (.sc (.int .i64 t.2.1)), .d (.sc (.int .i64 t.2.2))]
def sT (ts:List It):D:= .sl 3 (ts.map rT)
theorem getD_rT (ps:List It) (i:Nat):(ps.map rT).getD i [.sc (.int .i64 0), .sc (.int .i64 0), .sc (.int .i64 0)]=rT (ps.getD i (0,0,0)):=by
 simp only [List.getD_eq_getElem?_getD,List.getElem?_map]
 cases ps[i]? <;>rfl
theorem rT_eq (t:It):rT t= [.sc (.int .i64 t.1), .sc (.int .i64 t.2.1), .sc (.int .i64 t.2.2)]:=rfl
attribute [go_sem] getD_rT rT_eq eT sT
theorem GP {l:List Int} :∀r∈l.map rI,∀x∈r,∃v,x=D.sc v:=by
 intro r hr x hx
 obtain ⟨y,_,rfl⟩:=List.mem_map.1 hr
 simp only [rI,List.mem_singleton] at hx
 exact ⟨_,hx⟩
theorem GQ {l:List It} :∀r∈l.map rT,∀x∈r,∃v,x=D.sc v:=by
 intro r hr x hx
 obtain ⟨y,_,rfl⟩:=List.mem_map.1 hr
 simp only [rT,List.mem_cons,List.not_mem_nil,or_false] at hx
 rcases hx with h|h|h<;>exact ⟨_,h⟩
theorem aV {α:Type} {l:List α} {m:Nat} {d:α} (h:m<l.length):l.getD m d∈l:=by
 rw [List.getD_eq_getElem?_getD,List.getElem?_eq_getElem h];exact List.getElem_mem h
theorem ql (ps:List It) (hl:ps.length≤1000000):
 Spec Tryz.prog 142 (Args [.d (sT ps)]) [] (.ref 10000) [(10000, .tip 92 3 (ps.map rT))]:=by
 (refine Spec.A6 (C:=T.cfg [] []) (rs:= [.t 2]) [(10000,7)] (T.ai _ _) Tryz.func142 rfl rfl Tryz.ntmps142 Tryz.results142 (by simp [AObj.isNest]) (by simp [AObj.isNest]) (by first|(simp [look];done)|(simp [asN];done)|(intro l hl;simp only [asN];repeat (rw [if_neg (fun e=>by subst e;simp [look] at hl)]))) (by first|(simp [look];done)|(simp [asN];done)|(intro l hl;simp only [asN];repeat (rw [if_neg (fun e=>by subst e;simp [look] at hl)]))) (by kernel_rfl) T.mixed fun X hX hP hC aK cw=> ?_)
 repeat' (first|(show cl _ .ret _ _;(try simp only [go_sem,simprocAttr]);refine iN hX 2 7 (.tip 92 3 []) ?_ ?_ (by decide) ⟨92,3,by decide, .inr rfl⟩ ?_;(iterate 2 (focus (simp only [go_sem,simprocAttr];done)));simp only [go_sem,simprocAttr])|refine Rn.p ?_|(with_reducible apply And.intro)|((first|(refine hK _ ?_;clear hK K)|with_reducible intro K hK|refine Rs.p ?_|((with_reducible first|apply oP|apply oQ);exact rfl));try simp only [go_sem,simprocAttr])|((with_reducible refine oD ?_ ?_);kernel_rfl)|((with_reducible intro h);try simp only [go_sem,simprocAttr] at h)|omega|intro h)
 exact h.symm
theorem kM {m:List (Nat × AObj)} (hR:bA m) (f:Nat) (caps:List AV) (g:It→Bool) (ps:List It) (hf:∀p∈ps,Spec Tryz.prog f (Args (eT p::caps)) m (eB (g p)) m) (hl:ps.length≤9223372036854775807):
 Spec Tryz.prog 219 (Args [.d (sT ps), .fn f [] caps]) m (eN (bV g ps)) m:=by
 (refine Spec.hd (C:=T.cfg [] []) (rs:= [.t 4]) (T.ai _ _) Tryz.func219 rfl rfl Tryz.ntmps219 Tryz.results219 (fun p hp=>⟨(bA.low hR p hp).1,bA.nest hR p hp⟩) (fun p hp=>⟨(bA.low hR p hp).2,bA.nest hR p hp⟩) (by kernel_rfl) T.mixed fun X hX hP hC aK cw=> ?_)
 repeat' (first|refine Rn.p ?_|(with_reducible apply And.intro)|((first|(refine hK _ ?_;clear hK K)|with_reducible intro K hK|refine Rs.p ?_|((with_reducible first|apply oP|apply oQ);exact rfl));try simp only [go_sem,simprocAttr])|((with_reducible refine oD ?_ ?_);kernel_rfl)|((with_reducible intro h);try simp only [go_sem,simprocAttr] at h)|omega|intro h)
 refine ag (fun k:Nat=>k≤ps.length∧∀j,j<k→g (ps.getD j (0,0,0))=false) (fun k=>⟨[(0, .d (sT ps)),(1, .fn f [] caps),(7,eN ps.length),(8,eN k)],m⟩) (fun k=>ps.length - k) 0 (by simp) ?_ ?_
 ·(refine ⟨bL ?_,fun _ _ h=>h⟩;simp [go_sem,simprocAttr])
 rintro k ⟨hk,hg⟩
 rcases Nat.lt_or_ge k ps.length with hlt|hge
 ·have hb:decide ((k:Int)<(ps.length:Int))=true:=decide_eq_true (by omega)
  have hf':=hf (ps.getD k (0,0,0)) (aV hlt)
  repeat' (first|refine Rn.p ?_|(with_reducible apply And.intro)|((first|(refine hK _ ?_;clear hK K)|with_reducible intro K hK|refine Rs.p ?_|((with_reducible first|apply oP|apply oQ);exact rfl)|(first|(refine bf hX hC hP hR (hf') rfl rfl rfl ?_ ?_ rfl rfl ?_;(focus (simp only [go_sem,simprocAttr,hb];done));(focus (first|(intro p hp;exact aM (bA.nd hR) hp)|(simp [go_sem,simprocAttr,hb];done))))|(refine bf hX hC hP hR (hf') rfl rfl rfl ?_ ?_ ?_ rfl ?_;(focus (simp only [go_sem,simprocAttr,hb];done));(focus (first|(intro p hp;exact aM (bA.nd hR) hp)|(simp [go_sem,simprocAttr,hb];done)));(focus (simp [go_sem,simprocAttr,hb];done)))));try simp only [go_sem,simprocAttr,hb])|((with_reducible refine oD ?_ ?_);kernel_rfl)|((with_reducible intro h);try simp only [go_sem,simprocAttr,hb] at h)|omega|intro h)
  ·exact (dK (by omega) hg h).symm
  ·exact fk hR
  ·refine ⟨k+1,⟨by omega,fun j hj=> ?_⟩, ?_,by omega⟩
   ·by_cases hjk:j=k
    ·subst hjk;exact h
    ·exact hg j (by omega)
   ·(refine ⟨bL ?_,fun _ _ h=>h⟩;simp [go_sem,simprocAttr,hb])
 ·have hb:decide ((k:Int)<(ps.length:Int))=false:=decide_eq_false (by omega)
  repeat' (first|refine Rn.p ?_|(with_reducible apply And.intro)|((first|(refine hK _ ?_;clear hK K)|with_reducible intro K hK|refine Rs.p ?_|((with_reducible first|apply oP|apply oQ);exact rfl)|(first|(refine bf hX hC hP hR (hf') rfl rfl rfl ?_ ?_ rfl rfl ?_;(focus (simp only [go_sem,simprocAttr,hb];done));(focus (first|(intro p hp;exact aM (bA.nd hR) hp)|(simp [go_sem,simprocAttr,hb];done))))|(refine bf hX hC hP hR (hf') rfl rfl rfl ?_ ?_ ?_ rfl ?_;(focus (simp only [go_sem,simprocAttr,hb];done));(focus (first|(intro p hp;exact aM (bA.nd hR) hp)|(simp [go_sem,simprocAttr,hb];done)));(focus (simp [go_sem,simprocAttr,hb];done)))));try simp only [go_sem,simprocAttr,hb])|((with_reducible refine oD ?_ ?_);kernel_rfl)|((with_reducible intro h);try simp only [go_sem,simprocAttr,hb] at h)|omega|intro h)
  ·exact (cG (0,0,0) fun j hj=>hg j (by omega)).symm
  ·exact fk hR
theorem nr {m:List (Nat × AObj)} (hR:bA m) (f:Nat) (caps:List AV) (g:It→Bool) (ps:List It) (hf:∀p∈ps,Spec Tryz.prog f (Args (eT p::caps)) m (eB (g p)) m) (hl:ps.length≤9223372036854775807):
 Spec Tryz.prog 205 (Args [.d (sT ps), .fn f [] caps]) m (eB (ps.any g)) m:=by
 (refine Spec.hd (C:=T.cfg [] []) (rs:= [.t 4]) (T.ai _ _) Tryz.func205 rfl rfl Tryz.ntmps205 Tryz.results205 (fun p hp=>⟨(bA.low hR p hp).1,bA.nest hR p hp⟩) (fun p hp=>⟨(bA.low hR p hp).2,bA.nest hR p hp⟩) (by kernel_rfl) T.mixed fun X hX hP hC aK cw=> ?_)
 repeat' (first|refine Rn.p ?_|(with_reducible apply And.intro)|((first|(refine hK _ ?_;clear hK K)|with_reducible intro K hK|refine Rs.p ?_|((with_reducible first|apply oP|apply oQ);exact rfl)|(first|(refine bf hX hC hP hR (kM hR f caps g ps hf hl) rfl rfl rfl ?_ ?_ rfl rfl ?_;(focus (simp only [go_sem,simprocAttr];done));(focus (first|(intro p hp;exact aM (bA.nd hR) hp)|(simp [go_sem,simprocAttr];done))))|(refine bf hX hC hP hR (kM hR f caps g ps hf hl) rfl rfl rfl ?_ ?_ ?_ rfl ?_;(focus (simp only [go_sem,simprocAttr];done));(focus (first|(intro p hp;exact aM (bA.nd hR) hp)|(simp [go_sem,simprocAttr];done)));(focus (simp [go_sem,simprocAttr];done)))));try simp only [go_sem,simprocAttr])|((with_reducible refine oD ?_ ?_);kernel_rfl)|((with_reducible intro h);try simp only [go_sem,simprocAttr] at h)|omega|intro h)
 ·exact gR g ps
 ·exact fk hR
theorem iu (n:Int) (h0:0<n) (hl:n≤1000000):Spec Tryz.prog 207 (Args [.nil 92,eN n]) [] (.ref 10000) [(10000, .own 92 3 [])]:=by
 (refine Spec.A6 (C:=T.cfg [] []) (rs:= [.t 4]) [(10000,25)] (T.ai _ _) Tryz.func207 rfl rfl Tryz.ntmps207 Tryz.results207 (by simp [AObj.isNest]) (by simp [AObj.isNest]) (by first|(simp [look];done)|(simp [asN];done)|(intro l hl;simp only [asN];repeat (rw [if_neg (fun e=>by subst e;simp [look] at hl)]))) (by first|(simp [look];done)|(simp [asN];done)|(intro l hl;simp only [asN];repeat (rw [if_neg (fun e=>by subst e;simp [look] at hl)]))) (by kernel_rfl) T.mixed fun X hX hP hC aK cw=> ?_)
 repeat' (first|refine Rn.p ?_|(with_reducible apply And.intro)|((first|(refine hK _ ?_;clear hK K)|with_reducible intro K hK|refine Rs.p ?_|((with_reducible first|apply oP|apply oQ);exact rfl));try simp only [go_sem,simprocAttr])|((with_reducible refine oD ?_ ?_);kernel_rfl)|((with_reducible intro h);try simp only [go_sem,simprocAttr] at h)|omega|intro h)
def vT (ls:List (List It)):List (List D):=ls.map fun l=> [sT l]
theorem vT_length {ls:List (List It)} :(vT ls).length=ls.length:=by simp [vT]
theorem mc {ls:List (List It)} {k:Nat} (h:k<ls.length) (d:List D):(vT ls).getD k d= [sT (ls.getD k [])]:=by
 simp [vT,List.getD_eq_getElem?_getD,List.getElem?_eq_getElem h]
attribute [go_sem] vT_length
theorem sG {α:Type} {ls:List (List α)} {k:Nat} (h:k<ls.length):(ls.take (k+1)).flatten=(ls.take k).flatten++ls.getD k []:=by
 rw [List.take_add_one,List.flatten_append,List.getElem?_eq_getElem h,List.getD_eq_getElem?_getD,List.getElem?_eq_getElem h]
 simp
theorem oI {α:Type} {ls:List (List α)} {k:Nat} :(ls.take k).flatten.length≤ls.flatten.length:=by
 have:=congrArg (fun x=>x.flatten.length) (List.take_append_drop k ls)
 simp only [List.flatten_append,List.length_append] at this
 omega
theorem vA (ls:List (List It)) (hn:ls.length≤1000) (h0:0<ls.flatten.length) (hl:ls.flatten.length≤1000000):Spec Tryz.prog 191 (Args [.d (.sl 1 (vT ls))]) [] (.d (sT ls.flatten)) []:=by
 (refine Spec.hd (C:=T.cfg [] []) (rs:= [.t 2]) (T.ai _ _) Tryz.func191 rfl rfl Tryz.ntmps191 Tryz.results191 (by simp [AObj.isNest]) (by simp [AObj.isNest]) (by kernel_rfl) T.mixed fun X hX hP hC aK cw=> ?_)
 repeat' (first|refine Rn.p ?_|(with_reducible apply And.intro)|((first|(refine hK _ ?_;clear hK K)|with_reducible intro K hK|refine Rs.p ?_|((with_reducible first|apply oP|apply oQ);exact rfl)|(refine az hX hC hP [(10000,33)] (iu (ls.flatten.length:Int) (by omega) (by omega)) rfl rfl rfl ?_ ?_ ?_ ?_ ?_ ?_ ?_ ?_ ?_ ?_ ?_ ?_ ?_ ?_;(focus (simp only [go_sem,simprocAttr];done));(iterate 12 (focus (simp [go_sem,simprocAttr];done)));try simp only [List.map_cons,List.map_nil]));try simp only [go_sem,simprocAttr])|((with_reducible refine oD ?_ ?_);kernel_rfl)|((with_reducible intro h);try simp only [go_sem,simprocAttr] at h)|omega|intro h)
 refine ag (fun k:Nat=>k≤ls.length) (fun k=>⟨[(0, .d (.sl 1 (vT ls))),(9, .d (.sl 1 (vT ls))),(10,eN ls.length),(11,eN k),(3,eN ((ls.take k).flatten.length))], []⟩) (fun k=>ls.length - k) 0 (by omega) ?_ ?_
 ·(refine Le.of ?_ ?_<;>simp [go_sem,simprocAttr])
 ·rintro k hk
  rcases Nat.lt_or_ge k ls.length with hlt|hge
  ·have hb:decide ((k:Int)<(ls.length:Int))=true:=decide_eq_true (by omega)
   have hv:=mc hlt
   have hf:=sG hlt
   have K9:=oI (ls:=ls) (k:=k)
   have HN:=oI (ls:=ls) (k:=k+1)
   rw [hf,List.length_append] at HN
   have hneg:decide (((ls.take k).flatten.length:Int)+((ls.getD k []).length:Int)<0)=false:=decide_eq_false (by omega)
   repeat' (first|refine Rn.p ?_|(with_reducible apply And.intro)|((first|(refine hK _ ?_;clear hK K)|with_reducible intro K hK|refine Rs.p ?_|((with_reducible first|apply oP|apply oQ);exact rfl)|(refine az hX hC hP [(10000,33)] (iu (ls.flatten.length:Int) (by omega) (by omega)) rfl rfl rfl ?_ ?_ ?_ ?_ ?_ ?_ ?_ ?_ ?_ ?_ ?_ ?_ ?_ ?_;(focus (simp only [go_sem,simprocAttr,hb,hv,hneg];done));(iterate 12 (focus (simp [go_sem,simprocAttr,hb,hv,hneg];done)));try simp only [List.map_cons,List.map_nil]));try simp only [go_sem,simprocAttr,hb,hv,hneg])|((with_reducible refine oD ?_ ?_);kernel_rfl)|((with_reducible intro h);try simp only [go_sem,simprocAttr,hb,hv,hneg] at h)|omega|intro h)
   refine ⟨k+1,by omega, ?_,by omega⟩
   simp only [hf]
   refine Le.of ?_ ?_<;>simp [go_sem,simprocAttr,hb,hv,hneg]
  ·have hb:decide ((k:Int)<(ls.length:Int))=false:=decide_eq_false (by omega)
   have ht:ls.take k=ls:=List.take_of_length_le (by omega)
   repeat' (first|refine Rn.p ?_|(with_reducible apply And.intro)|((first|(refine hK _ ?_;clear hK K)|with_reducible intro K hK|refine Rs.p ?_|((with_reducible first|apply oP|apply oQ);exact rfl)|(refine az hX hC hP [(10000,33)] (iu (ls.flatten.length:Int) (by omega) (by omega)) rfl rfl rfl ?_ ?_ ?_ ?_ ?_ ?_ ?_ ?_ ?_ ?_ ?_ ?_ ?_ ?_;(focus (simp only [go_sem,simprocAttr,hb,ht];done));(iterate 12 (focus (simp [go_sem,simprocAttr,hb,ht];done)));try simp only [List.map_cons,List.map_nil]));try simp only [go_sem,simprocAttr,hb,ht])|((with_reducible refine oD ?_ ?_);kernel_rfl)|((with_reducible intro h);try simp only [go_sem,simprocAttr,hb,ht] at h)|omega|intro h)
   refine ag (fun k:Nat=>k≤ls.length) (fun k=>⟨[(25, .d (.sl 1 (vT ls))),(26,eN ls.length),(27,eN k),(6, .ref 33)], [(33, .own 92 3 ((ls.take k).flatten.map rT))]⟩) (fun k=>ls.length - k) 0 (by omega) ?_ ?_
   ·(refine Le.of ?_ ?_<;>simp [go_sem,simprocAttr,hb,ht])
   ·clear hb ht hk hge
    rintro k hk
    rcases Nat.lt_or_ge k ls.length with hlt|hge
    ·have hb:decide ((k:Int)<(ls.length:Int))=true:=decide_eq_true (by omega)
     have hv:=mc hlt
     have hf:=sG hlt
     have K9:=oI (ls:=ls) (k:=k)
     have HN:=oI (ls:=ls) (k:=k+1)
     rw [hf,List.length_append] at HN
     repeat' (first|refine Rn.p ?_|(with_reducible apply And.intro)|((first|(refine hK _ ?_;clear hK K)|with_reducible intro K hK|refine Rs.p ?_|((with_reducible first|apply oP|apply oQ);exact rfl)|(refine az hX hC hP [(10000,33)] (iu (ls.flatten.length:Int) (by omega) (by omega)) rfl rfl rfl ?_ ?_ ?_ ?_ ?_ ?_ ?_ ?_ ?_ ?_ ?_ ?_ ?_ ?_;(focus (simp only [go_sem,simprocAttr,hb,hv];done));(iterate 12 (focus (simp [go_sem,simprocAttr,hb,hv];done)));try simp only [List.map_cons,List.map_nil]));try simp only [go_sem,simprocAttr,hb,hv])|((with_reducible refine oD ?_ ?_);kernel_rfl)|((with_reducible intro h);try simp only [go_sem,simprocAttr,hb,hv] at h)|omega|intro h)
     refine ⟨k+1,by omega, ?_,by omega⟩
     simp only [hf]
     refine Le.of ?_ ?_<;>simp [go_sem,simprocAttr,hb,hv]
    ·have hb:decide ((k:Int)<(ls.length:Int))=false:=decide_eq_false (by omega)
     have ht:ls.take k=ls:=List.take_of_length_le (by omega)
     repeat' (first|refine Rn.p ?_|(with_reducible apply And.intro)|((first|(refine hK _ ?_;clear hK K)|with_reducible intro K hK|refine Rs.p ?_|((with_reducible first|apply oP|apply oQ);exact rfl)|(refine az hX hC hP [(10000,33)] (iu (ls.flatten.length:Int) (by omega) (by omega)) rfl rfl rfl ?_ ?_ ?_ ?_ ?_ ?_ ?_ ?_ ?_ ?_ ?_ ?_ ?_ ?_;(focus (simp only [go_sem,simprocAttr,hb,ht];done));(iterate 12 (focus (simp [go_sem,simprocAttr,hb,ht];done)));try simp only [List.map_cons,List.map_nil]));try simp only [go_sem,simprocAttr,hb,ht])|((with_reducible refine oD ?_ ?_);kernel_rfl)|((with_reducible intro h);try simp only [go_sem,simprocAttr,hb,ht] at h)|omega|intro h)
end Go.Ab
end
section
namespace Go.Ab
open Go.Proofs
attribute [local congr] ACall.congr gd.congr Nx.congr
set_option maxRecDepth 10000
set_option maxHeartbeats 1000000
structure Fr where
 row:List It
 pl:List Int
def jL (g:Gr) (f:Fr):D:= .pt [sT f.row,vw g,sI f.pl]
def cJ (row:List It) (x:Int):Nat→Int × Int × Int
 |0=>(-1,0,0)
 |k+1=>if (row.getD k (0,0,0)).2.2=x then (if (cJ row x k).1= -1 then (k:Int) else (cJ row x k).1,(k:Int)+1,(cJ row x k).2.2+1) else cJ row x k
def aZ (row:List It) (x:Int):Int × Int × Int:=cJ row x row.length
theorem iw {row:List It} {x:Int} {k:Nat} :cJ row x (k+1)=if (row.getD k (0,0,0)).2.2=x then (if (cJ row x k).1= -1 then (k:Int) else (cJ row x k).1,(k:Int)+1,(cJ row x k).2.2+1) else cJ row x k:=rfl
theorem c8 {row:List It} {x:Int} :∀k:Nat,(cJ row x k=(-1,0,0)∧∀j,j<k→(row.getD j (0,0,0)).2.2≠x)∨
 ∃a b c:Nat,cJ row x k=((a:Int),(b:Int),(c:Int))∧a<b∧b≤k∧0<c∧c≤k∧(row.getD a (0,0,0)).2.2=x∧(row.getD (b - 1) (0,0,0)).2.2=x∧(∀j,j<a→(row.getD j (0,0,0)).2.2≠x)∧(∀j,b≤j→j<k→(row.getD j (0,0,0)).2.2≠x)
 |0=> .inl ⟨rfl,fun j hj=>by omega⟩
 |k+1=>by
  rw [iw]
  by_cases hx:(row.getD k (0,0,0)).2.2=x
  ·rw [if_pos hx]
   right
   rcases c8 (row:=row) (x:=x) k with ⟨h1,h2⟩|⟨a,b,c,h1,h2,h3,h4,h5,h6,h7,h8,h9⟩
   ·refine ⟨k,k+1,1,by rw [h1];rfl,by omega,by omega,by omega,by omega,hx,hx,h2,fun j h1 h2=>by omega⟩
   ·refine ⟨a,k+1,c+1,by rw [h1];simp only [Prod.mk.injEq];exact ⟨by rw [if_neg (by omega)],by omega,by omega⟩,by omega,by omega,by omega,by omega,h6,hx,h8,fun j h1 h2=>by omega⟩
  ·rw [if_neg hx]
   rcases c8 (row:=row) (x:=x) k with ⟨h1,h2⟩|⟨a,b,c,h1,h2,h3,h4,h5,h6,h7,h8,h9⟩
   ·refine .inl ⟨h1,fun j hj=> ?_⟩
    by_cases hjk:j=k
    ·subst hjk;exact hx
    ·exact h2 j (by omega)
   ·refine .inr ⟨a,b,c,h1,h2,by omega,h4,by omega,h6,h7,h8,fun j P3 RD=> ?_⟩
    by_cases hjk:j=k
    ·subst hjk;exact hx
    ·exact h9 j P3 (by omega)
theorem dZ (ds:List D) (row:List It) (x:Int) (hl:row.length≤1000000):Spec Tryz.prog 139 (Args [.d (.pt (sT row::ds)),eN x]) [] (.tup [eN (aZ row x).1,eN (aZ row x).2.1,eN (aZ row x).2.2]) []:=by
 (refine Spec.hd (C:=T.cfg [] []) (rs:= [.t 4, .t 5, .t 6]) (T.ai _ _) Tryz.func139 rfl rfl Tryz.ntmps139 Tryz.results139 (by simp [AObj.isNest]) (by simp [AObj.isNest]) (by kernel_rfl) T.mixed fun X hX hP hC aK cw=> ?_)
 repeat' (first|refine Rn.p ?_|(with_reducible apply And.intro)|((first|(refine hK _ ?_;clear hK K)|with_reducible intro K hK|refine Rs.p ?_|((with_reducible first|apply oP|apply oQ);exact rfl));try simp only [go_sem,simprocAttr,aZ])|((with_reducible refine oD ?_ ?_);kernel_rfl)|((with_reducible intro h);try simp only [go_sem,simprocAttr,aZ] at h)|omega|intro h)
 refine ag (fun k:Nat=>k≤row.length) (fun k=>⟨[(1,eN x),(12, .d (sT row)),(13,eN row.length),(14,eN k),(4,eN (cJ row x k).1),(5,eN (cJ row x k).2.1),(6,eN (cJ row x k).2.2)], []⟩) (fun k=>row.length - k) 0 (by simp) ?_ ?_
 ·refine Le.of ?_ ?_<;>simp [go_sem,simprocAttr,aZ,cJ]
 rintro k hk
 rcases Nat.lt_or_ge k row.length with hlt|hge
 ·have hb:decide ((k:Int)<(row.length:Int))=true:=decide_eq_true (by omega)
  have hok:=c8 (row:=row) (x:=x) k
  have hc: -1≤(cJ row x k).2.2∧(cJ row x k).2.2≤k:=by
   rcases hok with ⟨h1,_⟩|⟨a,b,c,h1,_,_,_,_,_⟩<;>rw [h1]<;>simp only<;>omega
  have dV:=iw (row:=row) (x:=x) (k:=k)
  repeat' (first|refine Rn.p ?_|(with_reducible apply And.intro)|((first|(refine hK _ ?_;clear hK K)|with_reducible intro K hK|refine Rs.p ?_|((with_reducible first|apply oP|apply oQ);exact rfl));try simp only [go_sem,simprocAttr,hb])|((with_reducible refine oD ?_ ?_);kernel_rfl)|((with_reducible intro h);try simp only [go_sem,simprocAttr,hb] at h)|omega|intro h)
  all_goals (first|rw [if_neg (by assumption)] at dV|(rw [if_pos (by assumption)] at dV;first|rw [if_pos (by assumption)] at dV|rw [if_neg (by assumption)] at dV))
  all_goals (refine ⟨k+1,by omega, ?_,by omega⟩;refine Le.of ?_ ?_<;>simp [go_sem,simprocAttr,hb,dV])
 ·have hb:decide ((k:Int)<(row.length:Int))=false:=decide_eq_false (by omega)
  obtain rfl:k=row.length:=by omega
  repeat' (first|refine Rn.p ?_|(with_reducible apply And.intro)|((first|(refine hK _ ?_;clear hK K)|with_reducible intro K hK|refine Rs.p ?_|((with_reducible first|apply oP|apply oQ);exact rfl));try simp only [go_sem,simprocAttr,hb,aZ])|((with_reducible refine oD ?_ ?_);kernel_rfl)|((with_reducible intro h);try simp only [go_sem,simprocAttr,hb,aZ] at h)|omega|intro h)
def kB (x:Int) (t:It):Bool:=decide (t.2.2≠x)&&decide (t.2.2≠ -1)
def qm (row:List It) (x:Int) (a b:Nat):Bool:= !((row.take b).drop a).any (kB x)
theorem Bv (x:Int):bA [(10000, .rob [eN x])]:=⟨by simp [AObj.ro],by simp [nodupM,look],by simp,by simp [AObj.ids,AV.ids,AV.idss,eN]⟩
theorem y3 (x:Int) (t:It):Spec Tryz.prog 206 (Args [eT t, .ptr 10000 0]) [(10000, .rob [eN x])] (eB (kB x t)) [(10000, .rob [eN x])]:=by
 (refine Spec.hd (C:=T.cfg [] []) (rs:= [.t 3]) (T.ai _ _) Tryz.func206 rfl rfl Tryz.ntmps206 Tryz.results206 (fun p hp=>⟨(bA.low (Bv x) p hp).1,bA.nest (Bv x) p hp⟩) (fun p hp=>⟨(bA.low (Bv x) p hp).2,bA.nest (Bv x) p hp⟩) (by kernel_rfl) T.mixed fun X hX hP hC aK cw=> ?_)
 repeat' (first|refine Rn.p ?_|(with_reducible apply And.intro)|((first|(refine hK _ ?_;clear hK K)|with_reducible intro K hK|refine Rs.p ?_|((with_reducible first|apply oP|apply oQ);exact rfl));try simp only [go_sem,simprocAttr])|((with_reducible refine oD ?_ ?_);kernel_rfl)|((with_reducible intro h);try simp only [go_sem,simprocAttr] at h)|omega|intro h)
 all_goals (simp only [kB];first|exact fk (Bv x)|simp [*])
theorem fO (ds:List D) (row:List It) (x:Int) (a b:Nat) (hab:a≤b) (hb:b≤row.length) (hl:row.length≤1000000):Spec Tryz.prog 190 (Args [.d (.pt (sT row::ds)),eN x,eN a,eN b]) [] (eB (qm row x a b)) []:=by
 have ym:sT ((row.take b).drop a)= .sl 3 (((row.map rT).take b).drop a):=by simp [sT,List.map_take,List.map_drop]
 have lZ:((row.take b).drop a).length≤9223372036854775807:=by simp;omega
 (refine Spec.hd (C:=T.cfg [] []) (rs:= [.t 8]) (T.ai _ _) Tryz.func190 rfl rfl Tryz.ntmps190 Tryz.results190 (by simp [AObj.isNest]) (by simp [AObj.isNest]) (by kernel_rfl) T.mixed fun X hX hP hC aK cw=> ?_)
 repeat' (first|refine Rn.p ?_|(with_reducible apply And.intro)|((first|(refine hK _ ?_;clear hK K)|with_reducible intro K hK|refine Rs.p ?_|((with_reducible first|apply oP|apply oQ);exact rfl)|(refine aS hX hC hP [(10000,5)] (nr (Bv x) _ [.ptr 10000 0] (kB x) ((row.take b).drop a) (fun t _=>y3 x t) lZ) rfl rfl rfl ?_ ?_ ?_ ?_ ?_ ?_ rfl rfl ?_ ?_;(focus (simp only [go_sem,simprocAttr,List.map_take,List.map_drop];done));(iterate 6 (focus (simp [go_sem,simprocAttr,List.map_take,List.map_drop];done)));try simp only [List.map_cons,List.map_nil]));try simp only [go_sem,simprocAttr,List.map_take,List.map_drop])|((with_reducible refine oD ?_ ?_);kernel_rfl)|((with_reducible intro h);try simp only [go_sem,simprocAttr,List.map_take,List.map_drop] at h)|omega|intro h)
 rfl
end Go.Ab
end
section
namespace Go.Ab
open Go.Proofs
attribute [local congr] ACall.congr gd.congr Nx.congr
set_option maxRecDepth 10000
set_option maxHeartbeats 2000000
def fP (g:Gr) (f:Fr) (x:Int):Bool:=
 if x<0∨g.n≤x∨x∈f.pl then false else
 decide ((aZ f.row x).2.2=((bq (·.2) g x).length:Int))&&(decide ((bq (·.2) g x).length=0)||qm f.row x (aZ f.row x).1.toNat (aZ f.row x).2.1.toNat)
theorem y4 {f:Edge→Int} {g:Gr} {x:Int} :(bq f g x).length≤g.es.length:=by
 unfold bq
 split
 ·exact jJ
 ·simp
theorem nt (g:Gr) (hm:aP g=true) (f:Fr) (x:Int) (hr:f.row.length≤1000000) (gw:f.pl.length≤1000000):Spec Tryz.prog 138 (Args [.d (jL g f),eN x]) [] (eB (fP g f x)) []:=by
 have hp:f.pl.length≤9223372036854775807:=by omega
 have hn:=aU hm
 unfold jL
 by_cases hx:x<0∨g.n≤x∨x∈f.pl
 ·have hR:fP g f x=false:=if_pos hx
  (refine Spec.hd (C:=T.cfg [] []) (rs:= [.t 4]) (T.ai _ _) Tryz.func138 rfl rfl Tryz.ntmps138 Tryz.results138 (by simp [AObj.isNest]) (by simp [AObj.isNest]) (by kernel_rfl) T.mixed fun X hX hP hC aK cw=> ?_)
  by_cases h1:x<0
  ·have ak:decide (x<0)=true:=decide_eq_true h1
   repeat' (first|refine Rn.p ?_|(with_reducible apply And.intro)|((first|(refine hK _ ?_;clear hK K)|with_reducible intro K hK|refine Rs.p ?_|((with_reducible first|apply oP|apply oQ);exact rfl)|refine aa hX hC hP (jK g hm x) rfl rfl rfl (by simp only [go_sem,simprocAttr,au,hR,ak]) rfl ?_|refine aa hX hC hP (bp f.pl x hp) rfl rfl rfl (by simp only [go_sem,simprocAttr,au,hR,ak]) rfl ?_|refine aa hX hC hP (dZ [vw g,sI f.pl] f.row x hr) rfl rfl rfl (by simp only [go_sem,simprocAttr,au,hR,ak]) rfl ?_|refine aa hX hC hP (fO [vw g,sI f.pl] f.row x a b hab kH hr) rfl rfl rfl (by simp only [go_sem,simprocAttr,au,hR,ak]) rfl ?_);try simp only [go_sem,simprocAttr,au,hR,ak])|((with_reducible refine oD ?_ ?_);kernel_rfl)|((with_reducible intro h);try simp only [go_sem,simprocAttr,au,hR,ak] at h)|omega|intro h)
  have ak:decide (x<0)=false:=decide_eq_false h1
  by_cases h2:g.n≤x
  ·have an:decide (g.n≤x)=true:=decide_eq_true h2
   repeat' (first|refine Rn.p ?_|(with_reducible apply And.intro)|((first|(refine hK _ ?_;clear hK K)|with_reducible intro K hK|refine Rs.p ?_|((with_reducible first|apply oP|apply oQ);exact rfl)|refine aa hX hC hP (jK g hm x) rfl rfl rfl (by simp only [go_sem,simprocAttr,au,hR,ak,an]) rfl ?_|refine aa hX hC hP (bp f.pl x hp) rfl rfl rfl (by simp only [go_sem,simprocAttr,au,hR,ak,an]) rfl ?_|refine aa hX hC hP (dZ [vw g,sI f.pl] f.row x hr) rfl rfl rfl (by simp only [go_sem,simprocAttr,au,hR,ak,an]) rfl ?_|refine aa hX hC hP (fO [vw g,sI f.pl] f.row x a b hab kH hr) rfl rfl rfl (by simp only [go_sem,simprocAttr,au,hR,ak,an]) rfl ?_);try simp only [go_sem,simprocAttr,au,hR,ak,an])|((with_reducible refine oD ?_ ?_);kernel_rfl)|((with_reducible intro h);try simp only [go_sem,simprocAttr,au,hR,ak,an] at h)|omega|intro h)
  have an:decide (g.n≤x)=false:=decide_eq_false h2
  have h3:x∈f.pl:=by rcases hx with h|h|h;exact absurd h h1;exact absurd h h2;exact h
  have bH:decide (x∈f.pl)=true:=decide_eq_true h3
  repeat' (first|refine Rn.p ?_|(with_reducible apply And.intro)|((first|(refine hK _ ?_;clear hK K)|with_reducible intro K hK|refine Rs.p ?_|((with_reducible first|apply oP|apply oQ);exact rfl)|refine aa hX hC hP (jK g hm x) rfl rfl rfl (by simp only [go_sem,simprocAttr,au,hR,ak,an,bH]) rfl ?_|refine aa hX hC hP (bp f.pl x hp) rfl rfl rfl (by simp only [go_sem,simprocAttr,au,hR,ak,an,bH]) rfl ?_|refine aa hX hC hP (dZ [vw g,sI f.pl] f.row x hr) rfl rfl rfl (by simp only [go_sem,simprocAttr,au,hR,ak,an,bH]) rfl ?_|refine aa hX hC hP (fO [vw g,sI f.pl] f.row x a b hab kH hr) rfl rfl rfl (by simp only [go_sem,simprocAttr,au,hR,ak,an,bH]) rfl ?_);try simp only [go_sem,simprocAttr,au,hR,ak,an,bH])|((with_reducible refine oD ?_ ?_);kernel_rfl)|((with_reducible intro h);try simp only [go_sem,simprocAttr,au,hR,ak,an,bH] at h)|omega|intro h)
 ·have ak:decide (x<0)=false:=decide_eq_false fun h=>hx (.inl h)
  have an:decide (g.n≤x)=false:=decide_eq_false fun h=>hx (.inr (.inl h))
  have bH:decide (x∈f.pl)=false:=decide_eq_false fun h=>hx (.inr (.inr h))
  have hR:fP g f x=(decide ((aZ f.row x).2.2=((bq (·.2) g x).length:Int))&&(decide ((bq (·.2) g x).length=0)||qm f.row x (aZ f.row x).1.toNat (aZ f.row x).2.1.toNat)):=if_neg hx
  by_cases h4:(aZ f.row x).2.2=((bq (·.2) g x).length:Int)
  ·have hb4:decide ((aZ f.row x).2.2=((bq (·.2) g x).length:Int))=true:=decide_eq_true h4
   by_cases h5:(bq (·.2) g x).length=0
   ·have Bw:decide (((bq (·.2) g x).length:Int)=0)=true:=decide_eq_true (by omega)
    rw [hb4,decide_eq_true h5] at hR
    (refine Spec.hd (C:=T.cfg [] []) (rs:= [.t 4]) (T.ai _ _) Tryz.func138 rfl rfl Tryz.ntmps138 Tryz.results138 (by simp [AObj.isNest]) (by simp [AObj.isNest]) (by kernel_rfl) T.mixed fun X hX hP hC aK cw=> ?_)
    repeat' (first|refine Rn.p ?_|(with_reducible apply And.intro)|((first|(refine hK _ ?_;clear hK K)|with_reducible intro K hK|refine Rs.p ?_|((with_reducible first|apply oP|apply oQ);exact rfl)|refine aa hX hC hP (jK g hm x) rfl rfl rfl (by simp only [go_sem,simprocAttr,au,hR,ak,an,bH,hb4,Bw]) rfl ?_|refine aa hX hC hP (bp f.pl x hp) rfl rfl rfl (by simp only [go_sem,simprocAttr,au,hR,ak,an,bH,hb4,Bw]) rfl ?_|refine aa hX hC hP (dZ [vw g,sI f.pl] f.row x hr) rfl rfl rfl (by simp only [go_sem,simprocAttr,au,hR,ak,an,bH,hb4,Bw]) rfl ?_|refine aa hX hC hP (fO [vw g,sI f.pl] f.row x a b hab kH hr) rfl rfl rfl (by simp only [go_sem,simprocAttr,au,hR,ak,an,bH,hb4,Bw]) rfl ?_);try simp only [go_sem,simprocAttr,au,hR,ak,an,bH,hb4,Bw])|((with_reducible refine oD ?_ ?_);kernel_rfl)|((with_reducible intro h);try simp only [go_sem,simprocAttr,au,hR,ak,an,bH,hb4,Bw] at h)|omega|intro h)
   ·have Bw:decide (((bq (·.2) g x).length:Int)=0)=false:=decide_eq_false (by omega)
    rcases c8 (row:=f.row) (x:=x) f.row.length with ⟨h6,_⟩|⟨a,b,c,h6,hab,kH,_⟩
    ·exfalso
     have:(aZ f.row x).2.2=0:=by unfold aZ;rw [h6]
     omega
    ·have hsp:aZ f.row x=((a:Int),(b:Int),(c:Int)):=h6
     have hab:a≤b:=by omega
     rw [hb4,decide_eq_false h5,hsp] at hR
     simp only [Bool.true_and,Bool.false_or,Int.toNat_natCast] at hR
     rw [hsp] at hb4
     (refine Spec.hd (C:=T.cfg [] []) (rs:= [.t 4]) (T.ai _ _) Tryz.func138 rfl rfl Tryz.ntmps138 Tryz.results138 (by simp [AObj.isNest]) (by simp [AObj.isNest]) (by kernel_rfl) T.mixed fun X hX hP hC aK cw=> ?_)
     repeat' (first|refine Rn.p ?_|(with_reducible apply And.intro)|((first|(refine hK _ ?_;clear hK K)|with_reducible intro K hK|refine Rs.p ?_|((with_reducible first|apply oP|apply oQ);exact rfl)|refine aa hX hC hP (jK g hm x) rfl rfl rfl (by simp only [go_sem,simprocAttr,au,hR,ak,an,bH,hb4,Bw,hsp]) rfl ?_|refine aa hX hC hP (bp f.pl x hp) rfl rfl rfl (by simp only [go_sem,simprocAttr,au,hR,ak,an,bH,hb4,Bw,hsp]) rfl ?_|refine aa hX hC hP (dZ [vw g,sI f.pl] f.row x hr) rfl rfl rfl (by simp only [go_sem,simprocAttr,au,hR,ak,an,bH,hb4,Bw,hsp]) rfl ?_|refine aa hX hC hP (fO [vw g,sI f.pl] f.row x a b hab kH hr) rfl rfl rfl (by simp only [go_sem,simprocAttr,au,hR,ak,an,bH,hb4,Bw,hsp]) rfl ?_);try simp only [go_sem,simprocAttr,au,hR,ak,an,bH,hb4,Bw,hsp])|((with_reducible refine oD ?_ ?_);kernel_rfl)|((with_reducible intro h);try simp only [go_sem,simprocAttr,au,hR,ak,an,bH,hb4,Bw,hsp] at h)|omega|intro h)
  ·have hb4:decide ((aZ f.row x).2.2=((bq (·.2) g x).length:Int))=false:=decide_eq_false h4
   rw [hb4,Bool.false_and] at hR
   (refine Spec.hd (C:=T.cfg [] []) (rs:= [.t 4]) (T.ai _ _) Tryz.func138 rfl rfl Tryz.ntmps138 Tryz.results138 (by simp [AObj.isNest]) (by simp [AObj.isNest]) (by kernel_rfl) T.mixed fun X hX hP hC aK cw=> ?_)
   repeat' (first|refine Rn.p ?_|(with_reducible apply And.intro)|((first|(refine hK _ ?_;clear hK K)|with_reducible intro K hK|refine Rs.p ?_|((with_reducible first|apply oP|apply oQ);exact rfl)|refine aa hX hC hP (jK g hm x) rfl rfl rfl (by simp only [go_sem,simprocAttr,au,hR,ak,an,bH,hb4]) rfl ?_|refine aa hX hC hP (bp f.pl x hp) rfl rfl rfl (by simp only [go_sem,simprocAttr,au,hR,ak,an,bH,hb4]) rfl ?_|refine aa hX hC hP (dZ [vw g,sI f.pl] f.row x hr) rfl rfl rfl (by simp only [go_sem,simprocAttr,au,hR,ak,an,bH,hb4]) rfl ?_|refine aa hX hC hP (fO [vw g,sI f.pl] f.row x a b hab kH hr) rfl rfl rfl (by simp only [go_sem,simprocAttr,au,hR,ak,an,bH,hb4]) rfl ?_);try simp only [go_sem,simprocAttr,au,hR,ak,an,bH,hb4])|((with_reducible refine oD ?_ ?_);kernel_rfl)|((with_reducible intro h);try simp only [go_sem,simprocAttr,au,hR,ak,an,bH,hb4] at h)|omega|intro h)
theorem Bx (ds:List D) (row:List It) (hr:row.length≤1000000):Spec Tryz.prog 90 (Args [.d (.pt (sT row::ds))]) [] (.ref 10000) [(10000, .tip 92 3 (row.map rT))]:=by
 (refine Spec.A6 (C:=T.cfg [] []) (rs:= [.t 2]) [(10000,7)] (T.ai _ _) Tryz.func90 rfl rfl Tryz.ntmps90 Tryz.results90 (by simp [AObj.isNest]) (by simp [AObj.isNest]) (by first|(simp [look];done)|(simp [asN];done)|(intro l hl;simp only [asN];repeat (rw [if_neg (fun e=>by subst e;simp [look] at hl)]))) (by first|(simp [look];done)|(simp [asN];done)|(intro l hl;simp only [asN];repeat (rw [if_neg (fun e=>by subst e;simp [look] at hl)]))) (by kernel_rfl) T.mixed fun X hX hP hC aK cw=> ?_)
 repeat' (first|refine Rn.p ?_|(with_reducible apply And.intro)|((first|(refine hK _ ?_;clear hK K)|with_reducible intro K hK|refine Rs.p ?_|((with_reducible first|apply oP|apply oQ);exact rfl)|(refine az hX hC hP [(10000,7)] (ql row hr) rfl rfl rfl ?_ ?_ ?_ ?_ ?_ ?_ ?_ ?_ ?_ ?_ ?_ ?_ ?_ ?_;(focus (simp only [go_sem,simprocAttr];done));(iterate 12 (focus (simp [go_sem,simprocAttr];done)));try simp only [List.map_cons,List.map_nil]));try simp only [go_sem,simprocAttr])|((with_reducible refine oD ?_ ?_);kernel_rfl)|((with_reducible intro h);try simp only [go_sem,simprocAttr] at h)|omega|intro h)
end Go.Ab
end
section
namespace Go.Ab
open Go.Proofs
attribute [local congr] ACall.congr gd.congr Nx.congr
set_option maxRecDepth 10000
set_option maxHeartbeats 2000000
theorem cC (l:List Int):Spec Tryz.prog 137 (Args [.d (sI l)]) [] (.fn 189 [] [.ptr 10000 0]) [(10000, .box [.d (sI l)])]:=by
 (refine Spec.A6 (C:=T.cfg [] []) (rs:= [.t 2]) [(10000,1)] (T.ai _ _) Tryz.func137 rfl rfl Tryz.ntmps137 Tryz.results137 (by simp [AObj.isNest]) (by simp [AObj.isNest]) (by first|(simp [look];done)|(simp [asN];done)|(intro l hl;simp only [asN];repeat (rw [if_neg (fun e=>by subst e;simp [look] at hl)]))) (by first|(simp [look];done)|(simp [asN];done)|(intro l hl;simp only [asN];repeat (rw [if_neg (fun e=>by subst e;simp [look] at hl)]))) (by kernel_rfl) T.mixed fun X hX hP hC aK cw=> ?_)
 repeat' (first|refine Rn.p ?_|(with_reducible apply And.intro)|((first|(refine hK _ ?_;clear hK K)|with_reducible intro K hK|refine Rs.p ?_|((with_reducible first|apply oP|apply oQ);exact rfl));try simp only [go_sem,simprocAttr])|((with_reducible refine oD ?_ ?_);kernel_rfl)|((with_reducible intro h);try simp only [go_sem,simprocAttr] at h)|omega|intro h)
theorem eX (xs ys:List Int) (hlen:xs.length≤9223372036854775807):Spec Tryz.prog 133 (Args [.d (sI xs), .d (sI ys)]) [] (eB (decide (xs=ys))) []:=by
 (refine Spec.hd (C:=T.cfg [] []) (rs:= [.t 4]) (T.ai _ _) Tryz.func133 rfl rfl Tryz.ntmps133 Tryz.results133 (by simp [AObj.isNest]) (by simp [AObj.isNest]) (by kernel_rfl) T.mixed fun X hX hP hC aK cw=> ?_)
 repeat' (first|refine Rn.p ?_|(with_reducible apply And.intro)|((first|(refine hK _ ?_;clear hK K)|with_reducible intro K hK|refine Rs.p ?_|((with_reducible first|apply oP|apply oQ);exact rfl));try simp only [go_sem,simprocAttr])|((with_reducible refine oD ?_ ?_);kernel_rfl)|((with_reducible intro h);try simp only [go_sem,simprocAttr] at h)|omega|intro h)
 ·have:xs≠ys:=fun e=>h (by rw [e])
  simp [this]
 refine ag (fun k:Nat=>k≤xs.length∧xs.take k=ys.take k) (fun k=>⟨[(0, .d (sI xs)),(1, .d (sI ys)),(12,eN xs.length),(13,eN k)], []⟩) (fun k=>xs.length - k) 0 (by simp) ?_ ?_
 ·(refine ⟨bL ?_,fun _ _ h=>h⟩;simp [go_sem,simprocAttr])
 rintro k ⟨hk,hp⟩
 have AO:xs.length=ys.length:=by omega
 repeat' (first|refine Rn.p ?_|(with_reducible apply And.intro)|((first|(refine hK _ ?_;clear hK K)|with_reducible intro K hK|refine Rs.p ?_|((with_reducible first|apply oP|apply oQ);exact rfl));try simp only [go_sem,simprocAttr])|((with_reducible refine oD ?_ ?_);kernel_rfl)|((with_reducible intro h);try simp only [go_sem,simprocAttr] at h)|omega|intro h)
 ·have:xs≠ys:=fun e=>h (by rw [e])
  simp [this]
 ·refine ⟨k+1,⟨by omega,tN 0 (by omega) (by omega) hp h⟩, ?_,by omega⟩
  (refine ⟨bL ?_,fun _ _ h=>h⟩;simp [go_sem,simprocAttr])
 ·have:k=xs.length:=by omega
  subst this
  rw [List.take_of_length_le (Nat.le_refl _),List.take_of_length_le (by omega)] at hp
  simp [hp]
def fm (g:Gr) (x:Int) (i:Int):It:=(i,x,(g.es.getD i.toNat (0,0)).2)
def aL (g:Gr) (x:Int) (outs:List Int):List It:=if outs= [] then [(-1,x, -1)] else outs.map (fm g x)
theorem sH {α β:Type} {f:α→β} {l:List α} {d:α} {k:Nat} (h:k<l.length):(l.take (k+1)).map f=(l.take k).map f++ [f (l.getD k d)]:=by
 rw [List.take_add_one,List.map_append,List.getElem?_eq_getElem h,List.getD_eq_getElem?_getD,List.getElem?_eq_getElem h]
 rfl
theorem y5 (g:Gr) (f:Fr) (x:Int) (outs:List Int) (hl:outs.length≤1000000) (ho:∀i∈outs,0≤i∧i<g.es.length):Spec Tryz.prog 141 (Args [.d (jL g f),eN x, .d (sI outs)]) [] (.ref 10000) [(10000, .tip 92 3 ((aL g x outs).map rT))]:=by
 unfold jL
 by_cases h0:outs= []
 ·subst h0
  have hA:aL g x []= [(-1,x, -1)]:=if_pos rfl
  rw [hA]
  (refine Spec.A6 (C:=T.cfg [] []) (rs:= [.t 6]) [(10000,14)] (T.ai _ _) Tryz.func141 rfl rfl Tryz.ntmps141 Tryz.results141 (by simp [AObj.isNest]) (by simp [AObj.isNest]) (by first|(simp [look];done)|(simp [asN];done)|(intro l hl;simp only [asN];repeat (rw [if_neg (fun e=>by subst e;simp [look] at hl)]))) (by first|(simp [look];done)|(simp [asN];done)|(intro l hl;simp only [asN];repeat (rw [if_neg (fun e=>by subst e;simp [look] at hl)]))) (by kernel_rfl) T.mixed fun X hX hP hC aK cw=> ?_)
  repeat' (first|refine Rn.p ?_|(with_reducible apply And.intro)|((first|(refine hK _ ?_;clear hK K)|with_reducible intro K hK|refine Rs.p ?_|((with_reducible first|apply oP|apply oQ);exact rfl));try simp only [go_sem,simprocAttr,au])|((with_reducible refine oD ?_ ?_);kernel_rfl)|((with_reducible intro h);try simp only [go_sem,simprocAttr,au] at h)|omega|intro h)
 ·have hA:aL g x outs=outs.map (fm g x):=if_neg h0
  rw [hA]
  have hb0:decide ((outs.length:Int)=0)=false:=decide_eq_false fun h=>h0 (List.eq_nil_of_length_eq_zero (by omega))
  (refine Spec.A6 (C:=T.cfg [] []) (rs:= [.t 6]) [(10000,38)] (T.ai _ _) Tryz.func141 rfl rfl Tryz.ntmps141 Tryz.results141 (by simp [AObj.isNest]) (by simp [AObj.isNest]) (by first|(simp [look];done)|(simp [asN];done)|(intro l hl;simp only [asN];repeat (rw [if_neg (fun e=>by subst e;simp [look] at hl)]))) (by first|(simp [look];done)|(simp [asN];done)|(intro l hl;simp only [asN];repeat (rw [if_neg (fun e=>by subst e;simp [look] at hl)]))) (by kernel_rfl) T.mixed fun X hX hP hC aK cw=> ?_)
  repeat' (first|refine Rn.p ?_|(with_reducible apply And.intro)|((first|(refine hK _ ?_;clear hK K)|with_reducible intro K hK|refine Rs.p ?_|((with_reducible first|apply oP|apply oQ);exact rfl));try simp only [go_sem,simprocAttr,au,hb0])|((with_reducible refine oD ?_ ?_);kernel_rfl)|((with_reducible intro h);try simp only [go_sem,simprocAttr,au,hb0] at h)|omega|intro h)
  (refine iN hX 6 38 (.tip 92 3 []) (by simp only [go_sem,simprocAttr,au,hb0]) (by simp only [go_sem,simprocAttr,au,hb0]) (by decide) ⟨92,3,by decide, .inr rfl⟩ ?_;simp only [go_sem,simprocAttr,au,hb0])
  refine ag (fun k:Nat=>k≤outs.length) (fun k=>⟨[(0, .d (jL g f)),(1,eN x),(15, .d (sI outs)),(16,eN outs.length),(17,eN k),(6, .ref 38)], [(38, .tip 92 3 (((outs.take k).map (fm g x)).map rT))]⟩) (fun k=>outs.length - k) 0 (by omega) ?_ ?_
  ·refine Le.of ?_ ?_<;>simp [go_sem,simprocAttr,au,hb0,jL]
  unfold jL
  rintro k hk
  rcases Nat.lt_or_ge k outs.length with hlt|hge
  ·have hb:decide ((k:Int)<(outs.length:Int))=true:=decide_eq_true (by omega)
   have dV:=sH (f:=fm g x) (d:=0) hlt
   have HA:=ho _ (aV (d:=0) hlt)
   have hlk:(outs.take k).length=k:=by simp;omega
   repeat' (first|refine Rn.p ?_|(with_reducible apply And.intro)|((first|(refine hK _ ?_;clear hK K)|with_reducible intro K hK|refine Rs.p ?_|((with_reducible first|apply oP|apply oQ);exact rfl));try simp only [go_sem,simprocAttr,au,hb,hlk])|((with_reducible refine oD ?_ ?_);kernel_rfl)|((with_reducible intro h);try simp only [go_sem,simprocAttr,au,hb,hlk] at h)|omega|intro h)
   refine ⟨k+1,by omega, ?_,by omega⟩
   refine Le.of ?_ ?_<;>simp [go_sem,simprocAttr,au,hb,hlk,dV,fm]
  ·have hb:decide ((k:Int)<(outs.length:Int))=false:=decide_eq_false (by omega)
   obtain rfl:k=outs.length:=by omega
   have ht:outs.take outs.length=outs:=List.take_of_length_le (by omega)
   repeat' (first|refine Rn.p ?_|(with_reducible apply And.intro)|((first|(refine hK _ ?_;clear hK K)|with_reducible intro K hK|refine Rs.p ?_|((with_reducible first|apply oP|apply oQ);exact rfl));try simp only [go_sem,simprocAttr,au,hb,ht])|((with_reducible refine oD ?_ ?_);kernel_rfl)|((with_reducible intro h);try simp only [go_sem,simprocAttr,au,hb,ht] at h)|omega|intro h)
def mL (g:Gr) (f:Fr):List (Nat × AObj):= [(10000, .box [.d (sT f.row), .d (vw g), .ref 10001]),(10001, .tip 3 1 (f.pl.map rI))]
theorem vB (row items:List It) (a b:Nat) (h0:0<items.length) (hr:row.length≤400000) (hi:items.length≤100000):Spec Tryz.prog 191 (Args [.d (.sl 1 [[.sl 3 (List.take a (row.map rT))], [.sl 3 (items.map rT)], [.sl 3 (List.drop b (row.map rT))]])]) [] (.d (sT (row.take a++items++row.drop b))) []:=by
 have hf: [row.take a,items,row.drop b].flatten=row.take a++items++row.drop b:=by simp
 have hlen: [row.take a,items,row.drop b].flatten.length=min a row.length+items.length+(row.length - b):=by simp;omega
 have:=vA [row.take a,items,row.drop b] (by simp) (by omega) (by omega)
 rw [hf] at this
 simpa only [vT,List.map_cons,List.map_nil,sT,List.map_take,List.map_drop] using this
theorem By (g:Gr) (row items:List It) (pl:List Int) (a b:Nat) (hab:a≤b) (hb:b≤row.length) (h0:0<items.length) (hr:row.length≤400000) (hi:items.length≤100000):
 Spec Tryz.prog 140 (Args [.ptr 10000 0,eN a,eN b, .ref 10003]) (mL g ⟨row,pl⟩++ [(10003, .tip 92 3 (items.map rT))]) (.d (sT ((row.take b).drop a))) (mL g ⟨row.take a++items++row.drop b,pl⟩):=by
 have gh:((row.take b).drop a).length≤1000000:=by simp;omega
 have Bz:List.take row.length (row.map rT)=row.map rT:=List.take_of_length_le (by simp)
 unfold mL
 simp only [List.cons_append,List.nil_append]
 (refine Spec.hd (C:=T.cfg [] []) (rs:= [.t 8]) (T.ai _ _) Tryz.func140 rfl rfl Tryz.ntmps140 Tryz.results140 (by simp [AObj.isNest]) (by simp [AObj.isNest]) (by kernel_rfl) T.mixed fun X hX hP hC aK cw=> ?_)
 repeat' (first|refine Rn.p ?_|(with_reducible apply And.intro)|((first|(refine hK _ ?_;clear hK K)|with_reducible intro K hK|refine Rs.p ?_|((with_reducible first|apply oP|apply oQ);exact rfl)|(refine az hX hC hP [(10000,17)] (ql ((row.take b).drop a) gh) rfl rfl rfl ?_ ?_ ?_ ?_ ?_ ?_ ?_ ?_ ?_ ?_ ?_ ?_ ?_ ?_;(focus (simp only [go_sem,simprocAttr,List.map_take,List.map_drop,Bz];done));(iterate 12 (focus (simp [go_sem,simprocAttr,List.map_take,List.map_drop,Bz];done)));try simp only [List.map_cons,List.map_nil])|(refine bJ hX hC hP (vB row items a b h0 hr hi) rfl rfl rfl ?_ ?_ rfl ?_;iterate 2 (focus (simp only [go_sem,simprocAttr,List.map_take,List.map_drop,Bz];done))));try simp only [go_sem,simprocAttr,List.map_take,List.map_drop,Bz])|((with_reducible refine oD ?_ ?_);kernel_rfl)|((with_reducible intro h);try simp only [go_sem,simprocAttr,List.map_take,List.map_drop,Bz] at h)|omega|intro h)
end Go.Ab
end
section
namespace Go.Ab
open Go.Proofs
attribute [local congr] ACall.congr gd.congr Nx.congr
set_option maxRecDepth 10000
set_option maxHeartbeats 4000000
def y6 (g:Gr) (f:Fr):List (Nat × AObj):= [(10000, .box [.d (sT f.row), .d (vw g), .ref 10002]),(10002, .tip 3 1 (f.pl.map rI))]
def jh (g:Gr) (f:Fr) (x:Int) (outs:List Int):(List It × Int) × Fr:=
 if fP g f x=false then (([],3),f) else if gG outs≠bq (·.1) g x then (([],1),f) else
 (((f.row.take (aZ f.row x).2.1.toNat).drop (max (aZ f.row x).1 0).toNat,0),⟨f.row.take (max (aZ f.row x).1 0).toNat++aL g x outs++f.row.drop (aZ f.row x).2.1.toNat,f.pl++ [x]⟩)
theorem fQ {f:Edge→Int} {es:List Edge} {k:Nat} {x i:Int} (h:i∈aY f es k x):(0≤i∧i<k)∧f (es.getD i.toNat (0,0))=x:=by
 simp only [aY,List.mem_map,List.mem_filter,List.mem_range,decide_eq_true_eq] at h
 obtain ⟨j,⟨h1,h2⟩,rfl⟩:=h
 exact ⟨⟨Int.natCast_nonneg j,by simp;omega⟩,h2⟩
theorem y7 {f:Edge→Int} {g:Gr} {x i:Int} (h:i∈bq f g x):(0≤i∧i<g.es.length)∧f (g.es.getD i.toNat (0,0))=x:=by
 unfold bq at h
 split at h
 ·exact fQ h
 ·cases h
theorem xL {l:List Int} {x:Int} :x∈gG l↔x∈l:=by simp [gG]
theorem uc (row:List It) (x:Int):∃a b:Nat,max (aZ row x).1 0=(a:Int)∧(aZ row x).2.1=(b:Int)∧a≤b∧b≤row.length:=by
 rcases c8 (row:=row) (x:=x) row.length with ⟨h,_⟩|⟨a,b,c,h,h1,h2,_⟩
 ·exact ⟨0,0,by unfold aZ;rw [h];rfl,by unfold aZ;rw [h];rfl,by omega,by omega⟩
 ·exact ⟨a,b,by unfold aZ;rw [h];simp only;omega,by unfold aZ;rw [h],by omega,by omega⟩
theorem kC {g:Gr} {x:Int} {outs:List Int} :0<(aL g x outs).length∧(aL g x outs).length≤outs.length+1:=by
 unfold aL
 split
 ·simp
 ·rename_i h
  have:=List.length_pos_iff.2 h
  simp;omega
theorem y8 (g:Gr) (hm:aP g=true) (f:Fr) (x:Int) (outs:List Int) (hr:f.row.length≤300000) (hp:f.pl.length≤100000) (ho:outs.length≤17592186043904):
 Spec Tryz.prog 89 (Args [.ptr 10000 0,eN x, .d (sI outs)]) (mL g f) (.tup [.d (sT (jh g f x outs).1.1),eN (jh g f x outs).1.2]) (y6 g (jh g f x outs).2):=by
 have iF:f.row.length≤1000000:=by omega
 have hp1:f.pl.length≤1000000:=by omega
 have hs:(gG outs).length≤9223372036854775807:=by rw [eH];omega
 have hn:=aU hm
 cases hR:fP g f x with
 |false=>
  have hP:jh g f x outs=(([],3),f):=if_pos hR
  rw [hP]
  unfold mL y6
  (refine Spec.A6 (C:=T.cfg [] []) (rs:= [.t 6, .t 7]) [(10002,10001)] (T.ai _ _) Tryz.func89 rfl rfl Tryz.ntmps89 Tryz.results89 (by simp [AObj.isNest]) (by simp [AObj.isNest]) (by first|(simp [look];done)|(simp [asN];done)|(intro l hl;simp only [asN];repeat (rw [if_neg (fun e=>by subst e;simp [look] at hl)]))) (by first|(simp [look];done)|(simp [asN];done)|(intro l hl;simp only [asN];repeat (rw [if_neg (fun e=>by subst e;simp [look] at hl)]))) (by kernel_rfl) T.mixed fun X hX hP hC aK cw=> ?_)
  repeat' (first|refine Rn.p ?_|(with_reducible apply And.intro)|((first|(refine hK _ ?_;clear hK K)|with_reducible intro K hK|refine Rs.p ?_|((with_reducible first|apply oP|apply oQ);exact rfl)|(refine ah hX hC hP (nt g hm f x iF hp1) rfl rfl rfl ?_ ?_ ?_ ?_;iterate 3 (focus (simp only [go_sem,simprocAttr,hR,jL];done)))|(refine az hX hC hP [(10000,16)] (cC outs) rfl rfl rfl ?_ ?_ ?_ ?_ ?_ ?_ ?_ ?_ ?_ ?_ ?_ ?_ ?_ ?_;(focus (simp only [go_sem,simprocAttr,hR,jL];done));(iterate 12 (focus (simp [go_sem,simprocAttr,hR,jL];done)));try simp only [List.map_cons,List.map_nil])|(refine aS hX hC hP [(10000,16)] (cj outs ho) rfl rfl rfl ?_ ?_ ?_ ?_ ?_ ?_ rfl rfl ?_ ?_;(focus (simp only [go_sem,simprocAttr,hR,jL];done));(iterate 6 (focus (simp [go_sem,simprocAttr,hR,jL];done)));try simp only [List.map_cons,List.map_nil])|refine aa hX hC hP (gU g hm x) rfl rfl rfl (by simp only [go_sem,simprocAttr,hR,jL]) rfl ?_|refine aa hX hC hP (eX (gG outs) (bq (·.1) g x) hs) rfl rfl rfl (by simp only [go_sem,simprocAttr,hR,jL]) rfl ?_|(refine ah hX hC hP (dZ [vw g,sI f.pl] f.row x iF) rfl rfl rfl ?_ ?_ ?_ ?_;iterate 3 (focus (simp only [go_sem,simprocAttr,hR,jL];done))));try simp only [go_sem,simprocAttr,hR,jL])|((with_reducible refine oD ?_ ?_);kernel_rfl)|((with_reducible intro h);try simp only [go_sem,simprocAttr,hR,jL] at h)|omega|intro h)
 |true=>
 have HV:¬fP g f x=false:=by rw [hR];simp
 by_cases hE:¬gG outs=bq (·.1) g x
 ·have ak:decide (gG outs=bq (·.1) g x)=false:=decide_eq_false hE
  have hP:jh g f x outs=(([],1),f):=by unfold jh;rw [if_neg HV,if_pos hE]
  rw [hP]
  unfold mL y6
  (refine Spec.A6 (C:=T.cfg [] []) (rs:= [.t 6, .t 7]) [(10002,10001)] (T.ai _ _) Tryz.func89 rfl rfl Tryz.ntmps89 Tryz.results89 (by simp [AObj.isNest]) (by simp [AObj.isNest]) (by first|(simp [look];done)|(simp [asN];done)|(intro l hl;simp only [asN];repeat (rw [if_neg (fun e=>by subst e;simp [look] at hl)]))) (by first|(simp [look];done)|(simp [asN];done)|(intro l hl;simp only [asN];repeat (rw [if_neg (fun e=>by subst e;simp [look] at hl)]))) (by kernel_rfl) T.mixed fun X hX hP hC aK cw=> ?_)
  repeat' (first|refine Rn.p ?_|(with_reducible apply And.intro)|((first|(refine hK _ ?_;clear hK K)|with_reducible intro K hK|refine Rs.p ?_|((with_reducible first|apply oP|apply oQ);exact rfl)|(refine ah hX hC hP (nt g hm f x iF hp1) rfl rfl rfl ?_ ?_ ?_ ?_;iterate 3 (focus (simp only [go_sem,simprocAttr,hR,ak,jL];done)))|(refine az hX hC hP [(10000,16)] (cC outs) rfl rfl rfl ?_ ?_ ?_ ?_ ?_ ?_ ?_ ?_ ?_ ?_ ?_ ?_ ?_ ?_;(focus (simp only [go_sem,simprocAttr,hR,ak,jL];done));(iterate 12 (focus (simp [go_sem,simprocAttr,hR,ak,jL];done)));try simp only [List.map_cons,List.map_nil])|(refine aS hX hC hP [(10000,16)] (cj outs ho) rfl rfl rfl ?_ ?_ ?_ ?_ ?_ ?_ rfl rfl ?_ ?_;(focus (simp only [go_sem,simprocAttr,hR,ak,jL];done));(iterate 6 (focus (simp [go_sem,simprocAttr,hR,ak,jL];done)));try simp only [List.map_cons,List.map_nil])|refine aa hX hC hP (gU g hm x) rfl rfl rfl (by simp only [go_sem,simprocAttr,hR,ak,jL]) rfl ?_|refine aa hX hC hP (eX (gG outs) (bq (·.1) g x) hs) rfl rfl rfl (by simp only [go_sem,simprocAttr,hR,ak,jL]) rfl ?_|(refine ah hX hC hP (dZ [vw g,sI f.pl] f.row x iF) rfl rfl rfl ?_ ?_ ?_ ?_;iterate 3 (focus (simp only [go_sem,simprocAttr,hR,ak,jL];done))));try simp only [go_sem,simprocAttr,hR,ak,jL])|((with_reducible refine oD ?_ ?_);kernel_rfl)|((with_reducible intro h);try simp only [go_sem,simprocAttr,hR,ak,jL] at h)|omega|intro h)
 rw [Decidable.not_not] at hE
 have ak:decide (gG outs=bq (·.1) g x)=true:=decide_eq_true hE
 have hP:jh g f x outs=(((f.row.take (aZ f.row x).2.1.toNat).drop (max (aZ f.row x).1 0).toNat,0),⟨f.row.take (max (aZ f.row x).1 0).toNat++aL g x outs++f.row.drop (aZ f.row x).2.1.toNat,f.pl++ [x]⟩):=by
  unfold jh;rw [if_neg HV,if_neg (by rw [hE];simp)]
 rw [hP]
 obtain ⟨a,b,ha,hb,hab,kH⟩:=uc f.row x
 rw [ha,hb]
 simp only [Int.toNat_natCast]
 have o7:outs.length≤128:=by
  have h1:=congrArg List.length hE
  rw [eH] at h1
  have h2:=y4 (f:=(·.1)) (g:=g) (x:=x)
  omega
 have FT:∀i∈outs,0≤i∧i<g.es.length:=fun i hi=>(y7 (f:=(·.1)) (g:=g) (x:=x) (by rw [← hE];exact xL.2 hi)).1
 obtain ⟨h0,h1⟩:=kC (g:=g) (x:=x) (outs:=outs)
 have wh:(aL g x outs).length≤100000:=by omega
 have tK:f.row.length≤400000:=by omega
 have Ni:outs.length≤1000000:=by omega
 unfold mL y6
 (refine Spec.A6 (C:=T.cfg [] []) (rs:= [.t 6, .t 7]) [(10002,42)] (T.ai _ _) Tryz.func89 rfl rfl Tryz.ntmps89 Tryz.results89 (by simp [AObj.isNest]) (by simp [AObj.isNest]) (by first|(simp [look];done)|(simp [asN];done)|(intro l hl;simp only [asN];repeat (rw [if_neg (fun e=>by subst e;simp [look] at hl)]))) (by first|(simp [look];done)|(simp [asN];done)|(intro l hl;simp only [asN];repeat (rw [if_neg (fun e=>by subst e;simp [look] at hl)]))) (by kernel_rfl) T.mixed fun X hX hP hC aK cw=> ?_)
 repeat' (first|refine Rn.p ?_|(with_reducible apply And.intro)|((first|(refine hK _ ?_;clear hK K)|with_reducible intro K hK|refine Rs.p ?_|((with_reducible first|apply oP|apply oQ);exact rfl)|(refine ah hX hC hP (nt g hm f x iF hp1) rfl rfl rfl ?_ ?_ ?_ ?_;iterate 3 (focus (simp only [go_sem,simprocAttr,hR,ak,ha,hb,jL,List.length_map,List.map_append,List.map_cons,List.map_nil,rI,mL,List.cons_append,List.nil_append,List.map_take,List.map_drop];done)))|(refine az hX hC hP [(10000,16)] (cC outs) rfl rfl rfl ?_ ?_ ?_ ?_ ?_ ?_ ?_ ?_ ?_ ?_ ?_ ?_ ?_ ?_;(focus (simp only [go_sem,simprocAttr,hR,ak,ha,hb,jL,List.length_map,List.map_append,List.map_cons,List.map_nil,rI,mL,List.cons_append,List.nil_append,List.map_take,List.map_drop];done));(iterate 12 (focus (simp [go_sem,simprocAttr,hR,ak,ha,hb,jL,List.length_map,List.map_append,List.map_cons,List.map_nil,rI,mL,List.cons_append,List.nil_append,List.map_take,List.map_drop];done)));try simp only [List.map_cons,List.map_nil])|(refine aS hX hC hP [(10000,16)] (cj outs ho) rfl rfl rfl ?_ ?_ ?_ ?_ ?_ ?_ rfl rfl ?_ ?_;(focus (simp only [go_sem,simprocAttr,hR,ak,ha,hb,jL,List.length_map,List.map_append,List.map_cons,List.map_nil,rI,mL,List.cons_append,List.nil_append,List.map_take,List.map_drop];done));(iterate 6 (focus (simp [go_sem,simprocAttr,hR,ak,ha,hb,jL,List.length_map,List.map_append,List.map_cons,List.map_nil,rI,mL,List.cons_append,List.nil_append,List.map_take,List.map_drop];done)));try simp only [List.map_cons,List.map_nil])|refine aa hX hC hP (gU g hm x) rfl rfl rfl (by simp only [go_sem,simprocAttr,hR,ak,ha,hb,jL,List.length_map,List.map_append,List.map_cons,List.map_nil,rI,mL,List.cons_append,List.nil_append,List.map_take,List.map_drop]) rfl ?_|refine aa hX hC hP (eX (gG outs) (bq (·.1) g x) hs) rfl rfl rfl (by simp only [go_sem,simprocAttr,hR,ak,ha,hb,jL,List.length_map,List.map_append,List.map_cons,List.map_nil,rI,mL,List.cons_append,List.nil_append,List.map_take,List.map_drop]) rfl ?_|(refine ah hX hC hP (dZ [vw g,sI f.pl] f.row x iF) rfl rfl rfl ?_ ?_ ?_ ?_;iterate 3 (focus (simp only [go_sem,simprocAttr,hR,ak,ha,hb,jL,List.length_map,List.map_append,List.map_cons,List.map_nil,rI,mL,List.cons_append,List.nil_append,List.map_take,List.map_drop];done)))|(refine qg hX hC hP 54 (y5 g ⟨f.row,f.pl++ [x]⟩ x outs Ni FT) rfl rfl rfl ?_ ?_ (by first|exact ⟨_,_,_,rfl,GP⟩|exact ⟨_,_,_,rfl,GQ⟩|exact ⟨_,_,_,rfl,GR⟩) rfl (by decide) ?_;(iterate 2 (focus (simp only [go_sem,simprocAttr,hR,ak,ha,hb,jL,List.length_map,List.map_append,List.map_cons,List.map_nil,rI,mL,List.cons_append,List.nil_append,List.map_take,List.map_drop];done)));simp only [go_sem,simprocAttr,hR,ak,ha,hb,jL,List.length_map,List.map_append,List.map_cons,List.map_nil,rI,mL,List.cons_append,List.nil_append,List.map_take,List.map_drop])|(refine az hX hC hP [(10001,42),(10003,54)] (By g f.row (aL g x outs) (f.pl++ [x]) a b hab kH h0 tK wh) rfl rfl rfl ?_ ?_ ?_ ?_ ?_ ?_ ?_ ?_ ?_ ?_ ?_ ?_ ?_ ?_;(focus (simp only [go_sem,simprocAttr,hR,ak,ha,hb,jL,List.length_map,List.map_append,List.map_cons,List.map_nil,rI,mL,List.cons_append,List.nil_append,List.map_take,List.map_drop];done));(iterate 12 (focus (simp [go_sem,simprocAttr,hR,ak,ha,hb,jL,List.length_map,List.map_append,List.map_cons,List.map_nil,rI,mL,List.cons_append,List.nil_append,List.map_take,List.map_drop];done)));try simp only [List.map_cons,List.map_nil]));try simp only [go_sem,simprocAttr,hR,ak,ha,hb,jL,List.length_map,List.map_append,List.map_cons,List.map_nil,rI,mL,List.cons_append,List.nil_append,List.map_take,List.map_drop])|((with_reducible refine oD ?_ ?_);kernel_rfl)|((with_reducible intro h);try simp only [go_sem,simprocAttr,hR,ak,ha,hb,jL,List.length_map,List.map_append,List.map_cons,List.map_nil,rI,mL,List.cons_append,List.nil_append,List.map_take,List.map_drop] at h)|omega|intro h)
end Go.Ab
end
section
namespace Go.Ab
open Go.Proofs
attribute [local congr] ACall.congr gd.congr Nx.congr
set_option maxRecDepth 10000
set_option maxHeartbeats 4000000
def HW (g:Gr) (f:Fr) (k:Nat):List Int:=((List.range k).filter fun x:Nat=>fP g f (x:Int)).map Int.ofNat
def HX (g:Gr) (f:Fr):List Int:=HW g f g.n.toNat
theorem ud (g:Gr) (hl:g.es.length≤1000) (h0:(bZ g).1=0) (hm:aP g=true):Spec Tryz.prog 87 (Args [eG g]) [] (.tup [.ptr 10000 0,eN 0]) [(10000, .box [.nil 92, .d (vw g), .nil 3])]:=by
 (refine Spec.A6 (C:=T.cfg [] []) (rs:= [.t 2, .t 3]) [(10000,11)] (T.ai _ _) Tryz.func87 rfl rfl Tryz.ntmps87 Tryz.results87 (by simp [AObj.isNest]) (by simp [AObj.isNest]) (by first|(simp [look];done)|(simp [asN];done)|(intro l hl;simp only [asN];repeat (rw [if_neg (fun e=>by subst e;simp [look] at hl)]))) (by first|(simp [look];done)|(simp [asN];done)|(intro l hl;simp only [asN];repeat (rw [if_neg (fun e=>by subst e;simp [look] at hl)]))) (by kernel_rfl) T.mixed fun X hX hP hC aK cw=> ?_)
 repeat' (first|refine Rn.p ?_|(with_reducible apply And.intro)|((first|(refine hK _ ?_;clear hK K)|with_reducible intro K hK|refine Rs.p ?_|((with_reducible first|apply oP|apply oQ);exact rfl)|refine aa hX hC hP (ko g hl) rfl rfl rfl (by simp only [go_sem,simprocAttr,h0]) rfl ?_|refine aa hX hC hP (fV g hm) rfl rfl rfl (by simp only [go_sem,simprocAttr,h0]) rfl ?_);try simp only [go_sem,simprocAttr,h0])|((with_reducible refine oD ?_ ?_);kernel_rfl)|((with_reducible intro h);try simp only [go_sem,simprocAttr,h0] at h)|omega|intro h)
theorem BA (g:Gr) (hl:g.es.length≤1000) (h0:(bZ g).1≠0):Spec Tryz.prog 87 (Args [eG g]) [] (.tup [.d (.sc (.pointer none)),eN 1]) []:=by
 have hb:decide ((bZ g).1=0)=false:=decide_eq_false h0
 (refine Spec.hd (C:=T.cfg [] []) (rs:= [.t 2, .t 3]) (T.ai _ _) Tryz.func87 rfl rfl Tryz.ntmps87 Tryz.results87 (by simp [AObj.isNest]) (by simp [AObj.isNest]) (by kernel_rfl) T.mixed fun X hX hP hC aK cw=> ?_)
 repeat' (first|refine Rn.p ?_|(with_reducible apply And.intro)|((first|(refine hK _ ?_;clear hK K)|with_reducible intro K hK|refine Rs.p ?_|((with_reducible first|apply oP|apply oQ);exact rfl)|refine aa hX hC hP (ko g hl) rfl rfl rfl (by simp only [go_sem,simprocAttr,hb]) rfl ?_);try simp only [go_sem,simprocAttr,hb])|((with_reducible refine oD ?_ ?_);kernel_rfl)|((with_reducible intro h);try simp only [go_sem,simprocAttr,hb] at h)|omega|intro h)
end Go.Ab
end
section
namespace Go.Ab
open Go.Proofs
attribute [local congr] ACall.congr gd.congr Nx.congr
set_option maxRecDepth 10000
set_option maxHeartbeats 4000000
theorem bh (ps:List Int) (x:Int) (hl:ps.length≤9223372036854775807):Spec Tryz.prog 186 (Args [.d (sI ps),eN x]) [] (eB (decide (x∈ps))) []:=by
 (refine Spec.hd (C:=T.cfg [] []) (rs:= [.t 4]) (T.ai _ _) Tryz.func186 rfl rfl Tryz.ntmps186 Tryz.results186 (by simp [AObj.isNest]) (by simp [AObj.isNest]) (by kernel_rfl) T.mixed fun X hX hP hC aK cw=> ?_)
 repeat' (first|refine Rn.p ?_|(with_reducible apply And.intro)|((first|(refine hK _ ?_;clear hK K)|with_reducible intro K hK|refine Rs.p ?_|((with_reducible first|apply oP|apply oQ);exact rfl));try simp only [go_sem,simprocAttr])|((with_reducible refine oD ?_ ?_);kernel_rfl)|((with_reducible intro h);try simp only [go_sem,simprocAttr] at h)|omega|intro h)
 refine ag (fun k:Nat=>k≤ps.length∧∀j,j<k→ps.getD j 0≠x) (fun k=>⟨[(0, .d (sI ps)),(1,eN x),(5,eN k)], []⟩) (fun k=>ps.length - k) 0 (by simp) ?_ ?_
 ·(refine ⟨bL ?_,fun _ _ h=>h⟩;simp [go_sem,simprocAttr])
 rintro k ⟨hk,hg⟩
 rcases Nat.lt_or_ge k ps.length with hlt|hge
 ·have hb:decide ((k:Int)<(ps.length:Int))=true:=decide_eq_true (by omega)
  repeat' (first|refine Rn.p ?_|(with_reducible apply And.intro)|((first|(refine hK _ ?_;clear hK K)|with_reducible intro K hK|refine Rs.p ?_|((with_reducible first|apply oP|apply oQ);exact rfl));try simp only [go_sem,simprocAttr,hb])|((with_reducible refine oD ?_ ?_);kernel_rfl)|((with_reducible intro h);try simp only [go_sem,simprocAttr,hb] at h)|omega|intro h)
  ·have hm:=aV (d:=0) hlt
   rw [h] at hm
   exact (decide_eq_true hm).symm
  ·refine ⟨k+1,⟨by omega,fun j hj=> ?_⟩, ?_,by omega⟩
   ·by_cases hjk:j=k
    ·subst hjk;assumption
    ·exact hg j (by omega)
   ·(refine ⟨bL ?_,fun _ _ h=>h⟩;simp [go_sem,simprocAttr,hb])
 ·have hb:decide ((k:Int)<(ps.length:Int))=false:=decide_eq_false (by omega)
  repeat' (first|refine Rn.p ?_|(with_reducible apply And.intro)|((first|(refine hK _ ?_;clear hK K)|with_reducible intro K hK|refine Rs.p ?_|((with_reducible first|apply oP|apply oQ);exact rfl));try simp only [go_sem,simprocAttr,hb])|((with_reducible refine oD ?_ ?_);kernel_rfl)|((with_reducible intro h);try simp only [go_sem,simprocAttr,hb] at h)|omega|intro h)
  refine (decide_eq_false fun hm=> ?_).symm
  obtain ⟨j,hj,hx⟩:=List.mem_iff_getElem.1 hm
  exact hg j (by omega) (by rw [List.getD_eq_getElem?_getD,List.getElem?_eq_getElem hj];exact hx)
def jM (g:Gr) (f:Fr):List AV:= [eN g.n, .d (sE g.es), .d (sT f.row), .d (sI f.pl)]
def e9 (row:List It) (x:Int):Nat→Int
 |0=>0
 |k+1=>if (row.getD k (0,0,0)).2.2=x then e9 row x k+1 else e9 row x k
theorem ec {row:List It} {x:Int} {k:Nat} :e9 row x (k+1)=if (row.getD k (0,0,0)).2.2=x then e9 row x k+1 else e9 row x k:=rfl
theorem z6 {row:List It} {x:Int} :∀k:Nat,0≤e9 row x k∧e9 row x k≤k
 |0=>by simp [e9]
 |k+1=>by
  have:=z6 (row:=row) (x:=x) k
  rw [ec]
  split<;>omega
def sJ (row:List It) (x:Int) (need:Nat) (j:Nat):Bool:=decide ((row.getD j (0,0,0)).2.2≠x)&&decide (0≤(row.getD j (0,0,0)).1)&&decide (0<e9 row x j)&&decide (e9 row x j<need)
theorem me {row:List It} {x:Int} {need j:Nat} :sJ row x need j=true↔((row.getD j (0,0,0)).2.2≠x∧0≤(row.getD j (0,0,0)).1)∧0<e9 row x j∧e9 row x j<need:=by
 simp only [sJ,Bool.and_eq_true,decide_eq_true_eq,and_assoc]
def bt (g:Gr) (x:Int):Nat:=(aY (·.2) g.es g.es.length x).length
def aD (g:Gr) (f:Fr) (x:Int):Bool:=
 if x<0∨g.n≤x∨x∈f.pl then false else if bt g x=0 then true else
 !(List.range f.row.length).any (sJ f.row x (bt g x))&&decide (e9 f.row x f.row.length=bt g x)
theorem oJ:kq false=(fun e:Edge=>e.2):=rfl
theorem jN:kq true=(fun e:Edge=>e.1):=rfl
theorem FU {n j:Nat} {p:Nat→Bool} (h:j<n) (hp:p j=true):(List.range n).any p=true:=List.any_eq_true.2 ⟨j,List.mem_range.2 h,hp⟩
theorem FV {n:Nat} {p:Nat→Bool} (h:∀j,j<n→p j=false):(List.range n).any p=false:=by
 rw [List.any_eq_false]
 intro j hj
 rw [h j (List.mem_range.1 hj)];simp
theorem bB (g:Gr) (hl:g.es.length≤1000) (f:Fr) (x:Int) (hr:f.row.length≤1000000) (gw:f.pl.length≤1000000):Spec Tryz.prog 185 (Args [.ptr 10000 0,eN x]) [(10000, .rob (jM g f))] (eB (aD g f x)) [(10000, .rob (jM g f))]:=by
 have hp:f.pl.length≤9223372036854775807:=by omega
 unfold jM
 by_cases hx:x<0∨g.n≤x∨x∈f.pl
 ·have hR:aD g f x=false:=if_pos hx
  (refine Spec.hd (C:=T.cfg [] []) (rs:= [.t 4]) (T.ai _ _) Tryz.func185 rfl rfl Tryz.ntmps185 Tryz.results185 (by simp [AObj.isNest]) (by simp [AObj.isNest]) (by kernel_rfl) T.mixed fun X hX hP hC aK cw=> ?_)
  by_cases h1:x<0
  ·have ak:decide (x<0)=true:=decide_eq_true h1
   repeat' (first|refine Rn.p ?_|(with_reducible apply And.intro)|((first|(refine hK _ ?_;clear hK K)|with_reducible intro K hK|refine Rs.p ?_|((with_reducible first|apply oP|apply oQ);exact rfl)|refine aa hX hC hP (bh f.pl x hp) rfl rfl rfl (by simp only [go_sem,simprocAttr,hR,ak]) rfl ?_|refine aa hX hC hP (aX g x false hl) rfl rfl rfl (by simp only [go_sem,simprocAttr,hR,ak]) rfl ?_);try simp only [go_sem,simprocAttr,hR,ak])|((with_reducible refine oD ?_ ?_);kernel_rfl)|((with_reducible intro h);try simp only [go_sem,simprocAttr,hR,ak] at h)|omega|intro h)
  have ak:decide (x<0)=false:=decide_eq_false h1
  by_cases h2:g.n≤x
  ·have an:decide (g.n≤x)=true:=decide_eq_true h2
   repeat' (first|refine Rn.p ?_|(with_reducible apply And.intro)|((first|(refine hK _ ?_;clear hK K)|with_reducible intro K hK|refine Rs.p ?_|((with_reducible first|apply oP|apply oQ);exact rfl)|refine aa hX hC hP (bh f.pl x hp) rfl rfl rfl (by simp only [go_sem,simprocAttr,hR,ak,an]) rfl ?_|refine aa hX hC hP (aX g x false hl) rfl rfl rfl (by simp only [go_sem,simprocAttr,hR,ak,an]) rfl ?_);try simp only [go_sem,simprocAttr,hR,ak,an])|((with_reducible refine oD ?_ ?_);kernel_rfl)|((with_reducible intro h);try simp only [go_sem,simprocAttr,hR,ak,an] at h)|omega|intro h)
  have an:decide (g.n≤x)=false:=decide_eq_false h2
  have h3:x∈f.pl:=by rcases hx with h|h|h;exact absurd h h1;exact absurd h h2;exact h
  have bH:decide (x∈f.pl)=true:=decide_eq_true h3
  repeat' (first|refine Rn.p ?_|(with_reducible apply And.intro)|((first|(refine hK _ ?_;clear hK K)|with_reducible intro K hK|refine Rs.p ?_|((with_reducible first|apply oP|apply oQ);exact rfl)|refine aa hX hC hP (bh f.pl x hp) rfl rfl rfl (by simp only [go_sem,simprocAttr,hR,ak,an,bH]) rfl ?_|refine aa hX hC hP (aX g x false hl) rfl rfl rfl (by simp only [go_sem,simprocAttr,hR,ak,an,bH]) rfl ?_);try simp only [go_sem,simprocAttr,hR,ak,an,bH])|((with_reducible refine oD ?_ ?_);kernel_rfl)|((with_reducible intro h);try simp only [go_sem,simprocAttr,hR,ak,an,bH] at h)|omega|intro h)
 ·have ak:decide (x<0)=false:=decide_eq_false fun h=>hx (.inl h)
  have an:decide (g.n≤x)=false:=decide_eq_false fun h=>hx (.inr (.inl h))
  have bH:decide (x∈f.pl)=false:=decide_eq_false fun h=>hx (.inr (.inr h))
  have hR:aD g f x=if bt g x=0 then true else !(List.range f.row.length).any (sJ f.row x (bt g x))&&decide (e9 f.row x f.row.length=bt g x):=if_neg hx
  have b8:(aY (·.2) g.es g.es.length x).length=bt g x:=rfl
  have hnl:bt g x≤1000:=Nat.le_trans jJ hl
  generalize bt g x=need at hR b8 hnl
  by_cases h4:need=0
  ·have hb4:decide ((need:Int)=0)=true:=decide_eq_true (by omega)
   rw [if_pos h4] at hR
   (refine Spec.hd (C:=T.cfg [] []) (rs:= [.t 4]) (T.ai _ _) Tryz.func185 rfl rfl Tryz.ntmps185 Tryz.results185 (by simp [AObj.isNest]) (by simp [AObj.isNest]) (by kernel_rfl) T.mixed fun X hX hP hC aK cw=> ?_)
   repeat' (first|refine Rn.p ?_|(with_reducible apply And.intro)|((first|(refine hK _ ?_;clear hK K)|with_reducible intro K hK|refine Rs.p ?_|((with_reducible first|apply oP|apply oQ);exact rfl)|refine aa hX hC hP (bh f.pl x hp) rfl rfl rfl (by simp only [go_sem,simprocAttr,hR,ak,an,bH,hb4,oJ,b8]) rfl ?_|refine aa hX hC hP (aX g x false hl) rfl rfl rfl (by simp only [go_sem,simprocAttr,hR,ak,an,bH,hb4,oJ,b8]) rfl ?_);try simp only [go_sem,simprocAttr,hR,ak,an,bH,hb4,oJ,b8])|((with_reducible refine oD ?_ ?_);kernel_rfl)|((with_reducible intro h);try simp only [go_sem,simprocAttr,hR,ak,an,bH,hb4,oJ,b8] at h)|omega|intro h)
  ·have hb4:decide ((need:Int)=0)=false:=decide_eq_false (by omega)
   rw [if_neg h4] at hR
   generalize aD g f x=res at hR
   (refine Spec.hd (C:=T.cfg [] []) (rs:= [.t 4]) (T.ai _ _) Tryz.func185 rfl rfl Tryz.ntmps185 Tryz.results185 (by simp [AObj.isNest]) (by simp [AObj.isNest]) (by kernel_rfl) T.mixed fun X hX hP hC aK cw=> ?_)
   repeat' (first|refine Rn.p ?_|(with_reducible apply And.intro)|((first|(refine hK _ ?_;clear hK K)|with_reducible intro K hK|refine Rs.p ?_|((with_reducible first|apply oP|apply oQ);exact rfl)|refine aa hX hC hP (bh f.pl x hp) rfl rfl rfl (by simp only [go_sem,simprocAttr,ak,an,bH,hb4,oJ,b8]) rfl ?_|refine aa hX hC hP (aX g x false hl) rfl rfl rfl (by simp only [go_sem,simprocAttr,ak,an,bH,hb4,oJ,b8]) rfl ?_);try simp only [go_sem,simprocAttr,ak,an,bH,hb4,oJ,b8])|((with_reducible refine oD ?_ ?_);kernel_rfl)|((with_reducible intro h);try simp only [go_sem,simprocAttr,ak,an,bH,hb4,oJ,b8] at h)|omega|intro h)
   refine ag (fun k:Nat=>k≤f.row.length∧∀j,j<k→sJ f.row x need j=false) (fun k=>⟨[(0, .ptr 10000 0),(1,eN x),(5,eN need),(6,eN (e9 f.row x k)),(7,eN k)], [(10000, .rob [eN g.n, .d (sE g.es), .d (sT f.row), .d (sI f.pl)])]⟩) (fun k=>f.row.length - k) 0 (by simp) ?_ ?_
   ·refine Le.of ?_ ?_<;>simp [go_sem,simprocAttr,ak,an,bH,hb4,oJ,b8,e9]
   rintro k ⟨hk,hg⟩
   rcases Nat.lt_or_ge k f.row.length with hlt|hge
   ·have hb:decide ((k:Int)<(f.row.length:Int))=true:=decide_eq_true (by omega)
    have hmk:=z6 (row:=f.row) (x:=x) k
    have dV:=ec (row:=f.row) (x:=x) (k:=k)
    have step:sJ f.row x need k=false→∀j,j<k+1→sJ f.row x need j=false:=fun h j hj=>by
     by_cases hjk:j=k
     ·subst hjk;exact h
     ·exact hg j (by omega)
    repeat' (first|refine Rn.p ?_|(with_reducible apply And.intro)|((first|(refine hK _ ?_;clear hK K)|with_reducible intro K hK|refine Rs.p ?_|((with_reducible first|apply oP|apply oQ);exact rfl)|refine aa hX hC hP (bh f.pl x hp) rfl rfl rfl (by simp only [go_sem,simprocAttr,hb]) rfl ?_|refine aa hX hC hP (aX g x false hl) rfl rfl rfl (by simp only [go_sem,simprocAttr,hb]) rfl ?_);try simp only [go_sem,simprocAttr,hb])|((with_reducible refine oD ?_ ?_);kernel_rfl)|((with_reducible intro h);try simp only [go_sem,simprocAttr,hb] at h)|omega|intro h)
    all_goals (first|(rw [hR,FU hlt (me.2 ⟨⟨by assumption,by assumption⟩,by assumption,by assumption⟩)];rfl)|skip)
    all_goals (first|rw [if_neg (by assumption)] at dV|rw [if_pos (by assumption)] at dV)
    all_goals (refine ⟨k+1,⟨by omega,step (by rw [← Bool.not_eq_true];intro hh;obtain ⟨⟨_,_⟩,_,_⟩:=me.1 hh;contradiction)⟩, ?_,by omega⟩;refine Le.of ?_ ?_<;>simp [go_sem,simprocAttr,hb,dV])
   ·have hb:decide ((k:Int)<(f.row.length:Int))=false:=decide_eq_false (by omega)
    obtain rfl:k=f.row.length:=by omega
    rw [FV hg] at hR
    repeat' (first|refine Rn.p ?_|(with_reducible apply And.intro)|((first|(refine hK _ ?_;clear hK K)|with_reducible intro K hK|refine Rs.p ?_|((with_reducible first|apply oP|apply oQ);exact rfl)|refine aa hX hC hP (bh f.pl x hp) rfl rfl rfl (by simp only [go_sem,simprocAttr,hb,hR]) rfl ?_|refine aa hX hC hP (aX g x false hl) rfl rfl rfl (by simp only [go_sem,simprocAttr,hb,hR]) rfl ?_);try simp only [go_sem,simprocAttr,hb,hR])|((with_reducible refine oD ?_ ?_);kernel_rfl)|((with_reducible intro h);try simp only [go_sem,simprocAttr,hb,hR] at h)|omega|intro h)
end Go.Ab
end
section
namespace Go.Ab
open Go.Proofs
attribute [local congr] ACall.congr gd.congr Nx.congr
set_option maxRecDepth 10000
set_option maxHeartbeats 4000000
end Go.Ab
end
section
namespace Go.Ab
open Go.Proofs
attribute [local congr] ACall.congr gd.congr Nx.congr
set_option maxRecDepth 10000
set_option maxHeartbeats 8000000
def bu (g:Gr) (x:Int):List Int:=aY (·.1) g.es g.es.length x
def aA (g:Gr) (f:Fr) (x:Int) (outs:List Int):(List It × Int) × Fr:=
 (((f.row.take (aZ f.row x).2.1.toNat).drop (max (aZ f.row x).1 0).toNat,0),⟨f.row.take (max (aZ f.row x).1 0).toNat++aL g x outs++f.row.drop (aZ f.row x).2.1.toNat,f.pl++ [x]⟩)
def c9 (g:Gr) (f:Fr) (x:Int) (outs:List Int):(List It × Int) × Fr:=
 if aD g f x=false then (([],3),f) else
 if outs.length≠(bu g x).length∨∃i∈bu g x,i∉outs then (([],1),f) else aA g f x outs
theorem dc {f:Edge→Int} {es:List Edge} {k:Nat} {x:Int} :(aY f es k x).Nodup:=by
 unfold aY
 exact List.Pairwise.map _ (fun a b h e=>h (Int.ofNat.inj e)) (List.Pairwise.filter _ List.nodup_range)
theorem vC:∀ {ms os:List Int},ms.Nodup→(∀i∈ms,i∈os)→os.length=ms.length→∀i∈os,i∈ms
 | [],os,_,_,hl,i,hi=>by
   have:os= []:=List.eq_nil_of_length_eq_zero (by simpa using hl)
   rw [this] at hi;exact hi
 |m::ms,os,hn,hs,hl,i,hi=>by
  rw [List.nodup_cons] at hn
  have hm:=hs m (List.mem_cons_self ..)
  by_cases h:i=m
  ·rw [h];exact List.mem_cons_self ..
  ·refine List.mem_cons_of_mem _ (vC hn.2 (os:=os.erase m) (fun j hj=> ?_) ?_ i ?_)
   ·have:j≠m:=fun e=>hn.1 (e ▸ hj)
    exact (List.mem_erase_of_ne this).2 (hs j (List.mem_cons_of_mem _ hj))
   ·rw [List.length_erase_of_mem hm,hl];simp
   ·exact (List.mem_erase_of_ne h).2 hi
theorem xM {g:Gr} {x:Int} :(bu g x).length≤g.es.length:=jJ
theorem xN (g:Gr) (hl:g.es.length≤1000) (f:Fr) (x:Int) (outs:List Int) (hr:f.row.length≤300000) (hp:f.pl.length≤100000) (ho:outs.length≤9223372036854775807):
 Spec Tryz.prog 135 (Args [.ptr 10000 0,eN x, .d (sI outs)]) [(10000, .box (jM g f))] (.tup [.d (sT (c9 g f x outs).1.1),eN (c9 g f x outs).1.2]) [(10000, .box (jM g (c9 g f x outs).2))]:=by
 have iF:f.row.length≤1000000:=by omega
 have hp1:f.pl.length≤1000000:=by omega
 have td:outs.length≤9223372036854775807:=by omega
 have hml:=xM (g:=g) (x:=x)
 have yI:aY (fun e=>e.1) g.es g.es.length x=bu g x:=rfl
 cases hR:aD g f x with
 |false=>
  have hP:c9 g f x outs=(([],3),f):=if_pos hR
  rw [hP]
  unfold jM
  (refine Spec.hd (C:=T.cfg [] []) (rs:= [.t 6, .t 7]) (T.ai _ _) Tryz.func135 rfl rfl Tryz.ntmps135 Tryz.results135 (by simp [AObj.isNest]) (by simp [AObj.isNest]) (by kernel_rfl) T.mixed fun X hX hP hC aK cw=> ?_)
  repeat' (first|refine Rn.p ?_|(with_reducible apply And.intro)|((first|(refine hK _ ?_;clear hK K)|with_reducible intro K hK|refine Rs.p ?_|((with_reducible first|apply oP|apply oQ);exact rfl)|(refine aS hX hC hP [(10000,10000)] (bB g hl f x iF hp1) rfl rfl rfl ?_ ?_ ?_ ?_ ?_ ?_ rfl rfl ?_ ?_;(focus (simp only [go_sem,simprocAttr,hR,jM];done));(iterate 6 (focus (simp [go_sem,simprocAttr,hR,jM];done)));try simp only [List.map_cons,List.map_nil])|refine aa hX hC hP (aX g x true hl) rfl rfl rfl (by simp only [go_sem,simprocAttr,hR,jM]) rfl ?_|refine aa hX hC hP (bh outs ((bu g x).getD k 0) td) rfl rfl rfl (by simp only [go_sem,simprocAttr,hR,jM]) rfl ?_);try simp only [go_sem,simprocAttr,hR,jM])|((with_reducible refine oD ?_ ?_);kernel_rfl)|((with_reducible intro h);try simp only [go_sem,simprocAttr,hR,jM] at h)|omega|intro h)
 |true=>
 have HV:¬aD g f x=false:=by rw [hR];simp
 by_cases hlen:outs.length≠(bu g x).length
 ·have hP:c9 g f x outs=(([],1),f):=by unfold c9;rw [if_neg HV,if_pos (.inl hlen)]
  have ak:decide ((outs.length:Int)=((bu g x).length:Int))=false:=decide_eq_false (by omega)
  rw [hP]
  unfold jM
  (refine Spec.hd (C:=T.cfg [] []) (rs:= [.t 6, .t 7]) (T.ai _ _) Tryz.func135 rfl rfl Tryz.ntmps135 Tryz.results135 (by simp [AObj.isNest]) (by simp [AObj.isNest]) (by kernel_rfl) T.mixed fun X hX hP hC aK cw=> ?_)
  repeat' (first|refine Rn.p ?_|(with_reducible apply And.intro)|((first|(refine hK _ ?_;clear hK K)|with_reducible intro K hK|refine Rs.p ?_|((with_reducible first|apply oP|apply oQ);exact rfl)|(refine aS hX hC hP [(10000,10000)] (bB g hl f x iF hp1) rfl rfl rfl ?_ ?_ ?_ ?_ ?_ ?_ rfl rfl ?_ ?_;(focus (simp only [go_sem,simprocAttr,hR,jM,jN,yI,ak];done));(iterate 6 (focus (simp [go_sem,simprocAttr,hR,jM,jN,yI,ak];done)));try simp only [List.map_cons,List.map_nil])|refine aa hX hC hP (aX g x true hl) rfl rfl rfl (by simp only [go_sem,simprocAttr,hR,jM,jN,yI,ak]) rfl ?_|refine aa hX hC hP (bh outs ((bu g x).getD k 0) td) rfl rfl rfl (by simp only [go_sem,simprocAttr,hR,jM,jN,yI,ak]) rfl ?_);try simp only [go_sem,simprocAttr,hR,jM,jN,yI,ak])|((with_reducible refine oD ?_ ?_);kernel_rfl)|((with_reducible intro h);try simp only [go_sem,simprocAttr,hR,jM,jN,yI,ak] at h)|omega|intro h)
 rw [ne_eq,Decidable.not_not] at hlen
 have ak:decide ((outs.length:Int)=((bu g x).length:Int))=true:=decide_eq_true (by omega)
 have hP:c9 g f x outs=if ∃i∈bu g x,i∉outs then (([],1),f) else aA g f x outs:=by
  unfold c9
  rw [if_neg HV]
  by_cases hE:∃i∈bu g x,i∉outs
  ·rw [if_pos (.inr hE),if_pos hE]
  ·rw [if_neg (fun h=>by rcases h with h|h;exact h hlen;exact hE h),if_neg hE]
 rw [hP]
 generalize IB:(if ∃i∈bu g x,i∉outs then (([],1),f) else aA g f x outs:(List It × Int) × Fr)=pp
 unfold jM
 (refine Spec.hd (C:=T.cfg [] []) (rs:= [.t 6, .t 7]) (T.ai _ _) Tryz.func135 rfl rfl Tryz.ntmps135 Tryz.results135 (by simp [AObj.isNest]) (by simp [AObj.isNest]) (by kernel_rfl) T.mixed fun X hX hP hC aK cw=> ?_)
 repeat' (first|refine Rn.p ?_|(with_reducible apply And.intro)|((first|(refine hK _ ?_;clear hK K)|with_reducible intro K hK|refine Rs.p ?_|((with_reducible first|apply oP|apply oQ);exact rfl)|(refine aS hX hC hP [(10000,10000)] (bB g hl f x iF hp1) rfl rfl rfl ?_ ?_ ?_ ?_ ?_ ?_ rfl rfl ?_ ?_;(focus (simp only [go_sem,simprocAttr,hR,jM,jN,yI,ak];done));(iterate 6 (focus (simp [go_sem,simprocAttr,hR,jM,jN,yI,ak];done)));try simp only [List.map_cons,List.map_nil])|refine aa hX hC hP (aX g x true hl) rfl rfl rfl (by simp only [go_sem,simprocAttr,hR,jM,jN,yI,ak]) rfl ?_|refine aa hX hC hP (bh outs ((bu g x).getD k 0) td) rfl rfl rfl (by simp only [go_sem,simprocAttr,hR,jM,jN,yI,ak]) rfl ?_);try simp only [go_sem,simprocAttr,hR,jM,jN,yI,ak])|((with_reducible refine oD ?_ ?_);kernel_rfl)|((with_reducible intro h);try simp only [go_sem,simprocAttr,hR,jM,jN,yI,ak] at h)|omega|intro h)
 refine ag (fun k:Nat=>k≤(bu g x).length∧∀j,j<k→(bu g x).getD j 0∈outs) (fun k=>⟨[(0, .ptr 10000 0),(1,eN x),(2, .d (sI outs)),(8, .d (sI (bu g x))),(9,eN k)], [(10000, .box [eN g.n, .d (sE g.es), .d (sT f.row), .d (sI f.pl)])]⟩) (fun k=>(bu g x).length - k) 0 (by simp) ?_ ?_
 ·(refine Le.of ?_ ?_<;>simp [go_sem,simprocAttr,hR,jM,jN,yI,ak])
 rintro k ⟨hk,hg⟩
 rcases Nat.lt_or_ge k (bu g x).length with hlt|hge
 ·have hb:decide ((k:Int)<((bu g x).length:Int))=true:=decide_eq_true (by omega)
  by_cases hin:(bu g x).getD k 0∈outs
  ·have an:decide ((bu g x).getD k 0∈outs)=true:=decide_eq_true hin
   repeat' (first|refine Rn.p ?_|(with_reducible apply And.intro)|((first|(refine hK _ ?_;clear hK K)|with_reducible intro K hK|refine Rs.p ?_|((with_reducible first|apply oP|apply oQ);exact rfl)|(refine aS hX hC hP [(10000,10000)] (bB g hl f x iF hp1) rfl rfl rfl ?_ ?_ ?_ ?_ ?_ ?_ rfl rfl ?_ ?_;(focus (simp only [go_sem,simprocAttr,hb,an];done));(iterate 6 (focus (simp [go_sem,simprocAttr,hb,an];done)));try simp only [List.map_cons,List.map_nil])|refine aa hX hC hP (aX g x true hl) rfl rfl rfl (by simp only [go_sem,simprocAttr,hb,an]) rfl ?_|refine aa hX hC hP (bh outs ((bu g x).getD k 0) td) rfl rfl rfl (by simp only [go_sem,simprocAttr,hb,an]) rfl ?_);try simp only [go_sem,simprocAttr,hb,an])|((with_reducible refine oD ?_ ?_);kernel_rfl)|((with_reducible intro h);try simp only [go_sem,simprocAttr,hb,an] at h)|omega|intro h)
   refine ⟨k+1,⟨by omega,fun j hj=> ?_⟩, ?_,by omega⟩
   ·by_cases hjk:j=k
    ·subst hjk;exact hin
    ·exact hg j (by omega)
   ·(refine Le.of ?_ ?_<;>simp [go_sem,simprocAttr,hb,an])
  ·have an:decide ((bu g x).getD k 0∈outs)=false:=decide_eq_false hin
   rw [if_pos ⟨_,aV (d:=0) hlt,hin⟩] at IB
   subst IB
   repeat' (first|refine Rn.p ?_|(with_reducible apply And.intro)|((first|(refine hK _ ?_;clear hK K)|with_reducible intro K hK|refine Rs.p ?_|((with_reducible first|apply oP|apply oQ);exact rfl)|(refine aS hX hC hP [(10000,10000)] (bB g hl f x iF hp1) rfl rfl rfl ?_ ?_ ?_ ?_ ?_ ?_ rfl rfl ?_ ?_;(focus (simp only [go_sem,simprocAttr,hb,an];done));(iterate 6 (focus (simp [go_sem,simprocAttr,hb,an];done)));try simp only [List.map_cons,List.map_nil])|refine aa hX hC hP (aX g x true hl) rfl rfl rfl (by simp only [go_sem,simprocAttr,hb,an]) rfl ?_|refine aa hX hC hP (bh outs ((bu g x).getD k 0) td) rfl rfl rfl (by simp only [go_sem,simprocAttr,hb,an]) rfl ?_);try simp only [go_sem,simprocAttr,hb,an])|((with_reducible refine oD ?_ ?_);kernel_rfl)|((with_reducible intro h);try simp only [go_sem,simprocAttr,hb,an] at h)|omega|intro h)
 have hb:decide ((k:Int)<((bu g x).length:Int))=false:=decide_eq_false (by omega)
 have hsub:∀i∈bu g x,i∈outs:=fun i hi=>by
  obtain ⟨j,hj,rfl⟩:=List.mem_iff_getElem.1 hi
  have:=hg j (by omega)
  rwa [List.getD_eq_getElem?_getD,List.getElem?_eq_getElem hj] at this
 have FT:∀i∈outs,0≤i∧i<g.es.length:=fun i hi=>(fQ (vC dc hsub hlen i hi)).1
 rw [if_neg (fun ⟨i,h1,h2⟩=>h2 (hsub i h1))] at IB
 subst IB
 clear hk hg hge hsub hP
 repeat' (first|refine Rn.p ?_|(with_reducible apply And.intro)|((first|(refine hK _ ?_;clear hK K)|with_reducible intro K hK|refine Rs.p ?_|((with_reducible first|apply oP|apply oQ);exact rfl)|(refine aS hX hC hP [(10000,10000)] (bB g hl f x iF hp1) rfl rfl rfl ?_ ?_ ?_ ?_ ?_ ?_ rfl rfl ?_ ?_;(focus (simp only [go_sem,simprocAttr,hb];done));(iterate 6 (focus (simp [go_sem,simprocAttr,hb];done)));try simp only [List.map_cons,List.map_nil])|refine aa hX hC hP (aX g x true hl) rfl rfl rfl (by simp only [go_sem,simprocAttr,hb]) rfl ?_|refine aa hX hC hP (bh outs ((bu g x).getD k 0) td) rfl rfl rfl (by simp only [go_sem,simprocAttr,hb]) rfl ?_);try simp only [go_sem,simprocAttr,hb])|((with_reducible refine oD ?_ ?_);kernel_rfl)|((with_reducible intro h);try simp only [go_sem,simprocAttr,hb] at h)|omega|intro h)
 (refine jd hX 10 45 72 (by simp only [go_sem,simprocAttr,hb]) rfl (by first|exact .inl rfl|exact .inr rfl) (by decide) ?_;simp only [go_sem,simprocAttr,hb])
 refine ag (fun k:Nat=>k≤outs.length) (fun k=>⟨[(0, .ptr 10000 0),(1,eN x),(2, .d (sI outs)),(11,eN k),(10, .ref 72)], [(10000, .box [eN g.n, .d (sE g.es), .d (sT f.row), .d (sI f.pl)]),(72, .tip 92 3 (((outs.take k).map (fm g x)).map rT))]⟩) (fun k=>outs.length - k) 0 (by omega) ?_ ?_
 ·refine Le.of ?_ ?_<;>simp [go_sem,simprocAttr,hb]
 clear hb
 rintro k hk
 rcases Nat.lt_or_ge k outs.length with hlt|hge
 ·have hb:decide ((k:Int)<(outs.length:Int))=true:=decide_eq_true (by omega)
  have dV:=sH (f:=fm g x) (d:=0) hlt
  have HA:=FT _ (aV (d:=0) hlt)
  have hlk:(outs.take k).length=k:=by simp;omega
  repeat' (first|refine Rn.p ?_|(with_reducible apply And.intro)|((first|(refine hK _ ?_;clear hK K)|with_reducible intro K hK|refine Rs.p ?_|((with_reducible first|apply oP|apply oQ);exact rfl)|(refine aS hX hC hP [(10000,10000)] (bB g hl f x iF hp1) rfl rfl rfl ?_ ?_ ?_ ?_ ?_ ?_ rfl rfl ?_ ?_;(focus (simp only [go_sem,simprocAttr,hb,hlk];done));(iterate 6 (focus (simp [go_sem,simprocAttr,hb,hlk];done)));try simp only [List.map_cons,List.map_nil])|refine aa hX hC hP (aX g x true hl) rfl rfl rfl (by simp only [go_sem,simprocAttr,hb,hlk]) rfl ?_|refine aa hX hC hP (bh outs ((bu g x).getD k 0) td) rfl rfl rfl (by simp only [go_sem,simprocAttr,hb,hlk]) rfl ?_);try simp only [go_sem,simprocAttr,hb,hlk])|((with_reducible refine oD ?_ ?_);kernel_rfl)|((with_reducible intro h);try simp only [go_sem,simprocAttr,hb,hlk] at h)|omega|intro h)
  refine ⟨k+1,by omega, ?_,by omega⟩
  refine Le.of ?_ ?_<;>simp [go_sem,simprocAttr,hb,hlk,dV,fm]
 have hb:decide ((k:Int)<(outs.length:Int))=false:=decide_eq_false (by omega)
 obtain rfl:k=outs.length:=by omega
 have ht:outs.take outs.length=outs:=List.take_of_length_le (by omega)
 clear hk hge
 by_cases h0:outs= []
 ·have hA:aL g x outs= [(-1,x, -1)]:=if_pos h0
  have hb0:decide ((outs.length:Int)=0)=true:=decide_eq_true (by rw [h0];rfl)
  have hm0:(outs.map (fm g x)).map rT= []:=by rw [h0];rfl
  repeat' (first|refine Rn.p ?_|(with_reducible apply And.intro)|((first|(refine hK _ ?_;clear hK K)|with_reducible intro K hK|refine Rs.p ?_|((with_reducible first|apply oP|apply oQ);exact rfl)|(refine aS hX hC hP [(10000,10000)] (bB g hl f x iF hp1) rfl rfl rfl ?_ ?_ ?_ ?_ ?_ ?_ rfl rfl ?_ ?_;(focus (simp only [go_sem,simprocAttr,hb,ht,hb0,hm0,List.nil_append];done));(iterate 6 (focus (simp [go_sem,simprocAttr,hb,ht,hb0,hm0,List.nil_append];done)));try simp only [List.map_cons,List.map_nil])|refine aa hX hC hP (aX g x true hl) rfl rfl rfl (by simp only [go_sem,simprocAttr,hb,ht,hb0,hm0,List.nil_append]) rfl ?_|refine aa hX hC hP (bh outs ((bu g x).getD k 0) td) rfl rfl rfl (by simp only [go_sem,simprocAttr,hb,ht,hb0,hm0,List.nil_append]) rfl ?_);try simp only [go_sem,simprocAttr,hb,ht,hb0,hm0,List.nil_append])|((with_reducible refine oD ?_ ?_);kernel_rfl)|((with_reducible intro h);try simp only [go_sem,simprocAttr,hb,ht,hb0,hm0,List.nil_append] at h)|omega|intro h)
  (refine jd hX 10 80 72 (by simp only [go_sem,simprocAttr,hb,ht,hb0,hm0,List.nil_append]) rfl (by first|exact .inl rfl|exact .inr rfl) (by decide) ?_;simp only [go_sem,simprocAttr,hb,ht,hb0,hm0,List.nil_append])
  refine ag (fun k:Nat=>k≤f.row.length) (fun k=>⟨[(0, .ptr 10000 0),(1,eN x),(10, .ref 72),(12,eN (cJ f.row x k).1),(13,eN ((cJ f.row x k).2.1 - 1)),(14,eN k)], [(10000, .box [eN g.n, .d (sE g.es), .d (sT f.row), .d (sI f.pl)]),(72, .tip 92 3 ((aL g x outs).map rT))]⟩) (fun k=>f.row.length - k) 0 (by omega) ?_ ?_
  ·refine Le.of ?_ ?_<;>simp [go_sem,simprocAttr,hb,ht,hb0,hm0,List.nil_append,cJ,hA]
  rintro k hk
  rcases Nat.lt_or_ge k f.row.length with hlt|hge
  ·have hb:decide ((k:Int)<(f.row.length:Int))=true:=decide_eq_true (by omega)
   have hok:=c8 (row:=f.row) (x:=x) k
   have dV:=iw (row:=f.row) (x:=x) (k:=k)
   have o8:(cJ f.row x k).1<0↔(cJ f.row x k).1= -1:=by
    rcases hok with ⟨h1,_⟩|⟨a,b,c,h1,_⟩
    ·rw [h1];exact ⟨fun _=>rfl,fun _=>by decide⟩
    ·rw [h1];show (a:Int)<0↔(a:Int)= -1;omega
   repeat' (first|refine Rn.p ?_|(with_reducible apply And.intro)|((first|(refine hK _ ?_;clear hK K)|with_reducible intro K hK|refine Rs.p ?_|((with_reducible first|apply oP|apply oQ);exact rfl)|(refine aS hX hC hP [(10000,10000)] (bB g hl f x iF hp1) rfl rfl rfl ?_ ?_ ?_ ?_ ?_ ?_ rfl rfl ?_ ?_;(focus (simp only [go_sem,simprocAttr,hb];done));(iterate 6 (focus (simp [go_sem,simprocAttr,hb];done)));try simp only [List.map_cons,List.map_nil])|refine aa hX hC hP (aX g x true hl) rfl rfl rfl (by simp only [go_sem,simprocAttr,hb]) rfl ?_|refine aa hX hC hP (bh outs ((bu g x).getD k 0) td) rfl rfl rfl (by simp only [go_sem,simprocAttr,hb]) rfl ?_);try simp only [go_sem,simprocAttr,hb])|((with_reducible refine oD ?_ ?_);kernel_rfl)|((with_reducible intro h);try simp only [go_sem,simprocAttr,hb] at h)|omega|intro h)
   all_goals (try rw [o8] at*)
   all_goals (first|rw [if_neg (by assumption)] at dV|(rw [if_pos (by assumption)] at dV;first|rw [if_pos (by assumption)] at dV|rw [if_neg (by assumption)] at dV))
   all_goals (refine ⟨k+1,by omega, ?_,by omega⟩;refine Le.of ?_ ?_<;>simp [go_sem,simprocAttr,hb,dV])
  have hb:decide ((k:Int)<(f.row.length:Int))=false:=decide_eq_false (by omega)
  obtain rfl:k=f.row.length:=by omega
  clear hk hge
  have htr:List.take f.row.length (f.row.map rT)=f.row.map rT:=List.take_of_length_le (by simp)
  have wh:=kC (g:=g) (x:=x) (outs:=outs)
  rcases c8 (row:=f.row) (x:=x) f.row.length with ⟨hs,_⟩|⟨a,b,c,hs,hab,kH,_⟩
  ·have hS:aA g f x outs=(([],0),⟨aL g x outs++f.row,f.pl++ [x]⟩):=by
    have e:aZ f.row x=(-1,0,0):=hs
    unfold aA
    rw [e];simp;exact .inl (by decide)
   repeat' (first|(show cl _ .ret _ _;(try simp only [go_sem,simprocAttr,hb,hs,hS,htr,List.map_append,List.map_cons,List.map_nil,rI,List.length_append,List.length_map,List.length_take,List.length_drop]);(refine cF hX 113 rfl ?_;simp only [go_sem,simprocAttr,hb,hs,hS,htr,List.map_append,List.map_cons,List.map_nil,rI,List.length_append,List.length_map,List.length_take,List.length_drop]);first|(refine cF hX 124 rfl ?_;simp only [go_sem,simprocAttr,hb,hs,hS,htr,List.map_append,List.map_cons,List.map_nil,rI,List.length_append,List.length_map,List.length_take,List.length_drop])|(refine cF hX 156 rfl ?_;simp only [go_sem,simprocAttr,hb,hs,hS,htr,List.map_append,List.map_cons,List.map_nil,rI,List.length_append,List.length_map,List.length_take,List.length_drop]))|refine Rn.p ?_|(with_reducible apply And.intro)|((first|(refine hK _ ?_;clear hK K)|with_reducible intro K hK|refine Rs.p ?_|((with_reducible first|apply oP|apply oQ);exact rfl)|(refine aS hX hC hP [(10000,10000)] (bB g hl f x iF hp1) rfl rfl rfl ?_ ?_ ?_ ?_ ?_ ?_ rfl rfl ?_ ?_;(focus (simp only [go_sem,simprocAttr,hb,hs,hS,htr,List.map_append,List.map_cons,List.map_nil,rI,List.length_append,List.length_map,List.length_take,List.length_drop];done));(iterate 6 (focus (simp [go_sem,simprocAttr,hb,hs,hS,htr,List.map_append,List.map_cons,List.map_nil,rI,List.length_append,List.length_map,List.length_take,List.length_drop];done)));try simp only [List.map_cons,List.map_nil])|refine aa hX hC hP (aX g x true hl) rfl rfl rfl (by simp only [go_sem,simprocAttr,hb,hs,hS,htr,List.map_append,List.map_cons,List.map_nil,rI,List.length_append,List.length_map,List.length_take,List.length_drop]) rfl ?_|refine aa hX hC hP (bh outs ((bu g x).getD k 0) td) rfl rfl rfl (by simp only [go_sem,simprocAttr,hb,hs,hS,htr,List.map_append,List.map_cons,List.map_nil,rI,List.length_append,List.length_map,List.length_take,List.length_drop]) rfl ?_);try simp only [go_sem,simprocAttr,hb,hs,hS,htr,List.map_append,List.map_cons,List.map_nil,rI,List.length_append,List.length_map,List.length_take,List.length_drop])|((with_reducible refine oD ?_ ?_);kernel_rfl)|((with_reducible intro h);try simp only [go_sem,simprocAttr,hb,hs,hS,htr,List.map_append,List.map_cons,List.map_nil,rI,List.length_append,List.length_map,List.length_take,List.length_drop] at h)|omega|intro h)
  ·have hS:aA g f x outs=(((f.row.take b).drop a,0),⟨f.row.take a++aL g x outs++f.row.drop b,f.pl++ [x]⟩):=by
    have e:aZ f.row x=((a:Int),(b:Int),(c:Int)):=hs
    unfold aA
    rw [e]
    have e1:(max (a:Int) 0).toNat=a:=by omega
    simp only [e1,Int.toNat_natCast]
   have qI:((b:Int) - 1+1)=b:=by omega
   repeat' (first|(show cl _ .ret _ _;(try simp only [go_sem,simprocAttr,hb,hs,hS,qI,htr,List.map_append,List.map_cons,List.map_nil,List.map_take,List.map_drop,rI,List.length_append,List.length_map,List.length_take,List.length_drop]);(refine cF hX 113 rfl ?_;simp only [go_sem,simprocAttr,hb,hs,hS,qI,htr,List.map_append,List.map_cons,List.map_nil,List.map_take,List.map_drop,rI,List.length_append,List.length_map,List.length_take,List.length_drop]);first|(refine cF hX 124 rfl ?_;simp only [go_sem,simprocAttr,hb,hs,hS,qI,htr,List.map_append,List.map_cons,List.map_nil,List.map_take,List.map_drop,rI,List.length_append,List.length_map,List.length_take,List.length_drop])|(refine cF hX 156 rfl ?_;simp only [go_sem,simprocAttr,hb,hs,hS,qI,htr,List.map_append,List.map_cons,List.map_nil,List.map_take,List.map_drop,rI,List.length_append,List.length_map,List.length_take,List.length_drop]))|refine Rn.p ?_|(with_reducible apply And.intro)|((first|(refine hK _ ?_;clear hK K)|with_reducible intro K hK|refine Rs.p ?_|((with_reducible first|apply oP|apply oQ);exact rfl)|(refine aS hX hC hP [(10000,10000)] (bB g hl f x iF hp1) rfl rfl rfl ?_ ?_ ?_ ?_ ?_ ?_ rfl rfl ?_ ?_;(focus (simp only [go_sem,simprocAttr,hb,hs,hS,qI,htr,List.map_append,List.map_cons,List.map_nil,List.map_take,List.map_drop,rI,List.length_append,List.length_map,List.length_take,List.length_drop];done));(iterate 6 (focus (simp [go_sem,simprocAttr,hb,hs,hS,qI,htr,List.map_append,List.map_cons,List.map_nil,List.map_take,List.map_drop,rI,List.length_append,List.length_map,List.length_take,List.length_drop];done)));try simp only [List.map_cons,List.map_nil])|refine aa hX hC hP (aX g x true hl) rfl rfl rfl (by simp only [go_sem,simprocAttr,hb,hs,hS,qI,htr,List.map_append,List.map_cons,List.map_nil,List.map_take,List.map_drop,rI,List.length_append,List.length_map,List.length_take,List.length_drop]) rfl ?_|refine aa hX hC hP (bh outs ((bu g x).getD k 0) td) rfl rfl rfl (by simp only [go_sem,simprocAttr,hb,hs,hS,qI,htr,List.map_append,List.map_cons,List.map_nil,List.map_take,List.map_drop,rI,List.length_append,List.length_map,List.length_take,List.length_drop]) rfl ?_);try simp only [go_sem,simprocAttr,hb,hs,hS,qI,htr,List.map_append,List.map_cons,List.map_nil,List.map_take,List.map_drop,rI,List.length_append,List.length_map,List.length_take,List.length_drop])|((with_reducible refine oD ?_ ?_);kernel_rfl)|((with_reducible intro h);try simp only [go_sem,simprocAttr,hb,hs,hS,qI,htr,List.map_append,List.map_cons,List.map_nil,List.map_take,List.map_drop,rI,List.length_append,List.length_map,List.length_take,List.length_drop] at h)|omega|intro h)
 ·have hA:aL g x outs=outs.map (fm g x):=if_neg h0
  have hb0:decide ((outs.length:Int)=0)=false:=decide_eq_false fun h=>h0 (List.eq_nil_of_length_eq_zero (by omega))
  repeat' (first|refine Rn.p ?_|(with_reducible apply And.intro)|((first|(refine hK _ ?_;clear hK K)|with_reducible intro K hK|refine Rs.p ?_|((with_reducible first|apply oP|apply oQ);exact rfl)|(refine aS hX hC hP [(10000,10000)] (bB g hl f x iF hp1) rfl rfl rfl ?_ ?_ ?_ ?_ ?_ ?_ rfl rfl ?_ ?_;(focus (simp only [go_sem,simprocAttr,hb,ht,hb0];done));(iterate 6 (focus (simp [go_sem,simprocAttr,hb,ht,hb0];done)));try simp only [List.map_cons,List.map_nil])|refine aa hX hC hP (aX g x true hl) rfl rfl rfl (by simp only [go_sem,simprocAttr,hb,ht,hb0]) rfl ?_|refine aa hX hC hP (bh outs ((bu g x).getD k 0) td) rfl rfl rfl (by simp only [go_sem,simprocAttr,hb,ht,hb0]) rfl ?_);try simp only [go_sem,simprocAttr,hb,ht,hb0])|((with_reducible refine oD ?_ ?_);kernel_rfl)|((with_reducible intro h);try simp only [go_sem,simprocAttr,hb,ht,hb0] at h)|omega|intro h)
  refine ag (fun k:Nat=>k≤f.row.length) (fun k=>⟨[(0, .ptr 10000 0),(1,eN x),(10, .ref 72),(12,eN (cJ f.row x k).1),(13,eN ((cJ f.row x k).2.1 - 1)),(14,eN k)], [(10000, .box [eN g.n, .d (sE g.es), .d (sT f.row), .d (sI f.pl)]),(72, .tip 92 3 ((aL g x outs).map rT))]⟩) (fun k=>f.row.length - k) 0 (by omega) ?_ ?_
  ·refine Le.of ?_ ?_<;>simp [go_sem,simprocAttr,hb,ht,hb0,cJ,hA]
  rintro k hk
  rcases Nat.lt_or_ge k f.row.length with hlt|hge
  ·have hb:decide ((k:Int)<(f.row.length:Int))=true:=decide_eq_true (by omega)
   have hok:=c8 (row:=f.row) (x:=x) k
   have dV:=iw (row:=f.row) (x:=x) (k:=k)
   have o8:(cJ f.row x k).1<0↔(cJ f.row x k).1= -1:=by
    rcases hok with ⟨h1,_⟩|⟨a,b,c,h1,_⟩
    ·rw [h1];exact ⟨fun _=>rfl,fun _=>by decide⟩
    ·rw [h1];show (a:Int)<0↔(a:Int)= -1;omega
   repeat' (first|refine Rn.p ?_|(with_reducible apply And.intro)|((first|(refine hK _ ?_;clear hK K)|with_reducible intro K hK|refine Rs.p ?_|((with_reducible first|apply oP|apply oQ);exact rfl)|(refine aS hX hC hP [(10000,10000)] (bB g hl f x iF hp1) rfl rfl rfl ?_ ?_ ?_ ?_ ?_ ?_ rfl rfl ?_ ?_;(focus (simp only [go_sem,simprocAttr,hb];done));(iterate 6 (focus (simp [go_sem,simprocAttr,hb];done)));try simp only [List.map_cons,List.map_nil])|refine aa hX hC hP (aX g x true hl) rfl rfl rfl (by simp only [go_sem,simprocAttr,hb]) rfl ?_|refine aa hX hC hP (bh outs ((bu g x).getD k 0) td) rfl rfl rfl (by simp only [go_sem,simprocAttr,hb]) rfl ?_);try simp only [go_sem,simprocAttr,hb])|((with_reducible refine oD ?_ ?_);kernel_rfl)|((with_reducible intro h);try simp only [go_sem,simprocAttr,hb] at h)|omega|intro h)
   all_goals (try rw [o8] at*)
   all_goals (first|rw [if_neg (by assumption)] at dV|(rw [if_pos (by assumption)] at dV;first|rw [if_pos (by assumption)] at dV|rw [if_neg (by assumption)] at dV))
   all_goals (refine ⟨k+1,by omega, ?_,by omega⟩;refine Le.of ?_ ?_<;>simp [go_sem,simprocAttr,hb,dV])
  have hb:decide ((k:Int)<(f.row.length:Int))=false:=decide_eq_false (by omega)
  obtain rfl:k=f.row.length:=by omega
  clear hk hge
  have htr:List.take f.row.length (f.row.map rT)=f.row.map rT:=List.take_of_length_le (by simp)
  have wh:=kC (g:=g) (x:=x) (outs:=outs)
  rcases c8 (row:=f.row) (x:=x) f.row.length with ⟨hs,_⟩|⟨a,b,c,hs,hab,kH,_⟩
  ·have hS:aA g f x outs=(([],0),⟨aL g x outs++f.row,f.pl++ [x]⟩):=by
    have e:aZ f.row x=(-1,0,0):=hs
    unfold aA
    rw [e];simp;exact .inl (by decide)
   repeat' (first|(show cl _ .ret _ _;(try simp only [go_sem,simprocAttr,hb,hs,hS,htr,List.map_append,List.map_cons,List.map_nil,rI,List.length_append,List.length_map,List.length_take,List.length_drop]);(refine cF hX 113 rfl ?_;simp only [go_sem,simprocAttr,hb,hs,hS,htr,List.map_append,List.map_cons,List.map_nil,rI,List.length_append,List.length_map,List.length_take,List.length_drop]);first|(refine cF hX 124 rfl ?_;simp only [go_sem,simprocAttr,hb,hs,hS,htr,List.map_append,List.map_cons,List.map_nil,rI,List.length_append,List.length_map,List.length_take,List.length_drop])|(refine cF hX 156 rfl ?_;simp only [go_sem,simprocAttr,hb,hs,hS,htr,List.map_append,List.map_cons,List.map_nil,rI,List.length_append,List.length_map,List.length_take,List.length_drop]))|refine Rn.p ?_|(with_reducible apply And.intro)|((first|(refine hK _ ?_;clear hK K)|with_reducible intro K hK|refine Rs.p ?_|((with_reducible first|apply oP|apply oQ);exact rfl)|(refine aS hX hC hP [(10000,10000)] (bB g hl f x iF hp1) rfl rfl rfl ?_ ?_ ?_ ?_ ?_ ?_ rfl rfl ?_ ?_;(focus (simp only [go_sem,simprocAttr,hb,hs,hS,htr,List.map_append,List.map_cons,List.map_nil,rI,List.length_append,List.length_map,List.length_take,List.length_drop];done));(iterate 6 (focus (simp [go_sem,simprocAttr,hb,hs,hS,htr,List.map_append,List.map_cons,List.map_nil,rI,List.length_append,List.length_map,List.length_take,List.length_drop];done)));try simp only [List.map_cons,List.map_nil])|refine aa hX hC hP (aX g x true hl) rfl rfl rfl (by simp only [go_sem,simprocAttr,hb,hs,hS,htr,List.map_append,List.map_cons,List.map_nil,rI,List.length_append,List.length_map,List.length_take,List.length_drop]) rfl ?_|refine aa hX hC hP (bh outs ((bu g x).getD k 0) td) rfl rfl rfl (by simp only [go_sem,simprocAttr,hb,hs,hS,htr,List.map_append,List.map_cons,List.map_nil,rI,List.length_append,List.length_map,List.length_take,List.length_drop]) rfl ?_);try simp only [go_sem,simprocAttr,hb,hs,hS,htr,List.map_append,List.map_cons,List.map_nil,rI,List.length_append,List.length_map,List.length_take,List.length_drop])|((with_reducible refine oD ?_ ?_);kernel_rfl)|((with_reducible intro h);try simp only [go_sem,simprocAttr,hb,hs,hS,htr,List.map_append,List.map_cons,List.map_nil,rI,List.length_append,List.length_map,List.length_take,List.length_drop] at h)|omega|intro h)
  ·have hS:aA g f x outs=(((f.row.take b).drop a,0),⟨f.row.take a++aL g x outs++f.row.drop b,f.pl++ [x]⟩):=by
    have e:aZ f.row x=((a:Int),(b:Int),(c:Int)):=hs
    unfold aA
    rw [e]
    have e1:(max (a:Int) 0).toNat=a:=by omega
    simp only [e1,Int.toNat_natCast]
   have qI:((b:Int) - 1+1)=b:=by omega
   repeat' (first|(show cl _ .ret _ _;(try simp only [go_sem,simprocAttr,hb,hs,hS,qI,htr,List.map_append,List.map_cons,List.map_nil,List.map_take,List.map_drop,rI,List.length_append,List.length_map,List.length_take,List.length_drop]);(refine cF hX 113 rfl ?_;simp only [go_sem,simprocAttr,hb,hs,hS,qI,htr,List.map_append,List.map_cons,List.map_nil,List.map_take,List.map_drop,rI,List.length_append,List.length_map,List.length_take,List.length_drop]);first|(refine cF hX 124 rfl ?_;simp only [go_sem,simprocAttr,hb,hs,hS,qI,htr,List.map_append,List.map_cons,List.map_nil,List.map_take,List.map_drop,rI,List.length_append,List.length_map,List.length_take,List.length_drop])|(refine cF hX 156 rfl ?_;simp only [go_sem,simprocAttr,hb,hs,hS,qI,htr,List.map_append,List.map_cons,List.map_nil,List.map_take,List.map_drop,rI,List.length_append,List.length_map,List.length_take,List.length_drop]))|refine Rn.p ?_|(with_reducible apply And.intro)|((first|(refine hK _ ?_;clear hK K)|with_reducible intro K hK|refine Rs.p ?_|((with_reducible first|apply oP|apply oQ);exact rfl)|(refine aS hX hC hP [(10000,10000)] (bB g hl f x iF hp1) rfl rfl rfl ?_ ?_ ?_ ?_ ?_ ?_ rfl rfl ?_ ?_;(focus (simp only [go_sem,simprocAttr,hb,hs,hS,qI,htr,List.map_append,List.map_cons,List.map_nil,List.map_take,List.map_drop,rI,List.length_append,List.length_map,List.length_take,List.length_drop];done));(iterate 6 (focus (simp [go_sem,simprocAttr,hb,hs,hS,qI,htr,List.map_append,List.map_cons,List.map_nil,List.map_take,List.map_drop,rI,List.length_append,List.length_map,List.length_take,List.length_drop];done)));try simp only [List.map_cons,List.map_nil])|refine aa hX hC hP (aX g x true hl) rfl rfl rfl (by simp only [go_sem,simprocAttr,hb,hs,hS,qI,htr,List.map_append,List.map_cons,List.map_nil,List.map_take,List.map_drop,rI,List.length_append,List.length_map,List.length_take,List.length_drop]) rfl ?_|refine aa hX hC hP (bh outs ((bu g x).getD k 0) td) rfl rfl rfl (by simp only [go_sem,simprocAttr,hb,hs,hS,qI,htr,List.map_append,List.map_cons,List.map_nil,List.map_take,List.map_drop,rI,List.length_append,List.length_map,List.length_take,List.length_drop]) rfl ?_);try simp only [go_sem,simprocAttr,hb,hs,hS,qI,htr,List.map_append,List.map_cons,List.map_nil,List.map_take,List.map_drop,rI,List.length_append,List.length_map,List.length_take,List.length_drop])|((with_reducible refine oD ?_ ?_);kernel_rfl)|((with_reducible intro h);try simp only [go_sem,simprocAttr,hb,hs,hS,qI,htr,List.map_append,List.map_cons,List.map_nil,List.map_take,List.map_drop,rI,List.length_append,List.length_map,List.length_take,List.length_drop] at h)|omega|intro h)
end Go.Ab
end
section
namespace Go.Ab
open Go.Proofs
attribute [local congr] ACall.congr gd.congr Nx.congr
set_option maxRecDepth 10000
set_option maxHeartbeats 4000000
def vI (ls:List (List Int)):List (List D):=ls.map fun l=> [sI l]
theorem vI_length {ls:List (List Int)} :(vI ls).length=ls.length:=by simp [vI]
theorem fq {ls:List (List Int)} {k:Nat} (h:k<ls.length) (d:List D):(vI ls).getD k d= [sI (ls.getD k [])]:=by
 simp [vI,List.getD_eq_getElem?_getD,List.getElem?_eq_getElem h]
attribute [go_sem] vI_length
def z7 (l:List Int) (i:Nat):List Int:=l.take i++l.drop (i+1)
def FW:Nat→List Int→List (List Int)
 |0,_=> [[]]
 |n+1,l=>(List.range l.length).flatMap fun i=>(FW n (z7 l i)).map fun t=>l.getD i 0::t
def P4 (n:Nat) (l:List Int) (k:Nat):List (List Int):=(List.range k).flatMap fun i=>(FW n (z7 l i)).map fun t=>l.getD i 0::t
def P5:Nat→Nat
 |0=>1
 |n+1=>(n+1)*P5 n
end Go.Ab
end
section
namespace Go.Ab
open Go.Proofs
attribute [local congr] ACall.congr gd.congr Nx.congr
set_option maxRecDepth 10000
set_option maxHeartbeats 8000000
def Ko (g:Gr):Nat→Fr→Bool
 |0,f=>decide ((f.pl.length:Int)=g.n)
 |m+1,f=>decide ((f.pl.length:Int)=g.n)||(List.range g.n.toNat).any fun x=>aD g f (x:Int)&&(FW (bu g (x:Int)).length (bu g (x:Int))).any fun o=>Ko g m (aA g f (x:Int) o).2
def P6 (g:Gr) (m:Nat) (f:Fr) (x:Nat):Bool:=aD g f (x:Int)&&(FW (bu g (x:Int)).length (bu g (x:Int))).any fun o=>Ko g m (aA g f (x:Int) o).2
theorem BB {g:Gr} {f:Fr} {x:Int} {o:List Int} :(aA g f x o).2.row.length≤f.row.length+o.length+1∧(aA g f x o).2.pl.length=f.pl.length+1:=by
 obtain ⟨a,b,ha,hb,hab,kH⟩:=uc f.row x
 have:=kC (g:=g) (x:=x) (outs:=o)
 have e:aA g f x o=(((f.row.take b).drop a,0),⟨f.row.take a++aL g x o++f.row.drop b,f.pl++ [x]⟩):=by
  simp only [aA,ha,hb,Int.toNat_natCast]
 rw [e]
 refine ⟨?_,by simp⟩
 show (f.row.take a++aL g x o++f.row.drop b).length≤_
 rw [List.length_append,List.length_append,List.length_take,List.length_drop]
 omega
end Go.Ab
end
section
namespace Go.Ab
open Go.Proofs
attribute [local congr] ACall.congr gd.congr Nx.congr
set_option maxRecDepth 10000
set_option maxHeartbeats 4000000
theorem sK (g:Gr) (hl:g.es.length≤9223372036854775807) (hm:aP g=false):Spec Tryz.prog 107 (Args [eG g]) [] (.tup [eN (fE g).1,eN (fE g).2.1, .d (sI (fE g).2.2)]) []:=by
 (refine Spec.hd (C:=T.cfg [] []) (rs:= [.t 2, .t 3, .t 4]) (T.ai _ _) Tryz.func107 rfl rfl Tryz.ntmps107 Tryz.results107 (by simp [AObj.isNest]) (by simp [AObj.isNest]) (by kernel_rfl) T.mixed fun X hX hP hC aK cw=> ?_)
 repeat' (first|refine Rn.p ?_|(with_reducible apply And.intro)|((first|(refine hK _ ?_;clear hK K)|with_reducible intro K hK|refine Rs.p ?_|((with_reducible first|apply oP|apply oQ);exact rfl)|refine aa hX hC hP (cB g hl) rfl rfl rfl (by simp only [go_sem,simprocAttr,hm]) rfl ?_);try simp only [go_sem,simprocAttr,hm])|((with_reducible refine oD ?_ ?_);kernel_rfl)|((with_reducible intro h);try simp only [go_sem,simprocAttr,hm] at h)|omega|intro h)
 all_goals simp [fE,gF,hm]
theorem sM (g:Gr) (hl:g.es.length≤9223372036854775807):Spec Tryz.prog 107 (Args [eG g]) [] (.tup [eN (fE g).1,eN (fE g).2.1, .d (sI (fE g).2.2)]) []:=by
 cases hm:aP g with
 |false=>exact sK g hl hm
 |true=>exact tA g (by have:=aU hm;omega)
theorem aR (g:Gr) (hl:g.es.length≤9223372036854775807):Spec Tryz.prog 61 (Args [eG g]) [] (eB (decide ((bZ g).1=0))) []:=by
 rw [HS]
 (refine Spec.hd (C:=T.cfg [] []) (rs:= [.t 2]) (T.ai _ _) Tryz.func61 rfl rfl Tryz.ntmps61 Tryz.results61 (by simp [AObj.isNest]) (by simp [AObj.isNest]) (by kernel_rfl) T.mixed fun X hX hP hC aK cw=> ?_)
 repeat' (first|refine Rn.p ?_|(with_reducible apply And.intro)|((first|(refine hK _ ?_;clear hK K)|with_reducible intro K hK|refine Rs.p ?_|((with_reducible first|apply oP|apply oQ);exact rfl)|refine aa hX hC hP (sM g hl) rfl rfl rfl (by simp only [go_sem,simprocAttr]) rfl ?_);try simp only [go_sem,simprocAttr])|((with_reducible refine oD ?_ ?_);kernel_rfl)|((with_reducible intro h);try simp only [go_sem,simprocAttr] at h)|omega|intro h)
end Go.Ab
end
section
namespace Go.Ab
open Go.Proofs
attribute [local congr] ACall.congr gd.congr Nx.congr
set_option maxRecDepth 10000
set_option maxHeartbeats 4000000
def g9:Gr:=⟨3, [(0,1),(0,2),(1,2)]⟩
def RE:Fr:=⟨[], []⟩
def RF:Fr:=⟨[(0,0,1),(1,0,2)], [0]⟩
def RG:Fr:=⟨[(2,1,2),(1,0,2)], [0,1]⟩
def RH:Fr:=⟨[(-1,2, -1)], [0,1,2]⟩
end Go.Ab
end
section
namespace Go.Ab
open Go.Proofs
set_option maxRecDepth 10000
def y9 (g:Gr) (t:It):Prop:=(t.1= -1∧t.2.2= -1)∨(0≤t.1∧t.1<g.es.length∧t.2.1=(g.es.getD t.1.toNat (0,0)).1∧t.2.2=(g.es.getD t.1.toNat (0,0)).2)
structure gI (g:Gr) (f:Fr):Prop where
 it:∀t∈f.row,y9 g t
 pl:f.pl.Nodup
 DG:∀x∈f.pl,0≤x∧x<g.n
theorem jO {row:List It} {x:Int} :∀k:Nat,(cJ row x k).2.2=e9 row x k
 |0=>rfl
 |k+1=>by
  rw [iw,ec]
  split
  ·show (cJ row x k).2.2+1=_
   rw [jO k]
  ·exact jO k
theorem pK {row:List It} {x:Int} {j:Nat} :∀d:Nat,e9 row x j≤e9 row x (j+d)
 |0=>Int.le_refl _
 |d+1=>by
  have:=pK (row:=row) (x:=x) (j:=j) d
  rw [← Nat.add_assoc,ec]
  split<;>omega
theorem jP {row:List It} {x:Int} :∀ {k:Nat},(∀j,j<k→(row.getD j (0,0,0)).2.2≠x)→e9 row x k=0
 |0,_=>rfl
 |k+1,h=>by
  rw [ec,if_neg (h k (by omega))]
  exact jP fun j hj=>h j (by omega)
theorem pL {row:List It} {x:Int} {b:Nat} :∀ {d:Nat},(∀j,b≤j→j<b+d→(row.getD j (0,0,0)).2.2≠x)→e9 row x (b+d)=e9 row x b
 |0,_=>rfl
 |d+1,h=>by
  rw [← Nat.add_assoc,ec,if_neg (h (b+d) (by omega) (by omega))]
  exact pL fun j h1 h2=>h j h1 (by omega)
theorem fR {f:Edge→Int} {g:Gr} {x:Int} (h0:0≤x) (h1:x<g.n):bq f g x=aY f g.es g.es.length x:=if_pos ⟨h0,h1⟩
theorem pM {g:Gr} {e:Int} (h0:0≤e) (h1:e<g.es.length):0<bt g (g.es.getD e.toNat (0,0)).2:=by
 refine List.length_pos_iff.2 fun h=> ?_
 have hm:e∈aY (·.2) g.es g.es.length (g.es.getD e.toNat (0,0)).2:=by
  simp only [aY,List.mem_map,List.mem_filter,List.mem_range,decide_eq_true_eq]
  exact ⟨e.toNat,⟨by omega,rfl⟩,by simp;omega⟩
 rw [h] at hm;cases hm
theorem ue {row:List It} {p:It→Bool} {a b:Nat} (hb:b≤row.length):((row.take b).drop a).any p=true↔∃j,a≤j∧j<b∧p (row.getD j (0,0,0))=true:=by
 rw [List.any_eq_true]
 constructor
 ·rintro ⟨t,ht,hp⟩
  obtain ⟨k,hk,rfl⟩:=List.mem_iff_getElem.1 ht
  simp only [List.length_drop,List.length_take] at hk
  refine ⟨a+k,by omega,by omega, ?_⟩
  rw [List.getD_eq_getElem?_getD,List.getElem?_eq_getElem (show a+k<row.length by omega)]
  simpa using hp
 ·rintro ⟨j,h1,h2,hp⟩
  rw [List.getD_eq_getElem?_getD,List.getElem?_eq_getElem (show j<row.length by omega)] at hp
  refine ⟨row[j], ?_,hp⟩
  refine List.mem_iff_getElem.2 ⟨j - a,by simp;omega, ?_⟩
  simp only [List.getElem_drop,List.getElem_take]
  congr 1;omega
theorem y9.head {g:Gr} (hm:aP g=true) {t:It} (h:y9 g t):(0≤t.1↔t.2.2≠ -1)∧ -1≤t.2.2:=by
 rcases h with ⟨h1,h2⟩|⟨h1,h2,_,h4⟩
 ·omega
 ·obtain ⟨_,h5,_⟩:=eA hm (k:=t.1.toNat) (by omega)
  omega
theorem oK {g:Gr} (hm:aP g=true) {f:Fr} (hi:gI g f) (x:Int):fP g f x=aD g f x:=by
 by_cases hx:x<0∨g.n≤x∨x∈f.pl
 ·rw [fP,aD,if_pos hx,if_pos hx]
 rw [fP,aD,if_neg hx,if_neg hx]
 have hx0:0≤x∧x<g.n:=by
  constructor
  ·exact Int.not_lt.1 fun h=>hx (.inl h)
  ·exact Int.not_le.1 fun h=>hx (.inr (.inl h))
 have hmem:∀j,j<f.row.length→y9 g (f.row.getD j (0,0,0)):=fun j hj=>hi.it _ (aV hj)
 rw [fR hx0.1 hx0.2]
 have hN:(aY (fun e=>e.2) g.es g.es.length x).length=bt g x:=rfl
 rw [hN]
 have HY:(aZ f.row x).2.2=e9 f.row x f.row.length:=jO _
 by_cases h0:bt g x=0
 ·rw [if_pos h0,h0,decide_eq_true rfl,Bool.true_or,Bool.and_true,decide_eq_true_eq,HY,jP]
  ·rfl
  ·intro j hj he
   rcases hmem j hj with ⟨_,h2⟩|⟨h1,h2,_,h4⟩
   ·omega
   ·have:=pM h1 h2
    rw [← h4,he] at this
    omega
 ·rw [if_neg h0,decide_eq_false h0,Bool.false_or,HY]
  generalize bt g x=need at h0
  rcases c8 (row:=f.row) (x:=x) f.row.length with ⟨hs,hno⟩|⟨a,b,c,hs,hab,kH,hc0,gh,ha,hb,hlo,hhi⟩
  ·rw [jP hno]
   have e1:decide ((0:Int)=(need:Int))=false:=decide_eq_false (by omega)
   rw [e1,Bool.false_and,Bool.and_false]
  ·have hs':aZ f.row x=((a:Int),(b:Int),(c:Int)):=hs
   have Oh:e9 f.row x f.row.length=c:=by rw [← HY,hs']
   rw [hs',Oh]
   simp only [Int.toNat_natCast]
   rw [Bool.and_comm]
   by_cases Fk:¬(c:Int)=need
   ·rw [decide_eq_false Fk,Bool.and_false,Bool.and_false]
   rw [Decidable.not_not] at Fk
   rw [decide_eq_true Fk,Bool.and_true,Bool.and_true,qm]
   congr 1
   rw [Bool.eq_iff_iff,ue kH,List.any_eq_true]
   have ma:e9 f.row x a=0:=jP hlo
   have RI:e9 f.row x (a+1)=1:=by rw [ec,if_pos ha,ma];rfl
   have mb:e9 f.row x b=need:=by
    have h:=pL (row:=f.row) (x:=x) (b:=b) (d:=f.row.length - b) fun j h1 h2=>hhi j h1 (by omega)
    rw [show b+(f.row.length - b)=f.row.length by omega,Oh] at h
    omega
   have RJ:e9 f.row x (b - 1)+1=need:=by
    have h:=ec (row:=f.row) (x:=x) (k:=b - 1)
    rw [if_pos hb,show b - 1+1=b by omega,mb] at h
    omega
   constructor
   ·rintro ⟨j,h1,h2,hp⟩
    simp only [kB,Bool.and_eq_true,decide_eq_true_eq] at hp
    have hja:j≠a:=fun e=>hp.1 (by rw [e];exact ha)
    have hjb:j≠b - 1:=fun e=>hp.1 (by rw [e];exact hb)
    have g1:=pK (row:=f.row) (x:=x) (j:=a+1) (j - (a+1))
    rw [show a+1+(j - (a+1))=j by omega] at g1
    have g2:=pK (row:=f.row) (x:=x) (j:=j) (b - 1 - j)
    rw [show j+(b - 1 - j)=b - 1 by omega] at g2
    exact ⟨j,List.mem_range.2 (by omega),me.2 ⟨⟨hp.1,((hmem j (by omega)).head hm).1.2 hp.2⟩,by omega,by omega⟩⟩
   ·rintro ⟨j,hj,hl⟩
    have hj:=List.mem_range.1 hj
    obtain ⟨⟨h1,h2⟩,h3,h4⟩:=me.1 hl
    refine ⟨j, ?_, ?_, ?_⟩
    ·refine Nat.not_lt.1 fun h=> ?_
     have:=jP (row:=f.row) (x:=x) (k:=j) fun i hi=>hlo i (by omega)
     omega
    ·refine Nat.not_le.1 fun h=> ?_
     have:=pL (row:=f.row) (x:=x) (b:=b) (d:=j - b) fun i h1 h2=>hhi i h1 (by omega)
     rw [show b+(j - b)=j by omega] at this
     omega
    ·simp only [kB,Bool.and_eq_true,decide_eq_true_eq]
     exact ⟨h1,((hmem j hj).head hm).1.1 h2⟩
theorem qJ:∀ {ms os:List Int},ms.Nodup→(∀i∈ms,i∈os)→os.length=ms.length→os.Perm ms
 | [],os,_,_,hl=>by
   have h:os= []:=List.eq_nil_of_length_eq_zero (by simpa using hl)
   rw [h]
 |m::ms,os,hn,hs,hl=>by
  rw [List.nodup_cons] at hn
  have hm:=hs m (List.mem_cons_self ..)
  refine (List.perm_cons_erase hm).trans (List.Perm.cons m (qJ hn.2 (fun j hj=> ?_) ?_))
  ·have:j≠m:=fun e=>hn.1 (e ▸ hj)
   exact (List.mem_erase_of_ne this).2 (hs j (List.mem_cons_of_mem _ hj))
  ·rw [List.length_erase_of_mem hm,hl];simp
theorem qn {g:Gr} {x:Int} :(bu g x).Pairwise (· ≤ ·):=by
 unfold bu aY
 refine List.Pairwise.map _ (fun a b (h:a<b)=> ?_) (List.Pairwise.filter _ List.pairwise_lt_range)
 show (a:Int)≤b
 omega
theorem sN {l m:List Int} (h:l.Perm m) (hm:m.Pairwise (· ≤ ·)):gG l=m:=by
 have h1:(gG l).Pairwise (· ≤ ·):=by
  have:=List.pairwise_mergeSort (le:=fun a b:Int=>decide (a≤b)) (by simp;omega) (by simp;omega) l
  simpa [gG] using this
 have h2:(gG l).Perm m:=(by unfold gG;exact (List.mergeSort_perm l _).trans h)
 exact h2.eq_of_pairwise (fun a b _ _ h1 h2=>Int.le_antisymm h1 h2) h1 hm
theorem aT {g:Gr} {f:Fr} {x:Int} (h:aD g f x=true):0≤x∧x<g.n∧x∉f.pl:=by
 unfold aD at h
 by_cases hx:x<0∨g.n≤x∨x∈f.pl
 ·rw [if_pos hx] at h;cases h
 ·exact ⟨Int.not_lt.1 fun h=>hx (.inl h),Int.not_le.1 fun h=>hx (.inr (.inl h)),fun h=>hx (.inr (.inr h))⟩
theorem DH {g:Gr} (hm:aP g=true) {f:Fr} (hi:gI g f) (x:Int) (outs:List Int):jh g f x outs=c9 g f x outs:=by
 rw [jh,c9,oK hm hi]
 cases hR:aD g f x with
 |false=>rw [if_pos rfl,if_pos rfl]
 |true=>
  obtain ⟨h0,h1,h2⟩:=aT hR
  have ht:¬(true=false):=by simp
  rw [if_neg ht,if_neg ht,fR h0 h1]
  show (if gG outs≠bu g x then _ else aA g f x outs)=_
  by_cases hs:gG outs=bu g x
  ·rw [if_neg (fun h=>h hs),if_neg]
   rintro (h|⟨i,h3,h4⟩)
   ·exact h (by rw [← hs,eH])
   ·exact h4 (xL.1 (hs ▸ h3))
  ·rw [if_pos hs,if_pos]
   refine Decidable.byContradiction fun h=>hs ?_
   have hl:outs.length=(bu g x).length:=Decidable.byContradiction fun e=>h (.inl e)
   exact sN (qJ dc (fun i hi=>Decidable.byContradiction fun e=>h (.inr ⟨i,hi,e⟩)) hl) qn
theorem DI {g:Gr} {x:Int} {outs:List Int} (ho:∀i∈outs,i∈bu g x):∀t∈aL g x outs,y9 g t:=by
 intro t ht
 unfold aL at ht
 split at ht
 ·rw [List.mem_singleton] at ht
  rw [ht];exact .inl ⟨rfl,rfl⟩
 ·obtain ⟨i,hi,rfl⟩:=List.mem_map.1 ht
  obtain ⟨⟨h1,h2⟩,h3⟩:=fQ (ho i hi)
  exact .inr ⟨h1,h2,h3.symm,rfl⟩
theorem DJ {g:Gr} {f:Fr} (hi:gI g f) {x:Int} (hR:aD g f x=true) {outs:List Int} (ho:∀i∈outs,i∈bu g x):gI g (aA g f x outs).2:=by
 obtain ⟨h0,h1,h2⟩:=aT hR
 refine ⟨fun t ht=> ?_, ?_,fun y hy=> ?_⟩
 ·simp only [aA,List.mem_append] at ht
  rcases ht with (ht|ht)|ht
  ·exact hi.it t (List.mem_of_mem_take ht)
  ·exact DI ho t ht
  ·exact hi.it t (List.mem_of_mem_drop ht)
 ·show (f.pl++ [x]).Nodup
  rw [List.nodup_append]
  refine ⟨hi.pl,by simp,fun a ha b hb e=>h2 ?_⟩
  rw [List.mem_singleton] at hb
  rw [← hb, ← e];exact ha
 ·have hy:y∈f.pl++ [x]:=hy
  rcases List.mem_append.1 hy with h|h
  ·exact hi.DG y h
  ·rw [List.mem_singleton] at h
   rw [h];exact ⟨h0,h1⟩
end Go.Ab
end
