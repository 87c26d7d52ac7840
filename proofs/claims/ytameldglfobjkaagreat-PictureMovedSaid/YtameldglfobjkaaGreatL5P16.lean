/- A part of the proof. -/
import Derived.RangeFuncBox
import Derived.RangeFuncLeaves
import Derived.Shelf.Abstract
import Derived.WalkKit
import Derived.OwnWalkIn
import Derived.TacticsInMore
import Derived.LoopNIn
import Derived.LoopIn
import Derived.Maps.AppendAt
import Derived.Sort.OwnSortedInts
import Derived.Test.YtameldglfobjkaaGreatL5P15
set_option linter.unusedSimpArgs false
set_option linter.unusedVariables false
section
namespace Go.Ab
open Go.Proofs Go.RowKit Go.Shelf Go.Sort
attribute [local go_sem] Oper.semAt_some
def upto {α:Type} (f:Nat→α) (k:Nat):List α:=(List.range k).map f
theorem w9 {α:Type} (f:Nat→α) (k:Nat):upto f (k+1)=upto f k++ [f k]:=by simp [upto,List.range_succ]
theorem Al {α:Type} (f:Nat→α) (k:Nat):(upto f k).length=k:=by simp [upto]
theorem GV (zs:List Int):upto (fun j=>zs[j]?.getD 0) zs.length=zs:=by
 apply List.ext_getElem
 ·simp [upto]
 ·intro i h1 h2
  simp [upto,h2]
theorem Ek (zs:List Int) {k:Nat} (hk:k≤zs.length):upto (fun j=>zs[j]?.getD 0) k=zs.take k:=by
 apply List.ext_getElem
 ·simp [upto,hk]
 ·intro i h1 h2
  have:i<zs.length:=by simp [upto] at h1;omega
  simp [upto,this]
set_option maxRecDepth 100000 in
set_option maxHeartbeats 2000000 in
theorem BQ (F:Fence) (n:Nat) (h7:F.fn 189) (hro:F.round=none) (hn:1≤n) (l Bs n₀ b off len cap:Nat) (zs:List Int) (j4:len*8≤140737488351232) (hb:b<n₀) (J Jx:List Int→World→Prop)
 (hY:∀pre x W,J pre W→pre.length<len→YieldAt F (n - 1) Tryz.prog l #[.int .i64 x] W fun e W'=>
   (e= .returned (.bool true)∧J (pre++ [x]) W'∧Below n₀ W W')∨(e= .returned (.bool false)∧Jx (pre++ [x]) W'))
 (W:World) (GW:W.cell? ⟨Bs,0,none⟩=some (.slice (some ⟨b,off,none⟩) len cap)) (hc:∀j,j<len→W.cell? ⟨b,off+j,none⟩=some (.int .i64 (zs[j]?.getD 0))) (h0:J [] W):
 CallsIn F n Tryz.prog 189 #[.func (.yield l) #[] #[], .pointer (some ⟨Bs,0,none⟩)] W fun e W'=>(∃v,e= .returned v)∧
  ((∃ys,ys=upto (fun j=>zs[j]?.getD 0) len∧J ys W')∨(∃pre,(∃k,k≤len∧pre=upto (fun j=>zs[j]?.getD 0) k)∧Jx pre W')):=by
 refine callsIn_of_wp Tryz.func189 rfl h7 ?_ hro
 simp only [Tryz.ntmps189,List.size_toArray,List.length_cons,List.length_nil,Nat.reduceAdd,Nat.reduceSub,Array.replicate_succ,Array.replicate_zero,List.push_toArray,List.append_toArray,List.nil_append,List.cons_append]
 gi_wp2
 gi_loopw [7] (fun i wr=>∃k:Nat,k≤len∧i= .int .i64 k∧J (upto (fun j=>zs[j]?.getD 0) k) wr∧Below n₀ W wr)
  (fun i _=>len - (Go.Proofs.intOf i).toNat)
 case atStart=>exact ⟨0,Nat.zero_le _,rfl,h0,Below.refl _ _⟩
 case round=>
  obtain ⟨k,hk,rfl,OJ,gJ⟩:=hrel
  have OK:k<len→wr.cell? ⟨b,off+k,none⟩=some (.int .i64 (zs[k]?.getD 0)):=fun h=>(gJ.cell (p:=⟨b,off+k,none⟩) hb).trans (hc k h)
  by_cases hlt:k<len
  ·obtain ⟨fn,tmps,assign,body,hy,hR⟩:=hY _ (zs[k]?.getD 0) wr OJ (by rw [Al];exact hlt)
   have TL:=OK hlt
   gi_wp2
   refine hR.mono ?_
   rintro e W3 (⟨rfl,QZ,L4⟩|⟨rfl,Q0⟩)
   ·gi_wp2
    go_roundw
    case rel=>exact ⟨k+1,by omega,by simp,by rw [w9];exact QZ,gJ.trans L4⟩
    case measure=>simp [Go.Proofs.intOf];omega
   ·gi_wp2
    refine bodyPost_ret (results_none rfl _ _ _) rfl ?_
    exact ⟨⟨_,rfl⟩, .inr ⟨_,⟨k+1,by omega,(w9 _ _).symm⟩,Q0⟩⟩
  ·obtain rfl:k=len:=by omega
   gi_wp2
   go_end0
   exact ⟨⟨_,rfl⟩, .inl ⟨_,rfl,OJ⟩⟩
def Ints (n₀:Nat) (W:World) (sv:Value) (zs:List Int):Prop:=
 (∃p c,sv= .slice p 0 c∧zs= [])∨∃b off cap,sv= .slice (some ⟨b,off,none⟩) zs.length cap∧b<n₀∧∀j,j<zs.length→W.cell? ⟨b,off+j,none⟩=some (.int .i64 (zs[j]?.getD 0))
theorem Ints.below {n₀:Nat} {A B:World} (h:Below n₀ A B) {sv:Value} {zs:List Int} :Ints n₀ A sv zs→Ints n₀ B sv zs
 | .inl e=> .inl e
 | .inr ⟨b,off,cap,e,hb,hc⟩=> .inr ⟨b,off,cap,e,hb,fun j hj=>(h.cell (p:=⟨b,off+j,none⟩) hb).trans (hc j hj)⟩
set_option maxRecDepth 100000 in
set_option maxHeartbeats 1000000 in
theorem u7 (F:Fence) (n:Nat) (h7:F.fn 189) (hro:F.round=none) (l Bs:Nat) (p:Option Addr) (c:Nat) (J:List Int→World→Prop) (W:World) (GW:W.cell? ⟨Bs,0,none⟩=some (.slice p 0 c)) (h0:J [] W):
 CallsIn F n Tryz.prog 189 #[.func (.yield l) #[] #[], .pointer (some ⟨Bs,0,none⟩)] W fun e W'=>(∃v,e= .returned v)∧J [] W':=by
 refine callsIn_of_wp Tryz.func189 rfl h7 ?_ hro
 simp only [Tryz.ntmps189,List.size_toArray,List.length_cons,List.length_nil,Nat.reduceAdd,Nat.reduceSub,Array.replicate_succ,Array.replicate_zero,List.push_toArray,List.append_toArray,List.nil_append,List.cons_append]
 gi_wp2
 gi_loopw [7] (fun i wr=>i= .int .i64 0∧J [] wr) (fun _ _=>0)
 case atStart=>exact ⟨rfl,h0⟩
 case round=>
  obtain ⟨rfl,OJ⟩:=hrel
  gi_wp2
  go_end0
  exact ⟨⟨_,rfl⟩,OJ⟩
theorem yH (F:Fence) (n:Nat) (h7:F.fn 189) (hro:F.round=none) (hn:1≤n) (Bs n₀:Nat) (sv:Value) (zs:List Int) (j4:zs.length*8≤140737488351232) (w:World) (GW:Bs<w.heap.size) (hn₀:n₀≤w.heap.size)
 (hc:w.cell? ⟨Bs,0,none⟩=some sv) (hI:Ints n₀ w sv zs):
 SeqStopsK F n Tryz.prog 189 #[.pointer (some ⟨Bs,0,none⟩)] (fun x:Int=> #[Value.int .i64 x]) (Below n₀) (fun ys=>ys=zs) (fun pre=>pre<+:zs) zs.length w:=fun l J Jx W hW _ _ hY h0=>by
 have qS:=(hW.cell (p:=⟨Bs,0,none⟩) GW).trans hc
 rcases hI.below (hW.mono hn₀) with ⟨p,c,rfl,rfl⟩|⟨b,off,cap,rfl,hb,hcs⟩
 ·exact (u7 F n h7 hro l Bs p c J W qS h0).mono fun e W' ⟨he,hj⟩=>⟨he, .inl ⟨_,rfl,hj⟩⟩
 ·refine (BQ F n h7 hro hn l Bs n₀ b off zs.length cap zs j4 hb J Jx hY W qS hcs h0).mono ?_
  rintro e W' ⟨he,⟨ys,rfl,hj⟩|⟨pre,⟨k,hk,rfl⟩,hj⟩⟩
  ·exact ⟨he, .inl ⟨_,GV zs,hj⟩⟩
  ·exact ⟨he, .inr ⟨_,by rw [Ek zs hk];exact List.take_prefix _ _,hj⟩⟩
theorem IV:(Tryz.prog.info? 3).map (fun i=>(i.zero,i.size,i.bytes))=some (some (.int .i64 0),1,8):=by kernel_rfl
set_option maxRecDepth 100000 in
set_option maxHeartbeats 2000000 in
theorem yI (F:Fence) (n:Nat) (h3:F.fn 203) (h5:F.fn 189) (hro:F.round=none) (hn:3≤n) (Bs:Nat) (sv:Value) (zs:List Int) (j4:zs.length*8≤140737488351232) (w:World) (GW:Bs<w.heap.size)
 (hcs:w.cell? ⟨Bs,0,none⟩=some sv) (hI:Ints w.heap.size w sv zs):
 CallsIn F n Tryz.prog 203 #[.slice none 0 0, .func (.func 189) #[] #[.pointer (some ⟨Bs,0,none⟩)]] w fun e W'=>∃v,e= .returned v∧W'.ownsRow w.heap.size 3 1 v zs.length (zs.map (Value.int .i64))∧(v= .slice none 0 0↔zs= [])∧Below w.heap.size w W':=by
 have h1:1≤n:=by omega
 obtain ⟨i0,hi,Iu,IG,DT⟩:=info_parts IV
 refine callsIn_of_wp_marks Tryz.func203 rfl h3 ?_ hro
 simp only [Tryz.ntmps203,List.size_toArray,List.length_cons,List.length_nil,Nat.reduceAdd,Nat.reduceSub,Array.replicate_succ,Array.replicate_zero,List.push_toArray,List.append_toArray,List.nil_append,List.cons_append]
 gi_wp2
 have bO:=Boxed.new w 25 (.slice none 0 0)
 have NH:Below w.heap.size w (w.alloc (.cells #[.slice none 0 0] 25)):=(Below.refl _ w).alloc (Nat.le_refl _) _
 refine wpIn_rangeFunc_ownG hro h1 (gf:=189) (lb:= #[.pointer (some ⟨Bs,0,none⟩)]) rfl h5 (enters_of Tryz.func189 (by kernel_rfl) rfl)
  (yH F (n - 1) h5 hro (by omega) Bs w.heap.size sv zs j4 _ (by simp;omega) (by simp) ((NH.cell (p:=⟨Bs,0,none⟩) GW).trans hcs) (hI.below NH)) belowK_t (belowK_b (by simp)) (Below.refl _ _) (fun _=>rfl)
  (fun pre W=>(∃v,Boxed W w.heap.size 25 v∧W.ownsRow w.heap.size 3 1 v pre.length (pre.map (Value.int .i64))∧(v= .slice none 0 0↔pre= []))∧Below w.heap.size w W)
  (fun _ _ _=>False)
  (OwnFrom.and (Own.from (holdsRow_own w.heap.size w.heap.size 25 3 1 (fun pre=>pre.length) (fun pre=>pre.map (Value.int .i64)) (fun pre v=>v= .slice none 0 0↔pre= [])) _) (ownFrom_below (Nat.le_refl _) (by simp)))
  (fun _ _ _ _ _ hs _ _=>hs)
  ⟨⟨_,bO,World.ownsRow_nil _ _ _ _,by simp⟩,NH⟩
  (fun x=> {tmps:= #[.slice none 0 0, .func (.func 189) #[] #[.pointer (some ⟨Bs,0,none⟩)], .pointer (some ⟨w.heap.size,0,none⟩),undef, .slice none 0 0, .int .i64 x, .func (.func 189) #[] #[.pointer (some ⟨Bs,0,none⟩)], .int .i64 x,undef,undef,undef,undef,undef],defers:= []}) ?assign ?body ?done ?stop
 case assign=>
  intro l x W K hK
  gi_wp2
  exact hK
 case body=>
  rintro l pre x W ⟨⟨v,hv,hrow,sW⟩,hB⟩ hlt
  have hc:=hv.cell
  have hml:maxLen=9223372036854775807:=rfl
  gi_wp2_with (gi_at_builtin;refine wpListIn_append_own _ rfl _ _ 25 rfl w.heap.size 3 i0 (.int .i64 0) 1 8 Tryz.underlying25 hi Iu IG DT rfl (by decide) _ _ _ rfl (hrow.alloc _) ⟨W.heap.size,0,none⟩ 1 1 [.int .i64 x] rfl rfl (cell_one_new _ _ _) (by simp [Value.oneCell']) (by omega) (by omega) (by have:=hB.size;simp;omega) ?_;intro v' w1 hown' hgrow _;obtain ⟨g',cap',rfl⟩:=ownsRow_succ hown';obtain ⟨II,Bu,uf,hk2,aI⟩:=hv.appended (by decide) hrow hB.size (Nat.le_refl _) hown' hgrow;have hc1:=II.cell;have OF:=II.frozen)
  exact ⟨hk2.from _,aI,⟨_,Bu,by simpa using uf,by simp⟩,hB.trans aI⟩
 case done=>
  rintro D ys W hD rfl ⟨⟨v,hv,hrow,sW⟩,hB⟩ hK
  have hc:=hv.cell
  gi_wp2
  refine ⟨by simp, .inl ⟨_,_,rfl,run_takeDeferred hK, ?_⟩⟩
  exact ⟨_,results_tmp rfl _ _ _,v,rfl,ownsRow_putObj hrow _ hK rfl,sW,hB.trans (belowK_b (w:=w) (Nat.le_refl _) W D _ _ (by simp at hD;omega) hK rfl rfl)⟩
 case stop=>
  rintro D c pre W _ _ h _
  exact h.elim
set_option maxRecDepth 100000 in
set_option maxHeartbeats 2000000 in
theorem BR (F:Fence) (n:Nat) (h2:F.fn 187) (h3:F.fn 203) (h5:F.fn 189) (hro:F.round=none) (hn:4≤n) (Bs:Nat) (sv:Value) (zs:List Int) (j4:zs.length*8≤140737488351232) (w:World) (GW:Bs<w.heap.size)
 (hcs:w.cell? ⟨Bs,0,none⟩=some sv) (hI:Ints w.heap.size w sv zs):
 CallsIn F n Tryz.prog 187 #[.func (.func 189) #[] #[.pointer (some ⟨Bs,0,none⟩)]] w fun e W'=>∃v,e= .returned v∧W'.ownsRow w.heap.size 3 1 v zs.length (zs.map (Value.int .i64))∧(v= .slice none 0 0↔zs= [])∧Below w.heap.size w W':=by
 have h1:1≤n:=by omega
 refine callsIn_of_wp Tryz.func187 rfl h2 ?_ hro
 simp only [Tryz.ntmps187,List.size_toArray,List.length_cons,List.length_nil,Nat.reduceAdd,Nat.reduceSub,Array.replicate_succ,Array.replicate_zero,List.push_toArray,List.append_toArray,List.nil_append,List.cons_append]
 gi_wp2_with (gi_at_call 203;refine (yI F (n - 1) h3 h5 hro (by omega) Bs sv zs j4 _ GW hcs hI).mono ?_;rintro e W ⟨v,rfl,hrow,sW,hb⟩)
 go_ret
 exact ⟨v,rfl,hrow,sW,hb⟩
def iN (l:List Int):List Int:=l.mergeSort fun x y=>decide (x≤y)
set_option maxRecDepth 100000 in
set_option maxHeartbeats 2000000 in
theorem El (F:Fence) (n:Nat) (zi:F.fn 136) (h2:F.fn 187) (h3:F.fn 203) (h5:F.fn 189) (h9:F.fn 188) (hro:F.round=none) (hn:5≤n)
 (hsort:∀(blk off cap:Nat) (ss:List Int) (W:World),Holds (Value.int .i64) W blk off ss.toArray→blk<W.heap.size→ss.length<4611686018427387904→
   CallsIn F (n - 1) Tryz.prog 188 #[.slice (some ⟨blk,off,none⟩) ss.length cap] W fun e w'=>e= .returned (.tuple #[])∧∃k os,w'=grow (putRow (Value.int .i64) (Sort.ahead W k) blk off (ss.mergeSort fun x y=>decide (x≤y)).toArray) os)
 (hnone:∀(p:Option Addr) (cap:Nat) (W:World),CallsIn F (n - 1) Tryz.prog 188 #[.slice p 0 cap] W fun e w'=>e= .returned (.tuple #[])∧w'=W) (Bs:Nat) (sv:Value) (zs:List Int) (j4:zs.length*8≤140737488351232) (w:World) (GW:Bs<w.heap.size)
 (hcs:w.cell? ⟨Bs,0,none⟩=some sv) (hI:Ints w.heap.size w sv zs):
 CallsIn F n Tryz.prog 136 #[.func (.func 189) #[] #[.pointer (some ⟨Bs,0,none⟩)]] w fun e W'=>∃v,e= .returned v∧W'.ownsRow w.heap.size 3 1 v zs.length ((iN zs).map (Value.int .i64))∧Below w.heap.size w W':=by
 have h1:1≤n:=by omega
 refine callsIn_of_wp Tryz.func136 rfl zi ?_ hro
 simp only [Tryz.ntmps136,List.size_toArray,List.length_cons,List.length_nil,Nat.reduceAdd,Nat.reduceSub,Array.replicate_succ,Array.replicate_zero,List.push_toArray,List.append_toArray,List.nil_append,List.cons_append]
 gi_wp2_with (gi_at_call 187;refine (BR F (n - 1) h2 h3 h5 hro (by omega) Bs sv zs j4 _ GW hcs hI).mono ?_;rintro e W ⟨v,rfl,hrow,sW,hb⟩)
 rcases hrow.2 with ⟨rfl,hz⟩|⟨gb,cap,cur,rfl,hbase,KX,r1,r2,r3,r4⟩
 ·have hss:zs= []:=List.eq_nil_of_length_eq_zero hz
  subst hss
  have cS:=hnone none 0 W
  gi_wp2_with (gi_at_call 188;refine cS.mono ?_;rintro e w' ⟨rfl,rfl⟩)
  go_ret
  exact ⟨.slice none 0 0,rfl,by simpa [iN] using hrow,hb⟩
 ·have hH:Holds (Value.int .i64) W gb 0 zs.toArray:=holds_of_blockI KX (by simpa using r4)
  have xX:gb<W.heap.size:=(Array.getElem?_eq_some_iff.1 KX).1
  have hsz:zs.length<4611686018427387904:=by omega
  have cS:=hsort gb 0 cap zs W hH xX hsz
  gi_wp2_with (gi_at_call 188;refine cS.mono ?_;rintro e w' ⟨rfl,nn,os,rfl⟩)
  go_ret
  exact ⟨_,rfl,ownsRow_sortedI (by simp [iN]) hbase KX r1 r2 r3,hb.grown (grownBy_sortedI _) hb.size (fun j hj=>by cases hj;exact hbase)⟩
theorem yJ (Bs:Nat) (sv:Value) (zs:List Int) (j4:zs.length*8≤140737488351232) (w:World) (GW:Bs<w.heap.size)
 (hcs:w.cell? ⟨Bs,0,none⟩=some sv) (hI:Ints w.heap.size w sv zs):
 Calls Tryz.prog 136 #[.func (.func 189) #[] #[.pointer (some ⟨Bs,0,none⟩)]] w fun e W'=>∃v,e= .returned v∧W'.ownsRow w.heap.size 3 1 v zs.length ((iN zs).map (Value.int .i64))∧Below w.heap.size w W':=
 (callsIn_wide (n:=5)).1 (El Fence.wide 5 trivial trivial trivial trivial trivial rfl (Nat.le_refl _)
   (fun blk off cap ss W h1 h2 h3=>callsIn_wide.2 (AnyM.slices_Sort_int Tryz.JR blk off cap ss W h1 h2 h3))
   (fun p cap W=>callsIn_wide.2 (AnyM.slices_Sort_int_none Tryz.JR p cap W)) Bs sv zs j4 w GW hcs hI)
end Go.Ab
end
section
namespace Go.Ab
open Go.Proofs Go.RowKit
attribute [local congr] ACall.congr gd.congr Nx.congr
set_option maxRecDepth 10000
def JS (E:Env) (w w':World):Env:=⟨E.ρ,E.σ,fun b=>if b<w.heap.size then E.z b else cD w' b⟩
theorem BS {m:List (Nat × AObj)} {E:Env} {w w':World} (hg:Good m E w) (hb:Below w.heap.size w w'):aL w E.z w' (JS E w w').z:=by
 intro b
 by_cases h:b<w.heap.size
 ·exact ⟨by simp [JS,h],fun o _=>hb.cell (p:=⟨b,o,none⟩) h⟩
 ·have h0:=hg.fresh b (by omega)
  exact ⟨by rw [h0];exact Nat.zero_le _,fun o ho=>by rw [h0] at ho;omega⟩
theorem Spec.GX {P:Program} {f:Nat} {A:Env→World→List Value→Prop} {m:List (Nat × AObj)} {res:AV} (hR:aH m) (hc:x8 P f)
 (h:∀E w vals,Good m E w→A E w vals→Calls P f vals.toArray w fun e w'=>∃v,e= .returned v∧Below w.heap.size w w'∧cn w' (JS E w w') res v):Spec P f A m res m:=by
 refine ⟨hc,fun E w vals hg hA=>(h E w vals hg hA).mono ?_⟩
 rintro e w' ⟨v,rfl,hb,hv⟩
 have hst:=BS hg hb
 have nZ:∀ {l o},bB m l=some o→look m l=some o:=fun hl=>(e8 (fun p hp=>hR.nest p hp) hl).1
 have hro:∀ {l o},bB m l=some o→o.ro=true:=fun hl=>hR.ro _ (aU (nZ hl))
 refine ⟨v,JS E w w',rfl,⟨hb.os,hb.tape,hb.output,hb.size,hst,fun b h1 _=>⟨hb.block b h1,by simp [JS,h1]⟩,fun _ _=>⟨rfl,rfl⟩⟩,⟨hg.low,hg.inj,fun l o hl=> ?_,fun b h1=> ?_⟩,fun l o b hl h1=> ?_,hv⟩
 ·have h0:=hg.gI l o hl
  have h1:=hro hl
  cases o<;>simp only [AObj.ro] at h1<;>try cases h1
  obtain ⟨b,vs,e,g1,g2,g3,g4,g5⟩:=h0
  have hlt:b<w.heap.size:=(Array.getElem?_eq_some_iff.1 g2).1
  exact ⟨b,vs,e,g1,(hb.block b hlt).trans g2,by simp [JS,hlt,g3],AVrs.mono ⟨hst,fun _ _=>rfl,fun _ _=>rfl⟩ (fun _ _=>trivial) (live:=fun _=>True) g4,g5⟩
 ·simp only [JS,cD]
  rw [if_neg (by have:=hb.size;omega),Array.getElem?_eq_none h1]
 ·rw [hro hl] at h1;cases h1
theorem u9 {w:World} {z:Nat→Nat} {v:Value} {x:Int} (h:Rd w z v (.sc (.int .i64 x))):v= .int .i64 x:=by cases h;rfl
theorem IW {w:World} {z:Nat→Nat} {v:Value} {l:List Int} (h:Rd w z v (sI l)):Ints w.heap.size w v l:=by
 generalize hx:sI l=x at h
 cases h with
 |sc v h=>cases hx
 |pt b off cells vs hz hc hr=>cases hx
 |nil p sz=>
  simp only [sI,D.sl.injEq,List.map_eq_nil_iff] at hx
  exact .inl ⟨p,0,rfl,hx.2⟩
 |sl b off n cap sz rows vs hn hsz hz hcap hc hr=>
  simp only [sI,D.sl.injEq] at hx
  obtain ⟨rfl,rfl⟩:=hx
  rw [List.length_map] at hn
  subst hn
  rcases Nat.eq_zero_or_pos l.length with h0|hpos
  ·exact .inl ⟨some ⟨b,off,none⟩,cap,by rw [h0],List.eq_nil_of_length_eq_zero h0⟩
  refine .inr ⟨b,off,cap,rfl, ?_,fun j hj=> ?_⟩
  ·have:=hc 0 (by omega)
   by_cases hlt:b<w.heap.size
   ·exact hlt
   ·exfalso
    simp [World.cell?,Array.getElem?_eq_none (Nat.le_of_not_lt hlt)] at this
  ·have h1:=hc j (by omega)
   have h2:=hr j 0 (rI l[j]) (.sc (.int .i64 l[j])) (by simp [List.getElem?_eq_getElem hj]) rfl
   have h3:=u9 h2
   simp only [Nat.mul_one,Nat.add_zero] at h3
   rw [h1,h3]
   simp [List.getElem?_eq_getElem hj]
theorem Em {w':World} {z:Nat→Nat} {base e:Nat} {v:Value} {l:List Int} (h:w'.ownsRow base e 1 v l.length (l.map (Value.int .i64))) (hz:∀b,base≤b→cD w' b≤z b):Rd w' z v (sI l):=by
 rcases h.2 with ⟨rfl,h0⟩|⟨g,cap,cur,rfl,h1,h2,h3,h4,h5,h6⟩
 ·have:l= []:=List.eq_nil_of_length_eq_zero h0
  subst this
  exact .nil _ _
 ·have Sd:=hz g h1
  simp only [cD,h2] at Sd
  refine .sl g 0 l.length cap 1 _ (fun k=> .int .i64 (l.getD k 0)) (by simp) (by simp [rI]) (by omega) h3 (fun k hk=> ?_) (fun i j r x hi hj=> ?_)
  ·have h7:(cur.toList.take (l.length*1))[k]? =(l.map (Value.int .i64))[k]? :=by rw [h6]
   rw [List.getElem?_take_of_lt hk,Array.getElem?_toList] at h7
   have cF:k<l.length:=by omega
   simp only [World.cell?,h2,Nat.zero_add,Option.isSome_none,Bool.false_eq_true,if_false,h7,List.getElem?_map,List.getElem?_eq_getElem cF,Option.map_some,List.getD_eq_getElem?_getD,Option.getD_some]
  ·rw [List.getElem?_map] at hi
   obtain ⟨y,hy,rfl⟩:=Option.map_eq_some_iff.1 hi
   cases j with
   |succ j=>simp [rI] at hj
   |zero=>
    simp only [rI,List.getElem?_cons_zero,Option.some.injEq] at hj
    subst hj
    simp only [Nat.mul_one,Nat.add_zero,List.getD_eq_getElem?_getD,hy,Option.getD_some]
    exact .sc _ rfl
theorem fR (l:List Int):(iN l).length=l.length:=by simp [iN]
theorem Q1 (l:List Int):aH [(10000, .rob [.d (sI l)])]:=⟨by simp [AObj.ro],by simp [nodupM,look],by simp,by simp [AObj.ids,AV.ids,AV.idss]⟩
theorem cw (l:List Int) (hl:l.length≤17592186043904):Spec Tryz.prog 136 (Args [.fn 189 [] [.ptr 10000 0]]) [(10000, .rob [.d (sI l)])] (.d (sI (iN l))) [(10000, .rob [.d (sI l)])]:=by
 refine Spec.GX (Q1 l) ⟨Tryz.f136,_,Tryz.func136,by kernel_rfl,rfl⟩ ?_
 intro E w vals hg hA
 obtain ⟨v,vs,rfl,h0,h3⟩:=hA
 obtain ⟨us,us',rfl,h1,h2⟩:=h0
 obtain ⟨u,IA,rfl,h4,h5⟩:=h2
 obtain ⟨B,hB,rfl⟩:=h4
 simp only [AVrs] at h1 h5 h3
 subst h1 h5 h3
 obtain ⟨b,ws,e,g1,g2,g3,g4,g5⟩:=hg.gI 10000 (.rob [.d (sI l)]) rfl
 obtain rfl:b=B:=by rw [g1] at hB;exact Option.some.inj hB
 obtain ⟨sv,Vx,rfl,g6,g7⟩:=g4
 simp only [AVrs] at g7
 subst g7
 have hlt:b<w.heap.size:=(Array.getElem?_eq_some_iff.1 g2).1
 refine (yJ b sv l (by omega) w hlt (by simp [World.cell?,g2]) (IW g6)).mono ?_
 rintro e w' ⟨v,rfl,hrow,hb⟩
 refine ⟨v,rfl,hb, ?_⟩
 rw [← fR] at hrow
 exact Em hrow fun b hb=>by simp only [JS];rw [if_neg (by omega)];exact Nat.le_refl _
end Go.Ab
end
section
namespace Go.Ab
open Go.Proofs
attribute [local congr] ACall.congr gd.congr Nx.congr
set_option maxRecDepth 10000
def g0:Gr:=⟨3, [(0,1),(1,2),(2,1)]⟩
end Go.Ab
end
section
namespace Go.Ab
open Go.Proofs
attribute [local congr] ACall.congr gd.congr Nx.congr
set_option maxRecDepth 10000
def Ff (g:Gr):Bool:=decide (g.n≤((aO g).length:Int))
def IX (g:Gr):List Int:=if Ff g then aO g else []
def mZ (l:List Int) (n:Int):Bool:=decide ((l.length:Int)=n)&&(List.range n.toNat).all fun x:Nat=>decide ((x:Int)∈l)
end Go.Ab
end
section
namespace Go.Ab
open Go.Proofs
attribute [local congr] ACall.congr gd.congr Nx.congr
set_option maxRecDepth 10000
theorem count_le:∀(xs l:List Int),xs.Nodup→(∀x∈xs,x∈l)→xs.length≤l.countP (fun y=>decide (y∈xs))
 | [],_,_,_=>Nat.zero_le _
 |a::r,l,hd,h=>by
  obtain ⟨h1,h2⟩:=List.nodup_cons.1 hd
  have ih:=count_le r l h2 fun x hx=>h x (List.mem_cons_of_mem _ hx)
  have hp:=lE (p:=fun y=>decide (y∈a::r)) (q:=fun y=>decide (y∈r)) (r:=fun y=>decide (y=a)) (l:=l) (fun y _=>by
   by_cases hy:y=a
   ·subst hy;simp [h1]
   ·simp [hy])
  have ha:0<l.countP (fun y=>decide (y=a)):=List.countP_pos_iff.2 ⟨a,h a List.mem_cons_self,by simp⟩
  rw [hp,List.length_cons];omega
def eY (n:Nat):List Int:=(List.range n).map Int.ofNat
theorem er {n:Nat} {x:Int} :x∈eY n↔0≤x∧x<n:=by
 simp only [eY,List.mem_map,List.mem_range]
 constructor
 ·rintro ⟨a,h,rfl⟩;simp;omega
 ·intro h;exact ⟨x.toNat,by omega,by simp;omega⟩
theorem jA {n:Nat} :(eY n).Nodup:=by
 unfold eY
 exact List.Pairwise.map _ (fun a b h e=>h (Int.ofNat.inj e)) List.nodup_range
theorem cV {l:List Int} {n:Int} :mZ l n=true↔(l.length:Int)=n∧∀x∈eY n.toNat,x∈l:=by
 simp only [mZ,Bool.and_eq_true,decide_eq_true_eq,List.all_eq_true,List.mem_range]
 constructor
 ·rintro ⟨h1,h2⟩
  refine ⟨h1,fun x hx=> ?_⟩
  obtain ⟨a,b⟩:=er.1 hx
  have:=h2 x.toNat (by omega)
  rwa [show ((x.toNat:Nat):Int)=x from by omega] at this
 ·rintro ⟨h1,h2⟩
  exact ⟨h1,fun x hx=>h2 _ (er.2 (by omega))⟩
theorem ve {l:List Int} {n:Int} (h:mZ l n=true):∀x∈l,0≤x∧x<n:=by
 obtain ⟨h1,h2⟩:=cV.1 h
 have hc:=count_le (eY n.toNat) l jA h2
 have hlen:(eY n.toNat).length=n.toNat:=by simp [eY]
 have he:l.countP (fun y=>decide (y∈eY n.toNat))=l.length:=by
  have:=List.countP_le_length (p:=fun y=>decide (y∈eY n.toNat)) (l:=l)
  omega
 intro x hx
 have:=List.countP_eq_length.1 he x hx
 have:=er.1 (of_decide_eq_true this)
 omega
def Ba (n:Nat) (l:List Int):Nat→List Int
 |0=>List.replicate n 0
 |k+1=>(Ba n l k).set (l.getD k 0).toNat k
theorem atK_length {n:Nat} {l:List Int} :∀ {k:Nat},(Ba n l k).length=n
 |0=>by simp [Ba]
 |k+1=>by simp [Ba,atK_length (k:=k)]
def GY (g:Gr) (l:List Int) (j:Nat):Bool:=(List.range j).all fun i=>decide ((Ba g.n.toNat l l.length).getD (tl g i).toNat 0<(Ba g.n.toNat l l.length).getD (hd g i).toNat 0)
def yK (g:Gr) (l:List Int):Bool:=mZ l g.n&&GY g l g.es.length
attribute [go_sem] atK_length
end Go.Ab
end
section
namespace Go.Ab
def Vy (g:Gr) (out:List Int):Prop:=∀p,p<out.length→out.getD p 0=gw (cW g (out.take p)) 0∧0≤out.getD p 0
theorem C4 {g:Gr} (hm:aX g=true) (h:Ff g=true):mZ (aO g) g.n=true:=by
 obtain ⟨hP,_,_⟩:=gU hm
 have hn:=bF hm
 have hf:=hP.fuel
 have hok:=of_decide_eq_true h
 refine cV.2 ⟨by omega,fun x hx=> ?_⟩
 obtain ⟨h1,h2⟩:=er.1 hx
 have h0:(List.range g.n.toNat).countP (fun y:Nat=> !decide ((y:Int)∈aO g))=0:=by omega
 have:=List.countP_eq_zero.1 h0 x.toNat (List.mem_range.2 (by omega))
 rw [show ((x.toNat:Nat):Int)=x from by omega] at this
 simpa using this
theorem C5 {g:Gr} (hm:aX g=true) (h:Ff g=false):∃y:Nat,y<g.n.toNat∧(y:Int)∉aO g:=by
 obtain ⟨hP,_,_⟩:=gU hm
 have hn:=bF hm
 have hf:=hP.fuel
 have hok:=of_decide_eq_false h
 have h0:0<(List.range g.n.toNat).countP (fun y:Nat=> !decide ((y:Int)∈aO g)):=by omega
 obtain ⟨y,hy,hp⟩:=List.countP_pos_iff.1 h0
 exact ⟨y,List.mem_range.1 hy,by simpa using hp⟩
theorem GZ {g:Gr} {l:List Int} (h:yK g l=true) {i:Nat} (hi:i<g.es.length):(Ba g.n.toNat l l.length).getD (tl g i).toNat 0<(Ba g.n.toNat l l.length).getD (hd g i).toNat 0:=by
 simp only [yK,Bool.and_eq_true] at h
 have:=List.all_eq_true.1 h.2 i (List.mem_range.2 hi)
 exact of_decide_eq_true this
theorem vf {n:Nat} {l:List Int} :∀ {k:Nat} {y:Nat},0≤(Ba n l k).getD y 0
 |0,y=>by
  simp only [Ba,List.getD_eq_getElem?_getD,List.getElem?_replicate]
  split<;>simp
 |k+1,y=>by
  have ih:=vf (n:=n) (l:=l) (k:=k) (y:=y)
  simp only [Ba,List.getD_eq_getElem?_getD,List.getElem?_set] at ih ⊢
  split
  ·split<;>simp
  ·exact ih
theorem yL {l:List Int} {i j:Nat} (hij:i<j) (hj:j<l.length) (e:l.getD i 0=l.getD j 0):∀x∈l,x∈l.eraseIdx i:=by
 intro x hx
 obtain ⟨k,hk,rfl⟩:=List.getElem_of_mem hx
 rw [List.mem_iff_getElem?]
 rcases Nat.lt_trichotomy k i with h|h|h
 ·exact ⟨k,by rw [List.getElem?_eraseIdx,if_pos h,List.getElem?_eq_getElem hk]⟩
 ·subst h
  refine ⟨j - 1, ?_⟩
  rw [List.getElem?_eraseIdx,if_neg (by omega),show j - 1+1=j from by omega,List.getElem?_eq_getElem hj]
  rw [List.getD_eq_getElem?_getD,List.getD_eq_getElem?_getD,List.getElem?_eq_getElem hk,List.getElem?_eq_getElem hj] at e
  exact congrArg some e.symm
 ·exact ⟨k - 1,by rw [List.getElem?_eraseIdx,if_neg (by omega),show k - 1+1=k from by omega,List.getElem?_eq_getElem hk]⟩
theorem lP {l:List Int} {n:Int} (h:mZ l n=true) {i j:Nat} (hi:i<l.length) (hj:j<l.length) (e:l.getD i 0=l.getD j 0):i=j:=by
 obtain ⟨h1,h2⟩:=cV.1 h
 have key:∀i j,i<j→j<l.length→l.getD i 0=l.getD j 0→False:=by
  intro i j hij hj e
  have hc:=count_le (eY n.toNat) (l.eraseIdx i) jA fun x hx=>yL hij hj e x (h2 x hx)
  have hlen:(eY n.toNat).length=n.toNat:=by simp [eY]
  have hle:=List.countP_le_length (p:=fun y=>decide (y∈eY n.toNat)) (l:=l.eraseIdx i)
  rw [List.length_eraseIdx_of_lt (by omega)] at hle
  omega
 rcases Nat.lt_trichotomy i j with h|h|h
 ·exact (key i j h hj e).elim
 ·exact h
 ·exact (key j i h hi e.symm).elim
theorem BT {l:List Int} {n:Int} (h:mZ l n=true) {p:Nat} :∀ {k:Nat},p<k→k≤l.length→(Ba n.toNat l k).getD (l.getD p 0).toNat 0=p
 |0,hp,_=>by omega
 |k+1,hp,hk=>by
  have hlo:=ve h
  have hp1:=hlo _ (jt (l:=l) (m:=p) (by omega))
  have Bf:=hlo _ (jt (l:=l) (m:=k) (by omega))
  simp only [Ba,List.getD_eq_getElem?_getD (l:=(Ba n.toNat l k).set _ _),List.getElem?_set,atK_length]
  by_cases hpk:p=k
  ·subst hpk
   rw [if_pos rfl,if_pos (by omega)];rfl
  ·have hne:¬(l.getD k 0).toNat=(l.getD p 0).toNat:=fun e=>hpk (lP h (i:=p) (j:=k) (by omega) (by omega) (by omega))
   rw [if_neg hne, ← List.getD_eq_getElem?_getD]
   exact BT h (by omega) (by omega)
theorem En {g:Gr} (hm:aX g=true) (h:Ff g=true):yK g (aO g)=true:=by
 have he:=C4 hm h
 obtain ⟨hP,hO,_⟩:=gU hm
 have hall:=(cV.1 he).2
 simp only [yK,he,Bool.true_and,GY,List.all_eq_true,List.mem_range,decide_eq_true_eq]
 intro i hi
 have hh:=gA hm hi
 obtain ⟨p,hp,e⟩:=List.getElem_of_mem (hall (hd g i) (er.2 (by omega)))
 have e':(aO g).getD p 0=hd g i:=by rw [List.getD_eq_getElem?_getD,List.getElem?_eq_getElem hp];exact e
 have ht:=hO p hp i hi e'.symm
 rw [List.mem_iff_getElem?] at ht
 obtain ⟨q,hq⟩:=ht
 rw [List.getElem?_take] at hq
 split at hq
 ·rename_i TG
  have e2:(aO g).getD q 0=tl g i:=by rw [List.getD_eq_getElem?_getD,hq];rfl
  rw [← e', ← e2,BT he hp (Nat.le_refl _),BT he (by omega) (Nat.le_refl _)]
  omega
 ·cases hq
end Go.Ab
end
section
namespace Go.Ab
open Go.Proofs
attribute [local congr] ACall.congr gd.congr Nx.congr
set_option maxRecDepth 10000
end Go.Ab
end
section
namespace Go.Ab
open Go.Proofs
attribute [local congr] ACall.congr gd.congr Nx.congr
set_option maxRecDepth 10000
def gz:Gr:=⟨0, []⟩
def vz:D:= .pt [.sc (.int .i64 0), .sl 2 [], .sl 1 [], .sl 1 []]
def bw (f:Edge→Int) (g:Gr) (x:Int):List Int:=if 0≤x∧x<g.n then aZ f g.es g.es.length x else []
theorem vg (f:Edge→Int) (g:Gr) (hm:aX g=true) (x:Int):Spec Tryz.prog 128 (Args [.d (vw g), .d (.sl 1 (H6 f g)),eN x]) [] (.d (sI (bw f g x))) []:=by
 rw [aA]
 have hn:=bF hm
 have hl':(aZ f g.es g.es.length x).length≤1000000:=by have:=je (f:=f) (es:=g.es) (k:=g.es.length) (x:=x);omega
 (refine Spec.hd (C:=T.cfg [] []) (rs:= [.t 6]) (T.ah _ _) Tryz.func128 rfl rfl Tryz.ntmps128 Tryz.results128 (by simp [AObj.isNest]) (by simp [AObj.isNest]) (by kernel_rfl) T.mixed fun X hX hP hC aB bK=> ?_)
 by_cases hx:0≤x∧x<g.n
 ·have hv:=mP (f:=f) (g:=g) (x:=x.toNat) (by omega)
  have he:fD f g.es g.es.length x.toNat=aZ f g.es g.es.length x:=by rw [mQ,show ((x.toNat:Nat):Int)=x from by omega]
  rw [he] at hv
  have aC:decide (x<0)=false:=decide_eq_false (by omega)
  have aI:decide (g.n≤x)=false:=decide_eq_false (by omega)
  have ht:bw f g x=aZ f g.es g.es.length x:=if_pos hx
  repeat' (first|refine Rn.p ?_|(with_reducible apply And.intro)|((first|(refine hK _ ?_;clear hK K)|with_reducible intro K hK|refine Rs.p ?_|((with_reducible first|apply oP|apply oQ);exact rfl)|refine aa hX hC hP (sq (aZ f g.es g.es.length x) hl') rfl rfl rfl (by simp only [go_sem,simprocAttr,hv,aC,aI]) rfl ?_);try simp only [go_sem,simprocAttr,hv,aC,aI])|((with_reducible refine oD ?_ ?_);kernel_rfl)|((with_reducible intro h);try simp only [go_sem,simprocAttr,hv,aC,aI] at h)|omega|intro h)
  simp [ht]
 ·have ht:bw f g x= []:=if_neg hx
  repeat' (first|refine Rn.p ?_|(with_reducible apply And.intro)|((first|(refine hK _ ?_;clear hK K)|with_reducible intro K hK|refine Rs.p ?_|((with_reducible first|apply oP|apply oQ);exact rfl)|refine aa hX hC hP (sq (aZ f g.es g.es.length x) hl') rfl rfl rfl (by simp only [go_sem,simprocAttr,ht]) rfl ?_);try simp only [go_sem,simprocAttr,ht])|((with_reducible refine oD ?_ ?_);kernel_rfl)|((with_reducible intro h);try simp only [go_sem,simprocAttr,ht] at h)|omega|intro h)
theorem jf (g:Gr) (hm:aX g=true) (x:Int):Spec Tryz.prog 73 (Args [.d (vw g),eN x]) [] (.d (sI (bw (·.1) g x))) []:=by
 (refine Spec.hd (C:=T.cfg [] []) (rs:= [.t 4]) (T.ah _ _) Tryz.func73 rfl rfl Tryz.ntmps73 Tryz.results73 (by simp [AObj.isNest]) (by simp [AObj.isNest]) (by kernel_rfl) T.mixed fun X hX hP hC aB bK=> ?_)
 repeat' (first|refine Rn.p ?_|(with_reducible apply And.intro)|((first|(refine hK _ ?_;clear hK K)|with_reducible intro K hK|refine Rs.p ?_|((with_reducible first|apply oP|apply oQ);exact rfl)|refine aa hX hC hP (vg (·.1) g hm x) rfl rfl rfl (by simp only [go_sem,simprocAttr,aA]) rfl ?_);try simp only [go_sem,simprocAttr,aA])|((with_reducible refine oD ?_ ?_);kernel_rfl)|((with_reducible intro h);try simp only [go_sem,simprocAttr,aA] at h)|omega|intro h)
theorem kH (g:Gr) (hm:aX g=true) (x:Int):Spec Tryz.prog 100 (Args [.d (vw g),eN x]) [] (.d (sI (bw (·.2) g x))) []:=by
 (refine Spec.hd (C:=T.cfg [] []) (rs:= [.t 4]) (T.ah _ _) Tryz.func100 rfl rfl Tryz.ntmps100 Tryz.results100 (by simp [AObj.isNest]) (by simp [AObj.isNest]) (by kernel_rfl) T.mixed fun X hX hP hC aB bK=> ?_)
 repeat' (first|refine Rn.p ?_|(with_reducible apply And.intro)|((first|(refine hK _ ?_;clear hK K)|with_reducible intro K hK|refine Rs.p ?_|((with_reducible first|apply oP|apply oQ);exact rfl)|refine aa hX hC hP (vg (·.2) g hm x) rfl rfl rfl (by simp only [go_sem,simprocAttr,aA]) rfl ?_);try simp only [go_sem,simprocAttr,aA])|((with_reducible refine oD ?_ ?_);kernel_rfl)|((with_reducible intro h);try simp only [go_sem,simprocAttr,aA] at h)|omega|intro h)
end Go.Ab
end
section
namespace Go.Ab
open Go.Proofs
attribute [local congr] ACall.congr gd.congr Nx.congr
set_option maxRecDepth 10000
abbrev It:=Int × Int × Int
def rT (t:It):List D:= [.sc (.int .i64 t.1), .sc (.int .i64 t.2.1), .sc (.int .i64 t.2.2)]
def eT (t:It):AV:= .agg [.d (.sc (.int .i64 t.1)), .d (.sc (.int .i64 t.2.1)), .d (.sc (.int .i64 t.2.2))]
def sT (ts:List It):D:= .sl 3 (ts.map rT)
theorem getD_rT (ps:List It) (i:Nat):(ps.map rT).getD i [.sc (.int .i64 0), .sc (.int .i64 0), .sc (.int .i64 0)]=rT (ps.getD i (0,0,0)):=by
 simp only [List.getD_eq_getElem?_getD,List.getElem?_map]
 cases ps[i]? <;>rfl
theorem rT_eq (t:It):rT t= [.sc (.int .i64 t.1), .sc (.int .i64 t.2.1), .sc (.int .i64 t.2.2)]:=rfl
attribute [go_sem] getD_rT rT_eq eT sT
theorem xb {l:List Int} :∀r∈l.map rI,∀x∈r,∃v,x=D.sc v:=by
 intro r hr x hx
 obtain ⟨y,_,rfl⟩:=List.mem_map.1 hr
 simp only [rI,List.mem_singleton] at hx
 exact ⟨_,hx⟩
theorem xd {l:List It} :∀r∈l.map rT,∀x∈r,∃v,x=D.sc v:=by
 intro r hr x hx
 obtain ⟨y,_,rfl⟩:=List.mem_map.1 hr
 simp only [rT,List.mem_cons,List.not_mem_nil,or_false] at hx
 rcases hx with h|h|h<;>exact ⟨_,h⟩
theorem sK (ps:List It) (hl:ps.length≤1000000):
 Spec Tryz.prog 142 (Args [.d (sT ps)]) [] (.ref 10000) [(10000, .tip 92 3 (ps.map rT))]:=by
 (refine Spec.CT (C:=T.cfg [] []) (rs:= [.t 2]) [(10000,7)] (T.ah _ _) Tryz.func142 rfl rfl Tryz.ntmps142 Tryz.results142 (by simp [AObj.isNest]) (by simp [AObj.isNest]) (by first|(simp [look];done)|(simp [asN];done)|(intro l hl;simp only [asN];repeat (rw [if_neg (fun e=>by subst e;simp [look] at hl)]))) (by first|(simp [look];done)|(simp [asN];done)|(intro l hl;simp only [asN];repeat (rw [if_neg (fun e=>by subst e;simp [look] at hl)]))) (by kernel_rfl) T.mixed fun X hX hP hC aB bK=> ?_)
 repeat' (first|(show cA _ .ret _ _;(try simp only [go_sem,simprocAttr]);refine gv hX 2 7 (.tip 92 3 []) ?_ ?_ (by decide) ⟨92,3,by decide, .inr rfl⟩ ?_;(iterate 2 (focus (simp only [go_sem,simprocAttr];done)));simp only [go_sem,simprocAttr])|refine Rn.p ?_|(with_reducible apply And.intro)|((first|(refine hK _ ?_;clear hK K)|with_reducible intro K hK|refine Rs.p ?_|((with_reducible first|apply oP|apply oQ);exact rfl));try simp only [go_sem,simprocAttr])|((with_reducible refine oD ?_ ?_);kernel_rfl)|((with_reducible intro h);try simp only [go_sem,simprocAttr] at h)|omega|intro h)
 exact h.symm
theorem mj {m:List (Nat × AObj)} (hR:aH m) (f:Nat) (caps:List AV) (g:It→Bool) (ps:List It) (hf:∀p∈ps,Spec Tryz.prog f (Args (eT p::caps)) m (eB (g p)) m) (hl:ps.length≤9223372036854775807):
 Spec Tryz.prog 219 (Args [.d (sT ps), .fn f [] caps]) m (eN (bS g ps)) m:=by
 (refine Spec.hd (C:=T.cfg [] []) (rs:= [.t 4]) (T.ah _ _) Tryz.func219 rfl rfl Tryz.ntmps219 Tryz.results219 (fun p hp=>⟨(aH.low hR p hp).1,aH.nest hR p hp⟩) (fun p hp=>⟨(aH.low hR p hp).2,aH.nest hR p hp⟩) (by kernel_rfl) T.mixed fun X hX hP hC aB bK=> ?_)
 repeat' (first|refine Rn.p ?_|(with_reducible apply And.intro)|((first|(refine hK _ ?_;clear hK K)|with_reducible intro K hK|refine Rs.p ?_|((with_reducible first|apply oP|apply oQ);exact rfl));try simp only [go_sem,simprocAttr])|((with_reducible refine oD ?_ ?_);kernel_rfl)|((with_reducible intro h);try simp only [go_sem,simprocAttr] at h)|omega|intro h)
 refine ag (fun k:Nat=>k≤ps.length∧∀j,j<k→g (ps.getD j (0,0,0))=false) (fun k=>⟨[(0, .d (sT ps)),(1, .fn f [] caps),(7,eN ps.length),(8,eN k)],m⟩) (fun k=>ps.length - k) 0 (by simp) ?_ ?_
 ·(refine ⟨bD ?_,fun _ _ h=>h⟩;simp [go_sem,simprocAttr])
 rintro k ⟨hk,hg⟩
 rcases Nat.lt_or_ge k ps.length with hlt|hge
 ·have hb:decide ((k:Int)<(ps.length:Int))=true:=decide_eq_true (by omega)
  have hf':=hf (ps.getD k (0,0,0)) (aD hlt)
  repeat' (first|refine Rn.p ?_|(with_reducible apply And.intro)|((first|(refine hK _ ?_;clear hK K)|with_reducible intro K hK|refine Rs.p ?_|((with_reducible first|apply oP|apply oQ);exact rfl)|(first|(refine au hX hC hP hR (hf') rfl rfl rfl ?_ ?_ rfl rfl ?_;(focus (simp only [go_sem,simprocAttr,hb];done));(focus (first|(intro p hp;exact az (aH.nd hR) hp)|(simp [go_sem,simprocAttr,hb];done))))|(refine au hX hC hP hR (hf') rfl rfl rfl ?_ ?_ ?_ rfl ?_;(focus (simp only [go_sem,simprocAttr,hb];done));(focus (first|(intro p hp;exact az (aH.nd hR) hp)|(simp [go_sem,simprocAttr,hb];done)));(focus (simp [go_sem,simprocAttr,hb];done)))));try simp only [go_sem,simprocAttr,hb])|((with_reducible refine oD ?_ ?_);kernel_rfl)|((with_reducible intro h);try simp only [go_sem,simprocAttr,hb] at h)|omega|intro h)
  ·exact (bZ (by omega) hg h).symm
  ·exact bV hR
  ·refine ⟨k+1,⟨by omega,fun j hj=> ?_⟩, ?_,by omega⟩
   ·by_cases hjk:j=k
    ·subst hjk;exact h
    ·exact hg j (by omega)
   ·(refine ⟨bD ?_,fun _ _ h=>h⟩;simp [go_sem,simprocAttr,hb])
 ·have hb:decide ((k:Int)<(ps.length:Int))=false:=decide_eq_false (by omega)
  repeat' (first|refine Rn.p ?_|(with_reducible apply And.intro)|((first|(refine hK _ ?_;clear hK K)|with_reducible intro K hK|refine Rs.p ?_|((with_reducible first|apply oP|apply oQ);exact rfl)|(first|(refine au hX hC hP hR (hf') rfl rfl rfl ?_ ?_ rfl rfl ?_;(focus (simp only [go_sem,simprocAttr,hb];done));(focus (first|(intro p hp;exact az (aH.nd hR) hp)|(simp [go_sem,simprocAttr,hb];done))))|(refine au hX hC hP hR (hf') rfl rfl rfl ?_ ?_ ?_ rfl ?_;(focus (simp only [go_sem,simprocAttr,hb];done));(focus (first|(intro p hp;exact az (aH.nd hR) hp)|(simp [go_sem,simprocAttr,hb];done)));(focus (simp [go_sem,simprocAttr,hb];done)))));try simp only [go_sem,simprocAttr,hb])|((with_reducible refine oD ?_ ?_);kernel_rfl)|((with_reducible intro h);try simp only [go_sem,simprocAttr,hb] at h)|omega|intro h)
  ·exact (bA (0,0,0) fun j hj=>hg j (by omega)).symm
  ·exact bV hR
theorem o8 {m:List (Nat × AObj)} (hR:aH m) (f:Nat) (caps:List AV) (g:It→Bool) (ps:List It) (hf:∀p∈ps,Spec Tryz.prog f (Args (eT p::caps)) m (eB (g p)) m) (hl:ps.length≤9223372036854775807):
 Spec Tryz.prog 205 (Args [.d (sT ps), .fn f [] caps]) m (eB (ps.any g)) m:=by
 (refine Spec.hd (C:=T.cfg [] []) (rs:= [.t 4]) (T.ah _ _) Tryz.func205 rfl rfl Tryz.ntmps205 Tryz.results205 (fun p hp=>⟨(aH.low hR p hp).1,aH.nest hR p hp⟩) (fun p hp=>⟨(aH.low hR p hp).2,aH.nest hR p hp⟩) (by kernel_rfl) T.mixed fun X hX hP hC aB bK=> ?_)
 repeat' (first|refine Rn.p ?_|(with_reducible apply And.intro)|((first|(refine hK _ ?_;clear hK K)|with_reducible intro K hK|refine Rs.p ?_|((with_reducible first|apply oP|apply oQ);exact rfl)|(first|(refine au hX hC hP hR (mj hR f caps g ps hf hl) rfl rfl rfl ?_ ?_ rfl rfl ?_;(focus (simp only [go_sem,simprocAttr];done));(focus (first|(intro p hp;exact az (aH.nd hR) hp)|(simp [go_sem,simprocAttr];done))))|(refine au hX hC hP hR (mj hR f caps g ps hf hl) rfl rfl rfl ?_ ?_ ?_ rfl ?_;(focus (simp only [go_sem,simprocAttr];done));(focus (first|(intro p hp;exact az (aH.nd hR) hp)|(simp [go_sem,simprocAttr];done)));(focus (simp [go_sem,simprocAttr];done)))));try simp only [go_sem,simprocAttr])|((with_reducible refine oD ?_ ?_);kernel_rfl)|((with_reducible intro h);try simp only [go_sem,simprocAttr] at h)|omega|intro h)
 ·exact cT g ps
 ·exact bV hR
theorem jB (n:Int) (h0:0<n) (hl:n≤1000000):Spec Tryz.prog 207 (Args [.nil 92,eN n]) [] (.ref 10000) [(10000, .own 92 3 [])]:=by
 (refine Spec.CT (C:=T.cfg [] []) (rs:= [.t 4]) [(10000,25)] (T.ah _ _) Tryz.func207 rfl rfl Tryz.ntmps207 Tryz.results207 (by simp [AObj.isNest]) (by simp [AObj.isNest]) (by first|(simp [look];done)|(simp [asN];done)|(intro l hl;simp only [asN];repeat (rw [if_neg (fun e=>by subst e;simp [look] at hl)]))) (by first|(simp [look];done)|(simp [asN];done)|(intro l hl;simp only [asN];repeat (rw [if_neg (fun e=>by subst e;simp [look] at hl)]))) (by kernel_rfl) T.mixed fun X hX hP hC aB bK=> ?_)
 repeat' (first|refine Rn.p ?_|(with_reducible apply And.intro)|((first|(refine hK _ ?_;clear hK K)|with_reducible intro K hK|refine Rs.p ?_|((with_reducible first|apply oP|apply oQ);exact rfl));try simp only [go_sem,simprocAttr])|((with_reducible refine oD ?_ ?_);kernel_rfl)|((with_reducible intro h);try simp only [go_sem,simprocAttr] at h)|omega|intro h)
def vT (ls:List (List It)):List (List D):=ls.map fun l=> [sT l]
theorem vT_length {ls:List (List It)} :(vT ls).length=ls.length:=by simp [vT]
theorem tA {ls:List (List It)} {k:Nat} (h:k<ls.length) (d:List D):(vT ls).getD k d= [sT (ls.getD k [])]:=by
 simp [vT,List.getD_eq_getElem?_getD,List.getElem?_eq_getElem h]
attribute [go_sem] vT_length
theorem vh {α:Type} {ls:List (List α)} {k:Nat} (h:k<ls.length):(ls.take (k+1)).flatten=(ls.take k).flatten++ls.getD k []:=by
 rw [List.take_add_one,List.flatten_append,List.getElem?_eq_getElem h,List.getD_eq_getElem?_getD,List.getElem?_eq_getElem h]
 simp
theorem qu {α:Type} {ls:List (List α)} {k:Nat} :(ls.take k).flatten.length≤ls.flatten.length:=by
 have:=congrArg (fun x=>x.flatten.length) (List.take_append_drop k ls)
 simp only [List.flatten_append,List.length_append] at this
 omega
theorem yM (ls:List (List It)) (hn:ls.length≤1000) (h0:0<ls.flatten.length) (hl:ls.flatten.length≤1000000):Spec Tryz.prog 191 (Args [.d (.sl 1 (vT ls))]) [] (.d (sT ls.flatten)) []:=by
 (refine Spec.hd (C:=T.cfg [] []) (rs:= [.t 2]) (T.ah _ _) Tryz.func191 rfl rfl Tryz.ntmps191 Tryz.results191 (by simp [AObj.isNest]) (by simp [AObj.isNest]) (by kernel_rfl) T.mixed fun X hX hP hC aB bK=> ?_)
 repeat' (first|refine Rn.p ?_|(with_reducible apply And.intro)|((first|(refine hK _ ?_;clear hK K)|with_reducible intro K hK|refine Rs.p ?_|((with_reducible first|apply oP|apply oQ);exact rfl)|(refine aJ hX hC hP [(10000,33)] (jB (ls.flatten.length:Int) (by omega) (by omega)) rfl rfl rfl ?_ ?_ ?_ ?_ ?_ ?_ ?_ ?_ ?_ ?_ ?_ ?_ ?_ ?_;(focus (simp only [go_sem,simprocAttr];done));(iterate 12 (focus (simp [go_sem,simprocAttr];done)));try simp only [List.map_cons,List.map_nil]));try simp only [go_sem,simprocAttr])|((with_reducible refine oD ?_ ?_);kernel_rfl)|((with_reducible intro h);try simp only [go_sem,simprocAttr] at h)|omega|intro h)
 refine ag (fun k:Nat=>k≤ls.length) (fun k=>⟨[(0, .d (.sl 1 (vT ls))),(9, .d (.sl 1 (vT ls))),(10,eN ls.length),(11,eN k),(3,eN ((ls.take k).flatten.length))], []⟩) (fun k=>ls.length - k) 0 (by omega) ?_ ?_
 ·(refine Le.of ?_ ?_<;>simp [go_sem,simprocAttr])
 ·rintro k hk
  rcases Nat.lt_or_ge k ls.length with hlt|hge
  ·have hb:decide ((k:Int)<(ls.length:Int))=true:=decide_eq_true (by omega)
   have hv:=tA hlt
   have hf:=vh hlt
   have OF:=qu (ls:=ls) (k:=k)
   have Gt:=qu (ls:=ls) (k:=k+1)
   rw [hf,List.length_append] at Gt
   have hneg:decide (((ls.take k).flatten.length:Int)+((ls.getD k []).length:Int)<0)=false:=decide_eq_false (by omega)
   repeat' (first|refine Rn.p ?_|(with_reducible apply And.intro)|((first|(refine hK _ ?_;clear hK K)|with_reducible intro K hK|refine Rs.p ?_|((with_reducible first|apply oP|apply oQ);exact rfl)|(refine aJ hX hC hP [(10000,33)] (jB (ls.flatten.length:Int) (by omega) (by omega)) rfl rfl rfl ?_ ?_ ?_ ?_ ?_ ?_ ?_ ?_ ?_ ?_ ?_ ?_ ?_ ?_;(focus (simp only [go_sem,simprocAttr,hb,hv,hneg];done));(iterate 12 (focus (simp [go_sem,simprocAttr,hb,hv,hneg];done)));try simp only [List.map_cons,List.map_nil]));try simp only [go_sem,simprocAttr,hb,hv,hneg])|((with_reducible refine oD ?_ ?_);kernel_rfl)|((with_reducible intro h);try simp only [go_sem,simprocAttr,hb,hv,hneg] at h)|omega|intro h)
   refine ⟨k+1,by omega, ?_,by omega⟩
   simp only [hf]
   refine Le.of ?_ ?_<;>simp [go_sem,simprocAttr,hb,hv,hneg]
  ·have hb:decide ((k:Int)<(ls.length:Int))=false:=decide_eq_false (by omega)
   have ht:ls.take k=ls:=List.take_of_length_le (by omega)
   repeat' (first|refine Rn.p ?_|(with_reducible apply And.intro)|((first|(refine hK _ ?_;clear hK K)|with_reducible intro K hK|refine Rs.p ?_|((with_reducible first|apply oP|apply oQ);exact rfl)|(refine aJ hX hC hP [(10000,33)] (jB (ls.flatten.length:Int) (by omega) (by omega)) rfl rfl rfl ?_ ?_ ?_ ?_ ?_ ?_ ?_ ?_ ?_ ?_ ?_ ?_ ?_ ?_;(focus (simp only [go_sem,simprocAttr,hb,ht];done));(iterate 12 (focus (simp [go_sem,simprocAttr,hb,ht];done)));try simp only [List.map_cons,List.map_nil]));try simp only [go_sem,simprocAttr,hb,ht])|((with_reducible refine oD ?_ ?_);kernel_rfl)|((with_reducible intro h);try simp only [go_sem,simprocAttr,hb,ht] at h)|omega|intro h)
   refine ag (fun k:Nat=>k≤ls.length) (fun k=>⟨[(25, .d (.sl 1 (vT ls))),(26,eN ls.length),(27,eN k),(6, .ref 33)], [(33, .own 92 3 ((ls.take k).flatten.map rT))]⟩) (fun k=>ls.length - k) 0 (by omega) ?_ ?_
   ·(refine Le.of ?_ ?_<;>simp [go_sem,simprocAttr,hb,ht])
   ·clear hb ht hk hge
    rintro k hk
    rcases Nat.lt_or_ge k ls.length with hlt|hge
    ·have hb:decide ((k:Int)<(ls.length:Int))=true:=decide_eq_true (by omega)
     have hv:=tA hlt
     have hf:=vh hlt
     have OF:=qu (ls:=ls) (k:=k)
     have Gt:=qu (ls:=ls) (k:=k+1)
     rw [hf,List.length_append] at Gt
     repeat' (first|refine Rn.p ?_|(with_reducible apply And.intro)|((first|(refine hK _ ?_;clear hK K)|with_reducible intro K hK|refine Rs.p ?_|((with_reducible first|apply oP|apply oQ);exact rfl)|(refine aJ hX hC hP [(10000,33)] (jB (ls.flatten.length:Int) (by omega) (by omega)) rfl rfl rfl ?_ ?_ ?_ ?_ ?_ ?_ ?_ ?_ ?_ ?_ ?_ ?_ ?_ ?_;(focus (simp only [go_sem,simprocAttr,hb,hv];done));(iterate 12 (focus (simp [go_sem,simprocAttr,hb,hv];done)));try simp only [List.map_cons,List.map_nil]));try simp only [go_sem,simprocAttr,hb,hv])|((with_reducible refine oD ?_ ?_);kernel_rfl)|((with_reducible intro h);try simp only [go_sem,simprocAttr,hb,hv] at h)|omega|intro h)
     refine ⟨k+1,by omega, ?_,by omega⟩
     simp only [hf]
     refine Le.of ?_ ?_<;>simp [go_sem,simprocAttr,hb,hv]
    ·have hb:decide ((k:Int)<(ls.length:Int))=false:=decide_eq_false (by omega)
     have ht:ls.take k=ls:=List.take_of_length_le (by omega)
     repeat' (first|refine Rn.p ?_|(with_reducible apply And.intro)|((first|(refine hK _ ?_;clear hK K)|with_reducible intro K hK|refine Rs.p ?_|((with_reducible first|apply oP|apply oQ);exact rfl)|(refine aJ hX hC hP [(10000,33)] (jB (ls.flatten.length:Int) (by omega) (by omega)) rfl rfl rfl ?_ ?_ ?_ ?_ ?_ ?_ ?_ ?_ ?_ ?_ ?_ ?_ ?_ ?_;(focus (simp only [go_sem,simprocAttr,hb,ht];done));(iterate 12 (focus (simp [go_sem,simprocAttr,hb,ht];done)));try simp only [List.map_cons,List.map_nil]));try simp only [go_sem,simprocAttr,hb,ht])|((with_reducible refine oD ?_ ?_);kernel_rfl)|((with_reducible intro h);try simp only [go_sem,simprocAttr,hb,ht] at h)|omega|intro h)
end Go.Ab
end
section
namespace Go.Ab
open Go.Proofs
attribute [local congr] ACall.congr gd.congr Nx.congr
set_option maxRecDepth 10000
set_option maxHeartbeats 1000000
structure Fr where
 row:List It
 pl:List Int
def kI (g:Gr) (f:Fr):D:= .pt [sT f.row,vw g,sI f.pl]
def gi (row:List It) (x:Int):Nat→Int × Int × Int
 |0=>(-1,0,0)
 |k+1=>if (row.getD k (0,0,0)).2.2=x then (if (gi row x k).1= -1 then (k:Int) else (gi row x k).1,(k:Int)+1,(gi row x k).2.2+1) else gi row x k
def bq (row:List It) (x:Int):Int × Int × Int:=gi row x row.length
theorem o9 {row:List It} {x:Int} {k:Nat} :gi row x (k+1)=if (row.getD k (0,0,0)).2.2=x then (if (gi row x k).1= -1 then (k:Int) else (gi row x k).1,(k:Int)+1,(gi row x k).2.2+1) else gi row x k:=rfl
theorem fH {row:List It} {x:Int} :∀k:Nat,(gi row x k=(-1,0,0)∧∀j,j<k→(row.getD j (0,0,0)).2.2≠x)∨
 ∃a b c:Nat,gi row x k=((a:Int),(b:Int),(c:Int))∧a<b∧b≤k∧0<c∧c≤k∧(row.getD a (0,0,0)).2.2=x∧(row.getD (b - 1) (0,0,0)).2.2=x∧(∀j,j<a→(row.getD j (0,0,0)).2.2≠x)∧(∀j,b≤j→j<k→(row.getD j (0,0,0)).2.2≠x)
 |0=> .inl ⟨rfl,fun j hj=>by omega⟩
 |k+1=>by
  rw [o9]
  by_cases hx:(row.getD k (0,0,0)).2.2=x
  ·rw [if_pos hx]
   right
   rcases fH (row:=row) (x:=x) k with ⟨h1,h2⟩|⟨a,b,c,h1,h2,h3,h4,h5,h6,h7,h8,h9⟩
   ·refine ⟨k,k+1,1,by rw [h1];rfl,by omega,by omega,by omega,by omega,hx,hx,h2,fun j h1 h2=>by omega⟩
   ·refine ⟨a,k+1,c+1,by rw [h1];simp only [Prod.mk.injEq];exact ⟨by rw [if_neg (by omega)],by omega,by omega⟩,by omega,by omega,by omega,by omega,h6,hx,h8,fun j h1 h2=>by omega⟩
  ·rw [if_neg hx]
   rcases fH (row:=row) (x:=x) k with ⟨h1,h2⟩|⟨a,b,c,h1,h2,h3,h4,h5,h6,h7,h8,h9⟩
   ·refine .inl ⟨h1,fun j hj=> ?_⟩
    by_cases hjk:j=k
    ·subst hjk;exact hx
    ·exact h2 j (by omega)
   ·refine .inr ⟨a,b,c,h1,h2,by omega,h4,by omega,h6,h7,h8,fun j OL Vz=> ?_⟩
    by_cases hjk:j=k
    ·subst hjk;exact hx
    ·exact h9 j OL (by omega)
theorem ff (ds:List D) (row:List It) (x:Int) (hl:row.length≤1000000):Spec Tryz.prog 139 (Args [.d (.pt (sT row::ds)),eN x]) [] (.tup [eN (bq row x).1,eN (bq row x).2.1,eN (bq row x).2.2]) []:=by
 (refine Spec.hd (C:=T.cfg [] []) (rs:= [.t 4, .t 5, .t 6]) (T.ah _ _) Tryz.func139 rfl rfl Tryz.ntmps139 Tryz.results139 (by simp [AObj.isNest]) (by simp [AObj.isNest]) (by kernel_rfl) T.mixed fun X hX hP hC aB bK=> ?_)
 repeat' (first|refine Rn.p ?_|(with_reducible apply And.intro)|((first|(refine hK _ ?_;clear hK K)|with_reducible intro K hK|refine Rs.p ?_|((with_reducible first|apply oP|apply oQ);exact rfl));try simp only [go_sem,simprocAttr,bq])|((with_reducible refine oD ?_ ?_);kernel_rfl)|((with_reducible intro h);try simp only [go_sem,simprocAttr,bq] at h)|omega|intro h)
 refine ag (fun k:Nat=>k≤row.length) (fun k=>⟨[(1,eN x),(12, .d (sT row)),(13,eN row.length),(14,eN k),(4,eN (gi row x k).1),(5,eN (gi row x k).2.1),(6,eN (gi row x k).2.2)], []⟩) (fun k=>row.length - k) 0 (by simp) ?_ ?_
 ·refine Le.of ?_ ?_<;>simp [go_sem,simprocAttr,bq,gi]
 rintro k hk
 rcases Nat.lt_or_ge k row.length with hlt|hge
 ·have hb:decide ((k:Int)<(row.length:Int))=true:=decide_eq_true (by omega)
  have hok:=fH (row:=row) (x:=x) k
  have hc: -1≤(gi row x k).2.2∧(gi row x k).2.2≤k:=by
   rcases hok with ⟨h1,_⟩|⟨a,b,c,h1,_,_,_,_,_⟩<;>rw [h1]<;>simp only<;>omega
  have gJ:=o9 (row:=row) (x:=x) (k:=k)
  repeat' (first|refine Rn.p ?_|(with_reducible apply And.intro)|((first|(refine hK _ ?_;clear hK K)|with_reducible intro K hK|refine Rs.p ?_|((with_reducible first|apply oP|apply oQ);exact rfl));try simp only [go_sem,simprocAttr,hb])|((with_reducible refine oD ?_ ?_);kernel_rfl)|((with_reducible intro h);try simp only [go_sem,simprocAttr,hb] at h)|omega|intro h)
  all_goals (first|rw [if_neg (by assumption)] at gJ|(rw [if_pos (by assumption)] at gJ;first|rw [if_pos (by assumption)] at gJ|rw [if_neg (by assumption)] at gJ))
  all_goals (refine ⟨k+1,by omega, ?_,by omega⟩;refine Le.of ?_ ?_<;>simp [go_sem,simprocAttr,hb,gJ])
 ·have hb:decide ((k:Int)<(row.length:Int))=false:=decide_eq_false (by omega)
  obtain rfl:k=row.length:=by omega
  repeat' (first|refine Rn.p ?_|(with_reducible apply And.intro)|((first|(refine hK _ ?_;clear hK K)|with_reducible intro K hK|refine Rs.p ?_|((with_reducible first|apply oP|apply oQ);exact rfl));try simp only [go_sem,simprocAttr,hb,bq])|((with_reducible refine oD ?_ ?_);kernel_rfl)|((with_reducible intro h);try simp only [go_sem,simprocAttr,hb,bq] at h)|omega|intro h)
def lQ (x:Int) (t:It):Bool:=decide (t.2.2≠x)&&decide (t.2.2≠ -1)
def sM (row:List It) (x:Int) (a b:Nat):Bool:= !((row.take b).drop a).any (lQ x)
theorem Eo (x:Int):aH [(10000, .rob [eN x])]:=⟨by simp [AObj.ro],by simp [nodupM,look],by simp,by simp [AObj.ids,AV.ids,AV.idss,eN]⟩
theorem BU (x:Int) (t:It):Spec Tryz.prog 206 (Args [eT t, .ptr 10000 0]) [(10000, .rob [eN x])] (eB (lQ x t)) [(10000, .rob [eN x])]:=by
 (refine Spec.hd (C:=T.cfg [] []) (rs:= [.t 3]) (T.ah _ _) Tryz.func206 rfl rfl Tryz.ntmps206 Tryz.results206 (fun p hp=>⟨(aH.low (Eo x) p hp).1,aH.nest (Eo x) p hp⟩) (fun p hp=>⟨(aH.low (Eo x) p hp).2,aH.nest (Eo x) p hp⟩) (by kernel_rfl) T.mixed fun X hX hP hC aB bK=> ?_)
 repeat' (first|refine Rn.p ?_|(with_reducible apply And.intro)|((first|(refine hK _ ?_;clear hK K)|with_reducible intro K hK|refine Rs.p ?_|((with_reducible first|apply oP|apply oQ);exact rfl));try simp only [go_sem,simprocAttr])|((with_reducible refine oD ?_ ?_);kernel_rfl)|((with_reducible intro h);try simp only [go_sem,simprocAttr] at h)|omega|intro h)
 all_goals (simp only [lQ];first|exact bV (Eo x)|simp [*])
theorem gX (ds:List D) (row:List It) (x:Int) (a b:Nat) (hab:a≤b) (hb:b≤row.length) (hl:row.length≤1000000):Spec Tryz.prog 190 (Args [.d (.pt (sT row::ds)),eN x,eN a,eN b]) [] (eB (sM row x a b)) []:=by
 have za:sT ((row.take b).drop a)= .sl 3 (((row.map rT).take b).drop a):=by simp [sT,List.map_take,List.map_drop]
 have jK:((row.take b).drop a).length≤9223372036854775807:=by simp;omega
 (refine Spec.hd (C:=T.cfg [] []) (rs:= [.t 8]) (T.ah _ _) Tryz.func190 rfl rfl Tryz.ntmps190 Tryz.results190 (by simp [AObj.isNest]) (by simp [AObj.isNest]) (by kernel_rfl) T.mixed fun X hX hP hC aB bK=> ?_)
 repeat' (first|refine Rn.p ?_|(with_reducible apply And.intro)|((first|(refine hK _ ?_;clear hK K)|with_reducible intro K hK|refine Rs.p ?_|((with_reducible first|apply oP|apply oQ);exact rfl)|(refine aP hX hC hP [(10000,5)] (o8 (Eo x) _ [.ptr 10000 0] (lQ x) ((row.take b).drop a) (fun t _=>BU x t) jK) rfl rfl rfl ?_ ?_ ?_ ?_ ?_ ?_ rfl rfl ?_ ?_;(focus (simp only [go_sem,simprocAttr,List.map_take,List.map_drop];done));(iterate 6 (focus (simp [go_sem,simprocAttr,List.map_take,List.map_drop];done)));try simp only [List.map_cons,List.map_nil]));try simp only [go_sem,simprocAttr,List.map_take,List.map_drop])|((with_reducible refine oD ?_ ?_);kernel_rfl)|((with_reducible intro h);try simp only [go_sem,simprocAttr,List.map_take,List.map_drop] at h)|omega|intro h)
 rfl
end Go.Ab
end
section
namespace Go.Ab
open Go.Proofs
attribute [local congr] ACall.congr gd.congr Nx.congr
set_option maxRecDepth 10000
set_option maxHeartbeats 2000000
def gY (g:Gr) (f:Fr) (x:Int):Bool:=
 if x<0∨g.n≤x∨x∈f.pl then false else
 decide ((bq f.row x).2.2=((bw (·.2) g x).length:Int))&&(decide ((bw (·.2) g x).length=0)||sM f.row x (bq f.row x).1.toNat (bq f.row x).2.1.toNat)
theorem BW {f:Edge→Int} {g:Gr} {x:Int} :(bw f g x).length≤g.es.length:=by
 unfold bw
 split
 ·exact je
 ·simp
theorem pg (g:Gr) (hm:aX g=true) (f:Fr) (x:Int) (hr:f.row.length≤1000000) (ez:f.pl.length≤1000000):Spec Tryz.prog 138 (Args [.d (kI g f),eN x]) [] (eB (gY g f x)) []:=by
 have hp:f.pl.length≤9223372036854775807:=by omega
 have hn:=bF hm
 unfold kI
 by_cases hx:x<0∨g.n≤x∨x∈f.pl
 ·have hR:gY g f x=false:=if_pos hx
  (refine Spec.hd (C:=T.cfg [] []) (rs:= [.t 4]) (T.ah _ _) Tryz.func138 rfl rfl Tryz.ntmps138 Tryz.results138 (by simp [AObj.isNest]) (by simp [AObj.isNest]) (by kernel_rfl) T.mixed fun X hX hP hC aB bK=> ?_)
  by_cases h1:x<0
  ·have aC:decide (x<0)=true:=decide_eq_true h1
   repeat' (first|refine Rn.p ?_|(with_reducible apply And.intro)|((first|(refine hK _ ?_;clear hK K)|with_reducible intro K hK|refine Rs.p ?_|((with_reducible first|apply oP|apply oQ);exact rfl)|refine aa hX hC hP (kH g hm x) rfl rfl rfl (by simp only [go_sem,simprocAttr,aA,hR,aC]) rfl ?_|refine aa hX hC hP (bu f.pl x hp) rfl rfl rfl (by simp only [go_sem,simprocAttr,aA,hR,aC]) rfl ?_|refine aa hX hC hP (ff [vw g,sI f.pl] f.row x hr) rfl rfl rfl (by simp only [go_sem,simprocAttr,aA,hR,aC]) rfl ?_|refine aa hX hC hP (gX [vw g,sI f.pl] f.row x a b hab vQ hr) rfl rfl rfl (by simp only [go_sem,simprocAttr,aA,hR,aC]) rfl ?_);try simp only [go_sem,simprocAttr,aA,hR,aC])|((with_reducible refine oD ?_ ?_);kernel_rfl)|((with_reducible intro h);try simp only [go_sem,simprocAttr,aA,hR,aC] at h)|omega|intro h)
  have aC:decide (x<0)=false:=decide_eq_false h1
  by_cases h2:g.n≤x
  ·have aI:decide (g.n≤x)=true:=decide_eq_true h2
   repeat' (first|refine Rn.p ?_|(with_reducible apply And.intro)|((first|(refine hK _ ?_;clear hK K)|with_reducible intro K hK|refine Rs.p ?_|((with_reducible first|apply oP|apply oQ);exact rfl)|refine aa hX hC hP (kH g hm x) rfl rfl rfl (by simp only [go_sem,simprocAttr,aA,hR,aC,aI]) rfl ?_|refine aa hX hC hP (bu f.pl x hp) rfl rfl rfl (by simp only [go_sem,simprocAttr,aA,hR,aC,aI]) rfl ?_|refine aa hX hC hP (ff [vw g,sI f.pl] f.row x hr) rfl rfl rfl (by simp only [go_sem,simprocAttr,aA,hR,aC,aI]) rfl ?_|refine aa hX hC hP (gX [vw g,sI f.pl] f.row x a b hab vQ hr) rfl rfl rfl (by simp only [go_sem,simprocAttr,aA,hR,aC,aI]) rfl ?_);try simp only [go_sem,simprocAttr,aA,hR,aC,aI])|((with_reducible refine oD ?_ ?_);kernel_rfl)|((with_reducible intro h);try simp only [go_sem,simprocAttr,aA,hR,aC,aI] at h)|omega|intro h)
  have aI:decide (g.n≤x)=false:=decide_eq_false h2
  have h3:x∈f.pl:=by rcases hx with h|h|h;exact absurd h h1;exact absurd h h2;exact h
  have cU:decide (x∈f.pl)=true:=decide_eq_true h3
  repeat' (first|refine Rn.p ?_|(with_reducible apply And.intro)|((first|(refine hK _ ?_;clear hK K)|with_reducible intro K hK|refine Rs.p ?_|((with_reducible first|apply oP|apply oQ);exact rfl)|refine aa hX hC hP (kH g hm x) rfl rfl rfl (by simp only [go_sem,simprocAttr,aA,hR,aC,aI,cU]) rfl ?_|refine aa hX hC hP (bu f.pl x hp) rfl rfl rfl (by simp only [go_sem,simprocAttr,aA,hR,aC,aI,cU]) rfl ?_|refine aa hX hC hP (ff [vw g,sI f.pl] f.row x hr) rfl rfl rfl (by simp only [go_sem,simprocAttr,aA,hR,aC,aI,cU]) rfl ?_|refine aa hX hC hP (gX [vw g,sI f.pl] f.row x a b hab vQ hr) rfl rfl rfl (by simp only [go_sem,simprocAttr,aA,hR,aC,aI,cU]) rfl ?_);try simp only [go_sem,simprocAttr,aA,hR,aC,aI,cU])|((with_reducible refine oD ?_ ?_);kernel_rfl)|((with_reducible intro h);try simp only [go_sem,simprocAttr,aA,hR,aC,aI,cU] at h)|omega|intro h)
 ·have aC:decide (x<0)=false:=decide_eq_false fun h=>hx (.inl h)
  have aI:decide (g.n≤x)=false:=decide_eq_false fun h=>hx (.inr (.inl h))
  have cU:decide (x∈f.pl)=false:=decide_eq_false fun h=>hx (.inr (.inr h))
  have hR:gY g f x=(decide ((bq f.row x).2.2=((bw (·.2) g x).length:Int))&&(decide ((bw (·.2) g x).length=0)||sM f.row x (bq f.row x).1.toNat (bq f.row x).2.1.toNat)):=if_neg hx
  by_cases h4:(bq f.row x).2.2=((bw (·.2) g x).length:Int)
  ·have hb4:decide ((bq f.row x).2.2=((bw (·.2) g x).length:Int))=true:=decide_eq_true h4
   by_cases h5:(bw (·.2) g x).length=0
   ·have Ep:decide (((bw (·.2) g x).length:Int)=0)=true:=decide_eq_true (by omega)
    rw [hb4,decide_eq_true h5] at hR
    (refine Spec.hd (C:=T.cfg [] []) (rs:= [.t 4]) (T.ah _ _) Tryz.func138 rfl rfl Tryz.ntmps138 Tryz.results138 (by simp [AObj.isNest]) (by simp [AObj.isNest]) (by kernel_rfl) T.mixed fun X hX hP hC aB bK=> ?_)
    repeat' (first|refine Rn.p ?_|(with_reducible apply And.intro)|((first|(refine hK _ ?_;clear hK K)|with_reducible intro K hK|refine Rs.p ?_|((with_reducible first|apply oP|apply oQ);exact rfl)|refine aa hX hC hP (kH g hm x) rfl rfl rfl (by simp only [go_sem,simprocAttr,aA,hR,aC,aI,cU,hb4,Ep]) rfl ?_|refine aa hX hC hP (bu f.pl x hp) rfl rfl rfl (by simp only [go_sem,simprocAttr,aA,hR,aC,aI,cU,hb4,Ep]) rfl ?_|refine aa hX hC hP (ff [vw g,sI f.pl] f.row x hr) rfl rfl rfl (by simp only [go_sem,simprocAttr,aA,hR,aC,aI,cU,hb4,Ep]) rfl ?_|refine aa hX hC hP (gX [vw g,sI f.pl] f.row x a b hab vQ hr) rfl rfl rfl (by simp only [go_sem,simprocAttr,aA,hR,aC,aI,cU,hb4,Ep]) rfl ?_);try simp only [go_sem,simprocAttr,aA,hR,aC,aI,cU,hb4,Ep])|((with_reducible refine oD ?_ ?_);kernel_rfl)|((with_reducible intro h);try simp only [go_sem,simprocAttr,aA,hR,aC,aI,cU,hb4,Ep] at h)|omega|intro h)
   ·have Ep:decide (((bw (·.2) g x).length:Int)=0)=false:=decide_eq_false (by omega)
    rcases fH (row:=f.row) (x:=x) f.row.length with ⟨h6,_⟩|⟨a,b,c,h6,hab,vQ,_⟩
    ·exfalso
     have:(bq f.row x).2.2=0:=by unfold bq;rw [h6]
     omega
    ·have hsp:bq f.row x=((a:Int),(b:Int),(c:Int)):=h6
     have hab:a≤b:=by omega
     rw [hb4,decide_eq_false h5,hsp] at hR
     simp only [Bool.true_and,Bool.false_or,Int.toNat_natCast] at hR
     rw [hsp] at hb4
     (refine Spec.hd (C:=T.cfg [] []) (rs:= [.t 4]) (T.ah _ _) Tryz.func138 rfl rfl Tryz.ntmps138 Tryz.results138 (by simp [AObj.isNest]) (by simp [AObj.isNest]) (by kernel_rfl) T.mixed fun X hX hP hC aB bK=> ?_)
     repeat' (first|refine Rn.p ?_|(with_reducible apply And.intro)|((first|(refine hK _ ?_;clear hK K)|with_reducible intro K hK|refine Rs.p ?_|((with_reducible first|apply oP|apply oQ);exact rfl)|refine aa hX hC hP (kH g hm x) rfl rfl rfl (by simp only [go_sem,simprocAttr,aA,hR,aC,aI,cU,hb4,Ep,hsp]) rfl ?_|refine aa hX hC hP (bu f.pl x hp) rfl rfl rfl (by simp only [go_sem,simprocAttr,aA,hR,aC,aI,cU,hb4,Ep,hsp]) rfl ?_|refine aa hX hC hP (ff [vw g,sI f.pl] f.row x hr) rfl rfl rfl (by simp only [go_sem,simprocAttr,aA,hR,aC,aI,cU,hb4,Ep,hsp]) rfl ?_|refine aa hX hC hP (gX [vw g,sI f.pl] f.row x a b hab vQ hr) rfl rfl rfl (by simp only [go_sem,simprocAttr,aA,hR,aC,aI,cU,hb4,Ep,hsp]) rfl ?_);try simp only [go_sem,simprocAttr,aA,hR,aC,aI,cU,hb4,Ep,hsp])|((with_reducible refine oD ?_ ?_);kernel_rfl)|((with_reducible intro h);try simp only [go_sem,simprocAttr,aA,hR,aC,aI,cU,hb4,Ep,hsp] at h)|omega|intro h)
  ·have hb4:decide ((bq f.row x).2.2=((bw (·.2) g x).length:Int))=false:=decide_eq_false h4
   rw [hb4,Bool.false_and] at hR
   (refine Spec.hd (C:=T.cfg [] []) (rs:= [.t 4]) (T.ah _ _) Tryz.func138 rfl rfl Tryz.ntmps138 Tryz.results138 (by simp [AObj.isNest]) (by simp [AObj.isNest]) (by kernel_rfl) T.mixed fun X hX hP hC aB bK=> ?_)
   repeat' (first|refine Rn.p ?_|(with_reducible apply And.intro)|((first|(refine hK _ ?_;clear hK K)|with_reducible intro K hK|refine Rs.p ?_|((with_reducible first|apply oP|apply oQ);exact rfl)|refine aa hX hC hP (kH g hm x) rfl rfl rfl (by simp only [go_sem,simprocAttr,aA,hR,aC,aI,cU,hb4]) rfl ?_|refine aa hX hC hP (bu f.pl x hp) rfl rfl rfl (by simp only [go_sem,simprocAttr,aA,hR,aC,aI,cU,hb4]) rfl ?_|refine aa hX hC hP (ff [vw g,sI f.pl] f.row x hr) rfl rfl rfl (by simp only [go_sem,simprocAttr,aA,hR,aC,aI,cU,hb4]) rfl ?_|refine aa hX hC hP (gX [vw g,sI f.pl] f.row x a b hab vQ hr) rfl rfl rfl (by simp only [go_sem,simprocAttr,aA,hR,aC,aI,cU,hb4]) rfl ?_);try simp only [go_sem,simprocAttr,aA,hR,aC,aI,cU,hb4])|((with_reducible refine oD ?_ ?_);kernel_rfl)|((with_reducible intro h);try simp only [go_sem,simprocAttr,aA,hR,aC,aI,cU,hb4] at h)|omega|intro h)
theorem Er (ds:List D) (row:List It) (hr:row.length≤1000000):Spec Tryz.prog 90 (Args [.d (.pt (sT row::ds))]) [] (.ref 10000) [(10000, .tip 92 3 (row.map rT))]:=by
 (refine Spec.CT (C:=T.cfg [] []) (rs:= [.t 2]) [(10000,7)] (T.ah _ _) Tryz.func90 rfl rfl Tryz.ntmps90 Tryz.results90 (by simp [AObj.isNest]) (by simp [AObj.isNest]) (by first|(simp [look];done)|(simp [asN];done)|(intro l hl;simp only [asN];repeat (rw [if_neg (fun e=>by subst e;simp [look] at hl)]))) (by first|(simp [look];done)|(simp [asN];done)|(intro l hl;simp only [asN];repeat (rw [if_neg (fun e=>by subst e;simp [look] at hl)]))) (by kernel_rfl) T.mixed fun X hX hP hC aB bK=> ?_)
 repeat' (first|refine Rn.p ?_|(with_reducible apply And.intro)|((first|(refine hK _ ?_;clear hK K)|with_reducible intro K hK|refine Rs.p ?_|((with_reducible first|apply oP|apply oQ);exact rfl)|(refine aJ hX hC hP [(10000,7)] (sK row hr) rfl rfl rfl ?_ ?_ ?_ ?_ ?_ ?_ ?_ ?_ ?_ ?_ ?_ ?_ ?_ ?_;(focus (simp only [go_sem,simprocAttr];done));(iterate 12 (focus (simp [go_sem,simprocAttr];done)));try simp only [List.map_cons,List.map_nil]));try simp only [go_sem,simprocAttr])|((with_reducible refine oD ?_ ?_);kernel_rfl)|((with_reducible intro h);try simp only [go_sem,simprocAttr] at h)|omega|intro h)
end Go.Ab
end
section
namespace Go.Ab
open Go.Proofs
attribute [local congr] ACall.congr gd.congr Nx.congr
set_option maxRecDepth 10000
set_option maxHeartbeats 2000000
theorem cR (l:List Int):Spec Tryz.prog 137 (Args [.d (sI l)]) [] (.fn 189 [] [.ptr 10000 0]) [(10000, .box [.d (sI l)])]:=by
 (refine Spec.CT (C:=T.cfg [] []) (rs:= [.t 2]) [(10000,1)] (T.ah _ _) Tryz.func137 rfl rfl Tryz.ntmps137 Tryz.results137 (by simp [AObj.isNest]) (by simp [AObj.isNest]) (by first|(simp [look];done)|(simp [asN];done)|(intro l hl;simp only [asN];repeat (rw [if_neg (fun e=>by subst e;simp [look] at hl)]))) (by first|(simp [look];done)|(simp [asN];done)|(intro l hl;simp only [asN];repeat (rw [if_neg (fun e=>by subst e;simp [look] at hl)]))) (by kernel_rfl) T.mixed fun X hX hP hC aB bK=> ?_)
 repeat' (first|refine Rn.p ?_|(with_reducible apply And.intro)|((first|(refine hK _ ?_;clear hK K)|with_reducible intro K hK|refine Rs.p ?_|((with_reducible first|apply oP|apply oQ);exact rfl));try simp only [go_sem,simprocAttr])|((with_reducible refine oD ?_ ?_);kernel_rfl)|((with_reducible intro h);try simp only [go_sem,simprocAttr] at h)|omega|intro h)
theorem dU (xs ys:List Int) (hlen:xs.length≤9223372036854775807):Spec Tryz.prog 133 (Args [.d (sI xs), .d (sI ys)]) [] (eB (decide (xs=ys))) []:=by
 (refine Spec.hd (C:=T.cfg [] []) (rs:= [.t 4]) (T.ah _ _) Tryz.func133 rfl rfl Tryz.ntmps133 Tryz.results133 (by simp [AObj.isNest]) (by simp [AObj.isNest]) (by kernel_rfl) T.mixed fun X hX hP hC aB bK=> ?_)
 repeat' (first|refine Rn.p ?_|(with_reducible apply And.intro)|((first|(refine hK _ ?_;clear hK K)|with_reducible intro K hK|refine Rs.p ?_|((with_reducible first|apply oP|apply oQ);exact rfl));try simp only [go_sem,simprocAttr])|((with_reducible refine oD ?_ ?_);kernel_rfl)|((with_reducible intro h);try simp only [go_sem,simprocAttr] at h)|omega|intro h)
 ·have:xs≠ys:=fun e=>h (by rw [e])
  simp [this]
 refine ag (fun k:Nat=>k≤xs.length∧xs.take k=ys.take k) (fun k=>⟨[(0, .d (sI xs)),(1, .d (sI ys)),(12,eN xs.length),(13,eN k)], []⟩) (fun k=>xs.length - k) 0 (by simp) ?_ ?_
 ·(refine ⟨bD ?_,fun _ _ h=>h⟩;simp [go_sem,simprocAttr])
 rintro k ⟨hk,hp⟩
 have Fa:xs.length=ys.length:=by omega
 repeat' (first|refine Rn.p ?_|(with_reducible apply And.intro)|((first|(refine hK _ ?_;clear hK K)|with_reducible intro K hK|refine Rs.p ?_|((with_reducible first|apply oP|apply oQ);exact rfl));try simp only [go_sem,simprocAttr])|((with_reducible refine oD ?_ ?_);kernel_rfl)|((with_reducible intro h);try simp only [go_sem,simprocAttr] at h)|omega|intro h)
 ·have:xs≠ys:=fun e=>h (by rw [e])
  simp [this]
 ·refine ⟨k+1,⟨by omega,DY 0 (by omega) (by omega) hp h⟩, ?_,by omega⟩
  (refine ⟨bD ?_,fun _ _ h=>h⟩;simp [go_sem,simprocAttr])
 ·have:k=xs.length:=by omega
  subst this
  rw [List.take_of_length_le (Nat.le_refl _),List.take_of_length_le (by omega)] at hp
  simp [hp]
def qv (g:Gr) (x:Int) (i:Int):It:=(i,x,(g.es.getD i.toNat (0,0)).2)
def bz (g:Gr) (x:Int) (outs:List Int):List It:=if outs= [] then [(-1,x, -1)] else outs.map (qv g x)
theorem pn {α β:Type} {f:α→β} {l:List α} {d:α} {k:Nat} (h:k<l.length):(l.take (k+1)).map f=(l.take k).map f++ [f (l.getD k d)]:=by
 rw [List.take_add_one,List.map_append,List.getElem?_eq_getElem h,List.getD_eq_getElem?_getD,List.getElem?_eq_getElem h]
 rfl
theorem BX (g:Gr) (f:Fr) (x:Int) (outs:List Int) (hl:outs.length≤1000000) (ho:∀i∈outs,0≤i∧i<g.es.length):Spec Tryz.prog 141 (Args [.d (kI g f),eN x, .d (sI outs)]) [] (.ref 10000) [(10000, .tip 92 3 ((bz g x outs).map rT))]:=by
 unfold kI
 by_cases h0:outs= []
 ·subst h0
  have hA:bz g x []= [(-1,x, -1)]:=if_pos rfl
  rw [hA]
  (refine Spec.CT (C:=T.cfg [] []) (rs:= [.t 6]) [(10000,14)] (T.ah _ _) Tryz.func141 rfl rfl Tryz.ntmps141 Tryz.results141 (by simp [AObj.isNest]) (by simp [AObj.isNest]) (by first|(simp [look];done)|(simp [asN];done)|(intro l hl;simp only [asN];repeat (rw [if_neg (fun e=>by subst e;simp [look] at hl)]))) (by first|(simp [look];done)|(simp [asN];done)|(intro l hl;simp only [asN];repeat (rw [if_neg (fun e=>by subst e;simp [look] at hl)]))) (by kernel_rfl) T.mixed fun X hX hP hC aB bK=> ?_)
  repeat' (first|refine Rn.p ?_|(with_reducible apply And.intro)|((first|(refine hK _ ?_;clear hK K)|with_reducible intro K hK|refine Rs.p ?_|((with_reducible first|apply oP|apply oQ);exact rfl));try simp only [go_sem,simprocAttr,aA])|((with_reducible refine oD ?_ ?_);kernel_rfl)|((with_reducible intro h);try simp only [go_sem,simprocAttr,aA] at h)|omega|intro h)
 ·have hA:bz g x outs=outs.map (qv g x):=if_neg h0
  rw [hA]
  have hb0:decide ((outs.length:Int)=0)=false:=decide_eq_false fun h=>h0 (List.eq_nil_of_length_eq_zero (by omega))
  (refine Spec.CT (C:=T.cfg [] []) (rs:= [.t 6]) [(10000,38)] (T.ah _ _) Tryz.func141 rfl rfl Tryz.ntmps141 Tryz.results141 (by simp [AObj.isNest]) (by simp [AObj.isNest]) (by first|(simp [look];done)|(simp [asN];done)|(intro l hl;simp only [asN];repeat (rw [if_neg (fun e=>by subst e;simp [look] at hl)]))) (by first|(simp [look];done)|(simp [asN];done)|(intro l hl;simp only [asN];repeat (rw [if_neg (fun e=>by subst e;simp [look] at hl)]))) (by kernel_rfl) T.mixed fun X hX hP hC aB bK=> ?_)
  repeat' (first|refine Rn.p ?_|(with_reducible apply And.intro)|((first|(refine hK _ ?_;clear hK K)|with_reducible intro K hK|refine Rs.p ?_|((with_reducible first|apply oP|apply oQ);exact rfl));try simp only [go_sem,simprocAttr,aA,hb0])|((with_reducible refine oD ?_ ?_);kernel_rfl)|((with_reducible intro h);try simp only [go_sem,simprocAttr,aA,hb0] at h)|omega|intro h)
  (refine gv hX 6 38 (.tip 92 3 []) (by simp only [go_sem,simprocAttr,aA,hb0]) (by simp only [go_sem,simprocAttr,aA,hb0]) (by decide) ⟨92,3,by decide, .inr rfl⟩ ?_;simp only [go_sem,simprocAttr,aA,hb0])
  refine ag (fun k:Nat=>k≤outs.length) (fun k=>⟨[(0, .d (kI g f)),(1,eN x),(15, .d (sI outs)),(16,eN outs.length),(17,eN k),(6, .ref 38)], [(38, .tip 92 3 (((outs.take k).map (qv g x)).map rT))]⟩) (fun k=>outs.length - k) 0 (by omega) ?_ ?_
  ·refine Le.of ?_ ?_<;>simp [go_sem,simprocAttr,aA,hb0,kI]
  unfold kI
  rintro k hk
  rcases Nat.lt_or_ge k outs.length with hlt|hge
  ·have hb:decide ((k:Int)<(outs.length:Int))=true:=decide_eq_true (by omega)
   have gJ:=pn (f:=qv g x) (d:=0) hlt
   have LV:=ho _ (aD (d:=0) hlt)
   have hlk:(outs.take k).length=k:=by simp;omega
   repeat' (first|refine Rn.p ?_|(with_reducible apply And.intro)|((first|(refine hK _ ?_;clear hK K)|with_reducible intro K hK|refine Rs.p ?_|((with_reducible first|apply oP|apply oQ);exact rfl));try simp only [go_sem,simprocAttr,aA,hb,hlk])|((with_reducible refine oD ?_ ?_);kernel_rfl)|((with_reducible intro h);try simp only [go_sem,simprocAttr,aA,hb,hlk] at h)|omega|intro h)
   refine ⟨k+1,by omega, ?_,by omega⟩
   refine Le.of ?_ ?_<;>simp [go_sem,simprocAttr,aA,hb,hlk,gJ,qv]
  ·have hb:decide ((k:Int)<(outs.length:Int))=false:=decide_eq_false (by omega)
   obtain rfl:k=outs.length:=by omega
   have ht:outs.take outs.length=outs:=List.take_of_length_le (by omega)
   repeat' (first|refine Rn.p ?_|(with_reducible apply And.intro)|((first|(refine hK _ ?_;clear hK K)|with_reducible intro K hK|refine Rs.p ?_|((with_reducible first|apply oP|apply oQ);exact rfl));try simp only [go_sem,simprocAttr,aA,hb,ht])|((with_reducible refine oD ?_ ?_);kernel_rfl)|((with_reducible intro h);try simp only [go_sem,simprocAttr,aA,hb,ht] at h)|omega|intro h)
def oy (g:Gr) (f:Fr):List (Nat × AObj):= [(10000, .box [.d (sT f.row), .d (vw g), .ref 10001]),(10001, .tip 3 1 (f.pl.map rI))]
theorem yN (row items:List It) (a b:Nat) (h0:0<items.length) (hr:row.length≤400000) (hi:items.length≤100000):Spec Tryz.prog 191 (Args [.d (.sl 1 [[.sl 3 (List.take a (row.map rT))], [.sl 3 (items.map rT)], [.sl 3 (List.drop b (row.map rT))]])]) [] (.d (sT (row.take a++items++row.drop b))) []:=by
 have hf: [row.take a,items,row.drop b].flatten=row.take a++items++row.drop b:=by simp
 have hlen: [row.take a,items,row.drop b].flatten.length=min a row.length+items.length+(row.length - b):=by simp;omega
 have:=yM [row.take a,items,row.drop b] (by simp) (by omega) (by omega)
 rw [hf] at this
 simpa only [vT,List.map_cons,List.map_nil,sT,List.map_take,List.map_drop] using this
theorem Es (g:Gr) (row items:List It) (pl:List Int) (a b:Nat) (hab:a≤b) (hb:b≤row.length) (h0:0<items.length) (hr:row.length≤400000) (hi:items.length≤100000):
 Spec Tryz.prog 140 (Args [.ptr 10000 0,eN a,eN b, .ref 10003]) (oy g ⟨row,pl⟩++ [(10003, .tip 92 3 (items.map rT))]) (.d (sT ((row.take b).drop a))) (oy g ⟨row.take a++items++row.drop b,pl⟩):=by
 have zf:((row.take b).drop a).length≤1000000:=by simp;omega
 have s4:List.take row.length (row.map rT)=row.map rT:=List.take_of_length_le (by simp)
 unfold oy
 simp only [List.cons_append,List.nil_append]
 (refine Spec.hd (C:=T.cfg [] []) (rs:= [.t 8]) (T.ah _ _) Tryz.func140 rfl rfl Tryz.ntmps140 Tryz.results140 (by simp [AObj.isNest]) (by simp [AObj.isNest]) (by kernel_rfl) T.mixed fun X hX hP hC aB bK=> ?_)
 repeat' (first|refine Rn.p ?_|(with_reducible apply And.intro)|((first|(refine hK _ ?_;clear hK K)|with_reducible intro K hK|refine Rs.p ?_|((with_reducible first|apply oP|apply oQ);exact rfl)|(refine aJ hX hC hP [(10000,17)] (sK ((row.take b).drop a) zf) rfl rfl rfl ?_ ?_ ?_ ?_ ?_ ?_ ?_ ?_ ?_ ?_ ?_ ?_ ?_ ?_;(focus (simp only [go_sem,simprocAttr,List.map_take,List.map_drop,s4];done));(iterate 12 (focus (simp [go_sem,simprocAttr,List.map_take,List.map_drop,s4];done)));try simp only [List.map_cons,List.map_nil])|(refine aq hX hC hP (yN row items a b h0 hr hi) rfl rfl rfl ?_ ?_ rfl ?_;iterate 2 (focus (simp only [go_sem,simprocAttr,List.map_take,List.map_drop,s4];done))));try simp only [go_sem,simprocAttr,List.map_take,List.map_drop,s4])|((with_reducible refine oD ?_ ?_);kernel_rfl)|((with_reducible intro h);try simp only [go_sem,simprocAttr,List.map_take,List.map_drop,s4] at h)|omega|intro h)
end Go.Ab
end
section
namespace Go.Ab
open Go.Proofs
attribute [local congr] ACall.congr gd.congr Nx.congr
set_option maxRecDepth 10000
set_option maxHeartbeats 4000000
def BY (g:Gr) (f:Fr):List (Nat × AObj):= [(10000, .box [.d (sT f.row), .d (vw g), .ref 10002]),(10002, .tip 3 1 (f.pl.map rI))]
def j5 (g:Gr) (f:Fr) (x:Int) (outs:List Int):(List It × Int) × Fr:=
 if gY g f x=false then (([],3),f) else if iN outs≠bw (·.1) g x then (([],1),f) else
 (((f.row.take (bq f.row x).2.1.toNat).drop (max (bq f.row x).1 0).toNat,0),⟨f.row.take (max (bq f.row x).1 0).toNat++bz g x outs++f.row.drop (bq f.row x).2.1.toNat,f.pl++ [x]⟩)
theorem gZ {f:Edge→Int} {es:List Edge} {k:Nat} {x i:Int} (h:i∈aZ f es k x):(0≤i∧i<k)∧f (es.getD i.toNat (0,0))=x:=by
 simp only [aZ,List.mem_map,List.mem_filter,List.mem_range,decide_eq_true_eq] at h
 obtain ⟨j,⟨h1,h2⟩,rfl⟩:=h
 exact ⟨⟨Int.natCast_nonneg j,by simp;omega⟩,h2⟩
theorem BZ {f:Edge→Int} {g:Gr} {x i:Int} (h:i∈bw f g x):(0≤i∧i<g.es.length)∧f (g.es.getD i.toNat (0,0))=x:=by
 unfold bw at h
 split at h
 ·exact gZ h
 ·cases h
theorem Am {l:List Int} {x:Int} :x∈iN l↔x∈l:=by simp [iN]
theorem xe (row:List It) (x:Int):∃a b:Nat,max (bq row x).1 0=(a:Int)∧(bq row x).2.1=(b:Int)∧a≤b∧b≤row.length:=by
 rcases fH (row:=row) (x:=x) row.length with ⟨h,_⟩|⟨a,b,c,h,h1,h2,_⟩
 ·exact ⟨0,0,by unfold bq;rw [h];rfl,by unfold bq;rw [h];rfl,by omega,by omega⟩
 ·exact ⟨a,b,by unfold bq;rw [h];simp only;omega,by unfold bq;rw [h],by omega,by omega⟩
theorem vi {g:Gr} {x:Int} {outs:List Int} :0<(bz g x outs).length∧(bz g x outs).length≤outs.length+1:=by
 unfold bz
 split
 ·simp
 ·rename_i h
  have:=List.length_pos_iff.2 h
  simp;omega
theorem B0 (g:Gr) (hm:aX g=true) (f:Fr) (x:Int) (outs:List Int) (hr:f.row.length≤300000) (hp:f.pl.length≤100000) (ho:outs.length≤17592186043904):
 Spec Tryz.prog 89 (Args [.ptr 10000 0,eN x, .d (sI outs)]) (oy g f) (.tup [.d (sT (j5 g f x outs).1.1),eN (j5 g f x outs).1.2]) (BY g (j5 g f x outs).2):=by
 have pM:f.row.length≤1000000:=by omega
 have hp1:f.pl.length≤1000000:=by omega
 have hs:(iN outs).length≤9223372036854775807:=by rw [fR];omega
 have hn:=bF hm
 cases hR:gY g f x with
 |false=>
  have hP:j5 g f x outs=(([],3),f):=if_pos hR
  rw [hP]
  unfold oy BY
  (refine Spec.CT (C:=T.cfg [] []) (rs:= [.t 6, .t 7]) [(10002,10001)] (T.ah _ _) Tryz.func89 rfl rfl Tryz.ntmps89 Tryz.results89 (by simp [AObj.isNest]) (by simp [AObj.isNest]) (by first|(simp [look];done)|(simp [asN];done)|(intro l hl;simp only [asN];repeat (rw [if_neg (fun e=>by subst e;simp [look] at hl)]))) (by first|(simp [look];done)|(simp [asN];done)|(intro l hl;simp only [asN];repeat (rw [if_neg (fun e=>by subst e;simp [look] at hl)]))) (by kernel_rfl) T.mixed fun X hX hP hC aB bK=> ?_)
  repeat' (first|refine Rn.p ?_|(with_reducible apply And.intro)|((first|(refine hK _ ?_;clear hK K)|with_reducible intro K hK|refine Rs.p ?_|((with_reducible first|apply oP|apply oQ);exact rfl)|(refine ai hX hC hP (pg g hm f x pM hp1) rfl rfl rfl ?_ ?_ ?_ ?_;iterate 3 (focus (simp only [go_sem,simprocAttr,hR,kI];done)))|(refine aJ hX hC hP [(10000,16)] (cR outs) rfl rfl rfl ?_ ?_ ?_ ?_ ?_ ?_ ?_ ?_ ?_ ?_ ?_ ?_ ?_ ?_;(focus (simp only [go_sem,simprocAttr,hR,kI];done));(iterate 12 (focus (simp [go_sem,simprocAttr,hR,kI];done)));try simp only [List.map_cons,List.map_nil])|(refine aP hX hC hP [(10000,16)] (cw outs ho) rfl rfl rfl ?_ ?_ ?_ ?_ ?_ ?_ rfl rfl ?_ ?_;(focus (simp only [go_sem,simprocAttr,hR,kI];done));(iterate 6 (focus (simp [go_sem,simprocAttr,hR,kI];done)));try simp only [List.map_cons,List.map_nil])|refine aa hX hC hP (jf g hm x) rfl rfl rfl (by simp only [go_sem,simprocAttr,hR,kI]) rfl ?_|refine aa hX hC hP (dU (iN outs) (bw (·.1) g x) hs) rfl rfl rfl (by simp only [go_sem,simprocAttr,hR,kI]) rfl ?_|(refine ai hX hC hP (ff [vw g,sI f.pl] f.row x pM) rfl rfl rfl ?_ ?_ ?_ ?_;iterate 3 (focus (simp only [go_sem,simprocAttr,hR,kI];done))));try simp only [go_sem,simprocAttr,hR,kI])|((with_reducible refine oD ?_ ?_);kernel_rfl)|((with_reducible intro h);try simp only [go_sem,simprocAttr,hR,kI] at h)|omega|intro h)
 |true=>
 have OM:¬gY g f x=false:=by rw [hR];simp
 by_cases hE:¬iN outs=bw (·.1) g x
 ·have aC:decide (iN outs=bw (·.1) g x)=false:=decide_eq_false hE
  have hP:j5 g f x outs=(([],1),f):=by unfold j5;rw [if_neg OM,if_pos hE]
  rw [hP]
  unfold oy BY
  (refine Spec.CT (C:=T.cfg [] []) (rs:= [.t 6, .t 7]) [(10002,10001)] (T.ah _ _) Tryz.func89 rfl rfl Tryz.ntmps89 Tryz.results89 (by simp [AObj.isNest]) (by simp [AObj.isNest]) (by first|(simp [look];done)|(simp [asN];done)|(intro l hl;simp only [asN];repeat (rw [if_neg (fun e=>by subst e;simp [look] at hl)]))) (by first|(simp [look];done)|(simp [asN];done)|(intro l hl;simp only [asN];repeat (rw [if_neg (fun e=>by subst e;simp [look] at hl)]))) (by kernel_rfl) T.mixed fun X hX hP hC aB bK=> ?_)
  repeat' (first|refine Rn.p ?_|(with_reducible apply And.intro)|((first|(refine hK _ ?_;clear hK K)|with_reducible intro K hK|refine Rs.p ?_|((with_reducible first|apply oP|apply oQ);exact rfl)|(refine ai hX hC hP (pg g hm f x pM hp1) rfl rfl rfl ?_ ?_ ?_ ?_;iterate 3 (focus (simp only [go_sem,simprocAttr,hR,aC,kI];done)))|(refine aJ hX hC hP [(10000,16)] (cR outs) rfl rfl rfl ?_ ?_ ?_ ?_ ?_ ?_ ?_ ?_ ?_ ?_ ?_ ?_ ?_ ?_;(focus (simp only [go_sem,simprocAttr,hR,aC,kI];done));(iterate 12 (focus (simp [go_sem,simprocAttr,hR,aC,kI];done)));try simp only [List.map_cons,List.map_nil])|(refine aP hX hC hP [(10000,16)] (cw outs ho) rfl rfl rfl ?_ ?_ ?_ ?_ ?_ ?_ rfl rfl ?_ ?_;(focus (simp only [go_sem,simprocAttr,hR,aC,kI];done));(iterate 6 (focus (simp [go_sem,simprocAttr,hR,aC,kI];done)));try simp only [List.map_cons,List.map_nil])|refine aa hX hC hP (jf g hm x) rfl rfl rfl (by simp only [go_sem,simprocAttr,hR,aC,kI]) rfl ?_|refine aa hX hC hP (dU (iN outs) (bw (·.1) g x) hs) rfl rfl rfl (by simp only [go_sem,simprocAttr,hR,aC,kI]) rfl ?_|(refine ai hX hC hP (ff [vw g,sI f.pl] f.row x pM) rfl rfl rfl ?_ ?_ ?_ ?_;iterate 3 (focus (simp only [go_sem,simprocAttr,hR,aC,kI];done))));try simp only [go_sem,simprocAttr,hR,aC,kI])|((with_reducible refine oD ?_ ?_);kernel_rfl)|((with_reducible intro h);try simp only [go_sem,simprocAttr,hR,aC,kI] at h)|omega|intro h)
 rw [Decidable.not_not] at hE
 have aC:decide (iN outs=bw (·.1) g x)=true:=decide_eq_true hE
 have hP:j5 g f x outs=(((f.row.take (bq f.row x).2.1.toNat).drop (max (bq f.row x).1 0).toNat,0),⟨f.row.take (max (bq f.row x).1 0).toNat++bz g x outs++f.row.drop (bq f.row x).2.1.toNat,f.pl++ [x]⟩):=by
  unfold j5;rw [if_neg OM,if_neg (by rw [hE];simp)]
 rw [hP]
 obtain ⟨a,b,ha,hb,hab,vQ⟩:=xe f.row x
 rw [ha,hb]
 simp only [Int.toNat_natCast]
 have Ir:outs.length≤128:=by
  have h1:=congrArg List.length hE
  rw [fR] at h1
  have h2:=BW (f:=(·.1)) (g:=g) (x:=x)
  omega
 have K0:∀i∈outs,0≤i∧i<g.es.length:=fun i hi=>(BZ (f:=(·.1)) (g:=g) (x:=x) (by rw [← hE];exact Am.2 hi)).1
 obtain ⟨h0,h1⟩:=vi (g:=g) (x:=x) (outs:=outs)
 have Et:(bz g x outs).length≤100000:=by omega
 have uf:f.row.length≤400000:=by omega
 have Q2:outs.length≤1000000:=by omega
 unfold oy BY
 (refine Spec.CT (C:=T.cfg [] []) (rs:= [.t 6, .t 7]) [(10002,42)] (T.ah _ _) Tryz.func89 rfl rfl Tryz.ntmps89 Tryz.results89 (by simp [AObj.isNest]) (by simp [AObj.isNest]) (by first|(simp [look];done)|(simp [asN];done)|(intro l hl;simp only [asN];repeat (rw [if_neg (fun e=>by subst e;simp [look] at hl)]))) (by first|(simp [look];done)|(simp [asN];done)|(intro l hl;simp only [asN];repeat (rw [if_neg (fun e=>by subst e;simp [look] at hl)]))) (by kernel_rfl) T.mixed fun X hX hP hC aB bK=> ?_)
 repeat' (first|refine Rn.p ?_|(with_reducible apply And.intro)|((first|(refine hK _ ?_;clear hK K)|with_reducible intro K hK|refine Rs.p ?_|((with_reducible first|apply oP|apply oQ);exact rfl)|(refine ai hX hC hP (pg g hm f x pM hp1) rfl rfl rfl ?_ ?_ ?_ ?_;iterate 3 (focus (simp only [go_sem,simprocAttr,hR,aC,ha,hb,kI,List.length_map,List.map_append,List.map_cons,List.map_nil,rI,oy,List.cons_append,List.nil_append,List.map_take,List.map_drop];done)))|(refine aJ hX hC hP [(10000,16)] (cR outs) rfl rfl rfl ?_ ?_ ?_ ?_ ?_ ?_ ?_ ?_ ?_ ?_ ?_ ?_ ?_ ?_;(focus (simp only [go_sem,simprocAttr,hR,aC,ha,hb,kI,List.length_map,List.map_append,List.map_cons,List.map_nil,rI,oy,List.cons_append,List.nil_append,List.map_take,List.map_drop];done));(iterate 12 (focus (simp [go_sem,simprocAttr,hR,aC,ha,hb,kI,List.length_map,List.map_append,List.map_cons,List.map_nil,rI,oy,List.cons_append,List.nil_append,List.map_take,List.map_drop];done)));try simp only [List.map_cons,List.map_nil])|(refine aP hX hC hP [(10000,16)] (cw outs ho) rfl rfl rfl ?_ ?_ ?_ ?_ ?_ ?_ rfl rfl ?_ ?_;(focus (simp only [go_sem,simprocAttr,hR,aC,ha,hb,kI,List.length_map,List.map_append,List.map_cons,List.map_nil,rI,oy,List.cons_append,List.nil_append,List.map_take,List.map_drop];done));(iterate 6 (focus (simp [go_sem,simprocAttr,hR,aC,ha,hb,kI,List.length_map,List.map_append,List.map_cons,List.map_nil,rI,oy,List.cons_append,List.nil_append,List.map_take,List.map_drop];done)));try simp only [List.map_cons,List.map_nil])|refine aa hX hC hP (jf g hm x) rfl rfl rfl (by simp only [go_sem,simprocAttr,hR,aC,ha,hb,kI,List.length_map,List.map_append,List.map_cons,List.map_nil,rI,oy,List.cons_append,List.nil_append,List.map_take,List.map_drop]) rfl ?_|refine aa hX hC hP (dU (iN outs) (bw (·.1) g x) hs) rfl rfl rfl (by simp only [go_sem,simprocAttr,hR,aC,ha,hb,kI,List.length_map,List.map_append,List.map_cons,List.map_nil,rI,oy,List.cons_append,List.nil_append,List.map_take,List.map_drop]) rfl ?_|(refine ai hX hC hP (ff [vw g,sI f.pl] f.row x pM) rfl rfl rfl ?_ ?_ ?_ ?_;iterate 3 (focus (simp only [go_sem,simprocAttr,hR,aC,ha,hb,kI,List.length_map,List.map_append,List.map_cons,List.map_nil,rI,oy,List.cons_append,List.nil_append,List.map_take,List.map_drop];done)))|(refine sj hX hC hP 54 (BX g ⟨f.row,f.pl++ [x]⟩ x outs Q2 K0) rfl rfl rfl ?_ ?_ (by first|exact ⟨_,_,_,rfl,xb⟩|exact ⟨_,_,_,rfl,xd⟩|exact ⟨_,_,_,rfl,xg⟩) rfl (by decide) ?_;(iterate 2 (focus (simp only [go_sem,simprocAttr,hR,aC,ha,hb,kI,List.length_map,List.map_append,List.map_cons,List.map_nil,rI,oy,List.cons_append,List.nil_append,List.map_take,List.map_drop];done)));simp only [go_sem,simprocAttr,hR,aC,ha,hb,kI,List.length_map,List.map_append,List.map_cons,List.map_nil,rI,oy,List.cons_append,List.nil_append,List.map_take,List.map_drop])|(refine aJ hX hC hP [(10001,42),(10003,54)] (Es g f.row (bz g x outs) (f.pl++ [x]) a b hab vQ h0 uf Et) rfl rfl rfl ?_ ?_ ?_ ?_ ?_ ?_ ?_ ?_ ?_ ?_ ?_ ?_ ?_ ?_;(focus (simp only [go_sem,simprocAttr,hR,aC,ha,hb,kI,List.length_map,List.map_append,List.map_cons,List.map_nil,rI,oy,List.cons_append,List.nil_append,List.map_take,List.map_drop];done));(iterate 12 (focus (simp [go_sem,simprocAttr,hR,aC,ha,hb,kI,List.length_map,List.map_append,List.map_cons,List.map_nil,rI,oy,List.cons_append,List.nil_append,List.map_take,List.map_drop];done)));try simp only [List.map_cons,List.map_nil]));try simp only [go_sem,simprocAttr,hR,aC,ha,hb,kI,List.length_map,List.map_append,List.map_cons,List.map_nil,rI,oy,List.cons_append,List.nil_append,List.map_take,List.map_drop])|((with_reducible refine oD ?_ ?_);kernel_rfl)|((with_reducible intro h);try simp only [go_sem,simprocAttr,hR,aC,ha,hb,kI,List.length_map,List.map_append,List.map_cons,List.map_nil,rI,oy,List.cons_append,List.nil_append,List.map_take,List.map_drop] at h)|omega|intro h)
end Go.Ab
end
section
namespace Go.Ab
open Go.Proofs
attribute [local congr] ACall.congr gd.congr Nx.congr
set_option maxRecDepth 10000
set_option maxHeartbeats 4000000
def K5 (g:Gr) (f:Fr) (k:Nat):List Int:=((List.range k).filter fun x:Nat=>gY g f (x:Int)).map Int.ofNat
def K6 (g:Gr) (f:Fr):List Int:=K5 g f g.n.toNat
theorem xh (g:Gr) (hl:g.es.length≤1000) (h0:(dD g).1=0) (hm:aX g=true):Spec Tryz.prog 87 (Args [eG g]) [] (.tup [.ptr 10000 0,eN 0]) [(10000, .box [.nil 92, .d (vw g), .nil 3])]:=by
 (refine Spec.CT (C:=T.cfg [] []) (rs:= [.t 2, .t 3]) [(10000,11)] (T.ah _ _) Tryz.func87 rfl rfl Tryz.ntmps87 Tryz.results87 (by simp [AObj.isNest]) (by simp [AObj.isNest]) (by first|(simp [look];done)|(simp [asN];done)|(intro l hl;simp only [asN];repeat (rw [if_neg (fun e=>by subst e;simp [look] at hl)]))) (by first|(simp [look];done)|(simp [asN];done)|(intro l hl;simp only [asN];repeat (rw [if_neg (fun e=>by subst e;simp [look] at hl)]))) (by kernel_rfl) T.mixed fun X hX hP hC aB bK=> ?_)
 repeat' (first|refine Rn.p ?_|(with_reducible apply And.intro)|((first|(refine hK _ ?_;clear hK K)|with_reducible intro K hK|refine Rs.p ?_|((with_reducible first|apply oP|apply oQ);exact rfl)|refine aa hX hC hP (js g hl) rfl rfl rfl (by simp only [go_sem,simprocAttr,h0]) rfl ?_|refine aa hX hC hP (iT g hm) rfl rfl rfl (by simp only [go_sem,simprocAttr,h0]) rfl ?_);try simp only [go_sem,simprocAttr,h0])|((with_reducible refine oD ?_ ?_);kernel_rfl)|((with_reducible intro h);try simp only [go_sem,simprocAttr,h0] at h)|omega|intro h)
theorem Eu (g:Gr) (hl:g.es.length≤1000) (h0:(dD g).1≠0):Spec Tryz.prog 87 (Args [eG g]) [] (.tup [.d (.sc (.pointer none)),eN 1]) []:=by
 have hb:decide ((dD g).1=0)=false:=decide_eq_false h0
 (refine Spec.hd (C:=T.cfg [] []) (rs:= [.t 2, .t 3]) (T.ah _ _) Tryz.func87 rfl rfl Tryz.ntmps87 Tryz.results87 (by simp [AObj.isNest]) (by simp [AObj.isNest]) (by kernel_rfl) T.mixed fun X hX hP hC aB bK=> ?_)
 repeat' (first|refine Rn.p ?_|(with_reducible apply And.intro)|((first|(refine hK _ ?_;clear hK K)|with_reducible intro K hK|refine Rs.p ?_|((with_reducible first|apply oP|apply oQ);exact rfl)|refine aa hX hC hP (js g hl) rfl rfl rfl (by simp only [go_sem,simprocAttr,hb]) rfl ?_);try simp only [go_sem,simprocAttr,hb])|((with_reducible refine oD ?_ ?_);kernel_rfl)|((with_reducible intro h);try simp only [go_sem,simprocAttr,hb] at h)|omega|intro h)
end Go.Ab
end
section
namespace Go.Ab
open Go.Proofs
attribute [local congr] ACall.congr gd.congr Nx.congr
set_option maxRecDepth 10000
set_option maxHeartbeats 4000000
def TM (g:Gr) (f:Fr):List AV:= [eN g.n, .d (sE g.es), .d (sT f.row), .d (sI f.pl)]
def iV (row:List It) (x:Int):Nat→Int
 |0=>0
 |k+1=>if (row.getD k (0,0,0)).2.2=x then iV row x k+1 else iV row x k
theorem hU {row:List It} {x:Int} {k:Nat} :iV row x (k+1)=if (row.getD k (0,0,0)).2.2=x then iV row x k+1 else iV row x k:=rfl
def G0 (row:List It) (x:Int) (need:Nat) (j:Nat):Bool:=decide ((row.getD j (0,0,0)).2.2≠x)&&decide (0≤(row.getD j (0,0,0)).1)&&decide (0<iV row x j)&&decide (iV row x j<need)
theorem xl {row:List It} {x:Int} {need j:Nat} :G0 row x need j=true↔((row.getD j (0,0,0)).2.2≠x∧0≤(row.getD j (0,0,0)).1)∧0<iV row x j∧iV row x j<need:=by
 simp only [G0,Bool.and_eq_true,decide_eq_true_eq,and_assoc]
def bM (g:Gr) (x:Int):Nat:=(aZ (·.2) g.es g.es.length x).length
def aK (g:Gr) (f:Fr) (x:Int):Bool:=
 if x<0∨g.n≤x∨x∈f.pl then false else if bM g x=0 then true else
 !(List.range f.row.length).any (G0 f.row x (bM g x))&&decide (iV f.row x f.row.length=bM g x)
end Go.Ab
end
section
namespace Go.Ab
open Go.Proofs
attribute [local congr] ACall.congr gd.congr Nx.congr
set_option maxRecDepth 10000
set_option maxHeartbeats 4000000
end Go.Ab
end
section
namespace Go.Ab
open Go.Proofs
attribute [local congr] ACall.congr gd.congr Nx.congr
set_option maxRecDepth 10000
set_option maxHeartbeats 8000000
def dG (g:Gr) (x:Int):List Int:=aZ (·.1) g.es g.es.length x
def aN (g:Gr) (f:Fr) (x:Int) (outs:List Int):(List It × Int) × Fr:=
 (((f.row.take (bq f.row x).2.1.toNat).drop (max (bq f.row x).1 0).toNat,0),⟨f.row.take (max (bq f.row x).1 0).toNat++bz g x outs++f.row.drop (bq f.row x).2.1.toNat,f.pl++ [x]⟩)
def iW (g:Gr) (f:Fr) (x:Int) (outs:List Int):(List It × Int) × Fr:=
 if aK g f x=false then (([],3),f) else
 if outs.length≠(dG g x).length∨∃i∈dG g x,i∉outs then (([],1),f) else aN g f x outs
theorem gj {f:Edge→Int} {es:List Edge} {k:Nat} {x:Int} :(aZ f es k x).Nodup:=by
 unfold aZ
 exact List.Pairwise.map _ (fun a b h e=>h (Int.ofNat.inj e)) (List.Pairwise.filter _ List.nodup_range)
theorem B3:∀ {ms os:List Int},ms.Nodup→(∀i∈ms,i∈os)→os.length=ms.length→∀i∈os,i∈ms
 | [],os,_,_,hl,i,hi=>by
   have:os= []:=List.eq_nil_of_length_eq_zero (by simpa using hl)
   rw [this] at hi;exact hi
 |m::ms,os,hn,hs,hl,i,hi=>by
  rw [List.nodup_cons] at hn
  have hm:=hs m (List.mem_cons_self ..)
  by_cases h:i=m
  ·rw [h];exact List.mem_cons_self ..
  ·refine List.mem_cons_of_mem _ (B3 hn.2 (os:=os.erase m) (fun j hj=> ?_) ?_ i ?_)
   ·have:j≠m:=fun e=>hn.1 (e ▸ hj)
    exact (List.mem_erase_of_ne this).2 (hs j (List.mem_cons_of_mem _ hj))
   ·rw [List.length_erase_of_mem hm,hl];simp
   ·exact (List.mem_erase_of_ne h).2 hi
theorem G1 {g:Gr} {x:Int} :(dG g x).length≤g.es.length:=je
end Go.Ab
end
section
namespace Go.Ab
open Go.Proofs
attribute [local congr] ACall.congr gd.congr Nx.congr
set_option maxRecDepth 10000
set_option maxHeartbeats 4000000
def vI (ls:List (List Int)):List (List D):=ls.map fun l=> [sI l]
theorem vI_length {ls:List (List Int)} :(vI ls).length=ls.length:=by simp [vI]
theorem nN {ls:List (List Int)} {k:Nat} (h:k<ls.length) (d:List D):(vI ls).getD k d= [sI (ls.getD k [])]:=by
 simp [vI,List.getD_eq_getElem?_getD,List.getElem?_eq_getElem h]
attribute [go_sem] vI_length
def C6 (l:List Int) (i:Nat):List Int:=l.take i++l.drop (i+1)
def IY:Nat→List Int→List (List Int)
 |0,_=> [[]]
 |n+1,l=>(List.range l.length).flatMap fun i=>(IY n (C6 l i)).map fun t=>l.getD i 0::t
def TN (n:Nat) (l:List Int) (k:Nat):List (List Int):=(List.range k).flatMap fun i=>(IY n (C6 l i)).map fun t=>l.getD i 0::t
def TO:Nat→Nat
 |0=>1
 |n+1=>(n+1)*TO n
end Go.Ab
end
section
namespace Go.Ab
open Go.Proofs
attribute [local congr] ACall.congr gd.congr Nx.congr
set_option maxRecDepth 10000
set_option maxHeartbeats 8000000
def NI (g:Gr):Nat→Fr→Bool
 |0,f=>decide ((f.pl.length:Int)=g.n)
 |m+1,f=>decide ((f.pl.length:Int)=g.n)||(List.range g.n.toNat).any fun x=>aK g f (x:Int)&&(IY (dG g (x:Int)).length (dG g (x:Int))).any fun o=>NI g m (aN g f (x:Int) o).2
def TP (g:Gr) (m:Nat) (f:Fr) (x:Nat):Bool:=aK g f (x:Int)&&(IY (dG g (x:Int)).length (dG g (x:Int))).any fun o=>NI g m (aN g f (x:Int) o).2
theorem Ev {g:Gr} {f:Fr} {x:Int} {o:List Int} :(aN g f x o).2.row.length≤f.row.length+o.length+1∧(aN g f x o).2.pl.length=f.pl.length+1:=by
 obtain ⟨a,b,ha,hb,hab,vQ⟩:=xe f.row x
 have:=vi (g:=g) (x:=x) (outs:=o)
 have e:aN g f x o=(((f.row.take b).drop a,0),⟨f.row.take a++bz g x o++f.row.drop b,f.pl++ [x]⟩):=by
  simp only [aN,ha,hb,Int.toNat_natCast]
 rw [e]
 refine ⟨?_,by simp⟩
 show (f.row.take a++bz g x o++f.row.drop b).length≤_
 rw [List.length_append,List.length_append,List.length_take,List.length_drop]
 omega
end Go.Ab
end
section
namespace Go.Ab
open Go.Proofs
attribute [local congr] ACall.congr gd.congr Nx.congr
set_option maxRecDepth 10000
set_option maxHeartbeats 4000000
end Go.Ab
end
section
namespace Go.Ab
open Go.Proofs
attribute [local congr] ACall.congr gd.congr Nx.congr
set_option maxRecDepth 10000
set_option maxHeartbeats 4000000
def g9:Gr:=⟨3, [(0,1),(0,2),(1,2)]⟩
def VA:Fr:=⟨[], []⟩
def VB:Fr:=⟨[(0,0,1),(1,0,2)], [0]⟩
def VC:Fr:=⟨[(2,1,2),(1,0,2)], [0,1]⟩
def VD:Fr:=⟨[(-1,2, -1)], [0,1,2]⟩
end Go.Ab
end
section
namespace Go.Ab
open Go.Proofs
set_option maxRecDepth 10000
def B4 (g:Gr) (t:It):Prop:=(t.1= -1∧t.2.2= -1)∨(0≤t.1∧t.1<g.es.length∧t.2.1=(g.es.getD t.1.toNat (0,0)).1∧t.2.2=(g.es.getD t.1.toNat (0,0)).2)
structure iO (g:Gr) (f:Fr):Prop where
 it:∀t∈f.row,B4 g t
 pl:f.pl.Nodup
 uV:∀x∈f.pl,0≤x∧x<g.n
theorem kJ {row:List It} {x:Int} :∀k:Nat,(gi row x k).2.2=iV row x k
 |0=>rfl
 |k+1=>by
  rw [o9,hU]
  split
  ·show (gi row x k).2.2+1=_
   rw [kJ k]
  ·exact kJ k
theorem rD {row:List It} {x:Int} {j:Nat} :∀d:Nat,iV row x j≤iV row x (j+d)
 |0=>Int.le_refl _
 |d+1=>by
  have:=rD (row:=row) (x:=x) (j:=j) d
  rw [← Nat.add_assoc,hU]
  split<;>omega
theorem kK {row:List It} {x:Int} :∀ {k:Nat},(∀j,j<k→(row.getD j (0,0,0)).2.2≠x)→iV row x k=0
 |0,_=>rfl
 |k+1,h=>by
  rw [hU,if_neg (h k (by omega))]
  exact kK fun j hj=>h j (by omega)
theorem rH {row:List It} {x:Int} {b:Nat} :∀ {d:Nat},(∀j,b≤j→j<b+d→(row.getD j (0,0,0)).2.2≠x)→iV row x (b+d)=iV row x b
 |0,_=>rfl
 |d+1,h=>by
  rw [← Nat.add_assoc,hU,if_neg (h (b+d) (by omega) (by omega))]
  exact rH fun j h1 h2=>h j h1 (by omega)
theorem ig {f:Edge→Int} {g:Gr} {x:Int} (h0:0≤x) (h1:x<g.n):bw f g x=aZ f g.es g.es.length x:=if_pos ⟨h0,h1⟩
theorem rJ {g:Gr} {e:Int} (h0:0≤e) (h1:e<g.es.length):0<bM g (g.es.getD e.toNat (0,0)).2:=by
 refine List.length_pos_iff.2 fun h=> ?_
 have hm:e∈aZ (·.2) g.es g.es.length (g.es.getD e.toNat (0,0)).2:=by
  simp only [aZ,List.mem_map,List.mem_filter,List.mem_range,decide_eq_true_eq]
  exact ⟨e.toNat,⟨by omega,rfl⟩,by simp;omega⟩
 rw [h] at hm;cases hm
theorem xm {row:List It} {p:It→Bool} {a b:Nat} (hb:b≤row.length):((row.take b).drop a).any p=true↔∃j,a≤j∧j<b∧p (row.getD j (0,0,0))=true:=by
 rw [List.any_eq_true]
 constructor
 ·rintro ⟨t,ht,hp⟩
  obtain ⟨k,hk,rfl⟩:=List.mem_iff_getElem.1 ht
  simp only [List.length_drop,List.length_take] at hk
  refine ⟨a+k,by omega,by omega, ?_⟩
  rw [List.getD_eq_getElem?_getD,List.getElem?_eq_getElem (show a+k<row.length by omega)]
  simpa using hp
 ·rintro ⟨j,h1,h2,hp⟩
  rw [List.getD_eq_getElem?_getD,List.getElem?_eq_getElem (show j<row.length by omega)] at hp
  refine ⟨row[j], ?_,hp⟩
  refine List.mem_iff_getElem.2 ⟨j - a,by simp;omega, ?_⟩
  simp only [List.getElem_drop,List.getElem_take]
  congr 1;omega
theorem B4.head {g:Gr} (hm:aX g=true) {t:It} (h:B4 g t):(0≤t.1↔t.2.2≠ -1)∧ -1≤t.2.2:=by
 rcases h with ⟨h1,h2⟩|⟨h1,h2,_,h4⟩
 ·omega
 ·obtain ⟨_,h5,_⟩:=dX hm (k:=t.1.toNat) (by omega)
  omega
theorem qw {g:Gr} (hm:aX g=true) {f:Fr} (hi:iO g f) (x:Int):gY g f x=aK g f x:=by
 by_cases hx:x<0∨g.n≤x∨x∈f.pl
 ·rw [gY,aK,if_pos hx,if_pos hx]
 rw [gY,aK,if_neg hx,if_neg hx]
 have hx0:0≤x∧x<g.n:=by
  constructor
  ·exact Int.not_lt.1 fun h=>hx (.inl h)
  ·exact Int.not_le.1 fun h=>hx (.inr (.inl h))
 have hmem:∀j,j<f.row.length→B4 g (f.row.getD j (0,0,0)):=fun j hj=>hi.it _ (aD hj)
 rw [ig hx0.1 hx0.2]
 have hN:(aZ (fun e=>e.2) g.es g.es.length x).length=bM g x:=rfl
 rw [hN]
 have K7:(bq f.row x).2.2=iV f.row x f.row.length:=kJ _
 by_cases h0:bM g x=0
 ·rw [if_pos h0,h0,decide_eq_true rfl,Bool.true_or,Bool.and_true,decide_eq_true_eq,K7,kK]
  ·rfl
  ·intro j hj he
   rcases hmem j hj with ⟨_,h2⟩|⟨h1,h2,_,h4⟩
   ·omega
   ·have:=rJ h1 h2
    rw [← h4,he] at this
    omega
 ·rw [if_neg h0,decide_eq_false h0,Bool.false_or,K7]
  generalize bM g x=need at h0
  rcases fH (row:=f.row) (x:=x) f.row.length with ⟨hs,hno⟩|⟨a,b,c,hs,hab,vQ,hc0,zf,ha,hb,hlo,hhi⟩
  ·rw [kK hno]
   have e1:decide ((0:Int)=(need:Int))=false:=decide_eq_false (by omega)
   rw [e1,Bool.false_and,Bool.and_false]
  ·have hs':bq f.row x=((a:Int),(b:Int),(c:Int)):=hs
   have H8:iV f.row x f.row.length=c:=by rw [← K7,hs']
   rw [hs',H8]
   simp only [Int.toNat_natCast]
   rw [Bool.and_comm]
   by_cases Ow:¬(c:Int)=need
   ·rw [decide_eq_false Ow,Bool.and_false,Bool.and_false]
   rw [Decidable.not_not] at Ow
   rw [decide_eq_true Ow,Bool.and_true,Bool.and_true,sM]
   congr 1
   rw [Bool.eq_iff_iff,xm vQ,List.any_eq_true]
   have ma:iV f.row x a=0:=kK hlo
   have VE:iV f.row x (a+1)=1:=by rw [hU,if_pos ha,ma];rfl
   have mb:iV f.row x b=need:=by
    have h:=rH (row:=f.row) (x:=x) (b:=b) (d:=f.row.length - b) fun j h1 h2=>hhi j h1 (by omega)
    rw [show b+(f.row.length - b)=f.row.length by omega,H8] at h
    omega
   have VF:iV f.row x (b - 1)+1=need:=by
    have h:=hU (row:=f.row) (x:=x) (k:=b - 1)
    rw [if_pos hb,show b - 1+1=b by omega,mb] at h
    omega
   constructor
   ·rintro ⟨j,h1,h2,hp⟩
    simp only [lQ,Bool.and_eq_true,decide_eq_true_eq] at hp
    have hja:j≠a:=fun e=>hp.1 (by rw [e];exact ha)
    have hjb:j≠b - 1:=fun e=>hp.1 (by rw [e];exact hb)
    have g1:=rD (row:=f.row) (x:=x) (j:=a+1) (j - (a+1))
    rw [show a+1+(j - (a+1))=j by omega] at g1
    have g2:=rD (row:=f.row) (x:=x) (j:=j) (b - 1 - j)
    rw [show j+(b - 1 - j)=b - 1 by omega] at g2
    exact ⟨j,List.mem_range.2 (by omega),xl.2 ⟨⟨hp.1,((hmem j (by omega)).head hm).1.2 hp.2⟩,by omega,by omega⟩⟩
   ·rintro ⟨j,hj,hl⟩
    have hj:=List.mem_range.1 hj
    obtain ⟨⟨h1,h2⟩,h3,h4⟩:=xl.1 hl
    refine ⟨j, ?_, ?_, ?_⟩
    ·refine Nat.not_lt.1 fun h=> ?_
     have:=kK (row:=f.row) (x:=x) (k:=j) fun i hi=>hlo i (by omega)
     omega
    ·refine Nat.not_le.1 fun h=> ?_
     have:=rH (row:=f.row) (x:=x) (b:=b) (d:=j - b) fun i h1 h2=>hhi i h1 (by omega)
     rw [show b+(j - b)=j by omega] at this
     omega
    ·simp only [lQ,Bool.and_eq_true,decide_eq_true_eq]
     exact ⟨h1,((hmem j hj).head hm).1.1 h2⟩
theorem yO:∀ {ms os:List Int},ms.Nodup→(∀i∈ms,i∈os)→os.length=ms.length→os.Perm ms
 | [],os,_,_,hl=>by
   have h:os= []:=List.eq_nil_of_length_eq_zero (by simpa using hl)
   rw [h]
 |m::ms,os,hn,hs,hl=>by
  rw [List.nodup_cons] at hn
  have hm:=hs m (List.mem_cons_self ..)
  refine (List.perm_cons_erase hm).trans (List.Perm.cons m (yO hn.2 (fun j hj=> ?_) ?_))
  ·have:j≠m:=fun e=>hn.1 (e ▸ hj)
   exact (List.mem_erase_of_ne this).2 (hs j (List.mem_cons_of_mem _ hj))
  ·rw [List.length_erase_of_mem hm,hl];simp
theorem sN {g:Gr} {x:Int} :(dG g x).Pairwise (· ≤ ·):=by
 unfold dG aZ
 refine List.Pairwise.map _ (fun a b (h:a<b)=> ?_) (List.Pairwise.filter _ List.pairwise_lt_range)
 show (a:Int)≤b
 omega
theorem vj {l m:List Int} (h:l.Perm m) (hm:m.Pairwise (· ≤ ·)):iN l=m:=by
 have h1:(iN l).Pairwise (· ≤ ·):=by
  have:=List.pairwise_mergeSort (le:=fun a b:Int=>decide (a≤b)) (by simp;omega) (by simp;omega) l
  simpa [iN] using this
 have h2:(iN l).Perm m:=(by unfold iN;exact (List.mergeSort_perm l _).trans h)
 exact h2.eq_of_pairwise (fun a b _ _ h1 h2=>Int.le_antisymm h1 h2) h1 hm
theorem aT {g:Gr} {f:Fr} {x:Int} (h:aK g f x=true):0≤x∧x<g.n∧x∉f.pl:=by
 unfold aK at h
 by_cases hx:x<0∨g.n≤x∨x∈f.pl
 ·rw [if_pos hx] at h;cases h
 ·exact ⟨Int.not_lt.1 fun h=>hx (.inl h),Int.not_le.1 fun h=>hx (.inr (.inl h)),fun h=>hx (.inr (.inr h))⟩
theorem G2 {g:Gr} (hm:aX g=true) {f:Fr} (hi:iO g f) (x:Int) (outs:List Int):j5 g f x outs=iW g f x outs:=by
 rw [j5,iW,qw hm hi]
 cases hR:aK g f x with
 |false=>rw [if_pos rfl,if_pos rfl]
 |true=>
  obtain ⟨h0,h1,h2⟩:=aT hR
  have ht:¬(true=false):=by simp
  rw [if_neg ht,if_neg ht,ig h0 h1]
  show (if iN outs≠dG g x then _ else aN g f x outs)=_
  by_cases hs:iN outs=dG g x
  ·rw [if_neg (fun h=>h hs),if_neg]
   rintro (h|⟨i,h3,h4⟩)
   ·exact h (by rw [← hs,fR])
   ·exact h4 (Am.1 (hs ▸ h3))
  ·rw [if_pos hs,if_pos]
   refine Decidable.byContradiction fun h=>hs ?_
   have hl:outs.length=(dG g x).length:=Decidable.byContradiction fun e=>h (.inl e)
   exact vj (yO gj (fun i hi=>Decidable.byContradiction fun e=>h (.inr ⟨i,hi,e⟩)) hl) sN
theorem G3 {g:Gr} {x:Int} {outs:List Int} (ho:∀i∈outs,i∈dG g x):∀t∈bz g x outs,B4 g t:=by
 intro t ht
 unfold bz at ht
 split at ht
 ·rw [List.mem_singleton] at ht
  rw [ht];exact .inl ⟨rfl,rfl⟩
 ·obtain ⟨i,hi,rfl⟩:=List.mem_map.1 ht
  obtain ⟨⟨h1,h2⟩,h3⟩:=gZ (ho i hi)
  exact .inr ⟨h1,h2,h3.symm,rfl⟩
theorem G4 {g:Gr} {f:Fr} (hi:iO g f) {x:Int} (hR:aK g f x=true) {outs:List Int} (ho:∀i∈outs,i∈dG g x):iO g (aN g f x outs).2:=by
 obtain ⟨h0,h1,h2⟩:=aT hR
 refine ⟨fun t ht=> ?_, ?_,fun y hy=> ?_⟩
 ·simp only [aN,List.mem_append] at ht
  rcases ht with (ht|ht)|ht
  ·exact hi.it t (List.mem_of_mem_take ht)
  ·exact G3 ho t ht
  ·exact hi.it t (List.mem_of_mem_drop ht)
 ·show (f.pl++ [x]).Nodup
  rw [List.nodup_append]
  refine ⟨hi.pl,by simp,fun a ha b hb e=>h2 ?_⟩
  rw [List.mem_singleton] at hb
  rw [← hb, ← e];exact ha
 ·have hy:y∈f.pl++ [x]:=hy
  rcases List.mem_append.1 hy with h|h
  ·exact hi.uV y h
  ·rw [List.mem_singleton] at h
   rw [h];exact ⟨h0,h1⟩
end Go.Ab
end
section
namespace Go.Ab
open Go.Proofs
set_option maxRecDepth 10000
def mA (x:Int) (t:It):Bool:=decide (t.2.2=x)
structure Ew (x:Int) (X:List It):Prop where
 fst:∃p X',X=p::X'∧p.2.2=x
 IZ:∃X' q,X=X'++ [q]∧q.2.2=x
 al:∀t∈X,t.2.2=x∨t.2.2= -1
def gK (x:Int) (l:List It):Prop:=∀t∈l,t.2.2≠x
theorem gK.app {x:Int} {l m:List It} (h:gK x l) (h':gK x m):gK x (l++m):=fun t ht=>(List.mem_append.1 ht).elim (h t) (h' t)
theorem gK.left {x:Int} {l m:List It} (h:gK x (l++m)):gK x l:=fun t ht=>h t (List.mem_append.2 (.inl ht))
theorem gK.right {x:Int} {l m:List It} (h:gK x (l++m)):gK x m:=fun t ht=>h t (List.mem_append.2 (.inr ht))
theorem Ew.Sh {x y:Int} {X:List It} (h:Ew x X) (hxy:x≠y) (hy:0≤y):gK y X:=fun t ht e=>by
 rcases h.al t ht with h1|h1<;>omega
theorem lR {row:List It} {x:Int} :∀ {k:Nat},k≤row.length→iV row x k=((row.take k).countP (mA x):Nat)
 |0,_=>by simp [iV]
 |k+1,h=>by
  rw [hU,lR (k:=k) (by omega),List.take_add_one,List.getElem?_eq_getElem (show k<row.length by omega),List.countP_append]
  simp only [Option.toList,List.countP_cons,List.countP_nil,mA,decide_eq_true_eq,List.getD_eq_getElem?_getD,List.getElem?_eq_getElem (show k<row.length by omega),Option.getD_some]
  split<;>simp
theorem Ex {A X C:List It} {p:It} {X':List It} (h:X=p::X'):(A++X++C).getD A.length (0,0,0)=p:=by
 subst h;simp [List.getD_eq_getElem?_getD]
theorem Ey {A X C:List It} {q:It} {X':List It} (h:X=X'++ [q]):(A++X++C).getD (A.length+X.length - 1) (0,0,0)=q:=by
 subst h
 have e:A.length+(X'++ [q]).length - 1=(A++X').length:=by simp
 rw [e,show A++(X'++ [q])++C=(A++X')++([q]++C) by simp]
 simp [List.getD_eq_getElem?_getD]
theorem Ez {A L:List It} {j:Nat} (h:j<A.length):(A++L).getD j (0,0,0)∈A:=by
 rw [List.getD_eq_getElem?_getD,List.getElem?_append_left h,List.getElem?_eq_getElem h]
 exact List.getElem_mem h
theorem EA {A L:List It} {j:Nat} (h:A.length≤j) (h':j<(A++L).length):(A++L).getD j (0,0,0)∈L:=by
 rw [List.length_append] at h'
 rw [List.getD_eq_getElem?_getD,List.getElem?_append_right h,List.getElem?_eq_getElem (by omega)]
 exact List.getElem_mem _
theorem C7 {A X C:List It} {x:Int} (hA:gK x A) (hC:gK x C) (hX:Ew x X):
 (bq (A++X++C) x).1=(A.length:Int)∧(bq (A++X++C) x).2.1=((A.length+X.length:Nat):Int)∧(bq (A++X++C) x).2.2=(X.countP (mA x):Nat):=by
 have DR:(bq (A++X++C) x).2.2=(X.countP (mA x):Nat):=by
  unfold bq
  rw [kJ,lR (Nat.le_refl _),List.take_length,List.countP_append,List.countP_append]
  have h1:A.countP (mA x)=0:=List.countP_eq_zero.2 fun t ht=>by simp [mA,hA t ht]
  have h2:C.countP (mA x)=0:=List.countP_eq_zero.2 fun t ht=>by simp [mA,hC t ht]
  rw [h1,h2];simp
 obtain ⟨p,X',e1,hp⟩:=hX.fst
 obtain ⟨VG,q,e2,hq⟩:=hX.IZ
 have g1:=Ex (A:=A) (C:=C) e1
 have g2:=Ey (A:=A) (C:=C) e2
 have NJ:0<X.length:=by rw [e1];simp
 have hlen:(A++X++C).length=A.length+X.length+C.length:=by simp;omega
 rcases fH (row:=A++X++C) (x:=x) (A++X++C).length with ⟨_,hno⟩|⟨a,b,c,hs,hab,vQ,hc0,zf,ha,hb,hlo,hhi⟩
 ·exact absurd (by rw [g1];exact hp) (hno A.length (by omega))
 ·have hs':bq (A++X++C) x=((a:Int),(b:Int),(c:Int)):=hs
  refine ⟨?_, ?_,DR⟩
  ·rw [hs']
   have h1:¬A.length<a:=fun h=>hlo _ h (by rw [g1];exact hp)
   have h2:¬a<A.length:=fun h=>hA _ (by have:=Ez (L:=X++C) h;rw [← List.append_assoc] at this;exact this) ha
   simp only;omega
  ·rw [hs']
   have h1:¬b<A.length+X.length:=fun h=>hhi (A.length+X.length - 1) (by omega) (by omega) (by rw [g2];exact hq)
   have h2:¬A.length+X.length<b:=fun h=>hC _ (EA (A:=A++X) (j:=b - 1) (by simp;omega) (by omega)) hb
   simp only;omega
theorem vk {g:Gr} (hm:aX g=true) {f:Fr} (hi:iO g f) {A X C:List It} {x:Int} (h0:0≤x) (h1:x<g.n) (hp:x∉f.pl) (hr:f.row=A++X++C) (hA:gK x A) (hC:gK x C) (hX:Ew x X)
 (hc:X.countP (mA x)=bM g x):aK g f x=true:=by
 rw [← qw hm hi,gY,if_neg (by rintro (h|h|h);omega;omega;exact hp h)]
 obtain ⟨e1,e2,e3⟩:=C7 hA hC hX
 rw [hr,e1,e2,e3,ig h0 h1,Bool.and_eq_true,decide_eq_true_eq]
 refine ⟨by rw [hc];rfl, ?_⟩
 rw [Bool.or_eq_true];right
 simp only [sM,Int.toNat_natCast]
 rw [List.take_append_of_le_length (by simp),List.take_of_length_le (by simp),List.drop_left,Bool.not_eq_true',List.any_eq_false]
 intro t ht
 simp only [lQ,Bool.and_eq_true,decide_eq_true_eq]
 rcases hX.al t ht with h|h<;>simp [h]
theorem cm {g:Gr} (hm:aX g=true) {f:Fr} (hi:iO g f) {x:Int} (hR:aK g f x=true) (hn:bM g x≠0):
 ∃A X C,f.row=A++X++C∧gK x A∧gK x C∧Ew x X∧X.countP (mA x)=bM g x:=by
 obtain ⟨h0,h1,h2⟩:=aT hR
 rw [← qw hm hi,gY,if_neg (by rintro (h|h|h);omega;omega;exact h2 h),ig h0 h1,Bool.and_eq_true,decide_eq_true_eq] at hR
 have hN:(aZ (fun e=>e.2) g.es g.es.length x).length=bM g x:=rfl
 rw [hN,decide_eq_false hn,Bool.false_or] at hR
 obtain ⟨hc,hb⟩:=hR
 have DR:(f.row.countP (mA x):Int)=bM g x:=by
  rw [← hc];unfold bq
  rw [kJ,lR (Nat.le_refl _),List.take_length]
 rcases fH (row:=f.row) (x:=x) f.row.length with ⟨hs,hno⟩|⟨a,b,c,hs,hab,vQ,hc0,zf,ha,hb',hlo,hhi⟩
 ·have:bq f.row x=(-1,0,0):=hs
  rw [this] at hc
  exfalso;simp only at hc;omega
 ·have hs':bq f.row x=((a:Int),(b:Int),(c:Int)):=hs
  rw [hs'] at hb
  simp only [Int.toNat_natCast] at hb
  have hA:gK x (f.row.take a):=fun t ht=>by
   obtain ⟨j,hj,rfl⟩:=List.mem_iff_getElem.1 ht
   simp only [List.length_take] at hj
   have:=hlo j (by omega)
   rw [List.getD_eq_getElem?_getD,List.getElem?_eq_getElem (show j<f.row.length by omega)] at this
   simpa using this
  have hC:gK x (f.row.drop b):=fun t ht=>by
   obtain ⟨j,hj,rfl⟩:=List.mem_iff_getElem.1 ht
   simp only [List.length_drop] at hj
   have:=hhi (b+j) (by omega) (by omega)
   rw [List.getD_eq_getElem?_getD,List.getElem?_eq_getElem (show b+j<f.row.length by omega)] at this
   simpa using this
  have hrow:f.row=f.row.take a++(f.row.take b).drop a++f.row.drop b:=by
   have e1:f.row.take a=(f.row.take b).take a:=by rw [List.take_take,Nat.min_eq_left (by omega)]
   rw [e1,List.take_append_drop,List.take_append_drop]
  refine ⟨f.row.take a,(f.row.take b).drop a,f.row.drop b,hrow,hA,hC,⟨?_, ?_, ?_⟩, ?_⟩
  ·refine ⟨f.row.getD a (0,0,0),(f.row.take b).drop (a+1), ?_,ha⟩
   rw [List.drop_eq_getElem_cons (by simp;omega)]
   congr 1
   rw [List.getD_eq_getElem?_getD,List.getElem?_eq_getElem (show a<f.row.length by omega)]
   simp
  ·refine ⟨(f.row.take (b - 1)).drop a,f.row.getD (b - 1) (0,0,0), ?_,hb'⟩
   have e:f.row.take b=f.row.take (b - 1)++ [f.row.getD (b - 1) (0,0,0)]:=by
    conv=>lhs;rw [show b=b - 1+1 by omega]
    rw [List.take_add_one,List.getD_eq_getElem?_getD,List.getElem?_eq_getElem (show b - 1<f.row.length by omega)]
    rfl
   rw [e,List.drop_append_of_le_length (by simp;omega)]
  ·intro t ht
   rw [sM,Bool.not_eq_true',List.any_eq_false] at hb
   have:=hb t ht
   simp only [lQ,Bool.and_eq_true,decide_eq_true_eq,not_and] at this
   by_cases h:t.2.2=x
   ·exact .inl h
   ·exact .inr (Decidable.byContradiction fun h'=>this h h')
  ·have h1:(f.row.take a).countP (mA x)=0:=List.countP_eq_zero.2 fun t ht=>by simp [mA,hA t ht]
   have h2:(f.row.drop b).countP (mA x)=0:=List.countP_eq_zero.2 fun t ht=>by simp [mA,hC t ht]
   rw [hrow,List.countP_append,List.countP_append,h1,h2] at DR
   omega
theorem iw {g:Gr} {f:Fr} {A X C:List It} {x:Int} (o:List Int) (hr:f.row=A++X++C) (hA:gK x A) (hC:gK x C) (hX:Ew x X):
 aN g f x o=((X,0),⟨A++bz g x o++C,f.pl++ [x]⟩):=by
 obtain ⟨e1,e2,e3⟩:=C7 hA hC hX
 have e4:max (A.length:Int) 0=(A.length:Int):=by omega
 unfold aN
 rw [hr,e1,e2,e4,Int.toNat_natCast,Int.toNat_natCast]
 rw [List.take_append_of_le_length (show A.length+X.length≤(A++X).length by simp),List.take_of_length_le (show (A++X).length≤A.length+X.length by simp),List.drop_left]
 rw [show (A++X++C).take A.length=A by rw [List.append_assoc,List.take_left]]
 rw [show (A++X++C).drop (A.length+X.length)=C by rw [← List.length_append,List.drop_left]]
theorem jg {g:Gr} {f:Fr} {x:Int} (o:List Int) (hr:gK x f.row):aN g f x o=(([],0),⟨bz g x o++f.row,f.pl++ [x]⟩):=by
 have hs:bq f.row x=(-1,0,0):=by
  rcases fH (row:=f.row) (x:=x) f.row.length with ⟨hs,_⟩|⟨a,b,c,hs,hab,vQ,hc0,zf,ha,hb',hlo,hhi⟩
  ·exact hs
  ·exact absurd ha (hr _ (aD (by omega)))
 have e4:max (-1:Int) 0=0:=by omega
 unfold aN
 rw [hs]
 simp [e4]
end Go.Ab
end
section
namespace Go.Ab
open Go.Proofs
set_option maxRecDepth 10000
structure An (g:Gr) (f:Fr):Prop extends iO g f where
 tail:∀t∈f.row,0≤t.1→t.2.1∈f.pl
 head:∀t∈f.row,0≤t.1→t.2.2∉f.pl
 once:f.row.Pairwise fun s t=>0≤s.1→s.1≠t.1
 low:∀i,i<g.es.length→hd g i∈f.pl→tl g i∈f.pl
 src:(f.pl= []∧f.row= [])∨∃s∈f.pl,bM g s=0
theorem C8 (g:Gr):An g ⟨[], []⟩:=
 {it:=by simp,pl:=by simp,uV:=by simp,tail:=by simp,head:=by simp,once:=by simp,low:=by simp,src:= .inl ⟨rfl,rfl⟩}
theorem B5 {g:Gr} (hm:aX g=true) {f:Fr} (hi:An g f) {x:Int} (hR:aK g f x=true) {i:Nat} (hl:i<g.es.length) (hx:hd g i=x):∃t∈f.row,t.1=i∧t.2.1=tl g i∧t.2.2=x:=by
 have hn:bM g x≠0:=by
  have:=rJ (g:=g) (e:=(i:Int)) (by omega) (by omega)
  rw [Int.toNat_natCast,show (g.es.getD i (0,0)).2=x from hx] at this
  omega
 obtain ⟨A,X,C,hr,hA,hC,hX,hc⟩:=cm hm hi.toiO hR hn
 have hN:(aZ (fun e=>e.2) g.es g.es.length x).length=bM g x:=rfl
 have hok:∀t∈f.row,t.2.2=x→0≤t.1∧t.1<g.es.length∧t.2.1=(g.es.getD t.1.toNat (0,0)).1∧t.2.2=(g.es.getD t.1.toNat (0,0)).2:=fun t ht he=>by
  rcases hi.it t ht with ⟨_,h2⟩|h
  ·have:=(aT hR).1;omega
  ·exact h
 have hmem:∀t∈X,t∈f.row:=fun t ht=>by rw [hr];simp [ht]
 have JT:=yO (ms:=(X.filter (mA x)).map (·.1)) (os:=aZ (fun e=>e.2) g.es g.es.length x)
 have key:∀i∈aZ (fun e=>e.2) g.es g.es.length x,i∈(X.filter (mA x)).map (·.1):=by
  refine B3 (ms:=(X.filter (mA x)).map (·.1)) (os:=aZ (fun e=>e.2) g.es g.es.length x) ?_ ?_ ?_
  ·have h1:X.Pairwise fun s t=>0≤s.1→s.1≠t.1:=by
    have:=hi.once
    rw [hr,List.pairwise_append,List.pairwise_append] at this
    exact this.1.2.1
   have h2:=h1.filter (mA x)
   rw [List.Nodup,List.pairwise_map]
   refine h2.imp_of_mem fun {a b} ha hb h=>h ?_
   obtain ⟨ha1,ha2⟩:=List.mem_filter.1 ha
   exact (hok a (hmem a ha1) (by simpa [mA] using ha2)).1
  ·intro e he
   obtain ⟨t,ht,rfl⟩:=List.mem_map.1 he
   obtain ⟨ht1,ht2⟩:=List.mem_filter.1 ht
   have ht2:t.2.2=x:=by simpa [mA] using ht2
   obtain ⟨h1,h2,h3,h4⟩:=hok t (hmem t ht1) ht2
   simp only [aZ,List.mem_map,List.mem_filter,List.mem_range,decide_eq_true_eq]
   exact ⟨t.1.toNat,⟨by omega,by rw [← h4];exact ht2⟩,by simp;omega⟩
  ·rw [hN, ← hc,List.length_map,List.countP_eq_length_filter]
 have hie:(i:Int)∈aZ (fun e=>e.2) g.es g.es.length x:=by
  simp only [aZ,List.mem_map,List.mem_filter,List.mem_range,decide_eq_true_eq]
  exact ⟨i,⟨hl,hx⟩,rfl⟩
 obtain ⟨t,ht,he⟩:=List.mem_map.1 (key _ hie)
 obtain ⟨ht1,ht2⟩:=List.mem_filter.1 ht
 have ht2:t.2.2=x:=by simpa [mA] using ht2
 obtain ⟨h1,h2,h3,h4⟩:=hok t (hmem t ht1) ht2
 refine ⟨t,hmem t ht1,he, ?_,ht2⟩
 rw [h3,he,Int.toNat_natCast];rfl
theorem ij {g:Gr} (hm:aX g=true) {f:Fr} (hi:iO g f) {x:Int} (h0:0≤x) (hn:bM g x=0):gK x f.row:=by
 intro t ht he
 rcases hi.it t ht with ⟨_,h2⟩|⟨h1,h2,_,h4⟩
 ·omega
 ·have:=rJ h1 h2
  rw [← h4,he] at this
  omega
theorem vl {g:Gr} (hm:aX g=true) {f:Fr} (hi:iO g f) {x:Int} (hR:aK g f x=true):
 ∃A X C,f.row=A++X++C∧gK x A∧gK x C∧(∀t∈X,t.2.2=x∨t.2.2= -1)∧∀o,aN g f x o=((X,0),⟨A++bz g x o++C,f.pl++ [x]⟩):=by
 by_cases hn:bM g x=0
 ·have h:=ij hm hi (aT hR).1 hn
  exact ⟨[], [],f.row,by simp,fun t ht=>(by cases ht),h,fun t ht=>(by cases ht),fun o=>by rw [jg o h];simp⟩
 ·obtain ⟨A,X,C,hr,hA,hC,hX,_⟩:=cm hm hi hR hn
  exact ⟨A,X,C,hr,hA,hC,hX.al,fun o=>iw o hr hA hC hX⟩
theorem G5 {g:Gr} {x i:Int} (h:i∈dG g x):∃k:Nat,i=k∧k<g.es.length∧tl g k=x:=by
 obtain ⟨⟨h1,h2⟩,h3⟩:=gZ h
 exact ⟨i.toNat,by omega,by omega,h3⟩
theorem kL {g:Gr} {x:Int} {o:List Int} (ho:∀i∈o,i∈dG g x) {t:It} (h:t∈bz g x o):(t.1= -1∧t.2.2= -1)∨∃k:Nat,k<g.es.length∧t.1=k∧t.2.1=x∧t.2.2=hd g k∧tl g k=x∧t.1∈o:=by
 unfold bz at h
 split at h
 ·rw [List.mem_singleton] at h
  rw [h];exact .inl ⟨rfl,rfl⟩
 ·obtain ⟨i,Si,rfl⟩:=List.mem_map.1 h
  obtain ⟨k,rfl,h1,h2⟩:=G5 (ho i Si)
  exact .inr ⟨k,h1,rfl,rfl,by simp [qv];rfl,h2,Si⟩
theorem rK {g:Gr} (hm:aX g=true) {f:Fr} (hi:An g f) {x y:Int} (hx:x∉f.pl) (hR:aK g f y=true) {o:List Int} (ho:∀i∈o,i∈dG g x):gK y (bz g x o):=by
 intro t ht he
 rcases kL ho ht with ⟨_,h⟩|⟨k,h1,h2,h3,h4,h5,_⟩
 ·have:=(aT hR).1;omega
 ·obtain ⟨s,hs,e1,e2,e3⟩:=B5 hm hi hR h1 (by rw [← h4];exact he)
  refine hx ?_
  rw [← h5, ← e2]
  exact hi.tail s hs (by omega)
theorem kM {g:Gr} (hm:aX g=true) {f:Fr} (hi:An g f) {x:Int} (hR:aK g f x=true) {o:List Int} (ho:o.Perm (dG g x)):An g (aN g f x o).2:=by
 have K0:∀i∈o,i∈dG g x:=fun i h=>ho.mem_iff.1 h
 have hx:=(aT hR).2.2
 have h0:=G4 hi.toiO hR K0
 obtain ⟨A,X,C,hr,hA,hC,hX,hs⟩:=vl hm hi.toiO hR
 have ez:(aN g f x o).2.pl=f.pl++ [x]:=rfl
 have hrow:(aN g f x o).2.row=A++bz g x o++C:=by rw [hs o]
 have Q3:∀t∈A,t∈f.row:=fun t ht=>by rw [hr];simp [ht]
 have Q4:∀t∈C,t∈f.row:=fun t ht=>by rw [hr];simp [ht]
 have NK:=rK hm hi hx hR K0
 refine {toiO:=h0,tail:= ?_,head:= ?_,once:= ?_,low:= ?_,src:= .inr ?_}
 ·intro t ht h1
  rw [ez]
  rw [hrow,List.mem_append,List.mem_append] at ht
  rcases ht with (ht|ht)|ht
  ·exact List.mem_append_left _ (hi.tail t (Q3 t ht) h1)
  ·rcases kL K0 ht with ⟨h,_⟩|⟨k,_,_,h3,_⟩
   ·omega
   ·rw [h3];simp
  ·exact List.mem_append_left _ (hi.tail t (Q4 t ht) h1)
 ·intro t ht h1
  rw [ez,List.mem_append,List.mem_singleton]
  rw [hrow,List.mem_append,List.mem_append] at ht
  rcases ht with (ht|ht)|ht
  ·rintro (h|h)
   ·exact hi.head t (Q3 t ht) h1 h
   ·exact hA t ht h
  ·rintro (h|h)
   ·rcases kL K0 ht with ⟨h',_⟩|⟨k,hk,_,_,h4,h5,_⟩
    ·omega
    ·rw [h4] at h
     have:=hi.low k hk h
     rw [h5] at this;exact hx this
   ·exact NK t ht h
  ·rintro (h|h)
   ·exact hi.head t (Q4 t ht) h1 h
   ·exact hC t ht h
 ·have vO:=hi.once
  rw [hr,List.pairwise_append,List.pairwise_append] at vO
  obtain ⟨⟨TQ,_,_⟩,TR,Q5⟩:=vO
  have old:∀s∈f.row,0≤s.1→∀t∈bz g x o,s.1≠t.1:=fun s hs h1 t ht e=>by
   rcases kL K0 ht with ⟨h,_⟩|⟨k,hk,h2,h3,h4,h5,_⟩
   ·omega
   ·rcases hi.it s hs with ⟨h,_⟩|⟨_,_,h6,_⟩
    ·omega
    ·have:=hi.tail s hs h1
     rw [h6,e,h2,Int.toNat_natCast] at this
     exact hx (h5 ▸ this)
  rw [hrow,List.pairwise_append,List.pairwise_append]
  refine ⟨⟨TQ, ?_,fun s hs t ht h1=>old s (Q3 s hs) h1 t ht⟩,TR, ?_⟩
  ·unfold bz
   split
   ·simp
   ·refine List.pairwise_map.2 ((ho.nodup_iff.2 gj).imp fun {i j} (h:i≠j) _=> ?_)
    exact h
  ·intro s hs t ht h1
   rcases List.mem_append.1 hs with hs|hs
   ·exact Q5 s (List.mem_append_left _ hs) t ht h1
   ·intro e
    exact old t (Q4 t ht) (by omega) s hs e.symm
 ·intro i hl h
  rw [ez,List.mem_append,List.mem_singleton] at h ⊢
  left
  rcases h with h|h
  ·exact hi.low i hl h
  ·obtain ⟨t,ht,e1,e2,_⟩:=B5 hm hi hR hl h
   rw [← e2]
   exact hi.tail t ht (by omega)
 ·rcases hi.src with ⟨h1,h2⟩|⟨s,hs,h⟩
  ·refine ⟨x,by rw [ez];simp, ?_⟩
   refine Decidable.byContradiction fun hn=> ?_
   obtain ⟨A,X,C,hr,_,_,hX,_⟩:=cm hm hi.toiO hR hn
   obtain ⟨p,X',e,_⟩:=hX.fst
   rw [h2,e] at hr
   simp at hr
  ·exact ⟨s,by rw [ez];simp [hs],h⟩
theorem apart {x y:Int} (hx:0≤x) (hy:0≤y) (hxy:x≠y) {A X C B Y D:List It} (h:A++X++C=B++Y++D) (hX:Ew x X) (hY:Ew y Y):
 (∃M,B=A++X++M∧C=M++Y++D)∨(∃M,A=B++Y++M∧D=M++X++C):=by
 obtain ⟨p,X',K8,hp⟩:=hX.fst
 obtain ⟨q,Y',TS,hq⟩:=hY.fst
 have nX:q∉X:=fun h=>hX.Sh hxy hy q h hq
 have nY:p∉Y:=fun h=>hY.Sh (Ne.symm hxy) hx p h hp
 rw [show B++Y++D=B++(Y++D) by simp,List.append_eq_append_iff] at h
 rcases h with ⟨es,h1,h2⟩|⟨cs,h1,h2⟩
 ·exact .inl ⟨es,h1,by rw [h2];simp⟩
 ·match cs,h1,h2 with
  | [],h1,h2=>exact .inl ⟨[],by simpa using h1.symm,by simpa using h2.symm⟩
  |c::cs,h1,h2=>
   have TT:c=q:=by rw [TS] at h2;simp at h2;exact h2.1.symm
   rw [List.append_eq_append_iff] at h1
   rcases h1 with ⟨es,h3,h4⟩|⟨ds,h3,h4⟩
   ·exfalso;refine nX ?_
    rw [h4, ← TT];simp
   ·rw [h4,List.append_assoc,List.append_eq_append_iff] at h2
    rcases h2 with ⟨es,h5,h6⟩|⟨bs,h5,h6⟩
    ·exact .inr ⟨es,by rw [h3,h5];simp,by rw [h6];simp⟩
    ·match bs,h5,h6 with
     | [],h5,h6=>exact .inr ⟨[],by rw [h3,h5];simp,by simpa using h6.symm⟩
     |b::bs,h5,h6=>
      exfalso;refine nY ?_
      have TU:b=p:=by rw [K8] at h6;simp at h6;exact h6.1.symm
      rw [h5, ← TU];simp
theorem Ao {g:Gr} (hm:aX g=true) {f:Fr} (hi:An g f) {x y:Int} (hxy:x≠y) (C9:aK g f x=true) (xo:aK g f y=true)
 {a b:List Int} (ha:a.Perm (dG g x)) (hb:b.Perm (dG g y)) {A X M Y D:List It} (hr:f.row=A++X++M++Y++D) (hX:Ew x X) (hY:Ew y Y)
 (cX:X.countP (mA x)=bM g x) (cY:Y.countP (mA y)=bM g y)
 (nA:gK x A) (nC:gK x (M++Y++D)) (nB:gK y (A++X++M)) (nD:gK y D):
 aK g (aN g f x a).2 y=true∧aK g (aN g f y b).2 x=true∧(aN g (aN g f x a).2 y b).2.row=(aN g (aN g f y b).2 x a).2.row∧
 (aN g f x a).1=(aN g (aN g f y b).2 x a).1∧(aN g f y b).1=(aN g (aN g f x a).2 y b).1:=by
 obtain ⟨x0,x1,x2⟩:=aT C9
 obtain ⟨y0,y1,y2⟩:=aT xo
 have i1:=(kM hm hi C9 ha).toiO
 have i2:=(kM hm hi xo hb).toiO
 have ux:=rK hm hi x2 xo (fun i h=>ha.mem_iff.1 h)
 have uy:=rK hm hi y2 C9 (fun i h=>hb.mem_iff.1 h)
 have r1:f.row=A++X++(M++Y++D):=by rw [hr];simp
 have r2:f.row=(A++X++M)++Y++D:=by rw [hr]
 have e1:=iw (g:=g) a r1 nA nC hX
 have e2:=iw (g:=g) b r2 nB nD hY
 rw [e1] at i1 ⊢;rw [e2] at i2 ⊢
 have r3:A++bz g x a++(M++Y++D)=(A++bz g x a++M)++Y++D:=by simp
 have r4:A++X++M++bz g y b++D=A++X++(M++bz g y b++D):=by simp
 have n3:gK y (A++bz g x a++M):=((nB.left.left).app ux).app nB.right
 have n4:gK x (M++bz g y b++D):=(nC.left.left.app uy).app nC.right
 have e3:=iw (g:=g) (f:=⟨A++bz g x a++(M++Y++D),f.pl++ [x]⟩) b r3 n3 nD hY
 have e4:=iw (g:=g) (f:=⟨A++X++M++bz g y b++D,f.pl++ [y]⟩) a r4 nA n4 hX
 refine ⟨vk hm i1 y0 y1 ?_ r3 n3 nD hY cY,vk hm i2 x0 x1 ?_ r4 nA n4 hX cX, ?_, ?_, ?_⟩
 ·simp [y2,Ne.symm hxy]
 ·simp [x2,hxy]
 ·simp only [e3,e4];simp
 ·simp only [e4]
 ·simp only [e3]
theorem EB {g:Gr} (hm:aX g=true) {f:Fr} (hi:An g f) {x y:Int} (hxy:x≠y) (C9:aK g f x=true) (xo:aK g f y=true)
 {a b:List Int} (ha:a.Perm (dG g x)) (hb:b.Perm (dG g y)) (nx:bM g x≠0) (ny:bM g y≠0):
 aK g (aN g f x a).2 y=true∧aK g (aN g f y b).2 x=true∧(aN g (aN g f x a).2 y b).2.row=(aN g (aN g f y b).2 x a).2.row∧
 (aN g f x a).1=(aN g (aN g f y b).2 x a).1∧(aN g f y b).1=(aN g (aN g f x a).2 y b).1:=by
 obtain ⟨A,X,C,hr,hA,hC,hX,cX⟩:=cm hm hi.toiO C9 nx
 obtain ⟨B,Y,D,hr',hB,hD,hY,cY⟩:=cm hm hi.toiO xo ny
 rcases apart (aT C9).1 (aT xo).1 hxy (hr.symm.trans hr') hX hY with ⟨M,rfl,rfl⟩|⟨M,rfl,rfl⟩
 ·exact Ao hm hi hxy C9 xo ha hb (by rw [hr];simp) hX hY cX cY hA hC hB hD
 ·obtain ⟨h1,h2,h3,h4,h5⟩:=Ao hm hi (Ne.symm hxy) xo C9 hb ha (by rw [hr'];simp) hY hX cY cX hB hD hA hC
  exact ⟨h2,h1,h3.symm,h5,h4⟩
theorem xq {g:Gr} {y:Int} :y∈dN (·.2) g↔(0≤y∧y<g.n)∧bM g y=0:=by
 simp only [dN,jO,List.mem_map,List.mem_filter,List.mem_range,decide_eq_true_eq]
 have he:∀x:Nat,x<g.n.toNat→(((eR (·.2) g).getD x []).length=bM g (x:Int)):=by
  intro x hx
  have e:(eR (·.2) g).getD x []=aZ (·.2) g.es g.es.length (x:Int):=by
   simp [eR,List.getD_eq_getElem?_getD,List.getElem?_range hx,mQ]
  rw [e];rfl
 constructor
 ·rintro ⟨x,⟨hx,h0⟩,rfl⟩
  refine ⟨by simp;omega,by rw [he x hx] at h0;exact h0⟩
 ·rintro ⟨⟨h1,h2⟩,h3⟩
  have e:((y.toNat:Nat):Int)=y:=by omega
  exact ⟨y.toNat,⟨by omega,by rw [he _ (by omega),e];exact h3⟩,e⟩
theorem tC {g:Gr} (hc:(dD g).1=0) {x y:Int} (hx:0≤x∧x<g.n) (hy:0≤y∧y<g.n) (nx:bM g x=0) (ny:bM g y=0):x=y:=by
 have h1:(dN (·.2) g).length≤1:=by
  unfold dD iM at hc
  refine Nat.not_lt.1 fun h=> ?_
  split at hc
  ·cases hc
  split at hc
  ·cases hc
  split at hc
  ·cases hc
  split at hc
  ·cases hc
  cases hc
 have h2:=xq.2 ⟨hx,nx⟩
 have h3:=xq.2 ⟨hy,ny⟩
 match hb:dN (·.2) g with
 | []=>rw [hb] at h2;cases h2
 | [z]=>rw [hb,List.mem_singleton] at h2 h3;rw [h2,h3]
 |_::_::_=>rw [hb] at h1;simp at h1
theorem bW {g:Gr} (hc:(dD g).1=0):aX g=true:=by
 unfold dD iM at hc
 split at hc
 ·cases hc
 ·rename_i h;simpa using h
theorem Ap {g:Gr} (hc:(dD g).1=0) {f:Fr} (hi:An g f) {x y:Int} (hxy:x≠y) (C9:aK g f x=true) (xo:aK g f y=true):bM g x≠0:=by
 intro nx
 have hm:=bW hc
 obtain ⟨x0,x1,x2⟩:=aT C9
 obtain ⟨y0,y1,y2⟩:=aT xo
 rcases hi.src with ⟨h1,h2⟩|⟨s,hs,h⟩
 ·have ny:bM g y≠0:=fun ny=>hxy (tC hc ⟨x0,x1⟩ ⟨y0,y1⟩ nx ny)
  obtain ⟨A,X,C,hr,_,_,hX,_⟩:=cm hm hi.toiO xo ny
  obtain ⟨p,X',e,_⟩:=hX.fst
  rw [h2,e] at hr
  simp at hr
 ·exact x2 (tC hc (hi.uV s hs) ⟨x0,x1⟩ h nx ▸ hs)
theorem EC {g:Gr} (hc:(dD g).1=0) {f:Fr} (hi:An g f) {x y:Int} (hxy:x≠y) (C9:aK g f x=true) (xo:aK g f y=true)
 {a b:List Int} (ha:a.Perm (dG g x)) (hb:b.Perm (dG g y)):
 aK g (aN g f x a).2 y=true∧aK g (aN g f y b).2 x=true∧(aN g (aN g f x a).2 y b).2.row=(aN g (aN g f y b).2 x a).2.row∧
 (aN g f x a).1=(aN g (aN g f y b).2 x a).1∧(aN g f y b).1=(aN g (aN g f x a).2 y b).1:=
 EB (bW hc) hi hxy C9 xo ha hb (Ap hc hi hxy C9 xo) (Ap hc hi (Ne.symm hxy) xo C9)
end Go.Ab
end
section
namespace Go.Ab
open Go.Proofs
attribute [local congr] ACall.congr gd.congr Nx.congr
set_option maxRecDepth 10000
set_option maxHeartbeats 4000000
def Da (row:List It) (a b:Int):Nat→Int × Int
 |0=>(-1,0)
 |k+1=>if ((row.getD k (0,0,0)).2.2=a∨(row.getD k (0,0,0)).2.2=b)∧(row.getD k (0,0,0)).2.2≠(Da row a b k).1 then ((row.getD k (0,0,0)).2.2,(Da row a b k).2+1) else Da row a b k
end Go.Ab
end
section
namespace Go.Ab
open Go.Proofs
attribute [local congr] ACall.congr gd.congr Nx.congr
set_option maxRecDepth 10000
set_option maxHeartbeats 4000000
def L5 (row:List It) (i:Nat):Int:=(row.getD i (0,0,0)).2.2
def Q6 (row:List It) (i j:Nat):Bool:=decide (L5 row i≠ -1)&&decide (L5 row j≠ -1)&&decide (L5 row i≠L5 row j)&&decide (4≤(Da row (L5 row i) (L5 row j) row.length).2)
def Sj (row:List It):Bool:=(List.range row.length).any fun i=>(List.range row.length).any (Q6 row i)
end Go.Ab
end
section
namespace Go.Ab
open Go.Proofs
attribute [local congr] ACall.congr gd.congr Nx.congr
set_option maxRecDepth 10000
set_option maxHeartbeats 8000000
def T4 (row:List It) (a b c d:Nat):Prop:=0≤(row.getD a (0,0,0)).2.2∧0≤(row.getD b (0,0,0)).2.2∧(row.getD a (0,0,0)).2.2≠(row.getD b (0,0,0)).2.2∧(row.getD a (0,0,0)).2.2=(row.getD c (0,0,0)).2.2∧(row.getD b (0,0,0)).2.2=(row.getD d (0,0,0)).2.2
def TV (row:List It):Prop:=∃a b c d,a<b∧b<c∧c<d∧d<row.length∧T4 row a b c d
end Go.Ab
end
section
namespace Go.Ab
open Go.Proofs
set_option maxRecDepth 10000
theorem Aq {g:Gr} {f f':Fr} (hr:f.row=f'.row) (hp:f.pl.Perm f'.pl) (x:Int):aK g f x=aK g f' x:=by
 unfold aK
 rw [hr]
 by_cases h:x<0∨g.n≤x∨x∈f.pl
 ·rw [if_pos h,if_pos (by rw [← hp.mem_iff];exact h)]
 ·have h':¬(x<0∨g.n≤x∨x∈f'.pl):=by rw [← hp.mem_iff];exact h
  rw [if_neg h,if_neg h']
theorem lS:∀ {l m:List Int},l.Nodup→(∀i∈l,i∈m)→l.length≤m.length
 | [],_,_,_=>by simp
 |a::l,m,hn,hs=>by
  rw [List.nodup_cons] at hn
  have ha:=hs a (List.mem_cons_self ..)
  have:=lS hn.2 (m:=m.erase a) fun i hi=>(List.mem_erase_of_ne (fun e:i=a=>hn.1 (e ▸ hi))).2 (hs i (List.mem_cons_of_mem _ hi))
  rw [List.length_erase_of_mem ha] at this
  have:=List.length_pos_of_mem ha
  rw [List.length_cons];omega
theorem rL {g:Gr} {f:Fr} (hi:iO g f) (hf:(f.pl.length:Int)=g.n) {x:Int} (hx:0≤x∧x<g.n):x∈f.pl:=by
 refine Decidable.byContradiction fun h=> ?_
 have h1:(x::f.pl).Nodup:=List.nodup_cons.2 ⟨h,hi.pl⟩
 have h2:((List.range g.n.toNat).map Int.ofNat).length=g.n.toNat:=by simp
 have h3:=lS h1 (m:=(List.range g.n.toNat).map Int.ofNat) (fun y hy=>by
  rw [List.mem_map]
  have:0≤y∧y<g.n:=by
   rcases List.mem_cons.1 hy with h|h
   ·rw [h];exact hx
   ·exact hi.uV y h
  exact ⟨y.toNat,List.mem_range.2 (by omega),by simp;omega⟩)
 rw [h2,List.length_cons] at h3
 omega
def Tg (a b:Int) (row:List It):Prop:=∃l:List It,l.Sublist row∧l.map (fun t=>t.2.2)= [a,b,a,b]
def G6 (a b:Int) (t:It):Bool:=decide (t.2.2=a)||decide (t.2.2=b)
theorem Tg.Q7 {a b:Int} {row:List It} :Tg a b row↔Tg a b (row.filter (G6 a b)):=by
 constructor
 ·rintro ⟨l,h,e⟩
  refine ⟨l, ?_,e⟩
  have h1:=h.filter (G6 a b)
  rw [List.filter_eq_self.2] at h1
  ·exact h1
  ·intro t ht
   have:t.2.2∈l.map (fun t=>t.2.2):=List.mem_map.2 ⟨t,ht,rfl⟩
   rw [e] at this
   simp only [G6,Bool.or_eq_true,decide_eq_true_eq]
   simp only [List.mem_cons,List.not_mem_nil,or_false] at this
   omega
 ·rintro ⟨l,h,e⟩
  exact ⟨l,h.trans List.filter_sublist,e⟩
theorem Tg.keep {a b x:Int} (ha:0≤a) (hb:0≤b) (HW:a≠x) (ye:b≠x) {A X C u:List It} (hX:∀t∈X,t.2.2=x∨t.2.2= -1) (h:Tg a b (A++X++C)):Tg a b (A++u++C):=by
 rw [Tg.Q7] at h ⊢
 obtain ⟨l,h,e⟩:=h
 refine ⟨l,h.trans ?_,e⟩
 rw [List.filter_append,List.filter_append,List.filter_append,List.filter_append]
 have:X.filter (G6 a b)= []:=List.filter_eq_nil_iff.2 fun t ht=>by
  simp only [G6,Bool.or_eq_true,decide_eq_true_eq]
  rcases hX t ht with h|h<;>omega
 rw [this,List.append_nil]
 exact List.Sublist.append_right (List.sublist_append_left _ _) _
theorem Tg.not {a b x:Int} (hab:a≠b) (hb0:0≤b) (ha0:0≤a) (hx:x=a∨x=b) {A X C:List It} (hA:gK x A) (hC:gK x C) (hX:∀t∈X,t.2.2=x∨t.2.2= -1):¬Tg a b (A++X++C):=by
 rintro ⟨l,h,e⟩
 rw [List.append_assoc,List.sublist_append_iff] at h
 obtain ⟨l1,l',rfl,h1,h'⟩:=h
 rw [List.sublist_append_iff] at h'
 obtain ⟨l2,l3,rfl,h2,h3⟩:=h'
 have k1:∀t∈l1,t.2.2≠x:=fun t ht=>hA t (h1.subset ht)
 have k2:∀t∈l2,t.2.2=x∨t.2.2= -1:=fun t ht=>hX t (h2.subset ht)
 have k3:∀t∈l3,t.2.2≠x:=fun t ht=>hC t (h3.subset ht)
 clear h1 h2 h3
 match l1,k1,e with
 |t1::t2::_,k1,e=>
  simp only [List.cons_append,List.map_cons,List.cons.injEq] at e
  rcases hx with h|h
  ·exact k1 t1 (by simp) (by omega)
  ·exact k1 t2 (by simp) (by omega)
 | [t1],k1,e=>
   simp only [List.cons_append,List.nil_append,List.map_cons,List.cons.injEq] at e
   rcases hx with h|h
   ·exact k1 t1 (by simp) (by omega)
   ·match l2,k2,e with
    | [],_,e=>
      match l3,k3,e with
      | [s1,s2,s3],k3,e=>
        simp only [List.nil_append,List.map_cons,List.map_nil,List.cons.injEq,and_true] at e
        exact k3 s1 (by simp) (by omega)
      | [],_,e=>simp at e
      | [_],_,e=>simp at e
      | [_,_],_,e=>simp at e
      |_::_::_::_::_,_,e=>simp at e
    |s1::s2::_,k2,e=>
     simp only [List.cons_append,List.map_cons,List.cons.injEq] at e
     rcases k2 s2 (by simp) with h|h<;>omega
    | [s1],k2,e=>
      match l3,k3,e with
      | [u1,u2],k3,e=>
        simp only [List.cons_append,List.nil_append,List.map_cons,List.map_nil,List.cons.injEq,and_true] at e
        exact k3 u2 (by simp) (by omega)
      | [],_,e=>simp at e
      | [_],_,e=>simp at e
      |_::_::_::_,_,e=>simp at e
 | [],_,e=>
   simp only [List.nil_append] at e
   match l2,k2,e with
   | [],_,e=>
     match l3,k3,e with
     | [],_,e=>simp at e
     | [_],_,e=>simp at e
     |s1::s2::_,k3,e=>
      simp only [List.nil_append,List.map_cons,List.cons.injEq] at e
      rcases hx with h|h
      ·exact k3 s1 (by simp) (by omega)
      ·exact k3 s2 (by simp) (by omega)
   |s1::s2::_,k2,e=>
    simp only [List.cons_append,List.map_cons,List.cons.injEq] at e
    have q1:=k2 s1 (by simp)
    have q2:=k2 s2 (by simp)
    omega
   | [s1],k2,e=>
     match l3,k3,e with
     | [],_,e=>simp at e
     | [_],_,e=>simp at e
     | [_,_],_,e=>simp at e
     |u1::u2::u3::_,k3,e=>
      simp only [List.cons_append,List.nil_append,List.map_cons,List.cons.injEq] at e
      have q1:=k2 s1 (by simp)
      exact k3 u2 (by simp) (by omega)
end Go.Ab
end
section
namespace Go.Ab
open Go.Proofs
set_option maxRecDepth 10000
theorem ED {row:List It} {k:Nat} (h:k<row.length):row.take (k+1)=row.take k++ [row.getD k (0,0,0)]:=by
 rw [List.take_add_one,List.getD_eq_getElem?_getD,List.getElem?_eq_getElem h];rfl
theorem G7 {row:List It} {i j:Nat} (h:i≤j):(row.take i).Sublist (row.take j):=by
 rw [show row.take i=(row.take j).take i by rw [List.take_take,Nat.min_eq_left h]]
 exact List.take_sublist _ _
theorem vm {row l:List It} {i j:Nat} (h:l.Sublist (row.take i)) (hij:i≤j) (hj:j<row.length):(l++ [row.getD j (0,0,0)]).Sublist (row.take (j+1)):=by
 rw [ED hj]
 exact List.Sublist.append (h.trans (G7 hij)) (List.Sublist.refl _)
def Q8 (a b:Int):List It→Prop
 | []=>True
 | [t]=>t.2.2=a∨t.2.2=b
 |s::t::l=>(s.2.2=a∨s.2.2=b)∧s.2.2≠t.2.2∧Q8 a b (t::l)
end Go.Ab
end
section
namespace Go.Ab
open Go.Proofs
attribute [local congr] ACall.congr gd.congr Nx.congr
set_option maxRecDepth 10000
end Go.Ab
end
section
namespace Go.Ab
open Go.Proofs
attribute [local congr] ACall.congr gd.congr Nx.congr
set_option maxRecDepth 10000
def Q9 (g:Gr) (out:List Int) (x:Nat) (i:Nat):Bool:=(List.range i).all fun j=> !decide (hd g j=(x:Int))||decide (tl g j∈out)
def TW (g:Gr) (out:List Int) (k:Nat) (f:Bool):Prop:=k≤g.n.toNat∧(if f then 0<k∧wt g out (k - 1)=0∧∀j,j<k - 1→wt g out j≠0 else ∀j,j<k→wt g out j≠0)
def TX (out:List Int) (k:Nat) (f:Bool):List Int:=if f then out++ [((k - 1:Nat):Int)] else out
end Go.Ab
end
section
namespace Go.Ab
open Go.Proofs
attribute [local congr] ACall.congr gd.congr Nx.congr
set_option maxRecDepth 10000
end Go.Ab
end
section
namespace Go.Ab
open Go.Proofs
set_option maxRecDepth 10000
structure Pl where
 ord:List Int
 outs:List (List Int)
def bJ (p:Pl) (k:Nat):Int:=p.ord.getD k 0
def kU (p:Pl) (x:Int):List Int:=p.outs.getD x.toNat []
def cH (g:Gr) (p:Pl):Prop:=p.outs.length=g.n.toNat∧p.ord.Perm (eY g.n.toNat)∧∀x:Nat,x<g.n.toNat→(p.outs.getD x []).Perm (dG g x)
def fK (g:Gr) (p:Pl):Nat→Fr
 |0=>⟨[], []⟩
 |k+1=>(aN g (fK g p k) (bJ p k) (kU p (bJ p k))).2
def qx (g:Gr) (p:Pl) (k:Nat):List It:=(aN g (fK g p k) (bJ p k) (kU p (bJ p k))).1.1
def Ar (g:Gr) (p:Pl) (k:Nat):Bool:=aK g (fK g p k) (bJ p k)
def iq (g:Gr) (p:Pl):Nat→List (List It)
 |0=>List.replicate g.n.toNat []
 |k+1=>(iq g p k).set (bJ p k).toNat (qx g p k)
def ng (g:Gr) (p:Pl):Nat→Option Nat
 |0=>none
 |k+1=>match ng g p k with
  |some i=>some i
  |none=>if Ar g p k=true then none else some k
def dF (g:Gr) (p:Pl):Prop:=(dD g).1=0∧cH g p∧∀k,k<g.n.toNat→Ar g p k=true
theorem jC {g:Gr} {p:Pl} :∀ {k:Nat},ng g p k=none↔∀j,j<k→Ar g p j=true
 |0=>by simp [ng]
 |k+1=>by
  rw [ng]
  cases h:ng g p k with
  |some i=>
   simp only [reduceCtorEq,false_iff]
   intro h2
   rw [jC.2 fun j hj=>h2 j (by omega)] at h
   cases h
  |none=>
   have ih:=jC.1 h
   simp only
   constructor
   ·intro h2 j hj
    by_cases hjk:j=k
    ·subst hjk
     refine Decidable.byContradiction fun hn=> ?_
     rw [if_neg hn] at h2;cases h2
    ·exact ih j (by omega)
   ·intro h2
    rw [if_pos (h2 k (by omega))]
theorem vn {g:Gr} {p:Pl} {i:Nat} :∀ {k:Nat},ng g p k=some i↔i<k∧Ar g p i=false∧∀j,j<i→Ar g p j=true
 |0=>by simp [ng]
 |k+1=>by
  rw [ng]
  cases h:ng g p k with
  |some i'=>
   have ih:=(vn (g:=g) (p:=p)).1 h
   simp only [Option.some.injEq]
   constructor
   ·rintro rfl
    exact ⟨by omega,ih.2⟩
   ·rintro ⟨h1,h2,h3⟩
    rcases Nat.lt_trichotomy i' i with h4|h4|h4
    ·rw [h3 i' h4] at ih;simp at ih
    ·exact h4
    ·rw [ih.2.2 i h4] at h2;cases h2
  |none=>
   have ih:=jC.1 h
   simp only
   constructor
   ·intro h2
    by_cases hk:Ar g p k=true
    ·rw [if_pos hk] at h2;cases h2
    ·rw [if_neg hk] at h2
     cases h2
     exact ⟨by omega,by simpa using hk,ih⟩
   ·rintro ⟨h1,h2,h3⟩
    have:i=k:=by
     by_cases h4:i<k
     ·rw [ih i h4] at h2;cases h2
     ·omega
    subst this
    rw [if_neg (by rw [h2];simp)]
theorem kN {n:Nat} :(eY n).length=n:=by simp [eY]
theorem dx {g:Gr} {p:Pl} (h:cH g p):p.ord.length=g.n.toNat:=by rw [h.2.1.length_eq,kN]
theorem B6 {g:Gr} {p:Pl} (h:cH g p):p.ord.Nodup:=h.2.1.nodup_iff.2 jA
theorem dZ {g:Gr} {p:Pl} (h:cH g p) {k:Nat} (hk:k<g.n.toNat):0≤bJ p k∧bJ p k<g.n:=by
 have h1:bJ p k∈p.ord:=aD (by rw [dx h];exact hk)
 have:=er.1 (h.2.1.mem_iff.1 h1)
 omega
theorem Db {g:Gr} {p:Pl} (h:cH g p) {i j:Nat} (hi:i<g.n.toNat) (hj:j<g.n.toNat) (e:bJ p i=bJ p j):i=j:=
 uQ (B6 h) (by rw [dx h];exact hi) (by rw [dx h];exact hj) e
theorem qy {g:Gr} {p:Pl} (h:cH g p) {x:Int} (h0:0≤x) (h1:x<g.n):∃k,k<g.n.toNat∧bJ p k=x:=by
 have:x∈p.ord:=h.2.1.mem_iff.2 (er.2 (by omega))
 obtain ⟨k,hk,e⟩:=List.mem_iff_getElem.1 this
 refine ⟨k,by rw [← dx h];exact hk, ?_⟩
 rw [bJ,List.getD_eq_getElem?_getD,List.getElem?_eq_getElem hk,Option.getD_some,e]
theorem eu {g:Gr} {p:Pl} (h:cH g p) {x:Int} (h0:0≤x) (h1:x<g.n):(kU p x).Perm (dG g x):=by
 have:=h.2.2 x.toNat (by omega)
 rwa [show ((x.toNat:Nat):Int)=x by omega] at this
theorem yP {g:Gr} {p:Pl} (h:cH g p) {x:Int} (h0:0≤x) (h1:x<g.n):(kU p x).length≤g.es.length:=by
 rw [(eu h h0 h1).length_eq];exact G1
theorem lT {g:Gr} (hm:aX g=true) {p:Pl} (h:cH g p):∀ {k:Nat},k≤g.n.toNat→(∀j,j<k→Ar g p j=true)→An g (fK g p k)∧(fK g p k).pl=p.ord.take k∧(fK g p k).row.length≤k*(g.es.length+1)
 |0,_,_=>⟨C8 g,by simp [fK],by simp [fK]⟩
 |k+1,hk,hok=>by
  obtain ⟨h1,h2,h3⟩:=lT hm h (k:=k) (by omega) fun j hj=>hok j (by omega)
  obtain ⟨x0,x1⟩:=dZ h (k:=k) (by omega)
  have hl:=Ev (g:=g) (f:=fK g p k) (x:=bJ p k) (o:=kU p (bJ p k))
  have TC:=yP h x0 x1
  refine ⟨kM hm h1 (hok k (by omega)) (eu h x0 x1), ?_, ?_⟩
  ·show (fK g p k).pl++ [bJ p k]=_
   rw [h2,List.take_add_one,List.getElem?_eq_getElem (by rw [dx h];omega),bJ,List.getD_eq_getElem?_getD,List.getElem?_eq_getElem (by rw [dx h];omega)]
   rfl
  ·show (aN _ _ _ _).2.row.length≤_
   rw [Nat.add_mul];omega
theorem G8 {g:Gr} {p:Pl} (h:cH g p) {k:Nat} (hk:k<g.n.toNat) (hR:Ar g p k=true):iW g (fK g p k) (bJ p k) (kU p (bJ p k))=aN g (fK g p k) (bJ p k) (kU p (bJ p k)):=by
 have hp:=eu h (dZ h hk).1 (dZ h hk).2
 unfold iW
 have OM:aK g (fK g p k) (bJ p k)=true:=hR
 rw [if_neg (by rw [OM];simp),if_neg]
 rintro (h|⟨i,h1,h2⟩)
 ·exact h hp.length_eq
 ·exact h2 (hp.mem_iff.2 h1)
theorem G9 {g:Gr} {p:Pl} {k:Nat} (hR:Ar g p k=false):iW g (fK g p k) (bJ p k) (kU p (bJ p k))=(([],3),fK g p k):=if_pos hR
theorem qz {g:Gr} {p:Pl} :∀ {k:Nat},(iq g p k).length=g.n.toNat
 |0=>by simp [iq]
 |k+1=>by rw [iq,List.length_set,qz]
theorem EE {α:Type} {l:List α} {i j:Nat} {a d:α} (hi:i<l.length):(l.set i a).getD j d=if j=i then a else l.getD j d:=by
 rw [List.getD_eq_getElem?_getD,List.getElem?_set,List.getD_eq_getElem?_getD]
 by_cases h:i=j
 ·subst h;simp [hi]
 ·rw [if_neg h,if_neg (Ne.symm h)]
theorem yQ {g:Gr} {p:Pl} (h:cH g p):∀ {k:Nat},k≤g.n.toNat→∀ {i:Nat},i<k→(iq g p k).getD (bJ p i).toNat []=qx g p i
 |0,_,i,hi=>by omega
 |k+1,hk,i,hi=>by
  have hm:=dZ h (k:=k) (by omega)
  rw [iq,EE (by rw [qz];omega)]
  by_cases e:i=k
  ·subst e;rw [if_pos rfl]
  ·have Oz:=dZ h (k:=i) (by omega)
   rw [if_neg (fun h2=>e (Db h (by omega) (by omega) (by omega)))]
   exact yQ h (by omega) (by omega)
theorem qA {l m:List Int} (h:iN l=m):l.Perm m:=by
 rw [← h];exact (List.mergeSort_perm l _).symm
theorem As {n:Nat} :(eY n).Pairwise (· ≤ ·):=by
 unfold eY
 refine List.Pairwise.map _ (fun a b (h:a<b)=> ?_) List.pairwise_lt_range
 show (a:Int)≤b
 omega
theorem I1 {g:Gr} (hm:aX g=true) {p:Pl} :(p.outs.length=g.n.toNat∧p.ord.length=g.n.toNat∧(∀i:Nat,i<(iN p.ord).length→(iN p.ord).getD i 0=i)∧∀x:Nat,x<p.outs.length→iN (p.outs.getD x [])=bw (·.1) g x)↔cH g p:=by
 constructor
 ·rintro ⟨h1,h2,h3,h4⟩
  refine ⟨h1,qA ?_,fun x hx=> ?_⟩
  ·refine List.ext_getElem (by rw [fR,h2,kN]) fun i h5 h6=> ?_
   have:=h3 i h5
   rw [List.getD_eq_getElem?_getD,List.getElem?_eq_getElem h5,Option.getD_some] at this
   rw [this];simp [eY]
  ·have:=h4 x (by omega)
   rw [ig (by omega) (by omega)] at this
   exact qA this
 ·intro h
  refine ⟨h.1,dx h, ?_,fun x hx=> ?_⟩
  ·rw [vj h.2.1 As]
   intro i hi
   rw [kN] at hi
   simp [eY,List.getD_eq_getElem?_getD,List.getElem?_range hi]
  ·rw [ig (by omega) (by have:=h.1;omega)]
   exact vj (h.2.2 x (by rw [← h.1];exact hx)) sN
end Go.Ab
end
section
namespace Go.Ab
open Go.Proofs
set_option maxRecDepth 10000
set_option linter.unusedSectionVars false
def Dc (lt:Int→Int→Bool) (us:List Int):Nat→Int
 |0=> -1
 |k+1=>if (!decide ((k:Int)∈us))&&(decide (Dc lt us k<0)||lt k (Dc lt us k)) then k else Dc lt us k
def NL (lt:Int→Int→Bool) (n:Nat):Nat→List Int
 |0=> []
 |j+1=>NL lt n j++ [Dc lt (NL lt n j) n]
def TY (lt:Int→Int→Bool) (u v:Int):Prop:=lt u v=true∧lt v u=false
section
variable {lt:Int→Int→Bool} {n:Nat} {ord:List Int} (hp:ord.Perm (eY n)) (hs:ord.Pairwise (TY lt))
include hp hs
end
def wj (sw:Int→Int→Bool):Int→List Int→Int × List Int
 |a, []=>(a, [])
 |a,c::r=>if sw a c then ((wj sw c r).1,a::(wj sw c r).2) else ((wj sw a r).1,c::(wj sw a r).2)
def I2 (sw:Int→Int→Bool):Nat→List Int→List Int
 |0,l=>l
 |_+1, []=> []
 |n+1,a::r=>(wj sw a r).1::I2 sw n (wj sw a r).2
theorem jD {sw:Int→Int→Bool} :∀ {l:List Int} {a:Int},((wj sw a l).1::(wj sw a l).2).Perm (a::l)
 | [],a=>List.Perm.refl _
 |c::r,a=>by
  rw [wj]
  split
  ·exact (List.Perm.swap ..).trans ((List.Perm.cons a (jD (l:=r) (a:=c))))
  ·exact (List.Perm.swap ..).trans ((List.Perm.cons c (jD (l:=r) (a:=a))).trans (List.Perm.swap ..))
theorem I3 {sw:Int→Int→Bool} {l:List Int} {a:Int} :(wj sw a l).2.length=l.length:=by
 have:=(jD (sw:=sw) (l:=l) (a:=a)).length_eq
 simpa using this
theorem qB {sw:Int→Int→Bool} :∀ {n:Nat} {l:List Int},(I2 sw n l).Perm l
 |0,l=>List.Perm.refl _
 |_+1, []=>List.Perm.refl _
 |n+1,a::r=>by
  rw [I2]
  exact (List.Perm.cons _ qB).trans jD
section
variable {sw:Int→Int→Bool} {R:Int→Int→Prop} {S:Int→Prop} (htr:∀a b c,S a→S b→S c→R a b→R b c→R a c) (hsw:∀a c,S a→S c→a≠c→if sw a c=true then R c a else R a c)
include htr hsw
theorem yR:∀ {l:List Int} {a:Int},(a::l).Nodup→(∀x∈a::l,S x)→((wj sw a l).1=a∨R (wj sw a l).1 a)∧∀y∈(wj sw a l).2,R (wj sw a l).1 y
 | [],a,_,_=>⟨.inl rfl,fun y hy=>by cases hy⟩
 |c::r,a,hn,hS=>by
  have hac:a≠c:=fun e=>by subst e;simp at hn
  have h0:=hsw a c (hS a (by simp)) (hS c (by simp)) hac
  have n1:(c::r).Nodup:=(List.nodup_cons.1 hn).2
  have n2:(a::r).Nodup:=by
   rw [List.nodup_cons] at hn ⊢
   exact ⟨fun h=>hn.1 (by simp [h]),(List.nodup_cons.1 hn.2).2⟩
  rw [wj]
  split at h0<;>rename_i hs
  ·rw [if_pos hs]
   obtain ⟨h1,h2⟩:=yR (l:=r) (a:=c) n1 fun x hx=>hS x (by simp at hx ⊢;rcases hx with h|h<;>simp [h])
   have Ra:S (wj sw c r).1:=hS _ (by have:=(jD (sw:=sw) (l:=r) (a:=c)).mem_iff.1 (List.mem_cons_self ..);simp at this ⊢;rcases this with h|h<;>simp [h])
   have hma:R (wj sw c r).1 a:=by
    rcases h1 with h1|h1
    ·rw [h1];exact h0
    ·exact htr _ _ _ Ra (hS c (by simp)) (hS a (by simp)) h1 h0
   exact ⟨.inr hma,fun y hy=>(List.mem_cons.1 hy).elim (fun e=>e ▸ hma) (h2 y)⟩
  ·rw [if_neg hs]
   obtain ⟨h1,h2⟩:=yR (l:=r) (a:=a) n2 fun x hx=>hS x (by simp at hx ⊢;rcases hx with h|h<;>simp [h])
   have Ra:S (wj sw a r).1:=hS _ (by have:=(jD (sw:=sw) (l:=r) (a:=a)).mem_iff.1 (List.mem_cons_self ..);simp at this ⊢;rcases this with h|h<;>simp [h])
   have H8:R (wj sw a r).1 c:=by
    rcases h1 with h1|h1
    ·rw [h1];exact h0
    ·exact htr _ _ _ Ra (hS a (by simp)) (hS c (by simp)) h1 h0
   exact ⟨h1,fun y hy=>(List.mem_cons.1 hy).elim (fun e=>e ▸ H8) (h2 y)⟩
theorem pq:∀ {n:Nat} {l:List Int},l.length≤n→l.Nodup→(∀x∈l,S x)→(I2 sw n l).Pairwise R
 |0,l,h,_,_=>by
  have:l= []:=List.eq_nil_of_length_eq_zero (by omega)
  subst this;exact List.Pairwise.nil
 |n+1, [],_,_,_=>List.Pairwise.nil
 |n+1,a::r,h,hn,hS=>by
  rw [I2,List.pairwise_cons]
  have hp:=jD (sw:=sw) (l:=r) (a:=a)
  refine ⟨fun y hy=>(yR htr hsw hn hS).2 y (qB.mem_iff.1 hy),pq (by rw [I3];simpa using h) (List.nodup_cons.1 (hp.nodup_iff.2 hn)).2 fun x hx=>hS x (hp.mem_iff.1 (by simp [hx]))⟩
end
def VH (sw:Int→Int→Bool) (a:Int) (done todo:List Int):List Int:=(wj sw a todo).1::I2 sw (done.length+todo.length) (done++(wj sw a todo).2)
end Go.Ab
end
section
namespace Go.Ab
set_option maxRecDepth 10000
structure PS where
 m:Nat
 src:Int
 NM:Int
 tl:Int→Int
 hd:Int→Int
 ins:Int→List Int
 outs:Int→List Int
 Rb:Int→Nat
 Row:Nat→List Int→List Int→Prop
 k0:Nat
def PS.E (P:PS) (e:Int):Prop:=0≤e∧e<P.m
structure PS.Ok (P:PS):Prop where
 Au:∀x e,e∈P.outs x↔P.E e∧P.tl e=x
 lU:∀x e,e∈P.ins x↔P.E e∧P.hd e=x
 tD:∀x,(P.outs x).Nodup
 He:∀x,(P.ins x).Nodup
 Hf:∀e,P.E e→P.Rb (P.tl e)<P.Rb (P.hd e)
 K9:P.Row P.k0 (P.outs P.src) [P.src]
 B7:∀ {k W D},P.Row k W D→W.Nodup
 tE:∀ {k W D},P.Row k W D→∀e,e∈W↔P.E e∧P.tl e∈D∧P.hd e∉D
 vo:∀ {k W D},P.Row (k+1) W D→∃x A C,W=A++P.ins x++C∧P.ins x≠ []
 vp:∀ {k W D x A C},P.Row k W D→W=A++P.ins x++C→P.ins x≠ []→∃k',k=k'+1∧P.Row k' (A++P.outs x++C) (D++ [x])
 yS:∀ {W D},P.Row 0 W D→∀e,P.E e→P.hd e∈D
 Dd:∀ {k W D},P.Row k W D→P.src∈D
 De:∀ {k W D},P.Row k W D→P.NM∈D→k=0
 B8:P.ins P.src= []
 Df:∀x,P.ins x≠ []→(P.outs x= []↔x=P.NM)
theorem nO {l:List Int} :l.reverse.Nodup↔l.Nodup:=(List.reverse_perm l).nodup_iff
def PS.Fg (P:PS):PS:= {P with ins:=fun x=>(P.ins x).reverse,outs:=fun x=>(P.outs x).reverse,Row:=fun k W D=>P.Row k W.reverse D}
theorem PS.Ok.Fg {P:PS} (h:P.Ok):P.Fg.Ok:=
 {Au:=fun x e=>by show e∈(P.outs x).reverse↔_;rw [List.mem_reverse];exact h.Au x e
  lU:=fun x e=>by show e∈(P.ins x).reverse↔_;rw [List.mem_reverse];exact h.lU x e
  tD:=fun x=>by show (P.outs x).reverse.Nodup;exact nO.2 (h.tD x)
  He:=fun x=>by show (P.ins x).reverse.Nodup;exact nO.2 (h.He x)
  Hf:=h.Hf
  K9:=by show P.Row _ (P.outs P.src).reverse.reverse _;rw [List.reverse_reverse];exact h.K9
  B7:=fun {k W D} hr=>nO.1 (h.B7 (show P.Row k W.reverse D from hr))
  tE:=fun {k W D} hr e=>by
   have:=h.tE (show P.Row k W.reverse D from hr) e
   rw [List.mem_reverse] at this
   exact this
  vo:=fun {k W D} hr=>by
   obtain ⟨x,A,C,h1,h2⟩:=h.vo (show P.Row (k+1) W.reverse D from hr)
   refine ⟨x,C.reverse,A.reverse, ?_,fun h3=>h2 (List.reverse_eq_nil_iff.1 h3)⟩
   show W=C.reverse++(P.ins x).reverse++A.reverse
   rw [← List.reverse_reverse W,h1]
   simp
  vp:=fun {k W D x A C} hr h1 h2=>by
   have h1:W=A++(P.ins x).reverse++C:=h1
   obtain ⟨k',h3,h4⟩:=h.vp (x:=x) (A:=C.reverse) (C:=A.reverse) (show P.Row k W.reverse D from hr) (by rw [h1];simp) (fun h3=>h2 (List.reverse_eq_nil_iff.2 h3))
   refine ⟨k',h3, ?_⟩
   show P.Row k' (A++(P.outs x).reverse++C).reverse (D++ [x])
   have e:(A++(P.outs x).reverse++C).reverse=C.reverse++P.outs x++A.reverse:=by simp
   rw [e];exact h4
  yS:=fun {W D} hr=>h.yS (show P.Row 0 W.reverse D from hr)
  Dd:=fun {k W D} hr=>h.Dd (show P.Row k W.reverse D from hr)
  De:=fun {k W D} hr=>h.De (show P.Row k W.reverse D from hr)
  B8:=by show (P.ins P.src).reverse= [];rw [h.B8];rfl
  Df:=fun x hx=>by
   have h2:P.ins x≠ []:=fun h3=>hx (by show (P.ins x).reverse= [];rw [h3];rfl)
   show (P.outs x).reverse= []↔_
   rw [List.reverse_eq_nil_iff];exact h.Df x h2}
structure MS where
 A:List Int
 B:List Int
 D:List Int
def PS.next (P:PS) (s:MS):MS:=
 match s.B with
 | []=>s
 |e::B=>if P.ins (P.hd e)<:+s.A++ [e] then ⟨(s.A++ [e]).take (s.A.length+1 - (P.ins (P.hd e)).length),P.outs (P.hd e)++B,s.D++ [P.hd e]⟩ else ⟨s.A++ [e],B,s.D⟩
def PS.st (P:PS):Nat→MS
 |0=>⟨[],P.outs P.src, [P.src]⟩
 |j+1=>P.next (P.st j)
def PS.sh (P:PS) (j:Nat):Int:=(P.st j).B.headD 0
def PS.Fh (P:PS) (j:Nat):List Int:=(List.range j).map P.sh
variable {P:PS}
theorem PS.vq {j:Nat} :P.Fh (j+1)=P.Fh j++ [P.sh j]:=by simp [PS.Fh,List.range_succ]
theorem PS.I4 {j:Nat} :(P.Fh j).length=j:=by simp [PS.Fh]
structure PS.Inv (P:PS) (j:Nat) (s:MS):Prop where
 row:∃k,P.Row k (s.A++s.B) s.D
 no:∀h,P.ins h≠ []→¬P.ins h<:+:s.A
 nd:(P.Fh j).Nodup
 sh:∀e,e∈P.Fh j↔P.E e∧(e∈s.A∨P.hd e∈s.D)
 len:j≤P.m
theorem nP:∀ {l m:List Int},l.Nodup→(∀i∈l,i∈m)→l.length≤m.length
 | [],_,_,_=>Nat.zero_le _
 |a::l,m,hn,h=>by
  rw [List.nodup_cons] at hn
  have ha:=h a (List.mem_cons_self ..)
  have:=nP (m:=m.erase a) hn.2 fun i hi=>(List.mem_erase_of_ne (show i≠a from fun e=>hn.1 (by rw [← e];exact hi))).2 (h i (List.mem_cons_of_mem _ hi))
  rw [List.length_erase_of_mem ha] at this
  have:=List.length_pos_of_mem ha
  rw [List.length_cons];omega
theorem EF {l:List Int} {m:Nat} (hall:∀e:Int,0≤e→e<m→e∈l):m≤l.length:=by
 have:=nP (l:=(List.range m).map Int.ofNat) (m:=l) (List.pairwise_map.2 (List.nodup_range.imp fun hab e=>hab (Int.ofNat.inj e))) fun x hx=>by
  obtain ⟨a,ha,rfl⟩:=List.mem_map.1 hx
  have:=List.mem_range.1 ha
  exact hall _ (by simp) (by simp;omega)
 simpa using this
theorem Av {X Y:List Int} (h:X<:+Y):Y=Y.take (Y.length - X.length)++X:=by
 obtain ⟨t,rfl⟩:=h
 simp
theorem PS.Inv.more (h:P.Ok) {j:Nat} {s:MS} (hi:P.Inv j s) (hj:j<P.m):∃e B,s.B=e::B:=by
 cases hB:s.B with
 |cons e B=>exact ⟨e,B,rfl⟩
 |nil=>
  exfalso
  obtain ⟨k,hr⟩:=hi.row
  rw [hB,List.append_nil] at hr
  cases k with
  |succ k=>
   obtain ⟨x,A,C,h1,h2⟩:=h.vo hr
   exact hi.no x h2 ⟨A,C,h1.symm⟩
  |zero=>
   have hall:∀e,P.E e→e∈P.Fh j:=fun e he=>(hi.sh e).2 ⟨he, .inr (h.yS hr e he)⟩
   have:=EF (fun e h1 h2=>hall e ⟨h1,h2⟩)
   rw [PS.I4] at this
   omega
theorem PS.EG {s:MS} {e:Int} {B:List Int} (hB:s.B=e::B):P.next s=if P.ins (P.hd e)<:+s.A++ [e] then ⟨(s.A++ [e]).take (s.A.length+1 - (P.ins (P.hd e)).length),P.outs (P.hd e)++B,s.D++ [P.hd e]⟩ else ⟨s.A++ [e],B,s.D⟩:=by
 unfold PS.next;rw [hB]
theorem PS.B9 (h:P.Ok) {s:MS} {k:Nat} {e:Int} {B:List Int} (hr:P.Row k (s.A++s.B) s.D) (hB:s.B=e::B):
 P.E e∧((∃A',s.A++ [e]=A'++P.ins (P.hd e)∧P.ins (P.hd e)≠ []∧P.next s=⟨A',P.outs (P.hd e)++B,s.D++ [P.hd e]⟩)∨(¬P.ins (P.hd e)<:+s.A++ [e]∧P.next s=⟨s.A++ [e],B,s.D⟩)):=by
 have he:P.E e:=((h.tE hr e).1 (by rw [hB];simp)).1
 refine ⟨he, ?_⟩
 rw [PS.EG hB]
 by_cases hs:P.ins (P.hd e)<:+s.A++ [e]
 ·rw [if_pos hs]
  refine .inl ⟨_, ?_,fun h0=> ?_,rfl⟩
  ·have:=Av hs
   simpa using this
  ·have:=(h.lU (P.hd e) e).2 ⟨he,rfl⟩
   rw [h0] at this;cases this
 ·rw [if_neg hs];exact .inr ⟨hs,rfl⟩
theorem Ca {X A:List Int} {e:Int} (h:X<:+:A++ [e]):X<:+:A∨X<:+A++ [e]:=by
 obtain ⟨s,t,ht⟩:=h
 rcases List.eq_nil_or_concat t with rfl|⟨t',a,rfl⟩
 ·rw [List.append_nil] at ht;exact .inr ⟨s,ht⟩
 ·left
  refine ⟨s,t', ?_⟩
  have:s++X++t'++ [a]=A++ [e]:=by rw [← ht];simp
  exact (List.append_inj' this rfl).1
theorem PS.inv (h:P.Ok):∀j,j≤P.m→P.Inv j (P.st j)
 |0,_=>⟨⟨_,h.K9⟩,fun x hx hs=>hx (by
    have:P.ins x<:+: []:=hs
    simpa using this),by simp [PS.Fh],fun e=>(by
     simp only [PS.Fh,List.range_zero,List.map_nil,List.not_mem_nil,false_iff]
     rintro ⟨he,h1|h1⟩
     ·cases h1
     ·have h1:P.hd e∈ [P.src]:=h1
      have h2:P.hd e=P.src:=by simpa using h1
      have:=(h.lU P.src e).2 ⟨he,h2⟩
      rw [h.B8] at this;cases this),Nat.zero_le _⟩
 |j+1,hj=>by
  have hi:=PS.inv h j (by omega)
  obtain ⟨e,B,hB⟩:=hi.more h (by omega)
  obtain ⟨k,hr⟩:=hi.row
  have hsh:P.sh j=e:=by unfold PS.sh;rw [hB];rfl
  have TZ:e∈(P.st j).A++(P.st j).B:=by rw [hB];simp
  have hm:=(h.tE hr e).1 TZ
  have fA:=h.B7 hr
  have T0:e∉(P.st j).A:=fun hA=>by
   rw [List.nodup_append] at fA
   exact fA.2.2 e hA e (by rw [hB];simp) rfl
  have hnew:e∉P.Fh j:=fun h1=>by
   rcases ((hi.sh e).1 h1).2 with h2|h2
   ·exact T0 h2
   ·exact hm.2.2 h2
  have NN:(P.Fh (j+1)).Nodup:=by
   rw [PS.vq,hsh,List.nodup_append]
   exact ⟨hi.nd,by simp,fun a ha b hb=>by
    rw [List.mem_singleton] at hb
    subst hb
    intro e2;exact hnew (e2 ▸ ha)⟩
  obtain ⟨he,hc⟩:=PS.B9 h hr hB
  have hst:P.st (j+1)=P.next (P.st j):=rfl
  rw [hst]
  rcases hc with ⟨A',h1,h2,h3⟩|⟨h1,h3⟩
  ·rw [h3]
   have hrow:(P.st j).A++(P.st j).B=A'++P.ins (P.hd e)++B:=by rw [hB, ← h1];simp
   obtain ⟨k',rfl,hr'⟩:=h.vp hr hrow h2
   refine ⟨⟨k',by simpa using hr'⟩,fun x hx hs=> ?_,NN,fun f=> ?_,hj⟩
   ·have hs:P.ins x<:+:A':=hs
    have hA:¬P.ins x<:+:(P.st j).A:=hi.no x hx
    obtain ⟨u,v,huv⟩:=hs
    rcases List.eq_nil_or_concat (P.ins (P.hd e)) with h0|⟨I',a,h0⟩
    ·exact h2 h0
    ·rw [h0, ← List.concat_eq_append,List.concat_eq_append] at h1
     have h4:(P.st j).A++ [e]=(A'++I')++ [a]:=by rw [h1];simp
     have h5:=(List.append_inj' h4 rfl).1
     exact hA ⟨u,v++I',by rw [h5, ← huv];simp⟩
   ·rw [PS.vq,hsh,List.mem_append,List.mem_singleton,hi.sh f]
    show _↔P.E f∧(f∈A'∨P.hd f∈(P.st j).D++ [P.hd e])
    constructor
    ·rintro (⟨h4,h5|h5⟩|rfl)
     ·have:f∈A'++P.ins (P.hd e):=by rw [← h1];exact List.mem_append.2 (.inl h5)
      rcases List.mem_append.1 this with h6|h6
      ·exact ⟨h4, .inl h6⟩
      ·exact ⟨h4, .inr (by rw [((h.lU _ _).1 h6).2];simp)⟩
     ·exact ⟨h4, .inr (List.mem_append.2 (.inl h5))⟩
     ·exact ⟨he, .inr (by simp)⟩
    ·rintro ⟨h4,h5|h5⟩
     ·have:f∈(P.st j).A++ [e]:=by rw [h1];exact List.mem_append.2 (.inl h5)
      rcases List.mem_append.1 this with h6|h6
      ·exact .inl ⟨h4, .inl h6⟩
      ·exact .inr (by simpa using h6)
     ·rcases List.mem_append.1 h5 with h6|h6
      ·exact .inl ⟨h4, .inr h6⟩
      ·have h6:P.hd f=P.hd e:=by simpa using h6
       have h7:f∈P.ins (P.hd e):=(h.lU _ _).2 ⟨h4,h6⟩
       have:f∈(P.st j).A++ [e]:=by rw [h1];exact List.mem_append.2 (.inr h7)
       rcases List.mem_append.1 this with h8|h8
       ·exact .inl ⟨h4, .inl h8⟩
       ·exact .inr (by simpa using h8)
  ·rw [h3]
   refine ⟨⟨k,by simpa [hB] using hr⟩,fun x hx hs=> ?_,NN,fun f=> ?_,hj⟩
   ·rcases Ca hs with h4|h4
    ·exact hi.no x hx h4
    ·have hne:e∈P.ins x:=by
      obtain ⟨t,ht⟩:=h4
      rcases List.eq_nil_or_concat (P.ins x) with h0|⟨I',a,h0⟩
      ·exact absurd h0 hx
      ·rw [h0] at ht
       have h5:(t++I')++ [a]=(P.st j).A++ [e]:=by rw [← ht];simp
       have:=(List.append_inj' h5 rfl).2
       rw [h0];simp at this ⊢;exact .inr this.symm
     rw [((h.lU _ _).1 hne).2] at h1
     exact h1 h4
   ·rw [PS.vq,hsh,List.mem_append,List.mem_singleton,hi.sh f]
    show _↔P.E f∧(f∈(P.st j).A++ [e]∨P.hd f∈(P.st j).D)
    rw [List.mem_append,List.mem_singleton]
    constructor
    ·rintro (⟨h4,h5|h5⟩|rfl)
     ·exact ⟨h4, .inl (.inl h5)⟩
     ·exact ⟨h4, .inr h5⟩
     ·exact ⟨he, .inl (.inr rfl)⟩
    ·rintro ⟨h4,(h5|h5)|h5⟩
     ·exact .inl ⟨h4, .inl h5⟩
     ·exact .inr h5
     ·exact .inl ⟨h4, .inr h5⟩
end Go.Ab
end
section
namespace Go.Ab
set_option maxRecDepth 10000
set_option linter.unusedSectionVars false
variable {P:PS}
structure PS.jT (P:PS) (L R:Int→Int) (f0 f1:Int) (low:Int→Int):Prop where
 ne:f0≠f1
 nQ:∀ {x u a b v},P.outs x=u++a::b::v→R a=L b
 Cb:∀ {x u a b v},P.ins x=u++a::b::v→R a=L b
 fst:∀ {x a u b v},P.ins x=a::u→P.outs x=b::v→L a=L b
 IZ:∀ {x a u b v},P.ins x=u++ [a]→P.outs x=v++ [b]→R a=R b
 s0:∀ {b v},P.outs P.src=b::v→L b=f0
 s1:∀ {b v},P.outs P.src=v++ [b]→R b=f1
 new:∀ {x u a b v},P.outs x=u++a::b::v→low (R a)=x∧R a≠f0∧R a≠f1
 new1:∀ {x u a b v u' a' b' v'},P.outs x=u++a::b::v→P.outs x=u'++a'::b'::v'→R a=R a'→a=a'
theorem Hg {l u v u' v':List Int} {a:Int} (hn:l.Nodup) (h1:l=u++a::v) (h2:l=u'++a::v'):u=u'∧v=v':=by
 induction u generalizing l u' with
 |nil=>
  cases u' with
  |nil=>rw [h1] at h2;simpa using h2
  |cons b u'=>
   rw [h1] at h2
   simp only [List.nil_append,List.cons_append,List.cons.injEq] at h2
   rw [h1,h2.2] at hn
   simp at hn
 |cons b u ih=>
  cases u' with
  |nil=>
   rw [h2] at h1
   simp only [List.nil_append,List.cons_append,List.cons.injEq] at h1
   rw [h2,h1.2] at hn
   simp at hn
  |cons b' u'=>
   have h3:=h1.symm.trans h2
   simp only [List.cons_append,List.cons.injEq] at h3
   rw [h1,List.cons_append,List.nodup_cons] at hn
   obtain ⟨h4,h5⟩:=ih hn.2 rfl h3.2
   exact ⟨by rw [h3.1,h4],h5⟩
theorem jh {l u v:List Int} {a b:Int} (h:l.reverse=u++a::b::v):l=v.reverse++b::a::u.reverse:=by
 have:=congrArg List.reverse h
 simpa using this
theorem PS.jT.Fg (h:P.Ok) {L R:Int→Int} {f0 f1:Int} {low:Int→Int} (F:P.jT L R f0 f1 low):P.Fg.jT R L f1 f0 low:=
 {ne:=F.ne.symm
  nQ:=fun {x u a b v} h=>(F.nQ (jh (show (P.outs x).reverse=_ from h))).symm
  Cb:=fun {x u a b v} h=>(F.Cb (jh (show (P.ins x).reverse=_ from h))).symm
  fst:=fun {x a u b v} h1 h2=>F.IZ (x:=x) (u:=u.reverse) (v:=v.reverse) (by
     have:=congrArg List.reverse (show (P.ins x).reverse=_ from h1);simpa using this) (by
     have:=congrArg List.reverse (show (P.outs x).reverse=_ from h2);simpa using this)
  IZ:=fun {x a u b v} h1 h2=>F.fst (x:=x) (u:=u.reverse) (v:=v.reverse) (by
    have:=congrArg List.reverse (show (P.ins x).reverse=_ from h1);simpa using this) (by
    have:=congrArg List.reverse (show (P.outs x).reverse=_ from h2);simpa using this)
  s0:=fun {b v} h1=>F.s1 (v:=v.reverse) (by
     have:=congrArg List.reverse (show (P.outs P.src).reverse=_ from h1);simpa using this)
  s1:=fun {b v} h1=>F.s0 (v:=v.reverse) (by
     have:=congrArg List.reverse (show (P.outs P.src).reverse=_ from h1);simpa using this)
  new:=fun {x u a b v} h1=>by
   have h2:=jh (show (P.outs x).reverse=_ from h1)
   obtain ⟨h3,h4,h5⟩:=F.new h2
   have h6:=F.nQ h2
   rw [← h6];exact ⟨h3,h5,h4⟩
  new1:=fun {x u a b v u' a' b' v'} h1 h2 h3=>by
   have g1:=jh (show (P.outs x).reverse=_ from h1)
   have g2:=jh (show (P.outs x).reverse=_ from h2)
   rw [← F.nQ g1, ← F.nQ g2] at h3
   have h4:=F.new1 g1 g2 h3
   subst h4
   have:=(Hg (h.tD x) g1 g2).2
   simp only [List.cons.injEq] at this
   exact this.1}
def qC (L R:Int→Int):Int→List Int→Prop
 |_, []=>True
 |f,a::W=>L a=f∧qC L R (R a) W
def rM (R:Int→Int):Int→List Int→Int
 |f, []=>f
 |_,a::W=>rM R (R a) W
theorem kO {L R:Int→Int} :∀ {A B:List Int} {f:Int},qC L R f (A++B)↔qC L R f A∧qC L R (rM R f A) B
 | [],B,f=>by simp [qC,rM]
 |a::A,B,f=>by simp [qC,rM,kO,and_assoc]
theorem iD {R:Int→Int} :∀ {A B:List Int} {f:Int},rM R f (A++B)=rM R (rM R f A) B
 | [],B,f=>rfl
 |a::A,B,f=>by simp [rM,iD]
theorem xu {R:Int→Int} {A:List Int} {a f:Int} :rM R f (A++ [a])=R a:=by rw [iD];rfl
theorem Aw {L R:Int→Int} :∀ {X:List Int} {f:Int},(∀u a b v,X=u++a::b::v→R a=L b)→(∀a u,X=a::u→L a=f)→qC L R f X
 | [],f,_,_=>trivial
 |a::X,f,h,h1=>⟨h1 a X rfl,Aw (fun u b c v e=>h (a::u) b c v (by rw [e];rfl)) fun b v e=>(h [] a b v (by rw [e];rfl)).symm⟩
theorem Dg {l:List Int} (h:l≠ []):∃u a,l=u++ [a]:=by
 rcases List.eq_nil_or_concat l with h1|⟨u,a,h1⟩
 ·exact absurd h1 h
 ·exact ⟨u,a,by rw [h1,List.concat_eq_append]⟩
theorem yT {l:List Int} (h:l≠ []):∃a u,l=a::u:=by
 cases l with
 |nil=>exact absurd rfl h
 |cons a u=>exact ⟨a,u,rfl⟩
structure La (L R:Int→Int) (f0 f1:Int) (low:Int→Int) (W D:List Int):Prop where
 lk:qC L R f0 W
 en:rM R f0 W=f1
 nd:(W.map R).Nodup
 lo:∀a∈W,R a≠f0∧(R a=f1∨(R a≠f1∧low (R a)∈D))
theorem EH {X U V Y:List Int} {r:Int} (h:(X++(U++ [r])++Y).Nodup) (hV:V.Nodup) (hd:∀z∈V,z∉X∧z≠r∧z∉Y):(X++(V++ [r])++Y).Nodup:=by
 have h1:(X++ [r]++Y).Nodup:=by
  refine List.Nodup.sublist ?_ h
  refine List.Sublist.append (List.Sublist.append (List.Sublist.refl _) ?_) (List.Sublist.refl _)
  exact List.sublist_append_right ..
 have h2:(V++(X++ [r]++Y)).Nodup:=by
  rw [List.nodup_append]
  refine ⟨hV,h1,fun a ha b hb e=> ?_⟩
  subst e
  obtain ⟨g1,g2,g3⟩:=hd a ha
  simp only [List.mem_append,List.mem_singleton] at hb
  rcases hb with (hb|hb)|hb
  ·exact g1 hb
  ·exact g2 hb
  ·exact g3 hb
 refine (List.Perm.nodup_iff ?_).1 h2
 have:X++(V++ [r])++Y=(X++V)++([r]++Y):=by simp
 rw [this]
 have:V++(X++ [r]++Y)=(V++X)++([r]++Y):=by simp
 rw [this]
 exact List.Perm.append_right _ List.perm_append_comm
theorem oz {R:Int→Int} :∀ {l:List Int},l.Nodup→(∀a∈l,∀b∈l,R a=R b→a=b)→(l.map R).Nodup
 | [],_,_=>by simp
 |a::l,hn,h=>by
  rw [List.nodup_cons] at hn
  rw [List.map_cons,List.nodup_cons]
  refine ⟨fun hm=> ?_,oz hn.2 fun x hx y hy=>h x (List.mem_cons_of_mem _ hx) y (List.mem_cons_of_mem _ hy)⟩
  obtain ⟨b,hb,e⟩:=List.mem_map.1 hm
  have:=h b (List.mem_cons_of_mem _ hb) a (List.mem_cons_self ..) e
  exact hn.1 (this ▸ hb)
section
variable (h:P.Ok) {L R:Int→Int} {f0 f1:Int} {low:Int→Int} (F:P.jT L R f0 f1 low)
include h F
theorem pE {v:List Int} {b:Int} {x:Int} (hv:P.outs x=v++ [b]) {a:Int} (ha:a∈v):∃u c w,P.outs x=u++a::c::w:=by
 obtain ⟨s,t,rfl⟩:=List.append_of_mem ha
 cases t with
 |nil=>exact ⟨s,b, [],by rw [hv];simp⟩
 |cons c t=>exact ⟨s,c,t++ [b],by rw [hv];simp⟩
theorem EI {x f:Int} (hf:∀b v,P.outs x=b::v→L b=f):qC L R f (P.outs x):=Aw (fun u a b v e=>F.nQ e) fun a u e=>hf a u e
theorem I5 {x:Int} {v:List Int} {b:Int} (hv:P.outs x=v++ [b]):(v.map R).Nodup∧∀z∈v.map R,low z=x∧z≠f0∧z≠f1:=by
 have hn:=h.tD x
 rw [hv,List.nodup_append] at hn
 refine ⟨oz hn.1 fun a ha a' JC e=> ?_,fun z hz=> ?_⟩
 ·obtain ⟨u,c,w,h1⟩:=pE h F hv ha
  obtain ⟨u',c',w',h2⟩:=pE h F hv JC
  exact F.new1 h1 h2 e
 ·obtain ⟨a,ha,rfl⟩:=List.mem_map.1 hz
  obtain ⟨u,c,w,h1⟩:=pE h F hv ha
  exact F.new h1
theorem La.step {A C D:List Int} {x:Int} (hi:La L R f0 f1 low (A++P.ins x++C) D) (hI:P.ins x≠ []) (hO:P.outs x≠ []) (hx:x∉D):La L R f0 f1 low (A++P.outs x++C) (D++ [x]):=by
 obtain ⟨u,a,hu⟩:=Dg hI
 obtain ⟨v,b,hv⟩:=Dg hO
 obtain ⟨a0,u0,Rc⟩:=yT hI
 obtain ⟨b0,v0,Kk⟩:=yT hO
 have hab:=F.IZ hu hv
 have h0:=F.fst Rc Kk
 obtain ⟨l1,l2⟩:=kO.1 hi.lk
 obtain ⟨l3,l4⟩:=kO.1 l1
 have Sk:∀f,rM R f (P.ins x)=R a:=fun f=>by rw [hu,xu]
 have Sl:∀f,rM R f (P.outs x)=R b:=fun f=>by rw [hv,xu]
 have hL:L a0=rM R f0 A:=by rw [Rc] at l4;exact l4.1
 obtain ⟨n1,n2⟩:=I5 h F hv
 have fA:=hi.nd
 have hlo:=hi.lo
 refine ⟨?_, ?_, ?_,fun c hc=> ?_⟩
 ·rw [kO,kO]
  refine ⟨⟨l3,EI h F fun b' v' e=> ?_⟩, ?_⟩
  ·rw [Kk] at e
   simp only [List.cons.injEq] at e
   rw [← e.1, ← h0,hL]
  ·rw [iD,Sl]
   rw [iD,Sk] at l2
   rw [← hab];exact l2
 ·have:=hi.en
  rw [iD,iD,Sk] at this
  rw [iD,iD,Sl, ← hab];exact this
 ·rw [List.map_append,List.map_append,hv,List.map_append]
  rw [List.map_append,List.map_append,hu,List.map_append] at fA
  simp only [List.map_cons,List.map_nil] at fA ⊢
  rw [← hab]
  have hold:∀c∈A++P.ins x++C,R c∉v.map R:=fun c hc hz=>by
   obtain ⟨g1,g2,g3⟩:=n2 _ hz
   rcases (hlo c hc).2 with h1|⟨_,h1⟩
   ·exact g3 h1
   ·rw [g1] at h1;exact hx h1
  refine EH fA n1 fun z hz=>⟨fun DT=> ?_,fun DT=> ?_,fun DT=> ?_⟩
  ·obtain ⟨c,hc,rfl⟩:=List.mem_map.1 DT
   exact hold c (by simp [hc]) hz
  ·exact hold a (by rw [hu];simp) (DT ▸ hz)
  ·obtain ⟨c,hc,rfl⟩:=List.mem_map.1 DT
   exact hold c (by simp [hc]) hz
 ·have hold:∀c∈A++P.ins x++C,R c≠f0∧(R c=f1∨(R c≠f1∧low (R c)∈D++ [x])):=fun c hc=>by
   obtain ⟨g1,g2⟩:=hlo c hc
   exact ⟨g1,g2.imp id fun ⟨g3,g4⟩=>⟨g3,List.mem_append.2 (.inl g4)⟩⟩
  simp only [List.mem_append] at hc
  rcases hc with (hc|hc)|hc
  ·exact hold c (by simp [hc])
  ·rw [hv,List.mem_append,List.mem_singleton] at hc
   rcases hc with hc|rfl
   ·obtain ⟨g1,g2,g3⟩:=n2 (R c) (List.mem_map_of_mem hc)
    exact ⟨g2, .inr ⟨g3,by rw [g1];simp⟩⟩
   ·have:=hold a (by rw [hu];simp)
    rw [hab] at this;exact this
  ·exact hold c (by simp [hc])
end
end Go.Ab
end
section
namespace Go.Ab
set_option maxRecDepth 10000
set_option linter.unusedSectionVars false
variable {P:PS}
inductive PS.Hh (P:PS) (x:Int):Int→Prop
 |refl:P.Hh x x
 |step {e:Int} :P.Hh x (P.tl e)→P.E e→P.Hh x (P.hd e)
theorem PS.Hh.trans {x y z:Int} (h1:P.Hh x y) (h2:P.Hh y z):P.Hh x z:=by
 induction h2 with
 |refl=>exact h1
 |step _ he ih=>exact .step ih he
inductive PS.Lp (P:PS) (L R:Int→Int) (F:Int):Int→Prop
 |refl:P.Lp L R F F
 |step {e:Int} :P.Lp L R F (L e)→P.E e→P.Lp L R F (R e)
theorem PS.Lp.trans {L R:Int→Int} {x y z:Int} (h1:P.Lp L R x y) (h2:P.Lp L R y z):P.Lp L R x z:=by
 induction h2 with
 |refl=>exact h1
 |step _ he ih=>exact .step ih he
theorem PS.Lp.head {L R:Int→Int} {e z:Int} (he:P.E e) (h2:P.Lp L R (R e) z):P.Lp L R (L e) z:=(PS.Lp.step .refl he).trans h2
theorem PS.Lp.Fg {L R:Int→Int} {x y:Int} (h1:P.Lp L R x y):P.Fg.Lp R L y x:=by
 induction h1 with
 |refl=>exact .refl
 | @step e h1 he ih=>exact PS.Lp.head (P:=P.Fg) (L:=R) (R:=L) (e:=e) he ih
theorem PS.Hh.Fg {x y:Int} (h1:P.Hh x y):P.Fg.Hh x y:=by
 induction h1 with
 |refl=>exact .refl
 |step h1 he ih=>exact PS.Hh.step (P:=P.Fg) ih he
section
variable (h:P.Ok)
include h
variable {L R:Int→Int} {f0 f1:Int} {low:Int→Int} (F:P.jT L R f0 f1 low)
include F
end
end Go.Ab
end
section
namespace Go.Ab
set_option maxRecDepth 10000
set_option linter.unusedSectionVars false
variable {P:PS}
section
variable (h:P.Ok) {L R:Int→Int} {f0 f1:Int} {low:Int→Int} (F:P.jT L R f0 f1 low)
include h F
end
section
variable (h:P.Ok) {L R:Int→Int} {f0 f1:Int} {low:Int→Int} (F:P.jT L R f0 f1 low) {e f:Int} (he:P.E e) (hf:P.E f)
include h F he hf
end
section
variable (h:P.Ok) {L R:Int→Int} {f0 f1:Int} {low:Int→Int} (F:P.jT L R f0 f1 low) {e f:Int} (he:P.E e) (hf:P.E f)
include h F he hf
end
end Go.Ab
end
section
namespace Go.Ab
open Go.Proofs
set_option maxRecDepth 10000
def xw (g:Gr) (p:Pl) (f:Fr) (x:Int):Fr:=(aN g f x (kU p x)).2
def NO (g:Gr) (p:Pl):Nat→Fr→Prop
 |0,f=>(f.pl.length:Int)=g.n
 |m+1,f=>∃x,aK g f x=true∧NO g p m (xw g p f x)
def NP (rev:Bool) (l:List It):List It:=if rev=true then l.reverse else l
def Hj (g:Gr) (f:Fr) (rev:Bool):Int:=match (NP rev f.row).find? (fun t=>aK g f t.2.2) with
 |some t=>t.2.2
 |none=>(K6 g f).headD (-1)
def Dh (g:Gr) (p:Pl) (rev:Bool):Nat→Fr
 |0=>⟨[], []⟩
 |k+1=>xw g p (Dh g p rev k) (Hj g (Dh g p rev k) rev)
def Di (g:Gr) (p:Pl) (rev:Bool):Nat→List Int
 |0=>List.replicate g.n.toNat 0
 |k+1=>(Di g p rev k).set (Hj g (Dh g p rev k) rev).toNat (k:Int)
def T6 (g:Gr) (p:Pl) (rev:Bool):List Int:=(List.range g.n.toNat).map fun k=>Hj g (Dh g p rev k) rev
end Go.Ab
end
section
namespace Go.Ab
open Go.Proofs
set_option maxRecDepth 10000
def T7 (f:Fr):Fr:=⟨f.row.reverse,f.pl⟩
def T8 (p:Pl):Pl:=⟨p.ord,p.outs.map List.reverse⟩
theorem gK.rev {x:Int} {l:List It} (h:gK x l):gK x l.reverse:=fun t ht=>h t (List.mem_reverse.1 ht)
theorem Ew.rev {x:Int} {X:List It} (h:Ew x X):Ew x X.reverse:=
 ⟨by obtain ⟨X',q,h1,h2⟩:=h.IZ;exact ⟨q,X'.reverse,by simp [h1],h2⟩,by obtain ⟨p,X',h1,h2⟩:=h.fst;exact ⟨X'.reverse,p,by simp [h1],h2⟩,fun t ht=>h.al t (List.mem_reverse.1 ht)⟩
end Go.Ab
end
section
namespace Go.Ab
open Go.Proofs
set_option maxRecDepth 10000
def loose (l:List It):List Int:=(l.filter fun t=>decide (t.1<0)).map fun t=>t.2.1
def NQ (g:Gr) (p:Pl):Nat→List Edge
 |0=> []
 |k+1=>NQ g p k++(loose (qx g p k)).map fun v=>(v,bJ p k)
def xx (g:Gr) (p:Pl):List It:=(fK g p g.n.toNat).row
def newL (g:Gr) (p:Pl):List Edge:=if 1<(xx g p).length then (loose (xx g p)).map fun v=>(v,g.n) else []
def NR (g:Gr) (p:Pl):List Edge:=NQ g p g.n.toNat++newL g p
def Hl (g:Gr) (p:Pl):Gr:=⟨if 1<(xx g p).length then g.n+1 else g.n,g.es++NR g p⟩
def NS:Nat→List Edge→List (List Int)→List (List Int)
 |_, [],O=>O
 |m,e::N,O=>NS (m+1) N (O.set e.1.toNat [(m:Int)])
def Re (g:Gr) (p:Pl):Pl:=⟨if 1<(xx g p).length then p.ord++ [g.n] else p.ord,NS g.es.length (NR g p) (if 1<(xx g p).length then p.outs++ [[]] else p.outs)⟩
def Ua (g:Gr) (p:Pl) (x:Gr):List (List Int):=(List.range x.n.toNat).map fun v=>if 0<(p.outs.getD v []).length then p.outs.getD v [] else dG x (v:Int)
end Go.Ab
end
section
namespace Go.Ab
open Go.Proofs
set_option maxRecDepth 10000
abbrev Act:=Int × List Int
def rA (a:Act):List D:= [.sc (.int .i64 a.1),sI a.2]
def sA (as':List Act):D:= .sl 2 (as'.map rA)
attribute [go_sem] sA
def NT (g:Gr) (Lb:List Act):Nat→Fr
 |0=>⟨[], []⟩
 |k+1=>(iW g (NT g Lb k) (Lb.getD k (0, [])).1 (Lb.getD k (0, [])).2).2
theorem NU {g:Gr} {f:Fr} (hi:iO g f):(f.pl.length:Int)≤g.n∨f.pl= []:=by
 by_cases h:f.pl= []
 ·exact .inr h
 ·left
  obtain ⟨y,hy⟩:=List.exists_mem_of_ne_nil _ h
  have:=hi.uV y hy
  have h3:=lS hi.pl (m:=(List.range g.n.toNat).map Int.ofNat) (fun y hy=>by
   rw [List.mem_map]
   have:=hi.uV y hy
   exact ⟨y.toNat,List.mem_range.2 (by omega),by simp;omega⟩)
  simp at h3
  omega
theorem Ax (g:Gr) (hm:aX g=true) (f:Fr) (hi:An g f) (x:Int) (outs:List Int) (hr:f.row.length≤300000) (hp:f.pl.length≤100000) (ho:outs.length≤17592186043904):
 Spec Tryz.prog 89 (Args [.ptr 10000 0,eN x, .d (sI outs)]) (oy g f) (.tup [.d (sT (iW g f x outs).1.1),eN (iW g f x outs).1.2]) (BY g (iW g f x outs).2):=by
 rw [← G2 hm hi.toiO]
 exact B0 g hm f x outs hr hp ho
end Go.Ab
end
