/- A part of the proof. -/
import Derived.RangeFuncBox
import Derived.RangeFuncLeaves
import Derived.Shelf.Abstract
import Derived.WalkKit
import Derived.OwnWalkIn
import Derived.TacticsInMore
import Derived.LoopNIn
import Derived.LoopIn
import Derived.Maps.AppendAt
import Derived.Sort.OwnSortedInts
import Derived.Test.YtameldglfobjkaaGreatL3P14
set_option linter.unusedSimpArgs false
set_option linter.unusedVariables false
section
namespace Go.Ab
open Go.Proofs Go.RowKit Go.Shelf Go.Sort
attribute [local go_sem] Oper.semAt_some
def upto {α:Type} (f:Nat→α) (k:Nat):List α:=(List.range k).map f
theorem wS {α:Type} (f:Nat→α) (k:Nat):upto f (k+1)=upto f k++ [f k]:=by simp [upto,List.range_succ]
theorem z6 {α:Type} (f:Nat→α) (k:Nat):(upto f k).length=k:=by simp [upto]
theorem Gw (zs:List Int):upto (fun j=>zs[j]?.getD 0) zs.length=zs:=by
 apply List.ext_getElem
 ·simp [upto]
 ·intro i h1 h2
  simp [upto,h2]
theorem D2 (zs:List Int) {k:Nat} (hk:k≤zs.length):upto (fun j=>zs[j]?.getD 0) k=zs.take k:=by
 apply List.ext_getElem
 ·simp [upto,hk]
 ·intro i h1 h2
  have:i<zs.length:=by simp [upto] at h1;omega
  simp [upto,this]
set_option maxRecDepth 100000 in
set_option maxHeartbeats 2000000 in
theorem BB (F:Fence) (n:Nat) (h7:F.fn 189) (hro:F.round=none) (hn:1≤n) (l Bs n₀ b off len cap:Nat) (zs:List Int) (jY:len*8≤140737488351232) (hb:b<n₀) (J Jx:List Int→World→Prop)
 (hY:∀pre x W,J pre W→pre.length<len→YieldAt F (n - 1) Tryz.prog l #[.int .i64 x] W fun e W'=>
   (e= .returned (.bool true)∧J (pre++ [x]) W'∧Below n₀ W W')∨(e= .returned (.bool false)∧Jx (pre++ [x]) W'))
 (W:World) (Gx:W.cell? ⟨Bs,0,none⟩=some (.slice (some ⟨b,off,none⟩) len cap)) (hc:∀j,j<len→W.cell? ⟨b,off+j,none⟩=some (.int .i64 (zs[j]?.getD 0))) (h0:J [] W):
 CallsIn F n Tryz.prog 189 #[.func (.yield l) #[] #[], .pointer (some ⟨Bs,0,none⟩)] W fun e W'=>(∃v,e= .returned v)∧
  ((∃ys,ys=upto (fun j=>zs[j]?.getD 0) len∧J ys W')∨(∃pre,(∃k,k≤len∧pre=upto (fun j=>zs[j]?.getD 0) k)∧Jx pre W')):=by
 refine callsIn_of_wp Tryz.func189 rfl h7 ?_ hro
 simp only [Tryz.ntmps189,List.size_toArray,List.length_cons,List.length_nil,Nat.reduceAdd,Nat.reduceSub,Array.replicate_succ,Array.replicate_zero,List.push_toArray,List.append_toArray,List.nil_append,List.cons_append]
 gi_wp2
 gi_loopw [7] (fun i wr=>∃k:Nat,k≤len∧i= .int .i64 k∧J (upto (fun j=>zs[j]?.getD 0) k) wr∧Below n₀ W wr)
  (fun i _=>len - (Go.Proofs.intOf i).toNat)
 case atStart=>exact ⟨0,Nat.zero_le _,rfl,h0,Below.refl _ _⟩
 case round=>
  obtain ⟨k,hk,rfl,OG,ef⟩:=hrel
  have Si:k<len→wr.cell? ⟨b,off+k,none⟩=some (.int .i64 (zs[k]?.getD 0)):=fun h=>(ef.cell (p:=⟨b,off+k,none⟩) hb).trans (hc k h)
  by_cases hlt:k<len
  ·obtain ⟨fn,tmps,assign,body,hy,hR⟩:=hY _ (zs[k]?.getD 0) wr OG (by rw [z6];exact hlt)
   have TT:=Si hlt
   gi_wp2
   refine hR.mono ?_
   rintro e W3 (⟨rfl,QL,Nr⟩|⟨rfl,QM⟩)
   ·gi_wp2
    go_roundw
    case rel=>exact ⟨k+1,by omega,by simp,by rw [wS];exact QL,ef.trans Nr⟩
    case measure=>simp [Go.Proofs.intOf];omega
   ·gi_wp2
    refine bodyPost_ret (results_none rfl _ _ _) rfl ?_
    exact ⟨⟨_,rfl⟩, .inr ⟨_,⟨k+1,by omega,(wS _ _).symm⟩,QM⟩⟩
  ·obtain rfl:k=len:=by omega
   gi_wp2
   go_end0
   exact ⟨⟨_,rfl⟩, .inl ⟨_,rfl,OG⟩⟩
def Ints (n₀:Nat) (W:World) (sv:Value) (zs:List Int):Prop:=
 (∃p c,sv= .slice p 0 c∧zs= [])∨∃b off cap,sv= .slice (some ⟨b,off,none⟩) zs.length cap∧b<n₀∧∀j,j<zs.length→W.cell? ⟨b,off+j,none⟩=some (.int .i64 (zs[j]?.getD 0))
theorem Ints.below {n₀:Nat} {A B:World} (h:Below n₀ A B) {sv:Value} {zs:List Int} :Ints n₀ A sv zs→Ints n₀ B sv zs
 | .inl e=> .inl e
 | .inr ⟨b,off,cap,e,hb,hc⟩=> .inr ⟨b,off,cap,e,hb,fun j hj=>(h.cell (p:=⟨b,off+j,none⟩) hb).trans (hc j hj)⟩
set_option maxRecDepth 100000 in
set_option maxHeartbeats 1000000 in
theorem uT (F:Fence) (n:Nat) (h7:F.fn 189) (hro:F.round=none) (l Bs:Nat) (p:Option Addr) (c:Nat) (J:List Int→World→Prop) (W:World) (Gx:W.cell? ⟨Bs,0,none⟩=some (.slice p 0 c)) (h0:J [] W):
 CallsIn F n Tryz.prog 189 #[.func (.yield l) #[] #[], .pointer (some ⟨Bs,0,none⟩)] W fun e W'=>(∃v,e= .returned v)∧J [] W':=by
 refine callsIn_of_wp Tryz.func189 rfl h7 ?_ hro
 simp only [Tryz.ntmps189,List.size_toArray,List.length_cons,List.length_nil,Nat.reduceAdd,Nat.reduceSub,Array.replicate_succ,Array.replicate_zero,List.push_toArray,List.append_toArray,List.nil_append,List.cons_append]
 gi_wp2
 gi_loopw [7] (fun i wr=>i= .int .i64 0∧J [] wr) (fun _ _=>0)
 case atStart=>exact ⟨rfl,h0⟩
 case round=>
  obtain ⟨rfl,OG⟩:=hrel
  gi_wp2
  go_end0
  exact ⟨⟨_,rfl⟩,OG⟩
theorem yw (F:Fence) (n:Nat) (h7:F.fn 189) (hro:F.round=none) (hn:1≤n) (Bs n₀:Nat) (sv:Value) (zs:List Int) (jY:zs.length*8≤140737488351232) (w:World) (Gx:Bs<w.heap.size) (hn₀:n₀≤w.heap.size)
 (hc:w.cell? ⟨Bs,0,none⟩=some sv) (hI:Ints n₀ w sv zs):
 SeqStopsK F n Tryz.prog 189 #[.pointer (some ⟨Bs,0,none⟩)] (fun x:Int=> #[Value.int .i64 x]) (Below n₀) (fun ys=>ys=zs) (fun pre=>pre<+:zs) zs.length w:=fun l J Jx W hW _ _ hY h0=>by
 have sX:=(hW.cell (p:=⟨Bs,0,none⟩) Gx).trans hc
 rcases hI.below (hW.mono hn₀) with ⟨p,c,rfl,rfl⟩|⟨b,off,cap,rfl,hb,hcs⟩
 ·exact (uT F n h7 hro l Bs p c J W sX h0).mono fun e W' ⟨he,hj⟩=>⟨he, .inl ⟨_,rfl,hj⟩⟩
 ·refine (BB F n h7 hro hn l Bs n₀ b off zs.length cap zs jY hb J Jx hY W sX hcs h0).mono ?_
  rintro e W' ⟨he,⟨ys,rfl,hj⟩|⟨pre,⟨k,hk,rfl⟩,hj⟩⟩
  ·exact ⟨he, .inl ⟨_,Gw zs,hj⟩⟩
  ·exact ⟨he, .inr ⟨_,by rw [D2 zs hk];exact List.take_prefix _ _,hj⟩⟩
theorem I3:(Tryz.prog.info? 3).map (fun i=>(i.zero,i.size,i.bytes))=some (some (.int .i64 0),1,8):=by kernel_rfl
set_option maxRecDepth 100000 in
set_option maxHeartbeats 2000000 in
theorem yx (F:Fence) (n:Nat) (h3:F.fn 203) (h5:F.fn 189) (hro:F.round=none) (hn:3≤n) (Bs:Nat) (sv:Value) (zs:List Int) (jY:zs.length*8≤140737488351232) (w:World) (Gx:Bs<w.heap.size)
 (hcs:w.cell? ⟨Bs,0,none⟩=some sv) (hI:Ints w.heap.size w sv zs):
 CallsIn F n Tryz.prog 203 #[.slice none 0 0, .func (.func 189) #[] #[.pointer (some ⟨Bs,0,none⟩)]] w fun e W'=>∃v,e= .returned v∧W'.ownsRow w.heap.size 3 1 v zs.length (zs.map (Value.int .i64))∧(v= .slice none 0 0↔zs= [])∧Below w.heap.size w W':=by
 have h1:1≤n:=by omega
 obtain ⟨i0,hi,IG,IV,DJ⟩:=info_parts I3
 refine callsIn_of_wp_marks Tryz.func203 rfl h3 ?_ hro
 simp only [Tryz.ntmps203,List.size_toArray,List.length_cons,List.length_nil,Nat.reduceAdd,Nat.reduceSub,Array.replicate_succ,Array.replicate_zero,List.push_toArray,List.append_toArray,List.nil_append,List.cons_append]
 gi_wp2
 have bO:=Boxed.new w 25 (.slice none 0 0)
 have QN:Below w.heap.size w (w.alloc (.cells #[.slice none 0 0] 25)):=(Below.refl _ w).alloc (Nat.le_refl _) _
 refine wpIn_rangeFunc_ownG hro h1 (gf:=189) (lb:= #[.pointer (some ⟨Bs,0,none⟩)]) rfl h5 (enters_of Tryz.func189 (by kernel_rfl) rfl)
  (yw F (n - 1) h5 hro (by omega) Bs w.heap.size sv zs jY _ (by simp;omega) (by simp) ((QN.cell (p:=⟨Bs,0,none⟩) Gx).trans hcs) (hI.below QN)) belowK_t (belowK_b (by simp)) (Below.refl _ _) (fun _=>rfl)
  (fun pre W=>(∃v,Boxed W w.heap.size 25 v∧W.ownsRow w.heap.size 3 1 v pre.length (pre.map (Value.int .i64))∧(v= .slice none 0 0↔pre= []))∧Below w.heap.size w W)
  (fun _ _ _=>False)
  (OwnFrom.and (Own.from (holdsRow_own w.heap.size w.heap.size 25 3 1 (fun pre=>pre.length) (fun pre=>pre.map (Value.int .i64)) (fun pre v=>v= .slice none 0 0↔pre= [])) _) (ownFrom_below (Nat.le_refl _) (by simp)))
  (fun _ _ _ _ _ hs _ _=>hs)
  ⟨⟨_,bO,World.ownsRow_nil _ _ _ _,by simp⟩,QN⟩
  (fun x=> {tmps:= #[.slice none 0 0, .func (.func 189) #[] #[.pointer (some ⟨Bs,0,none⟩)], .pointer (some ⟨w.heap.size,0,none⟩),undef, .slice none 0 0, .int .i64 x, .func (.func 189) #[] #[.pointer (some ⟨Bs,0,none⟩)], .int .i64 x,undef,undef,undef,undef,undef],defers:= []}) ?assign ?body ?done ?stop
 case assign=>
  intro l x W K hK
  gi_wp2
  exact hK
 case body=>
  rintro l pre x W ⟨⟨v,hv,hrow,sZ⟩,hB⟩ hlt
  have hc:=hv.cell
  have hml:maxLen=9223372036854775807:=rfl
  gi_wp2_with (gi_at_builtin;refine wpListIn_append_own _ rfl _ _ 25 rfl w.heap.size 3 i0 (.int .i64 0) 1 8 Tryz.underlying25 hi IG IV DJ rfl (by decide) _ _ _ rfl (hrow.alloc _) ⟨W.heap.size,0,none⟩ 1 1 [.int .i64 x] rfl rfl (cell_one_new _ _ _) (by simp [Value.oneCell']) (by omega) (by omega) (by have:=hB.size;simp;omega) ?_;intro v' w1 hown' hgrow _;obtain ⟨g',cap',rfl⟩:=ownsRow_succ hown';obtain ⟨A7,Bq,tg,hk2,az⟩:=hv.appended (by decide) hrow hB.size (Nat.le_refl _) hown' hgrow;have hc1:=A7.cell;have OE:=A7.frozen)
  exact ⟨hk2.from _,az,⟨_,Bq,by simpa using tg,by simp⟩,hB.trans az⟩
 case done=>
  rintro D ys W hD rfl ⟨⟨v,hv,hrow,sZ⟩,hB⟩ hK
  have hc:=hv.cell
  gi_wp2
  refine ⟨by simp, .inl ⟨_,_,rfl,run_takeDeferred hK, ?_⟩⟩
  exact ⟨_,results_tmp rfl _ _ _,v,rfl,ownsRow_putObj hrow _ hK rfl,sZ,hB.trans (belowK_b (w:=w) (Nat.le_refl _) W D _ _ (by simp at hD;omega) hK rfl rfl)⟩
 case stop=>
  rintro D c pre W _ _ h _
  exact h.elim
set_option maxRecDepth 100000 in
set_option maxHeartbeats 2000000 in
theorem BC (F:Fence) (n:Nat) (h2:F.fn 187) (h3:F.fn 203) (h5:F.fn 189) (hro:F.round=none) (hn:4≤n) (Bs:Nat) (sv:Value) (zs:List Int) (jY:zs.length*8≤140737488351232) (w:World) (Gx:Bs<w.heap.size)
 (hcs:w.cell? ⟨Bs,0,none⟩=some sv) (hI:Ints w.heap.size w sv zs):
 CallsIn F n Tryz.prog 187 #[.func (.func 189) #[] #[.pointer (some ⟨Bs,0,none⟩)]] w fun e W'=>∃v,e= .returned v∧W'.ownsRow w.heap.size 3 1 v zs.length (zs.map (Value.int .i64))∧(v= .slice none 0 0↔zs= [])∧Below w.heap.size w W':=by
 have h1:1≤n:=by omega
 refine callsIn_of_wp Tryz.func187 rfl h2 ?_ hro
 simp only [Tryz.ntmps187,List.size_toArray,List.length_cons,List.length_nil,Nat.reduceAdd,Nat.reduceSub,Array.replicate_succ,Array.replicate_zero,List.push_toArray,List.append_toArray,List.nil_append,List.cons_append]
 gi_wp2_with (gi_at_call 203;refine (yx F (n - 1) h3 h5 hro (by omega) Bs sv zs jY _ Gx hcs hI).mono ?_;rintro e W ⟨v,rfl,hrow,sZ,hb⟩)
 go_ret
 exact ⟨v,rfl,hrow,sZ,hb⟩
def iT (l:List Int):List Int:=l.mergeSort fun x y=>decide (x≤y)
set_option maxRecDepth 100000 in
set_option maxHeartbeats 2000000 in
theorem D3 (F:Fence) (n:Nat) (EO:F.fn 136) (h2:F.fn 187) (h3:F.fn 203) (h5:F.fn 189) (h9:F.fn 188) (hro:F.round=none) (hn:5≤n)
 (hsort:∀(blk off cap:Nat) (ss:List Int) (W:World),Holds (Value.int .i64) W blk off ss.toArray→blk<W.heap.size→ss.length<4611686018427387904→
   CallsIn F (n - 1) Tryz.prog 188 #[.slice (some ⟨blk,off,none⟩) ss.length cap] W fun e w'=>e= .returned (.tuple #[])∧∃k os,w'=grow (putRow (Value.int .i64) (Sort.ahead W k) blk off (ss.mergeSort fun x y=>decide (x≤y)).toArray) os)
 (hnone:∀(p:Option Addr) (cap:Nat) (W:World),CallsIn F (n - 1) Tryz.prog 188 #[.slice p 0 cap] W fun e w'=>e= .returned (.tuple #[])∧w'=W) (Bs:Nat) (sv:Value) (zs:List Int) (jY:zs.length*8≤140737488351232) (w:World) (Gx:Bs<w.heap.size)
 (hcs:w.cell? ⟨Bs,0,none⟩=some sv) (hI:Ints w.heap.size w sv zs):
 CallsIn F n Tryz.prog 136 #[.func (.func 189) #[] #[.pointer (some ⟨Bs,0,none⟩)]] w fun e W'=>∃v,e= .returned v∧W'.ownsRow w.heap.size 3 1 v zs.length ((iT zs).map (Value.int .i64))∧Below w.heap.size w W':=by
 have h1:1≤n:=by omega
 refine callsIn_of_wp Tryz.func136 rfl EO ?_ hro
 simp only [Tryz.ntmps136,List.size_toArray,List.length_cons,List.length_nil,Nat.reduceAdd,Nat.reduceSub,Array.replicate_succ,Array.replicate_zero,List.push_toArray,List.append_toArray,List.nil_append,List.cons_append]
 gi_wp2_with (gi_at_call 187;refine (BC F (n - 1) h2 h3 h5 hro (by omega) Bs sv zs jY _ Gx hcs hI).mono ?_;rintro e W ⟨v,rfl,hrow,sZ,hb⟩)
 rcases hrow.2 with ⟨rfl,hz⟩|⟨gb,cap,cur,rfl,hbase,QO,r1,r2,r3,r4⟩
 ·have hss:zs= []:=List.eq_nil_of_length_eq_zero hz
  subst hss
  have cS:=hnone none 0 W
  gi_wp2_with (gi_at_call 188;refine cS.mono ?_;rintro e w' ⟨rfl,rfl⟩)
  go_ret
  exact ⟨.slice none 0 0,rfl,by simpa [iT] using hrow,hb⟩
 ·have hH:Holds (Value.int .i64) W gb 0 zs.toArray:=holds_of_blockI QO (by simpa using r4)
  have v8:gb<W.heap.size:=(Array.getElem?_eq_some_iff.1 QO).1
  have hsz:zs.length<4611686018427387904:=by omega
  have cS:=hsort gb 0 cap zs W hH v8 hsz
  gi_wp2_with (gi_at_call 188;refine cS.mono ?_;rintro e w' ⟨rfl,nn,os,rfl⟩)
  go_ret
  exact ⟨_,rfl,ownsRow_sortedI (by simp [iT]) hbase QO r1 r2 r3,hb.grown (grownBy_sortedI _) hb.size (fun j hj=>by cases hj;exact hbase)⟩
theorem yy (Bs:Nat) (sv:Value) (zs:List Int) (jY:zs.length*8≤140737488351232) (w:World) (Gx:Bs<w.heap.size)
 (hcs:w.cell? ⟨Bs,0,none⟩=some sv) (hI:Ints w.heap.size w sv zs):
 Calls Tryz.prog 136 #[.func (.func 189) #[] #[.pointer (some ⟨Bs,0,none⟩)]] w fun e W'=>∃v,e= .returned v∧W'.ownsRow w.heap.size 3 1 v zs.length ((iT zs).map (Value.int .i64))∧Below w.heap.size w W':=
 (callsIn_wide (n:=5)).1 (D3 Fence.wide 5 trivial trivial trivial trivial trivial rfl (Nat.le_refl _)
   (fun blk off cap ss W h1 h2 h3=>callsIn_wide.2 (AnyM.slices_Sort_int Tryz.JT blk off cap ss W h1 h2 h3))
   (fun p cap W=>callsIn_wide.2 (AnyM.slices_Sort_int_none Tryz.JT p cap W)) Bs sv zs jY w Gx hcs hI)
end Go.Ab
end
section
namespace Go.Ab
open Go.Proofs Go.RowKit
attribute [local congr] ACall.congr gd.congr Nx.congr
set_option maxRecDepth 10000
def JU (E:Env) (w w':World):Env:=⟨E.ρ,E.σ,fun b=>if b<w.heap.size then E.z b else cO w' b⟩
theorem BD {m:List (Nat × AObj)} {E:Env} {w w':World} (hg:Good m E w) (hb:Below w.heap.size w w'):aL w E.z w' (JU E w w').z:=by
 intro b
 by_cases h:b<w.heap.size
 ·exact ⟨by simp [JU,h],fun o _=>hb.cell (p:=⟨b,o,none⟩) h⟩
 ·have h0:=hg.fresh b (by omega)
  exact ⟨by rw [h0];exact Nat.zero_le _,fun o ho=>by rw [h0] at ho;omega⟩
theorem Spec.Gy {P:Program} {f:Nat} {A:Env→World→List Value→Prop} {m:List (Nat × AObj)} {res:AV} (hR:bK m) (hc:x6 P f)
 (h:∀E w vals,Good m E w→A E w vals→Calls P f vals.toArray w fun e w'=>∃v,e= .returned v∧Below w.heap.size w w'∧cB w' (JU E w w') res v):Spec P f A m res m:=by
 refine ⟨hc,fun E w vals hg hA=>(h E w vals hg hA).mono ?_⟩
 rintro e w' ⟨v,rfl,hb,hv⟩
 have hst:=BD hg hb
 have mq:∀ {l o},bI m l=some o→look m l=some o:=fun hl=>(fZ (fun p hp=>hR.nest p hp) hl).1
 have hro:∀ {l o},bI m l=some o→o.ro=true:=fun hl=>hR.ro _ (aX (mq hl))
 refine ⟨v,JU E w w',rfl,⟨hb.os,hb.tape,hb.output,hb.size,hst,fun b h1 _=>⟨hb.block b h1,by simp [JU,h1]⟩,fun _ _=>⟨rfl,rfl⟩⟩,⟨hg.low,hg.inj,fun l o hl=> ?_,fun b h1=> ?_⟩,fun l o b hl h1=> ?_,hv⟩
 ·have h0:=hg.iJ l o hl
  have h1:=hro hl
  cases o<;>simp only [AObj.ro] at h1<;>try cases h1
  obtain ⟨b,vs,e,g1,g2,g3,g4,g5⟩:=h0
  have hlt:b<w.heap.size:=(Array.getElem?_eq_some_iff.1 g2).1
  exact ⟨b,vs,e,g1,(hb.block b hlt).trans g2,by simp [JU,hlt,g3],AVrs.mono ⟨hst,fun _ _=>rfl,fun _ _=>rfl⟩ (fun _ _=>trivial) (live:=fun _=>True) g4,g5⟩
 ·simp only [JU,cO]
  rw [if_neg (by have:=hb.size;omega),Array.getElem?_eq_none h1]
 ·rw [hro hl] at h1;cases h1
theorem BE {w:World} {z:Nat→Nat} {v:Value} {x:Int} (h:Rd w z v (.sc (.int .i64 x))):v= .int .i64 x:=by cases h;rfl
theorem I4 {w:World} {z:Nat→Nat} {v:Value} {l:List Int} (h:Rd w z v (sI l)):Ints w.heap.size w v l:=by
 generalize hx:sI l=x at h
 cases h with
 |sc v h=>cases hx
 |pt b off cells vs hz hc hr=>cases hx
 |nil p sz=>
  simp only [sI,D.sl.injEq,List.map_eq_nil_iff] at hx
  exact .inl ⟨p,0,rfl,hx.2⟩
 |sl b off n cap sz rows vs hn hsz hz hcap hc hr=>
  simp only [sI,D.sl.injEq] at hx
  obtain ⟨rfl,rfl⟩:=hx
  rw [List.length_map] at hn
  subst hn
  rcases Nat.eq_zero_or_pos l.length with h0|hpos
  ·exact .inl ⟨some ⟨b,off,none⟩,cap,by rw [h0],List.eq_nil_of_length_eq_zero h0⟩
  refine .inr ⟨b,off,cap,rfl, ?_,fun j hj=> ?_⟩
  ·have:=hc 0 (by omega)
   by_cases hlt:b<w.heap.size
   ·exact hlt
   ·exfalso
    simp [World.cell?,Array.getElem?_eq_none (Nat.le_of_not_lt hlt)] at this
  ·have h1:=hc j (by omega)
   have h2:=hr j 0 (rI l[j]) (.sc (.int .i64 l[j])) (by simp [List.getElem?_eq_getElem hj]) rfl
   have h3:=BE h2
   simp only [Nat.mul_one,Nat.add_zero] at h3
   rw [h1,h3]
   simp [List.getElem?_eq_getElem hj]
theorem D4 {w':World} {z:Nat→Nat} {base e:Nat} {v:Value} {l:List Int} (h:w'.ownsRow base e 1 v l.length (l.map (Value.int .i64))) (hz:∀b,base≤b→cO w' b≤z b):Rd w' z v (sI l):=by
 rcases h.2 with ⟨rfl,h0⟩|⟨g,cap,cur,rfl,h1,h2,h3,h4,h5,h6⟩
 ·have:l= []:=List.eq_nil_of_length_eq_zero h0
  subst this
  exact .nil _ _
 ·have QS:=hz g h1
  simp only [cO,h2] at QS
  refine .sl g 0 l.length cap 1 _ (fun k=> .int .i64 (l.getD k 0)) (by simp) (by simp [rI]) (by omega) h3 (fun k hk=> ?_) (fun i j r x hi hj=> ?_)
  ·have h7:(cur.toList.take (l.length*1))[k]? =(l.map (Value.int .i64))[k]? :=by rw [h6]
   rw [List.getElem?_take_of_lt hk,Array.getElem?_toList] at h7
   have bS:k<l.length:=by omega
   simp only [World.cell?,h2,Nat.zero_add,Option.isSome_none,Bool.false_eq_true,if_false,h7,List.getElem?_map,List.getElem?_eq_getElem bS,Option.map_some,List.getD_eq_getElem?_getD,Option.getD_some]
  ·rw [List.getElem?_map] at hi
   obtain ⟨y,hy,rfl⟩:=Option.map_eq_some_iff.1 hi
   cases j with
   |succ j=>simp [rI] at hj
   |zero=>
    simp only [rI,List.getElem?_cons_zero,Option.some.injEq] at hj
    subst hj
    simp only [Nat.mul_one,Nat.add_zero,List.getD_eq_getElem?_getD,hy,Option.getD_some]
    exact .sc _ rfl
theorem fQ (l:List Int):(iT l).length=l.length:=by simp [iT]
theorem QT (l:List Int):bK [(10000, .rob [.d (sI l)])]:=⟨by simp [AObj.ro],by simp [nodupM,look],by simp,by simp [AObj.ids,AV.ids,AV.idss]⟩
theorem cF (l:List Int) (hl:l.length≤17592186043904):Spec Tryz.prog 136 (Args [.fn 189 [] [.ptr 10000 0]]) [(10000, .rob [.d (sI l)])] (.d (sI (iT l))) [(10000, .rob [.d (sI l)])]:=by
 refine Spec.Gy (QT l) ⟨Tryz.f136,_,Tryz.func136,by kernel_rfl,rfl⟩ ?_
 intro E w vals hg hA
 obtain ⟨v,vs,rfl,h0,h3⟩:=hA
 obtain ⟨us,us',rfl,h1,h2⟩:=h0
 obtain ⟨u,Kt,rfl,h4,h5⟩:=h2
 obtain ⟨B,hB,rfl⟩:=h4
 simp only [AVrs] at h1 h5 h3
 subst h1 h5 h3
 obtain ⟨b,ws,e,g1,g2,g3,g4,g5⟩:=hg.iJ 10000 (.rob [.d (sI l)]) rfl
 obtain rfl:b=B:=by rw [g1] at hB;exact Option.some.inj hB
 obtain ⟨sv,Vn,rfl,g6,g7⟩:=g4
 simp only [AVrs] at g7
 subst g7
 have hlt:b<w.heap.size:=(Array.getElem?_eq_some_iff.1 g2).1
 refine (yy b sv l (by omega) w hlt (by simp [World.cell?,g2]) (I4 g6)).mono ?_
 rintro e w' ⟨v,rfl,hrow,hb⟩
 refine ⟨v,rfl,hb, ?_⟩
 rw [← fQ] at hrow
 exact D4 hrow fun b hb=>by simp only [JU];rw [if_neg (by omega)];exact Nat.le_refl _
end Go.Ab
end
section
namespace Go.Ab
open Go.Proofs
attribute [local congr] ACall.congr gd.congr Nx.congr
set_option maxRecDepth 10000
def Vo (l:List Int) (k:Nat):Bool:=(List.range k).all fun i=>decide (l.getD i 0=(i:Int))
def I5 (g:Gr) (names order:List Int) (k:Nat):List Edge:=(List.range k).map fun i=>(names.getD (g.es.getD (order.getD i 0).toNat (0,0)).1.toNat 0,names.getD (g.es.getD (order.getD i 0).toNat (0,0)).2.toNat 0)
def iM (g:Gr) (names order:List Int):Gr:=⟨g.n,I5 g names order order.length⟩
theorem z7 {g:Gr} {names order:List Int} {k:Nat} :(I5 g names order k).length=k:=by simp [I5]
def Ns (g:Gr) (names order:List Int):Bool:=aO g&&gL names g.n&&gL order g.es.length
def TU (g:Gr) (names order:List Int):Gr:=if Ns g names order then iM g names order else ⟨0, []⟩
end Go.Ab
end
section
namespace Go.Ab
def Ed (g:Gr) (a b:Int):Prop:=∃i,i<g.es.length∧tl g i=a∧hd g i=b
def Nt (g:Gr) (l:List Int):Prop:=∀i,i<l.length→Ed g (l.getD i 0) (l.getD ((i+1) % l.length) 0)
def Gz (g:Gr) (way:List Int) (at_:Int):Prop:=∀p,p<way.length→Ed g ((way++ [at_]).getD (p+1) 0) (way.getD p 0)
theorem rH {l:List Int} {a:Int} :(l++ [a]).getD l.length 0=a:=by
 rw [List.getD_eq_getElem?_getD,List.getElem?_append_right (Nat.le_refl _)];simp
theorem uU {g:Gr} (hm:aO g=true):∀(f:Nat) (way:List Int) (a:Nat),a<g.n.toNat→(a:Int)∉aN g→Gz g way a→left g way≤f→
 Gz g (lJ g (c9 g (aN g)) f way a).1 (lJ g (c9 g (aN g)) f way a).2∧0≤(lJ g (c9 g (aN g)) f way a).2∧(lJ g (c9 g (aN g)) f way a).2∈(lJ g (c9 g (aN g)) f way a).1
 |f,way,a,ha,hn,hc,hl=>by
  by_cases hmem:(a:Int)∈way
  ·rw [kD (.inr hmem)]
   exact ⟨hc,by simp only;omega,hmem⟩
  ·have hla:=jt ha hmem
   cases f with
   |zero=>omega
   |succ f=>
    obtain ⟨⟨i,hi,TV,pZ,Np⟩,_⟩:=uO hm (KU hm ha hn)
    have htr:=bL hm hi
    rw [pZ] at htr
    obtain ⟨b,Nq⟩:∃b:Nat,jM g (c9 g (aN g)) a=b:=⟨(jM g (c9 g (aN g)) a).toNat,by omega⟩
    rw [Nq] at Np htr pZ
    have e1:lJ g (c9 g (aN g)) (f+1) way a=lJ g (c9 g (aN g)) f (way++ [(a:Int)]) b:=by
     simp only [lJ];rw [if_neg (by intro h;rcases h with h|h;omega;exact hmem h),Nq]
    rw [e1]
    refine uU hm f (way++ [(a:Int)]) b (by omega) Np ?_ (by omega)
    intro p hp
    rw [List.length_append,List.length_singleton] at hp
    by_cases fD:p<way.length
    ·have:=hc p fD
     rw [gK (by simp;omega),gK fD]
     exact this
    ·have:p=way.length:=by omega
     subst this
     have e2:=rH (l:=way++ [(a:Int)]) (a:=(b:Int))
     rw [List.length_append,List.length_singleton] at e2
     rw [e2,rH]
     exact ⟨i,hi,pZ,TV⟩
theorem rJ {l:List Int} {k p:Nat} :(l.drop k).getD p 0=l.getD (k+p) 0:=by
 rw [List.getD_eq_getElem?_getD,List.getElem?_drop, ← List.getD_eq_getElem?_getD]
theorem Nt.IW {g:Gr} {l:List Int} (h:∀p,p<l.length→Ed g (l.getD ((p+1) % l.length) 0) (l.getD p 0)) (h0:0<l.length):Nt g (me l.reverse):=by
 have OF:0<l.reverse.length:=by simpa using h0
 obtain ⟨k,Bc,hk2,_⟩:=dW (jv OF)
 rw [List.length_reverse] at hk2
 have e1:me l.reverse=l.reverse.drop k++l.reverse.take k:=by simp only [me,Bc,Int.toNat_natCast]
 have hlen:(me l.reverse).length=l.length:=by rw [e1];simp;omega
 have hg:∀i,i<l.length→(me l.reverse).getD i 0=l.getD (l.length - 1 - (i+k) % l.length) 0:=by
  intro i hi
  rw [e1,List.getD_eq_getElem?_getD]
  by_cases hik:i<l.length - k
  ·rw [List.getElem?_append_left (by simp;omega),List.getElem?_drop,List.getElem?_reverse (by omega),Nat.mod_eq_of_lt (by omega), ← List.getD_eq_getElem?_getD]
   congr 1;omega
  ·rw [List.getElem?_append_right (by simp;omega),List.length_drop,List.length_reverse,List.getElem?_take,if_pos (by omega),List.getElem?_reverse (by omega), ← List.getD_eq_getElem?_getD]
   have:(i+k) % l.length=i+k - l.length:=by rw [Nat.mod_eq_sub_mod (by omega),Nat.mod_eq_of_lt (by omega)]
   rw [this];congr 1;omega
 intro i hi
 rw [hlen] at hi ⊢
 rw [hg i hi,hg _ (Nat.mod_lt _ h0)]
 have hmm:((i+1) % l.length+k) % l.length=((i+k) % l.length+1) % l.length:=by
  rw [Nat.mod_add_mod,Nat.mod_add_mod];congr 1;omega
 rw [hmm]
 have hj:=Nat.mod_lt (i+k) h0
 generalize (i+k) % l.length=j at hj ⊢
 by_cases wT:j+1<l.length
 ·rw [Nat.mod_eq_of_lt wT]
  have:=h (l.length - 1 - (j+1)) (by omega)
  rw [Nat.mod_eq_of_lt (by omega),show l.length - 1 - (j+1)+1=l.length - 1 - j from by omega] at this
  exact this
 ·have:j+1=l.length:=by omega
  rw [this,Nat.mod_self]
  have:=h (l.length - 1) (by omega)
  rw [show l.length - 1+1=l.length from by omega,Nat.mod_self] at this
  rw [show l.length - 1 - j=0 from by omega]
  exact this
def QU (g:Gr):Prop:=∃r:Int→Nat,∀i,i<g.es.length→r (tl g i)<r (hd g i)
theorem tr {g:Gr} (hm:aO g=true):oK g=true↔QU g:=by
 constructor
 ·intro h
  refine ⟨fun v=>((z1 g.n.toNat (aN g) (aN g).length).getD v.toNat 0).toNat,fun i hi=> ?_⟩
  have h1:=Gv (DY hm h) hi
  have h2:=uR (n:=g.n.toNat) (l:=aN g) (k:=(aN g).length) (y:=(tl g i).toNat)
  simp only;omega
 ·rintro ⟨r,hr⟩
  cases h:oK g with
  |true=>rfl
  |false=>
   exfalso
   obtain ⟨y,hy,hn⟩:=CE hm h
   have key:∀(p:Nat) (y:Nat),y<g.n.toNat→(y:Int)∉aN g→r y=p→False:=by
    intro p
    induction p using Nat.strongRecOn with
    |_ p ih=>
     intro y hy hn hp
     obtain ⟨t,i,hi,h1,rfl,h2⟩:=KU hm hy hn
     have htr:=bL hm hi
     have hlt:=hr i hi
     rw [h1,hp] at hlt
     have e:((tl g i).toNat:Int)=tl g i:=by omega
     exact ih (r (tl g i)) hlt (tl g i).toNat (by omega) (by rw [e];exact h2) (by rw [e])
   exact key _ y hy hn rfl
theorem CF {g:Gr} (hm:aO g=true) (h:oK g=true):kC g= []:=by
 have hall:=(cD.1 (qz hm h)).2
 have hn:=aM hm
 rcases start_eq hm with ⟨h1,h2⟩|⟨a,ha,h1,h2,h3⟩
 ·have:kB g=([], -1):=by
   unfold kB;rw [h1];exact kD (.inl (by omega)) _
  simp only [kC,this]
  rw [if_pos (by omega)]
 ·exact absurd (hall a (dX.2 (by omega))) h3
theorem uV {g:Gr} (hm:aO g=true) (h:oK g=false):0<(kC g).length∧Nt g (kC g):=by
 obtain ⟨y,hy,TW⟩:=CE hm h
 have hn:=aM hm
 rcases start_eq hm with ⟨h1,h2⟩|⟨a,ha,h1,h2,h3⟩
 ·exfalso
  rcases fO (f:=fun n:Int=>decide (0<n)) (l:=c9 g (aN g)) 0 with ⟨_,h4⟩|⟨k,h4,_⟩
  ·have h5:=(rD hm hy).2 TW
   have h6:=h4 ((c9 g (aN g)).getD y 0) (by rw [List.getD_eq_getElem?_getD,lH hy];exact List.mem_of_getElem? (lH hy))
   rw [mR hy] at h6
   exact absurd h5 (of_decide_eq_false h6)
  ·omega
 ·obtain ⟨h4,h5,h6⟩:=uU hm g.n.toNat [] a ha h3 (fun p hp=>by simp at hp) ym
  have hw:kB g=lJ g (c9 g (aN g)) g.n.toNat [] a:=by unfold kB;rw [h1]
  rw [← hw] at h4 h5 h6
  obtain ⟨k,Bc,hk2,Nr⟩:=dW h6
  have hc:kC g=me ((kB g).1.drop k).reverse:=by
   simp only [kC]
   rw [if_neg (by omega),Bc,Int.toNat_natCast]
  have hlen:((kB g).1.drop k).length=(kB g).1.length - k:=by simp
  have h0:0<((kB g).1.drop k).length:=by omega
  refine ⟨?_, ?_⟩
  ·rw [hc]
   simp only [me,List.length_append,List.length_drop,List.length_take,List.length_reverse]
   omega
  ·rw [hc]
   refine Nt.IW (fun p hp=> ?_) h0
   rw [hlen] at hp ⊢
   have h7:=h4 (k+p) (by omega)
   rw [rJ (p:=p)]
   by_cases wT:p+1<(kB g).1.length - k
   ·rw [Nat.mod_eq_of_lt wT,rJ]
    rw [gK (by omega)] at h7
    exact h7
   ·have:p+1=(kB g).1.length - k:=by omega
    rw [this,Nat.mod_self,rJ,Nat.add_zero,Nr]
    rw [show k+p+1=(kB g).1.length from by omega,rH] at h7
    exact h7
end Go.Ab
end
section
namespace Go.Ab
set_option maxRecDepth 10000
structure PS where
 m:Nat
 src:Int
 KY:Int
 tl:Int→Int
 hd:Int→Int
 ins:Int→List Int
 outs:Int→List Int
 Ig:Int→Nat
 Row:Nat→List Int→List Int→Prop
 k0:Nat
def PS.E (P:PS) (e:Int):Prop:=0≤e∧e<P.m
structure PS.Ok (P:PS):Prop where
 bE:∀x e,e∈P.outs x↔P.E e∧P.tl e=x
 bW:∀x e,e∈P.ins x↔P.E e∧P.hd e=x
 qA:∀x,(P.outs x).Nodup
 BF:∀x,(P.ins x).Nodup
 rK:∀e,P.E e→P.Ig (P.tl e)<P.Ig (P.hd e)
 I6:P.Row P.k0 (P.outs P.src) [P.src]
 mZ:∀ {k W D},P.Row k W D→W.Nodup
 dP:∀ {k W D},P.Row k W D→∀e,e∈W↔P.E e∧P.tl e∈D∧P.hd e∉D
 ng:∀ {k W D},P.Row (k+1) W D→∃x A C,W=A++P.ins x++C∧P.ins x≠ []
 qB:∀ {k W D x A C},P.Row k W D→W=A++P.ins x++C→P.ins x≠ []→∃k',k=k'+1∧P.Row k' (A++P.outs x++C) (D++ [x])
 nV:∀ {W D},P.Row 0 W D→∀e,P.E e→P.hd e∈D
 tu:∀ {k W D},P.Row k W D→P.src∈D
 tw:∀ {k W D},P.Row k W D→P.KY∈D→k=0
 uW:P.ins P.src= []
 qC:∀x,P.ins x≠ []→(P.outs x= []↔x=P.KY)
theorem rL {l:List Int} :l.reverse.Nodup↔l.Nodup:=(List.reverse_perm l).nodup_iff
def PS.EU (P:PS):PS:= {P with ins:=fun x=>(P.ins x).reverse,outs:=fun x=>(P.outs x).reverse,Row:=fun k W D=>P.Row k W.reverse D}
theorem PS.Ok.EU {P:PS} (h:P.Ok):P.EU.Ok:=
 {bE:=fun x e=>by show e∈(P.outs x).reverse↔_;rw [List.mem_reverse];exact h.bE x e
  bW:=fun x e=>by show e∈(P.ins x).reverse↔_;rw [List.mem_reverse];exact h.bW x e
  qA:=fun x=>by show (P.outs x).reverse.Nodup;exact rL.2 (h.qA x)
  BF:=fun x=>by show (P.ins x).reverse.Nodup;exact rL.2 (h.BF x)
  rK:=h.rK
  I6:=by show P.Row _ (P.outs P.src).reverse.reverse _;rw [List.reverse_reverse];exact h.I6
  mZ:=fun {k W D} hr=>rL.1 (h.mZ (show P.Row k W.reverse D from hr))
  dP:=fun {k W D} hr e=>by
   have:=h.dP (show P.Row k W.reverse D from hr) e
   rw [List.mem_reverse] at this
   exact this
  ng:=fun {k W D} hr=>by
   obtain ⟨x,A,C,h1,h2⟩:=h.ng (show P.Row (k+1) W.reverse D from hr)
   refine ⟨x,C.reverse,A.reverse, ?_,fun h3=>h2 (List.reverse_eq_nil_iff.1 h3)⟩
   show W=C.reverse++(P.ins x).reverse++A.reverse
   rw [← List.reverse_reverse W,h1]
   simp
  qB:=fun {k W D x A C} hr h1 h2=>by
   have h1:W=A++(P.ins x).reverse++C:=h1
   obtain ⟨k',h3,h4⟩:=h.qB (x:=x) (A:=C.reverse) (C:=A.reverse) (show P.Row k W.reverse D from hr) (by rw [h1];simp) (fun h3=>h2 (List.reverse_eq_nil_iff.2 h3))
   refine ⟨k',h3, ?_⟩
   show P.Row k' (A++(P.outs x).reverse++C).reverse (D++ [x])
   have e:(A++(P.outs x).reverse++C).reverse=C.reverse++P.outs x++A.reverse:=by simp
   rw [e];exact h4
  nV:=fun {W D} hr=>h.nV (show P.Row 0 W.reverse D from hr)
  tu:=fun {k W D} hr=>h.tu (show P.Row k W.reverse D from hr)
  tw:=fun {k W D} hr=>h.tw (show P.Row k W.reverse D from hr)
  uW:=by show (P.ins P.src).reverse= [];rw [h.uW];rfl
  qC:=fun x hx=>by
   have h2:P.ins x≠ []:=fun h3=>hx (by show (P.ins x).reverse= [];rw [h3];rfl)
   show (P.outs x).reverse= []↔_
   rw [List.reverse_eq_nil_iff];exact h.qC x h2}
structure MS where
 A:List Int
 B:List Int
 D:List Int
def PS.next (P:PS) (s:MS):MS:=
 match s.B with
 | []=>s
 |e::B=>if P.ins (P.hd e)<:+s.A++ [e] then ⟨(s.A++ [e]).take (s.A.length+1 - (P.ins (P.hd e)).length),P.outs (P.hd e)++B,s.D++ [P.hd e]⟩ else ⟨s.A++ [e],B,s.D⟩
def PS.st (P:PS):Nat→MS
 |0=>⟨[],P.outs P.src, [P.src]⟩
 |j+1=>P.next (P.st j)
def PS.sh (P:PS) (j:Nat):Int:=(P.st j).B.headD 0
def PS.rM (P:PS) (j:Nat):List Int:=(List.range j).map P.sh
variable {P:PS}
theorem PS.uX {j:Nat} :P.rM (j+1)=P.rM j++ [P.sh j]:=by simp [PS.rM,List.range_succ]
theorem PS.tA {j:Nat} :(P.rM j).length=j:=by simp [PS.rM]
theorem PS.yz {j:Nat} {e:Int} :e∈P.rM j↔∃i,i<j∧P.sh i=e:=by simp [PS.rM]
structure PS.Inv (P:PS) (j:Nat) (s:MS):Prop where
 row:∃k,P.Row k (s.A++s.B) s.D
 no:∀h,P.ins h≠ []→¬P.ins h<:+:s.A
 nd:(P.rM j).Nodup
 sh:∀e,e∈P.rM j↔P.E e∧(e∈s.A∨P.hd e∈s.D)
 len:j≤P.m
theorem gq:∀ {l m:List Int},l.Nodup→(∀i∈l,i∈m)→l.length≤m.length
 | [],_,_,_=>Nat.zero_le _
 |a::l,m,hn,h=>by
  rw [List.nodup_cons] at hn
  have ha:=h a (List.mem_cons_self ..)
  have:=gq (m:=m.erase a) hn.2 fun i hi=>(List.mem_erase_of_ne (show i≠a from fun e=>hn.1 (by rw [← e];exact hi))).2 (h i (List.mem_cons_of_mem _ hi))
  rw [List.length_erase_of_mem ha] at this
  have:=List.length_pos_of_mem ha
  rw [List.length_cons];omega
theorem rN {l:List Int} {m:Nat} (hall:∀e:Int,0≤e→e<m→e∈l):m≤l.length:=by
 have:=gq (l:=(List.range m).map Int.ofNat) (m:=l) (List.pairwise_map.2 (List.nodup_range.imp fun hab e=>hab (Int.ofNat.inj e))) fun x hx=>by
  obtain ⟨a,ha,rfl⟩:=List.mem_map.1 hx
  have:=List.mem_range.1 ha
  exact hall _ (by simp) (by simp;omega)
 simpa using this
theorem z8 {X Y:List Int} (h:X<:+Y):Y=Y.take (Y.length - X.length)++X:=by
 obtain ⟨t,rfl⟩:=h
 simp
theorem PS.Inv.more (h:P.Ok) {j:Nat} {s:MS} (hi:P.Inv j s) (hj:j<P.m):∃e B,s.B=e::B:=by
 cases hB:s.B with
 |cons e B=>exact ⟨e,B,rfl⟩
 |nil=>
  exfalso
  obtain ⟨k,hr⟩:=hi.row
  rw [hB,List.append_nil] at hr
  cases k with
  |succ k=>
   obtain ⟨x,A,C,h1,h2⟩:=h.ng hr
   exact hi.no x h2 ⟨A,C,h1.symm⟩
  |zero=>
   have hall:∀e,P.E e→e∈P.rM j:=fun e he=>(hi.sh e).2 ⟨he, .inr (h.nV hr e he)⟩
   have:=rN (fun e h1 h2=>hall e ⟨h1,h2⟩)
   rw [PS.tA] at this
   omega
theorem PS.D5 {s:MS} {e:Int} {B:List Int} (hB:s.B=e::B):P.next s=if P.ins (P.hd e)<:+s.A++ [e] then ⟨(s.A++ [e]).take (s.A.length+1 - (P.ins (P.hd e)).length),P.outs (P.hd e)++B,s.D++ [P.hd e]⟩ else ⟨s.A++ [e],B,s.D⟩:=by
 unfold PS.next;rw [hB]
theorem PS.uY (h:P.Ok) {s:MS} {k:Nat} {e:Int} {B:List Int} (hr:P.Row k (s.A++s.B) s.D) (hB:s.B=e::B):
 P.E e∧((∃A',s.A++ [e]=A'++P.ins (P.hd e)∧P.ins (P.hd e)≠ []∧P.next s=⟨A',P.outs (P.hd e)++B,s.D++ [P.hd e]⟩)∨(¬P.ins (P.hd e)<:+s.A++ [e]∧P.next s=⟨s.A++ [e],B,s.D⟩)):=by
 have he:P.E e:=((h.dP hr e).1 (by rw [hB];simp)).1
 refine ⟨he, ?_⟩
 rw [PS.D5 hB]
 by_cases hs:P.ins (P.hd e)<:+s.A++ [e]
 ·rw [if_pos hs]
  refine .inl ⟨_, ?_,fun h0=> ?_,rfl⟩
  ·have:=z8 hs
   simpa using this
  ·have:=(h.bW (P.hd e) e).2 ⟨he,rfl⟩
   rw [h0] at this;cases this
 ·rw [if_neg hs];exact .inr ⟨hs,rfl⟩
theorem BG {X A:List Int} {e:Int} (h:X<:+:A++ [e]):X<:+:A∨X<:+A++ [e]:=by
 obtain ⟨s,t,ht⟩:=h
 rcases List.eq_nil_or_concat t with rfl|⟨t',a,rfl⟩
 ·rw [List.append_nil] at ht;exact .inr ⟨s,ht⟩
 ·left
  refine ⟨s,t', ?_⟩
  have:s++X++t'++ [a]=A++ [e]:=by rw [← ht];simp
  exact (List.append_inj' this rfl).1
theorem PS.inv (h:P.Ok):∀j,j≤P.m→P.Inv j (P.st j)
 |0,_=>⟨⟨_,h.I6⟩,fun x hx hs=>hx (by
    have:P.ins x<:+: []:=hs
    simpa using this),by simp [PS.rM],fun e=>(by
     simp only [PS.rM,List.range_zero,List.map_nil,List.not_mem_nil,false_iff]
     rintro ⟨he,h1|h1⟩
     ·cases h1
     ·have h1:P.hd e∈ [P.src]:=h1
      have h2:P.hd e=P.src:=by simpa using h1
      have:=(h.bW P.src e).2 ⟨he,h2⟩
      rw [h.uW] at this;cases this),Nat.zero_le _⟩
 |j+1,hj=>by
  have hi:=PS.inv h j (by omega)
  obtain ⟨e,B,hB⟩:=hi.more h (by omega)
  obtain ⟨k,hr⟩:=hi.row
  have hsh:P.sh j=e:=by unfold PS.sh;rw [hB];rfl
  have TX:e∈(P.st j).A++(P.st j).B:=by rw [hB];simp
  have hm:=(h.dP hr e).1 TX
  have cC:=h.mZ hr
  have TY:e∉(P.st j).A:=fun hA=>by
   rw [List.nodup_append] at cC
   exact cC.2.2 e hA e (by rw [hB];simp) rfl
  have hnew:e∉P.rM j:=fun h1=>by
   rcases ((hi.sh e).1 h1).2 with h2|h2
   ·exact TY h2
   ·exact hm.2.2 h2
  have Nu:(P.rM (j+1)).Nodup:=by
   rw [PS.uX,hsh,List.nodup_append]
   exact ⟨hi.nd,by simp,fun a ha b hb=>by
    rw [List.mem_singleton] at hb
    subst hb
    intro e2;exact hnew (e2 ▸ ha)⟩
  obtain ⟨he,hc⟩:=PS.uY h hr hB
  have hst:P.st (j+1)=P.next (P.st j):=rfl
  rw [hst]
  rcases hc with ⟨A',h1,h2,h3⟩|⟨h1,h3⟩
  ·rw [h3]
   have hrow:(P.st j).A++(P.st j).B=A'++P.ins (P.hd e)++B:=by rw [hB, ← h1];simp
   obtain ⟨k',rfl,hr'⟩:=h.qB hr hrow h2
   refine ⟨⟨k',by simpa using hr'⟩,fun x hx hs=> ?_,Nu,fun f=> ?_,hj⟩
   ·have hs:P.ins x<:+:A':=hs
    have hA:¬P.ins x<:+:(P.st j).A:=hi.no x hx
    obtain ⟨u,v,huv⟩:=hs
    rcases List.eq_nil_or_concat (P.ins (P.hd e)) with h0|⟨I',a,h0⟩
    ·exact h2 h0
    ·rw [h0, ← List.concat_eq_append,List.concat_eq_append] at h1
     have h4:(P.st j).A++ [e]=(A'++I')++ [a]:=by rw [h1];simp
     have h5:=(List.append_inj' h4 rfl).1
     exact hA ⟨u,v++I',by rw [h5, ← huv];simp⟩
   ·rw [PS.uX,hsh,List.mem_append,List.mem_singleton,hi.sh f]
    show _↔P.E f∧(f∈A'∨P.hd f∈(P.st j).D++ [P.hd e])
    constructor
    ·rintro (⟨h4,h5|h5⟩|rfl)
     ·have:f∈A'++P.ins (P.hd e):=by rw [← h1];exact List.mem_append.2 (.inl h5)
      rcases List.mem_append.1 this with h6|h6
      ·exact ⟨h4, .inl h6⟩
      ·exact ⟨h4, .inr (by rw [((h.bW _ _).1 h6).2];simp)⟩
     ·exact ⟨h4, .inr (List.mem_append.2 (.inl h5))⟩
     ·exact ⟨he, .inr (by simp)⟩
    ·rintro ⟨h4,h5|h5⟩
     ·have:f∈(P.st j).A++ [e]:=by rw [h1];exact List.mem_append.2 (.inl h5)
      rcases List.mem_append.1 this with h6|h6
      ·exact .inl ⟨h4, .inl h6⟩
      ·exact .inr (by simpa using h6)
     ·rcases List.mem_append.1 h5 with h6|h6
      ·exact .inl ⟨h4, .inr h6⟩
      ·have h6:P.hd f=P.hd e:=by simpa using h6
       have h7:f∈P.ins (P.hd e):=(h.bW _ _).2 ⟨h4,h6⟩
       have:f∈(P.st j).A++ [e]:=by rw [h1];exact List.mem_append.2 (.inr h7)
       rcases List.mem_append.1 this with h8|h8
       ·exact .inl ⟨h4, .inl h8⟩
       ·exact .inr (by simpa using h8)
  ·rw [h3]
   refine ⟨⟨k,by simpa [hB] using hr⟩,fun x hx hs=> ?_,Nu,fun f=> ?_,hj⟩
   ·rcases BG hs with h4|h4
    ·exact hi.no x hx h4
    ·have hne:e∈P.ins x:=by
      obtain ⟨t,ht⟩:=h4
      rcases List.eq_nil_or_concat (P.ins x) with h0|⟨I',a,h0⟩
      ·exact absurd h0 hx
      ·rw [h0] at ht
       have h5:(t++I')++ [a]=(P.st j).A++ [e]:=by rw [← ht];simp
       have:=(List.append_inj' h5 rfl).2
       rw [h0];simp at this ⊢;exact .inr this.symm
     rw [((h.bW _ _).1 hne).2] at h1
     exact h1 h4
   ·rw [PS.uX,hsh,List.mem_append,List.mem_singleton,hi.sh f]
    show _↔P.E f∧(f∈(P.st j).A++ [e]∨P.hd f∈(P.st j).D)
    rw [List.mem_append,List.mem_singleton]
    constructor
    ·rintro (⟨h4,h5|h5⟩|rfl)
     ·exact ⟨h4, .inl (.inl h5)⟩
     ·exact ⟨h4, .inr h5⟩
     ·exact ⟨he, .inl (.inr rfl)⟩
    ·rintro ⟨h4,(h5|h5)|h5⟩
     ·exact .inl ⟨h4, .inl h5⟩
     ·exact .inr h5
     ·exact .inl ⟨h4, .inr h5⟩
end Go.Ab
end
section
namespace Go.Ab
set_option maxRecDepth 10000
set_option linter.unusedSectionVars false
variable {P:PS}
structure PS.iH (P:PS) (L R:Int→Int) (f0 f1:Int) (low:Int→Int):Prop where
 ne:f0≠f1
 fk:∀ {x u a b v},P.outs x=u++a::b::v→R a=L b
 lN:∀ {x u a b v},P.ins x=u++a::b::v→R a=L b
 fst:∀ {x a u b v},P.ins x=a::u→P.outs x=b::v→L a=L b
 EV:∀ {x a u b v},P.ins x=u++ [a]→P.outs x=v++ [b]→R a=R b
 s0:∀ {b v},P.outs P.src=b::v→L b=f0
 s1:∀ {b v},P.outs P.src=v++ [b]→R b=f1
 new:∀ {x u a b v},P.outs x=u++a::b::v→low (R a)=x∧R a≠f0∧R a≠f1
 new1:∀ {x u a b v u' a' b' v'},P.outs x=u++a::b::v→P.outs x=u'++a'::b'::v'→R a=R a'→a=a'
theorem GA {l u v u' v':List Int} {a:Int} (hn:l.Nodup) (h1:l=u++a::v) (h2:l=u'++a::v'):u=u'∧v=v':=by
 induction u generalizing l u' with
 |nil=>
  cases u' with
  |nil=>rw [h1] at h2;simpa using h2
  |cons b u'=>
   rw [h1] at h2
   simp only [List.nil_append,List.cons_append,List.cons.injEq] at h2
   rw [h1,h2.2] at hn
   simp at hn
 |cons b u ih=>
  cases u' with
  |nil=>
   rw [h2] at h1
   simp only [List.nil_append,List.cons_append,List.cons.injEq] at h1
   rw [h2,h1.2] at hn
   simp at hn
  |cons b' u'=>
   have h3:=h1.symm.trans h2
   simp only [List.cons_append,List.cons.injEq] at h3
   rw [h1,List.cons_append,List.nodup_cons] at hn
   obtain ⟨h4,h5⟩:=ih hn.2 rfl h3.2
   exact ⟨by rw [h3.1,h4],h5⟩
theorem jj {l u v:List Int} {a b:Int} (h:l.reverse=u++a::b::v):l=v.reverse++b::a::u.reverse:=by
 have:=congrArg List.reverse h
 simpa using this
theorem PS.iH.EU (h:P.Ok) {L R:Int→Int} {f0 f1:Int} {low:Int→Int} (F:P.iH L R f0 f1 low):P.EU.iH R L f1 f0 low:=
 {ne:=F.ne.symm
  fk:=fun {x u a b v} h=>(F.fk (jj (show (P.outs x).reverse=_ from h))).symm
  lN:=fun {x u a b v} h=>(F.lN (jj (show (P.ins x).reverse=_ from h))).symm
  fst:=fun {x a u b v} h1 h2=>F.EV (x:=x) (u:=u.reverse) (v:=v.reverse) (by
     have:=congrArg List.reverse (show (P.ins x).reverse=_ from h1);simpa using this) (by
     have:=congrArg List.reverse (show (P.outs x).reverse=_ from h2);simpa using this)
  EV:=fun {x a u b v} h1 h2=>F.fst (x:=x) (u:=u.reverse) (v:=v.reverse) (by
    have:=congrArg List.reverse (show (P.ins x).reverse=_ from h1);simpa using this) (by
    have:=congrArg List.reverse (show (P.outs x).reverse=_ from h2);simpa using this)
  s0:=fun {b v} h1=>F.s1 (v:=v.reverse) (by
     have:=congrArg List.reverse (show (P.outs P.src).reverse=_ from h1);simpa using this)
  s1:=fun {b v} h1=>F.s0 (v:=v.reverse) (by
     have:=congrArg List.reverse (show (P.outs P.src).reverse=_ from h1);simpa using this)
  new:=fun {x u a b v} h1=>by
   have h2:=jj (show (P.outs x).reverse=_ from h1)
   obtain ⟨h3,h4,h5⟩:=F.new h2
   have h6:=F.fk h2
   rw [← h6];exact ⟨h3,h5,h4⟩
  new1:=fun {x u a b v u' a' b' v'} h1 h2 h3=>by
   have g1:=jj (show (P.outs x).reverse=_ from h1)
   have g2:=jj (show (P.outs x).reverse=_ from h2)
   rw [← F.fk g1, ← F.fk g2] at h3
   have h4:=F.new1 g1 g2 h3
   subst h4
   have:=(GA (h.qA x) g1 g2).2
   simp only [List.cons.injEq] at this
   exact this.1}
def gV (L R:Int→Int):Int→List Int→Prop
 |_, []=>True
 |f,a::W=>L a=f∧gV L R (R a) W
def jc (R:Int→Int):Int→List Int→Int
 |f, []=>f
 |_,a::W=>jc R (R a) W
theorem b9 {L R:Int→Int} :∀ {A B:List Int} {f:Int},gV L R f (A++B)↔gV L R f A∧gV L R (jc R f A) B
 | [],B,f=>by simp [gV,jc]
 |a::A,B,f=>by simp [gV,jc,b9,and_assoc]
theorem cT {R:Int→Int} :∀ {A B:List Int} {f:Int},jc R f (A++B)=jc R (jc R f A) B
 | [],B,f=>rfl
 |a::A,B,f=>by simp [jc,cT]
theorem dw {R:Int→Int} {A:List Int} {a f:Int} :jc R f (A++ [a])=R a:=by rw [cT];rfl
theorem qD {L R:Int→Int} :∀ {X:List Int} {f:Int},(∀u a b v,X=u++a::b::v→R a=L b)→(∀a u,X=a::u→L a=f)→gV L R f X
 | [],f,_,_=>trivial
 |a::X,f,h,h1=>⟨h1 a X rfl,qD (fun u b c v e=>h (a::u) b c v (by rw [e];rfl)) fun b v e=>(h [] a b v (by rw [e];rfl)).symm⟩
theorem GB {L R:Int→Int} {f:Int} {u v:List Int} {a b:Int} (h:gV L R f (u++a::b::v)):R a=L b:=by
 have:=(b9.1 h).2
 exact this.2.1.symm
theorem cG {l:List Int} (h:l≠ []):∃u a,l=u++ [a]:=by
 rcases List.eq_nil_or_concat l with h1|⟨u,a,h1⟩
 ·exact absurd h1 h
 ·exact ⟨u,a,by rw [h1,List.concat_eq_append]⟩
theorem fM {l:List Int} (h:l≠ []):∃a u,l=a::u:=by
 cases l with
 |nil=>exact absurd rfl h
 |cons a u=>exact ⟨a,u,rfl⟩
structure Aa (L R:Int→Int) (f0 f1:Int) (low:Int→Int) (W D:List Int):Prop where
 lk:gV L R f0 W
 en:jc R f0 W=f1
 nd:(W.map R).Nodup
 lo:∀a∈W,R a≠f0∧(R a=f1∨(R a≠f1∧low (R a)∈D))
theorem D6 {X U V Y:List Int} {r:Int} (h:(X++(U++ [r])++Y).Nodup) (hV:V.Nodup) (hd:∀z∈V,z∉X∧z≠r∧z∉Y):(X++(V++ [r])++Y).Nodup:=by
 have h1:(X++ [r]++Y).Nodup:=by
  refine List.Nodup.sublist ?_ h
  refine List.Sublist.append (List.Sublist.append (List.Sublist.refl _) ?_) (List.Sublist.refl _)
  exact List.sublist_append_right ..
 have h2:(V++(X++ [r]++Y)).Nodup:=by
  rw [List.nodup_append]
  refine ⟨hV,h1,fun a ha b hb e=> ?_⟩
  subst e
  obtain ⟨g1,g2,g3⟩:=hd a ha
  simp only [List.mem_append,List.mem_singleton] at hb
  rcases hb with (hb|hb)|hb
  ·exact g1 hb
  ·exact g2 hb
  ·exact g3 hb
 refine (List.Perm.nodup_iff ?_).1 h2
 have:X++(V++ [r])++Y=(X++V)++([r]++Y):=by simp
 rw [this]
 have:V++(X++ [r]++Y)=(V++X)++([r]++Y):=by simp
 rw [this]
 exact List.Perm.append_right _ List.perm_append_comm
theorem oL {R:Int→Int} :∀ {l:List Int},l.Nodup→(∀a∈l,∀b∈l,R a=R b→a=b)→(l.map R).Nodup
 | [],_,_=>by simp
 |a::l,hn,h=>by
  rw [List.nodup_cons] at hn
  rw [List.map_cons,List.nodup_cons]
  refine ⟨fun hm=> ?_,oL hn.2 fun x hx y hy=>h x (List.mem_cons_of_mem _ hx) y (List.mem_cons_of_mem _ hy)⟩
  obtain ⟨b,hb,e⟩:=List.mem_map.1 hm
  have:=h b (List.mem_cons_of_mem _ hb) a (List.mem_cons_self ..) e
  exact hn.1 (this ▸ hb)
section
variable (h:P.Ok) {L R:Int→Int} {f0 f1:Int} {low:Int→Int} (F:P.iH L R f0 f1 low)
include h F
theorem pE {v:List Int} {b:Int} {x:Int} (hv:P.outs x=v++ [b]) {a:Int} (ha:a∈v):∃u c w,P.outs x=u++a::c::w:=by
 obtain ⟨s,t,rfl⟩:=List.append_of_mem ha
 cases t with
 |nil=>exact ⟨s,b, [],by rw [hv];simp⟩
 |cons c t=>exact ⟨s,c,t++ [b],by rw [hv];simp⟩
theorem wU {x f:Int} (hf:∀b v,P.outs x=b::v→L b=f):gV L R f (P.outs x):=qD (fun u a b v e=>F.fk e) fun a u e=>hf a u e
theorem GC {x f:Int} (hf:∀b v,P.ins x=b::v→L b=f):gV L R f (P.ins x):=qD (fun u a b v e=>F.lN e) fun a u e=>hf a u e
theorem CG {x:Int} {v:List Int} {b:Int} (hv:P.outs x=v++ [b]):(v.map R).Nodup∧∀z∈v.map R,low z=x∧z≠f0∧z≠f1:=by
 have hn:=h.qA x
 rw [hv,List.nodup_append] at hn
 refine ⟨oL hn.1 fun a ha a' DA e=> ?_,fun z hz=> ?_⟩
 ·obtain ⟨u,c,w,h1⟩:=pE h F hv ha
  obtain ⟨u',c',w',h2⟩:=pE h F hv DA
  exact F.new1 h1 h2 e
 ·obtain ⟨a,ha,rfl⟩:=List.mem_map.1 hz
  obtain ⟨u,c,w,h1⟩:=pE h F hv ha
  exact F.new h1
theorem Aa.start (hne:P.outs P.src≠ []):Aa L R f0 f1 low (P.outs P.src) [P.src]:=by
 obtain ⟨v,b,hv⟩:=cG hne
 obtain ⟨n1,n2⟩:=CG h F hv
 have hb:=F.s1 hv
 refine ⟨wU h F fun b v e=>F.s0 e,by rw [hv,dw,hb], ?_,fun a ha=> ?_⟩
 ·rw [hv,List.map_append,List.nodup_append]
  refine ⟨n1,by simp,fun z hz y hy e=> ?_⟩
  simp only [List.map_cons,List.map_nil,List.mem_singleton] at hy
  exact (n2 z hz).2.2 (by rw [e,hy,hb])
 ·rw [hv,List.mem_append,List.mem_singleton] at ha
  rcases ha with ha|rfl
  ·obtain ⟨g1,g2,g3⟩:=n2 (R a) (List.mem_map_of_mem ha)
   exact ⟨g2, .inr ⟨g3,by rw [g1];simp⟩⟩
  ·exact ⟨by rw [hb];exact F.ne.symm, .inl hb⟩
theorem Aa.step {A C D:List Int} {x:Int} (hi:Aa L R f0 f1 low (A++P.ins x++C) D) (hI:P.ins x≠ []) (hO:P.outs x≠ []) (hx:x∉D):Aa L R f0 f1 low (A++P.outs x++C) (D++ [x]):=by
 obtain ⟨u,a,hu⟩:=cG hI
 obtain ⟨v,b,hv⟩:=cG hO
 obtain ⟨a0,u0,EW⟩:=fM hI
 obtain ⟨b0,v0,ta⟩:=fM hO
 have hab:=F.EV hu hv
 have h0:=F.fst EW ta
 obtain ⟨l1,l2⟩:=b9.1 hi.lk
 obtain ⟨l3,l4⟩:=b9.1 l1
 have Sj:∀f,jc R f (P.ins x)=R a:=fun f=>by rw [hu,dw]
 have Sk:∀f,jc R f (P.outs x)=R b:=fun f=>by rw [hv,dw]
 have hL:L a0=jc R f0 A:=by rw [EW] at l4;exact l4.1
 obtain ⟨n1,n2⟩:=CG h F hv
 have cC:=hi.nd
 have hlo:=hi.lo
 refine ⟨?_, ?_, ?_,fun c hc=> ?_⟩
 ·rw [b9,b9]
  refine ⟨⟨l3,wU h F fun b' v' e=> ?_⟩, ?_⟩
  ·rw [ta] at e
   simp only [List.cons.injEq] at e
   rw [← e.1, ← h0,hL]
  ·rw [cT,Sk]
   rw [cT,Sj] at l2
   rw [← hab];exact l2
 ·have:=hi.en
  rw [cT,cT,Sj] at this
  rw [cT,cT,Sk, ← hab];exact this
 ·rw [List.map_append,List.map_append,hv,List.map_append]
  rw [List.map_append,List.map_append,hu,List.map_append] at cC
  simp only [List.map_cons,List.map_nil] at cC ⊢
  rw [← hab]
  have hold:∀c∈A++P.ins x++C,R c∉v.map R:=fun c hc hz=>by
   obtain ⟨g1,g2,g3⟩:=n2 _ hz
   rcases (hlo c hc).2 with h1|⟨_,h1⟩
   ·exact g3 h1
   ·rw [g1] at h1;exact hx h1
  refine D6 cC n1 fun z hz=>⟨fun DJ=> ?_,fun DJ=> ?_,fun DJ=> ?_⟩
  ·obtain ⟨c,hc,rfl⟩:=List.mem_map.1 DJ
   exact hold c (by simp [hc]) hz
  ·exact hold a (by rw [hu];simp) (DJ ▸ hz)
  ·obtain ⟨c,hc,rfl⟩:=List.mem_map.1 DJ
   exact hold c (by simp [hc]) hz
 ·have hold:∀c∈A++P.ins x++C,R c≠f0∧(R c=f1∨(R c≠f1∧low (R c)∈D++ [x])):=fun c hc=>by
   obtain ⟨g1,g2⟩:=hlo c hc
   exact ⟨g1,g2.imp id fun ⟨g3,g4⟩=>⟨g3,List.mem_append.2 (.inl g4)⟩⟩
  simp only [List.mem_append] at hc
  rcases hc with (hc|hc)|hc
  ·exact hold c (by simp [hc])
  ·rw [hv,List.mem_append,List.mem_singleton] at hc
   rcases hc with hc|rfl
   ·obtain ⟨g1,g2,g3⟩:=n2 (R c) (List.mem_map_of_mem hc)
    exact ⟨g2, .inr ⟨g3,by rw [g1];simp⟩⟩
   ·have:=hold a (by rw [hu];simp)
    rw [hab] at this;exact this
  ·exact hold c (by simp [hc])
end
end Go.Ab
end
section
namespace Go.Ab
set_option maxRecDepth 10000
set_option linter.unusedSectionVars false
variable {P:PS}
inductive PS.mB (P:PS) (x:Int):Int→Prop
 |refl:P.mB x x
 |step {e:Int} :P.mB x (P.tl e)→P.E e→P.mB x (P.hd e)
theorem PS.mB.trans {x y z:Int} (h1:P.mB x y) (h2:P.mB y z):P.mB x z:=by
 induction h2 with
 |refl=>exact h1
 |step _ he ih=>exact .step ih he
inductive PS.Lp (P:PS) (L R:Int→Int) (F:Int):Int→Prop
 |refl:P.Lp L R F F
 |step {e:Int} :P.Lp L R F (L e)→P.E e→P.Lp L R F (R e)
theorem PS.Lp.trans {L R:Int→Int} {x y z:Int} (h1:P.Lp L R x y) (h2:P.Lp L R y z):P.Lp L R x z:=by
 induction h2 with
 |refl=>exact h1
 |step _ he ih=>exact .step ih he
theorem PS.Lp.head {L R:Int→Int} {e z:Int} (he:P.E e) (h2:P.Lp L R (R e) z):P.Lp L R (L e) z:=(PS.Lp.step .refl he).trans h2
theorem PS.Lp.EU {L R:Int→Int} {x y:Int} (h1:P.Lp L R x y):P.EU.Lp R L y x:=by
 induction h1 with
 |refl=>exact .refl
 | @step e h1 he ih=>exact PS.Lp.head (P:=P.EU) (L:=R) (R:=L) (e:=e) he ih
theorem PS.mB.EU {x y:Int} (h1:P.mB x y):P.EU.mB x y:=by
 induction h1 with
 |refl=>exact .refl
 |step h1 he ih=>exact PS.mB.step (P:=P.EU) ih he
section
variable (h:P.Ok)
include h
theorem pF {j:Nat} (hj:j≤P.m):∃k,P.Row k ((P.st j).A++(P.st j).B) (P.st j).D:=(P.inv h j hj).row
theorem eC {j:Nat} (hj:j<P.m):∃B,(P.st j).B=P.sh j::B:=by
 obtain ⟨e,B,hB⟩:=(P.inv h j (by omega)).more h hj
 refine ⟨B, ?_⟩
 have:P.sh j=e:=by unfold PS.sh;rw [hB];rfl
 rw [this,hB]
theorem qE {j:Nat} (hj:j<P.m):P.E (P.sh j):=by
 obtain ⟨B,hB⟩:=eC h hj
 obtain ⟨k,hr⟩:=pF h (Nat.le_of_lt hj)
 exact ((h.dP hr _).1 (by rw [hB];simp)).1
theorem uZ {i j:Nat} (hi:i<P.m) (hj:j<P.m) (e:P.sh i=P.sh j):i=j:=by
 have hn:=(P.inv h P.m (Nat.le_refl _)).nd
 have hl:=PS.tA (P:=P) (j:=P.m)
 have gi:(P.rM P.m)[i]'(by omega)=P.sh i:=by simp [PS.rM]
 have gj:(P.rM P.m)[j]'(by omega)=P.sh j:=by simp [PS.rM]
 exact (List.getElem_inj hn).1 (by rw [gi,gj,e])
theorem eM {e:Int} (he:P.E e):∃j,j<P.m∧P.sh j=e:=by
 have hi:=P.inv h P.m (Nat.le_refl _)
 refine Decidable.byContradiction fun hne=> ?_
 have hne:e∉P.rM P.m:=fun hm=>hne (PS.yz.1 hm)
 have cC:(e::P.rM P.m).Nodup:=List.nodup_cons.2 ⟨hne,hi.nd⟩
 have:=gq (m:=(List.range P.m).map Int.ofNat) cC fun x hx=>by
  have hE:P.E x:=by
   rcases List.mem_cons.1 hx with rfl|hx
   ·exact he
   ·exact ((hi.sh x).1 hx).1
  have h1:=hE.1;have h2:=hE.2
  exact List.mem_map.2 ⟨x.toNat,List.mem_range.2 (by omega),by simp;omega⟩
 simp [PS.tA] at this
 omega
theorem lP {i j:Nat} (hi:i<P.m) (hj:j≤P.m):P.sh i∈P.rM j↔i<j:=by
 rw [PS.yz]
 constructor
 ·rintro ⟨i',h1,h2⟩
  have:=uZ h (by omega) hi h2
  omega
 ·exact fun h1=>⟨i,h1,rfl⟩
theorem KZ:(P.st P.m).A= []:=by
 have hi:=P.inv h P.m (Nat.le_refl _)
 obtain ⟨k,hr⟩:=hi.row
 have hB:(P.st P.m).B= []:=by
  cases hB:(P.st P.m).B with
  |nil=>rfl
  |cons e B=>
   exfalso
   have hm:=(h.dP hr e).1 (by rw [hB];simp)
   obtain ⟨j,hj,e2⟩:=eM h hm.1
   have h1:e∈P.rM P.m:=PS.yz.2 ⟨j,hj,e2⟩
   have cC:=h.mZ hr
   rw [List.nodup_append] at cC
   rcases ((hi.sh e).1 h1).2 with h2|h2
   ·exact cC.2.2 e h2 e (by rw [hB];simp) rfl
   ·exact hm.2.2 h2
 rw [hB,List.append_nil] at hr
 cases k with
 |succ k=>
  obtain ⟨x,A,C,h1,h2⟩:=h.ng hr
  exact absurd ⟨A,C,h1.symm⟩ (hi.no x h2)
 |zero=>
  cases hA:(P.st P.m).A with
  |nil=>rfl
  |cons e A=>
   have hm:=(h.dP hr e).1 (by rw [hA];simp)
   exact absurd (h.nV hr e hm.1) hm.2.2
theorem nW {j:Nat} (hj:j<P.m):∃B,(P.st j).B=P.sh j::B∧((∃A',(P.st j).A++ [P.sh j]=A'++P.ins (P.hd (P.sh j))∧P.ins (P.hd (P.sh j))≠ []∧P.st (j+1)=⟨A',P.outs (P.hd (P.sh j))++B,(P.st j).D++ [P.hd (P.sh j)]⟩)∨
 (¬P.ins (P.hd (P.sh j))<:+(P.st j).A++ [P.sh j]∧P.st (j+1)=⟨(P.st j).A++ [P.sh j],B,(P.st j).D⟩)):=by
 obtain ⟨B,hB⟩:=eC h hj
 obtain ⟨k,hr⟩:=pF h (Nat.le_of_lt hj)
 exact ⟨B,hB,(PS.uY h hr hB).2⟩
theorem QV {j:Nat} (hj:j<P.m):P.sh j∉(P.st j).A:=by
 obtain ⟨B,hB⟩:=eC h hj
 obtain ⟨k,hr⟩:=pF h (Nat.le_of_lt hj)
 have cC:=h.mZ hr
 rw [List.nodup_append] at cC
 exact fun hA=>cC.2.2 _ hA _ (by rw [hB];simp) rfl
theorem Ac:∀ {d j:Nat},j+d=P.m→∀t∈(P.st j).A,∀u,P.ins (P.hd t)≠u++ [t]
 |0,j,hj,t,ht,u=>by
  obtain rfl:j=P.m:=by omega
  rw [KZ h] at ht;cases ht
 |d+1,j,hj,t,ht,u=>by
  have ih:=Ac (d:=d) (j:=j+1) (by omega)
  have hjm:j<P.m:=by omega
  obtain ⟨B,hB,hc⟩:=nW h hjm
  have hne:=QV h hjm
  rcases hc with ⟨A',h1,h2,h3⟩|⟨h1,h3⟩
  ·have JS:t∈A'++P.ins (P.hd (P.sh j)):=by rw [← h1];simp [ht]
   rcases List.mem_append.1 JS with h4|h4
   ·exact ih t (by rw [h3];exact h4) u
   ·intro hu
    rw [((h.bW _ _).1 h4).2] at hu
    rw [hu, ← List.append_assoc] at h1
    have:=(List.append_inj' h1 rfl).2
    simp only [List.cons.injEq,and_true] at this
    exact hne (this ▸ ht)
  ·exact ih t (by rw [h3];simp [ht]) u
theorem Ad {e:Int} (he:P.E e) {j:Nat} (hj:j<P.m) (hh:P.hd e=P.tl (P.sh j)):e∈P.rM j:=by
 have hi:=P.inv h j (by omega)
 obtain ⟨B,hB⟩:=eC h hj
 obtain ⟨k,hr⟩:=hi.row
 have hm:=(h.dP hr (P.sh j)).1 (by rw [hB];simp)
 exact (hi.sh e).2 ⟨he, .inr (hh ▸ hm.2.1)⟩
theorem I7 {i j:Nat} (hi:i<P.m) (hj:j<P.m) (hR:P.mB (P.hd (P.sh i)) (P.tl (P.sh j))):i<j:=by
 have key:∀y,P.mB (P.hd (P.sh i)) y→∀j,j<P.m→P.tl (P.sh j)=y→i<j:=by
  intro y hy
  induction hy with
  |refl=>
   intro j hj e
   exact (lP h hi (by omega)).1 (Ad h (qE h hi) hj e.symm)
  | @step f _ hf ih=>
    intro j hj e
    obtain ⟨k,hk,rfl⟩:=eM h hf
    have h1:=ih k hk rfl
    have h2:=(lP h hk (by omega)).1 (Ad h hf hj e.symm)
    omega
 exact key _ hR j hj rfl
theorem CH {j:Nat} (hj:j<P.m):P.KY∉(P.st j).D:=fun hs=>by
 have hi:=P.inv h j (by omega)
 obtain ⟨k,hr⟩:=hi.row
 have:=h.tw hr hs
 subst this
 have:=rN (l:=P.rM j) (m:=P.m) fun e h1 h2=>(hi.sh e).2 ⟨⟨h1,h2⟩, .inr (h.nV hr e ⟨h1,h2⟩)⟩
 rw [PS.tA] at this
 omega
variable {L R:Int→Int} {f0 f1:Int} {low:Int→Int} (F:P.iH L R f0 f1 low)
include F
theorem nh:∀ {j:Nat},j<P.m→Aa L R f0 f1 low ((P.st j).A++(P.st j).B) (P.st j).D
 |0,hj=>by
  obtain ⟨B,hB⟩:=eC h hj
  have hB:P.outs P.src=P.sh 0::B:=hB
  exact Aa.start h F (by rw [hB];simp)
 |j+1,hj=>by
  have ih:=nh (j:=j) (by omega)
  obtain ⟨B,hB,hc⟩:=nW h (show j<P.m by omega)
  obtain ⟨k,hr⟩:=pF h (show j≤P.m by omega)
  rcases hc with ⟨A',h1,h2,h3⟩|⟨h1,h3⟩
  ·have hs:=CH h hj
   rw [h3] at hs ⊢
   have hx:P.hd (P.sh j)≠P.KY:=fun e=>hs (by simp [e])
   have hO:P.outs (P.hd (P.sh j))≠ []:=fun e=>hx ((h.qC _ h2).1 e)
   have hm:=(h.dP hr (P.sh j)).1 (by rw [hB];simp)
   have hW:(P.st j).A++(P.st j).B=A'++P.ins (P.hd (P.sh j))++B:=by rw [hB, ← h1];simp
   rw [hW] at ih
   have:=Aa.step h F ih h2 hO hm.2.2
   simpa using this
  ·rw [h3]
   have hW:(P.st j).A++(P.st j).B=(P.st j).A++ [P.sh j]++B:=by rw [hB];simp
   rw [hW] at ih
   exact ih
theorem GD {j:Nat} (hj:j<P.m) {a b:Int} (ha:a∈(P.st j).A++(P.st j).B) (hb:b∈(P.st j).A++(P.st j).B) (e:R a=R b):a=b:=by
 have hn:=(nh h F hj).nd
 obtain ⟨i,hi,rfl⟩:=List.mem_iff_getElem.1 ha
 obtain ⟨k,hk,rfl⟩:=List.mem_iff_getElem.1 hb
 have:=(List.getElem_inj (i:=i) (j:=k) (h₀:=by simpa using hi) (h₁:=by simpa using hk) hn).1 (by rw [List.getElem_map,List.getElem_map];exact e)
 subst this;rfl
theorem pG {j:Nat} (hj:j<P.m):∀ {d:Nat} {e:Int},P.Ig (P.tl e)<d→P.E e→R e=L (P.sh j)→e∈P.rM j
 |0,e,hd,_,_=>by omega
 |d+1,e,hd,he,hR=>by
  refine Decidable.byContradiction fun hne=> ?_
  have hi:=P.inv h j (by omega)
  have hF:=nh h F hj
  obtain ⟨B,hB⟩:=eC h hj
  obtain ⟨k,hr⟩:=hi.row
  have K0:¬(e∈(P.st j).A∨P.hd e∈(P.st j).D):=fun h1=>hne ((hi.sh e).2 ⟨he,h1⟩)
  have hlk:=hF.lk
  rw [b9,hB] at hlk
  have LU:L (P.sh j)=jc R f0 (P.st j).A:=hlk.2.1
  rcases List.eq_nil_or_concat (P.st j).A with hA|⟨A',t,hA⟩
  ·
   have LU:L (P.sh j)=f0:=by rw [LU,hA];rfl
   have TZ:R e≠f0:=by
    obtain ⟨i,hi2,e2⟩:=eM h he
    obtain ⟨B2,vP⟩:=eC h hi2
    have:=((nh h F hi2).lo (P.sh i) (by rw [vP];simp)).1
    rw [e2] at this;exact this
   exact TZ (hR.trans LU)
  ·rw [List.concat_eq_append] at hA
   have LU:L (P.sh j)=R t:=by rw [LU,hA,dw]
   have OH:t∈(P.st j).A:=by rw [hA];simp
   have yA:t∈(P.st j).A++(P.st j).B:=List.mem_append.2 (.inl OH)
   have QW:R e=R t:=hR.trans LU
   by_cases hc:P.tl e∈(P.st j).D
   ·have T0:=(h.dP hr e).2 ⟨he,hc,fun h1=>K0 (.inr h1)⟩
    have:=GD h F hj T0 yA QW
    exact K0 (.inl (this ▸ OH))
   ·have hem:e∈P.outs (P.tl e):=(h.bE _ _).2 ⟨he,rfl⟩
    obtain ⟨s,w,hs⟩:=List.append_of_mem hem
    have Nv:R t≠f1:=fun h1=>by
     have h2:=hF.en
     rw [hB,cT] at h2
     obtain ⟨V,b,Sl⟩:=cG (l:=P.sh j::B) (by simp)
     rw [Sl,dw] at h2
     have Sm:b∈(P.st j).B:=by rw [hB,Sl];simp
     have h3:=GD h F hj yA (List.mem_append.2 (.inr Sm)) (h1.trans h2.symm)
     have cC:=h.mZ hr
     rw [List.nodup_append] at cC
     exact cC.2.2 t OH b Sm h3
    cases w with
    |cons b w=>
     obtain ⟨g1,g2,g3⟩:=F.new hs
     have h4:=(hF.lo t yA).2
     rw [← QW] at h4 Nv
     rcases h4 with h4|⟨_,h4⟩
     ·exact Nv h4
     ·rw [g1] at h4;exact hc h4
    |nil=>
     have hI:P.ins (P.tl e)≠ []:=fun h0=>by
      have h5:P.tl e≠P.src:=fun h6=>hc (h6 ▸ h.tu hr)
      obtain ⟨i,hi2,e2⟩:=eM h he
      obtain ⟨k2,tg⟩:=pF h (show i≤P.m by omega)
      obtain ⟨B2,vP⟩:=eC h hi2
      have hm2:=(h.dP tg (P.sh i)).1 (by rw [vP];simp)
      have:∀i,i≤P.m→∀x∈(P.st i).D,x=P.src∨P.ins x≠ []:=by
       intro i
       induction i with
       |zero=>intro _ x hx;exact .inl (by simpa [PS.st] using hx)
       |succ i ih=>
        intro T6 x hx
        obtain ⟨B3,Vp,JP⟩:=nW h (show i<P.m by omega)
        rcases JP with ⟨A3,k1,k2,k3⟩|⟨k1,k3⟩
        ·rw [k3] at hx
         rcases List.mem_append.1 hx with hx|hx
         ·exact ih (by omega) x hx
         ·rw [List.mem_singleton] at hx
          exact .inr (hx ▸ k2)
        ·rw [k3] at hx;exact ih (by omega) x hx
      rcases this i (by omega) _ hm2.2.1 with h6|h6
      ·rw [e2] at h6;exact h5 h6
      ·rw [e2] at h6;exact h6 h0
     obtain ⟨u,a,hu⟩:=cG hI
     have Nw:=(h.bW (P.tl e) a).1 (by rw [hu];simp)
     have Ny:R a=R e:=F.EV hu hs
     have hp:=h.rK a Nw.1
     rw [Nw.2] at hp
     have hin:=pG (d:=d) (e:=a) hj (by omega) Nw.1 (Ny.trans hR)
     rcases ((hi.sh a).1 hin).2 with h7|h7
     ·have h8:=GD h F hj (List.mem_append.2 (.inl h7)) yA (Ny.trans QW)
      subst h8
      exact Ac h (d:=P.m - j) (by omega) a OH u (by rw [Nw.2];exact hu)
     ·rw [Nw.2] at h7;exact hc h7
theorem wV {i j:Nat} (hi:i<P.m) (hj:j<P.m) (hR:P.Lp L R (R (P.sh i)) (L (P.sh j))):i<j:=by
 have key:∀y,P.Lp L R (R (P.sh i)) y→∀j,j<P.m→L (P.sh j)=y→i<j:=by
  intro y hy
  induction hy with
  |refl=>
   intro j hj e
   exact (lP h hi (by omega)).1 (pG h F hj (d:=P.Ig (P.tl (P.sh i))+1) (by omega) (qE h hi) e.symm)
  | @step f _ hf ih=>
    intro j hj e
    obtain ⟨k,hk,rfl⟩:=eM h hf
    have h1:=ih k hk rfl
    have h2:=(lP h hk (by omega)).1 (pG h F hj (d:=P.Ig (P.tl (P.sh k))+1) (by omega) hf e.symm)
    omega
 exact key _ hR j hj rfl
end
end Go.Ab
end
section
namespace Go.Ab
set_option maxRecDepth 10000
set_option linter.unusedSectionVars false
variable {P:PS}
theorem yC {L R:Int→Int} :∀ {A:List Int} {f:Int},(∀a∈A,P.E a)→gV L R f A→P.Lp L R f (jc R f A)
 | [],_,_,_=> .refl
 |a::A,f,hE,⟨h1,h2⟩=>by
  have:=yC (A:=A) (f:=R a) (fun b hb=>hE b (List.mem_cons_of_mem _ hb)) h2
  rw [← h1]
  exact PS.Lp.head (hE a (List.mem_cons_self ..)) this
section
variable (h:P.Ok) {L R:Int→Int} {f0 f1:Int} {low:Int→Int} (F:P.iH L R f0 f1 low)
include h F
theorem K1 {x:Int} {u v v':List Int} {e a:Int} (hu:P.ins x=u++e::v) (ha:P.ins x=v'++ [a]):P.Lp L R (R e) (R a):=by
 have hl:gV L R (L ((P.ins x).headD 0)) (P.ins x):=by
  cases hI:P.ins x with
  |nil=>trivial
  |cons b w=>rw [← hI];exact GC h F fun b' w' e'=>by rw [hI];rw [hI] at e';simp only [List.cons.injEq] at e';simp [e'.1]
 rw [hu,show u++e::v=(u++ [e])++v by simp,b9,dw] at hl
 have h2:=yC (P:=P) (fun b hb=>((h.bW x b).1 (by rw [hu];simp [hb])).1) hl.2
 have h3:jc R (R e) v=R a:=by
  have e1:jc R 0 (P.ins x)=R a:=by rw [ha,dw]
  rw [hu,show u++e::v=(u++ [e])++v by simp,cT,dw] at e1
  exact e1
 rw [h3] at h2;exact h2
theorem rO {x:Int} (hx:x≠P.src):∀ {j:Nat},j≤P.m→x∈(P.st j).D→∃i B,i<j∧x∉(P.st i).D∧P.hd (P.sh i)=x∧(∃u,P.ins x=u++ [P.sh i])∧(∀e∈P.ins x,e∈P.rM (i+1))∧(P.st (i+1)).B=P.outs x++B∧(P.st i).B=P.sh i::B
 |0,_,hm=>by
  have:x∈ [P.src]:=hm
  simp at this;exact absurd this hx
 |j+1,hj,hm=>by
  by_cases hp:x∈(P.st j).D
  ·obtain ⟨i,B,h1,h2⟩:=rO hx (by omega) hp
   exact ⟨i,B,by omega,h2⟩
  ·obtain ⟨B,hB,hc⟩:=nW h (show j<P.m by omega)
   rcases hc with ⟨A',h1,h2,h3⟩|⟨h1,h3⟩
   ·rw [h3] at hm
    rcases List.mem_append.1 hm with hm|hm
    ·exact absurd hm hp
    ·rw [List.mem_singleton] at hm
     subst hm
     refine ⟨j,B,by omega,hp,rfl, ?_,fun e he=> ?_,by rw [h3],hB⟩
     ·obtain ⟨u,a,hu⟩:=cG h2
      rw [hu, ← List.append_assoc] at h1
      have:=(List.append_inj' h1 rfl).2
      simp only [List.cons.injEq,and_true] at this
      exact ⟨u,by rw [hu,this]⟩
     ·refine ((P.inv h (j+1) hj).sh e).2 ⟨((h.bW _ _).1 he).1, .inr ?_⟩
      rw [h3,((h.bW _ _).1 he).2];simp
   ·rw [h3] at hm;exact absurd hm hp
theorem u6 {x a:Int} {i k:Nat} (hk:k<P.m) (hik:i<k) {v B:List Int} (hB:(P.st (i+1)).B=v++a::B) (hv:∀e∈v,P.tl e=x) (ha:P.tl a=x) (hka:P.sh k=a):
 ∀ {t:Nat},i+1≤t→t≤k→∃Z,(P.st t).B=Z++a::B∧∀z∈Z,P.mB x (P.tl z)
 |0,h1,_=>by omega
 |t+1,h1,h2=>by
  by_cases pW:t=i
  ·subst pW
   exact ⟨v,hB,fun z hz=>by rw [hv z hz];exact .refl⟩
  ·obtain ⟨Z,hZ,hr⟩:=u6 hk hik hB hv ha hka (t:=t) (by omega) (by omega)
   obtain ⟨B2,vP,hc⟩:=nW h (show t<P.m by omega)
   cases Z with
   |nil=>
    rw [hZ] at vP
    simp only [List.nil_append,List.cons.injEq] at vP
    have:=uZ h hk (show t<P.m by omega) (hka.trans vP.1)
    omega
   |cons z Z=>
    rw [hZ] at vP
    simp only [List.cons_append,List.cons.injEq] at vP
    rcases hc with ⟨A',g1,g2,g3⟩|⟨g1,g3⟩
    ·refine ⟨P.outs (P.hd (P.sh t))++Z,by rw [g3, ← vP.2];simp,fun y hy=> ?_⟩
     rcases List.mem_append.1 hy with hy|hy
     ·rw [((h.bE _ _).1 hy).2]
      have:=hr z (List.mem_cons_self ..)
      rw [vP.1] at this
      exact .step this (qE h (by omega))
     ·exact hr y (List.mem_cons_of_mem _ hy)
    ·exact ⟨Z,by rw [g3, ← vP.2],fun y hy=>hr y (List.mem_cons_of_mem _ hy)⟩
theorem pH:∀ {d i j:Nat},j - i≤d→i<j→j<P.m→P.mB (P.hd (P.sh i)) (P.tl (P.sh j))∨P.Lp L R (R (P.sh i)) (L (P.sh j))
 |0,i,j,hd,hij,_=>by omega
 |d+1,i,j,hd,hij,hj=>by
  have hi:=P.inv h j (by omega)
  have Nz:=qE h (show i<P.m by omega)
  obtain ⟨B,hB⟩:=eC h hj
  obtain ⟨k,hr⟩:=hi.row
  have hin:=(lP h (show i<P.m by omega) (show j≤P.m by omega)).2 hij
  rcases ((hi.sh _).1 hin).2 with hA|hD
  ·right
   obtain ⟨u,w,hA⟩:=List.append_of_mem hA
   have hlk:=(nh h F hj).lk
   rw [hB,hA,show u++P.sh i::w++P.sh j::B=(u++ [P.sh i])++(w++P.sh j::B) by simp,b9,dw] at hlk
   have A8:=b9.1 hlk.2
   have h1:=yC (P:=P) (A:=w) (fun b hb=>((h.dP hr b).1 (by rw [hA];simp [hb])).1) A8.1
   rw [← A8.2.1] at h1
   exact h1
  ·generalize hx:P.hd (P.sh i)=x at hD
   have hxs:x≠P.src:=fun e=>by
    have:=(h.bW x (P.sh i)).2 ⟨Nz,hx⟩
    rw [e,h.uW] at this;cases this
   obtain ⟨i',B',q1,q2,q3,⟨u,q4⟩,q5,q6,q7⟩:=rO h F hxs (by omega) hD
   have IK:=(h.bW x (P.sh i)).2 ⟨Nz,hx⟩
   have hii:i<i'+1:=(lP h (show i<P.m by omega) (by omega)).1 (q5 _ IK)
   have hI:P.ins x≠ []:=fun h0=>by rw [h0] at IK;cases IK
   have hO:P.outs x≠ []:=fun h0=>by
    have:=(h.qC x hI).1 h0
    exact CH h hj (this ▸ hD)
   obtain ⟨v,a,hv⟩:=cG hO
   have ha:=(h.bE x a).1 (by rw [hv];simp)
   obtain ⟨k2,hk2,hka⟩:=eM h ha.1
   have hik:i'<k2:=by
    refine Decidable.byContradiction fun hlt=> ?_
    have h1:a∈P.rM (i'+1):=hka ▸ (lP h hk2 (by omega)).2 (by omega)
    have hi':=P.inv h (i'+1) (by omega)
    obtain ⟨k3,Sn⟩:=hi'.row
    have Sq:a∈(P.st (i'+1)).B:=by rw [q6,hv];simp
    have QJ:=(h.dP Sn a).1 (List.mem_append.2 (.inr Sq))
    have cC:=h.mZ Sn
    rw [List.nodup_append] at cC
    rcases ((hi'.sh a).1 h1).2 with h2|h2
    ·exact cC.2.2 a h2 a Sq rfl
    ·exact QJ.2.2 h2
   have hlp:P.Lp L R (R (P.sh i)) (R a):=by
    obtain ⟨s,w,hs⟩:=List.append_of_mem IK
    have h1:=K1 h F hs q4
    rw [F.EV q4 hv] at h1
    exact h1
   by_cases hjk:j≤k2
   ·left
    obtain ⟨Z,hZ,T7⟩:=u6 h F hk2 hik (x:=x) (a:=a) (v:=v) (B:=B') (by rw [q6,hv];simp) (fun e he=>((h.bE x e).1 (by rw [hv];simp [he])).2) ha.2 hka (t:=j) (by omega) hjk
    rw [hB] at hZ
    cases Z with
    |nil=>
     simp only [List.nil_append,List.cons.injEq] at hZ
     rw [hZ.1,ha.2];exact .refl
    |cons z Z=>
     simp only [List.cons_append,List.cons.injEq] at hZ
     rw [hZ.1];exact T7 z (List.mem_cons_self ..)
   ·rcases pH (d:=d) (i:=k2) (j:=j) (by omega) (by omega) hj with h1|h1
    ·left
     rw [hka] at h1
     have:P.mB x (P.hd a):= .step (ha.2 ▸ .refl) ha.1
     exact this.trans h1
    ·right
     rw [hka] at h1
     exact hlp.trans h1
end
section
variable (h:P.Ok) {L R:Int→Int} {f0 f1:Int} {low:Int→Int} (F:P.iH L R f0 f1 low) {e f:Int} (he:P.E e) (hf:P.E f)
include h F he hf
theorem I8 (hu:P.mB (P.hd e) (P.tl f)):∃i j,i<j∧j<P.m∧P.sh i=e∧P.sh j=f:=by
 obtain ⟨i,hi,rfl⟩:=eM h he
 obtain ⟨j,hj,rfl⟩:=eM h hf
 exact ⟨i,j,I7 h hi hj hu,hj,rfl,rfl⟩
theorem kH (hu:P.Lp L R (R e) (L f)):∃i j,i<j∧j<P.m∧P.sh i=e∧P.sh j=f:=by
 obtain ⟨i,hi,rfl⟩:=eM h he
 obtain ⟨j,hj,rfl⟩:=eM h hf
 exact ⟨i,j,wV h F hi hj hu,hj,rfl,rfl⟩
theorem wW {i j i' j':Nat} (h1:i<j∧j<P.m∧P.sh i=e∧P.sh j=f) (h2:i'<j'∧j'<P.m∧P.sh i'=f∧P.sh j'=e):False:=by
 have:=uZ h (show i<P.m by omega) (show j'<P.m by omega) (h1.2.2.1.trans h2.2.2.2.symm)
 have:=uZ h (show j<P.m by omega) (show i'<P.m by omega) (h1.2.2.2.trans h2.2.2.1.symm)
 omega
end
theorem kI (h:P.Ok) {L R:Int→Int} {f0 f1:Int} {low:Int→Int} (F:P.iH L R f0 f1 low) {e f:Int} (he:P.E e) (hf:P.E f) (hne:e≠f):
 P.mB (P.hd e) (P.tl f)∨P.mB (P.hd f) (P.tl e)∨P.Lp L R (R e) (L f)∨P.Lp L R (R f) (L e):=by
 obtain ⟨i,hi,rfl⟩:=eM h he
 obtain ⟨j,hj,rfl⟩:=eM h hf
 rcases Nat.lt_trichotomy i j with h1|h1|h1
 ·rcases pH h F (d:=j - i) (Nat.le_refl _) h1 hj with h2|h2
  ·exact .inl h2
  ·exact .inr (.inr (.inl h2))
 ·exact absurd (by rw [h1]) hne
 ·rcases pH h F (d:=i - j) (Nat.le_refl _) h1 hi with h2|h2
  ·exact .inr (.inl h2)
  ·exact .inr (.inr (.inr h2))
section
variable (h:P.Ok) {L R:Int→Int} {f0 f1:Int} {low:Int→Int} (F:P.iH L R f0 f1 low) {e f:Int} (he:P.E e) (hf:P.E f)
include h F he hf
theorem ni (h1:P.Lp L R (R e) (L f)) (h2:P.Lp L R (R f) (L e)):False:=by
 obtain ⟨i,j,a⟩:=kH h F he hf h1
 obtain ⟨i',j',b⟩:=kH h F hf he h2
 exact wW h F he hf a b
theorem qF (h1:P.mB (P.hd e) (P.tl f)) (h2:P.Lp L R (R f) (L e)):False:=by
 obtain ⟨i,j,a⟩:=I8 h F he hf h1
 obtain ⟨i',j',b⟩:=kH h F hf he h2
 exact wW h F he hf a b
end
end Go.Ab
end
section
namespace Go.Ab
open Go.Proofs
attribute [local congr] ACall.congr gd.congr Nx.congr
set_option maxRecDepth 10000
abbrev It:=Int × Int × Int
def rT (t:It):List D:= [.sc (.int .i64 t.1), .sc (.int .i64 t.2.1), .sc (.int .i64 t.2.2)]
def eT (t:It):AV:= .agg [.d (.sc (.int .i64 t.1)), .d (.sc (.int .i64 t.2.1)), .d (.sc (.int .i64 t.2.2))]
def sT (ts:List It):D:= .sl 3 (ts.map rT)
theorem getD_rT (ps:List It) (i:Nat):(ps.map rT).getD i [.sc (.int .i64 0), .sc (.int .i64 0), .sc (.int .i64 0)]=rT (ps.getD i (0,0,0)):=by
 simp only [List.getD_eq_getElem?_getD,List.getElem?_map]
 cases ps[i]? <;>rfl
theorem rT_eq (t:It):rT t= [.sc (.int .i64 t.1), .sc (.int .i64 t.2.1), .sc (.int .i64 t.2.2)]:=rfl
attribute [go_sem] getD_rT rT_eq eT sT
theorem Ae {l:List Int} :∀r∈l.map rI,∀x∈r,∃v,x=D.sc v:=by
 intro r hr x hx
 obtain ⟨y,_,rfl⟩:=List.mem_map.1 hr
 simp only [rI,List.mem_singleton] at hx
 exact ⟨_,hx⟩
theorem Af {l:List It} :∀r∈l.map rT,∀x∈r,∃v,x=D.sc v:=by
 intro r hr x hx
 obtain ⟨y,_,rfl⟩:=List.mem_map.1 hr
 simp only [rT,List.mem_cons,List.not_mem_nil,or_false] at hx
 rcases hx with h|h|h<;>exact ⟨_,h⟩
theorem aB {α:Type} {l:List α} {m:Nat} {d:α} (h:m<l.length):l.getD m d∈l:=by
 rw [List.getD_eq_getElem?_getD,List.getElem?_eq_getElem h];exact List.getElem_mem h
theorem sN (ps:List It) (hl:ps.length≤1000000):
 Spec Tryz.prog 142 (Args [.d (sT ps)]) [] (.ref 10000) [(10000, .tip 92 3 (ps.map rT))]:=by
 (refine Spec.A5 (C:=T.cfg [] []) (rs:= [.t 2]) [(10000,7)] (T.ah _ _) Tryz.func142 rfl rfl Tryz.ntmps142 Tryz.results142 (by simp [AObj.isNest]) (by simp [AObj.isNest]) (by first|(simp [look];done)|(simp [asN];done)|(intro l hl;simp only [asN];repeat (rw [if_neg (fun e=>by subst e;simp [look] at hl)]))) (by first|(simp [look];done)|(simp [asN];done)|(intro l hl;simp only [asN];repeat (rw [if_neg (fun e=>by subst e;simp [look] at hl)]))) (by kernel_rfl) T.mixed fun X hX hP hC aI bU=> ?_)
 repeat' (first|(show cw _ .ret _ _;(try simp only [go_sem,simprocAttr]);refine iZ hX 2 7 (.tip 92 3 []) ?_ ?_ (by decide) ⟨92,3,by decide, .inr rfl⟩ ?_;(iterate 2 (focus (simp only [go_sem,simprocAttr];done)));simp only [go_sem,simprocAttr])|refine Rn.p ?_|(with_reducible apply And.intro)|((first|(refine hK _ ?_;clear hK K)|with_reducible intro K hK|refine Rs.p ?_|((with_reducible first|apply oP|apply oQ);exact rfl));try simp only [go_sem,simprocAttr])|((with_reducible refine oD ?_ ?_);kernel_rfl)|((with_reducible intro h);try simp only [go_sem,simprocAttr] at h)|omega|intro h)
 exact h.symm
theorem mg {m:List (Nat × AObj)} (hR:bK m) (f:Nat) (caps:List AV) (g:It→Bool) (ps:List It) (hf:∀p∈ps,Spec Tryz.prog f (Args (eT p::caps)) m (eB (g p)) m) (hl:ps.length≤9223372036854775807):
 Spec Tryz.prog 219 (Args [.d (sT ps), .fn f [] caps]) m (eN (cz g ps)) m:=by
 (refine Spec.hd (C:=T.cfg [] []) (rs:= [.t 4]) (T.ah _ _) Tryz.func219 rfl rfl Tryz.ntmps219 Tryz.results219 (fun p hp=>⟨(bK.low hR p hp).1,bK.nest hR p hp⟩) (fun p hp=>⟨(bK.low hR p hp).2,bK.nest hR p hp⟩) (by kernel_rfl) T.mixed fun X hX hP hC aI bU=> ?_)
 repeat' (first|refine Rn.p ?_|(with_reducible apply And.intro)|((first|(refine hK _ ?_;clear hK K)|with_reducible intro K hK|refine Rs.p ?_|((with_reducible first|apply oP|apply oQ);exact rfl));try simp only [go_sem,simprocAttr])|((with_reducible refine oD ?_ ?_);kernel_rfl)|((with_reducible intro h);try simp only [go_sem,simprocAttr] at h)|omega|intro h)
 refine ag (fun k:Nat=>k≤ps.length∧∀j,j<k→g (ps.getD j (0,0,0))=false) (fun k=>⟨[(0, .d (sT ps)),(1, .fn f [] caps),(7,eN ps.length),(8,eN k)],m⟩) (fun k=>ps.length - k) 0 (by simp) ?_ ?_
 ·(refine ⟨bY ?_,fun _ _ h=>h⟩;simp [go_sem,simprocAttr])
 rintro k ⟨hk,hg⟩
 rcases Nat.lt_or_ge k ps.length with hlt|hge
 ·have hb:decide ((k:Int)<(ps.length:Int))=true:=decide_eq_true (by omega)
  have hf':=hf (ps.getD k (0,0,0)) (aB hlt)
  repeat' (first|refine Rn.p ?_|(with_reducible apply And.intro)|((first|(refine hK _ ?_;clear hK K)|with_reducible intro K hK|refine Rs.p ?_|((with_reducible first|apply oP|apply oQ);exact rfl)|(first|(refine bq hX hC hP hR (hf') rfl rfl rfl ?_ ?_ rfl rfl ?_;(focus (simp only [go_sem,simprocAttr,hb];done));(focus (first|(intro p hp;exact aR (bK.nd hR) hp)|(simp [go_sem,simprocAttr,hb];done))))|(refine bq hX hC hP hR (hf') rfl rfl rfl ?_ ?_ ?_ rfl ?_;(focus (simp only [go_sem,simprocAttr,hb];done));(focus (first|(intro p hp;exact aR (bK.nd hR) hp)|(simp [go_sem,simprocAttr,hb];done)));(focus (simp [go_sem,simprocAttr,hb];done)))));try simp only [go_sem,simprocAttr,hb])|((with_reducible refine oD ?_ ?_);kernel_rfl)|((with_reducible intro h);try simp only [go_sem,simprocAttr,hb] at h)|omega|intro h)
  ·exact (eD (by omega) hg h).symm
  ·exact gI hR
  ·refine ⟨k+1,⟨by omega,fun j hj=> ?_⟩, ?_,by omega⟩
   ·by_cases hjk:j=k
    ·subst hjk;exact h
    ·exact hg j (by omega)
   ·(refine ⟨bY ?_,fun _ _ h=>h⟩;simp [go_sem,simprocAttr,hb])
 ·have hb:decide ((k:Int)<(ps.length:Int))=false:=decide_eq_false (by omega)
  repeat' (first|refine Rn.p ?_|(with_reducible apply And.intro)|((first|(refine hK _ ?_;clear hK K)|with_reducible intro K hK|refine Rs.p ?_|((with_reducible first|apply oP|apply oQ);exact rfl)|(first|(refine bq hX hC hP hR (hf') rfl rfl rfl ?_ ?_ rfl rfl ?_;(focus (simp only [go_sem,simprocAttr,hb];done));(focus (first|(intro p hp;exact aR (bK.nd hR) hp)|(simp [go_sem,simprocAttr,hb];done))))|(refine bq hX hC hP hR (hf') rfl rfl rfl ?_ ?_ ?_ rfl ?_;(focus (simp only [go_sem,simprocAttr,hb];done));(focus (first|(intro p hp;exact aR (bK.nd hR) hp)|(simp [go_sem,simprocAttr,hb];done)));(focus (simp [go_sem,simprocAttr,hb];done)))));try simp only [go_sem,simprocAttr,hb])|((with_reducible refine oD ?_ ?_);kernel_rfl)|((with_reducible intro h);try simp only [go_sem,simprocAttr,hb] at h)|omega|intro h)
  ·exact (dc (0,0,0) fun j hj=>hg j (by omega)).symm
  ·exact gI hR
theorem pI {m:List (Nat × AObj)} (hR:bK m) (f:Nat) (caps:List AV) (g:It→Bool) (ps:List It) (hf:∀p∈ps,Spec Tryz.prog f (Args (eT p::caps)) m (eB (g p)) m) (hl:ps.length≤9223372036854775807):
 Spec Tryz.prog 205 (Args [.d (sT ps), .fn f [] caps]) m (eB (ps.any g)) m:=by
 (refine Spec.hd (C:=T.cfg [] []) (rs:= [.t 4]) (T.ah _ _) Tryz.func205 rfl rfl Tryz.ntmps205 Tryz.results205 (fun p hp=>⟨(bK.low hR p hp).1,bK.nest hR p hp⟩) (fun p hp=>⟨(bK.low hR p hp).2,bK.nest hR p hp⟩) (by kernel_rfl) T.mixed fun X hX hP hC aI bU=> ?_)
 repeat' (first|refine Rn.p ?_|(with_reducible apply And.intro)|((first|(refine hK _ ?_;clear hK K)|with_reducible intro K hK|refine Rs.p ?_|((with_reducible first|apply oP|apply oQ);exact rfl)|(first|(refine bq hX hC hP hR (mg hR f caps g ps hf hl) rfl rfl rfl ?_ ?_ rfl rfl ?_;(focus (simp only [go_sem,simprocAttr];done));(focus (first|(intro p hp;exact aR (bK.nd hR) hp)|(simp [go_sem,simprocAttr];done))))|(refine bq hX hC hP hR (mg hR f caps g ps hf hl) rfl rfl rfl ?_ ?_ ?_ rfl ?_;(focus (simp only [go_sem,simprocAttr];done));(focus (first|(intro p hp;exact aR (bK.nd hR) hp)|(simp [go_sem,simprocAttr];done)));(focus (simp [go_sem,simprocAttr];done)))));try simp only [go_sem,simprocAttr])|((with_reducible refine oD ?_ ?_);kernel_rfl)|((with_reducible intro h);try simp only [go_sem,simprocAttr] at h)|omega|intro h)
 ·exact ia g ps
 ·exact gI hR
theorem jB (n:Int) (h0:0<n) (hl:n≤1000000):Spec Tryz.prog 207 (Args [.nil 92,eN n]) [] (.ref 10000) [(10000, .own 92 3 [])]:=by
 (refine Spec.A5 (C:=T.cfg [] []) (rs:= [.t 4]) [(10000,25)] (T.ah _ _) Tryz.func207 rfl rfl Tryz.ntmps207 Tryz.results207 (by simp [AObj.isNest]) (by simp [AObj.isNest]) (by first|(simp [look];done)|(simp [asN];done)|(intro l hl;simp only [asN];repeat (rw [if_neg (fun e=>by subst e;simp [look] at hl)]))) (by first|(simp [look];done)|(simp [asN];done)|(intro l hl;simp only [asN];repeat (rw [if_neg (fun e=>by subst e;simp [look] at hl)]))) (by kernel_rfl) T.mixed fun X hX hP hC aI bU=> ?_)
 repeat' (first|refine Rn.p ?_|(with_reducible apply And.intro)|((first|(refine hK _ ?_;clear hK K)|with_reducible intro K hK|refine Rs.p ?_|((with_reducible first|apply oP|apply oQ);exact rfl));try simp only [go_sem,simprocAttr])|((with_reducible refine oD ?_ ?_);kernel_rfl)|((with_reducible intro h);try simp only [go_sem,simprocAttr] at h)|omega|intro h)
def vT (ls:List (List It)):List (List D):=ls.map fun l=> [sT l]
theorem vT_length {ls:List (List It)} :(vT ls).length=ls.length:=by simp [vT]
theorem nZ {ls:List (List It)} {k:Nat} (h:k<ls.length) (d:List D):(vT ls).getD k d= [sT (ls.getD k [])]:=by
 simp [vT,List.getD_eq_getElem?_getD,List.getElem?_eq_getElem h]
attribute [go_sem] vT_length
theorem u7 {α:Type} {ls:List (List α)} {k:Nat} (h:k<ls.length):(ls.take (k+1)).flatten=(ls.take k).flatten++ls.getD k []:=by
 rw [List.take_add_one,List.flatten_append,List.getElem?_eq_getElem h,List.getD_eq_getElem?_getD,List.getElem?_eq_getElem h]
 simp
theorem qG {α:Type} {ls:List (List α)} {k:Nat} :(ls.take k).flatten.length≤ls.flatten.length:=by
 have:=congrArg (fun x=>x.flatten.length) (List.take_append_drop k ls)
 simp only [List.flatten_append,List.length_append] at this
 omega
theorem yD (ls:List (List It)) (hn:ls.length≤1000) (h0:0<ls.flatten.length) (hl:ls.flatten.length≤1000000):Spec Tryz.prog 191 (Args [.d (.sl 1 (vT ls))]) [] (.d (sT ls.flatten)) []:=by
 (refine Spec.hd (C:=T.cfg [] []) (rs:= [.t 2]) (T.ah _ _) Tryz.func191 rfl rfl Tryz.ntmps191 Tryz.results191 (by simp [AObj.isNest]) (by simp [AObj.isNest]) (by kernel_rfl) T.mixed fun X hX hP hC aI bU=> ?_)
 repeat' (first|refine Rn.p ?_|(with_reducible apply And.intro)|((first|(refine hK _ ?_;clear hK K)|with_reducible intro K hK|refine Rs.p ?_|((with_reducible first|apply oP|apply oQ);exact rfl)|(refine aA hX hC hP [(10000,33)] (jB (ls.flatten.length:Int) (by omega) (by omega)) rfl rfl rfl ?_ ?_ ?_ ?_ ?_ ?_ ?_ ?_ ?_ ?_ ?_ ?_ ?_ ?_;(focus (simp only [go_sem,simprocAttr];done));(iterate 12 (focus (simp [go_sem,simprocAttr];done)));try simp only [List.map_cons,List.map_nil]));try simp only [go_sem,simprocAttr])|((with_reducible refine oD ?_ ?_);kernel_rfl)|((with_reducible intro h);try simp only [go_sem,simprocAttr] at h)|omega|intro h)
 refine ag (fun k:Nat=>k≤ls.length) (fun k=>⟨[(0, .d (.sl 1 (vT ls))),(9, .d (.sl 1 (vT ls))),(10,eN ls.length),(11,eN k),(3,eN ((ls.take k).flatten.length))], []⟩) (fun k=>ls.length - k) 0 (by omega) ?_ ?_
 ·(refine Le.of ?_ ?_<;>simp [go_sem,simprocAttr])
 ·rintro k hk
  rcases Nat.lt_or_ge k ls.length with hlt|hge
  ·have hb:decide ((k:Int)<(ls.length:Int))=true:=decide_eq_true (by omega)
   have hv:=nZ hlt
   have hf:=u7 hlt
   have OE:=qG (ls:=ls) (k:=k)
   have KR:=qG (ls:=ls) (k:=k+1)
   rw [hf,List.length_append] at KR
   have hneg:decide (((ls.take k).flatten.length:Int)+((ls.getD k []).length:Int)<0)=false:=decide_eq_false (by omega)
   repeat' (first|refine Rn.p ?_|(with_reducible apply And.intro)|((first|(refine hK _ ?_;clear hK K)|with_reducible intro K hK|refine Rs.p ?_|((with_reducible first|apply oP|apply oQ);exact rfl)|(refine aA hX hC hP [(10000,33)] (jB (ls.flatten.length:Int) (by omega) (by omega)) rfl rfl rfl ?_ ?_ ?_ ?_ ?_ ?_ ?_ ?_ ?_ ?_ ?_ ?_ ?_ ?_;(focus (simp only [go_sem,simprocAttr,hb,hv,hneg];done));(iterate 12 (focus (simp [go_sem,simprocAttr,hb,hv,hneg];done)));try simp only [List.map_cons,List.map_nil]));try simp only [go_sem,simprocAttr,hb,hv,hneg])|((with_reducible refine oD ?_ ?_);kernel_rfl)|((with_reducible intro h);try simp only [go_sem,simprocAttr,hb,hv,hneg] at h)|omega|intro h)
   refine ⟨k+1,by omega, ?_,by omega⟩
   simp only [hf]
   refine Le.of ?_ ?_<;>simp [go_sem,simprocAttr,hb,hv,hneg]
  ·have hb:decide ((k:Int)<(ls.length:Int))=false:=decide_eq_false (by omega)
   have ht:ls.take k=ls:=List.take_of_length_le (by omega)
   repeat' (first|refine Rn.p ?_|(with_reducible apply And.intro)|((first|(refine hK _ ?_;clear hK K)|with_reducible intro K hK|refine Rs.p ?_|((with_reducible first|apply oP|apply oQ);exact rfl)|(refine aA hX hC hP [(10000,33)] (jB (ls.flatten.length:Int) (by omega) (by omega)) rfl rfl rfl ?_ ?_ ?_ ?_ ?_ ?_ ?_ ?_ ?_ ?_ ?_ ?_ ?_ ?_;(focus (simp only [go_sem,simprocAttr,hb,ht];done));(iterate 12 (focus (simp [go_sem,simprocAttr,hb,ht];done)));try simp only [List.map_cons,List.map_nil]));try simp only [go_sem,simprocAttr,hb,ht])|((with_reducible refine oD ?_ ?_);kernel_rfl)|((with_reducible intro h);try simp only [go_sem,simprocAttr,hb,ht] at h)|omega|intro h)
   refine ag (fun k:Nat=>k≤ls.length) (fun k=>⟨[(25, .d (.sl 1 (vT ls))),(26,eN ls.length),(27,eN k),(6, .ref 33)], [(33, .own 92 3 ((ls.take k).flatten.map rT))]⟩) (fun k=>ls.length - k) 0 (by omega) ?_ ?_
   ·(refine Le.of ?_ ?_<;>simp [go_sem,simprocAttr,hb,ht])
   ·clear hb ht hk hge
    rintro k hk
    rcases Nat.lt_or_ge k ls.length with hlt|hge
    ·have hb:decide ((k:Int)<(ls.length:Int))=true:=decide_eq_true (by omega)
     have hv:=nZ hlt
     have hf:=u7 hlt
     have OE:=qG (ls:=ls) (k:=k)
     have KR:=qG (ls:=ls) (k:=k+1)
     rw [hf,List.length_append] at KR
     repeat' (first|refine Rn.p ?_|(with_reducible apply And.intro)|((first|(refine hK _ ?_;clear hK K)|with_reducible intro K hK|refine Rs.p ?_|((with_reducible first|apply oP|apply oQ);exact rfl)|(refine aA hX hC hP [(10000,33)] (jB (ls.flatten.length:Int) (by omega) (by omega)) rfl rfl rfl ?_ ?_ ?_ ?_ ?_ ?_ ?_ ?_ ?_ ?_ ?_ ?_ ?_ ?_;(focus (simp only [go_sem,simprocAttr,hb,hv];done));(iterate 12 (focus (simp [go_sem,simprocAttr,hb,hv];done)));try simp only [List.map_cons,List.map_nil]));try simp only [go_sem,simprocAttr,hb,hv])|((with_reducible refine oD ?_ ?_);kernel_rfl)|((with_reducible intro h);try simp only [go_sem,simprocAttr,hb,hv] at h)|omega|intro h)
     refine ⟨k+1,by omega, ?_,by omega⟩
     simp only [hf]
     refine Le.of ?_ ?_<;>simp [go_sem,simprocAttr,hb,hv]
    ·have hb:decide ((k:Int)<(ls.length:Int))=false:=decide_eq_false (by omega)
     have ht:ls.take k=ls:=List.take_of_length_le (by omega)
     repeat' (first|refine Rn.p ?_|(with_reducible apply And.intro)|((first|(refine hK _ ?_;clear hK K)|with_reducible intro K hK|refine Rs.p ?_|((with_reducible first|apply oP|apply oQ);exact rfl)|(refine aA hX hC hP [(10000,33)] (jB (ls.flatten.length:Int) (by omega) (by omega)) rfl rfl rfl ?_ ?_ ?_ ?_ ?_ ?_ ?_ ?_ ?_ ?_ ?_ ?_ ?_ ?_;(focus (simp only [go_sem,simprocAttr,hb,ht];done));(iterate 12 (focus (simp [go_sem,simprocAttr,hb,ht];done)));try simp only [List.map_cons,List.map_nil]));try simp only [go_sem,simprocAttr,hb,ht])|((with_reducible refine oD ?_ ?_);kernel_rfl)|((with_reducible intro h);try simp only [go_sem,simprocAttr,hb,ht] at h)|omega|intro h)
end Go.Ab
end
section
namespace Go.Ab
open Go.Proofs
attribute [local congr] ACall.congr gd.congr Nx.congr
set_option maxRecDepth 10000
set_option maxHeartbeats 1000000
structure Fr where
 row:List It
 pl:List Int
def kJ (g:Gr) (f:Fr):D:= .pt [sT f.row,vw g,sI f.pl]
def di (row:List It) (x:Int):Nat→Int × Int × Int
 |0=>(-1,0,0)
 |k+1=>if (row.getD k (0,0,0)).2.2=x then (if (di row x k).1= -1 then (k:Int) else (di row x k).1,(k:Int)+1,(di row x k).2.2+1) else di row x k
def bp (row:List It) (x:Int):Int × Int × Int:=di row x row.length
theorem jC {row:List It} {x:Int} {k:Nat} :di row x (k+1)=if (row.getD k (0,0,0)).2.2=x then (if (di row x k).1= -1 then (k:Int) else (di row x k).1,(k:Int)+1,(di row x k).2.2+1) else di row x k:=rfl
theorem dF {row:List It} {x:Int} :∀k:Nat,(di row x k=(-1,0,0)∧∀j,j<k→(row.getD j (0,0,0)).2.2≠x)∨
 ∃a b c:Nat,di row x k=((a:Int),(b:Int),(c:Int))∧a<b∧b≤k∧0<c∧c≤k∧(row.getD a (0,0,0)).2.2=x∧(row.getD (b - 1) (0,0,0)).2.2=x∧(∀j,j<a→(row.getD j (0,0,0)).2.2≠x)∧(∀j,b≤j→j<k→(row.getD j (0,0,0)).2.2≠x)
 |0=> .inl ⟨rfl,fun j hj=>by omega⟩
 |k+1=>by
  rw [jC]
  by_cases hx:(row.getD k (0,0,0)).2.2=x
  ·rw [if_pos hx]
   right
   rcases dF (row:=row) (x:=x) k with ⟨h1,h2⟩|⟨a,b,c,h1,h2,h3,h4,h5,h6,h7,h8,h9⟩
   ·refine ⟨k,k+1,1,by rw [h1];rfl,by omega,by omega,by omega,by omega,hx,hx,h2,fun j h1 h2=>by omega⟩
   ·refine ⟨a,k+1,c+1,by rw [h1];simp only [Prod.mk.injEq];exact ⟨by rw [if_neg (by omega)],by omega,by omega⟩,by omega,by omega,by omega,by omega,h6,hx,h8,fun j h1 h2=>by omega⟩
  ·rw [if_neg hx]
   rcases dF (row:=row) (x:=x) k with ⟨h1,h2⟩|⟨a,b,c,h1,h2,h3,h4,h5,h6,h7,h8,h9⟩
   ·refine .inl ⟨h1,fun j hj=> ?_⟩
    by_cases hjk:j=k
    ·subst hjk;exact hx
    ·exact h2 j (by omega)
   ·refine .inr ⟨a,b,c,h1,h2,by omega,h4,by omega,h6,h7,h8,fun j QX Vq=> ?_⟩
    by_cases hjk:j=k
    ·subst hjk;exact hx
    ·exact h9 j QX (by omega)
theorem fm (ds:List D) (row:List It) (x:Int) (hl:row.length≤1000000):Spec Tryz.prog 139 (Args [.d (.pt (sT row::ds)),eN x]) [] (.tup [eN (bp row x).1,eN (bp row x).2.1,eN (bp row x).2.2]) []:=by
 (refine Spec.hd (C:=T.cfg [] []) (rs:= [.t 4, .t 5, .t 6]) (T.ah _ _) Tryz.func139 rfl rfl Tryz.ntmps139 Tryz.results139 (by simp [AObj.isNest]) (by simp [AObj.isNest]) (by kernel_rfl) T.mixed fun X hX hP hC aI bU=> ?_)
 repeat' (first|refine Rn.p ?_|(with_reducible apply And.intro)|((first|(refine hK _ ?_;clear hK K)|with_reducible intro K hK|refine Rs.p ?_|((with_reducible first|apply oP|apply oQ);exact rfl));try simp only [go_sem,simprocAttr,bp])|((with_reducible refine oD ?_ ?_);kernel_rfl)|((with_reducible intro h);try simp only [go_sem,simprocAttr,bp] at h)|omega|intro h)
 refine ag (fun k:Nat=>k≤row.length) (fun k=>⟨[(1,eN x),(12, .d (sT row)),(13,eN row.length),(14,eN k),(4,eN (di row x k).1),(5,eN (di row x k).2.1),(6,eN (di row x k).2.2)], []⟩) (fun k=>row.length - k) 0 (by simp) ?_ ?_
 ·refine Le.of ?_ ?_<;>simp [go_sem,simprocAttr,bp,di]
 rintro k hk
 rcases Nat.lt_or_ge k row.length with hlt|hge
 ·have hb:decide ((k:Int)<(row.length:Int))=true:=decide_eq_true (by omega)
  have hok:=dF (row:=row) (x:=x) k
  have hc: -1≤(di row x k).2.2∧(di row x k).2.2≤k:=by
   rcases hok with ⟨h1,_⟩|⟨a,b,c,h1,_,_,_,_,_⟩<;>rw [h1]<;>simp only<;>omega
  have ef:=jC (row:=row) (x:=x) (k:=k)
  repeat' (first|refine Rn.p ?_|(with_reducible apply And.intro)|((first|(refine hK _ ?_;clear hK K)|with_reducible intro K hK|refine Rs.p ?_|((with_reducible first|apply oP|apply oQ);exact rfl));try simp only [go_sem,simprocAttr,hb])|((with_reducible refine oD ?_ ?_);kernel_rfl)|((with_reducible intro h);try simp only [go_sem,simprocAttr,hb] at h)|omega|intro h)
  all_goals (first|rw [if_neg (by assumption)] at ef|(rw [if_pos (by assumption)] at ef;first|rw [if_pos (by assumption)] at ef|rw [if_neg (by assumption)] at ef))
  all_goals (refine ⟨k+1,by omega, ?_,by omega⟩;refine Le.of ?_ ?_<;>simp [go_sem,simprocAttr,hb,ef])
 ·have hb:decide ((k:Int)<(row.length:Int))=false:=decide_eq_false (by omega)
  obtain rfl:k=row.length:=by omega
  repeat' (first|refine Rn.p ?_|(with_reducible apply And.intro)|((first|(refine hK _ ?_;clear hK K)|with_reducible intro K hK|refine Rs.p ?_|((with_reducible first|apply oP|apply oQ);exact rfl));try simp only [go_sem,simprocAttr,hb,bp])|((with_reducible refine oD ?_ ?_);kernel_rfl)|((with_reducible intro h);try simp only [go_sem,simprocAttr,hb,bp] at h)|omega|intro h)
def lQ (x:Int) (t:It):Bool:=decide (t.2.2≠x)&&decide (t.2.2≠ -1)
def sO (row:List It) (x:Int) (a b:Nat):Bool:= !((row.take b).drop a).any (lQ x)
theorem D7 (x:Int):bK [(10000, .rob [eN x])]:=⟨by simp [AObj.ro],by simp [nodupM,look],by simp,by simp [AObj.ids,AV.ids,AV.idss,eN]⟩
theorem BH (x:Int) (t:It):Spec Tryz.prog 206 (Args [eT t, .ptr 10000 0]) [(10000, .rob [eN x])] (eB (lQ x t)) [(10000, .rob [eN x])]:=by
 (refine Spec.hd (C:=T.cfg [] []) (rs:= [.t 3]) (T.ah _ _) Tryz.func206 rfl rfl Tryz.ntmps206 Tryz.results206 (fun p hp=>⟨(bK.low (D7 x) p hp).1,bK.nest (D7 x) p hp⟩) (fun p hp=>⟨(bK.low (D7 x) p hp).2,bK.nest (D7 x) p hp⟩) (by kernel_rfl) T.mixed fun X hX hP hC aI bU=> ?_)
 repeat' (first|refine Rn.p ?_|(with_reducible apply And.intro)|((first|(refine hK _ ?_;clear hK K)|with_reducible intro K hK|refine Rs.p ?_|((with_reducible first|apply oP|apply oQ);exact rfl));try simp only [go_sem,simprocAttr])|((with_reducible refine oD ?_ ?_);kernel_rfl)|((with_reducible intro h);try simp only [go_sem,simprocAttr] at h)|omega|intro h)
 all_goals (simp only [lQ];first|exact gI (D7 x)|simp [*])
theorem ij (ds:List D) (row:List It) (x:Int) (a b:Nat) (hab:a≤b) (hb:b≤row.length) (hl:row.length≤1000000):Spec Tryz.prog 190 (Args [.d (.pt (sT row::ds)),eN x,eN a,eN b]) [] (eB (sO row x a b)) []:=by
 have Dr:sT ((row.take b).drop a)= .sl 3 (((row.map rT).take b).drop a):=by simp [sT,List.map_take,List.map_drop]
 have mU:((row.take b).drop a).length≤9223372036854775807:=by simp;omega
 (refine Spec.hd (C:=T.cfg [] []) (rs:= [.t 8]) (T.ah _ _) Tryz.func190 rfl rfl Tryz.ntmps190 Tryz.results190 (by simp [AObj.isNest]) (by simp [AObj.isNest]) (by kernel_rfl) T.mixed fun X hX hP hC aI bU=> ?_)
 repeat' (first|refine Rn.p ?_|(with_reducible apply And.intro)|((first|(refine hK _ ?_;clear hK K)|with_reducible intro K hK|refine Rs.p ?_|((with_reducible first|apply oP|apply oQ);exact rfl)|(refine aV hX hC hP [(10000,5)] (pI (D7 x) _ [.ptr 10000 0] (lQ x) ((row.take b).drop a) (fun t _=>BH x t) mU) rfl rfl rfl ?_ ?_ ?_ ?_ ?_ ?_ rfl rfl ?_ ?_;(focus (simp only [go_sem,simprocAttr,List.map_take,List.map_drop];done));(iterate 6 (focus (simp [go_sem,simprocAttr,List.map_take,List.map_drop];done)));try simp only [List.map_cons,List.map_nil]));try simp only [go_sem,simprocAttr,List.map_take,List.map_drop])|((with_reducible refine oD ?_ ?_);kernel_rfl)|((with_reducible intro h);try simp only [go_sem,simprocAttr,List.map_take,List.map_drop] at h)|omega|intro h)
 rfl
end Go.Ab
end
section
namespace Go.Ab
open Go.Proofs
attribute [local congr] ACall.congr gd.congr Nx.congr
set_option maxRecDepth 10000
set_option maxHeartbeats 2000000
def iq (g:Gr) (f:Fr) (x:Int):Bool:=
 if x<0∨g.n≤x∨x∈f.pl then false else
 decide ((bp f.row x).2.2=((bD (·.2) g x).length:Int))&&(decide ((bD (·.2) g x).length=0)||sO f.row x (bp f.row x).1.toNat (bp f.row x).2.1.toNat)
theorem BI {f:Edge→Int} {g:Gr} {x:Int} :(bD f g x).length≤g.es.length:=by
 unfold bD
 split
 ·exact fe
 ·simp
theorem pJ (g:Gr) (hm:aO g=true) (f:Fr) (x:Int) (hr:f.row.length≤1000000) (fD:f.pl.length≤1000000):Spec Tryz.prog 138 (Args [.d (kJ g f),eN x]) [] (eB (iq g f x)) []:=by
 have hp:f.pl.length≤9223372036854775807:=by omega
 have hn:=aM hm
 unfold kJ
 by_cases hx:x<0∨g.n≤x∨x∈f.pl
 ·have hR:iq g f x=false:=if_pos hx
  (refine Spec.hd (C:=T.cfg [] []) (rs:= [.t 4]) (T.ah _ _) Tryz.func138 rfl rfl Tryz.ntmps138 Tryz.results138 (by simp [AObj.isNest]) (by simp [AObj.isNest]) (by kernel_rfl) T.mixed fun X hX hP hC aI bU=> ?_)
  by_cases h1:x<0
  ·have au:decide (x<0)=true:=decide_eq_true h1
   repeat' (first|refine Rn.p ?_|(with_reducible apply And.intro)|((first|(refine hK _ ?_;clear hK K)|with_reducible intro K hK|refine Rs.p ?_|((with_reducible first|apply oP|apply oQ);exact rfl)|refine aa hX hC hP (jA g hm x) rfl rfl rfl (by simp only [go_sem,simprocAttr,aq,hR,au]) rfl ?_|refine aa hX hC hP (bC f.pl x hp) rfl rfl rfl (by simp only [go_sem,simprocAttr,aq,hR,au]) rfl ?_|refine aa hX hC hP (fm [vw g,sI f.pl] f.row x hr) rfl rfl rfl (by simp only [go_sem,simprocAttr,aq,hR,au]) rfl ?_|refine aa hX hC hP (ij [vw g,sI f.pl] f.row x a b hab kj hr) rfl rfl rfl (by simp only [go_sem,simprocAttr,aq,hR,au]) rfl ?_);try simp only [go_sem,simprocAttr,aq,hR,au])|((with_reducible refine oD ?_ ?_);kernel_rfl)|((with_reducible intro h);try simp only [go_sem,simprocAttr,aq,hR,au] at h)|omega|intro h)
  have au:decide (x<0)=false:=decide_eq_false h1
  by_cases h2:g.n≤x
  ·have az:decide (g.n≤x)=true:=decide_eq_true h2
   repeat' (first|refine Rn.p ?_|(with_reducible apply And.intro)|((first|(refine hK _ ?_;clear hK K)|with_reducible intro K hK|refine Rs.p ?_|((with_reducible first|apply oP|apply oQ);exact rfl)|refine aa hX hC hP (jA g hm x) rfl rfl rfl (by simp only [go_sem,simprocAttr,aq,hR,au,az]) rfl ?_|refine aa hX hC hP (bC f.pl x hp) rfl rfl rfl (by simp only [go_sem,simprocAttr,aq,hR,au,az]) rfl ?_|refine aa hX hC hP (fm [vw g,sI f.pl] f.row x hr) rfl rfl rfl (by simp only [go_sem,simprocAttr,aq,hR,au,az]) rfl ?_|refine aa hX hC hP (ij [vw g,sI f.pl] f.row x a b hab kj hr) rfl rfl rfl (by simp only [go_sem,simprocAttr,aq,hR,au,az]) rfl ?_);try simp only [go_sem,simprocAttr,aq,hR,au,az])|((with_reducible refine oD ?_ ?_);kernel_rfl)|((with_reducible intro h);try simp only [go_sem,simprocAttr,aq,hR,au,az] at h)|omega|intro h)
  have az:decide (g.n≤x)=false:=decide_eq_false h2
  have h3:x∈f.pl:=by rcases hx with h|h|h;exact absurd h h1;exact absurd h h2;exact h
  have cI:decide (x∈f.pl)=true:=decide_eq_true h3
  repeat' (first|refine Rn.p ?_|(with_reducible apply And.intro)|((first|(refine hK _ ?_;clear hK K)|with_reducible intro K hK|refine Rs.p ?_|((with_reducible first|apply oP|apply oQ);exact rfl)|refine aa hX hC hP (jA g hm x) rfl rfl rfl (by simp only [go_sem,simprocAttr,aq,hR,au,az,cI]) rfl ?_|refine aa hX hC hP (bC f.pl x hp) rfl rfl rfl (by simp only [go_sem,simprocAttr,aq,hR,au,az,cI]) rfl ?_|refine aa hX hC hP (fm [vw g,sI f.pl] f.row x hr) rfl rfl rfl (by simp only [go_sem,simprocAttr,aq,hR,au,az,cI]) rfl ?_|refine aa hX hC hP (ij [vw g,sI f.pl] f.row x a b hab kj hr) rfl rfl rfl (by simp only [go_sem,simprocAttr,aq,hR,au,az,cI]) rfl ?_);try simp only [go_sem,simprocAttr,aq,hR,au,az,cI])|((with_reducible refine oD ?_ ?_);kernel_rfl)|((with_reducible intro h);try simp only [go_sem,simprocAttr,aq,hR,au,az,cI] at h)|omega|intro h)
 ·have au:decide (x<0)=false:=decide_eq_false fun h=>hx (.inl h)
  have az:decide (g.n≤x)=false:=decide_eq_false fun h=>hx (.inr (.inl h))
  have cI:decide (x∈f.pl)=false:=decide_eq_false fun h=>hx (.inr (.inr h))
  have hR:iq g f x=(decide ((bp f.row x).2.2=((bD (·.2) g x).length:Int))&&(decide ((bD (·.2) g x).length=0)||sO f.row x (bp f.row x).1.toNat (bp f.row x).2.1.toNat)):=if_neg hx
  by_cases h4:(bp f.row x).2.2=((bD (·.2) g x).length:Int)
  ·have hb4:decide ((bp f.row x).2.2=((bD (·.2) g x).length:Int))=true:=decide_eq_true h4
   by_cases h5:(bD (·.2) g x).length=0
   ·have D8:decide (((bD (·.2) g x).length:Int)=0)=true:=decide_eq_true (by omega)
    rw [hb4,decide_eq_true h5] at hR
    (refine Spec.hd (C:=T.cfg [] []) (rs:= [.t 4]) (T.ah _ _) Tryz.func138 rfl rfl Tryz.ntmps138 Tryz.results138 (by simp [AObj.isNest]) (by simp [AObj.isNest]) (by kernel_rfl) T.mixed fun X hX hP hC aI bU=> ?_)
    repeat' (first|refine Rn.p ?_|(with_reducible apply And.intro)|((first|(refine hK _ ?_;clear hK K)|with_reducible intro K hK|refine Rs.p ?_|((with_reducible first|apply oP|apply oQ);exact rfl)|refine aa hX hC hP (jA g hm x) rfl rfl rfl (by simp only [go_sem,simprocAttr,aq,hR,au,az,cI,hb4,D8]) rfl ?_|refine aa hX hC hP (bC f.pl x hp) rfl rfl rfl (by simp only [go_sem,simprocAttr,aq,hR,au,az,cI,hb4,D8]) rfl ?_|refine aa hX hC hP (fm [vw g,sI f.pl] f.row x hr) rfl rfl rfl (by simp only [go_sem,simprocAttr,aq,hR,au,az,cI,hb4,D8]) rfl ?_|refine aa hX hC hP (ij [vw g,sI f.pl] f.row x a b hab kj hr) rfl rfl rfl (by simp only [go_sem,simprocAttr,aq,hR,au,az,cI,hb4,D8]) rfl ?_);try simp only [go_sem,simprocAttr,aq,hR,au,az,cI,hb4,D8])|((with_reducible refine oD ?_ ?_);kernel_rfl)|((with_reducible intro h);try simp only [go_sem,simprocAttr,aq,hR,au,az,cI,hb4,D8] at h)|omega|intro h)
   ·have D8:decide (((bD (·.2) g x).length:Int)=0)=false:=decide_eq_false (by omega)
    rcases dF (row:=f.row) (x:=x) f.row.length with ⟨h6,_⟩|⟨a,b,c,h6,hab,kj,_⟩
    ·exfalso
     have:(bp f.row x).2.2=0:=by unfold bp;rw [h6]
     omega
    ·have hsp:bp f.row x=((a:Int),(b:Int),(c:Int)):=h6
     have hab:a≤b:=by omega
     rw [hb4,decide_eq_false h5,hsp] at hR
     simp only [Bool.true_and,Bool.false_or,Int.toNat_natCast] at hR
     rw [hsp] at hb4
     (refine Spec.hd (C:=T.cfg [] []) (rs:= [.t 4]) (T.ah _ _) Tryz.func138 rfl rfl Tryz.ntmps138 Tryz.results138 (by simp [AObj.isNest]) (by simp [AObj.isNest]) (by kernel_rfl) T.mixed fun X hX hP hC aI bU=> ?_)
     repeat' (first|refine Rn.p ?_|(with_reducible apply And.intro)|((first|(refine hK _ ?_;clear hK K)|with_reducible intro K hK|refine Rs.p ?_|((with_reducible first|apply oP|apply oQ);exact rfl)|refine aa hX hC hP (jA g hm x) rfl rfl rfl (by simp only [go_sem,simprocAttr,aq,hR,au,az,cI,hb4,D8,hsp]) rfl ?_|refine aa hX hC hP (bC f.pl x hp) rfl rfl rfl (by simp only [go_sem,simprocAttr,aq,hR,au,az,cI,hb4,D8,hsp]) rfl ?_|refine aa hX hC hP (fm [vw g,sI f.pl] f.row x hr) rfl rfl rfl (by simp only [go_sem,simprocAttr,aq,hR,au,az,cI,hb4,D8,hsp]) rfl ?_|refine aa hX hC hP (ij [vw g,sI f.pl] f.row x a b hab kj hr) rfl rfl rfl (by simp only [go_sem,simprocAttr,aq,hR,au,az,cI,hb4,D8,hsp]) rfl ?_);try simp only [go_sem,simprocAttr,aq,hR,au,az,cI,hb4,D8,hsp])|((with_reducible refine oD ?_ ?_);kernel_rfl)|((with_reducible intro h);try simp only [go_sem,simprocAttr,aq,hR,au,az,cI,hb4,D8,hsp] at h)|omega|intro h)
  ·have hb4:decide ((bp f.row x).2.2=((bD (·.2) g x).length:Int))=false:=decide_eq_false h4
   rw [hb4,Bool.false_and] at hR
   (refine Spec.hd (C:=T.cfg [] []) (rs:= [.t 4]) (T.ah _ _) Tryz.func138 rfl rfl Tryz.ntmps138 Tryz.results138 (by simp [AObj.isNest]) (by simp [AObj.isNest]) (by kernel_rfl) T.mixed fun X hX hP hC aI bU=> ?_)
   repeat' (first|refine Rn.p ?_|(with_reducible apply And.intro)|((first|(refine hK _ ?_;clear hK K)|with_reducible intro K hK|refine Rs.p ?_|((with_reducible first|apply oP|apply oQ);exact rfl)|refine aa hX hC hP (jA g hm x) rfl rfl rfl (by simp only [go_sem,simprocAttr,aq,hR,au,az,cI,hb4]) rfl ?_|refine aa hX hC hP (bC f.pl x hp) rfl rfl rfl (by simp only [go_sem,simprocAttr,aq,hR,au,az,cI,hb4]) rfl ?_|refine aa hX hC hP (fm [vw g,sI f.pl] f.row x hr) rfl rfl rfl (by simp only [go_sem,simprocAttr,aq,hR,au,az,cI,hb4]) rfl ?_|refine aa hX hC hP (ij [vw g,sI f.pl] f.row x a b hab kj hr) rfl rfl rfl (by simp only [go_sem,simprocAttr,aq,hR,au,az,cI,hb4]) rfl ?_);try simp only [go_sem,simprocAttr,aq,hR,au,az,cI,hb4])|((with_reducible refine oD ?_ ?_);kernel_rfl)|((with_reducible intro h);try simp only [go_sem,simprocAttr,aq,hR,au,az,cI,hb4] at h)|omega|intro h)
theorem D9 (ds:List D) (row:List It) (hr:row.length≤1000000):Spec Tryz.prog 90 (Args [.d (.pt (sT row::ds))]) [] (.ref 10000) [(10000, .tip 92 3 (row.map rT))]:=by
 (refine Spec.A5 (C:=T.cfg [] []) (rs:= [.t 2]) [(10000,7)] (T.ah _ _) Tryz.func90 rfl rfl Tryz.ntmps90 Tryz.results90 (by simp [AObj.isNest]) (by simp [AObj.isNest]) (by first|(simp [look];done)|(simp [asN];done)|(intro l hl;simp only [asN];repeat (rw [if_neg (fun e=>by subst e;simp [look] at hl)]))) (by first|(simp [look];done)|(simp [asN];done)|(intro l hl;simp only [asN];repeat (rw [if_neg (fun e=>by subst e;simp [look] at hl)]))) (by kernel_rfl) T.mixed fun X hX hP hC aI bU=> ?_)
 repeat' (first|refine Rn.p ?_|(with_reducible apply And.intro)|((first|(refine hK _ ?_;clear hK K)|with_reducible intro K hK|refine Rs.p ?_|((with_reducible first|apply oP|apply oQ);exact rfl)|(refine aA hX hC hP [(10000,7)] (sN row hr) rfl rfl rfl ?_ ?_ ?_ ?_ ?_ ?_ ?_ ?_ ?_ ?_ ?_ ?_ ?_ ?_;(focus (simp only [go_sem,simprocAttr];done));(iterate 12 (focus (simp [go_sem,simprocAttr];done)));try simp only [List.map_cons,List.map_nil]));try simp only [go_sem,simprocAttr])|((with_reducible refine oD ?_ ?_);kernel_rfl)|((with_reducible intro h);try simp only [go_sem,simprocAttr] at h)|omega|intro h)
end Go.Ab
end
section
namespace Go.Ab
open Go.Proofs
attribute [local congr] ACall.congr gd.congr Nx.congr
set_option maxRecDepth 10000
set_option maxHeartbeats 2000000
theorem c8 (l:List Int):Spec Tryz.prog 137 (Args [.d (sI l)]) [] (.fn 189 [] [.ptr 10000 0]) [(10000, .box [.d (sI l)])]:=by
 (refine Spec.A5 (C:=T.cfg [] []) (rs:= [.t 2]) [(10000,1)] (T.ah _ _) Tryz.func137 rfl rfl Tryz.ntmps137 Tryz.results137 (by simp [AObj.isNest]) (by simp [AObj.isNest]) (by first|(simp [look];done)|(simp [asN];done)|(intro l hl;simp only [asN];repeat (rw [if_neg (fun e=>by subst e;simp [look] at hl)]))) (by first|(simp [look];done)|(simp [asN];done)|(intro l hl;simp only [asN];repeat (rw [if_neg (fun e=>by subst e;simp [look] at hl)]))) (by kernel_rfl) T.mixed fun X hX hP hC aI bU=> ?_)
 repeat' (first|refine Rn.p ?_|(with_reducible apply And.intro)|((first|(refine hK _ ?_;clear hK K)|with_reducible intro K hK|refine Rs.p ?_|((with_reducible first|apply oP|apply oQ);exact rfl));try simp only [go_sem,simprocAttr])|((with_reducible refine oD ?_ ?_);kernel_rfl)|((with_reducible intro h);try simp only [go_sem,simprocAttr] at h)|omega|intro h)
theorem eW (xs ys:List Int) (hlen:xs.length≤9223372036854775807):Spec Tryz.prog 133 (Args [.d (sI xs), .d (sI ys)]) [] (eB (decide (xs=ys))) []:=by
 (refine Spec.hd (C:=T.cfg [] []) (rs:= [.t 4]) (T.ah _ _) Tryz.func133 rfl rfl Tryz.ntmps133 Tryz.results133 (by simp [AObj.isNest]) (by simp [AObj.isNest]) (by kernel_rfl) T.mixed fun X hX hP hC aI bU=> ?_)
 repeat' (first|refine Rn.p ?_|(with_reducible apply And.intro)|((first|(refine hK _ ?_;clear hK K)|with_reducible intro K hK|refine Rs.p ?_|((with_reducible first|apply oP|apply oQ);exact rfl));try simp only [go_sem,simprocAttr])|((with_reducible refine oD ?_ ?_);kernel_rfl)|((with_reducible intro h);try simp only [go_sem,simprocAttr] at h)|omega|intro h)
 ·have:xs≠ys:=fun e=>h (by rw [e])
  simp [this]
 refine ag (fun k:Nat=>k≤xs.length∧xs.take k=ys.take k) (fun k=>⟨[(0, .d (sI xs)),(1, .d (sI ys)),(12,eN xs.length),(13,eN k)], []⟩) (fun k=>xs.length - k) 0 (by simp) ?_ ?_
 ·(refine ⟨bY ?_,fun _ _ h=>h⟩;simp [go_sem,simprocAttr])
 rintro k ⟨hk,hp⟩
 have Ds:xs.length=ys.length:=by omega
 repeat' (first|refine Rn.p ?_|(with_reducible apply And.intro)|((first|(refine hK _ ?_;clear hK K)|with_reducible intro K hK|refine Rs.p ?_|((with_reducible first|apply oP|apply oQ);exact rfl));try simp only [go_sem,simprocAttr])|((with_reducible refine oD ?_ ?_);kernel_rfl)|((with_reducible intro h);try simp only [go_sem,simprocAttr] at h)|omega|intro h)
 ·have:xs≠ys:=fun e=>h (by rw [e])
  simp [this]
 ·refine ⟨k+1,⟨by omega,wo 0 (by omega) (by omega) hp h⟩, ?_,by omega⟩
  (refine ⟨bY ?_,fun _ _ h=>h⟩;simp [go_sem,simprocAttr])
 ·have:k=xs.length:=by omega
  subst this
  rw [List.take_of_length_le (Nat.le_refl _),List.take_of_length_le (by omega)] at hp
  simp [hp]
def gr (g:Gr) (x:Int) (i:Int):It:=(i,x,(g.es.getD i.toNat (0,0)).2)
def aP (g:Gr) (x:Int) (outs:List Int):List It:=if outs= [] then [(-1,x, -1)] else outs.map (gr g x)
theorem lR {α β:Type} {f:α→β} {l:List α} {d:α} {k:Nat} (h:k<l.length):(l.take (k+1)).map f=(l.take k).map f++ [f (l.getD k d)]:=by
 rw [List.take_add_one,List.map_append,List.getElem?_eq_getElem h,List.getD_eq_getElem?_getD,List.getElem?_eq_getElem h]
 rfl
theorem BJ (g:Gr) (f:Fr) (x:Int) (outs:List Int) (hl:outs.length≤1000000) (ho:∀i∈outs,0≤i∧i<g.es.length):Spec Tryz.prog 141 (Args [.d (kJ g f),eN x, .d (sI outs)]) [] (.ref 10000) [(10000, .tip 92 3 ((aP g x outs).map rT))]:=by
 unfold kJ
 by_cases h0:outs= []
 ·subst h0
  have hA:aP g x []= [(-1,x, -1)]:=if_pos rfl
  rw [hA]
  (refine Spec.A5 (C:=T.cfg [] []) (rs:= [.t 6]) [(10000,14)] (T.ah _ _) Tryz.func141 rfl rfl Tryz.ntmps141 Tryz.results141 (by simp [AObj.isNest]) (by simp [AObj.isNest]) (by first|(simp [look];done)|(simp [asN];done)|(intro l hl;simp only [asN];repeat (rw [if_neg (fun e=>by subst e;simp [look] at hl)]))) (by first|(simp [look];done)|(simp [asN];done)|(intro l hl;simp only [asN];repeat (rw [if_neg (fun e=>by subst e;simp [look] at hl)]))) (by kernel_rfl) T.mixed fun X hX hP hC aI bU=> ?_)
  repeat' (first|refine Rn.p ?_|(with_reducible apply And.intro)|((first|(refine hK _ ?_;clear hK K)|with_reducible intro K hK|refine Rs.p ?_|((with_reducible first|apply oP|apply oQ);exact rfl));try simp only [go_sem,simprocAttr,aq])|((with_reducible refine oD ?_ ?_);kernel_rfl)|((with_reducible intro h);try simp only [go_sem,simprocAttr,aq] at h)|omega|intro h)
 ·have hA:aP g x outs=outs.map (gr g x):=if_neg h0
  rw [hA]
  have hb0:decide ((outs.length:Int)=0)=false:=decide_eq_false fun h=>h0 (List.eq_nil_of_length_eq_zero (by omega))
  (refine Spec.A5 (C:=T.cfg [] []) (rs:= [.t 6]) [(10000,38)] (T.ah _ _) Tryz.func141 rfl rfl Tryz.ntmps141 Tryz.results141 (by simp [AObj.isNest]) (by simp [AObj.isNest]) (by first|(simp [look];done)|(simp [asN];done)|(intro l hl;simp only [asN];repeat (rw [if_neg (fun e=>by subst e;simp [look] at hl)]))) (by first|(simp [look];done)|(simp [asN];done)|(intro l hl;simp only [asN];repeat (rw [if_neg (fun e=>by subst e;simp [look] at hl)]))) (by kernel_rfl) T.mixed fun X hX hP hC aI bU=> ?_)
  repeat' (first|refine Rn.p ?_|(with_reducible apply And.intro)|((first|(refine hK _ ?_;clear hK K)|with_reducible intro K hK|refine Rs.p ?_|((with_reducible first|apply oP|apply oQ);exact rfl));try simp only [go_sem,simprocAttr,aq,hb0])|((with_reducible refine oD ?_ ?_);kernel_rfl)|((with_reducible intro h);try simp only [go_sem,simprocAttr,aq,hb0] at h)|omega|intro h)
  (refine iZ hX 6 38 (.tip 92 3 []) (by simp only [go_sem,simprocAttr,aq,hb0]) (by simp only [go_sem,simprocAttr,aq,hb0]) (by decide) ⟨92,3,by decide, .inr rfl⟩ ?_;simp only [go_sem,simprocAttr,aq,hb0])
  refine ag (fun k:Nat=>k≤outs.length) (fun k=>⟨[(0, .d (kJ g f)),(1,eN x),(15, .d (sI outs)),(16,eN outs.length),(17,eN k),(6, .ref 38)], [(38, .tip 92 3 (((outs.take k).map (gr g x)).map rT))]⟩) (fun k=>outs.length - k) 0 (by omega) ?_ ?_
  ·refine Le.of ?_ ?_<;>simp [go_sem,simprocAttr,aq,hb0,kJ]
  unfold kJ
  rintro k hk
  rcases Nat.lt_or_ge k outs.length with hlt|hge
  ·have hb:decide ((k:Int)<(outs.length:Int))=true:=decide_eq_true (by omega)
   have ef:=lR (f:=gr g x) (d:=0) hlt
   have Kz:=ho _ (aB (d:=0) hlt)
   have hlk:(outs.take k).length=k:=by simp;omega
   repeat' (first|refine Rn.p ?_|(with_reducible apply And.intro)|((first|(refine hK _ ?_;clear hK K)|with_reducible intro K hK|refine Rs.p ?_|((with_reducible first|apply oP|apply oQ);exact rfl));try simp only [go_sem,simprocAttr,aq,hb,hlk])|((with_reducible refine oD ?_ ?_);kernel_rfl)|((with_reducible intro h);try simp only [go_sem,simprocAttr,aq,hb,hlk] at h)|omega|intro h)
   refine ⟨k+1,by omega, ?_,by omega⟩
   refine Le.of ?_ ?_<;>simp [go_sem,simprocAttr,aq,hb,hlk,ef,gr]
  ·have hb:decide ((k:Int)<(outs.length:Int))=false:=decide_eq_false (by omega)
   obtain rfl:k=outs.length:=by omega
   have ht:outs.take outs.length=outs:=List.take_of_length_le (by omega)
   repeat' (first|refine Rn.p ?_|(with_reducible apply And.intro)|((first|(refine hK _ ?_;clear hK K)|with_reducible intro K hK|refine Rs.p ?_|((with_reducible first|apply oP|apply oQ);exact rfl));try simp only [go_sem,simprocAttr,aq,hb,ht])|((with_reducible refine oD ?_ ?_);kernel_rfl)|((with_reducible intro h);try simp only [go_sem,simprocAttr,aq,hb,ht] at h)|omega|intro h)
def oM (g:Gr) (f:Fr):List (Nat × AObj):= [(10000, .box [.d (sT f.row), .d (vw g), .ref 10001]),(10001, .tip 3 1 (f.pl.map rI))]
theorem yE (row items:List It) (a b:Nat) (h0:0<items.length) (hr:row.length≤400000) (hi:items.length≤100000):Spec Tryz.prog 191 (Args [.d (.sl 1 [[.sl 3 (List.take a (row.map rT))], [.sl 3 (items.map rT)], [.sl 3 (List.drop b (row.map rT))]])]) [] (.d (sT (row.take a++items++row.drop b))) []:=by
 have hf: [row.take a,items,row.drop b].flatten=row.take a++items++row.drop b:=by simp
 have hlen: [row.take a,items,row.drop b].flatten.length=min a row.length+items.length+(row.length - b):=by simp;omega
 have:=yD [row.take a,items,row.drop b] (by simp) (by omega) (by omega)
 rw [hf] at this
 simpa only [vT,List.map_cons,List.map_nil,sT,List.map_take,List.map_drop] using this
theorem Ea (g:Gr) (row items:List It) (pl:List Int) (a b:Nat) (hab:a≤b) (hb:b≤row.length) (h0:0<items.length) (hr:row.length≤400000) (hi:items.length≤100000):
 Spec Tryz.prog 140 (Args [.ptr 10000 0,eN a,eN b, .ref 10003]) (oM g ⟨row,pl⟩++ [(10003, .tip 92 3 (items.map rT))]) (.d (sT ((row.take b).drop a))) (oM g ⟨row.take a++items++row.drop b,pl⟩):=by
 have ga:((row.take b).drop a).length≤1000000:=by simp;omega
 have pK:List.take row.length (row.map rT)=row.map rT:=List.take_of_length_le (by simp)
 unfold oM
 simp only [List.cons_append,List.nil_append]
 (refine Spec.hd (C:=T.cfg [] []) (rs:= [.t 8]) (T.ah _ _) Tryz.func140 rfl rfl Tryz.ntmps140 Tryz.results140 (by simp [AObj.isNest]) (by simp [AObj.isNest]) (by kernel_rfl) T.mixed fun X hX hP hC aI bU=> ?_)
 repeat' (first|refine Rn.p ?_|(with_reducible apply And.intro)|((first|(refine hK _ ?_;clear hK K)|with_reducible intro K hK|refine Rs.p ?_|((with_reducible first|apply oP|apply oQ);exact rfl)|(refine aA hX hC hP [(10000,17)] (sN ((row.take b).drop a) ga) rfl rfl rfl ?_ ?_ ?_ ?_ ?_ ?_ ?_ ?_ ?_ ?_ ?_ ?_ ?_ ?_;(focus (simp only [go_sem,simprocAttr,List.map_take,List.map_drop,pK];done));(iterate 12 (focus (simp [go_sem,simprocAttr,List.map_take,List.map_drop,pK];done)));try simp only [List.map_cons,List.map_nil])|(refine aZ hX hC hP (yE row items a b h0 hr hi) rfl rfl rfl ?_ ?_ rfl ?_;iterate 2 (focus (simp only [go_sem,simprocAttr,List.map_take,List.map_drop,pK];done))));try simp only [go_sem,simprocAttr,List.map_take,List.map_drop,pK])|((with_reducible refine oD ?_ ?_);kernel_rfl)|((with_reducible intro h);try simp only [go_sem,simprocAttr,List.map_take,List.map_drop,pK] at h)|omega|intro h)
end Go.Ab
end
section
namespace Go.Ab
open Go.Proofs
attribute [local congr] ACall.congr gd.congr Nx.congr
set_option maxRecDepth 10000
set_option maxHeartbeats 4000000
def BK (g:Gr) (f:Fr):List (Nat × AObj):= [(10000, .box [.d (sT f.row), .d (vw g), .ref 10002]),(10002, .tip 3 1 (f.pl.map rI))]
def jZ (g:Gr) (f:Fr) (x:Int) (outs:List Int):(List It × Int) × Fr:=
 if iq g f x=false then (([],3),f) else if iT outs≠bD (·.1) g x then (([],1),f) else
 (((f.row.take (bp f.row x).2.1.toNat).drop (max (bp f.row x).1 0).toNat,0),⟨f.row.take (max (bp f.row x).1 0).toNat++aP g x outs++f.row.drop (bp f.row x).2.1.toNat,f.pl++ [x]⟩)
theorem dY {f:Edge→Int} {es:List Edge} {k:Nat} {x i:Int} (h:i∈aJ f es k x):(0≤i∧i<k)∧f (es.getD i.toNat (0,0))=x:=by
 simp only [aJ,List.mem_map,List.mem_filter,List.mem_range,decide_eq_true_eq] at h
 obtain ⟨j,⟨h1,h2⟩,rfl⟩:=h
 exact ⟨⟨Int.natCast_nonneg j,by simp;omega⟩,h2⟩
theorem BL {f:Edge→Int} {g:Gr} {x i:Int} (h:i∈bD f g x):(0≤i∧i<g.es.length)∧f (g.es.getD i.toNat (0,0))=x:=by
 unfold bD at h
 split at h
 ·exact dY h
 ·cases h
theorem Ag {l:List Int} {x:Int} :x∈iT l↔x∈l:=by simp [iT]
theorem wX (row:List It) (x:Int):∃a b:Nat,max (bp row x).1 0=(a:Int)∧(bp row x).2.1=(b:Int)∧a≤b∧b≤row.length:=by
 rcases dF (row:=row) (x:=x) row.length with ⟨h,_⟩|⟨a,b,c,h,h1,h2,_⟩
 ·exact ⟨0,0,by unfold bp;rw [h];rfl,by unfold bp;rw [h];rfl,by omega,by omega⟩
 ·exact ⟨a,b,by unfold bp;rw [h];simp only;omega,by unfold bp;rw [h],by omega,by omega⟩
theorem lS {g:Gr} {x:Int} {outs:List Int} :0<(aP g x outs).length∧(aP g x outs).length≤outs.length+1:=by
 unfold aP
 split
 ·simp
 ·rename_i h
  have:=List.length_pos_iff.2 h
  simp;omega
theorem BM (g:Gr) (hm:aO g=true) (f:Fr) (x:Int) (outs:List Int) (hr:f.row.length≤300000) (hp:f.pl.length≤100000) (ho:outs.length≤17592186043904):
 Spec Tryz.prog 89 (Args [.ptr 10000 0,eN x, .d (sI outs)]) (oM g f) (.tup [.d (sT (jZ g f x outs).1.1),eN (jZ g f x outs).1.2]) (BK g (jZ g f x outs).2):=by
 have iQ:f.row.length≤1000000:=by omega
 have hp1:f.pl.length≤1000000:=by omega
 have hs:(iT outs).length≤9223372036854775807:=by rw [fQ];omega
 have hn:=aM hm
 cases hR:iq g f x with
 |false=>
  have hP:jZ g f x outs=(([],3),f):=if_pos hR
  rw [hP]
  unfold oM BK
  (refine Spec.A5 (C:=T.cfg [] []) (rs:= [.t 6, .t 7]) [(10002,10001)] (T.ah _ _) Tryz.func89 rfl rfl Tryz.ntmps89 Tryz.results89 (by simp [AObj.isNest]) (by simp [AObj.isNest]) (by first|(simp [look];done)|(simp [asN];done)|(intro l hl;simp only [asN];repeat (rw [if_neg (fun e=>by subst e;simp [look] at hl)]))) (by first|(simp [look];done)|(simp [asN];done)|(intro l hl;simp only [asN];repeat (rw [if_neg (fun e=>by subst e;simp [look] at hl)]))) (by kernel_rfl) T.mixed fun X hX hP hC aI bU=> ?_)
  repeat' (first|refine Rn.p ?_|(with_reducible apply And.intro)|((first|(refine hK _ ?_;clear hK K)|with_reducible intro K hK|refine Rs.p ?_|((with_reducible first|apply oP|apply oQ);exact rfl)|(refine ai hX hC hP (pJ g hm f x iQ hp1) rfl rfl rfl ?_ ?_ ?_ ?_;iterate 3 (focus (simp only [go_sem,simprocAttr,hR,kJ];done)))|(refine aA hX hC hP [(10000,16)] (c8 outs) rfl rfl rfl ?_ ?_ ?_ ?_ ?_ ?_ ?_ ?_ ?_ ?_ ?_ ?_ ?_ ?_;(focus (simp only [go_sem,simprocAttr,hR,kJ];done));(iterate 12 (focus (simp [go_sem,simprocAttr,hR,kJ];done)));try simp only [List.map_cons,List.map_nil])|(refine aV hX hC hP [(10000,16)] (cF outs ho) rfl rfl rfl ?_ ?_ ?_ ?_ ?_ ?_ rfl rfl ?_ ?_;(focus (simp only [go_sem,simprocAttr,hR,kJ];done));(iterate 6 (focus (simp [go_sem,simprocAttr,hR,kJ];done)));try simp only [List.map_cons,List.map_nil])|refine aa hX hC hP (ji g hm x) rfl rfl rfl (by simp only [go_sem,simprocAttr,hR,kJ]) rfl ?_|refine aa hX hC hP (eW (iT outs) (bD (·.1) g x) hs) rfl rfl rfl (by simp only [go_sem,simprocAttr,hR,kJ]) rfl ?_|(refine ai hX hC hP (fm [vw g,sI f.pl] f.row x iQ) rfl rfl rfl ?_ ?_ ?_ ?_;iterate 3 (focus (simp only [go_sem,simprocAttr,hR,kJ];done))));try simp only [go_sem,simprocAttr,hR,kJ])|((with_reducible refine oD ?_ ?_);kernel_rfl)|((with_reducible intro h);try simp only [go_sem,simprocAttr,hR,kJ] at h)|omega|intro h)
 |true=>
 have K2:¬iq g f x=false:=by rw [hR];simp
 by_cases hE:¬iT outs=bD (·.1) g x
 ·have au:decide (iT outs=bD (·.1) g x)=false:=decide_eq_false hE
  have hP:jZ g f x outs=(([],1),f):=by unfold jZ;rw [if_neg K2,if_pos hE]
  rw [hP]
  unfold oM BK
  (refine Spec.A5 (C:=T.cfg [] []) (rs:= [.t 6, .t 7]) [(10002,10001)] (T.ah _ _) Tryz.func89 rfl rfl Tryz.ntmps89 Tryz.results89 (by simp [AObj.isNest]) (by simp [AObj.isNest]) (by first|(simp [look];done)|(simp [asN];done)|(intro l hl;simp only [asN];repeat (rw [if_neg (fun e=>by subst e;simp [look] at hl)]))) (by first|(simp [look];done)|(simp [asN];done)|(intro l hl;simp only [asN];repeat (rw [if_neg (fun e=>by subst e;simp [look] at hl)]))) (by kernel_rfl) T.mixed fun X hX hP hC aI bU=> ?_)
  repeat' (first|refine Rn.p ?_|(with_reducible apply And.intro)|((first|(refine hK _ ?_;clear hK K)|with_reducible intro K hK|refine Rs.p ?_|((with_reducible first|apply oP|apply oQ);exact rfl)|(refine ai hX hC hP (pJ g hm f x iQ hp1) rfl rfl rfl ?_ ?_ ?_ ?_;iterate 3 (focus (simp only [go_sem,simprocAttr,hR,au,kJ];done)))|(refine aA hX hC hP [(10000,16)] (c8 outs) rfl rfl rfl ?_ ?_ ?_ ?_ ?_ ?_ ?_ ?_ ?_ ?_ ?_ ?_ ?_ ?_;(focus (simp only [go_sem,simprocAttr,hR,au,kJ];done));(iterate 12 (focus (simp [go_sem,simprocAttr,hR,au,kJ];done)));try simp only [List.map_cons,List.map_nil])|(refine aV hX hC hP [(10000,16)] (cF outs ho) rfl rfl rfl ?_ ?_ ?_ ?_ ?_ ?_ rfl rfl ?_ ?_;(focus (simp only [go_sem,simprocAttr,hR,au,kJ];done));(iterate 6 (focus (simp [go_sem,simprocAttr,hR,au,kJ];done)));try simp only [List.map_cons,List.map_nil])|refine aa hX hC hP (ji g hm x) rfl rfl rfl (by simp only [go_sem,simprocAttr,hR,au,kJ]) rfl ?_|refine aa hX hC hP (eW (iT outs) (bD (·.1) g x) hs) rfl rfl rfl (by simp only [go_sem,simprocAttr,hR,au,kJ]) rfl ?_|(refine ai hX hC hP (fm [vw g,sI f.pl] f.row x iQ) rfl rfl rfl ?_ ?_ ?_ ?_;iterate 3 (focus (simp only [go_sem,simprocAttr,hR,au,kJ];done))));try simp only [go_sem,simprocAttr,hR,au,kJ])|((with_reducible refine oD ?_ ?_);kernel_rfl)|((with_reducible intro h);try simp only [go_sem,simprocAttr,hR,au,kJ] at h)|omega|intro h)
 rw [Decidable.not_not] at hE
 have au:decide (iT outs=bD (·.1) g x)=true:=decide_eq_true hE
 have hP:jZ g f x outs=(((f.row.take (bp f.row x).2.1.toNat).drop (max (bp f.row x).1 0).toNat,0),⟨f.row.take (max (bp f.row x).1 0).toNat++aP g x outs++f.row.drop (bp f.row x).2.1.toNat,f.pl++ [x]⟩):=by
  unfold jZ;rw [if_neg K2,if_neg (by rw [hE];simp)]
 rw [hP]
 obtain ⟨a,b,ha,hb,hab,kj⟩:=wX f.row x
 rw [ha,hb]
 simp only [Int.toNat_natCast]
 have Cq:outs.length≤128:=by
  have h1:=congrArg List.length hE
  rw [fQ] at h1
  have h2:=BI (f:=(·.1)) (g:=g) (x:=x)
  omega
 have I9:∀i∈outs,0≤i∧i<g.es.length:=fun i hi=>(BL (f:=(·.1)) (g:=g) (x:=x) (by rw [← hE];exact Ag.2 hi)).1
 obtain ⟨h0,h1⟩:=lS (g:=g) (x:=x) (outs:=outs)
 have n0:(aP g x outs).length≤100000:=by omega
 have tg:f.row.length≤400000:=by omega
 have QY:outs.length≤1000000:=by omega
 unfold oM BK
 (refine Spec.A5 (C:=T.cfg [] []) (rs:= [.t 6, .t 7]) [(10002,42)] (T.ah _ _) Tryz.func89 rfl rfl Tryz.ntmps89 Tryz.results89 (by simp [AObj.isNest]) (by simp [AObj.isNest]) (by first|(simp [look];done)|(simp [asN];done)|(intro l hl;simp only [asN];repeat (rw [if_neg (fun e=>by subst e;simp [look] at hl)]))) (by first|(simp [look];done)|(simp [asN];done)|(intro l hl;simp only [asN];repeat (rw [if_neg (fun e=>by subst e;simp [look] at hl)]))) (by kernel_rfl) T.mixed fun X hX hP hC aI bU=> ?_)
 repeat' (first|refine Rn.p ?_|(with_reducible apply And.intro)|((first|(refine hK _ ?_;clear hK K)|with_reducible intro K hK|refine Rs.p ?_|((with_reducible first|apply oP|apply oQ);exact rfl)|(refine ai hX hC hP (pJ g hm f x iQ hp1) rfl rfl rfl ?_ ?_ ?_ ?_;iterate 3 (focus (simp only [go_sem,simprocAttr,hR,au,ha,hb,kJ,List.length_map,List.map_append,List.map_cons,List.map_nil,rI,oM,List.cons_append,List.nil_append,List.map_take,List.map_drop];done)))|(refine aA hX hC hP [(10000,16)] (c8 outs) rfl rfl rfl ?_ ?_ ?_ ?_ ?_ ?_ ?_ ?_ ?_ ?_ ?_ ?_ ?_ ?_;(focus (simp only [go_sem,simprocAttr,hR,au,ha,hb,kJ,List.length_map,List.map_append,List.map_cons,List.map_nil,rI,oM,List.cons_append,List.nil_append,List.map_take,List.map_drop];done));(iterate 12 (focus (simp [go_sem,simprocAttr,hR,au,ha,hb,kJ,List.length_map,List.map_append,List.map_cons,List.map_nil,rI,oM,List.cons_append,List.nil_append,List.map_take,List.map_drop];done)));try simp only [List.map_cons,List.map_nil])|(refine aV hX hC hP [(10000,16)] (cF outs ho) rfl rfl rfl ?_ ?_ ?_ ?_ ?_ ?_ rfl rfl ?_ ?_;(focus (simp only [go_sem,simprocAttr,hR,au,ha,hb,kJ,List.length_map,List.map_append,List.map_cons,List.map_nil,rI,oM,List.cons_append,List.nil_append,List.map_take,List.map_drop];done));(iterate 6 (focus (simp [go_sem,simprocAttr,hR,au,ha,hb,kJ,List.length_map,List.map_append,List.map_cons,List.map_nil,rI,oM,List.cons_append,List.nil_append,List.map_take,List.map_drop];done)));try simp only [List.map_cons,List.map_nil])|refine aa hX hC hP (ji g hm x) rfl rfl rfl (by simp only [go_sem,simprocAttr,hR,au,ha,hb,kJ,List.length_map,List.map_append,List.map_cons,List.map_nil,rI,oM,List.cons_append,List.nil_append,List.map_take,List.map_drop]) rfl ?_|refine aa hX hC hP (eW (iT outs) (bD (·.1) g x) hs) rfl rfl rfl (by simp only [go_sem,simprocAttr,hR,au,ha,hb,kJ,List.length_map,List.map_append,List.map_cons,List.map_nil,rI,oM,List.cons_append,List.nil_append,List.map_take,List.map_drop]) rfl ?_|(refine ai hX hC hP (fm [vw g,sI f.pl] f.row x iQ) rfl rfl rfl ?_ ?_ ?_ ?_;iterate 3 (focus (simp only [go_sem,simprocAttr,hR,au,ha,hb,kJ,List.length_map,List.map_append,List.map_cons,List.map_nil,rI,oM,List.cons_append,List.nil_append,List.map_take,List.map_drop];done)))|(refine sG hX hC hP 54 (BJ g ⟨f.row,f.pl++ [x]⟩ x outs QY I9) rfl rfl rfl ?_ ?_ (by first|exact ⟨_,_,_,rfl,Ae⟩|exact ⟨_,_,_,rfl,Af⟩|exact ⟨_,_,_,rfl,Ah⟩) rfl (by decide) ?_;(iterate 2 (focus (simp only [go_sem,simprocAttr,hR,au,ha,hb,kJ,List.length_map,List.map_append,List.map_cons,List.map_nil,rI,oM,List.cons_append,List.nil_append,List.map_take,List.map_drop];done)));simp only [go_sem,simprocAttr,hR,au,ha,hb,kJ,List.length_map,List.map_append,List.map_cons,List.map_nil,rI,oM,List.cons_append,List.nil_append,List.map_take,List.map_drop])|(refine aA hX hC hP [(10001,42),(10003,54)] (Ea g f.row (aP g x outs) (f.pl++ [x]) a b hab kj h0 tg n0) rfl rfl rfl ?_ ?_ ?_ ?_ ?_ ?_ ?_ ?_ ?_ ?_ ?_ ?_ ?_ ?_;(focus (simp only [go_sem,simprocAttr,hR,au,ha,hb,kJ,List.length_map,List.map_append,List.map_cons,List.map_nil,rI,oM,List.cons_append,List.nil_append,List.map_take,List.map_drop];done));(iterate 12 (focus (simp [go_sem,simprocAttr,hR,au,ha,hb,kJ,List.length_map,List.map_append,List.map_cons,List.map_nil,rI,oM,List.cons_append,List.nil_append,List.map_take,List.map_drop];done)));try simp only [List.map_cons,List.map_nil]));try simp only [go_sem,simprocAttr,hR,au,ha,hb,kJ,List.length_map,List.map_append,List.map_cons,List.map_nil,rI,oM,List.cons_append,List.nil_append,List.map_take,List.map_drop])|((with_reducible refine oD ?_ ?_);kernel_rfl)|((with_reducible intro h);try simp only [go_sem,simprocAttr,hR,au,ha,hb,kJ,List.length_map,List.map_append,List.map_cons,List.map_nil,rI,oM,List.cons_append,List.nil_append,List.map_take,List.map_drop] at h)|omega|intro h)
end Go.Ab
end
section
namespace Go.Ab
open Go.Proofs
attribute [local congr] ACall.congr gd.congr Nx.congr
set_option maxRecDepth 10000
set_option maxHeartbeats 4000000
def K3 (g:Gr) (f:Fr) (k:Nat):List Int:=((List.range k).filter fun x:Nat=>iq g f (x:Int)).map Int.ofNat
def K4 (g:Gr) (f:Fr):List Int:=K3 g f g.n.toNat
theorem wY (g:Gr) (hl:g.es.length≤1000) (h0:(bF g).1=0) (hm:aO g=true):Spec Tryz.prog 87 (Args [eG g]) [] (.tup [.ptr 10000 0,eN 0]) [(10000, .box [.nil 92, .d (vw g), .nil 3])]:=by
 (refine Spec.A5 (C:=T.cfg [] []) (rs:= [.t 2, .t 3]) [(10000,11)] (T.ah _ _) Tryz.func87 rfl rfl Tryz.ntmps87 Tryz.results87 (by simp [AObj.isNest]) (by simp [AObj.isNest]) (by first|(simp [look];done)|(simp [asN];done)|(intro l hl;simp only [asN];repeat (rw [if_neg (fun e=>by subst e;simp [look] at hl)]))) (by first|(simp [look];done)|(simp [asN];done)|(intro l hl;simp only [asN];repeat (rw [if_neg (fun e=>by subst e;simp [look] at hl)]))) (by kernel_rfl) T.mixed fun X hX hP hC aI bU=> ?_)
 repeat' (first|refine Rn.p ?_|(with_reducible apply And.intro)|((first|(refine hK _ ?_;clear hK K)|with_reducible intro K hK|refine Rs.p ?_|((with_reducible first|apply oP|apply oQ);exact rfl)|refine aa hX hC hP (jx g hl) rfl rfl rfl (by simp only [go_sem,simprocAttr,h0]) rfl ?_|refine aa hX hC hP (fL g hm) rfl rfl rfl (by simp only [go_sem,simprocAttr,h0]) rfl ?_);try simp only [go_sem,simprocAttr,h0])|((with_reducible refine oD ?_ ?_);kernel_rfl)|((with_reducible intro h);try simp only [go_sem,simprocAttr,h0] at h)|omega|intro h)
theorem Eb (g:Gr) (hl:g.es.length≤1000) (h0:(bF g).1≠0):Spec Tryz.prog 87 (Args [eG g]) [] (.tup [.d (.sc (.pointer none)),eN 1]) []:=by
 have hb:decide ((bF g).1=0)=false:=decide_eq_false h0
 (refine Spec.hd (C:=T.cfg [] []) (rs:= [.t 2, .t 3]) (T.ah _ _) Tryz.func87 rfl rfl Tryz.ntmps87 Tryz.results87 (by simp [AObj.isNest]) (by simp [AObj.isNest]) (by kernel_rfl) T.mixed fun X hX hP hC aI bU=> ?_)
 repeat' (first|refine Rn.p ?_|(with_reducible apply And.intro)|((first|(refine hK _ ?_;clear hK K)|with_reducible intro K hK|refine Rs.p ?_|((with_reducible first|apply oP|apply oQ);exact rfl)|refine aa hX hC hP (jx g hl) rfl rfl rfl (by simp only [go_sem,simprocAttr,hb]) rfl ?_);try simp only [go_sem,simprocAttr,hb])|((with_reducible refine oD ?_ ?_);kernel_rfl)|((with_reducible intro h);try simp only [go_sem,simprocAttr,hb] at h)|omega|intro h)
end Go.Ab
end
section
namespace Go.Ab
open Go.Proofs
attribute [local congr] ACall.congr gd.congr Nx.congr
set_option maxRecDepth 10000
set_option maxHeartbeats 4000000
theorem bA (ps:List Int) (x:Int) (hl:ps.length≤9223372036854775807):Spec Tryz.prog 186 (Args [.d (sI ps),eN x]) [] (eB (decide (x∈ps))) []:=by
 (refine Spec.hd (C:=T.cfg [] []) (rs:= [.t 4]) (T.ah _ _) Tryz.func186 rfl rfl Tryz.ntmps186 Tryz.results186 (by simp [AObj.isNest]) (by simp [AObj.isNest]) (by kernel_rfl) T.mixed fun X hX hP hC aI bU=> ?_)
 repeat' (first|refine Rn.p ?_|(with_reducible apply And.intro)|((first|(refine hK _ ?_;clear hK K)|with_reducible intro K hK|refine Rs.p ?_|((with_reducible first|apply oP|apply oQ);exact rfl));try simp only [go_sem,simprocAttr])|((with_reducible refine oD ?_ ?_);kernel_rfl)|((with_reducible intro h);try simp only [go_sem,simprocAttr] at h)|omega|intro h)
 refine ag (fun k:Nat=>k≤ps.length∧∀j,j<k→ps.getD j 0≠x) (fun k=>⟨[(0, .d (sI ps)),(1,eN x),(5,eN k)], []⟩) (fun k=>ps.length - k) 0 (by simp) ?_ ?_
 ·(refine ⟨bY ?_,fun _ _ h=>h⟩;simp [go_sem,simprocAttr])
 rintro k ⟨hk,hg⟩
 rcases Nat.lt_or_ge k ps.length with hlt|hge
 ·have hb:decide ((k:Int)<(ps.length:Int))=true:=decide_eq_true (by omega)
  repeat' (first|refine Rn.p ?_|(with_reducible apply And.intro)|((first|(refine hK _ ?_;clear hK K)|with_reducible intro K hK|refine Rs.p ?_|((with_reducible first|apply oP|apply oQ);exact rfl));try simp only [go_sem,simprocAttr,hb])|((with_reducible refine oD ?_ ?_);kernel_rfl)|((with_reducible intro h);try simp only [go_sem,simprocAttr,hb] at h)|omega|intro h)
  ·have hm:=aB (d:=0) hlt
   rw [h] at hm
   exact (decide_eq_true hm).symm
  ·refine ⟨k+1,⟨by omega,fun j hj=> ?_⟩, ?_,by omega⟩
   ·by_cases hjk:j=k
    ·subst hjk;assumption
    ·exact hg j (by omega)
   ·(refine ⟨bY ?_,fun _ _ h=>h⟩;simp [go_sem,simprocAttr,hb])
 ·have hb:decide ((k:Int)<(ps.length:Int))=false:=decide_eq_false (by omega)
  repeat' (first|refine Rn.p ?_|(with_reducible apply And.intro)|((first|(refine hK _ ?_;clear hK K)|with_reducible intro K hK|refine Rs.p ?_|((with_reducible first|apply oP|apply oQ);exact rfl));try simp only [go_sem,simprocAttr,hb])|((with_reducible refine oD ?_ ?_);kernel_rfl)|((with_reducible intro h);try simp only [go_sem,simprocAttr,hb] at h)|omega|intro h)
  refine (decide_eq_false fun hm=> ?_).symm
  obtain ⟨j,hj,hx⟩:=List.mem_iff_getElem.1 hm
  exact hg j (by omega) (by rw [List.getD_eq_getElem?_getD,List.getElem?_eq_getElem hj];exact hx)
def kK (g:Gr) (f:Fr):List AV:= [eN g.n, .d (sE g.es), .d (sT f.row), .d (sI f.pl)]
def gE (row:List It) (x:Int):Nat→Int
 |0=>0
 |k+1=>if (row.getD k (0,0,0)).2.2=x then gE row x k+1 else gE row x k
theorem fq {row:List It} {x:Int} {k:Nat} :gE row x (k+1)=if (row.getD k (0,0,0)).2.2=x then gE row x k+1 else gE row x k:=rfl
theorem CI {row:List It} {x:Int} :∀k:Nat,0≤gE row x k∧gE row x k≤k
 |0=>by simp [gE]
 |k+1=>by
  have:=CI (row:=row) (x:=x) k
  rw [fq]
  split<;>omega
def u9 (row:List It) (x:Int) (need:Nat) (j:Nat):Bool:=decide ((row.getD j (0,0,0)).2.2≠x)&&decide (0≤(row.getD j (0,0,0)).1)&&decide (0<gE row x j)&&decide (gE row x j<need)
theorem oa {row:List It} {x:Int} {need j:Nat} :u9 row x need j=true↔((row.getD j (0,0,0)).2.2≠x∧0≤(row.getD j (0,0,0)).1)∧0<gE row x j∧gE row x j<need:=by
 simp only [u9,Bool.and_eq_true,decide_eq_true_eq,and_assoc]
def bw (g:Gr) (x:Int):Nat:=(aJ (·.2) g.es g.es.length x).length
def aD (g:Gr) (f:Fr) (x:Int):Bool:=
 if x<0∨g.n≤x∨x∈f.pl then false else if bw g x=0 then true else
 !(List.range f.row.length).any (u9 f.row x (bw g x))&&decide (gE f.row x f.row.length=bw g x)
theorem qH:lK false=(fun e:Edge=>e.2):=rfl
theorem kL:lK true=(fun e:Edge=>e.1):=rfl
theorem Ja {n j:Nat} {p:Nat→Bool} (h:j<n) (hp:p j=true):(List.range n).any p=true:=List.any_eq_true.2 ⟨j,List.mem_range.2 h,hp⟩
theorem Jb {n:Nat} {p:Nat→Bool} (h:∀j,j<n→p j=false):(List.range n).any p=false:=by
 rw [List.any_eq_false]
 intro j hj
 rw [h j (List.mem_range.1 hj)];simp
theorem bM (g:Gr) (hl:g.es.length≤1000) (f:Fr) (x:Int) (hr:f.row.length≤1000000) (fD:f.pl.length≤1000000):Spec Tryz.prog 185 (Args [.ptr 10000 0,eN x]) [(10000, .rob (kK g f))] (eB (aD g f x)) [(10000, .rob (kK g f))]:=by
 have hp:f.pl.length≤9223372036854775807:=by omega
 unfold kK
 by_cases hx:x<0∨g.n≤x∨x∈f.pl
 ·have hR:aD g f x=false:=if_pos hx
  (refine Spec.hd (C:=T.cfg [] []) (rs:= [.t 4]) (T.ah _ _) Tryz.func185 rfl rfl Tryz.ntmps185 Tryz.results185 (by simp [AObj.isNest]) (by simp [AObj.isNest]) (by kernel_rfl) T.mixed fun X hX hP hC aI bU=> ?_)
  by_cases h1:x<0
  ·have au:decide (x<0)=true:=decide_eq_true h1
   repeat' (first|refine Rn.p ?_|(with_reducible apply And.intro)|((first|(refine hK _ ?_;clear hK K)|with_reducible intro K hK|refine Rs.p ?_|((with_reducible first|apply oP|apply oQ);exact rfl)|refine aa hX hC hP (bA f.pl x hp) rfl rfl rfl (by simp only [go_sem,simprocAttr,hR,au]) rfl ?_|refine aa hX hC hP (bh g x false hl) rfl rfl rfl (by simp only [go_sem,simprocAttr,hR,au]) rfl ?_);try simp only [go_sem,simprocAttr,hR,au])|((with_reducible refine oD ?_ ?_);kernel_rfl)|((with_reducible intro h);try simp only [go_sem,simprocAttr,hR,au] at h)|omega|intro h)
  have au:decide (x<0)=false:=decide_eq_false h1
  by_cases h2:g.n≤x
  ·have az:decide (g.n≤x)=true:=decide_eq_true h2
   repeat' (first|refine Rn.p ?_|(with_reducible apply And.intro)|((first|(refine hK _ ?_;clear hK K)|with_reducible intro K hK|refine Rs.p ?_|((with_reducible first|apply oP|apply oQ);exact rfl)|refine aa hX hC hP (bA f.pl x hp) rfl rfl rfl (by simp only [go_sem,simprocAttr,hR,au,az]) rfl ?_|refine aa hX hC hP (bh g x false hl) rfl rfl rfl (by simp only [go_sem,simprocAttr,hR,au,az]) rfl ?_);try simp only [go_sem,simprocAttr,hR,au,az])|((with_reducible refine oD ?_ ?_);kernel_rfl)|((with_reducible intro h);try simp only [go_sem,simprocAttr,hR,au,az] at h)|omega|intro h)
  have az:decide (g.n≤x)=false:=decide_eq_false h2
  have h3:x∈f.pl:=by rcases hx with h|h|h;exact absurd h h1;exact absurd h h2;exact h
  have cI:decide (x∈f.pl)=true:=decide_eq_true h3
  repeat' (first|refine Rn.p ?_|(with_reducible apply And.intro)|((first|(refine hK _ ?_;clear hK K)|with_reducible intro K hK|refine Rs.p ?_|((with_reducible first|apply oP|apply oQ);exact rfl)|refine aa hX hC hP (bA f.pl x hp) rfl rfl rfl (by simp only [go_sem,simprocAttr,hR,au,az,cI]) rfl ?_|refine aa hX hC hP (bh g x false hl) rfl rfl rfl (by simp only [go_sem,simprocAttr,hR,au,az,cI]) rfl ?_);try simp only [go_sem,simprocAttr,hR,au,az,cI])|((with_reducible refine oD ?_ ?_);kernel_rfl)|((with_reducible intro h);try simp only [go_sem,simprocAttr,hR,au,az,cI] at h)|omega|intro h)
 ·have au:decide (x<0)=false:=decide_eq_false fun h=>hx (.inl h)
  have az:decide (g.n≤x)=false:=decide_eq_false fun h=>hx (.inr (.inl h))
  have cI:decide (x∈f.pl)=false:=decide_eq_false fun h=>hx (.inr (.inr h))
  have hR:aD g f x=if bw g x=0 then true else !(List.range f.row.length).any (u9 f.row x (bw g x))&&decide (gE f.row x f.row.length=bw g x):=if_neg hx
  have cC:(aJ (·.2) g.es g.es.length x).length=bw g x:=rfl
  have hnl:bw g x≤1000:=Nat.le_trans fe hl
  generalize bw g x=need at hR cC hnl
  by_cases h4:need=0
  ·have hb4:decide ((need:Int)=0)=true:=decide_eq_true (by omega)
   rw [if_pos h4] at hR
   (refine Spec.hd (C:=T.cfg [] []) (rs:= [.t 4]) (T.ah _ _) Tryz.func185 rfl rfl Tryz.ntmps185 Tryz.results185 (by simp [AObj.isNest]) (by simp [AObj.isNest]) (by kernel_rfl) T.mixed fun X hX hP hC aI bU=> ?_)
   repeat' (first|refine Rn.p ?_|(with_reducible apply And.intro)|((first|(refine hK _ ?_;clear hK K)|with_reducible intro K hK|refine Rs.p ?_|((with_reducible first|apply oP|apply oQ);exact rfl)|refine aa hX hC hP (bA f.pl x hp) rfl rfl rfl (by simp only [go_sem,simprocAttr,hR,au,az,cI,hb4,qH,cC]) rfl ?_|refine aa hX hC hP (bh g x false hl) rfl rfl rfl (by simp only [go_sem,simprocAttr,hR,au,az,cI,hb4,qH,cC]) rfl ?_);try simp only [go_sem,simprocAttr,hR,au,az,cI,hb4,qH,cC])|((with_reducible refine oD ?_ ?_);kernel_rfl)|((with_reducible intro h);try simp only [go_sem,simprocAttr,hR,au,az,cI,hb4,qH,cC] at h)|omega|intro h)
  ·have hb4:decide ((need:Int)=0)=false:=decide_eq_false (by omega)
   rw [if_neg h4] at hR
   generalize aD g f x=res at hR
   (refine Spec.hd (C:=T.cfg [] []) (rs:= [.t 4]) (T.ah _ _) Tryz.func185 rfl rfl Tryz.ntmps185 Tryz.results185 (by simp [AObj.isNest]) (by simp [AObj.isNest]) (by kernel_rfl) T.mixed fun X hX hP hC aI bU=> ?_)
   repeat' (first|refine Rn.p ?_|(with_reducible apply And.intro)|((first|(refine hK _ ?_;clear hK K)|with_reducible intro K hK|refine Rs.p ?_|((with_reducible first|apply oP|apply oQ);exact rfl)|refine aa hX hC hP (bA f.pl x hp) rfl rfl rfl (by simp only [go_sem,simprocAttr,au,az,cI,hb4,qH,cC]) rfl ?_|refine aa hX hC hP (bh g x false hl) rfl rfl rfl (by simp only [go_sem,simprocAttr,au,az,cI,hb4,qH,cC]) rfl ?_);try simp only [go_sem,simprocAttr,au,az,cI,hb4,qH,cC])|((with_reducible refine oD ?_ ?_);kernel_rfl)|((with_reducible intro h);try simp only [go_sem,simprocAttr,au,az,cI,hb4,qH,cC] at h)|omega|intro h)
   refine ag (fun k:Nat=>k≤f.row.length∧∀j,j<k→u9 f.row x need j=false) (fun k=>⟨[(0, .ptr 10000 0),(1,eN x),(5,eN need),(6,eN (gE f.row x k)),(7,eN k)], [(10000, .rob [eN g.n, .d (sE g.es), .d (sT f.row), .d (sI f.pl)])]⟩) (fun k=>f.row.length - k) 0 (by simp) ?_ ?_
   ·refine Le.of ?_ ?_<;>simp [go_sem,simprocAttr,au,az,cI,hb4,qH,cC,gE]
   rintro k ⟨hk,hg⟩
   rcases Nat.lt_or_ge k f.row.length with hlt|hge
   ·have hb:decide ((k:Int)<(f.row.length:Int))=true:=decide_eq_true (by omega)
    have hmk:=CI (row:=f.row) (x:=x) k
    have ef:=fq (row:=f.row) (x:=x) (k:=k)
    have step:u9 f.row x need k=false→∀j,j<k+1→u9 f.row x need j=false:=fun h j hj=>by
     by_cases hjk:j=k
     ·subst hjk;exact h
     ·exact hg j (by omega)
    repeat' (first|refine Rn.p ?_|(with_reducible apply And.intro)|((first|(refine hK _ ?_;clear hK K)|with_reducible intro K hK|refine Rs.p ?_|((with_reducible first|apply oP|apply oQ);exact rfl)|refine aa hX hC hP (bA f.pl x hp) rfl rfl rfl (by simp only [go_sem,simprocAttr,hb]) rfl ?_|refine aa hX hC hP (bh g x false hl) rfl rfl rfl (by simp only [go_sem,simprocAttr,hb]) rfl ?_);try simp only [go_sem,simprocAttr,hb])|((with_reducible refine oD ?_ ?_);kernel_rfl)|((with_reducible intro h);try simp only [go_sem,simprocAttr,hb] at h)|omega|intro h)
    all_goals (first|(rw [hR,Ja hlt (oa.2 ⟨⟨by assumption,by assumption⟩,by assumption,by assumption⟩)];rfl)|skip)
    all_goals (first|rw [if_neg (by assumption)] at ef|rw [if_pos (by assumption)] at ef)
    all_goals (refine ⟨k+1,⟨by omega,step (by rw [← Bool.not_eq_true];intro hh;obtain ⟨⟨_,_⟩,_,_⟩:=oa.1 hh;contradiction)⟩, ?_,by omega⟩;refine Le.of ?_ ?_<;>simp [go_sem,simprocAttr,hb,ef])
   ·have hb:decide ((k:Int)<(f.row.length:Int))=false:=decide_eq_false (by omega)
    obtain rfl:k=f.row.length:=by omega
    rw [Jb hg] at hR
    repeat' (first|refine Rn.p ?_|(with_reducible apply And.intro)|((first|(refine hK _ ?_;clear hK K)|with_reducible intro K hK|refine Rs.p ?_|((with_reducible first|apply oP|apply oQ);exact rfl)|refine aa hX hC hP (bA f.pl x hp) rfl rfl rfl (by simp only [go_sem,simprocAttr,hb,hR]) rfl ?_|refine aa hX hC hP (bh g x false hl) rfl rfl rfl (by simp only [go_sem,simprocAttr,hb,hR]) rfl ?_);try simp only [go_sem,simprocAttr,hb,hR])|((with_reducible refine oD ?_ ?_);kernel_rfl)|((with_reducible intro h);try simp only [go_sem,simprocAttr,hb,hR] at h)|omega|intro h)
end Go.Ab
end
section
namespace Go.Ab
open Go.Proofs
attribute [local congr] ACall.congr gd.congr Nx.congr
set_option maxRecDepth 10000
set_option maxHeartbeats 4000000
end Go.Ab
end
section
namespace Go.Ab
open Go.Proofs
attribute [local congr] ACall.congr gd.congr Nx.congr
set_option maxRecDepth 10000
set_option maxHeartbeats 8000000
def bu (g:Gr) (x:Int):List Int:=aJ (·.1) g.es g.es.length x
def aC (g:Gr) (f:Fr) (x:Int) (outs:List Int):(List It × Int) × Fr:=
 (((f.row.take (bp f.row x).2.1.toNat).drop (max (bp f.row x).1 0).toNat,0),⟨f.row.take (max (bp f.row x).1 0).toNat++aP g x outs++f.row.drop (bp f.row x).2.1.toNat,f.pl++ [x]⟩)
def dG (g:Gr) (f:Fr) (x:Int) (outs:List Int):(List It × Int) × Fr:=
 if aD g f x=false then (([],3),f) else
 if outs.length≠(bu g x).length∨∃i∈bu g x,i∉outs then (([],1),f) else aC g f x outs
theorem cq {f:Edge→Int} {es:List Edge} {k:Nat} {x:Int} :(aJ f es k x).Nodup:=by
 unfold aJ
 exact List.Pairwise.map _ (fun a b h e=>h (Int.ofNat.inj e)) (List.Pairwise.filter _ List.nodup_range)
theorem yF:∀ {ms os:List Int},ms.Nodup→(∀i∈ms,i∈os)→os.length=ms.length→∀i∈os,i∈ms
 | [],os,_,_,hl,i,hi=>by
   have:os= []:=List.eq_nil_of_length_eq_zero (by simpa using hl)
   rw [this] at hi;exact hi
 |m::ms,os,hn,hs,hl,i,hi=>by
  rw [List.nodup_cons] at hn
  have hm:=hs m (List.mem_cons_self ..)
  by_cases h:i=m
  ·rw [h];exact List.mem_cons_self ..
  ·refine List.mem_cons_of_mem _ (yF hn.2 (os:=os.erase m) (fun j hj=> ?_) ?_ i ?_)
   ·have:j≠m:=fun e=>hn.1 (e ▸ hj)
    exact (List.mem_erase_of_ne this).2 (hs j (List.mem_cons_of_mem _ hj))
   ·rw [List.length_erase_of_mem hm,hl];simp
   ·exact (List.mem_erase_of_ne h).2 hi
theorem Ai {g:Gr} {x:Int} :(bu g x).length≤g.es.length:=fe
theorem Aj (g:Gr) (hl:g.es.length≤1000) (f:Fr) (x:Int) (outs:List Int) (hr:f.row.length≤300000) (hp:f.pl.length≤100000) (ho:outs.length≤9223372036854775807):
 Spec Tryz.prog 135 (Args [.ptr 10000 0,eN x, .d (sI outs)]) [(10000, .box (kK g f))] (.tup [.d (sT (dG g f x outs).1.1),eN (dG g f x outs).1.2]) [(10000, .box (kK g (dG g f x outs).2))]:=by
 have iQ:f.row.length≤1000000:=by omega
 have hp1:f.pl.length≤1000000:=by omega
 have vE:outs.length≤9223372036854775807:=by omega
 have hml:=Ai (g:=g) (x:=x)
 have Bj:aJ (fun e=>e.1) g.es g.es.length x=bu g x:=rfl
 cases hR:aD g f x with
 |false=>
  have hP:dG g f x outs=(([],3),f):=if_pos hR
  rw [hP]
  unfold kK
  (refine Spec.hd (C:=T.cfg [] []) (rs:= [.t 6, .t 7]) (T.ah _ _) Tryz.func135 rfl rfl Tryz.ntmps135 Tryz.results135 (by simp [AObj.isNest]) (by simp [AObj.isNest]) (by kernel_rfl) T.mixed fun X hX hP hC aI bU=> ?_)
  repeat' (first|refine Rn.p ?_|(with_reducible apply And.intro)|((first|(refine hK _ ?_;clear hK K)|with_reducible intro K hK|refine Rs.p ?_|((with_reducible first|apply oP|apply oQ);exact rfl)|(refine aV hX hC hP [(10000,10000)] (bM g hl f x iQ hp1) rfl rfl rfl ?_ ?_ ?_ ?_ ?_ ?_ rfl rfl ?_ ?_;(focus (simp only [go_sem,simprocAttr,hR,kK];done));(iterate 6 (focus (simp [go_sem,simprocAttr,hR,kK];done)));try simp only [List.map_cons,List.map_nil])|refine aa hX hC hP (bh g x true hl) rfl rfl rfl (by simp only [go_sem,simprocAttr,hR,kK]) rfl ?_|refine aa hX hC hP (bA outs ((bu g x).getD k 0) vE) rfl rfl rfl (by simp only [go_sem,simprocAttr,hR,kK]) rfl ?_);try simp only [go_sem,simprocAttr,hR,kK])|((with_reducible refine oD ?_ ?_);kernel_rfl)|((with_reducible intro h);try simp only [go_sem,simprocAttr,hR,kK] at h)|omega|intro h)
 |true=>
 have K2:¬aD g f x=false:=by rw [hR];simp
 by_cases hlen:outs.length≠(bu g x).length
 ·have hP:dG g f x outs=(([],1),f):=by unfold dG;rw [if_neg K2,if_pos (.inl hlen)]
  have au:decide ((outs.length:Int)=((bu g x).length:Int))=false:=decide_eq_false (by omega)
  rw [hP]
  unfold kK
  (refine Spec.hd (C:=T.cfg [] []) (rs:= [.t 6, .t 7]) (T.ah _ _) Tryz.func135 rfl rfl Tryz.ntmps135 Tryz.results135 (by simp [AObj.isNest]) (by simp [AObj.isNest]) (by kernel_rfl) T.mixed fun X hX hP hC aI bU=> ?_)
  repeat' (first|refine Rn.p ?_|(with_reducible apply And.intro)|((first|(refine hK _ ?_;clear hK K)|with_reducible intro K hK|refine Rs.p ?_|((with_reducible first|apply oP|apply oQ);exact rfl)|(refine aV hX hC hP [(10000,10000)] (bM g hl f x iQ hp1) rfl rfl rfl ?_ ?_ ?_ ?_ ?_ ?_ rfl rfl ?_ ?_;(focus (simp only [go_sem,simprocAttr,hR,kK,kL,Bj,au];done));(iterate 6 (focus (simp [go_sem,simprocAttr,hR,kK,kL,Bj,au];done)));try simp only [List.map_cons,List.map_nil])|refine aa hX hC hP (bh g x true hl) rfl rfl rfl (by simp only [go_sem,simprocAttr,hR,kK,kL,Bj,au]) rfl ?_|refine aa hX hC hP (bA outs ((bu g x).getD k 0) vE) rfl rfl rfl (by simp only [go_sem,simprocAttr,hR,kK,kL,Bj,au]) rfl ?_);try simp only [go_sem,simprocAttr,hR,kK,kL,Bj,au])|((with_reducible refine oD ?_ ?_);kernel_rfl)|((with_reducible intro h);try simp only [go_sem,simprocAttr,hR,kK,kL,Bj,au] at h)|omega|intro h)
 rw [ne_eq,Decidable.not_not] at hlen
 have au:decide ((outs.length:Int)=((bu g x).length:Int))=true:=decide_eq_true (by omega)
 have hP:dG g f x outs=if ∃i∈bu g x,i∉outs then (([],1),f) else aC g f x outs:=by
  unfold dG
  rw [if_neg K2]
  by_cases hE:∃i∈bu g x,i∉outs
  ·rw [if_pos (.inr hE),if_pos hE]
  ·rw [if_neg (fun h=>by rcases h with h|h;exact h hlen;exact hE h),if_neg hE]
 rw [hP]
 generalize LF:(if ∃i∈bu g x,i∉outs then (([],1),f) else aC g f x outs:(List It × Int) × Fr)=pp
 unfold kK
 (refine Spec.hd (C:=T.cfg [] []) (rs:= [.t 6, .t 7]) (T.ah _ _) Tryz.func135 rfl rfl Tryz.ntmps135 Tryz.results135 (by simp [AObj.isNest]) (by simp [AObj.isNest]) (by kernel_rfl) T.mixed fun X hX hP hC aI bU=> ?_)
 repeat' (first|refine Rn.p ?_|(with_reducible apply And.intro)|((first|(refine hK _ ?_;clear hK K)|with_reducible intro K hK|refine Rs.p ?_|((with_reducible first|apply oP|apply oQ);exact rfl)|(refine aV hX hC hP [(10000,10000)] (bM g hl f x iQ hp1) rfl rfl rfl ?_ ?_ ?_ ?_ ?_ ?_ rfl rfl ?_ ?_;(focus (simp only [go_sem,simprocAttr,hR,kK,kL,Bj,au];done));(iterate 6 (focus (simp [go_sem,simprocAttr,hR,kK,kL,Bj,au];done)));try simp only [List.map_cons,List.map_nil])|refine aa hX hC hP (bh g x true hl) rfl rfl rfl (by simp only [go_sem,simprocAttr,hR,kK,kL,Bj,au]) rfl ?_|refine aa hX hC hP (bA outs ((bu g x).getD k 0) vE) rfl rfl rfl (by simp only [go_sem,simprocAttr,hR,kK,kL,Bj,au]) rfl ?_);try simp only [go_sem,simprocAttr,hR,kK,kL,Bj,au])|((with_reducible refine oD ?_ ?_);kernel_rfl)|((with_reducible intro h);try simp only [go_sem,simprocAttr,hR,kK,kL,Bj,au] at h)|omega|intro h)
 refine ag (fun k:Nat=>k≤(bu g x).length∧∀j,j<k→(bu g x).getD j 0∈outs) (fun k=>⟨[(0, .ptr 10000 0),(1,eN x),(2, .d (sI outs)),(8, .d (sI (bu g x))),(9,eN k)], [(10000, .box [eN g.n, .d (sE g.es), .d (sT f.row), .d (sI f.pl)])]⟩) (fun k=>(bu g x).length - k) 0 (by simp) ?_ ?_
 ·(refine Le.of ?_ ?_<;>simp [go_sem,simprocAttr,hR,kK,kL,Bj,au])
 rintro k ⟨hk,hg⟩
 rcases Nat.lt_or_ge k (bu g x).length with hlt|hge
 ·have hb:decide ((k:Int)<((bu g x).length:Int))=true:=decide_eq_true (by omega)
  by_cases hin:(bu g x).getD k 0∈outs
  ·have az:decide ((bu g x).getD k 0∈outs)=true:=decide_eq_true hin
   repeat' (first|refine Rn.p ?_|(with_reducible apply And.intro)|((first|(refine hK _ ?_;clear hK K)|with_reducible intro K hK|refine Rs.p ?_|((with_reducible first|apply oP|apply oQ);exact rfl)|(refine aV hX hC hP [(10000,10000)] (bM g hl f x iQ hp1) rfl rfl rfl ?_ ?_ ?_ ?_ ?_ ?_ rfl rfl ?_ ?_;(focus (simp only [go_sem,simprocAttr,hb,az];done));(iterate 6 (focus (simp [go_sem,simprocAttr,hb,az];done)));try simp only [List.map_cons,List.map_nil])|refine aa hX hC hP (bh g x true hl) rfl rfl rfl (by simp only [go_sem,simprocAttr,hb,az]) rfl ?_|refine aa hX hC hP (bA outs ((bu g x).getD k 0) vE) rfl rfl rfl (by simp only [go_sem,simprocAttr,hb,az]) rfl ?_);try simp only [go_sem,simprocAttr,hb,az])|((with_reducible refine oD ?_ ?_);kernel_rfl)|((with_reducible intro h);try simp only [go_sem,simprocAttr,hb,az] at h)|omega|intro h)
   refine ⟨k+1,⟨by omega,fun j hj=> ?_⟩, ?_,by omega⟩
   ·by_cases hjk:j=k
    ·subst hjk;exact hin
    ·exact hg j (by omega)
   ·(refine Le.of ?_ ?_<;>simp [go_sem,simprocAttr,hb,az])
  ·have az:decide ((bu g x).getD k 0∈outs)=false:=decide_eq_false hin
   rw [if_pos ⟨_,aB (d:=0) hlt,hin⟩] at LF
   subst LF
   repeat' (first|refine Rn.p ?_|(with_reducible apply And.intro)|((first|(refine hK _ ?_;clear hK K)|with_reducible intro K hK|refine Rs.p ?_|((with_reducible first|apply oP|apply oQ);exact rfl)|(refine aV hX hC hP [(10000,10000)] (bM g hl f x iQ hp1) rfl rfl rfl ?_ ?_ ?_ ?_ ?_ ?_ rfl rfl ?_ ?_;(focus (simp only [go_sem,simprocAttr,hb,az];done));(iterate 6 (focus (simp [go_sem,simprocAttr,hb,az];done)));try simp only [List.map_cons,List.map_nil])|refine aa hX hC hP (bh g x true hl) rfl rfl rfl (by simp only [go_sem,simprocAttr,hb,az]) rfl ?_|refine aa hX hC hP (bA outs ((bu g x).getD k 0) vE) rfl rfl rfl (by simp only [go_sem,simprocAttr,hb,az]) rfl ?_);try simp only [go_sem,simprocAttr,hb,az])|((with_reducible refine oD ?_ ?_);kernel_rfl)|((with_reducible intro h);try simp only [go_sem,simprocAttr,hb,az] at h)|omega|intro h)
 have hb:decide ((k:Int)<((bu g x).length:Int))=false:=decide_eq_false (by omega)
 have hsub:∀i∈bu g x,i∈outs:=fun i hi=>by
  obtain ⟨j,hj,rfl⟩:=List.mem_iff_getElem.1 hi
  have:=hg j (by omega)
  rwa [List.getD_eq_getElem?_getD,List.getElem?_eq_getElem hj] at this
 have I9:∀i∈outs,0≤i∧i<g.es.length:=fun i hi=>(dY (yF cq hsub hlen i hi)).1
 rw [if_neg (fun ⟨i,h1,h2⟩=>h2 (hsub i h1))] at LF
 subst LF
 clear hk hg hge hsub hP
 repeat' (first|refine Rn.p ?_|(with_reducible apply And.intro)|((first|(refine hK _ ?_;clear hK K)|with_reducible intro K hK|refine Rs.p ?_|((with_reducible first|apply oP|apply oQ);exact rfl)|(refine aV hX hC hP [(10000,10000)] (bM g hl f x iQ hp1) rfl rfl rfl ?_ ?_ ?_ ?_ ?_ ?_ rfl rfl ?_ ?_;(focus (simp only [go_sem,simprocAttr,hb];done));(iterate 6 (focus (simp [go_sem,simprocAttr,hb];done)));try simp only [List.map_cons,List.map_nil])|refine aa hX hC hP (bh g x true hl) rfl rfl rfl (by simp only [go_sem,simprocAttr,hb]) rfl ?_|refine aa hX hC hP (bA outs ((bu g x).getD k 0) vE) rfl rfl rfl (by simp only [go_sem,simprocAttr,hb]) rfl ?_);try simp only [go_sem,simprocAttr,hb])|((with_reducible refine oD ?_ ?_);kernel_rfl)|((with_reducible intro h);try simp only [go_sem,simprocAttr,hb] at h)|omega|intro h)
 (refine mO hX 10 45 72 (by simp only [go_sem,simprocAttr,hb]) rfl (by first|exact .inl rfl|exact .inr rfl) (by decide) ?_;simp only [go_sem,simprocAttr,hb])
 refine ag (fun k:Nat=>k≤outs.length) (fun k=>⟨[(0, .ptr 10000 0),(1,eN x),(2, .d (sI outs)),(11,eN k),(10, .ref 72)], [(10000, .box [eN g.n, .d (sE g.es), .d (sT f.row), .d (sI f.pl)]),(72, .tip 92 3 (((outs.take k).map (gr g x)).map rT))]⟩) (fun k=>outs.length - k) 0 (by omega) ?_ ?_
 ·refine Le.of ?_ ?_<;>simp [go_sem,simprocAttr,hb]
 clear hb
 rintro k hk
 rcases Nat.lt_or_ge k outs.length with hlt|hge
 ·have hb:decide ((k:Int)<(outs.length:Int))=true:=decide_eq_true (by omega)
  have ef:=lR (f:=gr g x) (d:=0) hlt
  have Kz:=I9 _ (aB (d:=0) hlt)
  have hlk:(outs.take k).length=k:=by simp;omega
  repeat' (first|refine Rn.p ?_|(with_reducible apply And.intro)|((first|(refine hK _ ?_;clear hK K)|with_reducible intro K hK|refine Rs.p ?_|((with_reducible first|apply oP|apply oQ);exact rfl)|(refine aV hX hC hP [(10000,10000)] (bM g hl f x iQ hp1) rfl rfl rfl ?_ ?_ ?_ ?_ ?_ ?_ rfl rfl ?_ ?_;(focus (simp only [go_sem,simprocAttr,hb,hlk];done));(iterate 6 (focus (simp [go_sem,simprocAttr,hb,hlk];done)));try simp only [List.map_cons,List.map_nil])|refine aa hX hC hP (bh g x true hl) rfl rfl rfl (by simp only [go_sem,simprocAttr,hb,hlk]) rfl ?_|refine aa hX hC hP (bA outs ((bu g x).getD k 0) vE) rfl rfl rfl (by simp only [go_sem,simprocAttr,hb,hlk]) rfl ?_);try simp only [go_sem,simprocAttr,hb,hlk])|((with_reducible refine oD ?_ ?_);kernel_rfl)|((with_reducible intro h);try simp only [go_sem,simprocAttr,hb,hlk] at h)|omega|intro h)
  refine ⟨k+1,by omega, ?_,by omega⟩
  refine Le.of ?_ ?_<;>simp [go_sem,simprocAttr,hb,hlk,ef,gr]
 have hb:decide ((k:Int)<(outs.length:Int))=false:=decide_eq_false (by omega)
 obtain rfl:k=outs.length:=by omega
 have ht:outs.take outs.length=outs:=List.take_of_length_le (by omega)
 clear hk hge
 by_cases h0:outs= []
 ·have hA:aP g x outs= [(-1,x, -1)]:=if_pos h0
  have hb0:decide ((outs.length:Int)=0)=true:=decide_eq_true (by rw [h0];rfl)
  have hm0:(outs.map (gr g x)).map rT= []:=by rw [h0];rfl
  repeat' (first|refine Rn.p ?_|(with_reducible apply And.intro)|((first|(refine hK _ ?_;clear hK K)|with_reducible intro K hK|refine Rs.p ?_|((with_reducible first|apply oP|apply oQ);exact rfl)|(refine aV hX hC hP [(10000,10000)] (bM g hl f x iQ hp1) rfl rfl rfl ?_ ?_ ?_ ?_ ?_ ?_ rfl rfl ?_ ?_;(focus (simp only [go_sem,simprocAttr,hb,ht,hb0,hm0,List.nil_append];done));(iterate 6 (focus (simp [go_sem,simprocAttr,hb,ht,hb0,hm0,List.nil_append];done)));try simp only [List.map_cons,List.map_nil])|refine aa hX hC hP (bh g x true hl) rfl rfl rfl (by simp only [go_sem,simprocAttr,hb,ht,hb0,hm0,List.nil_append]) rfl ?_|refine aa hX hC hP (bA outs ((bu g x).getD k 0) vE) rfl rfl rfl (by simp only [go_sem,simprocAttr,hb,ht,hb0,hm0,List.nil_append]) rfl ?_);try simp only [go_sem,simprocAttr,hb,ht,hb0,hm0,List.nil_append])|((with_reducible refine oD ?_ ?_);kernel_rfl)|((with_reducible intro h);try simp only [go_sem,simprocAttr,hb,ht,hb0,hm0,List.nil_append] at h)|omega|intro h)
  (refine mO hX 10 80 72 (by simp only [go_sem,simprocAttr,hb,ht,hb0,hm0,List.nil_append]) rfl (by first|exact .inl rfl|exact .inr rfl) (by decide) ?_;simp only [go_sem,simprocAttr,hb,ht,hb0,hm0,List.nil_append])
  refine ag (fun k:Nat=>k≤f.row.length) (fun k=>⟨[(0, .ptr 10000 0),(1,eN x),(10, .ref 72),(12,eN (di f.row x k).1),(13,eN ((di f.row x k).2.1 - 1)),(14,eN k)], [(10000, .box [eN g.n, .d (sE g.es), .d (sT f.row), .d (sI f.pl)]),(72, .tip 92 3 ((aP g x outs).map rT))]⟩) (fun k=>f.row.length - k) 0 (by omega) ?_ ?_
  ·refine Le.of ?_ ?_<;>simp [go_sem,simprocAttr,hb,ht,hb0,hm0,List.nil_append,di,hA]
  rintro k hk
  rcases Nat.lt_or_ge k f.row.length with hlt|hge
  ·have hb:decide ((k:Int)<(f.row.length:Int))=true:=decide_eq_true (by omega)
   have hok:=dF (row:=f.row) (x:=x) k
   have ef:=jC (row:=f.row) (x:=x) (k:=k)
   have q8:(di f.row x k).1<0↔(di f.row x k).1= -1:=by
    rcases hok with ⟨h1,_⟩|⟨a,b,c,h1,_⟩
    ·rw [h1];exact ⟨fun _=>rfl,fun _=>by decide⟩
    ·rw [h1];show (a:Int)<0↔(a:Int)= -1;omega
   repeat' (first|refine Rn.p ?_|(with_reducible apply And.intro)|((first|(refine hK _ ?_;clear hK K)|with_reducible intro K hK|refine Rs.p ?_|((with_reducible first|apply oP|apply oQ);exact rfl)|(refine aV hX hC hP [(10000,10000)] (bM g hl f x iQ hp1) rfl rfl rfl ?_ ?_ ?_ ?_ ?_ ?_ rfl rfl ?_ ?_;(focus (simp only [go_sem,simprocAttr,hb];done));(iterate 6 (focus (simp [go_sem,simprocAttr,hb];done)));try simp only [List.map_cons,List.map_nil])|refine aa hX hC hP (bh g x true hl) rfl rfl rfl (by simp only [go_sem,simprocAttr,hb]) rfl ?_|refine aa hX hC hP (bA outs ((bu g x).getD k 0) vE) rfl rfl rfl (by simp only [go_sem,simprocAttr,hb]) rfl ?_);try simp only [go_sem,simprocAttr,hb])|((with_reducible refine oD ?_ ?_);kernel_rfl)|((with_reducible intro h);try simp only [go_sem,simprocAttr,hb] at h)|omega|intro h)
   all_goals (try rw [q8] at*)
   all_goals (first|rw [if_neg (by assumption)] at ef|(rw [if_pos (by assumption)] at ef;first|rw [if_pos (by assumption)] at ef|rw [if_neg (by assumption)] at ef))
   all_goals (refine ⟨k+1,by omega, ?_,by omega⟩;refine Le.of ?_ ?_<;>simp [go_sem,simprocAttr,hb,ef])
  have hb:decide ((k:Int)<(f.row.length:Int))=false:=decide_eq_false (by omega)
  obtain rfl:k=f.row.length:=by omega
  clear hk hge
  have htr:List.take f.row.length (f.row.map rT)=f.row.map rT:=List.take_of_length_le (by simp)
  have n0:=lS (g:=g) (x:=x) (outs:=outs)
  rcases dF (row:=f.row) (x:=x) f.row.length with ⟨hs,_⟩|⟨a,b,c,hs,hab,kj,_⟩
  ·have hS:aC g f x outs=(([],0),⟨aP g x outs++f.row,f.pl++ [x]⟩):=by
    have e:bp f.row x=(-1,0,0):=hs
    unfold aC
    rw [e];simp;exact .inl (by decide)
   repeat' (first|(show cw _ .ret _ _;(try simp only [go_sem,simprocAttr,hb,hs,hS,htr,List.map_append,List.map_cons,List.map_nil,rI,List.length_append,List.length_map,List.length_take,List.length_drop]);(refine dV hX 113 rfl ?_;simp only [go_sem,simprocAttr,hb,hs,hS,htr,List.map_append,List.map_cons,List.map_nil,rI,List.length_append,List.length_map,List.length_take,List.length_drop]);first|(refine dV hX 124 rfl ?_;simp only [go_sem,simprocAttr,hb,hs,hS,htr,List.map_append,List.map_cons,List.map_nil,rI,List.length_append,List.length_map,List.length_take,List.length_drop])|(refine dV hX 156 rfl ?_;simp only [go_sem,simprocAttr,hb,hs,hS,htr,List.map_append,List.map_cons,List.map_nil,rI,List.length_append,List.length_map,List.length_take,List.length_drop]))|refine Rn.p ?_|(with_reducible apply And.intro)|((first|(refine hK _ ?_;clear hK K)|with_reducible intro K hK|refine Rs.p ?_|((with_reducible first|apply oP|apply oQ);exact rfl)|(refine aV hX hC hP [(10000,10000)] (bM g hl f x iQ hp1) rfl rfl rfl ?_ ?_ ?_ ?_ ?_ ?_ rfl rfl ?_ ?_;(focus (simp only [go_sem,simprocAttr,hb,hs,hS,htr,List.map_append,List.map_cons,List.map_nil,rI,List.length_append,List.length_map,List.length_take,List.length_drop];done));(iterate 6 (focus (simp [go_sem,simprocAttr,hb,hs,hS,htr,List.map_append,List.map_cons,List.map_nil,rI,List.length_append,List.length_map,List.length_take,List.length_drop];done)));try simp only [List.map_cons,List.map_nil])|refine aa hX hC hP (bh g x true hl) rfl rfl rfl (by simp only [go_sem,simprocAttr,hb,hs,hS,htr,List.map_append,List.map_cons,List.map_nil,rI,List.length_append,List.length_map,List.length_take,List.length_drop]) rfl ?_|refine aa hX hC hP (bA outs ((bu g x).getD k 0) vE) rfl rfl rfl (by simp only [go_sem,simprocAttr,hb,hs,hS,htr,List.map_append,List.map_cons,List.map_nil,rI,List.length_append,List.length_map,List.length_take,List.length_drop]) rfl ?_);try simp only [go_sem,simprocAttr,hb,hs,hS,htr,List.map_append,List.map_cons,List.map_nil,rI,List.length_append,List.length_map,List.length_take,List.length_drop])|((with_reducible refine oD ?_ ?_);kernel_rfl)|((with_reducible intro h);try simp only [go_sem,simprocAttr,hb,hs,hS,htr,List.map_append,List.map_cons,List.map_nil,rI,List.length_append,List.length_map,List.length_take,List.length_drop] at h)|omega|intro h)
  ·have hS:aC g f x outs=(((f.row.take b).drop a,0),⟨f.row.take a++aP g x outs++f.row.drop b,f.pl++ [x]⟩):=by
    have e:bp f.row x=((a:Int),(b:Int),(c:Int)):=hs
    unfold aC
    rw [e]
    have e1:(max (a:Int) 0).toNat=a:=by omega
    simp only [e1,Int.toNat_natCast]
   have tC:((b:Int) - 1+1)=b:=by omega
   repeat' (first|(show cw _ .ret _ _;(try simp only [go_sem,simprocAttr,hb,hs,hS,tC,htr,List.map_append,List.map_cons,List.map_nil,List.map_take,List.map_drop,rI,List.length_append,List.length_map,List.length_take,List.length_drop]);(refine dV hX 113 rfl ?_;simp only [go_sem,simprocAttr,hb,hs,hS,tC,htr,List.map_append,List.map_cons,List.map_nil,List.map_take,List.map_drop,rI,List.length_append,List.length_map,List.length_take,List.length_drop]);first|(refine dV hX 124 rfl ?_;simp only [go_sem,simprocAttr,hb,hs,hS,tC,htr,List.map_append,List.map_cons,List.map_nil,List.map_take,List.map_drop,rI,List.length_append,List.length_map,List.length_take,List.length_drop])|(refine dV hX 156 rfl ?_;simp only [go_sem,simprocAttr,hb,hs,hS,tC,htr,List.map_append,List.map_cons,List.map_nil,List.map_take,List.map_drop,rI,List.length_append,List.length_map,List.length_take,List.length_drop]))|refine Rn.p ?_|(with_reducible apply And.intro)|((first|(refine hK _ ?_;clear hK K)|with_reducible intro K hK|refine Rs.p ?_|((with_reducible first|apply oP|apply oQ);exact rfl)|(refine aV hX hC hP [(10000,10000)] (bM g hl f x iQ hp1) rfl rfl rfl ?_ ?_ ?_ ?_ ?_ ?_ rfl rfl ?_ ?_;(focus (simp only [go_sem,simprocAttr,hb,hs,hS,tC,htr,List.map_append,List.map_cons,List.map_nil,List.map_take,List.map_drop,rI,List.length_append,List.length_map,List.length_take,List.length_drop];done));(iterate 6 (focus (simp [go_sem,simprocAttr,hb,hs,hS,tC,htr,List.map_append,List.map_cons,List.map_nil,List.map_take,List.map_drop,rI,List.length_append,List.length_map,List.length_take,List.length_drop];done)));try simp only [List.map_cons,List.map_nil])|refine aa hX hC hP (bh g x true hl) rfl rfl rfl (by simp only [go_sem,simprocAttr,hb,hs,hS,tC,htr,List.map_append,List.map_cons,List.map_nil,List.map_take,List.map_drop,rI,List.length_append,List.length_map,List.length_take,List.length_drop]) rfl ?_|refine aa hX hC hP (bA outs ((bu g x).getD k 0) vE) rfl rfl rfl (by simp only [go_sem,simprocAttr,hb,hs,hS,tC,htr,List.map_append,List.map_cons,List.map_nil,List.map_take,List.map_drop,rI,List.length_append,List.length_map,List.length_take,List.length_drop]) rfl ?_);try simp only [go_sem,simprocAttr,hb,hs,hS,tC,htr,List.map_append,List.map_cons,List.map_nil,List.map_take,List.map_drop,rI,List.length_append,List.length_map,List.length_take,List.length_drop])|((with_reducible refine oD ?_ ?_);kernel_rfl)|((with_reducible intro h);try simp only [go_sem,simprocAttr,hb,hs,hS,tC,htr,List.map_append,List.map_cons,List.map_nil,List.map_take,List.map_drop,rI,List.length_append,List.length_map,List.length_take,List.length_drop] at h)|omega|intro h)
 ·have hA:aP g x outs=outs.map (gr g x):=if_neg h0
  have hb0:decide ((outs.length:Int)=0)=false:=decide_eq_false fun h=>h0 (List.eq_nil_of_length_eq_zero (by omega))
  repeat' (first|refine Rn.p ?_|(with_reducible apply And.intro)|((first|(refine hK _ ?_;clear hK K)|with_reducible intro K hK|refine Rs.p ?_|((with_reducible first|apply oP|apply oQ);exact rfl)|(refine aV hX hC hP [(10000,10000)] (bM g hl f x iQ hp1) rfl rfl rfl ?_ ?_ ?_ ?_ ?_ ?_ rfl rfl ?_ ?_;(focus (simp only [go_sem,simprocAttr,hb,ht,hb0];done));(iterate 6 (focus (simp [go_sem,simprocAttr,hb,ht,hb0];done)));try simp only [List.map_cons,List.map_nil])|refine aa hX hC hP (bh g x true hl) rfl rfl rfl (by simp only [go_sem,simprocAttr,hb,ht,hb0]) rfl ?_|refine aa hX hC hP (bA outs ((bu g x).getD k 0) vE) rfl rfl rfl (by simp only [go_sem,simprocAttr,hb,ht,hb0]) rfl ?_);try simp only [go_sem,simprocAttr,hb,ht,hb0])|((with_reducible refine oD ?_ ?_);kernel_rfl)|((with_reducible intro h);try simp only [go_sem,simprocAttr,hb,ht,hb0] at h)|omega|intro h)
  refine ag (fun k:Nat=>k≤f.row.length) (fun k=>⟨[(0, .ptr 10000 0),(1,eN x),(10, .ref 72),(12,eN (di f.row x k).1),(13,eN ((di f.row x k).2.1 - 1)),(14,eN k)], [(10000, .box [eN g.n, .d (sE g.es), .d (sT f.row), .d (sI f.pl)]),(72, .tip 92 3 ((aP g x outs).map rT))]⟩) (fun k=>f.row.length - k) 0 (by omega) ?_ ?_
  ·refine Le.of ?_ ?_<;>simp [go_sem,simprocAttr,hb,ht,hb0,di,hA]
  rintro k hk
  rcases Nat.lt_or_ge k f.row.length with hlt|hge
  ·have hb:decide ((k:Int)<(f.row.length:Int))=true:=decide_eq_true (by omega)
   have hok:=dF (row:=f.row) (x:=x) k
   have ef:=jC (row:=f.row) (x:=x) (k:=k)
   have q8:(di f.row x k).1<0↔(di f.row x k).1= -1:=by
    rcases hok with ⟨h1,_⟩|⟨a,b,c,h1,_⟩
    ·rw [h1];exact ⟨fun _=>rfl,fun _=>by decide⟩
    ·rw [h1];show (a:Int)<0↔(a:Int)= -1;omega
   repeat' (first|refine Rn.p ?_|(with_reducible apply And.intro)|((first|(refine hK _ ?_;clear hK K)|with_reducible intro K hK|refine Rs.p ?_|((with_reducible first|apply oP|apply oQ);exact rfl)|(refine aV hX hC hP [(10000,10000)] (bM g hl f x iQ hp1) rfl rfl rfl ?_ ?_ ?_ ?_ ?_ ?_ rfl rfl ?_ ?_;(focus (simp only [go_sem,simprocAttr,hb];done));(iterate 6 (focus (simp [go_sem,simprocAttr,hb];done)));try simp only [List.map_cons,List.map_nil])|refine aa hX hC hP (bh g x true hl) rfl rfl rfl (by simp only [go_sem,simprocAttr,hb]) rfl ?_|refine aa hX hC hP (bA outs ((bu g x).getD k 0) vE) rfl rfl rfl (by simp only [go_sem,simprocAttr,hb]) rfl ?_);try simp only [go_sem,simprocAttr,hb])|((with_reducible refine oD ?_ ?_);kernel_rfl)|((with_reducible intro h);try simp only [go_sem,simprocAttr,hb] at h)|omega|intro h)
   all_goals (try rw [q8] at*)
   all_goals (first|rw [if_neg (by assumption)] at ef|(rw [if_pos (by assumption)] at ef;first|rw [if_pos (by assumption)] at ef|rw [if_neg (by assumption)] at ef))
   all_goals (refine ⟨k+1,by omega, ?_,by omega⟩;refine Le.of ?_ ?_<;>simp [go_sem,simprocAttr,hb,ef])
  have hb:decide ((k:Int)<(f.row.length:Int))=false:=decide_eq_false (by omega)
  obtain rfl:k=f.row.length:=by omega
  clear hk hge
  have htr:List.take f.row.length (f.row.map rT)=f.row.map rT:=List.take_of_length_le (by simp)
  have n0:=lS (g:=g) (x:=x) (outs:=outs)
  rcases dF (row:=f.row) (x:=x) f.row.length with ⟨hs,_⟩|⟨a,b,c,hs,hab,kj,_⟩
  ·have hS:aC g f x outs=(([],0),⟨aP g x outs++f.row,f.pl++ [x]⟩):=by
    have e:bp f.row x=(-1,0,0):=hs
    unfold aC
    rw [e];simp;exact .inl (by decide)
   repeat' (first|(show cw _ .ret _ _;(try simp only [go_sem,simprocAttr,hb,hs,hS,htr,List.map_append,List.map_cons,List.map_nil,rI,List.length_append,List.length_map,List.length_take,List.length_drop]);(refine dV hX 113 rfl ?_;simp only [go_sem,simprocAttr,hb,hs,hS,htr,List.map_append,List.map_cons,List.map_nil,rI,List.length_append,List.length_map,List.length_take,List.length_drop]);first|(refine dV hX 124 rfl ?_;simp only [go_sem,simprocAttr,hb,hs,hS,htr,List.map_append,List.map_cons,List.map_nil,rI,List.length_append,List.length_map,List.length_take,List.length_drop])|(refine dV hX 156 rfl ?_;simp only [go_sem,simprocAttr,hb,hs,hS,htr,List.map_append,List.map_cons,List.map_nil,rI,List.length_append,List.length_map,List.length_take,List.length_drop]))|refine Rn.p ?_|(with_reducible apply And.intro)|((first|(refine hK _ ?_;clear hK K)|with_reducible intro K hK|refine Rs.p ?_|((with_reducible first|apply oP|apply oQ);exact rfl)|(refine aV hX hC hP [(10000,10000)] (bM g hl f x iQ hp1) rfl rfl rfl ?_ ?_ ?_ ?_ ?_ ?_ rfl rfl ?_ ?_;(focus (simp only [go_sem,simprocAttr,hb,hs,hS,htr,List.map_append,List.map_cons,List.map_nil,rI,List.length_append,List.length_map,List.length_take,List.length_drop];done));(iterate 6 (focus (simp [go_sem,simprocAttr,hb,hs,hS,htr,List.map_append,List.map_cons,List.map_nil,rI,List.length_append,List.length_map,List.length_take,List.length_drop];done)));try simp only [List.map_cons,List.map_nil])|refine aa hX hC hP (bh g x true hl) rfl rfl rfl (by simp only [go_sem,simprocAttr,hb,hs,hS,htr,List.map_append,List.map_cons,List.map_nil,rI,List.length_append,List.length_map,List.length_take,List.length_drop]) rfl ?_|refine aa hX hC hP (bA outs ((bu g x).getD k 0) vE) rfl rfl rfl (by simp only [go_sem,simprocAttr,hb,hs,hS,htr,List.map_append,List.map_cons,List.map_nil,rI,List.length_append,List.length_map,List.length_take,List.length_drop]) rfl ?_);try simp only [go_sem,simprocAttr,hb,hs,hS,htr,List.map_append,List.map_cons,List.map_nil,rI,List.length_append,List.length_map,List.length_take,List.length_drop])|((with_reducible refine oD ?_ ?_);kernel_rfl)|((with_reducible intro h);try simp only [go_sem,simprocAttr,hb,hs,hS,htr,List.map_append,List.map_cons,List.map_nil,rI,List.length_append,List.length_map,List.length_take,List.length_drop] at h)|omega|intro h)
  ·have hS:aC g f x outs=(((f.row.take b).drop a,0),⟨f.row.take a++aP g x outs++f.row.drop b,f.pl++ [x]⟩):=by
    have e:bp f.row x=((a:Int),(b:Int),(c:Int)):=hs
    unfold aC
    rw [e]
    have e1:(max (a:Int) 0).toNat=a:=by omega
    simp only [e1,Int.toNat_natCast]
   have tC:((b:Int) - 1+1)=b:=by omega
   repeat' (first|(show cw _ .ret _ _;(try simp only [go_sem,simprocAttr,hb,hs,hS,tC,htr,List.map_append,List.map_cons,List.map_nil,List.map_take,List.map_drop,rI,List.length_append,List.length_map,List.length_take,List.length_drop]);(refine dV hX 113 rfl ?_;simp only [go_sem,simprocAttr,hb,hs,hS,tC,htr,List.map_append,List.map_cons,List.map_nil,List.map_take,List.map_drop,rI,List.length_append,List.length_map,List.length_take,List.length_drop]);first|(refine dV hX 124 rfl ?_;simp only [go_sem,simprocAttr,hb,hs,hS,tC,htr,List.map_append,List.map_cons,List.map_nil,List.map_take,List.map_drop,rI,List.length_append,List.length_map,List.length_take,List.length_drop])|(refine dV hX 156 rfl ?_;simp only [go_sem,simprocAttr,hb,hs,hS,tC,htr,List.map_append,List.map_cons,List.map_nil,List.map_take,List.map_drop,rI,List.length_append,List.length_map,List.length_take,List.length_drop]))|refine Rn.p ?_|(with_reducible apply And.intro)|((first|(refine hK _ ?_;clear hK K)|with_reducible intro K hK|refine Rs.p ?_|((with_reducible first|apply oP|apply oQ);exact rfl)|(refine aV hX hC hP [(10000,10000)] (bM g hl f x iQ hp1) rfl rfl rfl ?_ ?_ ?_ ?_ ?_ ?_ rfl rfl ?_ ?_;(focus (simp only [go_sem,simprocAttr,hb,hs,hS,tC,htr,List.map_append,List.map_cons,List.map_nil,List.map_take,List.map_drop,rI,List.length_append,List.length_map,List.length_take,List.length_drop];done));(iterate 6 (focus (simp [go_sem,simprocAttr,hb,hs,hS,tC,htr,List.map_append,List.map_cons,List.map_nil,List.map_take,List.map_drop,rI,List.length_append,List.length_map,List.length_take,List.length_drop];done)));try simp only [List.map_cons,List.map_nil])|refine aa hX hC hP (bh g x true hl) rfl rfl rfl (by simp only [go_sem,simprocAttr,hb,hs,hS,tC,htr,List.map_append,List.map_cons,List.map_nil,List.map_take,List.map_drop,rI,List.length_append,List.length_map,List.length_take,List.length_drop]) rfl ?_|refine aa hX hC hP (bA outs ((bu g x).getD k 0) vE) rfl rfl rfl (by simp only [go_sem,simprocAttr,hb,hs,hS,tC,htr,List.map_append,List.map_cons,List.map_nil,List.map_take,List.map_drop,rI,List.length_append,List.length_map,List.length_take,List.length_drop]) rfl ?_);try simp only [go_sem,simprocAttr,hb,hs,hS,tC,htr,List.map_append,List.map_cons,List.map_nil,List.map_take,List.map_drop,rI,List.length_append,List.length_map,List.length_take,List.length_drop])|((with_reducible refine oD ?_ ?_);kernel_rfl)|((with_reducible intro h);try simp only [go_sem,simprocAttr,hb,hs,hS,tC,htr,List.map_append,List.map_cons,List.map_nil,List.map_take,List.map_drop,rI,List.length_append,List.length_map,List.length_take,List.length_drop] at h)|omega|intro h)
end Go.Ab
end
section
namespace Go.Ab
open Go.Proofs
attribute [local congr] ACall.congr gd.congr Nx.congr
set_option maxRecDepth 10000
set_option maxHeartbeats 4000000
def vI (ls:List (List Int)):List (List D):=ls.map fun l=> [sI l]
theorem vI_length {ls:List (List Int)} :(vI ls).length=ls.length:=by simp [vI]
theorem iu {ls:List (List Int)} {k:Nat} (h:k<ls.length) (d:List D):(vI ls).getD k d= [sI (ls.getD k [])]:=by
 simp [vI,List.getD_eq_getElem?_getD,List.getElem?_eq_getElem h]
attribute [go_sem] vI_length
def CJ (l:List Int) (i:Nat):List Int:=l.take i++l.drop (i+1)
def Jc:Nat→List Int→List (List Int)
 |0,_=> [[]]
 |n+1,l=>(List.range l.length).flatMap fun i=>(Jc n (CJ l i)).map fun t=>l.getD i 0::t
def T8 (n:Nat) (l:List Int) (k:Nat):List (List Int):=(List.range k).flatMap fun i=>(Jc n (CJ l i)).map fun t=>l.getD i 0::t
def Ua:Nat→Nat
 |0=>1
 |n+1=>(n+1)*Ua n
theorem va {α β:Type} {f:α→β} {l:List α} {d:α} {k:Nat} (h:k<l.length):(l.take (k+1)).map f=(l.take k).map f++ [f (l.getD k d)]:=lR h
end Go.Ab
end
section
namespace Go.Ab
open Go.Proofs
attribute [local congr] ACall.congr gd.congr Nx.congr
set_option maxRecDepth 10000
set_option maxHeartbeats 8000000
def NA (g:Gr):Nat→Fr→Bool
 |0,f=>decide ((f.pl.length:Int)=g.n)
 |m+1,f=>decide ((f.pl.length:Int)=g.n)||(List.range g.n.toNat).any fun x=>aD g f (x:Int)&&(Jc (bu g (x:Int)).length (bu g (x:Int))).any fun o=>NA g m (aC g f (x:Int) o).2
def Ub (g:Gr) (m:Nat) (f:Fr) (x:Nat):Bool:=aD g f (x:Int)&&(Jc (bu g (x:Int)).length (bu g (x:Int))).any fun o=>NA g m (aC g f (x:Int) o).2
theorem Ec {g:Gr} {f:Fr} {x:Int} {o:List Int} :(aC g f x o).2.row.length≤f.row.length+o.length+1∧(aC g f x o).2.pl.length=f.pl.length+1:=by
 obtain ⟨a,b,ha,hb,hab,kj⟩:=wX f.row x
 have:=lS (g:=g) (x:=x) (outs:=o)
 have e:aC g f x o=(((f.row.take b).drop a,0),⟨f.row.take a++aP g x o++f.row.drop b,f.pl++ [x]⟩):=by
  simp only [aC,ha,hb,Int.toNat_natCast]
 rw [e]
 refine ⟨?_,by simp⟩
 show (f.row.take a++aP g x o++f.row.drop b).length≤_
 rw [List.length_append,List.length_append,List.length_take,List.length_drop]
 omega
end Go.Ab
end
section
namespace Go.Ab
open Go.Proofs
attribute [local congr] ACall.congr gd.congr Nx.congr
set_option maxRecDepth 10000
set_option maxHeartbeats 4000000
theorem vb (g:Gr) (hl:g.es.length≤9223372036854775807) (hm:aO g=false):Spec Tryz.prog 107 (Args [eG g]) [] (.tup [eN (gU g).1,eN (gU g).2.1, .d (sI (gU g).2.2)]) []:=by
 (refine Spec.hd (C:=T.cfg [] []) (rs:= [.t 2, .t 3, .t 4]) (T.ah _ _) Tryz.func107 rfl rfl Tryz.ntmps107 Tryz.results107 (by simp [AObj.isNest]) (by simp [AObj.isNest]) (by kernel_rfl) T.mixed fun X hX hP hC aI bU=> ?_)
 repeat' (first|refine Rn.p ?_|(with_reducible apply And.intro)|((first|(refine hK _ ?_;clear hK K)|with_reducible intro K hK|refine Rs.p ?_|((with_reducible first|apply oP|apply oQ);exact rfl)|refine aa hX hC hP (dB g hl) rfl rfl rfl (by simp only [go_sem,simprocAttr,hm]) rfl ?_);try simp only [go_sem,simprocAttr,hm])|((with_reducible refine oD ?_ ?_);kernel_rfl)|((with_reducible intro h);try simp only [go_sem,simprocAttr,hm] at h)|omega|intro h)
 all_goals simp [gU,iE,hm]
theorem ve (g:Gr) (hl:g.es.length≤9223372036854775807):Spec Tryz.prog 107 (Args [eG g]) [] (.tup [eN (gU g).1,eN (gU g).2.1, .d (sI (gU g).2.2)]) []:=by
 cases hm:aO g with
 |false=>exact vb g hl hm
 |true=>exact vO g (by have:=aM hm;omega)
theorem aQ (g:Gr) (hl:g.es.length≤9223372036854775807):Spec Tryz.prog 61 (Args [eG g]) [] (eB (decide ((bF g).1=0))) []:=by
 rw [KX]
 (refine Spec.hd (C:=T.cfg [] []) (rs:= [.t 2]) (T.ah _ _) Tryz.func61 rfl rfl Tryz.ntmps61 Tryz.results61 (by simp [AObj.isNest]) (by simp [AObj.isNest]) (by kernel_rfl) T.mixed fun X hX hP hC aI bU=> ?_)
 repeat' (first|refine Rn.p ?_|(with_reducible apply And.intro)|((first|(refine hK _ ?_;clear hK K)|with_reducible intro K hK|refine Rs.p ?_|((with_reducible first|apply oP|apply oQ);exact rfl)|refine aa hX hC hP (ve g hl) rfl rfl rfl (by simp only [go_sem,simprocAttr]) rfl ?_);try simp only [go_sem,simprocAttr])|((with_reducible refine oD ?_ ?_);kernel_rfl)|((with_reducible intro h);try simp only [go_sem,simprocAttr] at h)|omega|intro h)
end Go.Ab
end
section
namespace Go.Ab
open Go.Proofs
attribute [local congr] ACall.congr gd.congr Nx.congr
set_option maxRecDepth 10000
set_option maxHeartbeats 4000000
def g9:Gr:=⟨3, [(0,1),(0,2),(1,2)]⟩
def Vr:Fr:=⟨[], []⟩
def Vs:Fr:=⟨[(0,0,1),(1,0,2)], [0]⟩
def Vt:Fr:=⟨[(2,1,2),(1,0,2)], [0,1]⟩
def Vu:Fr:=⟨[(-1,2, -1)], [0,1,2]⟩
end Go.Ab
end
