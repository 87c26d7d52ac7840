/- A part of the proof. -/
import Derived.RangeFuncBox
import Derived.RangeFuncLeaves
import Derived.Shelf.Abstract
import Derived.WalkKit
import Derived.OwnWalkIn
import Derived.TacticsInMore
import Derived.LoopNIn
import Derived.LoopIn
import Derived.Maps.AppendAt
import Derived.Sort.OwnSortedInts
import Derived.Test.YtjmaiddbinlooaaGreatL6P12
set_option linter.unusedSimpArgs false
set_option linter.unusedVariables false
section
namespace Go.Ab
open Go.Proofs Go.RowKit Go.Shelf Go.Sort
attribute [local go_sem] Oper.semAt_some
def upto {α:Type} (f:Nat→α) (k:Nat):List α:=(List.range k).map f
theorem s7 {α:Type} (f:Nat→α) (k:Nat):upto f (k+1)=upto f k++ [f k]:=by simp [upto,List.range_succ]
theorem vY {α:Type} (f:Nat→α) (k:Nat):(upto f k).length=k:=by simp [upto]
theorem BS (zs:List Int):upto (fun j=>zs[j]?.getD 0) zs.length=zs:=by
 apply List.ext_getElem
 ·simp [upto]
 ·intro i h1 h2
  simp [upto,h2]
theorem zQ (zs:List Int) {k:Nat} (hk:k≤zs.length):upto (fun j=>zs[j]?.getD 0) k=zs.take k:=by
 apply List.ext_getElem
 ·simp [upto,hk]
 ·intro i h1 h2
  have:i<zs.length:=by simp [upto] at h1;omega
  simp [upto,this]
set_option maxRecDepth 100000 in
set_option maxHeartbeats 2000000 in
theorem xK (F:Fence) (n:Nat) (h7:F.fn 137) (hro:F.round=none) (hn:1≤n) (l Bs n₀ b off len cap:Nat) (zs:List Int) (iC:len*8≤140737488351232) (hb:b<n₀) (J Jx:List Int→World→Prop)
 (hY:∀pre x W,J pre W→pre.length<len→YieldAt F (n - 1) Tryz.prog l #[.int .i64 x] W fun e W'=>
   (e= .returned (.bool true)∧J (pre++ [x]) W'∧Below n₀ W W')∨(e= .returned (.bool false)∧Jx (pre++ [x]) W'))
 (W:World) (BU:W.cell? ⟨Bs,0,none⟩=some (.slice (some ⟨b,off,none⟩) len cap)) (hc:∀j,j<len→W.cell? ⟨b,off+j,none⟩=some (.int .i64 (zs[j]?.getD 0))) (h0:J [] W):
 CallsIn F n Tryz.prog 137 #[.func (.yield l) #[] #[], .pointer (some ⟨Bs,0,none⟩)] W fun e W'=>(∃v,e= .returned v)∧
  ((∃ys,ys=upto (fun j=>zs[j]?.getD 0) len∧J ys W')∨(∃pre,(∃k,k≤len∧pre=upto (fun j=>zs[j]?.getD 0) k)∧Jx pre W')):=by
 refine callsIn_of_wp Tryz.func137 rfl h7 ?_ hro
 simp only [Tryz.ntmps137,List.size_toArray,List.length_cons,List.length_nil,Nat.reduceAdd,Nat.reduceSub,Array.replicate_succ,Array.replicate_zero,List.push_toArray,List.append_toArray,List.nil_append,List.cons_append]
 gi_wp2
 gi_loopw [7] (fun i wr=>∃k:Nat,k≤len∧i= .int .i64 k∧J (upto (fun j=>zs[j]?.getD 0) k) wr∧Below n₀ W wr)
  (fun i _=>len - (Go.Proofs.intOf i).toNat)
 case atStart=>exact ⟨0,Nat.zero_le _,rfl,h0,Below.refl _ _⟩
 case round=>
  obtain ⟨k,hk,rfl,JT,fc⟩:=hrel
  have Ol:k<len→wr.cell? ⟨b,off+k,none⟩=some (.int .i64 (zs[k]?.getD 0)):=fun h=>(fc.cell (p:=⟨b,off+k,none⟩) hb).trans (hc k h)
  by_cases hlt:k<len
  ·obtain ⟨fn,tmps,assign,body,hy,hR⟩:=hY _ (zs[k]?.getD 0) wr JT (by rw [vY];exact hlt)
   have Om:=Ol hlt
   gi_wp2
   refine hR.mono ?_
   rintro e W3 (⟨rfl,On,F5⟩|⟨rfl,LP⟩)
   ·gi_wp2
    go_roundw
    case rel=>exact ⟨k+1,by omega,by simp,by rw [s7];exact On,fc.trans F5⟩
    case measure=>simp [Go.Proofs.intOf];omega
   ·gi_wp2
    refine bodyPost_ret (results_none rfl _ _ _) rfl ?_
    exact ⟨⟨_,rfl⟩, .inr ⟨_,⟨k+1,by omega,(s7 _ _).symm⟩,LP⟩⟩
  ·obtain rfl:k=len:=by omega
   gi_wp2
   go_end0
   exact ⟨⟨_,rfl⟩, .inl ⟨_,rfl,JT⟩⟩
def Ints (n₀:Nat) (W:World) (sv:Value) (zs:List Int):Prop:=
 (∃p c,sv= .slice p 0 c∧zs= [])∨∃b off cap,sv= .slice (some ⟨b,off,none⟩) zs.length cap∧b<n₀∧∀j,j<zs.length→W.cell? ⟨b,off+j,none⟩=some (.int .i64 (zs[j]?.getD 0))
theorem Ints.below {n₀:Nat} {A B:World} (h:Below n₀ A B) {sv:Value} {zs:List Int} :Ints n₀ A sv zs→Ints n₀ B sv zs
 | .inl e=> .inl e
 | .inr ⟨b,off,cap,e,hb,hc⟩=> .inr ⟨b,off,cap,e,hb,fun j hj=>(h.cell (p:=⟨b,off+j,none⟩) hb).trans (hc j hj)⟩
set_option maxRecDepth 100000 in
set_option maxHeartbeats 1000000 in
theorem q7 (F:Fence) (n:Nat) (h7:F.fn 137) (hro:F.round=none) (l Bs:Nat) (p:Option Addr) (c:Nat) (J:List Int→World→Prop) (W:World) (BU:W.cell? ⟨Bs,0,none⟩=some (.slice p 0 c)) (h0:J [] W):
 CallsIn F n Tryz.prog 137 #[.func (.yield l) #[] #[], .pointer (some ⟨Bs,0,none⟩)] W fun e W'=>(∃v,e= .returned v)∧J [] W':=by
 refine callsIn_of_wp Tryz.func137 rfl h7 ?_ hro
 simp only [Tryz.ntmps137,List.size_toArray,List.length_cons,List.length_nil,Nat.reduceAdd,Nat.reduceSub,Array.replicate_succ,Array.replicate_zero,List.push_toArray,List.append_toArray,List.nil_append,List.cons_append]
 gi_wp2
 gi_loopw [7] (fun i wr=>i= .int .i64 0∧J [] wr) (fun _ _=>0)
 case atStart=>exact ⟨rfl,h0⟩
 case round=>
  obtain ⟨rfl,JT⟩:=hrel
  gi_wp2
  go_end0
  exact ⟨⟨_,rfl⟩,JT⟩
theorem uD (F:Fence) (n:Nat) (h7:F.fn 137) (hro:F.round=none) (hn:1≤n) (Bs n₀:Nat) (sv:Value) (zs:List Int) (iC:zs.length*8≤140737488351232) (w:World) (BU:Bs<w.heap.size) (hn₀:n₀≤w.heap.size)
 (hc:w.cell? ⟨Bs,0,none⟩=some sv) (hI:Ints n₀ w sv zs):
 SeqStopsK F n Tryz.prog 137 #[.pointer (some ⟨Bs,0,none⟩)] (fun x:Int=> #[Value.int .i64 x]) (Below n₀) (fun ys=>ys=zs) (fun pre=>pre<+:zs) zs.length w:=fun l J Jx W hW _ _ hY h0=>by
 have xp:=(hW.cell (p:=⟨Bs,0,none⟩) BU).trans hc
 rcases hI.below (hW.mono hn₀) with ⟨p,c,rfl,rfl⟩|⟨b,off,cap,rfl,hb,hcs⟩
 ·exact (q7 F n h7 hro l Bs p c J W xp h0).mono fun e W' ⟨he,hj⟩=>⟨he, .inl ⟨_,rfl,hj⟩⟩
 ·refine (xK F n h7 hro hn l Bs n₀ b off zs.length cap zs iC hb J Jx hY W xp hcs h0).mono ?_
  rintro e W' ⟨he,⟨ys,rfl,hj⟩|⟨pre,⟨k,hk,rfl⟩,hj⟩⟩
  ·exact ⟨he, .inl ⟨_,BS zs,hj⟩⟩
  ·exact ⟨he, .inr ⟨_,by rw [zQ zs hk];exact List.take_prefix _ _,hj⟩⟩
theorem DG:(Tryz.prog.info? 3).map (fun i=>(i.zero,i.size,i.bytes))=some (some (.int .i64 0),1,8):=by kernel_rfl
set_option maxRecDepth 100000 in
set_option maxHeartbeats 2000000 in
theorem uE (F:Fence) (n:Nat) (h3:F.fn 150) (h5:F.fn 137) (hro:F.round=none) (hn:3≤n) (Bs:Nat) (sv:Value) (zs:List Int) (iC:zs.length*8≤140737488351232) (w:World) (BU:Bs<w.heap.size)
 (hcs:w.cell? ⟨Bs,0,none⟩=some sv) (hI:Ints w.heap.size w sv zs):
 CallsIn F n Tryz.prog 150 #[.slice none 0 0, .func (.func 137) #[] #[.pointer (some ⟨Bs,0,none⟩)]] w fun e W'=>∃v,e= .returned v∧W'.ownsRow w.heap.size 3 1 v zs.length (zs.map (Value.int .i64))∧(v= .slice none 0 0↔zs= [])∧Below w.heap.size w W':=by
 have h1:1≤n:=by omega
 obtain ⟨i0,hi,Dl,F0,CU⟩:=info_parts DG
 refine callsIn_of_wp_marks Tryz.func150 rfl h3 ?_ hro
 simp only [Tryz.ntmps150,List.size_toArray,List.length_cons,List.length_nil,Nat.reduceAdd,Nat.reduceSub,Array.replicate_succ,Array.replicate_zero,List.push_toArray,List.append_toArray,List.nil_append,List.cons_append]
 gi_wp2
 have bO:=Boxed.new w 25 (.slice none 0 0)
 have LQ:Below w.heap.size w (w.alloc (.cells #[.slice none 0 0] 25)):=(Below.refl _ w).alloc (Nat.le_refl _) _
 refine wpIn_rangeFunc_ownG hro h1 (gf:=137) (lb:= #[.pointer (some ⟨Bs,0,none⟩)]) rfl h5 (enters_of Tryz.func137 (by kernel_rfl) rfl)
  (uD F (n - 1) h5 hro (by omega) Bs w.heap.size sv zs iC _ (by simp;omega) (by simp) ((LQ.cell (p:=⟨Bs,0,none⟩) BU).trans hcs) (hI.below LQ)) belowK_t (belowK_b (by simp)) (Below.refl _ _) (fun _=>rfl)
  (fun pre W=>(∃v,Boxed W w.heap.size 25 v∧W.ownsRow w.heap.size 3 1 v pre.length (pre.map (Value.int .i64))∧(v= .slice none 0 0↔pre= []))∧Below w.heap.size w W)
  (fun _ _ _=>False)
  (OwnFrom.and (Own.from (holdsRow_own w.heap.size w.heap.size 25 3 1 (fun pre=>pre.length) (fun pre=>pre.map (Value.int .i64)) (fun pre v=>v= .slice none 0 0↔pre= [])) _) (ownFrom_below (Nat.le_refl _) (by simp)))
  (fun _ _ _ _ _ hs _ _=>hs)
  ⟨⟨_,bO,World.ownsRow_nil _ _ _ _,by simp⟩,LQ⟩
  (fun x=> {tmps:= #[.slice none 0 0, .func (.func 137) #[] #[.pointer (some ⟨Bs,0,none⟩)], .pointer (some ⟨w.heap.size,0,none⟩),undef, .slice none 0 0, .int .i64 x, .func (.func 137) #[] #[.pointer (some ⟨Bs,0,none⟩)], .int .i64 x,undef,undef,undef,undef,undef],defers:= []}) ?assign ?body ?done ?stop
 case assign=>
  intro l x W K hK
  gi_wp2
  exact hK
 case body=>
  rintro l pre x W ⟨⟨v,hv,hrow,pe⟩,hB⟩ hlt
  have hc:=hv.cell
  have hml:maxLen=9223372036854775807:=rfl
  gi_wp2_with (gi_at_builtin;refine wpListIn_append_own _ rfl _ _ 25 rfl w.heap.size 3 i0 (.int .i64 0) 1 8 Tryz.underlying25 hi Dl F0 CU rfl (by decide) _ _ _ rfl (hrow.alloc _) ⟨W.heap.size,0,none⟩ 1 1 [.int .i64 x] rfl rfl (cell_one_new _ _ _) (by simp [Value.oneCell']) (by omega) (by omega) (by have:=hB.size;simp;omega) ?_;intro v' w1 hown' hgrow _;obtain ⟨g',cap',rfl⟩:=ownsRow_succ hown';obtain ⟨zy,zA,yw,hk2,an⟩:=hv.appended (by decide) hrow hB.size (Nat.le_refl _) hown' hgrow;have hc1:=zy.cell;have JR:=zy.frozen)
  exact ⟨hk2.from _,an,⟨_,zA,by simpa using yw,by simp⟩,hB.trans an⟩
 case done=>
  rintro D ys W hD rfl ⟨⟨v,hv,hrow,pe⟩,hB⟩ hK
  have hc:=hv.cell
  gi_wp2
  refine ⟨by simp, .inl ⟨_,_,rfl,run_takeDeferred hK, ?_⟩⟩
  exact ⟨_,results_tmp rfl _ _ _,v,rfl,ownsRow_putObj hrow _ hK rfl,pe,hB.trans (belowK_b (w:=w) (Nat.le_refl _) W D _ _ (by simp at hD;omega) hK rfl rfl)⟩
 case stop=>
  rintro D c pre W _ _ h _
  exact h.elim
set_option maxRecDepth 100000 in
set_option maxHeartbeats 2000000 in
theorem xL (F:Fence) (n:Nat) (h2:F.fn 135) (h3:F.fn 150) (h5:F.fn 137) (hro:F.round=none) (hn:4≤n) (Bs:Nat) (sv:Value) (zs:List Int) (iC:zs.length*8≤140737488351232) (w:World) (BU:Bs<w.heap.size)
 (hcs:w.cell? ⟨Bs,0,none⟩=some sv) (hI:Ints w.heap.size w sv zs):
 CallsIn F n Tryz.prog 135 #[.func (.func 137) #[] #[.pointer (some ⟨Bs,0,none⟩)]] w fun e W'=>∃v,e= .returned v∧W'.ownsRow w.heap.size 3 1 v zs.length (zs.map (Value.int .i64))∧(v= .slice none 0 0↔zs= [])∧Below w.heap.size w W':=by
 have h1:1≤n:=by omega
 refine callsIn_of_wp Tryz.func135 rfl h2 ?_ hro
 simp only [Tryz.ntmps135,List.size_toArray,List.length_cons,List.length_nil,Nat.reduceAdd,Nat.reduceSub,Array.replicate_succ,Array.replicate_zero,List.push_toArray,List.append_toArray,List.nil_append,List.cons_append]
 gi_wp2_with (gi_at_call 150;refine (uE F (n - 1) h3 h5 hro (by omega) Bs sv zs iC _ BU hcs hI).mono ?_;rintro e W ⟨v,rfl,hrow,pe,hb⟩)
 go_ret
 exact ⟨v,rfl,hrow,pe,hb⟩
def fX (l:List Int):List Int:=l.mergeSort fun x y=>decide (x≤y)
set_option maxRecDepth 100000 in
set_option maxHeartbeats 2000000 in
theorem zR (F:Fence) (n:Nat) (Au:F.fn 109) (h2:F.fn 135) (h3:F.fn 150) (h5:F.fn 137) (h9:F.fn 136) (hro:F.round=none) (hn:5≤n)
 (hsort:∀(blk off cap:Nat) (ss:List Int) (W:World),Holds (Value.int .i64) W blk off ss.toArray→blk<W.heap.size→ss.length<4611686018427387904→
   CallsIn F (n - 1) Tryz.prog 136 #[.slice (some ⟨blk,off,none⟩) ss.length cap] W fun e w'=>e= .returned (.tuple #[])∧∃k os,w'=grow (putRow (Value.int .i64) (Sort.ahead W k) blk off (ss.mergeSort fun x y=>decide (x≤y)).toArray) os)
 (hnone:∀(p:Option Addr) (cap:Nat) (W:World),CallsIn F (n - 1) Tryz.prog 136 #[.slice p 0 cap] W fun e w'=>e= .returned (.tuple #[])∧w'=W) (Bs:Nat) (sv:Value) (zs:List Int) (iC:zs.length*8≤140737488351232) (w:World) (BU:Bs<w.heap.size)
 (hcs:w.cell? ⟨Bs,0,none⟩=some sv) (hI:Ints w.heap.size w sv zs):
 CallsIn F n Tryz.prog 109 #[.func (.func 137) #[] #[.pointer (some ⟨Bs,0,none⟩)]] w fun e W'=>∃v,e= .returned v∧W'.ownsRow w.heap.size 3 1 v zs.length ((fX zs).map (Value.int .i64))∧Below w.heap.size w W':=by
 have h1:1≤n:=by omega
 refine callsIn_of_wp Tryz.func109 rfl Au ?_ hro
 simp only [Tryz.ntmps109,List.size_toArray,List.length_cons,List.length_nil,Nat.reduceAdd,Nat.reduceSub,Array.replicate_succ,Array.replicate_zero,List.push_toArray,List.append_toArray,List.nil_append,List.cons_append]
 gi_wp2_with (gi_at_call 135;refine (xL F (n - 1) h2 h3 h5 hro (by omega) Bs sv zs iC _ BU hcs hI).mono ?_;rintro e W ⟨v,rfl,hrow,pe,hb⟩)
 rcases hrow.2 with ⟨rfl,hz⟩|⟨gb,cap,cur,rfl,hbase,LR,r1,r2,r3,r4⟩
 ·have Oo:zs= []:=List.eq_nil_of_length_eq_zero hz
  subst Oo
  have cS:=hnone none 0 W
  gi_wp2_with (gi_at_call 136;refine cS.mono ?_;rintro e w' ⟨rfl,rfl⟩)
  go_ret
  exact ⟨.slice none 0 0,rfl,by simpa [fX] using hrow,hb⟩
 ·have hH:Holds (Value.int .i64) W gb 0 zs.toArray:=holds_of_blockI LR (by simpa using r4)
  have qk:gb<W.heap.size:=(Array.getElem?_eq_some_iff.1 LR).1
  have hsz:zs.length<4611686018427387904:=by omega
  have cS:=hsort gb 0 cap zs W hH qk hsz
  gi_wp2_with (gi_at_call 136;refine cS.mono ?_;rintro e w' ⟨rfl,nn,os,rfl⟩)
  go_ret
  exact ⟨_,rfl,ownsRow_sortedI (by simp [fX]) hbase LR r1 r2 r3,hb.grown (grownBy_sortedI _) hb.size (fun j hj=>by cases hj;exact hbase)⟩
theorem uF (Bs:Nat) (sv:Value) (zs:List Int) (iC:zs.length*8≤140737488351232) (w:World) (BU:Bs<w.heap.size)
 (hcs:w.cell? ⟨Bs,0,none⟩=some sv) (hI:Ints w.heap.size w sv zs):
 Calls Tryz.prog 109 #[.func (.func 137) #[] #[.pointer (some ⟨Bs,0,none⟩)]] w fun e W'=>∃v,e= .returned v∧W'.ownsRow w.heap.size 3 1 v zs.length ((fX zs).map (Value.int .i64))∧Below w.heap.size w W':=
 (callsIn_wide (n:=5)).1 (zR Fence.wide 5 trivial trivial trivial trivial trivial rfl (Nat.le_refl _)
   (fun blk off cap ss W h1 h2 h3=>callsIn_wide.2 (AnyM.slices_Sort_int Tryz.Em blk off cap ss W h1 h2 h3))
   (fun p cap W=>callsIn_wide.2 (AnyM.slices_Sort_int_none Tryz.Em p cap W)) Bs sv zs iC w BU hcs hI)
end Go.Ab
end
section
namespace Go.Ab
open Go.Proofs Go.RowKit
attribute [local congr] ACall.congr
set_option maxRecDepth 10000
def En (E:Env) (w w':World):Env:=⟨E.ρ,E.σ,fun b=>if b<w.heap.size then E.z b else cu w' b⟩
theorem xM {m:List (Nat × AObj)} {E:Env} {w w':World} (hg:Good m E w) (hb:Below w.heap.size w w'):aI w E.z w' (En E w w').z:=by
 intro b
 by_cases h:b<w.heap.size
 ·exact ⟨by simp [En,h],fun o _=>hb.cell (p:=⟨b,o,none⟩) h⟩
 ·have h0:=hg.fresh b (by omega)
  exact ⟨by rw [h0];exact Nat.zero_le _,fun o ho=>by rw [h0] at ho;omega⟩
theorem Spec.BW {P:Program} {f:Nat} {A:Env→World→List Value→Prop} {m:List (Nat × AObj)} {res:AV} (hR:bk m) (hc:yq P f)
 (h:∀E w vals,Good m E w→A E w vals→Calls P f vals.toArray w fun e w'=>∃v,e= .returned v∧Below w.heap.size w w'∧bS w' (En E w w') res v):Spec P f A m res m:=by
 refine ⟨hc,fun E w vals hg hA=>(h E w vals hg hA).mono ?_⟩
 rintro e w' ⟨v,rfl,hb,hv⟩
 have hst:=xM hg hb
 have ud:∀ {l o},bu m l=some o→look m l=some o:=fun hl=>(iP (fun p hp=>hR.nest p hp) hl).1
 have hro:∀ {l o},bu m l=some o→o.ro=true:=fun hl=>hR.ro _ (aT (ud hl))
 refine ⟨v,En E w w',rfl,⟨hb.os,hb.tape,hb.output,hb.size,hst,fun b h1 _=>⟨hb.block b h1,by simp [En,h1]⟩,fun _ _=>⟨rfl,rfl⟩⟩,⟨hg.low,hg.inj,fun l o hl=> ?_,fun b h1=> ?_⟩,fun l o b hl h1=> ?_,hv⟩
 ·have h0:=hg.js l o hl
  have h1:=hro hl
  cases o<;>simp only [AObj.ro] at h1<;>try cases h1
  obtain ⟨b,vs,e,g1,g2,g3,g4,g5⟩:=h0
  have hlt:b<w.heap.size:=(Array.getElem?_eq_some_iff.1 g2).1
  exact ⟨b,vs,e,g1,(hb.block b hlt).trans g2,by simp [En,hlt,g3],AVrs.mono ⟨hst,fun _ _=>rfl,fun _ _=>rfl⟩ (fun _ _=>trivial) (live:=fun _=>True) g4,g5⟩
 ·simp only [En,cu]
  rw [if_neg (by have:=hb.size;omega),Array.getElem?_eq_none h1]
 ·rw [hro hl] at h1;cases h1
theorem Fm {w:World} {z:Nat→Nat} {v:Value} {x:Int} (h:Rd w z v (.sc (.int .i64 x))):v= .int .i64 x:=by cases h;rfl
theorem DH {w:World} {z:Nat→Nat} {v:Value} {l:List Int} (h:Rd w z v (sI l)):Ints w.heap.size w v l:=by
 generalize hx:sI l=x at h
 cases h with
 |sc v h=>cases hx
 |pt b off cells vs hz hc hr=>cases hx
 |nil p sz=>
  simp only [sI,D.sl.injEq,List.map_eq_nil_iff] at hx
  exact .inl ⟨p,0,rfl,hx.2⟩
 |sl b off n cap sz rows vs hn hsz hz hcap hc hr=>
  simp only [sI,D.sl.injEq] at hx
  obtain ⟨rfl,rfl⟩:=hx
  rw [List.length_map] at hn
  subst hn
  rcases Nat.eq_zero_or_pos l.length with h0|hpos
  ·exact .inl ⟨some ⟨b,off,none⟩,cap,by rw [h0],List.eq_nil_of_length_eq_zero h0⟩
  refine .inr ⟨b,off,cap,rfl, ?_,fun j hj=> ?_⟩
  ·have:=hc 0 (by omega)
   by_cases hlt:b<w.heap.size
   ·exact hlt
   ·exfalso
    simp [World.cell?,Array.getElem?_eq_none (Nat.le_of_not_lt hlt)] at this
  ·have h1:=hc j (by omega)
   have h2:=hr j 0 (rI l[j]) (.sc (.int .i64 l[j])) (by simp [List.getElem?_eq_getElem hj]) rfl
   have h3:=Fm h2
   simp only [Nat.mul_one,Nat.add_zero] at h3
   rw [h1,h3]
   simp [List.getElem?_eq_getElem hj]
theorem zS {w':World} {z:Nat→Nat} {base e:Nat} {v:Value} {l:List Int} (h:w'.ownsRow base e 1 v l.length (l.map (Value.int .i64))) (hz:∀b,base≤b→cu w' b≤z b):Rd w' z v (sI l):=by
 rcases h.2 with ⟨rfl,h0⟩|⟨g,cap,cur,rfl,h1,h2,h3,h4,h5,h6⟩
 ·have:l= []:=List.eq_nil_of_length_eq_zero h0
  subst this
  exact .nil _ _
 ·have LS:=hz g h1
  simp only [cu,h2] at LS
  refine .sl g 0 l.length cap 1 _ (fun k=> .int .i64 (l.getD k 0)) (by simp) (by simp [rI]) (by omega) h3 (fun k hk=> ?_) (fun i j r x hi hj=> ?_)
  ·have h7:(cur.toList.take (l.length*1))[k]? =(l.map (Value.int .i64))[k]? :=by rw [h6]
   rw [List.getElem?_take_of_lt hk,Array.getElem?_toList] at h7
   have bD:k<l.length:=by omega
   simp only [World.cell?,h2,Nat.zero_add,Option.isSome_none,Bool.false_eq_true,if_false,h7,List.getElem?_map,List.getElem?_eq_getElem bD,Option.map_some,List.getD_eq_getElem?_getD,Option.getD_some]
  ·rw [List.getElem?_map] at hi
   obtain ⟨y,hy,rfl⟩:=Option.map_eq_some_iff.1 hi
   cases j with
   |succ j=>simp [rI] at hj
   |zero=>
    simp only [rI,List.getElem?_cons_zero,Option.some.injEq] at hj
    subst hj
    simp only [Nat.mul_one,Nat.add_zero,List.getD_eq_getElem?_getD,hy,Option.getD_some]
    exact .sc _ rfl
theorem ec (l:List Int):(fX l).length=l.length:=by simp [fX]
theorem LU (l:List Int):bk [(10000, .rob [.d (sI l)])]:=⟨by simp [AObj.ro],by simp [nodupM,look],by simp,by simp [AObj.ids,AV.ids,AV.idss]⟩
theorem bP (l:List Int) (hl:l.length≤17592186043904):Spec Tryz.prog 109 (Args [.fn 137 [] [.ptr 10000 0]]) [(10000, .rob [.d (sI l)])] (.d (sI (fX l))) [(10000, .rob [.d (sI l)])]:=by
 refine Spec.BW (LU l) ⟨Tryz.f109,_,Tryz.func109,by kernel_rfl,rfl⟩ ?_
 intro E w vals hg hA
 obtain ⟨v,vs,rfl,h0,h3⟩:=hA
 obtain ⟨us,us',rfl,h1,h2⟩:=h0
 obtain ⟨u,GK,rfl,h4,h5⟩:=h2
 obtain ⟨B,hB,rfl⟩:=h4
 simp only [AVrs] at h1 h5 h3
 subst h1 h5 h3
 obtain ⟨b,ws,e,g1,g2,g3,g4,g5⟩:=hg.js 10000 (.rob [.d (sI l)]) rfl
 obtain rfl:b=B:=by rw [g1] at hB;exact Option.some.inj hB
 obtain ⟨sv,PE,rfl,g6,g7⟩:=g4
 simp only [AVrs] at g7
 subst g7
 have hlt:b<w.heap.size:=(Array.getElem?_eq_some_iff.1 g2).1
 refine (uF b sv l (by omega) w hlt (by simp [World.cell?,g2]) (DH g6)).mono ?_
 rintro e w' ⟨v,rfl,hrow,hb⟩
 refine ⟨v,rfl,hb, ?_⟩
 rw [← ec] at hrow
 exact zS hrow fun b hb=>by simp only [En];rw [if_neg (by omega)];exact Nat.le_refl _
end Go.Ab
end
section
namespace Go.Ab
open Go.Proofs
attribute [local congr] ACall.congr
set_option maxRecDepth 10000
def PF (l:List Int) (k:Nat):Bool:=(List.range k).all fun i=>decide (l.getD i 0=(i:Int))
def DI (g:Gr) (names order:List Int) (k:Nat):List Edge:=(List.range k).map fun i=>(names.getD (g.es.getD (order.getD i 0).toNat (0,0)).1.toNat 0,names.getD (g.es.getD (order.getD i 0).toNat (0,0)).2.toNat 0)
def fR (g:Gr) (names order:List Int):Gr:=⟨g.n,DI g names order order.length⟩
theorem vZ {g:Gr} {names order:List Int} {k:Nat} :(DI g names order k).length=k:=by simp [DI]
def IZ (g:Gr) (names order:List Int):Bool:=aO g&&jc names g.n&&jc order g.es.length
def Oq (g:Gr) (names order:List Int):Gr:=if IZ g names order then fR g names order else ⟨0, []⟩
end Go.Ab
end
section
namespace Go.Ab
def Ed (g:Gr) (a b:Int):Prop:=∃i,i<g.es.length∧tl g i=a∧hd g i=b
def I0 (g:Gr) (l:List Int):Prop:=∀i,i<l.length→Ed g (l.getD i 0) (l.getD ((i+1) % l.length) 0)
def BX (g:Gr) (way:List Int) (at_:Int):Prop:=∀p,p<way.length→Ed g ((way++ [at_]).getD (p+1) 0) (way.getD p 0)
theorem nS {l:List Int} {a:Int} :(l++ [a]).getD l.length 0=a:=by
 rw [List.getD_eq_getElem?_getD,List.getElem?_append_right (Nat.le_refl _)];simp
theorem q8 {g:Gr} (hm:aO g=true):∀(f:Nat) (way:List Int) (a:Nat),a<g.n.toNat→(a:Int)∉aG g→BX g way a→left g way≤f→
 BX g (jD g (b8 g (aG g)) f way a).1 (jD g (b8 g (aG g)) f way a).2∧0≤(jD g (b8 g (aG g)) f way a).2∧(jD g (b8 g (aG g)) f way a).2∈(jD g (b8 g (aG g)) f way a).1
 |f,way,a,ha,hn,hc,hl=>by
  by_cases hmem:(a:Int)∈way
  ·rw [iZ (.inr hmem)]
   exact ⟨hc,by simp only;omega,hmem⟩
  ·have hla:=gH ha hmem
   cases f with
   |zero=>omega
   |succ f=>
    obtain ⟨⟨i,hi,Ot,tV,IX⟩,_⟩:=qW hm (Fj hm ha hn)
    have htr:=bw hm hi
    rw [tV] at htr
    obtain ⟨b,IY⟩:∃b:Nat,gY g (b8 g (aG g)) a=b:=⟨(gY g (b8 g (aG g)) a).toNat,by omega⟩
    rw [IY] at IX htr tV
    have e1:jD g (b8 g (aG g)) (f+1) way a=jD g (b8 g (aG g)) f (way++ [(a:Int)]) b:=by
     simp only [jD];rw [if_neg (by intro h;rcases h with h|h;omega;exact hmem h),IY]
    rw [e1]
    refine q8 hm f (way++ [(a:Int)]) b (by omega) IX ?_ (by omega)
    intro p hp
    rw [List.length_append,List.length_singleton] at hp
    by_cases fT:p<way.length
    ·have:=hc p fT
     rw [ko (by simp;omega),ko fT]
     exact this
    ·have:p=way.length:=by omega
     subst this
     have e2:=nS (l:=way++ [(a:Int)]) (a:=(b:Int))
     rw [List.length_append,List.length_singleton] at e2
     rw [e2,nS]
     exact ⟨i,hi,tV,Ot⟩
theorem nT {l:List Int} {k p:Nat} :(l.drop k).getD p 0=l.getD (k+p) 0:=by
 rw [List.getD_eq_getElem?_getD,List.getElem?_drop, ← List.getD_eq_getElem?_getD]
theorem I0.LV {g:Gr} {l:List Int} (h:∀p,p<l.length→Ed g (l.getD ((p+1) % l.length) 0) (l.getD p 0)) (h0:0<l.length):I0 g (jO l.reverse):=by
 have JS:0<l.reverse.length:=by simpa using h0
 obtain ⟨k,ya,hk2,_⟩:=c8 (gI JS)
 rw [List.length_reverse] at hk2
 have e1:jO l.reverse=l.reverse.drop k++l.reverse.take k:=by simp only [jO,ya,Int.toNat_natCast]
 have hlen:(jO l.reverse).length=l.length:=by rw [e1];simp;omega
 have hg:∀i,i<l.length→(jO l.reverse).getD i 0=l.getD (l.length - 1 - (i+k) % l.length) 0:=by
  intro i hi
  rw [e1,List.getD_eq_getElem?_getD]
  by_cases hik:i<l.length - k
  ·rw [List.getElem?_append_left (by simp;omega),List.getElem?_drop,List.getElem?_reverse (by omega),Nat.mod_eq_of_lt (by omega), ← List.getD_eq_getElem?_getD]
   congr 1;omega
  ·rw [List.getElem?_append_right (by simp;omega),List.length_drop,List.length_reverse,List.getElem?_take,if_pos (by omega),List.getElem?_reverse (by omega), ← List.getD_eq_getElem?_getD]
   have:(i+k) % l.length=i+k - l.length:=by rw [Nat.mod_eq_sub_mod (by omega),Nat.mod_eq_of_lt (by omega)]
   rw [this];congr 1;omega
 intro i hi
 rw [hlen] at hi ⊢
 rw [hg i hi,hg _ (Nat.mod_lt _ h0)]
 have hmm:((i+1) % l.length+k) % l.length=((i+k) % l.length+1) % l.length:=by
  rw [Nat.mod_add_mod,Nat.mod_add_mod];congr 1;omega
 rw [hmm]
 have hj:=Nat.mod_lt (i+k) h0
 generalize (i+k) % l.length=j at hj ⊢
 by_cases s8:j+1<l.length
 ·rw [Nat.mod_eq_of_lt s8]
  have:=h (l.length - 1 - (j+1)) (by omega)
  rw [Nat.mod_eq_of_lt (by omega),show l.length - 1 - (j+1)+1=l.length - 1 - j from by omega] at this
  exact this
 ·have:j+1=l.length:=by omega
  rw [this,Nat.mod_self]
  have:=h (l.length - 1) (by omega)
  rw [show l.length - 1+1=l.length from by omega,Nat.mod_self] at this
  rw [show l.length - 1 - j=0 from by omega]
  exact this
def LW (g:Gr):Prop:=∃r:Int→Nat,∀i,i<g.es.length→r (tl g i)<r (hd g i)
theorem pM {g:Gr} (hm:aO g=true):mQ g=true↔LW g:=by
 constructor
 ·intro h
  refine ⟨fun v=>((vX g.n.toNat (aG g) (aG g).length).getD v.toNat 0).toNat,fun i hi=> ?_⟩
  have h1:=BR (zO hm h) hi
  have h2:=qZ (n:=g.n.toNat) (l:=aG g) (k:=(aG g).length) (y:=(tl g i).toNat)
  simp only;omega
 ·rintro ⟨r,hr⟩
  cases h:mQ g with
  |true=>rfl
  |false=>
   exfalso
   obtain ⟨y,hy,hn⟩:=yD hm h
   have key:∀(p:Nat) (y:Nat),y<g.n.toNat→(y:Int)∉aG g→r y=p→False:=by
    intro p
    induction p using Nat.strongRecOn with
    |_ p ih=>
     intro y hy hn hp
     obtain ⟨t,i,hi,h1,rfl,h2⟩:=Fj hm hy hn
     have htr:=bw hm hi
     have hlt:=hr i hi
     rw [h1,hp] at hlt
     have e:((tl g i).toNat:Int)=tl g i:=by omega
     exact ih (r (tl g i)) hlt (tl g i).toNat (by omega) (by rw [e];exact h2) (by rw [e])
   exact key _ y hy hn rfl
theorem yF {g:Gr} (hm:aO g=true) (h:mQ g=true):iY g= []:=by
 have hall:=(bM.1 (mR hm h)).2
 have hn:=aW hm
 rcases start_eq hm with ⟨h1,h2⟩|⟨a,ha,h1,h2,h3⟩
 ·have:iX g=([], -1):=by
   unfold iX;rw [h1];exact iZ (.inl (by omega)) _
  simp only [iY,this]
  rw [if_pos (by omega)]
 ·exact absurd (hall a (dB.2 (by omega))) h3
theorem q9 {g:Gr} (hm:aO g=true) (h:mQ g=false):0<(iY g).length∧I0 g (iY g):=by
 obtain ⟨y,hy,Ou⟩:=yD hm h
 have hn:=aW hm
 rcases start_eq hm with ⟨h1,h2⟩|⟨a,ha,h1,h2,h3⟩
 ·exfalso
  rcases fy (f:=fun n:Int=>decide (0<n)) (l:=b8 g (aG g)) 0 with ⟨_,h4⟩|⟨k,h4,_⟩
  ·have h5:=(nR hm hy).2 Ou
   have h6:=h4 ((b8 g (aG g)).getD y 0) (by rw [List.getD_eq_getElem?_getD,jB hy];exact List.mem_of_getElem? (jB hy))
   rw [j9 hy] at h6
   exact absurd h5 (of_decide_eq_false h6)
  ·omega
 ·obtain ⟨h4,h5,h6⟩:=q8 hm g.n.toNat [] a ha h3 (fun p hp=>by simp at hp) uz
  have hw:iX g=jD g (b8 g (aG g)) g.n.toNat [] a:=by unfold iX;rw [h1]
  rw [← hw] at h4 h5 h6
  obtain ⟨k,ya,hk2,F5⟩:=c8 h6
  have hc:iY g=jO ((iX g).1.drop k).reverse:=by
   simp only [iY]
   rw [if_neg (by omega),ya,Int.toNat_natCast]
  have hlen:((iX g).1.drop k).length=(iX g).1.length - k:=by simp
  have h0:0<((iX g).1.drop k).length:=by omega
  refine ⟨?_, ?_⟩
  ·rw [hc]
   simp only [jO,List.length_append,List.length_drop,List.length_take,List.length_reverse]
   omega
  ·rw [hc]
   refine I0.LV (fun p hp=> ?_) h0
   rw [hlen] at hp ⊢
   have h7:=h4 (k+p) (by omega)
   rw [nT (p:=p)]
   by_cases s8:p+1<(iX g).1.length - k
   ·rw [Nat.mod_eq_of_lt s8,nT]
    rw [ko (by omega)] at h7
    exact h7
   ·have:p+1=(iX g).1.length - k:=by omega
    rw [this,Nat.mod_self,nT,Nat.add_zero,F5]
    rw [show k+p+1=(iX g).1.length from by omega,nS] at h7
    exact h7
end Go.Ab
end
section
namespace Go.Ab
set_option maxRecDepth 10000
structure PS where
 m:Nat
 src:Int
 Fo:Int
 tl:Int→Int
 hd:Int→Int
 ins:Int→List Int
 outs:Int→List Int
 CX:Int→Nat
 Row:Nat→List Int→List Int→Prop
 k0:Nat
def PS.E (P:PS) (e:Int):Prop:=0≤e∧e<P.m
structure PS.Ok (P:PS):Prop where
 jd:∀x e,e∈P.outs x↔P.E e∧P.tl e=x
 dg:∀x e,e∈P.ins x↔P.E e∧P.hd e=x
 mS:∀x,(P.outs x).Nodup
 xN:∀x,(P.ins x).Nodup
 nU:∀e,P.E e→P.CX (P.tl e)<P.CX (P.hd e)
 DJ:P.Row P.k0 (P.outs P.src) [P.src]
 lV:∀ {k W D},P.Row k W D→W.Nodup
 dW:∀ {k W D},P.Row k W D→∀e,e∈W↔P.E e∧P.tl e∈D∧P.hd e∉D
 kr:∀ {k W D},P.Row (k+1) W D→∃x A C,W=A++P.ins x++C∧P.ins x≠ []
 mT:∀ {k W D x A C},P.Row k W D→W=A++P.ins x++C→P.ins x≠ []→∃k',k=k'+1∧P.Row k' (A++P.outs x++C) (D++ [x])
 kR:∀ {W D},P.Row 0 W D→∀e,P.E e→P.hd e∈D
 pN:∀ {k W D},P.Row k W D→P.src∈D
 pO:∀ {k W D},P.Row k W D→P.Fo∈D→k=0
 uG:P.ins P.src= []
 pP:∀x,P.ins x≠ []→(P.outs x= []↔x=P.Fo)
theorem nV {l:List Int} :l.reverse.Nodup↔l.Nodup:=(List.reverse_perm l).nodup_iff
def PS.Az (P:PS):PS:= {P with ins:=fun x=>(P.ins x).reverse,outs:=fun x=>(P.outs x).reverse,Row:=fun k W D=>P.Row k W.reverse D}
theorem PS.Ok.Az {P:PS} (h:P.Ok):P.Az.Ok:=
 {jd:=fun x e=>by show e∈(P.outs x).reverse↔_;rw [List.mem_reverse];exact h.jd x e
  dg:=fun x e=>by show e∈(P.ins x).reverse↔_;rw [List.mem_reverse];exact h.dg x e
  mS:=fun x=>by show (P.outs x).reverse.Nodup;exact nV.2 (h.mS x)
  xN:=fun x=>by show (P.ins x).reverse.Nodup;exact nV.2 (h.xN x)
  nU:=h.nU
  DJ:=by show P.Row _ (P.outs P.src).reverse.reverse _;rw [List.reverse_reverse];exact h.DJ
  lV:=fun {k W D} hr=>nV.1 (h.lV (show P.Row k W.reverse D from hr))
  dW:=fun {k W D} hr e=>by
   have:=h.dW (show P.Row k W.reverse D from hr) e
   rw [List.mem_reverse] at this
   exact this
  kr:=fun {k W D} hr=>by
   obtain ⟨x,A,C,h1,h2⟩:=h.kr (show P.Row (k+1) W.reverse D from hr)
   refine ⟨x,C.reverse,A.reverse, ?_,fun h3=>h2 (List.reverse_eq_nil_iff.1 h3)⟩
   show W=C.reverse++(P.ins x).reverse++A.reverse
   rw [← List.reverse_reverse W,h1]
   simp
  mT:=fun {k W D x A C} hr h1 h2=>by
   have h1:W=A++(P.ins x).reverse++C:=h1
   obtain ⟨k',h3,h4⟩:=h.mT (x:=x) (A:=C.reverse) (C:=A.reverse) (show P.Row k W.reverse D from hr) (by rw [h1];simp) (fun h3=>h2 (List.reverse_eq_nil_iff.2 h3))
   refine ⟨k',h3, ?_⟩
   show P.Row k' (A++(P.outs x).reverse++C).reverse (D++ [x])
   have e:(A++(P.outs x).reverse++C).reverse=C.reverse++P.outs x++A.reverse:=by simp
   rw [e];exact h4
  kR:=fun {W D} hr=>h.kR (show P.Row 0 W.reverse D from hr)
  pN:=fun {k W D} hr=>h.pN (show P.Row k W.reverse D from hr)
  pO:=fun {k W D} hr=>h.pO (show P.Row k W.reverse D from hr)
  uG:=by show (P.ins P.src).reverse= [];rw [h.uG];rfl
  pP:=fun x hx=>by
   have h2:P.ins x≠ []:=fun h3=>hx (by show (P.ins x).reverse= [];rw [h3];rfl)
   show (P.outs x).reverse= []↔_
   rw [List.reverse_eq_nil_iff];exact h.pP x h2}
structure MS where
 A:List Int
 B:List Int
 D:List Int
def PS.next (P:PS) (s:MS):MS:=
 match s.B with
 | []=>s
 |e::B=>if P.ins (P.hd e)<:+s.A++ [e] then ⟨(s.A++ [e]).take (s.A.length+1 - (P.ins (P.hd e)).length),P.outs (P.hd e)++B,s.D++ [P.hd e]⟩ else ⟨s.A++ [e],B,s.D⟩
def PS.st (P:PS):Nat→MS
 |0=>⟨[],P.outs P.src, [P.src]⟩
 |j+1=>P.next (P.st j)
def PS.sh (P:PS) (j:Nat):Int:=(P.st j).B.headD 0
def PS.pq (P:PS) (j:Nat):List Int:=(List.range j).map P.sh
variable {P:PS}
theorem PS.rq {j:Nat} :P.pq (j+1)=P.pq j++ [P.sh j]:=by simp [PS.pq,List.range_succ]
theorem PS.pQ {j:Nat} :(P.pq j).length=j:=by simp [PS.pq]
theorem PS.uH {j:Nat} {e:Int} :e∈P.pq j↔∃i,i<j∧P.sh i=e:=by simp [PS.pq]
structure PS.Inv (P:PS) (j:Nat) (s:MS):Prop where
 row:∃k,P.Row k (s.A++s.B) s.D
 no:∀h,P.ins h≠ []→¬P.ins h<:+:s.A
 nd:(P.pq j).Nodup
 sh:∀e,e∈P.pq j↔P.E e∧(e∈s.A∨P.hd e∈s.D)
 len:j≤P.m
theorem eu:∀ {l m:List Int},l.Nodup→(∀i∈l,i∈m)→l.length≤m.length
 | [],_,_,_=>Nat.zero_le _
 |a::l,m,hn,h=>by
  rw [List.nodup_cons] at hn
  have ha:=h a (List.mem_cons_self ..)
  have:=eu (m:=m.erase a) hn.2 fun i hi=>(List.mem_erase_of_ne (show i≠a from fun e=>hn.1 (by rw [← e];exact hi))).2 (h i (List.mem_cons_of_mem _ hi))
  rw [List.length_erase_of_mem ha] at this
  have:=List.length_pos_of_mem ha
  rw [List.length_cons];omega
theorem nW {l:List Int} {m:Nat} (hall:∀e:Int,0≤e→e<m→e∈l):m≤l.length:=by
 have:=eu (l:=(List.range m).map Int.ofNat) (m:=l) (List.pairwise_map.2 (List.nodup_range.imp fun hab e=>hab (Int.ofNat.inj e))) fun x hx=>by
  obtain ⟨a,ha,rfl⟩:=List.mem_map.1 hx
  have:=List.mem_range.1 ha
  exact hall _ (by simp) (by simp;omega)
 simpa using this
theorem v7 {X Y:List Int} (h:X<:+Y):Y=Y.take (Y.length - X.length)++X:=by
 obtain ⟨t,rfl⟩:=h
 simp
theorem PS.Inv.more (h:P.Ok) {j:Nat} {s:MS} (hi:P.Inv j s) (hj:j<P.m):∃e B,s.B=e::B:=by
 cases hB:s.B with
 |cons e B=>exact ⟨e,B,rfl⟩
 |nil=>
  exfalso
  obtain ⟨k,hr⟩:=hi.row
  rw [hB,List.append_nil] at hr
  cases k with
  |succ k=>
   obtain ⟨x,A,C,h1,h2⟩:=h.kr hr
   exact hi.no x h2 ⟨A,C,h1.symm⟩
  |zero=>
   have hall:∀e,P.E e→e∈P.pq j:=fun e he=>(hi.sh e).2 ⟨he, .inr (h.kR hr e he)⟩
   have:=nW (fun e h1 h2=>hall e ⟨h1,h2⟩)
   rw [PS.pQ] at this
   omega
theorem PS.zT {s:MS} {e:Int} {B:List Int} (hB:s.B=e::B):P.next s=if P.ins (P.hd e)<:+s.A++ [e] then ⟨(s.A++ [e]).take (s.A.length+1 - (P.ins (P.hd e)).length),P.outs (P.hd e)++B,s.D++ [P.hd e]⟩ else ⟨s.A++ [e],B,s.D⟩:=by
 unfold PS.next;rw [hB]
theorem PS.ru (h:P.Ok) {s:MS} {k:Nat} {e:Int} {B:List Int} (hr:P.Row k (s.A++s.B) s.D) (hB:s.B=e::B):
 P.E e∧((∃A',s.A++ [e]=A'++P.ins (P.hd e)∧P.ins (P.hd e)≠ []∧P.next s=⟨A',P.outs (P.hd e)++B,s.D++ [P.hd e]⟩)∨(¬P.ins (P.hd e)<:+s.A++ [e]∧P.next s=⟨s.A++ [e],B,s.D⟩)):=by
 have he:P.E e:=((h.dW hr e).1 (by rw [hB];simp)).1
 refine ⟨he, ?_⟩
 rw [PS.zT hB]
 by_cases hs:P.ins (P.hd e)<:+s.A++ [e]
 ·rw [if_pos hs]
  refine .inl ⟨_, ?_,fun h0=> ?_,rfl⟩
  ·have:=v7 hs
   simpa using this
  ·have:=(h.dg (P.hd e) e).2 ⟨he,rfl⟩
   rw [h0] at this;cases this
 ·rw [if_neg hs];exact .inr ⟨hs,rfl⟩
theorem xO {X A:List Int} {e:Int} (h:X<:+:A++ [e]):X<:+:A∨X<:+A++ [e]:=by
 obtain ⟨s,t,ht⟩:=h
 rcases List.eq_nil_or_concat t with rfl|⟨t',a,rfl⟩
 ·rw [List.append_nil] at ht;exact .inr ⟨s,ht⟩
 ·left
  refine ⟨s,t', ?_⟩
  have:s++X++t'++ [a]=A++ [e]:=by rw [← ht];simp
  exact (List.append_inj' this rfl).1
theorem PS.inv (h:P.Ok):∀j,j≤P.m→P.Inv j (P.st j)
 |0,_=>⟨⟨_,h.DJ⟩,fun x hx hs=>hx (by
    have:P.ins x<:+: []:=hs
    simpa using this),by simp [PS.pq],fun e=>(by
     simp only [PS.pq,List.range_zero,List.map_nil,List.not_mem_nil,false_iff]
     rintro ⟨he,h1|h1⟩
     ·cases h1
     ·have h1:P.hd e∈ [P.src]:=h1
      have h2:P.hd e=P.src:=by simpa using h1
      have:=(h.dg P.src e).2 ⟨he,h2⟩
      rw [h.uG] at this;cases this),Nat.zero_le _⟩
 |j+1,hj=>by
  have hi:=PS.inv h j (by omega)
  obtain ⟨e,B,hB⟩:=hi.more h (by omega)
  obtain ⟨k,hr⟩:=hi.row
  have hsh:P.sh j=e:=by unfold PS.sh;rw [hB];rfl
  have Ov:e∈(P.st j).A++(P.st j).B:=by rw [hB];simp
  have hm:=(h.dW hr e).1 Ov
  have cC:=h.lV hr
  have Ow:e∉(P.st j).A:=fun hA=>by
   rw [List.nodup_append] at cC
   exact cC.2.2 e hA e (by rw [hB];simp) rfl
  have hnew:e∉P.pq j:=fun h1=>by
   rcases ((hi.sh e).1 h1).2 with h2|h2
   ·exact Ow h2
   ·exact hm.2.2 h2
  have I1:(P.pq (j+1)).Nodup:=by
   rw [PS.rq,hsh,List.nodup_append]
   exact ⟨hi.nd,by simp,fun a ha b hb=>by
    rw [List.mem_singleton] at hb
    subst hb
    intro e2;exact hnew (e2 ▸ ha)⟩
  obtain ⟨he,hc⟩:=PS.ru h hr hB
  have hst:P.st (j+1)=P.next (P.st j):=rfl
  rw [hst]
  rcases hc with ⟨A',h1,h2,h3⟩|⟨h1,h3⟩
  ·rw [h3]
   have hrow:(P.st j).A++(P.st j).B=A'++P.ins (P.hd e)++B:=by rw [hB, ← h1];simp
   obtain ⟨k',rfl,hr'⟩:=h.mT hr hrow h2
   refine ⟨⟨k',by simpa using hr'⟩,fun x hx hs=> ?_,I1,fun f=> ?_,hj⟩
   ·have hs:P.ins x<:+:A':=hs
    have hA:¬P.ins x<:+:(P.st j).A:=hi.no x hx
    obtain ⟨u,v,huv⟩:=hs
    rcases List.eq_nil_or_concat (P.ins (P.hd e)) with h0|⟨I',a,h0⟩
    ·exact h2 h0
    ·rw [h0, ← List.concat_eq_append,List.concat_eq_append] at h1
     have h4:(P.st j).A++ [e]=(A'++I')++ [a]:=by rw [h1];simp
     have h5:=(List.append_inj' h4 rfl).1
     exact hA ⟨u,v++I',by rw [h5, ← huv];simp⟩
   ·rw [PS.rq,hsh,List.mem_append,List.mem_singleton,hi.sh f]
    show _↔P.E f∧(f∈A'∨P.hd f∈(P.st j).D++ [P.hd e])
    constructor
    ·rintro (⟨h4,h5|h5⟩|rfl)
     ·have:f∈A'++P.ins (P.hd e):=by rw [← h1];exact List.mem_append.2 (.inl h5)
      rcases List.mem_append.1 this with h6|h6
      ·exact ⟨h4, .inl h6⟩
      ·exact ⟨h4, .inr (by rw [((h.dg _ _).1 h6).2];simp)⟩
     ·exact ⟨h4, .inr (List.mem_append.2 (.inl h5))⟩
     ·exact ⟨he, .inr (by simp)⟩
    ·rintro ⟨h4,h5|h5⟩
     ·have:f∈(P.st j).A++ [e]:=by rw [h1];exact List.mem_append.2 (.inl h5)
      rcases List.mem_append.1 this with h6|h6
      ·exact .inl ⟨h4, .inl h6⟩
      ·exact .inr (by simpa using h6)
     ·rcases List.mem_append.1 h5 with h6|h6
      ·exact .inl ⟨h4, .inr h6⟩
      ·have h6:P.hd f=P.hd e:=by simpa using h6
       have h7:f∈P.ins (P.hd e):=(h.dg _ _).2 ⟨h4,h6⟩
       have:f∈(P.st j).A++ [e]:=by rw [h1];exact List.mem_append.2 (.inr h7)
       rcases List.mem_append.1 this with h8|h8
       ·exact .inl ⟨h4, .inl h8⟩
       ·exact .inr (by simpa using h8)
  ·rw [h3]
   refine ⟨⟨k,by simpa [hB] using hr⟩,fun x hx hs=> ?_,I1,fun f=> ?_,hj⟩
   ·rcases xO hs with h4|h4
    ·exact hi.no x hx h4
    ·have hne:e∈P.ins x:=by
      obtain ⟨t,ht⟩:=h4
      rcases List.eq_nil_or_concat (P.ins x) with h0|⟨I',a,h0⟩
      ·exact absurd h0 hx
      ·rw [h0] at ht
       have h5:(t++I')++ [a]=(P.st j).A++ [e]:=by rw [← ht];simp
       have:=(List.append_inj' h5 rfl).2
       rw [h0];simp at this ⊢;exact .inr this.symm
     rw [((h.dg _ _).1 hne).2] at h1
     exact h1 h4
   ·rw [PS.rq,hsh,List.mem_append,List.mem_singleton,hi.sh f]
    show _↔P.E f∧(f∈(P.st j).A++ [e]∨P.hd f∈(P.st j).D)
    rw [List.mem_append,List.mem_singleton]
    constructor
    ·rintro (⟨h4,h5|h5⟩|rfl)
     ·exact ⟨h4, .inl (.inl h5)⟩
     ·exact ⟨h4, .inr h5⟩
     ·exact ⟨he, .inl (.inr rfl)⟩
    ·rintro ⟨h4,(h5|h5)|h5⟩
     ·exact .inl ⟨h4, .inl h5⟩
     ·exact .inr h5
     ·exact .inl ⟨h4, .inr h5⟩
end Go.Ab
end
section
namespace Go.Ab
set_option maxRecDepth 10000
set_option linter.unusedSectionVars false
variable {P:PS}
structure PS.gO (P:PS) (L R:Int→Int) (f0 f1:Int) (low:Int→Int):Prop where
 ne:f0≠f1
 gm:∀ {x u a b v},P.outs x=u++a::b::v→R a=L b
 uI:∀ {x u a b v},P.ins x=u++a::b::v→R a=L b
 fst:∀ {x a u b v},P.ins x=a::u→P.outs x=b::v→L a=L b
 CY:∀ {x a u b v},P.ins x=u++ [a]→P.outs x=v++ [b]→R a=R b
 s0:∀ {b v},P.outs P.src=b::v→L b=f0
 s1:∀ {b v},P.outs P.src=v++ [b]→R b=f1
 new:∀ {x u a b v},P.outs x=u++a::b::v→low (R a)=x∧R a≠f0∧R a≠f1
 new1:∀ {x u a b v u' a' b' v'},P.outs x=u++a::b::v→P.outs x=u'++a'::b'::v'→R a=R a'→a=a'
theorem BY {l u v u' v':List Int} {a:Int} (hn:l.Nodup) (h1:l=u++a::v) (h2:l=u'++a::v'):u=u'∧v=v':=by
 induction u generalizing l u' with
 |nil=>
  cases u' with
  |nil=>rw [h1] at h2;simpa using h2
  |cons b u'=>
   rw [h1] at h2
   simp only [List.nil_append,List.cons_append,List.cons.injEq] at h2
   rw [h1,h2.2] at hn
   simp at hn
 |cons b u ih=>
  cases u' with
  |nil=>
   rw [h2] at h1
   simp only [List.nil_append,List.cons_append,List.cons.injEq] at h1
   rw [h2,h1.2] at hn
   simp at hn
  |cons b' u'=>
   have h3:=h1.symm.trans h2
   simp only [List.cons_append,List.cons.injEq] at h3
   rw [h1,List.cons_append,List.nodup_cons] at hn
   obtain ⟨h4,h5⟩:=ih hn.2 rfl h3.2
   exact ⟨by rw [h3.1,h4],h5⟩
theorem gB {l u v:List Int} {a b:Int} (h:l.reverse=u++a::b::v):l=v.reverse++b::a::u.reverse:=by
 have:=congrArg List.reverse h
 simpa using this
theorem PS.gO.Az (h:P.Ok) {L R:Int→Int} {f0 f1:Int} {low:Int→Int} (F:P.gO L R f0 f1 low):P.Az.gO R L f1 f0 low:=
 {ne:=F.ne.symm
  gm:=fun {x u a b v} h=>(F.gm (gB (show (P.outs x).reverse=_ from h))).symm
  uI:=fun {x u a b v} h=>(F.uI (gB (show (P.ins x).reverse=_ from h))).symm
  fst:=fun {x a u b v} h1 h2=>F.CY (x:=x) (u:=u.reverse) (v:=v.reverse) (by
     have:=congrArg List.reverse (show (P.ins x).reverse=_ from h1);simpa using this) (by
     have:=congrArg List.reverse (show (P.outs x).reverse=_ from h2);simpa using this)
  CY:=fun {x a u b v} h1 h2=>F.fst (x:=x) (u:=u.reverse) (v:=v.reverse) (by
    have:=congrArg List.reverse (show (P.ins x).reverse=_ from h1);simpa using this) (by
    have:=congrArg List.reverse (show (P.outs x).reverse=_ from h2);simpa using this)
  s0:=fun {b v} h1=>F.s1 (v:=v.reverse) (by
     have:=congrArg List.reverse (show (P.outs P.src).reverse=_ from h1);simpa using this)
  s1:=fun {b v} h1=>F.s0 (v:=v.reverse) (by
     have:=congrArg List.reverse (show (P.outs P.src).reverse=_ from h1);simpa using this)
  new:=fun {x u a b v} h1=>by
   have h2:=gB (show (P.outs x).reverse=_ from h1)
   obtain ⟨h3,h4,h5⟩:=F.new h2
   have h6:=F.gm h2
   rw [← h6];exact ⟨h3,h5,h4⟩
  new1:=fun {x u a b v u' a' b' v'} h1 h2 h3=>by
   have g1:=gB (show (P.outs x).reverse=_ from h1)
   have g2:=gB (show (P.outs x).reverse=_ from h2)
   rw [← F.gm g1, ← F.gm g2] at h3
   have h4:=F.new1 g1 g2 h3
   subst h4
   have:=(BY (h.mS x) g1 g2).2
   simp only [List.cons.injEq] at this
   exact this.1}
def gP (L R:Int→Int):Int→List Int→Prop
 |_, []=>True
 |f,a::W=>L a=f∧gP L R (R a) W
def iD (R:Int→Int):Int→List Int→Int
 |f, []=>f
 |_,a::W=>iD R (R a) W
theorem b7 {L R:Int→Int} :∀ {A B:List Int} {f:Int},gP L R f (A++B)↔gP L R f A∧gP L R (iD R f A) B
 | [],B,f=>by simp [gP,iD]
 |a::A,B,f=>by simp [gP,iD,b7,and_assoc]
theorem cg {R:Int→Int} :∀ {A B:List Int} {f:Int},iD R f (A++B)=iD R (iD R f A) B
 | [],B,f=>rfl
 |a::A,B,f=>by simp [iD,cg]
theorem ew {R:Int→Int} {A:List Int} {a f:Int} :iD R f (A++ [a])=R a:=by rw [cg];rfl
theorem ry {L R:Int→Int} :∀ {X:List Int} {f:Int},(∀u a b v,X=u++a::b::v→R a=L b)→(∀a u,X=a::u→L a=f)→gP L R f X
 | [],f,_,_=>trivial
 |a::X,f,h,h1=>⟨h1 a X rfl,ry (fun u b c v e=>h (a::u) b c v (by rw [e];rfl)) fun b v e=>(h [] a b v (by rw [e];rfl)).symm⟩
theorem BZ {L R:Int→Int} {f:Int} {u v:List Int} {a b:Int} (h:gP L R f (u++a::b::v)):R a=L b:=by
 have:=(b7.1 h).2
 exact this.2.1.symm
theorem cE {l:List Int} (h:l≠ []):∃u a,l=u++ [a]:=by
 rcases List.eq_nil_or_concat l with h1|⟨u,a,h1⟩
 ·exact absurd h1 h
 ·exact ⟨u,a,by rw [h1,List.concat_eq_append]⟩
theorem gZ {l:List Int} (h:l≠ []):∃a u,l=a::u:=by
 cases l with
 |nil=>exact absurd rfl h
 |cons a u=>exact ⟨a,u,rfl⟩
structure v8 (L R:Int→Int) (f0 f1:Int) (low:Int→Int) (W D:List Int):Prop where
 lk:gP L R f0 W
 en:iD R f0 W=f1
 nd:(W.map R).Nodup
 lo:∀a∈W,R a≠f0∧(R a=f1∨(R a≠f1∧low (R a)∈D))
theorem zU {X U V Y:List Int} {r:Int} (h:(X++(U++ [r])++Y).Nodup) (hV:V.Nodup) (hd:∀z∈V,z∉X∧z≠r∧z∉Y):(X++(V++ [r])++Y).Nodup:=by
 have h1:(X++ [r]++Y).Nodup:=by
  refine List.Nodup.sublist ?_ h
  refine List.Sublist.append (List.Sublist.append (List.Sublist.refl _) ?_) (List.Sublist.refl _)
  exact List.sublist_append_right ..
 have h2:(V++(X++ [r]++Y)).Nodup:=by
  rw [List.nodup_append]
  refine ⟨hV,h1,fun a ha b hb e=> ?_⟩
  subst e
  obtain ⟨g1,g2,g3⟩:=hd a ha
  simp only [List.mem_append,List.mem_singleton] at hb
  rcases hb with (hb|hb)|hb
  ·exact g1 hb
  ·exact g2 hb
  ·exact g3 hb
 refine (List.Perm.nodup_iff ?_).1 h2
 have:X++(V++ [r])++Y=(X++V)++([r]++Y):=by simp
 rw [this]
 have:V++(X++ [r]++Y)=(V++X)++([r]++Y):=by simp
 rw [this]
 exact List.Perm.append_right _ List.perm_append_comm
theorem lC {R:Int→Int} :∀ {l:List Int},l.Nodup→(∀a∈l,∀b∈l,R a=R b→a=b)→(l.map R).Nodup
 | [],_,_=>by simp
 |a::l,hn,h=>by
  rw [List.nodup_cons] at hn
  rw [List.map_cons,List.nodup_cons]
  refine ⟨fun hm=> ?_,lC hn.2 fun x hx y hy=>h x (List.mem_cons_of_mem _ hx) y (List.mem_cons_of_mem _ hy)⟩
  obtain ⟨b,hb,e⟩:=List.mem_map.1 hm
  have:=h b (List.mem_cons_of_mem _ hb) a (List.mem_cons_self ..) e
  exact hn.1 (this ▸ hb)
section
variable (h:P.Ok) {L R:Int→Int} {f0 f1:Int} {low:Int→Int} (F:P.gO L R f0 f1 low)
include h F
theorem lW {v:List Int} {b:Int} {x:Int} (hv:P.outs x=v++ [b]) {a:Int} (ha:a∈v):∃u c w,P.outs x=u++a::c::w:=by
 obtain ⟨s,t,rfl⟩:=List.append_of_mem ha
 cases t with
 |nil=>exact ⟨s,b, [],by rw [hv];simp⟩
 |cons c t=>exact ⟨s,c,t++ [b],by rw [hv];simp⟩
theorem s9 {x f:Int} (hf:∀b v,P.outs x=b::v→L b=f):gP L R f (P.outs x):=ry (fun u a b v e=>F.gm e) fun a u e=>hf a u e
theorem yG {x:Int} {v:List Int} {b:Int} (hv:P.outs x=v++ [b]):(v.map R).Nodup∧∀z∈v.map R,low z=x∧z≠f0∧z≠f1:=by
 have hn:=h.mS x
 rw [hv,List.nodup_append] at hn
 refine ⟨lC hn.1 fun a ha a' LX e=> ?_,fun z hz=> ?_⟩
 ·obtain ⟨u,c,w,h1⟩:=lW h F hv ha
  obtain ⟨u',c',w',h2⟩:=lW h F hv LX
  exact F.new1 h1 h2 e
 ·obtain ⟨a,ha,rfl⟩:=List.mem_map.1 hz
  obtain ⟨u,c,w,h1⟩:=lW h F hv ha
  exact F.new h1
theorem v8.start (hne:P.outs P.src≠ []):v8 L R f0 f1 low (P.outs P.src) [P.src]:=by
 obtain ⟨v,b,hv⟩:=cE hne
 obtain ⟨n1,n2⟩:=yG h F hv
 have hb:=F.s1 hv
 refine ⟨s9 h F fun b v e=>F.s0 e,by rw [hv,ew,hb], ?_,fun a ha=> ?_⟩
 ·rw [hv,List.map_append,List.nodup_append]
  refine ⟨n1,by simp,fun z hz y hy e=> ?_⟩
  simp only [List.map_cons,List.map_nil,List.mem_singleton] at hy
  exact (n2 z hz).2.2 (by rw [e,hy,hb])
 ·rw [hv,List.mem_append,List.mem_singleton] at ha
  rcases ha with ha|rfl
  ·obtain ⟨g1,g2,g3⟩:=n2 (R a) (List.mem_map_of_mem ha)
   exact ⟨g2, .inr ⟨g3,by rw [g1];simp⟩⟩
  ·exact ⟨by rw [hb];exact F.ne.symm, .inl hb⟩
theorem v8.step {A C D:List Int} {x:Int} (hi:v8 L R f0 f1 low (A++P.ins x++C) D) (hI:P.ins x≠ []) (hO:P.outs x≠ []) (hx:x∉D):v8 L R f0 f1 low (A++P.outs x++C) (D++ [x]):=by
 obtain ⟨u,a,hu⟩:=cE hI
 obtain ⟨v,b,hv⟩:=cE hO
 obtain ⟨a0,u0,DK⟩:=gZ hI
 obtain ⟨b0,v0,qm⟩:=gZ hO
 have hab:=F.CY hu hv
 have h0:=F.fst DK qm
 obtain ⟨l1,l2⟩:=b7.1 hi.lk
 obtain ⟨l3,l4⟩:=b7.1 l1
 have M0:∀f,iD R f (P.ins x)=R a:=fun f=>by rw [hu,ew]
 have M1:∀f,iD R f (P.outs x)=R b:=fun f=>by rw [hv,ew]
 have hL:L a0=iD R f0 A:=by rw [DK] at l4;exact l4.1
 obtain ⟨n1,n2⟩:=yG h F hv
 have cC:=hi.nd
 have hlo:=hi.lo
 refine ⟨?_, ?_, ?_,fun c hc=> ?_⟩
 ·rw [b7,b7]
  refine ⟨⟨l3,s9 h F fun b' v' e=> ?_⟩, ?_⟩
  ·rw [qm] at e
   simp only [List.cons.injEq] at e
   rw [← e.1, ← h0,hL]
  ·rw [cg,M1]
   rw [cg,M0] at l2
   rw [← hab];exact l2
 ·have:=hi.en
  rw [cg,cg,M0] at this
  rw [cg,cg,M1, ← hab];exact this
 ·rw [List.map_append,List.map_append,hv,List.map_append]
  rw [List.map_append,List.map_append,hu,List.map_append] at cC
  simp only [List.map_cons,List.map_nil] at cC ⊢
  rw [← hab]
  have hold:∀c∈A++P.ins x++C,R c∉v.map R:=fun c hc hz=>by
   obtain ⟨g1,g2,g3⟩:=n2 _ hz
   rcases (hlo c hc).2 with h1|⟨_,h1⟩
   ·exact g3 h1
   ·rw [g1] at h1;exact hx h1
  refine zU cC n1 fun z hz=>⟨fun CU=> ?_,fun CU=> ?_,fun CU=> ?_⟩
  ·obtain ⟨c,hc,rfl⟩:=List.mem_map.1 CU
   exact hold c (by simp [hc]) hz
  ·exact hold a (by rw [hu];simp) (CU ▸ hz)
  ·obtain ⟨c,hc,rfl⟩:=List.mem_map.1 CU
   exact hold c (by simp [hc]) hz
 ·have hold:∀c∈A++P.ins x++C,R c≠f0∧(R c=f1∨(R c≠f1∧low (R c)∈D++ [x])):=fun c hc=>by
   obtain ⟨g1,g2⟩:=hlo c hc
   exact ⟨g1,g2.imp id fun ⟨g3,g4⟩=>⟨g3,List.mem_append.2 (.inl g4)⟩⟩
  simp only [List.mem_append] at hc
  rcases hc with (hc|hc)|hc
  ·exact hold c (by simp [hc])
  ·rw [hv,List.mem_append,List.mem_singleton] at hc
   rcases hc with hc|rfl
   ·obtain ⟨g1,g2,g3⟩:=n2 (R c) (List.mem_map_of_mem hc)
    exact ⟨g2, .inr ⟨g3,by rw [g1];simp⟩⟩
   ·have:=hold a (by rw [hu];simp)
    rw [hab] at this;exact this
  ·exact hold c (by simp [hc])
end
end Go.Ab
end
section
namespace Go.Ab
set_option maxRecDepth 10000
set_option linter.unusedSectionVars false
variable {P:PS}
inductive PS.B0 (P:PS) (x:Int):Int→Prop
 |refl:P.B0 x x
 |step {e:Int} :P.B0 x (P.tl e)→P.E e→P.B0 x (P.hd e)
theorem PS.B0.trans {x y z:Int} (h1:P.B0 x y) (h2:P.B0 y z):P.B0 x z:=by
 induction h2 with
 |refl=>exact h1
 |step _ he ih=>exact .step ih he
inductive PS.Lp (P:PS) (L R:Int→Int) (F:Int):Int→Prop
 |refl:P.Lp L R F F
 |step {e:Int} :P.Lp L R F (L e)→P.E e→P.Lp L R F (R e)
theorem PS.Lp.trans {L R:Int→Int} {x y z:Int} (h1:P.Lp L R x y) (h2:P.Lp L R y z):P.Lp L R x z:=by
 induction h2 with
 |refl=>exact h1
 |step _ he ih=>exact .step ih he
theorem PS.Lp.head {L R:Int→Int} {e z:Int} (he:P.E e) (h2:P.Lp L R (R e) z):P.Lp L R (L e) z:=(PS.Lp.step .refl he).trans h2
theorem PS.Lp.Az {L R:Int→Int} {x y:Int} (h1:P.Lp L R x y):P.Az.Lp R L y x:=by
 induction h1 with
 |refl=>exact .refl
 | @step e h1 he ih=>exact PS.Lp.head (P:=P.Az) (L:=R) (R:=L) (e:=e) he ih
theorem PS.B0.Az {x y:Int} (h1:P.B0 x y):P.Az.B0 x y:=by
 induction h1 with
 |refl=>exact .refl
 |step h1 he ih=>exact PS.B0.step (P:=P.Az) ih he
section
variable (h:P.Ok)
include h
theorem nZ {j:Nat} (hj:j≤P.m):∃k,P.Row k ((P.st j).A++(P.st j).B) (P.st j).D:=(P.inv h j hj).row
theorem hU {j:Nat} (hj:j<P.m):∃B,(P.st j).B=P.sh j::B:=by
 obtain ⟨e,B,hB⟩:=(P.inv h j (by omega)).more h hj
 refine ⟨B, ?_⟩
 have:P.sh j=e:=by unfold PS.sh;rw [hB];rfl
 rw [this,hB]
theorem DL {j:Nat} (hj:j<P.m):P.E (P.sh j):=by
 obtain ⟨B,hB⟩:=hU h hj
 obtain ⟨k,hr⟩:=nZ h (Nat.le_of_lt hj)
 exact ((h.dW hr _).1 (by rw [hB];simp)).1
theorem Fp {i j:Nat} (hi:i<P.m) (hj:j<P.m) (e:P.sh i=P.sh j):i=j:=by
 have hn:=(P.inv h P.m (Nat.le_refl _)).nd
 have hl:=PS.pQ (P:=P) (j:=P.m)
 have gi:(P.pq P.m)[i]'(by omega)=P.sh i:=by simp [PS.pq]
 have gj:(P.pq P.m)[j]'(by omega)=P.sh j:=by simp [PS.pq]
 exact (List.getElem_inj hn).1 (by rw [gi,gj,e])
theorem kS {e:Int} (he:P.E e):∃j,j<P.m∧P.sh j=e:=by
 have hi:=P.inv h P.m (Nat.le_refl _)
 refine Decidable.byContradiction fun hne=> ?_
 have hne:e∉P.pq P.m:=fun hm=>hne (PS.uH.1 hm)
 have cC:(e::P.pq P.m).Nodup:=List.nodup_cons.2 ⟨hne,hi.nd⟩
 have:=eu (m:=(List.range P.m).map Int.ofNat) cC fun x hx=>by
  have hE:P.E x:=by
   rcases List.mem_cons.1 hx with rfl|hx
   ·exact he
   ·exact ((hi.sh x).1 hx).1
  have h1:=hE.1;have h2:=hE.2
  exact List.mem_map.2 ⟨x.toNat,List.mem_range.2 (by omega),by simp;omega⟩
 simp [PS.pQ] at this
 omega
theorem yH {i j:Nat} (hi:i<P.m) (hj:j≤P.m):P.sh i∈P.pq j↔i<j:=by
 rw [PS.uH]
 constructor
 ·rintro ⟨i',h1,h2⟩
  have:=Fp h (by omega) hi h2
  omega
 ·exact fun h1=>⟨i,h1,rfl⟩
theorem Fq:(P.st P.m).A= []:=by
 have hi:=P.inv h P.m (Nat.le_refl _)
 obtain ⟨k,hr⟩:=hi.row
 have hB:(P.st P.m).B= []:=by
  cases hB:(P.st P.m).B with
  |nil=>rfl
  |cons e B=>
   exfalso
   have hm:=(h.dW hr e).1 (by rw [hB];simp)
   obtain ⟨j,hj,e2⟩:=kS h hm.1
   have h1:e∈P.pq P.m:=PS.uH.2 ⟨j,hj,e2⟩
   have cC:=h.lV hr
   rw [List.nodup_append] at cC
   rcases ((hi.sh e).1 h1).2 with h2|h2
   ·exact cC.2.2 e h2 e (by rw [hB];simp) rfl
   ·exact hm.2.2 h2
 rw [hB,List.append_nil] at hr
 cases k with
 |succ k=>
  obtain ⟨x,A,C,h1,h2⟩:=h.kr hr
  exact absurd ⟨A,C,h1.symm⟩ (hi.no x h2)
 |zero=>
  cases hA:(P.st P.m).A with
  |nil=>rfl
  |cons e A=>
   have hm:=(h.dW hr e).1 (by rw [hA];simp)
   exact absurd (h.kR hr e hm.1) hm.2.2
theorem pR {j:Nat} (hj:j<P.m):∃B,(P.st j).B=P.sh j::B∧((∃A',(P.st j).A++ [P.sh j]=A'++P.ins (P.hd (P.sh j))∧P.ins (P.hd (P.sh j))≠ []∧P.st (j+1)=⟨A',P.outs (P.hd (P.sh j))++B,(P.st j).D++ [P.hd (P.sh j)]⟩)∨
 (¬P.ins (P.hd (P.sh j))<:+(P.st j).A++ [P.sh j]∧P.st (j+1)=⟨(P.st j).A++ [P.sh j],B,(P.st j).D⟩)):=by
 obtain ⟨B,hB⟩:=hU h hj
 obtain ⟨k,hr⟩:=nZ h (Nat.le_of_lt hj)
 exact ⟨B,hB,(PS.ru h hr hB).2⟩
theorem LY {j:Nat} (hj:j<P.m):P.sh j∉(P.st j).A:=by
 obtain ⟨B,hB⟩:=hU h hj
 obtain ⟨k,hr⟩:=nZ h (Nat.le_of_lt hj)
 have cC:=h.lV hr
 rw [List.nodup_append] at cC
 exact fun hA=>cC.2.2 _ hA _ (by rw [hB];simp) rfl
theorem we:∀ {d j:Nat},j+d=P.m→∀t∈(P.st j).A,∀u,P.ins (P.hd t)≠u++ [t]
 |0,j,hj,t,ht,u=>by
  obtain rfl:j=P.m:=by omega
  rw [Fq h] at ht;cases ht
 |d+1,j,hj,t,ht,u=>by
  have ih:=we (d:=d) (j:=j+1) (by omega)
  have hjm:j<P.m:=by omega
  obtain ⟨B,hB,hc⟩:=pR h hjm
  have hne:=LY h hjm
  rcases hc with ⟨A',h1,h2,h3⟩|⟨h1,h3⟩
  ·have CW:t∈A'++P.ins (P.hd (P.sh j)):=by rw [← h1];simp [ht]
   rcases List.mem_append.1 CW with h4|h4
   ·exact ih t (by rw [h3];exact h4) u
   ·intro hu
    rw [((h.dg _ _).1 h4).2] at hu
    rw [hu, ← List.append_assoc] at h1
    have:=(List.append_inj' h1 rfl).2
    simp only [List.cons.injEq,and_true] at this
    exact hne (this ▸ ht)
  ·exact ih t (by rw [h3];simp [ht]) u
theorem DM {j:Nat} (hj:j<P.m):P.Fo∉(P.st j).D:=fun hs=>by
 have hi:=P.inv h j (by omega)
 obtain ⟨k,hr⟩:=hi.row
 have:=h.pO hr hs
 subst this
 have:=nW (l:=P.pq j) (m:=P.m) fun e h1 h2=>(hi.sh e).2 ⟨⟨h1,h2⟩, .inr (h.kR hr e ⟨h1,h2⟩)⟩
 rw [PS.pQ] at this
 omega
variable {L R:Int→Int} {f0 f1:Int} {low:Int→Int} (F:P.gO L R f0 f1 low)
include F
theorem mU:∀ {j:Nat},j<P.m→v8 L R f0 f1 low ((P.st j).A++(P.st j).B) (P.st j).D
 |0,hj=>by
  obtain ⟨B,hB⟩:=hU h hj
  have hB:P.outs P.src=P.sh 0::B:=hB
  exact v8.start h F (by rw [hB];simp)
 |j+1,hj=>by
  have ih:=mU (j:=j) (by omega)
  obtain ⟨B,hB,hc⟩:=pR h (show j<P.m by omega)
  obtain ⟨k,hr⟩:=nZ h (show j≤P.m by omega)
  rcases hc with ⟨A',h1,h2,h3⟩|⟨h1,h3⟩
  ·have hs:=DM h hj
   rw [h3] at hs ⊢
   have hx:P.hd (P.sh j)≠P.Fo:=fun e=>hs (by simp [e])
   have hO:P.outs (P.hd (P.sh j))≠ []:=fun e=>hx ((h.pP _ h2).1 e)
   have hm:=(h.dW hr (P.sh j)).1 (by rw [hB];simp)
   have hW:(P.st j).A++(P.st j).B=A'++P.ins (P.hd (P.sh j))++B:=by rw [hB, ← h1];simp
   rw [hW] at ih
   have:=v8.step h F ih h2 hO hm.2.2
   simpa using this
  ·rw [h3]
   have hW:(P.st j).A++(P.st j).B=(P.st j).A++ [P.sh j]++B:=by rw [hB];simp
   rw [hW] at ih
   exact ih
theorem B4 {j:Nat} (hj:j<P.m) {a b:Int} (ha:a∈(P.st j).A++(P.st j).B) (hb:b∈(P.st j).A++(P.st j).B) (e:R a=R b):a=b:=by
 have hn:=(mU h F hj).nd
 obtain ⟨i,hi,rfl⟩:=List.mem_iff_getElem.1 ha
 obtain ⟨k,hk,rfl⟩:=List.mem_iff_getElem.1 hb
 have:=(List.getElem_inj (i:=i) (j:=k) (h₀:=by simpa using hi) (h₁:=by simpa using hk) hn).1 (by rw [List.getElem_map,List.getElem_map];exact e)
 subst this;rfl
theorem lX {j:Nat} (hj:j<P.m):∀ {d:Nat} {e:Int},P.CX (P.tl e)<d→P.E e→R e=L (P.sh j)→e∈P.pq j
 |0,e,hd,_,_=>by omega
 |d+1,e,hd,he,hR=>by
  refine Decidable.byContradiction fun hne=> ?_
  have hi:=P.inv h j (by omega)
  have hF:=mU h F hj
  obtain ⟨B,hB⟩:=hU h hj
  obtain ⟨k,hr⟩:=hi.row
  have I2:¬(e∈(P.st j).A∨P.hd e∈(P.st j).D):=fun h1=>hne ((hi.sh e).2 ⟨he,h1⟩)
  have hlk:=hF.lk
  rw [b7,hB] at hlk
  have F6:L (P.sh j)=iD R f0 (P.st j).A:=hlk.2.1
  rcases List.eq_nil_or_concat (P.st j).A with hA|⟨A',t,hA⟩
  ·
   have F6:L (P.sh j)=f0:=by rw [F6,hA];rfl
   have Ox:R e≠f0:=by
    obtain ⟨i,hi2,e2⟩:=kS h he
    obtain ⟨B2,LZ⟩:=hU h hi2
    have:=((mU h F hi2).lo (P.sh i) (by rw [LZ];simp)).1
    rw [e2] at this;exact this
   exact Ox (hR.trans F6)
  ·rw [List.concat_eq_append] at hA
   have F6:L (P.sh j)=R t:=by rw [F6,hA,ew]
   have JU:t∈(P.st j).A:=by rw [hA];simp
   have oa:t∈(P.st j).A++(P.st j).B:=List.mem_append.2 (.inl JU)
   have Fs:R e=R t:=hR.trans F6
   by_cases hc:P.tl e∈(P.st j).D
   ·have Oy:=(h.dW hr e).2 ⟨he,hc,fun h1=>I2 (.inr h1)⟩
    have:=B4 h F hj Oy oa Fs
    exact I2 (.inl (this ▸ JU))
   ·have hem:e∈P.outs (P.tl e):=(h.jd _ _).2 ⟨he,rfl⟩
    obtain ⟨s,w,hs⟩:=List.append_of_mem hem
    have I3:R t≠f1:=fun h1=>by
     have h2:=hF.en
     rw [hB,cg] at h2
     obtain ⟨V,b,M3⟩:=cE (l:=P.sh j::B) (by simp)
     rw [M3,ew] at h2
     have M4:b∈(P.st j).B:=by rw [hB,M3];simp
     have h3:=B4 h F hj oa (List.mem_append.2 (.inr M4)) (h1.trans h2.symm)
     have cC:=h.lV hr
     rw [List.nodup_append] at cC
     exact cC.2.2 t JU b M4 h3
    cases w with
    |cons b w=>
     obtain ⟨g1,g2,g3⟩:=F.new hs
     have h4:=(hF.lo t oa).2
     rw [← Fs] at h4 I3
     rcases h4 with h4|⟨_,h4⟩
     ·exact I3 h4
     ·rw [g1] at h4;exact hc h4
    |nil=>
     have hI:P.ins (P.tl e)≠ []:=fun h0=>by
      have h5:P.tl e≠P.src:=fun h6=>hc (h6 ▸ h.pN hr)
      obtain ⟨i,hi2,e2⟩:=kS h he
      obtain ⟨k2,yw⟩:=nZ h (show i≤P.m by omega)
      obtain ⟨B2,LZ⟩:=hU h hi2
      have hm2:=(h.dW yw (P.sh i)).1 (by rw [LZ];simp)
      have:∀i,i≤P.m→∀x∈(P.st i).D,x=P.src∨P.ins x≠ []:=by
       intro i
       induction i with
       |zero=>intro _ x hx;exact .inl (by simpa [PS.st] using hx)
       |succ i ih=>
        intro PG x hx
        obtain ⟨B3,PI,Ek⟩:=pR h (show i<P.m by omega)
        rcases Ek with ⟨A3,k1,k2,k3⟩|⟨k1,k3⟩
        ·rw [k3] at hx
         rcases List.mem_append.1 hx with hx|hx
         ·exact ih (by omega) x hx
         ·rw [List.mem_singleton] at hx
          exact .inr (hx ▸ k2)
        ·rw [k3] at hx;exact ih (by omega) x hx
      rcases this i (by omega) _ hm2.2.1 with h6|h6
      ·rw [e2] at h6;exact h5 h6
      ·rw [e2] at h6;exact h6 h0
     obtain ⟨u,a,hu⟩:=cE hI
     have I4:=(h.dg (P.tl e) a).1 (by rw [hu];simp)
     have I5:R a=R e:=F.CY hu hs
     have hp:=h.nU a I4.1
     rw [I4.2] at hp
     have hin:=lX (d:=d) (e:=a) hj (by omega) I4.1 (I5.trans hR)
     rcases ((hi.sh a).1 hin).2 with h7|h7
     ·have h8:=B4 h F hj (List.mem_append.2 (.inl h7)) oa (I5.trans Fs)
      subst h8
      exact we h (d:=P.m - j) (by omega) a JU u (by rw [I4.2];exact hu)
     ·rw [I4.2] at h7;exact hc h7
theorem zV {i j:Nat} (hi:i<P.m) (hj:j<P.m) (hR:P.Lp L R (R (P.sh i)) (L (P.sh j))):i<j:=by
 have key:∀y,P.Lp L R (R (P.sh i)) y→∀j,j<P.m→L (P.sh j)=y→i<j:=by
  intro y hy
  induction hy with
  |refl=>
   intro j hj e
   exact (yH h hi (by omega)).1 (lX h F hj (d:=P.CX (P.tl (P.sh i))+1) (by omega) (DL h hi) e.symm)
  | @step f _ hf ih=>
    intro j hj e
    obtain ⟨k,hk,rfl⟩:=kS h hf
    have h1:=ih k hk rfl
    have h2:=(yH h hk (by omega)).1 (lX h F hj (d:=P.CX (P.tl (P.sh k))+1) (by omega) hf e.symm)
    omega
 exact key _ hR j hj rfl
end
end Go.Ab
end
section
namespace Go.Ab
set_option maxRecDepth 10000
set_option linter.unusedSectionVars false
variable {P:PS}
section
variable (h:P.Ok) {L R:Int→Int} {f0 f1:Int} {low:Int→Int} (F:P.gO L R f0 f1 low)
include h F
theorem ta {x:Int} (hx:x≠P.src):∀ {j:Nat},j≤P.m→x∈(P.st j).D→∃i B,i<j∧x∉(P.st i).D∧P.hd (P.sh i)=x∧(∃u,P.ins x=u++ [P.sh i])∧(∀e∈P.ins x,e∈P.pq (i+1))∧(P.st (i+1)).B=P.outs x++B∧(P.st i).B=P.sh i::B
 |0,_,hm=>by
  have:x∈ [P.src]:=hm
  simp at this;exact absurd this hx
 |j+1,hj,hm=>by
  by_cases hp:x∈(P.st j).D
  ·obtain ⟨i,B,h1,h2⟩:=ta hx (by omega) hp
   exact ⟨i,B,by omega,h2⟩
  ·obtain ⟨B,hB,hc⟩:=pR h (show j<P.m by omega)
   rcases hc with ⟨A',h1,h2,h3⟩|⟨h1,h3⟩
   ·rw [h3] at hm
    rcases List.mem_append.1 hm with hm|hm
    ·exact absurd hm hp
    ·rw [List.mem_singleton] at hm
     subst hm
     refine ⟨j,B,by omega,hp,rfl, ?_,fun e he=> ?_,by rw [h3],hB⟩
     ·obtain ⟨u,a,hu⟩:=cE h2
      rw [hu, ← List.append_assoc] at h1
      have:=(List.append_inj' h1 rfl).2
      simp only [List.cons.injEq,and_true] at this
      exact ⟨u,by rw [hu,this]⟩
     ·refine ((P.inv h (j+1) hj).sh e).2 ⟨((h.dg _ _).1 he).1, .inr ?_⟩
      rw [h3,((h.dg _ _).1 he).2];simp
   ·rw [h3] at hm;exact absurd hm hp
end
section
variable (h:P.Ok) {L R:Int→Int} {f0 f1:Int} {low:Int→Int} (F:P.gO L R f0 f1 low) {e f:Int} (he:P.E e) (hf:P.E f)
include h F he hf
end
section
variable (h:P.Ok) {L R:Int→Int} {f0 f1:Int} {low:Int→Int} (F:P.gO L R f0 f1 low) {e f:Int} (he:P.E e) (hf:P.E f)
include h F he hf
end
end Go.Ab
end
section
namespace Go.Ab
open Go.Proofs
attribute [local congr] ACall.congr
set_option maxRecDepth 10000
abbrev It:=Int × Int × Int
def rT (t:It):List D:= [.sc (.int .i64 t.1), .sc (.int .i64 t.2.1), .sc (.int .i64 t.2.2)]
def eT (t:It):AV:= .agg [.d (.sc (.int .i64 t.1)), .d (.sc (.int .i64 t.2.1)), .d (.sc (.int .i64 t.2.2))]
def sT (ts:List It):D:= .sl 3 (ts.map rT)
theorem getD_rT (ps:List It) (i:Nat):(ps.map rT).getD i [.sc (.int .i64 0), .sc (.int .i64 0), .sc (.int .i64 0)]=rT (ps.getD i (0,0,0)):=by
 simp only [List.getD_eq_getElem?_getD,List.getElem?_map]
 cases ps[i]? <;>rfl
theorem rT_eq (t:It):rT t= [.sc (.int .i64 t.1), .sc (.int .i64 t.2.1), .sc (.int .i64 t.2.2)]:=rfl
attribute [go_sem] getD_rT rT_eq eT sT
theorem Eo {l:List Int} :∀r∈l.map rI,∀x∈r,∃v,x=D.sc v:=by
 intro r hr x hx
 obtain ⟨y,_,rfl⟩:=List.mem_map.1 hr
 simp only [rI,List.mem_singleton] at hx
 exact ⟨_,hx⟩
theorem Ep {l:List It} :∀r∈l.map rT,∀x∈r,∃v,x=D.sc v:=by
 intro r hr x hx
 obtain ⟨y,_,rfl⟩:=List.mem_map.1 hr
 simp only [rT,List.mem_cons,List.not_mem_nil,or_false] at hx
 rcases hx with h|h|h<;>exact ⟨_,h⟩
theorem aY {α:Type} {l:List α} {m:Nat} {d:α} (h:m<l.length):l.getD m d∈l:=by
 rw [List.getD_eq_getElem?_getD,List.getElem?_eq_getElem h];exact List.getElem_mem h
theorem oY (ps:List It) (hl:ps.length≤1000000):
 Spec Tryz.prog 116 (Args [.d (sT ps)]) [] (.ref 10000) [(10000, .tip 96 3 (ps.map rT))]:=by
 (refine Spec.eL (C:=T.cfg [] []) (rs:= [.t 2]) [(10000,7)] (T.ak _ _) Tryz.func116 rfl rfl Tryz.ntmps116 Tryz.results116 (by simp [AObj.isNest]) (by simp [AObj.isNest]) (by first|(simp [look];done)|(simp [asN];done)|(intro l hl;simp only [asN];repeat (rw [if_neg (fun e=>by subst e;simp [look] at hl)]))) (by first|(simp [look];done)|(simp [asN];done)|(intro l hl;simp only [asN];repeat (rw [if_neg (fun e=>by subst e;simp [look] at hl)]))) (by kernel_rfl) ?_;intro X hX hP hC aK aL vals hA;refine ⟨_,by simp,hA, ?_⟩;have af:X.P.follows .mixedOrders=true:=(by rw [hP];exact T.mixed);clear aK aL)
 repeat' (first|(show cV _ .ret _ _;(try simp only [go_sem,simprocAttr]);refine jA hX 2 7 (.tip 96 3 []) ?_ ?_ (by decide) ⟨96,3,by decide, .inr rfl⟩ ?_;(iterate 2 (focus (simp only [go_sem,simprocAttr];done)));simp only [go_sem,simprocAttr])|((first|((with_reducible (first|apply oA|apply oB));exact rfl;intro K hK)|(refine hK _ ?_;clear hK K)|((with_reducible (first|apply oG|apply oH));iterate 3 exact rfl)|((with_reducible apply oI);(iterate 2 exact rfl);intro K hK)|(with_reducible (first|apply wI|apply wJ|apply wK)));try simp only [go_sem,simprocAttr])|fail|(with_reducible (first|apply oC|apply oJ|exact oK|apply wA|apply wB|apply wC hX hC|apply wD hX hC|apply wE hX hC af|apply wF hX hC af|apply wG|apply wH|apply And.intro))|((with_reducible refine oD ?_ ?_);first|fail|kernel_rfl)|((with_reducible (first|apply oE|apply oF));(iterate 3 exact rfl);all_goals (intro h;first|(exact absurd h (by decide))|((try simp only [go_sem,simprocAttr] at h);(try with_reducible intro K hK);simp only [go_sem,simprocAttr])))|((first|((with_reducible apply wL);exact rfl)|((with_reducible apply wM);exact rfl));all_goals (try ((with_reducible intro h);first|(exact absurd h (by decide))|(try simp only [go_sem,simprocAttr] at h))))|omega|((first|fail);try simp only [go_sem,simprocAttr])|(intro h))
 exact h.symm
theorem jP {m:List (Nat × AObj)} (hR:bk m) (f:Nat) (caps:List AV) (g:It→Bool) (ps:List It) (hf:∀p∈ps,Spec Tryz.prog f (Args (eT p::caps)) m (eB (g p)) m) (hl:ps.length≤9223372036854775807):
 Spec Tryz.prog 165 (Args [.d (sT ps), .fn f [] caps]) m (eN (bJ g ps)) m:=by
 (refine Spec.intro (C:=T.cfg [] []) (rs:= [.t 4]) (T.ak _ _) Tryz.func165 rfl rfl Tryz.ntmps165 Tryz.results165 (fun p hp=>⟨(bk.low hR p hp).1,bk.nest hR p hp⟩) (fun p hp=>⟨(bk.low hR p hp).2,bk.nest hR p hp⟩) (by kernel_rfl) ?_;intro X hX hP hC aK aL vals hA;refine ⟨_,by simp,hA, ?_⟩;have af:X.P.follows .mixedOrders=true:=(by rw [hP];exact T.mixed);clear aK aL)
 repeat' (first|fail|((first|((with_reducible (first|apply oA|apply oB));exact rfl;intro K hK)|(refine hK _ ?_;clear hK K)|((with_reducible (first|apply oG|apply oH));iterate 3 exact rfl)|((with_reducible apply oI);(iterate 2 exact rfl);intro K hK)|(with_reducible (first|apply wI|apply wJ|apply wK)));try simp only [go_sem,simprocAttr])|fail|(with_reducible (first|apply oC|apply oJ|exact oK|apply wA|apply wB|apply wC hX hC|apply wD hX hC|apply wE hX hC af|apply wF hX hC af|apply wG|apply wH|apply And.intro))|((with_reducible refine oD ?_ ?_);first|fail|kernel_rfl)|((with_reducible (first|apply oE|apply oF));(iterate 3 exact rfl);all_goals (intro h;first|(exact absurd h (by decide))|((try simp only [go_sem,simprocAttr] at h);(try with_reducible intro K hK);simp only [go_sem,simprocAttr])))|((first|((with_reducible apply wL);exact rfl)|((with_reducible apply wM);exact rfl));all_goals (try ((with_reducible intro h);first|(exact absurd h (by decide))|(try simp only [go_sem,simprocAttr] at h))))|omega|((first|fail);try simp only [go_sem,simprocAttr])|(intro h))
 refine aj (fun k:Nat=>k≤ps.length∧∀j,j<k→g (ps.getD j (0,0,0))=false) (fun k=>⟨[(0, .d (sT ps)),(1, .fn f [] caps),(7,eN ps.length),(8,eN k)],m⟩) (fun k=>ps.length - k) 0 (by simp) ?_ ?_
 ·(refine ⟨bV ?_,fun _ _ h=>h⟩;simp [go_sem,simprocAttr])
 rintro k ⟨hk,hg⟩
 rcases Nat.lt_or_ge k ps.length with hlt|hge
 ·have hb:decide ((k:Int)<(ps.length:Int))=true:=decide_eq_true (by omega)
  have hf':=hf (ps.getD k (0,0,0)) (aY hlt)
  repeat' (first|fail|((first|((with_reducible (first|apply oA|apply oB));exact rfl;intro K hK)|(refine hK _ ?_;clear hK K)|((with_reducible (first|apply oG|apply oH));iterate 3 exact rfl)|((with_reducible apply oI);(iterate 2 exact rfl);intro K hK)|(with_reducible (first|apply wI|apply wJ|apply wK)));try simp only [go_sem,simprocAttr,hb])|fail|(with_reducible (first|apply oC|apply oJ|exact oK|apply wA|apply wB|apply wC hX hC|apply wD hX hC|apply wE hX hC af|apply wF hX hC af|apply wG|apply wH|apply And.intro))|((with_reducible refine oD ?_ ?_);first|fail|kernel_rfl)|((with_reducible (first|apply oE|apply oF));(iterate 3 exact rfl);all_goals (intro h;first|(exact absurd h (by decide))|((try simp only [go_sem,simprocAttr,hb] at h);(try with_reducible intro K hK);simp only [go_sem,simprocAttr,hb])))|((first|((with_reducible apply wL);exact rfl)|((with_reducible apply wM);exact rfl));all_goals (try ((with_reducible intro h);first|(exact absurd h (by decide))|(try simp only [go_sem,simprocAttr,hb] at h))))|omega|((first|(first|(refine aX hX hC hP hR (hf') rfl rfl rfl ?_ ?_ rfl rfl ?_;(focus (simp only [go_sem,simprocAttr,hb];done));(focus (first|(intro p hp;exact aM (bk.nd hR) hp)|(simp [go_sem,simprocAttr,hb];done))))|(refine aX hX hC hP hR (hf') rfl rfl rfl ?_ ?_ ?_ rfl ?_;(focus (simp only [go_sem,simprocAttr,hb];done));(focus (first|(intro p hp;exact aM (bk.nd hR) hp)|(simp [go_sem,simprocAttr,hb];done)));(focus (simp [go_sem,simprocAttr,hb];done)))));try simp only [go_sem,simprocAttr,hb])|(intro h))
  ·exact (cZ (by omega) hg h).symm
  ·exact eO hR
  ·refine ⟨k+1,⟨by omega,fun j hj=> ?_⟩, ?_,by omega⟩
   ·by_cases hjk:j=k
    ·subst hjk;exact h
    ·exact hg j (by omega)
   ·(refine ⟨bV ?_,fun _ _ h=>h⟩;simp [go_sem,simprocAttr,hb])
 ·have hb:decide ((k:Int)<(ps.length:Int))=false:=decide_eq_false (by omega)
  repeat' (first|fail|((first|((with_reducible (first|apply oA|apply oB));exact rfl;intro K hK)|(refine hK _ ?_;clear hK K)|((with_reducible (first|apply oG|apply oH));iterate 3 exact rfl)|((with_reducible apply oI);(iterate 2 exact rfl);intro K hK)|(with_reducible (first|apply wI|apply wJ|apply wK)));try simp only [go_sem,simprocAttr,hb])|fail|(with_reducible (first|apply oC|apply oJ|exact oK|apply wA|apply wB|apply wC hX hC|apply wD hX hC|apply wE hX hC af|apply wF hX hC af|apply wG|apply wH|apply And.intro))|((with_reducible refine oD ?_ ?_);first|fail|kernel_rfl)|((with_reducible (first|apply oE|apply oF));(iterate 3 exact rfl);all_goals (intro h;first|(exact absurd h (by decide))|((try simp only [go_sem,simprocAttr,hb] at h);(try with_reducible intro K hK);simp only [go_sem,simprocAttr,hb])))|((first|((with_reducible apply wL);exact rfl)|((with_reducible apply wM);exact rfl));all_goals (try ((with_reducible intro h);first|(exact absurd h (by decide))|(try simp only [go_sem,simprocAttr,hb] at h))))|omega|((first|(first|(refine aX hX hC hP hR (hf') rfl rfl rfl ?_ ?_ rfl rfl ?_;(focus (simp only [go_sem,simprocAttr,hb];done));(focus (first|(intro p hp;exact aM (bk.nd hR) hp)|(simp [go_sem,simprocAttr,hb];done))))|(refine aX hX hC hP hR (hf') rfl rfl rfl ?_ ?_ ?_ rfl ?_;(focus (simp only [go_sem,simprocAttr,hb];done));(focus (first|(intro p hp;exact aM (bk.nd hR) hp)|(simp [go_sem,simprocAttr,hb];done)));(focus (simp [go_sem,simprocAttr,hb];done)))));try simp only [go_sem,simprocAttr,hb])|(intro h))
  ·exact (b9 (0,0,0) fun j hj=>hg j (by omega)).symm
  ·exact eO hR
theorem lZ {m:List (Nat × AObj)} (hR:bk m) (f:Nat) (caps:List AV) (g:It→Bool) (ps:List It) (hf:∀p∈ps,Spec Tryz.prog f (Args (eT p::caps)) m (eB (g p)) m) (hl:ps.length≤9223372036854775807):
 Spec Tryz.prog 152 (Args [.d (sT ps), .fn f [] caps]) m (eB (ps.any g)) m:=by
 (refine Spec.intro (C:=T.cfg [] []) (rs:= [.t 4]) (T.ak _ _) Tryz.func152 rfl rfl Tryz.ntmps152 Tryz.results152 (fun p hp=>⟨(bk.low hR p hp).1,bk.nest hR p hp⟩) (fun p hp=>⟨(bk.low hR p hp).2,bk.nest hR p hp⟩) (by kernel_rfl) ?_;intro X hX hP hC aK aL vals hA;refine ⟨_,by simp,hA, ?_⟩;have af:X.P.follows .mixedOrders=true:=(by rw [hP];exact T.mixed);clear aK aL)
 repeat' (first|fail|((first|((with_reducible (first|apply oA|apply oB));exact rfl;intro K hK)|(refine hK _ ?_;clear hK K)|((with_reducible (first|apply oG|apply oH));iterate 3 exact rfl)|((with_reducible apply oI);(iterate 2 exact rfl);intro K hK)|(with_reducible (first|apply wI|apply wJ|apply wK)));try simp only [go_sem,simprocAttr])|fail|(with_reducible (first|apply oC|apply oJ|exact oK|apply wA|apply wB|apply wC hX hC|apply wD hX hC|apply wE hX hC af|apply wF hX hC af|apply wG|apply wH|apply And.intro))|((with_reducible refine oD ?_ ?_);first|fail|kernel_rfl)|((with_reducible (first|apply oE|apply oF));(iterate 3 exact rfl);all_goals (intro h;first|(exact absurd h (by decide))|((try simp only [go_sem,simprocAttr] at h);(try with_reducible intro K hK);simp only [go_sem,simprocAttr])))|((first|((with_reducible apply wL);exact rfl)|((with_reducible apply wM);exact rfl));all_goals (try ((with_reducible intro h);first|(exact absurd h (by decide))|(try simp only [go_sem,simprocAttr] at h))))|omega|((first|(first|(refine aX hX hC hP hR (jP hR f caps g ps hf hl) rfl rfl rfl ?_ ?_ rfl rfl ?_;(focus (simp only [go_sem,simprocAttr];done));(focus (first|(intro p hp;exact aM (bk.nd hR) hp)|(simp [go_sem,simprocAttr];done))))|(refine aX hX hC hP hR (jP hR f caps g ps hf hl) rfl rfl rfl ?_ ?_ ?_ rfl ?_;(focus (simp only [go_sem,simprocAttr];done));(focus (first|(intro p hp;exact aM (bk.nd hR) hp)|(simp [go_sem,simprocAttr];done)));(focus (simp [go_sem,simprocAttr];done)))));try simp only [go_sem,simprocAttr])|(intro h))
 ·exact fu g ps
 ·exact eO hR
theorem gQ (n:Int) (h0:0<n) (hl:n≤1000000):Spec Tryz.prog 154 (Args [.nil 96,eN n]) [] (.ref 10000) [(10000, .own 96 3 [])]:=by
 (refine Spec.eL (C:=T.cfg [] []) (rs:= [.t 4]) [(10000,25)] (T.ak _ _) Tryz.func154 rfl rfl Tryz.ntmps154 Tryz.results154 (by simp [AObj.isNest]) (by simp [AObj.isNest]) (by first|(simp [look];done)|(simp [asN];done)|(intro l hl;simp only [asN];repeat (rw [if_neg (fun e=>by subst e;simp [look] at hl)]))) (by first|(simp [look];done)|(simp [asN];done)|(intro l hl;simp only [asN];repeat (rw [if_neg (fun e=>by subst e;simp [look] at hl)]))) (by kernel_rfl) ?_;intro X hX hP hC aK aL vals hA;refine ⟨_,by simp,hA, ?_⟩;have af:X.P.follows .mixedOrders=true:=(by rw [hP];exact T.mixed);clear aK aL)
 repeat' (first|fail|((first|((with_reducible (first|apply oA|apply oB));exact rfl;intro K hK)|(refine hK _ ?_;clear hK K)|((with_reducible (first|apply oG|apply oH));iterate 3 exact rfl)|((with_reducible apply oI);(iterate 2 exact rfl);intro K hK)|(with_reducible (first|apply wI|apply wJ|apply wK)));try simp only [go_sem,simprocAttr])|fail|(with_reducible (first|apply oC|apply oJ|exact oK|apply wA|apply wB|apply wC hX hC|apply wD hX hC|apply wE hX hC af|apply wF hX hC af|apply wG|apply wH|apply And.intro))|((with_reducible refine oD ?_ ?_);first|fail|kernel_rfl)|((with_reducible (first|apply oE|apply oF));(iterate 3 exact rfl);all_goals (intro h;first|(exact absurd h (by decide))|((try simp only [go_sem,simprocAttr] at h);(try with_reducible intro K hK);simp only [go_sem,simprocAttr])))|((first|((with_reducible apply wL);exact rfl)|((with_reducible apply wM);exact rfl));all_goals (try ((with_reducible intro h);first|(exact absurd h (by decide))|(try simp only [go_sem,simprocAttr] at h))))|omega|((first|fail);try simp only [go_sem,simprocAttr])|(intro h))
def vT (ls:List (List It)):List (List D):=ls.map fun l=> [sT l]
theorem vT_length {ls:List (List It)} :(vT ls).length=ls.length:=by simp [vT]
theorem pS {ls:List (List It)} {k:Nat} (h:k<ls.length) (d:List D):(vT ls).getD k d= [sT (ls.getD k [])]:=by
 simp [vT,List.getD_eq_getElem?_getD,List.getElem?_eq_getElem h]
attribute [go_sem] vT_length
theorem rz {α:Type} {ls:List (List α)} {k:Nat} (h:k<ls.length):(ls.take (k+1)).flatten=(ls.take k).flatten++ls.getD k []:=by
 rw [List.take_add_one,List.flatten_append,List.getElem?_eq_getElem h,List.getD_eq_getElem?_getD,List.getElem?_eq_getElem h]
 simp
theorem mV {α:Type} {ls:List (List α)} {k:Nat} :(ls.take k).flatten.length≤ls.flatten.length:=by
 have:=congrArg (fun x=>x.flatten.length) (List.take_append_drop k ls)
 simp only [List.flatten_append,List.length_append] at this
 omega
theorem uJ (ls:List (List It)) (hn:ls.length≤1000) (h0:0<ls.flatten.length) (hl:ls.flatten.length≤1000000):Spec Tryz.prog 139 (Args [.d (.sl 1 (vT ls))]) [] (.d (sT ls.flatten)) []:=by
 (refine Spec.intro (C:=T.cfg [] []) (rs:= [.t 2]) (T.ak _ _) Tryz.func139 rfl rfl Tryz.ntmps139 Tryz.results139 (by simp [AObj.isNest]) (by simp [AObj.isNest]) (by kernel_rfl) ?_;intro X hX hP hC aK aL vals hA;refine ⟨_,by simp,hA, ?_⟩;have af:X.P.follows .mixedOrders=true:=(by rw [hP];exact T.mixed);clear aK aL)
 repeat' (first|fail|((first|((with_reducible (first|apply oA|apply oB));exact rfl;intro K hK)|(refine hK _ ?_;clear hK K)|((with_reducible (first|apply oG|apply oH));iterate 3 exact rfl)|((with_reducible apply oI);(iterate 2 exact rfl);intro K hK)|(with_reducible (first|apply wI|apply wJ|apply wK)));try simp only [go_sem,simprocAttr])|fail|(with_reducible (first|apply oC|apply oJ|exact oK|apply wA|apply wB|apply wC hX hC|apply wD hX hC|apply wE hX hC af|apply wF hX hC af|apply wG|apply wH|apply And.intro))|((with_reducible refine oD ?_ ?_);first|fail|kernel_rfl)|((with_reducible (first|apply oE|apply oF));(iterate 3 exact rfl);all_goals (intro h;first|(exact absurd h (by decide))|((try simp only [go_sem,simprocAttr] at h);(try with_reducible intro K hK);simp only [go_sem,simprocAttr])))|((first|((with_reducible apply wL);exact rfl)|((with_reducible apply wM);exact rfl));all_goals (try ((with_reducible intro h);first|(exact absurd h (by decide))|(try simp only [go_sem,simprocAttr] at h))))|omega|((first|(refine az hX hC hP [(10000,33)] (gQ (ls.flatten.length:Int) (by omega) (by omega)) rfl rfl rfl ?_ ?_ ?_ ?_ ?_ ?_ ?_ ?_ ?_ ?_ ?_ ?_ ?_ ?_;(focus (simp only [go_sem,simprocAttr];done));(iterate 12 (focus (simp [go_sem,simprocAttr];done)));simp only [go_sem,simprocAttr,List.map_cons,List.map_nil]));try simp only [go_sem,simprocAttr])|(intro h))
 refine aj (fun k:Nat=>k≤ls.length) (fun k=>⟨[(0, .d (.sl 1 (vT ls))),(9, .d (.sl 1 (vT ls))),(10,eN ls.length),(11,eN k),(3,eN ((ls.take k).flatten.length))], []⟩) (fun k=>ls.length - k) 0 (by omega) ?_ ?_
 ·(refine Le.of ?_ ?_<;>simp [go_sem,simprocAttr])
 ·rintro k hk
  rcases Nat.lt_or_ge k ls.length with hlt|hge
  ·have hb:decide ((k:Int)<(ls.length:Int))=true:=decide_eq_true (by omega)
   have hv:=pS hlt
   have hf:=rz hlt
   have JR:=mV (ls:=ls) (k:=k)
   have Fg:=mV (ls:=ls) (k:=k+1)
   rw [hf,List.length_append] at Fg
   have hneg:decide (((ls.take k).flatten.length:Int)+((ls.getD k []).length:Int)<0)=false:=decide_eq_false (by omega)
   repeat' (first|fail|((first|((with_reducible (first|apply oA|apply oB));exact rfl;intro K hK)|(refine hK _ ?_;clear hK K)|((with_reducible (first|apply oG|apply oH));iterate 3 exact rfl)|((with_reducible apply oI);(iterate 2 exact rfl);intro K hK)|(with_reducible (first|apply wI|apply wJ|apply wK)));try simp only [go_sem,simprocAttr,hb,hv,hneg])|fail|(with_reducible (first|apply oC|apply oJ|exact oK|apply wA|apply wB|apply wC hX hC|apply wD hX hC|apply wE hX hC af|apply wF hX hC af|apply wG|apply wH|apply And.intro))|((with_reducible refine oD ?_ ?_);first|fail|kernel_rfl)|((with_reducible (first|apply oE|apply oF));(iterate 3 exact rfl);all_goals (intro h;first|(exact absurd h (by decide))|((try simp only [go_sem,simprocAttr,hb,hv,hneg] at h);(try with_reducible intro K hK);simp only [go_sem,simprocAttr,hb,hv,hneg])))|((first|((with_reducible apply wL);exact rfl)|((with_reducible apply wM);exact rfl));all_goals (try ((with_reducible intro h);first|(exact absurd h (by decide))|(try simp only [go_sem,simprocAttr,hb,hv,hneg] at h))))|omega|((first|(refine az hX hC hP [(10000,33)] (gQ (ls.flatten.length:Int) (by omega) (by omega)) rfl rfl rfl ?_ ?_ ?_ ?_ ?_ ?_ ?_ ?_ ?_ ?_ ?_ ?_ ?_ ?_;(focus (simp only [go_sem,simprocAttr,hb,hv,hneg];done));(iterate 12 (focus (simp [go_sem,simprocAttr,hb,hv,hneg];done)));simp only [go_sem,simprocAttr,hb,hv,hneg,List.map_cons,List.map_nil]));try simp only [go_sem,simprocAttr,hb,hv,hneg])|(intro h))
   refine ⟨k+1,by omega, ?_,by omega⟩
   simp only [hf]
   refine Le.of ?_ ?_<;>simp [go_sem,simprocAttr,hb,hv,hneg]
  ·have hb:decide ((k:Int)<(ls.length:Int))=false:=decide_eq_false (by omega)
   have ht:ls.take k=ls:=List.take_of_length_le (by omega)
   repeat' (first|fail|((first|((with_reducible (first|apply oA|apply oB));exact rfl;intro K hK)|(refine hK _ ?_;clear hK K)|((with_reducible (first|apply oG|apply oH));iterate 3 exact rfl)|((with_reducible apply oI);(iterate 2 exact rfl);intro K hK)|(with_reducible (first|apply wI|apply wJ|apply wK)));try simp only [go_sem,simprocAttr,hb,ht])|fail|(with_reducible (first|apply oC|apply oJ|exact oK|apply wA|apply wB|apply wC hX hC|apply wD hX hC|apply wE hX hC af|apply wF hX hC af|apply wG|apply wH|apply And.intro))|((with_reducible refine oD ?_ ?_);first|fail|kernel_rfl)|((with_reducible (first|apply oE|apply oF));(iterate 3 exact rfl);all_goals (intro h;first|(exact absurd h (by decide))|((try simp only [go_sem,simprocAttr,hb,ht] at h);(try with_reducible intro K hK);simp only [go_sem,simprocAttr,hb,ht])))|((first|((with_reducible apply wL);exact rfl)|((with_reducible apply wM);exact rfl));all_goals (try ((with_reducible intro h);first|(exact absurd h (by decide))|(try simp only [go_sem,simprocAttr,hb,ht] at h))))|omega|((first|(refine az hX hC hP [(10000,33)] (gQ (ls.flatten.length:Int) (by omega) (by omega)) rfl rfl rfl ?_ ?_ ?_ ?_ ?_ ?_ ?_ ?_ ?_ ?_ ?_ ?_ ?_ ?_;(focus (simp only [go_sem,simprocAttr,hb,ht];done));(iterate 12 (focus (simp [go_sem,simprocAttr,hb,ht];done)));simp only [go_sem,simprocAttr,hb,ht,List.map_cons,List.map_nil]));try simp only [go_sem,simprocAttr,hb,ht])|(intro h))
   refine aj (fun k:Nat=>k≤ls.length) (fun k=>⟨[(25, .d (.sl 1 (vT ls))),(26,eN ls.length),(27,eN k),(6, .ref 33)], [(33, .own 96 3 ((ls.take k).flatten.map rT))]⟩) (fun k=>ls.length - k) 0 (by omega) ?_ ?_
   ·(refine Le.of ?_ ?_<;>simp [go_sem,simprocAttr,hb,ht])
   ·clear hb ht hk hge
    rintro k hk
    rcases Nat.lt_or_ge k ls.length with hlt|hge
    ·have hb:decide ((k:Int)<(ls.length:Int))=true:=decide_eq_true (by omega)
     have hv:=pS hlt
     have hf:=rz hlt
     have JR:=mV (ls:=ls) (k:=k)
     have Fg:=mV (ls:=ls) (k:=k+1)
     rw [hf,List.length_append] at Fg
     repeat' (first|fail|((first|((with_reducible (first|apply oA|apply oB));exact rfl;intro K hK)|(refine hK _ ?_;clear hK K)|((with_reducible (first|apply oG|apply oH));iterate 3 exact rfl)|((with_reducible apply oI);(iterate 2 exact rfl);intro K hK)|(with_reducible (first|apply wI|apply wJ|apply wK)));try simp only [go_sem,simprocAttr,hb,hv])|fail|(with_reducible (first|apply oC|apply oJ|exact oK|apply wA|apply wB|apply wC hX hC|apply wD hX hC|apply wE hX hC af|apply wF hX hC af|apply wG|apply wH|apply And.intro))|((with_reducible refine oD ?_ ?_);first|fail|kernel_rfl)|((with_reducible (first|apply oE|apply oF));(iterate 3 exact rfl);all_goals (intro h;first|(exact absurd h (by decide))|((try simp only [go_sem,simprocAttr,hb,hv] at h);(try with_reducible intro K hK);simp only [go_sem,simprocAttr,hb,hv])))|((first|((with_reducible apply wL);exact rfl)|((with_reducible apply wM);exact rfl));all_goals (try ((with_reducible intro h);first|(exact absurd h (by decide))|(try simp only [go_sem,simprocAttr,hb,hv] at h))))|omega|((first|(refine az hX hC hP [(10000,33)] (gQ (ls.flatten.length:Int) (by omega) (by omega)) rfl rfl rfl ?_ ?_ ?_ ?_ ?_ ?_ ?_ ?_ ?_ ?_ ?_ ?_ ?_ ?_;(focus (simp only [go_sem,simprocAttr,hb,hv];done));(iterate 12 (focus (simp [go_sem,simprocAttr,hb,hv];done)));simp only [go_sem,simprocAttr,hb,hv,List.map_cons,List.map_nil]));try simp only [go_sem,simprocAttr,hb,hv])|(intro h))
     refine ⟨k+1,by omega, ?_,by omega⟩
     simp only [hf]
     refine Le.of ?_ ?_<;>simp [go_sem,simprocAttr,hb,hv]
    ·have hb:decide ((k:Int)<(ls.length:Int))=false:=decide_eq_false (by omega)
     have ht:ls.take k=ls:=List.take_of_length_le (by omega)
     repeat' (first|fail|((first|((with_reducible (first|apply oA|apply oB));exact rfl;intro K hK)|(refine hK _ ?_;clear hK K)|((with_reducible (first|apply oG|apply oH));iterate 3 exact rfl)|((with_reducible apply oI);(iterate 2 exact rfl);intro K hK)|(with_reducible (first|apply wI|apply wJ|apply wK)));try simp only [go_sem,simprocAttr,hb,ht])|fail|(with_reducible (first|apply oC|apply oJ|exact oK|apply wA|apply wB|apply wC hX hC|apply wD hX hC|apply wE hX hC af|apply wF hX hC af|apply wG|apply wH|apply And.intro))|((with_reducible refine oD ?_ ?_);first|fail|kernel_rfl)|((with_reducible (first|apply oE|apply oF));(iterate 3 exact rfl);all_goals (intro h;first|(exact absurd h (by decide))|((try simp only [go_sem,simprocAttr,hb,ht] at h);(try with_reducible intro K hK);simp only [go_sem,simprocAttr,hb,ht])))|((first|((with_reducible apply wL);exact rfl)|((with_reducible apply wM);exact rfl));all_goals (try ((with_reducible intro h);first|(exact absurd h (by decide))|(try simp only [go_sem,simprocAttr,hb,ht] at h))))|omega|((first|(refine az hX hC hP [(10000,33)] (gQ (ls.flatten.length:Int) (by omega) (by omega)) rfl rfl rfl ?_ ?_ ?_ ?_ ?_ ?_ ?_ ?_ ?_ ?_ ?_ ?_ ?_ ?_;(focus (simp only [go_sem,simprocAttr,hb,ht];done));(iterate 12 (focus (simp [go_sem,simprocAttr,hb,ht];done)));simp only [go_sem,simprocAttr,hb,ht,List.map_cons,List.map_nil]));try simp only [go_sem,simprocAttr,hb,ht])|(intro h))
end Go.Ab
end
section
namespace Go.Ab
open Go.Proofs
attribute [local congr] ACall.congr
set_option maxRecDepth 10000
set_option maxHeartbeats 1000000
structure Fr where
 row:List It
 pl:List Int
def eY (g:Gr) (f:Fr):D:= .pt [sT f.row,vw g,sI f.pl]
def ez (row:List It) (x:Int):Nat→Int × Int × Int
 |0=>(-1,0,0)
 |k+1=>if (row.getD k (0,0,0)).2.2=x then (if (ez row x k).1= -1 then (k:Int) else (ez row x k).1,(k:Int)+1,(ez row x k).2.2+1) else ez row x k
def aU (row:List It) (x:Int):Int × Int × Int:=ez row x row.length
theorem l8 {row:List It} {x:Int} {k:Nat} :ez row x (k+1)=if (row.getD k (0,0,0)).2.2=x then (if (ez row x k).1= -1 then (k:Int) else (ez row x k).1,(k:Int)+1,(ez row x k).2.2+1) else ez row x k:=rfl
theorem dQ {row:List It} {x:Int} :∀k:Nat,(ez row x k=(-1,0,0)∧∀j,j<k→(row.getD j (0,0,0)).2.2≠x)∨
 ∃a b c:Nat,ez row x k=((a:Int),(b:Int),(c:Int))∧a<b∧b≤k∧0<c∧c≤k∧(row.getD a (0,0,0)).2.2=x∧(row.getD (b - 1) (0,0,0)).2.2=x∧(∀j,j<a→(row.getD j (0,0,0)).2.2≠x)∧(∀j,b≤j→j<k→(row.getD j (0,0,0)).2.2≠x)
 |0=> .inl ⟨rfl,fun j hj=>by omega⟩
 |k+1=>by
  rw [l8]
  by_cases hx:(row.getD k (0,0,0)).2.2=x
  ·rw [if_pos hx]
   right
   rcases dQ (row:=row) (x:=x) k with ⟨h1,h2⟩|⟨a,b,c,h1,h2,h3,h4,h5,h6,h7,h8,h9⟩
   ·refine ⟨k,k+1,1,by rw [h1];rfl,by omega,by omega,by omega,by omega,hx,hx,h2,fun j h1 h2=>by omega⟩
   ·refine ⟨a,k+1,c+1,by rw [h1];simp only [Prod.mk.injEq];exact ⟨by rw [if_neg (by omega)],by omega,by omega⟩,by omega,by omega,by omega,by omega,h6,hx,h8,fun j h1 h2=>by omega⟩
  ·rw [if_neg hx]
   rcases dQ (row:=row) (x:=x) k with ⟨h1,h2⟩|⟨a,b,c,h1,h2,h3,h4,h5,h6,h7,h8,h9⟩
   ·refine .inl ⟨h1,fun j hj=> ?_⟩
    by_cases hjk:j=k
    ·subst hjk;exact hx
    ·exact h2 j (by omega)
   ·refine .inr ⟨a,b,c,h1,h2,by omega,h4,by omega,h6,h7,h8,fun j L0 PJ=> ?_⟩
    by_cases hjk:j=k
    ·subst hjk;exact hx
    ·exact h9 j L0 (by omega)
theorem dH (ds:List D) (row:List It) (x:Int) (hl:row.length≤1000000):Spec Tryz.prog 113 (Args [.d (.pt (sT row::ds)),eN x]) [] (.tup [eN (aU row x).1,eN (aU row x).2.1,eN (aU row x).2.2]) []:=by
 (refine Spec.intro (C:=T.cfg [] []) (rs:= [.t 4, .t 5, .t 6]) (T.ak _ _) Tryz.func113 rfl rfl Tryz.ntmps113 Tryz.results113 (by simp [AObj.isNest]) (by simp [AObj.isNest]) (by kernel_rfl) ?_;intro X hX hP hC aK aL vals hA;refine ⟨_,by simp,hA, ?_⟩;have af:X.P.follows .mixedOrders=true:=(by rw [hP];exact T.mixed);clear aK aL)
 repeat' (first|fail|((first|((with_reducible (first|apply oA|apply oB));exact rfl;intro K hK)|(refine hK _ ?_;clear hK K)|((with_reducible (first|apply oG|apply oH));iterate 3 exact rfl)|((with_reducible apply oI);(iterate 2 exact rfl);intro K hK)|(with_reducible (first|apply wI|apply wJ|apply wK)));try simp only [go_sem,simprocAttr,aU])|fail|(with_reducible (first|apply oC|apply oJ|exact oK|apply wA|apply wB|apply wC hX hC|apply wD hX hC|apply wE hX hC af|apply wF hX hC af|apply wG|apply wH|apply And.intro))|((with_reducible refine oD ?_ ?_);first|fail|kernel_rfl)|((with_reducible (first|apply oE|apply oF));(iterate 3 exact rfl);all_goals (intro h;first|(exact absurd h (by decide))|((try simp only [go_sem,simprocAttr,aU] at h);(try with_reducible intro K hK);simp only [go_sem,simprocAttr,aU])))|((first|((with_reducible apply wL);exact rfl)|((with_reducible apply wM);exact rfl));all_goals (try ((with_reducible intro h);first|(exact absurd h (by decide))|(try simp only [go_sem,simprocAttr,aU] at h))))|omega|((first|fail);try simp only [go_sem,simprocAttr,aU])|(intro h))
 refine aj (fun k:Nat=>k≤row.length) (fun k=>⟨[(1,eN x),(12, .d (sT row)),(13,eN row.length),(14,eN k),(4,eN (ez row x k).1),(5,eN (ez row x k).2.1),(6,eN (ez row x k).2.2)], []⟩) (fun k=>row.length - k) 0 (by simp) ?_ ?_
 ·refine Le.of ?_ ?_<;>simp [go_sem,simprocAttr,aU,ez]
 rintro k hk
 rcases Nat.lt_or_ge k row.length with hlt|hge
 ·have hb:decide ((k:Int)<(row.length:Int))=true:=decide_eq_true (by omega)
  have hok:=dQ (row:=row) (x:=x) k
  have hc: -1≤(ez row x k).2.2∧(ez row x k).2.2≤k:=by
   rcases hok with ⟨h1,_⟩|⟨a,b,c,h1,_,_,_,_,_⟩<;>rw [h1]<;>simp only<;>omega
  have fc:=l8 (row:=row) (x:=x) (k:=k)
  repeat' (first|fail|((first|((with_reducible (first|apply oA|apply oB));exact rfl;intro K hK)|(refine hK _ ?_;clear hK K)|((with_reducible (first|apply oG|apply oH));iterate 3 exact rfl)|((with_reducible apply oI);(iterate 2 exact rfl);intro K hK)|(with_reducible (first|apply wI|apply wJ|apply wK)));try simp only [go_sem,simprocAttr,hb])|fail|(with_reducible (first|apply oC|apply oJ|exact oK|apply wA|apply wB|apply wC hX hC|apply wD hX hC|apply wE hX hC af|apply wF hX hC af|apply wG|apply wH|apply And.intro))|((with_reducible refine oD ?_ ?_);first|fail|kernel_rfl)|((with_reducible (first|apply oE|apply oF));(iterate 3 exact rfl);all_goals (intro h;first|(exact absurd h (by decide))|((try simp only [go_sem,simprocAttr,hb] at h);(try with_reducible intro K hK);simp only [go_sem,simprocAttr,hb])))|((first|((with_reducible apply wL);exact rfl)|((with_reducible apply wM);exact rfl));all_goals (try ((with_reducible intro h);first|(exact absurd h (by decide))|(try simp only [go_sem,simprocAttr,hb] at h))))|omega|((first|fail);try simp only [go_sem,simprocAttr,hb])|(intro h))
  all_goals (first|rw [if_neg (by assumption)] at fc|(rw [if_pos (by assumption)] at fc;first|rw [if_pos (by assumption)] at fc|rw [if_neg (by assumption)] at fc))
  all_goals (refine ⟨k+1,by omega, ?_,by omega⟩;refine Le.of ?_ ?_<;>simp [go_sem,simprocAttr,hb,fc])
 ·have hb:decide ((k:Int)<(row.length:Int))=false:=decide_eq_false (by omega)
  obtain rfl:k=row.length:=by omega
  repeat' (first|fail|((first|((with_reducible (first|apply oA|apply oB));exact rfl;intro K hK)|(refine hK _ ?_;clear hK K)|((with_reducible (first|apply oG|apply oH));iterate 3 exact rfl)|((with_reducible apply oI);(iterate 2 exact rfl);intro K hK)|(with_reducible (first|apply wI|apply wJ|apply wK)));try simp only [go_sem,simprocAttr,hb,aU])|fail|(with_reducible (first|apply oC|apply oJ|exact oK|apply wA|apply wB|apply wC hX hC|apply wD hX hC|apply wE hX hC af|apply wF hX hC af|apply wG|apply wH|apply And.intro))|((with_reducible refine oD ?_ ?_);first|fail|kernel_rfl)|((with_reducible (first|apply oE|apply oF));(iterate 3 exact rfl);all_goals (intro h;first|(exact absurd h (by decide))|((try simp only [go_sem,simprocAttr,hb,aU] at h);(try with_reducible intro K hK);simp only [go_sem,simprocAttr,hb,aU])))|((first|((with_reducible apply wL);exact rfl)|((with_reducible apply wM);exact rfl));all_goals (try ((with_reducible intro h);first|(exact absurd h (by decide))|(try simp only [go_sem,simprocAttr,hb,aU] at h))))|omega|((first|fail);try simp only [go_sem,simprocAttr,hb,aU])|(intro h))
def jF (x:Int) (t:It):Bool:=decide (t.2.2≠x)&&decide (t.2.2≠ -1)
def oZ (row:List It) (x:Int) (a b:Nat):Bool:= !((row.take b).drop a).any (jF x)
theorem zW (x:Int):bk [(10000, .rob [eN x])]:=⟨by simp [AObj.ro],by simp [nodupM,look],by simp,by simp [AObj.ids,AV.ids,AV.idss,eN]⟩
theorem xP (x:Int) (t:It):Spec Tryz.prog 153 (Args [eT t, .ptr 10000 0]) [(10000, .rob [eN x])] (eB (jF x t)) [(10000, .rob [eN x])]:=by
 (refine Spec.intro (C:=T.cfg [] []) (rs:= [.t 3]) (T.ak _ _) Tryz.func153 rfl rfl Tryz.ntmps153 Tryz.results153 (fun p hp=>⟨(bk.low (zW x) p hp).1,bk.nest (zW x) p hp⟩) (fun p hp=>⟨(bk.low (zW x) p hp).2,bk.nest (zW x) p hp⟩) (by kernel_rfl) ?_;intro X hX hP hC aK aL vals hA;refine ⟨_,by simp,hA, ?_⟩;have af:X.P.follows .mixedOrders=true:=(by rw [hP];exact T.mixed);clear aK aL)
 repeat' (first|fail|((first|((with_reducible (first|apply oA|apply oB));exact rfl;intro K hK)|(refine hK _ ?_;clear hK K)|((with_reducible (first|apply oG|apply oH));iterate 3 exact rfl)|((with_reducible apply oI);(iterate 2 exact rfl);intro K hK)|(with_reducible (first|apply wI|apply wJ|apply wK)));try simp only [go_sem,simprocAttr])|fail|(with_reducible (first|apply oC|apply oJ|exact oK|apply wA|apply wB|apply wC hX hC|apply wD hX hC|apply wE hX hC af|apply wF hX hC af|apply wG|apply wH|apply And.intro))|((with_reducible refine oD ?_ ?_);first|fail|kernel_rfl)|((with_reducible (first|apply oE|apply oF));(iterate 3 exact rfl);all_goals (intro h;first|(exact absurd h (by decide))|((try simp only [go_sem,simprocAttr] at h);(try with_reducible intro K hK);simp only [go_sem,simprocAttr])))|((first|((with_reducible apply wL);exact rfl)|((with_reducible apply wM);exact rfl));all_goals (try ((with_reducible intro h);first|(exact absurd h (by decide))|(try simp only [go_sem,simprocAttr] at h))))|omega|((first|fail);try simp only [go_sem,simprocAttr])|(intro h))
 all_goals (simp only [jF];first|exact eO (zW x)|simp [*])
theorem fA (ds:List D) (row:List It) (x:Int) (a b:Nat) (hab:a≤b) (hb:b≤row.length) (hl:row.length≤1000000):Spec Tryz.prog 138 (Args [.d (.pt (sT row::ds)),eN x,eN a,eN b]) [] (eB (oZ row x a b)) []:=by
 have CS:sT ((row.take b).drop a)= .sl 3 (((row.map rT).take b).drop a):=by simp [sT,List.map_take,List.map_drop]
 have lB:((row.take b).drop a).length≤9223372036854775807:=by simp;omega
 (refine Spec.intro (C:=T.cfg [] []) (rs:= [.t 8]) (T.ak _ _) Tryz.func138 rfl rfl Tryz.ntmps138 Tryz.results138 (by simp [AObj.isNest]) (by simp [AObj.isNest]) (by kernel_rfl) ?_;intro X hX hP hC aK aL vals hA;refine ⟨_,by simp,hA, ?_⟩;have af:X.P.follows .mixedOrders=true:=(by rw [hP];exact T.mixed);clear aK aL)
 repeat' (first|fail|((first|((with_reducible (first|apply oA|apply oB));exact rfl;intro K hK)|(refine hK _ ?_;clear hK K)|((with_reducible (first|apply oG|apply oH));iterate 3 exact rfl)|((with_reducible apply oI);(iterate 2 exact rfl);intro K hK)|(with_reducible (first|apply wI|apply wJ|apply wK)));try simp only [go_sem,simprocAttr,List.map_take,List.map_drop])|fail|(with_reducible (first|apply oC|apply oJ|exact oK|apply wA|apply wB|apply wC hX hC|apply wD hX hC|apply wE hX hC af|apply wF hX hC af|apply wG|apply wH|apply And.intro))|((with_reducible refine oD ?_ ?_);first|fail|kernel_rfl)|((with_reducible (first|apply oE|apply oF));(iterate 3 exact rfl);all_goals (intro h;first|(exact absurd h (by decide))|((try simp only [go_sem,simprocAttr,List.map_take,List.map_drop] at h);(try with_reducible intro K hK);simp only [go_sem,simprocAttr,List.map_take,List.map_drop])))|((first|((with_reducible apply wL);exact rfl)|((with_reducible apply wM);exact rfl));all_goals (try ((with_reducible intro h);first|(exact absurd h (by decide))|(try simp only [go_sem,simprocAttr,List.map_take,List.map_drop] at h))))|omega|((first|(refine cm hX hC hP [(10000,5)] (lZ (zW x) _ [.ptr 10000 0] (jF x) ((row.take b).drop a) (fun t _=>xP x t) lB) rfl rfl rfl ?_ ?_ ?_ ?_ ?_ ?_ rfl rfl ?_ ?_;(focus (simp only [go_sem,simprocAttr,List.map_take,List.map_drop];done));(iterate 6 (focus (simp [go_sem,simprocAttr,List.map_take,List.map_drop];done)));simp only [go_sem,simprocAttr,List.map_take,List.map_drop,List.map_cons,List.map_nil]));try simp only [go_sem,simprocAttr,List.map_take,List.map_drop])|(intro h))
 rfl
end Go.Ab
end
section
namespace Go.Ab
open Go.Proofs
attribute [local congr] ACall.congr
set_option maxRecDepth 10000
set_option maxHeartbeats 2000000
def fB (g:Gr) (f:Fr) (x:Int):Bool:=
 if x<0∨g.n≤x∨x∈f.pl then false else
 decide ((aU f.row x).2.2=((bf (·.2) g x).length:Int))&&(decide ((bf (·.2) g x).length=0)||oZ f.row x (aU f.row x).1.toNat (aU f.row x).2.1.toNat)
theorem xQ {f:Edge→Int} {g:Gr} {x:Int} :(bf f g x).length≤g.es.length:=by
 unfold bf
 split
 ·exact gy
 ·simp
theorem l9 (g:Gr) (hm:aO g=true) (f:Fr) (x:Int) (hr:f.row.length≤1000000) (fT:f.pl.length≤1000000):Spec Tryz.prog 112 (Args [.d (eY g f),eN x]) [] (eB (fB g f x)) []:=by
 have hp:f.pl.length≤9223372036854775807:=by omega
 have hn:=aW hm
 unfold eY
 by_cases hx:x<0∨g.n≤x∨x∈f.pl
 ·have hR:fB g f x=false:=if_pos hx
  (refine Spec.intro (C:=T.cfg [] []) (rs:= [.t 4]) (T.ak _ _) Tryz.func112 rfl rfl Tryz.ntmps112 Tryz.results112 (by simp [AObj.isNest]) (by simp [AObj.isNest]) (by kernel_rfl) ?_;intro X hX hP hC aK aL vals hA;refine ⟨_,by simp,hA, ?_⟩;have af:X.P.follows .mixedOrders=true:=(by rw [hP];exact T.mixed);clear aK aL)
  by_cases h1:x<0
  ·have au:decide (x<0)=true:=decide_eq_true h1
   repeat' (first|fail|((first|((with_reducible (first|apply oA|apply oB));exact rfl;intro K hK)|(refine hK _ ?_;clear hK K)|((with_reducible (first|apply oG|apply oH));iterate 3 exact rfl)|((with_reducible apply oI);(iterate 2 exact rfl);intro K hK)|(with_reducible (first|apply wI|apply wJ|apply wK)));try simp only [go_sem,simprocAttr,ah,hR,au])|fail|(with_reducible (first|apply oC|apply oJ|exact oK|apply wA|apply wB|apply wC hX hC|apply wD hX hC|apply wE hX hC af|apply wF hX hC af|apply wG|apply wH|apply And.intro))|((with_reducible refine oD ?_ ?_);first|fail|kernel_rfl)|((with_reducible (first|apply oE|apply oF));(iterate 3 exact rfl);all_goals (intro h;first|(exact absurd h (by decide))|((try simp only [go_sem,simprocAttr,ah,hR,au] at h);(try with_reducible intro K hK);simp only [go_sem,simprocAttr,ah,hR,au])))|((first|((with_reducible apply wL);exact rfl)|((with_reducible apply wM);exact rfl));all_goals (try ((with_reducible intro h);first|(exact absurd h (by decide))|(try simp only [go_sem,simprocAttr,ah,hR,au] at h))))|omega|((first|first|refine aa hX hC hP (gN g hm x) rfl rfl rfl (by simp only [go_sem,simprocAttr,ah,hR,au]) rfl ?_|refine aa hX hC hP (aZ f.pl x hp) rfl rfl rfl (by simp only [go_sem,simprocAttr,ah,hR,au]) rfl ?_|refine aa hX hC hP (dH [vw g,sI f.pl] f.row x hr) rfl rfl rfl (by simp only [go_sem,simprocAttr,ah,hR,au]) rfl ?_|refine aa hX hC hP (fA [vw g,sI f.pl] f.row x a b hab iM hr) rfl rfl rfl (by simp only [go_sem,simprocAttr,ah,hR,au]) rfl ?_);try simp only [go_sem,simprocAttr,ah,hR,au])|(intro h))
  have au:decide (x<0)=false:=decide_eq_false h1
  by_cases h2:g.n≤x
  ·have an:decide (g.n≤x)=true:=decide_eq_true h2
   repeat' (first|fail|((first|((with_reducible (first|apply oA|apply oB));exact rfl;intro K hK)|(refine hK _ ?_;clear hK K)|((with_reducible (first|apply oG|apply oH));iterate 3 exact rfl)|((with_reducible apply oI);(iterate 2 exact rfl);intro K hK)|(with_reducible (first|apply wI|apply wJ|apply wK)));try simp only [go_sem,simprocAttr,ah,hR,au,an])|fail|(with_reducible (first|apply oC|apply oJ|exact oK|apply wA|apply wB|apply wC hX hC|apply wD hX hC|apply wE hX hC af|apply wF hX hC af|apply wG|apply wH|apply And.intro))|((with_reducible refine oD ?_ ?_);first|fail|kernel_rfl)|((with_reducible (first|apply oE|apply oF));(iterate 3 exact rfl);all_goals (intro h;first|(exact absurd h (by decide))|((try simp only [go_sem,simprocAttr,ah,hR,au,an] at h);(try with_reducible intro K hK);simp only [go_sem,simprocAttr,ah,hR,au,an])))|((first|((with_reducible apply wL);exact rfl)|((with_reducible apply wM);exact rfl));all_goals (try ((with_reducible intro h);first|(exact absurd h (by decide))|(try simp only [go_sem,simprocAttr,ah,hR,au,an] at h))))|omega|((first|first|refine aa hX hC hP (gN g hm x) rfl rfl rfl (by simp only [go_sem,simprocAttr,ah,hR,au,an]) rfl ?_|refine aa hX hC hP (aZ f.pl x hp) rfl rfl rfl (by simp only [go_sem,simprocAttr,ah,hR,au,an]) rfl ?_|refine aa hX hC hP (dH [vw g,sI f.pl] f.row x hr) rfl rfl rfl (by simp only [go_sem,simprocAttr,ah,hR,au,an]) rfl ?_|refine aa hX hC hP (fA [vw g,sI f.pl] f.row x a b hab iM hr) rfl rfl rfl (by simp only [go_sem,simprocAttr,ah,hR,au,an]) rfl ?_);try simp only [go_sem,simprocAttr,ah,hR,au,an])|(intro h))
  have an:decide (g.n≤x)=false:=decide_eq_false h2
  have h3:x∈f.pl:=by rcases hx with h|h|h;exact absurd h h1;exact absurd h h2;exact h
  have cx:decide (x∈f.pl)=true:=decide_eq_true h3
  repeat' (first|fail|((first|((with_reducible (first|apply oA|apply oB));exact rfl;intro K hK)|(refine hK _ ?_;clear hK K)|((with_reducible (first|apply oG|apply oH));iterate 3 exact rfl)|((with_reducible apply oI);(iterate 2 exact rfl);intro K hK)|(with_reducible (first|apply wI|apply wJ|apply wK)));try simp only [go_sem,simprocAttr,ah,hR,au,an,cx])|fail|(with_reducible (first|apply oC|apply oJ|exact oK|apply wA|apply wB|apply wC hX hC|apply wD hX hC|apply wE hX hC af|apply wF hX hC af|apply wG|apply wH|apply And.intro))|((with_reducible refine oD ?_ ?_);first|fail|kernel_rfl)|((with_reducible (first|apply oE|apply oF));(iterate 3 exact rfl);all_goals (intro h;first|(exact absurd h (by decide))|((try simp only [go_sem,simprocAttr,ah,hR,au,an,cx] at h);(try with_reducible intro K hK);simp only [go_sem,simprocAttr,ah,hR,au,an,cx])))|((first|((with_reducible apply wL);exact rfl)|((with_reducible apply wM);exact rfl));all_goals (try ((with_reducible intro h);first|(exact absurd h (by decide))|(try simp only [go_sem,simprocAttr,ah,hR,au,an,cx] at h))))|omega|((first|first|refine aa hX hC hP (gN g hm x) rfl rfl rfl (by simp only [go_sem,simprocAttr,ah,hR,au,an,cx]) rfl ?_|refine aa hX hC hP (aZ f.pl x hp) rfl rfl rfl (by simp only [go_sem,simprocAttr,ah,hR,au,an,cx]) rfl ?_|refine aa hX hC hP (dH [vw g,sI f.pl] f.row x hr) rfl rfl rfl (by simp only [go_sem,simprocAttr,ah,hR,au,an,cx]) rfl ?_|refine aa hX hC hP (fA [vw g,sI f.pl] f.row x a b hab iM hr) rfl rfl rfl (by simp only [go_sem,simprocAttr,ah,hR,au,an,cx]) rfl ?_);try simp only [go_sem,simprocAttr,ah,hR,au,an,cx])|(intro h))
 ·have au:decide (x<0)=false:=decide_eq_false fun h=>hx (.inl h)
  have an:decide (g.n≤x)=false:=decide_eq_false fun h=>hx (.inr (.inl h))
  have cx:decide (x∈f.pl)=false:=decide_eq_false fun h=>hx (.inr (.inr h))
  have hR:fB g f x=(decide ((aU f.row x).2.2=((bf (·.2) g x).length:Int))&&(decide ((bf (·.2) g x).length=0)||oZ f.row x (aU f.row x).1.toNat (aU f.row x).2.1.toNat)):=if_neg hx
  by_cases h4:(aU f.row x).2.2=((bf (·.2) g x).length:Int)
  ·have hb4:decide ((aU f.row x).2.2=((bf (·.2) g x).length:Int))=true:=decide_eq_true h4
   by_cases h5:(bf (·.2) g x).length=0
   ·have uK:decide (((bf (·.2) g x).length:Int)=0)=true:=decide_eq_true (by omega)
    rw [hb4,decide_eq_true h5] at hR
    (refine Spec.intro (C:=T.cfg [] []) (rs:= [.t 4]) (T.ak _ _) Tryz.func112 rfl rfl Tryz.ntmps112 Tryz.results112 (by simp [AObj.isNest]) (by simp [AObj.isNest]) (by kernel_rfl) ?_;intro X hX hP hC aK aL vals hA;refine ⟨_,by simp,hA, ?_⟩;have af:X.P.follows .mixedOrders=true:=(by rw [hP];exact T.mixed);clear aK aL)
    repeat' (first|fail|((first|((with_reducible (first|apply oA|apply oB));exact rfl;intro K hK)|(refine hK _ ?_;clear hK K)|((with_reducible (first|apply oG|apply oH));iterate 3 exact rfl)|((with_reducible apply oI);(iterate 2 exact rfl);intro K hK)|(with_reducible (first|apply wI|apply wJ|apply wK)));try simp only [go_sem,simprocAttr,ah,hR,au,an,cx,hb4,uK])|fail|(with_reducible (first|apply oC|apply oJ|exact oK|apply wA|apply wB|apply wC hX hC|apply wD hX hC|apply wE hX hC af|apply wF hX hC af|apply wG|apply wH|apply And.intro))|((with_reducible refine oD ?_ ?_);first|fail|kernel_rfl)|((with_reducible (first|apply oE|apply oF));(iterate 3 exact rfl);all_goals (intro h;first|(exact absurd h (by decide))|((try simp only [go_sem,simprocAttr,ah,hR,au,an,cx,hb4,uK] at h);(try with_reducible intro K hK);simp only [go_sem,simprocAttr,ah,hR,au,an,cx,hb4,uK])))|((first|((with_reducible apply wL);exact rfl)|((with_reducible apply wM);exact rfl));all_goals (try ((with_reducible intro h);first|(exact absurd h (by decide))|(try simp only [go_sem,simprocAttr,ah,hR,au,an,cx,hb4,uK] at h))))|omega|((first|first|refine aa hX hC hP (gN g hm x) rfl rfl rfl (by simp only [go_sem,simprocAttr,ah,hR,au,an,cx,hb4,uK]) rfl ?_|refine aa hX hC hP (aZ f.pl x hp) rfl rfl rfl (by simp only [go_sem,simprocAttr,ah,hR,au,an,cx,hb4,uK]) rfl ?_|refine aa hX hC hP (dH [vw g,sI f.pl] f.row x hr) rfl rfl rfl (by simp only [go_sem,simprocAttr,ah,hR,au,an,cx,hb4,uK]) rfl ?_|refine aa hX hC hP (fA [vw g,sI f.pl] f.row x a b hab iM hr) rfl rfl rfl (by simp only [go_sem,simprocAttr,ah,hR,au,an,cx,hb4,uK]) rfl ?_);try simp only [go_sem,simprocAttr,ah,hR,au,an,cx,hb4,uK])|(intro h))
   ·have uK:decide (((bf (·.2) g x).length:Int)=0)=false:=decide_eq_false (by omega)
    rcases dQ (row:=f.row) (x:=x) f.row.length with ⟨h6,_⟩|⟨a,b,c,h6,hab,iM,_⟩
    ·exfalso
     have:(aU f.row x).2.2=0:=by unfold aU;rw [h6]
     omega
    ·have hsp:aU f.row x=((a:Int),(b:Int),(c:Int)):=h6
     have hab:a≤b:=by omega
     rw [hb4,decide_eq_false h5,hsp] at hR
     simp only [Bool.true_and,Bool.false_or,Int.toNat_natCast] at hR
     rw [hsp] at hb4
     (refine Spec.intro (C:=T.cfg [] []) (rs:= [.t 4]) (T.ak _ _) Tryz.func112 rfl rfl Tryz.ntmps112 Tryz.results112 (by simp [AObj.isNest]) (by simp [AObj.isNest]) (by kernel_rfl) ?_;intro X hX hP hC aK aL vals hA;refine ⟨_,by simp,hA, ?_⟩;have af:X.P.follows .mixedOrders=true:=(by rw [hP];exact T.mixed);clear aK aL)
     repeat' (first|fail|((first|((with_reducible (first|apply oA|apply oB));exact rfl;intro K hK)|(refine hK _ ?_;clear hK K)|((with_reducible (first|apply oG|apply oH));iterate 3 exact rfl)|((with_reducible apply oI);(iterate 2 exact rfl);intro K hK)|(with_reducible (first|apply wI|apply wJ|apply wK)));try simp only [go_sem,simprocAttr,ah,hR,au,an,cx,hb4,uK,hsp])|fail|(with_reducible (first|apply oC|apply oJ|exact oK|apply wA|apply wB|apply wC hX hC|apply wD hX hC|apply wE hX hC af|apply wF hX hC af|apply wG|apply wH|apply And.intro))|((with_reducible refine oD ?_ ?_);first|fail|kernel_rfl)|((with_reducible (first|apply oE|apply oF));(iterate 3 exact rfl);all_goals (intro h;first|(exact absurd h (by decide))|((try simp only [go_sem,simprocAttr,ah,hR,au,an,cx,hb4,uK,hsp] at h);(try with_reducible intro K hK);simp only [go_sem,simprocAttr,ah,hR,au,an,cx,hb4,uK,hsp])))|((first|((with_reducible apply wL);exact rfl)|((with_reducible apply wM);exact rfl));all_goals (try ((with_reducible intro h);first|(exact absurd h (by decide))|(try simp only [go_sem,simprocAttr,ah,hR,au,an,cx,hb4,uK,hsp] at h))))|omega|((first|first|refine aa hX hC hP (gN g hm x) rfl rfl rfl (by simp only [go_sem,simprocAttr,ah,hR,au,an,cx,hb4,uK,hsp]) rfl ?_|refine aa hX hC hP (aZ f.pl x hp) rfl rfl rfl (by simp only [go_sem,simprocAttr,ah,hR,au,an,cx,hb4,uK,hsp]) rfl ?_|refine aa hX hC hP (dH [vw g,sI f.pl] f.row x hr) rfl rfl rfl (by simp only [go_sem,simprocAttr,ah,hR,au,an,cx,hb4,uK,hsp]) rfl ?_|refine aa hX hC hP (fA [vw g,sI f.pl] f.row x a b hab iM hr) rfl rfl rfl (by simp only [go_sem,simprocAttr,ah,hR,au,an,cx,hb4,uK,hsp]) rfl ?_);try simp only [go_sem,simprocAttr,ah,hR,au,an,cx,hb4,uK,hsp])|(intro h))
  ·have hb4:decide ((aU f.row x).2.2=((bf (·.2) g x).length:Int))=false:=decide_eq_false h4
   rw [hb4,Bool.false_and] at hR
   (refine Spec.intro (C:=T.cfg [] []) (rs:= [.t 4]) (T.ak _ _) Tryz.func112 rfl rfl Tryz.ntmps112 Tryz.results112 (by simp [AObj.isNest]) (by simp [AObj.isNest]) (by kernel_rfl) ?_;intro X hX hP hC aK aL vals hA;refine ⟨_,by simp,hA, ?_⟩;have af:X.P.follows .mixedOrders=true:=(by rw [hP];exact T.mixed);clear aK aL)
   repeat' (first|fail|((first|((with_reducible (first|apply oA|apply oB));exact rfl;intro K hK)|(refine hK _ ?_;clear hK K)|((with_reducible (first|apply oG|apply oH));iterate 3 exact rfl)|((with_reducible apply oI);(iterate 2 exact rfl);intro K hK)|(with_reducible (first|apply wI|apply wJ|apply wK)));try simp only [go_sem,simprocAttr,ah,hR,au,an,cx,hb4])|fail|(with_reducible (first|apply oC|apply oJ|exact oK|apply wA|apply wB|apply wC hX hC|apply wD hX hC|apply wE hX hC af|apply wF hX hC af|apply wG|apply wH|apply And.intro))|((with_reducible refine oD ?_ ?_);first|fail|kernel_rfl)|((with_reducible (first|apply oE|apply oF));(iterate 3 exact rfl);all_goals (intro h;first|(exact absurd h (by decide))|((try simp only [go_sem,simprocAttr,ah,hR,au,an,cx,hb4] at h);(try with_reducible intro K hK);simp only [go_sem,simprocAttr,ah,hR,au,an,cx,hb4])))|((first|((with_reducible apply wL);exact rfl)|((with_reducible apply wM);exact rfl));all_goals (try ((with_reducible intro h);first|(exact absurd h (by decide))|(try simp only [go_sem,simprocAttr,ah,hR,au,an,cx,hb4] at h))))|omega|((first|first|refine aa hX hC hP (gN g hm x) rfl rfl rfl (by simp only [go_sem,simprocAttr,ah,hR,au,an,cx,hb4]) rfl ?_|refine aa hX hC hP (aZ f.pl x hp) rfl rfl rfl (by simp only [go_sem,simprocAttr,ah,hR,au,an,cx,hb4]) rfl ?_|refine aa hX hC hP (dH [vw g,sI f.pl] f.row x hr) rfl rfl rfl (by simp only [go_sem,simprocAttr,ah,hR,au,an,cx,hb4]) rfl ?_|refine aa hX hC hP (fA [vw g,sI f.pl] f.row x a b hab iM hr) rfl rfl rfl (by simp only [go_sem,simprocAttr,ah,hR,au,an,cx,hb4]) rfl ?_);try simp only [go_sem,simprocAttr,ah,hR,au,an,cx,hb4])|(intro h))
theorem zX (ds:List D) (row:List It) (hr:row.length≤1000000):Spec Tryz.prog 87 (Args [.d (.pt (sT row::ds))]) [] (.ref 10000) [(10000, .tip 96 3 (row.map rT))]:=by
 (refine Spec.eL (C:=T.cfg [] []) (rs:= [.t 2]) [(10000,7)] (T.ak _ _) Tryz.func87 rfl rfl Tryz.ntmps87 Tryz.results87 (by simp [AObj.isNest]) (by simp [AObj.isNest]) (by first|(simp [look];done)|(simp [asN];done)|(intro l hl;simp only [asN];repeat (rw [if_neg (fun e=>by subst e;simp [look] at hl)]))) (by first|(simp [look];done)|(simp [asN];done)|(intro l hl;simp only [asN];repeat (rw [if_neg (fun e=>by subst e;simp [look] at hl)]))) (by kernel_rfl) ?_;intro X hX hP hC aK aL vals hA;refine ⟨_,by simp,hA, ?_⟩;have af:X.P.follows .mixedOrders=true:=(by rw [hP];exact T.mixed);clear aK aL)
 repeat' (first|fail|((first|((with_reducible (first|apply oA|apply oB));exact rfl;intro K hK)|(refine hK _ ?_;clear hK K)|((with_reducible (first|apply oG|apply oH));iterate 3 exact rfl)|((with_reducible apply oI);(iterate 2 exact rfl);intro K hK)|(with_reducible (first|apply wI|apply wJ|apply wK)));try simp only [go_sem,simprocAttr])|fail|(with_reducible (first|apply oC|apply oJ|exact oK|apply wA|apply wB|apply wC hX hC|apply wD hX hC|apply wE hX hC af|apply wF hX hC af|apply wG|apply wH|apply And.intro))|((with_reducible refine oD ?_ ?_);first|fail|kernel_rfl)|((with_reducible (first|apply oE|apply oF));(iterate 3 exact rfl);all_goals (intro h;first|(exact absurd h (by decide))|((try simp only [go_sem,simprocAttr] at h);(try with_reducible intro K hK);simp only [go_sem,simprocAttr])))|((first|((with_reducible apply wL);exact rfl)|((with_reducible apply wM);exact rfl));all_goals (try ((with_reducible intro h);first|(exact absurd h (by decide))|(try simp only [go_sem,simprocAttr] at h))))|omega|((first|(refine az hX hC hP [(10000,7)] (oY row hr) rfl rfl rfl ?_ ?_ ?_ ?_ ?_ ?_ ?_ ?_ ?_ ?_ ?_ ?_ ?_ ?_;(focus (simp only [go_sem,simprocAttr];done));(iterate 12 (focus (simp [go_sem,simprocAttr];done)));simp only [go_sem,simprocAttr,List.map_cons,List.map_nil]));try simp only [go_sem,simprocAttr])|(intro h))
end Go.Ab
end
section
namespace Go.Ab
open Go.Proofs
attribute [local congr] ACall.congr
set_option maxRecDepth 10000
set_option maxHeartbeats 2000000
theorem bZ (l:List Int):Spec Tryz.prog 110 (Args [.d (sI l)]) [] (.fn 137 [] [.ptr 10000 0]) [(10000, .box [.d (sI l)])]:=by
 (refine Spec.eL (C:=T.cfg [] []) (rs:= [.t 2]) [(10000,1)] (T.ak _ _) Tryz.func110 rfl rfl Tryz.ntmps110 Tryz.results110 (by simp [AObj.isNest]) (by simp [AObj.isNest]) (by first|(simp [look];done)|(simp [asN];done)|(intro l hl;simp only [asN];repeat (rw [if_neg (fun e=>by subst e;simp [look] at hl)]))) (by first|(simp [look];done)|(simp [asN];done)|(intro l hl;simp only [asN];repeat (rw [if_neg (fun e=>by subst e;simp [look] at hl)]))) (by kernel_rfl) ?_;intro X hX hP hC aK aL vals hA;refine ⟨_,by simp,hA, ?_⟩;have af:X.P.follows .mixedOrders=true:=(by rw [hP];exact T.mixed);clear aK aL)
 repeat' (first|fail|((first|((with_reducible (first|apply oA|apply oB));exact rfl;intro K hK)|(refine hK _ ?_;clear hK K)|((with_reducible (first|apply oG|apply oH));iterate 3 exact rfl)|((with_reducible apply oI);(iterate 2 exact rfl);intro K hK)|(with_reducible (first|apply wI|apply wJ|apply wK)));try simp only [go_sem,simprocAttr])|fail|(with_reducible (first|apply oC|apply oJ|exact oK|apply wA|apply wB|apply wC hX hC|apply wD hX hC|apply wE hX hC af|apply wF hX hC af|apply wG|apply wH|apply And.intro))|((with_reducible refine oD ?_ ?_);first|fail|kernel_rfl)|((with_reducible (first|apply oE|apply oF));(iterate 3 exact rfl);all_goals (intro h;first|(exact absurd h (by decide))|((try simp only [go_sem,simprocAttr] at h);(try with_reducible intro K hK);simp only [go_sem,simprocAttr])))|((first|((with_reducible apply wL);exact rfl)|((with_reducible apply wM);exact rfl));all_goals (try ((with_reducible intro h);first|(exact absurd h (by decide))|(try simp only [go_sem,simprocAttr] at h))))|omega|((first|fail);try simp only [go_sem,simprocAttr])|(intro h))
theorem eA (xs ys:List Int) (hlen:xs.length≤9223372036854775807):Spec Tryz.prog 111 (Args [.d (sI xs), .d (sI ys)]) [] (eB (decide (xs=ys))) []:=by
 (refine Spec.intro (C:=T.cfg [] []) (rs:= [.t 4]) (T.ak _ _) Tryz.func111 rfl rfl Tryz.ntmps111 Tryz.results111 (by simp [AObj.isNest]) (by simp [AObj.isNest]) (by kernel_rfl) ?_;intro X hX hP hC aK aL vals hA;refine ⟨_,by simp,hA, ?_⟩;have af:X.P.follows .mixedOrders=true:=(by rw [hP];exact T.mixed);clear aK aL)
 repeat' (first|fail|((first|((with_reducible (first|apply oA|apply oB));exact rfl;intro K hK)|(refine hK _ ?_;clear hK K)|((with_reducible (first|apply oG|apply oH));iterate 3 exact rfl)|((with_reducible apply oI);(iterate 2 exact rfl);intro K hK)|(with_reducible (first|apply wI|apply wJ|apply wK)));try simp only [go_sem,simprocAttr])|fail|(with_reducible (first|apply oC|apply oJ|exact oK|apply wA|apply wB|apply wC hX hC|apply wD hX hC|apply wE hX hC af|apply wF hX hC af|apply wG|apply wH|apply And.intro))|((with_reducible refine oD ?_ ?_);first|fail|kernel_rfl)|((with_reducible (first|apply oE|apply oF));(iterate 3 exact rfl);all_goals (intro h;first|(exact absurd h (by decide))|((try simp only [go_sem,simprocAttr] at h);(try with_reducible intro K hK);simp only [go_sem,simprocAttr])))|((first|((with_reducible apply wL);exact rfl)|((with_reducible apply wM);exact rfl));all_goals (try ((with_reducible intro h);first|(exact absurd h (by decide))|(try simp only [go_sem,simprocAttr] at h))))|omega|((first|fail);try simp only [go_sem,simprocAttr])|(intro h))
 ·have:xs≠ys:=fun e=>h (by rw [e])
  simp [this]
 refine aj (fun k:Nat=>k≤xs.length∧xs.take k=ys.take k) (fun k=>⟨[(0, .d (sI xs)),(1, .d (sI ys)),(12,eN xs.length),(13,eN k)], []⟩) (fun k=>xs.length - k) 0 (by simp) ?_ ?_
 ·(refine ⟨bV ?_,fun _ _ h=>h⟩;simp [go_sem,simprocAttr])
 rintro k ⟨hk,hp⟩
 have zh:xs.length=ys.length:=by omega
 repeat' (first|fail|((first|((with_reducible (first|apply oA|apply oB));exact rfl;intro K hK)|(refine hK _ ?_;clear hK K)|((with_reducible (first|apply oG|apply oH));iterate 3 exact rfl)|((with_reducible apply oI);(iterate 2 exact rfl);intro K hK)|(with_reducible (first|apply wI|apply wJ|apply wK)));try simp only [go_sem,simprocAttr])|fail|(with_reducible (first|apply oC|apply oJ|exact oK|apply wA|apply wB|apply wC hX hC|apply wD hX hC|apply wE hX hC af|apply wF hX hC af|apply wG|apply wH|apply And.intro))|((with_reducible refine oD ?_ ?_);first|fail|kernel_rfl)|((with_reducible (first|apply oE|apply oF));(iterate 3 exact rfl);all_goals (intro h;first|(exact absurd h (by decide))|((try simp only [go_sem,simprocAttr] at h);(try with_reducible intro K hK);simp only [go_sem,simprocAttr])))|((first|((with_reducible apply wL);exact rfl)|((with_reducible apply wM);exact rfl));all_goals (try ((with_reducible intro h);first|(exact absurd h (by decide))|(try simp only [go_sem,simprocAttr] at h))))|omega|((first|fail);try simp only [go_sem,simprocAttr])|(intro h))
 ·have:xs≠ys:=fun e=>h (by rw [e])
  simp [this]
 ·refine ⟨k+1,⟨by omega,sS 0 (by omega) (by omega) hp h⟩, ?_,by omega⟩
  (refine ⟨bV ?_,fun _ _ h=>h⟩;simp [go_sem,simprocAttr])
 ·have:k=xs.length:=by omega
  subst this
  rw [List.take_of_length_le (Nat.le_refl _),List.take_of_length_le (by omega)] at hp
  simp [hp]
def ia (g:Gr) (x:Int) (i:Int):It:=(i,x,(g.es.getD i.toNat (0,0)).2)
def aV (g:Gr) (x:Int) (outs:List Int):List It:=if outs= [] then [(-1,x, -1)] else outs.map (ia g x)
theorem rC {α β:Type} {f:α→β} {l:List α} {d:α} {k:Nat} (h:k<l.length):(l.take (k+1)).map f=(l.take k).map f++ [f (l.getD k d)]:=by
 rw [List.take_add_one,List.map_append,List.getElem?_eq_getElem h,List.getD_eq_getElem?_getD,List.getElem?_eq_getElem h]
 rfl
theorem xR (g:Gr) (f:Fr) (x:Int) (outs:List Int) (hl:outs.length≤1000000) (ho:∀i∈outs,0≤i∧i<g.es.length):Spec Tryz.prog 115 (Args [.d (eY g f),eN x, .d (sI outs)]) [] (.ref 10000) [(10000, .tip 96 3 ((aV g x outs).map rT))]:=by
 unfold eY
 by_cases h0:outs= []
 ·subst h0
  have hA:aV g x []= [(-1,x, -1)]:=if_pos rfl
  rw [hA]
  (refine Spec.eL (C:=T.cfg [] []) (rs:= [.t 6]) [(10000,14)] (T.ak _ _) Tryz.func115 rfl rfl Tryz.ntmps115 Tryz.results115 (by simp [AObj.isNest]) (by simp [AObj.isNest]) (by first|(simp [look];done)|(simp [asN];done)|(intro l hl;simp only [asN];repeat (rw [if_neg (fun e=>by subst e;simp [look] at hl)]))) (by first|(simp [look];done)|(simp [asN];done)|(intro l hl;simp only [asN];repeat (rw [if_neg (fun e=>by subst e;simp [look] at hl)]))) (by kernel_rfl) ?_;intro X hX hP hC aK aL vals hA;refine ⟨_,by simp,hA, ?_⟩;have af:X.P.follows .mixedOrders=true:=(by rw [hP];exact T.mixed);clear aK aL)
  repeat' (first|fail|((first|((with_reducible (first|apply oA|apply oB));exact rfl;intro K hK)|(refine hK _ ?_;clear hK K)|((with_reducible (first|apply oG|apply oH));iterate 3 exact rfl)|((with_reducible apply oI);(iterate 2 exact rfl);intro K hK)|(with_reducible (first|apply wI|apply wJ|apply wK)));try simp only [go_sem,simprocAttr,ah])|fail|(with_reducible (first|apply oC|apply oJ|exact oK|apply wA|apply wB|apply wC hX hC|apply wD hX hC|apply wE hX hC af|apply wF hX hC af|apply wG|apply wH|apply And.intro))|((with_reducible refine oD ?_ ?_);first|fail|kernel_rfl)|((with_reducible (first|apply oE|apply oF));(iterate 3 exact rfl);all_goals (intro h;first|(exact absurd h (by decide))|((try simp only [go_sem,simprocAttr,ah] at h);(try with_reducible intro K hK);simp only [go_sem,simprocAttr,ah])))|((first|((with_reducible apply wL);exact rfl)|((with_reducible apply wM);exact rfl));all_goals (try ((with_reducible intro h);first|(exact absurd h (by decide))|(try simp only [go_sem,simprocAttr,ah] at h))))|omega|((first|fail);try simp only [go_sem,simprocAttr,ah])|(intro h))
 ·have hA:aV g x outs=outs.map (ia g x):=if_neg h0
  rw [hA]
  have hb0:decide ((outs.length:Int)=0)=false:=decide_eq_false fun h=>h0 (List.eq_nil_of_length_eq_zero (by omega))
  (refine Spec.eL (C:=T.cfg [] []) (rs:= [.t 6]) [(10000,38)] (T.ak _ _) Tryz.func115 rfl rfl Tryz.ntmps115 Tryz.results115 (by simp [AObj.isNest]) (by simp [AObj.isNest]) (by first|(simp [look];done)|(simp [asN];done)|(intro l hl;simp only [asN];repeat (rw [if_neg (fun e=>by subst e;simp [look] at hl)]))) (by first|(simp [look];done)|(simp [asN];done)|(intro l hl;simp only [asN];repeat (rw [if_neg (fun e=>by subst e;simp [look] at hl)]))) (by kernel_rfl) ?_;intro X hX hP hC aK aL vals hA;refine ⟨_,by simp,hA, ?_⟩;have af:X.P.follows .mixedOrders=true:=(by rw [hP];exact T.mixed);clear aK aL)
  repeat' (first|fail|((first|((with_reducible (first|apply oA|apply oB));exact rfl;intro K hK)|(refine hK _ ?_;clear hK K)|((with_reducible (first|apply oG|apply oH));iterate 3 exact rfl)|((with_reducible apply oI);(iterate 2 exact rfl);intro K hK)|(with_reducible (first|apply wI|apply wJ|apply wK)));try simp only [go_sem,simprocAttr,ah,hb0])|fail|(with_reducible (first|apply oC|apply oJ|exact oK|apply wA|apply wB|apply wC hX hC|apply wD hX hC|apply wE hX hC af|apply wF hX hC af|apply wG|apply wH|apply And.intro))|((with_reducible refine oD ?_ ?_);first|fail|kernel_rfl)|((with_reducible (first|apply oE|apply oF));(iterate 3 exact rfl);all_goals (intro h;first|(exact absurd h (by decide))|((try simp only [go_sem,simprocAttr,ah,hb0] at h);(try with_reducible intro K hK);simp only [go_sem,simprocAttr,ah,hb0])))|((first|((with_reducible apply wL);exact rfl)|((with_reducible apply wM);exact rfl));all_goals (try ((with_reducible intro h);first|(exact absurd h (by decide))|(try simp only [go_sem,simprocAttr,ah,hb0] at h))))|omega|((first|fail);try simp only [go_sem,simprocAttr,ah,hb0])|(intro h))
  (refine jA hX 6 38 (.tip 96 3 []) (by simp only [go_sem,simprocAttr,ah,hb0]) (by simp only [go_sem,simprocAttr,ah,hb0]) (by decide) ⟨96,3,by decide, .inr rfl⟩ ?_;simp only [go_sem,simprocAttr,ah,hb0])
  refine aj (fun k:Nat=>k≤outs.length) (fun k=>⟨[(0, .d (eY g f)),(1,eN x),(15, .d (sI outs)),(16,eN outs.length),(17,eN k),(6, .ref 38)], [(38, .tip 96 3 (((outs.take k).map (ia g x)).map rT))]⟩) (fun k=>outs.length - k) 0 (by omega) ?_ ?_
  ·refine Le.of ?_ ?_<;>simp [go_sem,simprocAttr,ah,hb0,eY]
  unfold eY
  rintro k hk
  rcases Nat.lt_or_ge k outs.length with hlt|hge
  ·have hb:decide ((k:Int)<(outs.length:Int))=true:=decide_eq_true (by omega)
   have fc:=rC (f:=ia g x) (d:=0) hlt
   have JQ:=ho _ (aY (d:=0) hlt)
   have hlk:(outs.take k).length=k:=by simp;omega
   repeat' (first|fail|((first|((with_reducible (first|apply oA|apply oB));exact rfl;intro K hK)|(refine hK _ ?_;clear hK K)|((with_reducible (first|apply oG|apply oH));iterate 3 exact rfl)|((with_reducible apply oI);(iterate 2 exact rfl);intro K hK)|(with_reducible (first|apply wI|apply wJ|apply wK)));try simp only [go_sem,simprocAttr,ah,hb,hlk])|fail|(with_reducible (first|apply oC|apply oJ|exact oK|apply wA|apply wB|apply wC hX hC|apply wD hX hC|apply wE hX hC af|apply wF hX hC af|apply wG|apply wH|apply And.intro))|((with_reducible refine oD ?_ ?_);first|fail|kernel_rfl)|((with_reducible (first|apply oE|apply oF));(iterate 3 exact rfl);all_goals (intro h;first|(exact absurd h (by decide))|((try simp only [go_sem,simprocAttr,ah,hb,hlk] at h);(try with_reducible intro K hK);simp only [go_sem,simprocAttr,ah,hb,hlk])))|((first|((with_reducible apply wL);exact rfl)|((with_reducible apply wM);exact rfl));all_goals (try ((with_reducible intro h);first|(exact absurd h (by decide))|(try simp only [go_sem,simprocAttr,ah,hb,hlk] at h))))|omega|((first|fail);try simp only [go_sem,simprocAttr,ah,hb,hlk])|(intro h))
   refine ⟨k+1,by omega, ?_,by omega⟩
   refine Le.of ?_ ?_<;>simp [go_sem,simprocAttr,ah,hb,hlk,fc,ia]
  ·have hb:decide ((k:Int)<(outs.length:Int))=false:=decide_eq_false (by omega)
   obtain rfl:k=outs.length:=by omega
   have ht:outs.take outs.length=outs:=List.take_of_length_le (by omega)
   repeat' (first|fail|((first|((with_reducible (first|apply oA|apply oB));exact rfl;intro K hK)|(refine hK _ ?_;clear hK K)|((with_reducible (first|apply oG|apply oH));iterate 3 exact rfl)|((with_reducible apply oI);(iterate 2 exact rfl);intro K hK)|(with_reducible (first|apply wI|apply wJ|apply wK)));try simp only [go_sem,simprocAttr,ah,hb,ht])|fail|(with_reducible (first|apply oC|apply oJ|exact oK|apply wA|apply wB|apply wC hX hC|apply wD hX hC|apply wE hX hC af|apply wF hX hC af|apply wG|apply wH|apply And.intro))|((with_reducible refine oD ?_ ?_);first|fail|kernel_rfl)|((with_reducible (first|apply oE|apply oF));(iterate 3 exact rfl);all_goals (intro h;first|(exact absurd h (by decide))|((try simp only [go_sem,simprocAttr,ah,hb,ht] at h);(try with_reducible intro K hK);simp only [go_sem,simprocAttr,ah,hb,ht])))|((first|((with_reducible apply wL);exact rfl)|((with_reducible apply wM);exact rfl));all_goals (try ((with_reducible intro h);first|(exact absurd h (by decide))|(try simp only [go_sem,simprocAttr,ah,hb,ht] at h))))|omega|((first|fail);try simp only [go_sem,simprocAttr,ah,hb,ht])|(intro h))
def gT (g:Gr) (f:Fr):List (Nat × AObj):= [(10000, .box [.d (sT f.row), .d (vw g), .ref 10001]),(10001, .tip 3 1 (f.pl.map rI))]
theorem uL (row items:List It) (a b:Nat) (h0:0<items.length) (hr:row.length≤400000) (hi:items.length≤100000):Spec Tryz.prog 139 (Args [.d (.sl 1 [[.sl 3 (List.take a (row.map rT))], [.sl 3 (items.map rT)], [.sl 3 (List.drop b (row.map rT))]])]) [] (.d (sT (row.take a++items++row.drop b))) []:=by
 have hf: [row.take a,items,row.drop b].flatten=row.take a++items++row.drop b:=by simp
 have hlen: [row.take a,items,row.drop b].flatten.length=min a row.length+items.length+(row.length - b):=by simp;omega
 have:=uJ [row.take a,items,row.drop b] (by simp) (by omega) (by omega)
 rw [hf] at this
 simpa only [vT,List.map_cons,List.map_nil,sT,List.map_take,List.map_drop] using this
theorem zY (g:Gr) (row items:List It) (pl:List Int) (a b:Nat) (hab:a≤b) (hb:b≤row.length) (h0:0<items.length) (hr:row.length≤400000) (hi:items.length≤100000):
 Spec Tryz.prog 114 (Args [.ptr 10000 0,eN a,eN b, .ref 10003]) (gT g ⟨row,pl⟩++ [(10003, .tip 96 3 (items.map rT))]) (.d (sT ((row.take b).drop a))) (gT g ⟨row.take a++items++row.drop b,pl⟩):=by
 have mj:((row.take b).drop a).length≤1000000:=by simp;omega
 have uM:List.take row.length (row.map rT)=row.map rT:=List.take_of_length_le (by simp)
 unfold gT
 simp only [List.cons_append,List.nil_append]
 (refine Spec.intro (C:=T.cfg [] []) (rs:= [.t 8]) (T.ak _ _) Tryz.func114 rfl rfl Tryz.ntmps114 Tryz.results114 (by simp [AObj.isNest]) (by simp [AObj.isNest]) (by kernel_rfl) ?_;intro X hX hP hC aK aL vals hA;refine ⟨_,by simp,hA, ?_⟩;have af:X.P.follows .mixedOrders=true:=(by rw [hP];exact T.mixed);clear aK aL)
 repeat' (first|fail|((first|((with_reducible (first|apply oA|apply oB));exact rfl;intro K hK)|(refine hK _ ?_;clear hK K)|((with_reducible (first|apply oG|apply oH));iterate 3 exact rfl)|((with_reducible apply oI);(iterate 2 exact rfl);intro K hK)|(with_reducible (first|apply wI|apply wJ|apply wK)));try simp only [go_sem,simprocAttr,List.map_take,List.map_drop,uM])|fail|(with_reducible (first|apply oC|apply oJ|exact oK|apply wA|apply wB|apply wC hX hC|apply wD hX hC|apply wE hX hC af|apply wF hX hC af|apply wG|apply wH|apply And.intro))|((with_reducible refine oD ?_ ?_);first|fail|kernel_rfl)|((with_reducible (first|apply oE|apply oF));(iterate 3 exact rfl);all_goals (intro h;first|(exact absurd h (by decide))|((try simp only [go_sem,simprocAttr,List.map_take,List.map_drop,uM] at h);(try with_reducible intro K hK);simp only [go_sem,simprocAttr,List.map_take,List.map_drop,uM])))|((first|((with_reducible apply wL);exact rfl)|((with_reducible apply wM);exact rfl));all_goals (try ((with_reducible intro h);first|(exact absurd h (by decide))|(try simp only [go_sem,simprocAttr,List.map_take,List.map_drop,uM] at h))))|omega|((first|first|(refine az hX hC hP [(10000,17)] (oY ((row.take b).drop a) mj) rfl rfl rfl ?_ ?_ ?_ ?_ ?_ ?_ ?_ ?_ ?_ ?_ ?_ ?_ ?_ ?_;(focus (simp only [go_sem,simprocAttr,List.map_take,List.map_drop,uM];done));(iterate 12 (focus (simp [go_sem,simprocAttr,List.map_take,List.map_drop,uM];done)));simp only [go_sem,simprocAttr,List.map_take,List.map_drop,uM,List.map_cons,List.map_nil])|(refine aS hX hC hP (uL row items a b h0 hr hi) rfl rfl rfl ?_ ?_ rfl ?_;iterate 2 (focus (simp only [go_sem,simprocAttr,List.map_take,List.map_drop,uM];done))));try simp only [go_sem,simprocAttr,List.map_take,List.map_drop,uM])|(intro h))
end Go.Ab
end
section
namespace Go.Ab
open Go.Proofs
attribute [local congr] ACall.congr
set_option maxRecDepth 10000
set_option maxHeartbeats 4000000
def rD (g:Gr) (f:Fr):List (Nat × AObj):= [(10000, .box [.d (sT f.row), .d (vw g), .ref 10002]),(10002, .tip 3 1 (f.pl.map rI))]
def iE (g:Gr) (f:Fr) (x:Int) (outs:List Int):(List It × Int) × Fr:=
 if fB g f x=false then (([],3),f) else if fX outs≠bf (·.1) g x then (([],1),f) else
 (((f.row.take (aU f.row x).2.1.toNat).drop (max (aU f.row x).1 0).toNat,0),⟨f.row.take (max (aU f.row x).1 0).toNat++aV g x outs++f.row.drop (aU f.row x).2.1.toNat,f.pl++ [x]⟩)
theorem je {f:Edge→Int} {es:List Edge} {k:Nat} {x i:Int} (h:i∈aJ f es k x):(0≤i∧i<k)∧f (es.getD i.toNat (0,0))=x:=by
 simp only [aJ,List.mem_map,List.mem_filter,List.mem_range,decide_eq_true_eq] at h
 obtain ⟨j,⟨h1,h2⟩,rfl⟩:=h
 exact ⟨⟨Int.natCast_nonneg j,by simp;omega⟩,h2⟩
theorem xS {f:Edge→Int} {g:Gr} {x i:Int} (h:i∈bf f g x):(0≤i∧i<g.es.length)∧f (g.es.getD i.toNat (0,0))=x:=by
 unfold bf at h
 split at h
 ·exact je h
 ·cases h
theorem wg {l:List Int} {x:Int} :x∈fX l↔x∈l:=by simp [fX]
theorem tc (row:List It) (x:Int):∃a b:Nat,max (aU row x).1 0=(a:Int)∧(aU row x).2.1=(b:Int)∧a≤b∧b≤row.length:=by
 rcases dQ (row:=row) (x:=x) row.length with ⟨h,_⟩|⟨a,b,c,h,h1,h2,_⟩
 ·exact ⟨0,0,by unfold aU;rw [h];rfl,by unfold aU;rw [h];rfl,by omega,by omega⟩
 ·exact ⟨a,b,by unfold aU;rw [h];simp only;omega,by unfold aU;rw [h],by omega,by omega⟩
theorem rH {g:Gr} {x:Int} {outs:List Int} :0<(aV g x outs).length∧(aV g x outs).length≤outs.length+1:=by
 unfold aV
 split
 ·simp
 ·rename_i h
  have:=List.length_pos_iff.2 h
  simp;omega
theorem xT (g:Gr) (hm:aO g=true) (f:Fr) (x:Int) (outs:List Int) (hr:f.row.length≤300000) (hp:f.pl.length≤100000) (ho:outs.length≤17592186043904):
 Spec Tryz.prog 86 (Args [.ptr 10000 0,eN x, .d (sI outs)]) (gT g f) (.tup [.d (sT (iE g f x outs).1.1),eN (iE g f x outs).1.2]) (rD g (iE g f x outs).2):=by
 have ql:f.row.length≤1000000:=by omega
 have hp1:f.pl.length≤1000000:=by omega
 have hs:(fX outs).length≤9223372036854775807:=by rw [ec];omega
 have hn:=aW hm
 cases hR:fB g f x with
 |false=>
  have hP:iE g f x outs=(([],3),f):=if_pos hR
  rw [hP]
  unfold gT rD
  (refine Spec.eL (C:=T.cfg [] []) (rs:= [.t 6, .t 7]) [(10002,10001)] (T.ak _ _) Tryz.func86 rfl rfl Tryz.ntmps86 Tryz.results86 (by simp [AObj.isNest]) (by simp [AObj.isNest]) (by first|(simp [look];done)|(simp [asN];done)|(intro l hl;simp only [asN];repeat (rw [if_neg (fun e=>by subst e;simp [look] at hl)]))) (by first|(simp [look];done)|(simp [asN];done)|(intro l hl;simp only [asN];repeat (rw [if_neg (fun e=>by subst e;simp [look] at hl)]))) (by kernel_rfl) ?_;intro X hX hP hC aK aL vals hA;refine ⟨_,by simp,hA, ?_⟩;have af:X.P.follows .mixedOrders=true:=(by rw [hP];exact T.mixed);clear aK aL)
  repeat' (first|fail|((first|((with_reducible (first|apply oA|apply oB));exact rfl;intro K hK)|(refine hK _ ?_;clear hK K)|((with_reducible (first|apply oG|apply oH));iterate 3 exact rfl)|((with_reducible apply oI);(iterate 2 exact rfl);intro K hK)|(with_reducible (first|apply wI|apply wJ|apply wK)));try simp only [go_sem,simprocAttr,hR,eY])|fail|(with_reducible (first|apply oC|apply oJ|exact oK|apply wA|apply wB|apply wC hX hC|apply wD hX hC|apply wE hX hC af|apply wF hX hC af|apply wG|apply wH|apply And.intro))|((with_reducible refine oD ?_ ?_);first|fail|kernel_rfl)|((with_reducible (first|apply oE|apply oF));(iterate 3 exact rfl);all_goals (intro h;first|(exact absurd h (by decide))|((try simp only [go_sem,simprocAttr,hR,eY] at h);(try with_reducible intro K hK);simp only [go_sem,simprocAttr,hR,eY])))|((first|((with_reducible apply wL);exact rfl)|((with_reducible apply wM);exact rfl));all_goals (try ((with_reducible intro h);first|(exact absurd h (by decide))|(try simp only [go_sem,simprocAttr,hR,eY] at h))))|omega|((first|first|(refine ai hX hC hP (l9 g hm f x ql hp1) rfl rfl rfl ?_ ?_ ?_ ?_;iterate 3 (focus (simp only [go_sem,simprocAttr,hR,eY];done)))|(refine az hX hC hP [(10000,16)] (bZ outs) rfl rfl rfl ?_ ?_ ?_ ?_ ?_ ?_ ?_ ?_ ?_ ?_ ?_ ?_ ?_ ?_;(focus (simp only [go_sem,simprocAttr,hR,eY];done));(iterate 12 (focus (simp [go_sem,simprocAttr,hR,eY];done)));simp only [go_sem,simprocAttr,hR,eY,List.map_cons,List.map_nil])|(refine cm hX hC hP [(10000,16)] (bP outs ho) rfl rfl rfl ?_ ?_ ?_ ?_ ?_ ?_ rfl rfl ?_ ?_;(focus (simp only [go_sem,simprocAttr,hR,eY];done));(iterate 6 (focus (simp [go_sem,simprocAttr,hR,eY];done)));simp only [go_sem,simprocAttr,hR,eY,List.map_cons,List.map_nil])|refine aa hX hC hP (gA g hm x) rfl rfl rfl (by simp only [go_sem,simprocAttr,hR,eY]) rfl ?_|refine aa hX hC hP (eA (fX outs) (bf (·.1) g x) hs) rfl rfl rfl (by simp only [go_sem,simprocAttr,hR,eY]) rfl ?_|(refine ai hX hC hP (dH [vw g,sI f.pl] f.row x ql) rfl rfl rfl ?_ ?_ ?_ ?_;iterate 3 (focus (simp only [go_sem,simprocAttr,hR,eY];done))));try simp only [go_sem,simprocAttr,hR,eY])|(intro h))
 |true=>
 have JV:¬fB g f x=false:=by rw [hR];simp
 by_cases hE:¬fX outs=bf (·.1) g x
 ·have au:decide (fX outs=bf (·.1) g x)=false:=decide_eq_false hE
  have hP:iE g f x outs=(([],1),f):=by unfold iE;rw [if_neg JV,if_pos hE]
  rw [hP]
  unfold gT rD
  (refine Spec.eL (C:=T.cfg [] []) (rs:= [.t 6, .t 7]) [(10002,10001)] (T.ak _ _) Tryz.func86 rfl rfl Tryz.ntmps86 Tryz.results86 (by simp [AObj.isNest]) (by simp [AObj.isNest]) (by first|(simp [look];done)|(simp [asN];done)|(intro l hl;simp only [asN];repeat (rw [if_neg (fun e=>by subst e;simp [look] at hl)]))) (by first|(simp [look];done)|(simp [asN];done)|(intro l hl;simp only [asN];repeat (rw [if_neg (fun e=>by subst e;simp [look] at hl)]))) (by kernel_rfl) ?_;intro X hX hP hC aK aL vals hA;refine ⟨_,by simp,hA, ?_⟩;have af:X.P.follows .mixedOrders=true:=(by rw [hP];exact T.mixed);clear aK aL)
  repeat' (first|fail|((first|((with_reducible (first|apply oA|apply oB));exact rfl;intro K hK)|(refine hK _ ?_;clear hK K)|((with_reducible (first|apply oG|apply oH));iterate 3 exact rfl)|((with_reducible apply oI);(iterate 2 exact rfl);intro K hK)|(with_reducible (first|apply wI|apply wJ|apply wK)));try simp only [go_sem,simprocAttr,hR,au,eY])|fail|(with_reducible (first|apply oC|apply oJ|exact oK|apply wA|apply wB|apply wC hX hC|apply wD hX hC|apply wE hX hC af|apply wF hX hC af|apply wG|apply wH|apply And.intro))|((with_reducible refine oD ?_ ?_);first|fail|kernel_rfl)|((with_reducible (first|apply oE|apply oF));(iterate 3 exact rfl);all_goals (intro h;first|(exact absurd h (by decide))|((try simp only [go_sem,simprocAttr,hR,au,eY] at h);(try with_reducible intro K hK);simp only [go_sem,simprocAttr,hR,au,eY])))|((first|((with_reducible apply wL);exact rfl)|((with_reducible apply wM);exact rfl));all_goals (try ((with_reducible intro h);first|(exact absurd h (by decide))|(try simp only [go_sem,simprocAttr,hR,au,eY] at h))))|omega|((first|first|(refine ai hX hC hP (l9 g hm f x ql hp1) rfl rfl rfl ?_ ?_ ?_ ?_;iterate 3 (focus (simp only [go_sem,simprocAttr,hR,au,eY];done)))|(refine az hX hC hP [(10000,16)] (bZ outs) rfl rfl rfl ?_ ?_ ?_ ?_ ?_ ?_ ?_ ?_ ?_ ?_ ?_ ?_ ?_ ?_;(focus (simp only [go_sem,simprocAttr,hR,au,eY];done));(iterate 12 (focus (simp [go_sem,simprocAttr,hR,au,eY];done)));simp only [go_sem,simprocAttr,hR,au,eY,List.map_cons,List.map_nil])|(refine cm hX hC hP [(10000,16)] (bP outs ho) rfl rfl rfl ?_ ?_ ?_ ?_ ?_ ?_ rfl rfl ?_ ?_;(focus (simp only [go_sem,simprocAttr,hR,au,eY];done));(iterate 6 (focus (simp [go_sem,simprocAttr,hR,au,eY];done)));simp only [go_sem,simprocAttr,hR,au,eY,List.map_cons,List.map_nil])|refine aa hX hC hP (gA g hm x) rfl rfl rfl (by simp only [go_sem,simprocAttr,hR,au,eY]) rfl ?_|refine aa hX hC hP (eA (fX outs) (bf (·.1) g x) hs) rfl rfl rfl (by simp only [go_sem,simprocAttr,hR,au,eY]) rfl ?_|(refine ai hX hC hP (dH [vw g,sI f.pl] f.row x ql) rfl rfl rfl ?_ ?_ ?_ ?_;iterate 3 (focus (simp only [go_sem,simprocAttr,hR,au,eY];done))));try simp only [go_sem,simprocAttr,hR,au,eY])|(intro h))
 rw [Decidable.not_not] at hE
 have au:decide (fX outs=bf (·.1) g x)=true:=decide_eq_true hE
 have hP:iE g f x outs=(((f.row.take (aU f.row x).2.1.toNat).drop (max (aU f.row x).1 0).toNat,0),⟨f.row.take (max (aU f.row x).1 0).toNat++aV g x outs++f.row.drop (aU f.row x).2.1.toNat,f.pl++ [x]⟩):=by
  unfold iE;rw [if_neg JV,if_neg (by rw [hE];simp)]
 rw [hP]
 obtain ⟨a,b,ha,hb,hab,iM⟩:=tc f.row x
 rw [ha,hb]
 simp only [Int.toNat_natCast]
 have Aw:outs.length≤128:=by
  have h1:=congrArg List.length hE
  rw [ec] at h1
  have h2:=xQ (f:=(·.1)) (g:=g) (x:=x)
  omega
 have Ft:∀i∈outs,0≤i∧i<g.es.length:=fun i hi=>(xS (f:=(·.1)) (g:=g) (x:=x) (by rw [← hE];exact wg.2 hi)).1
 obtain ⟨h0,h1⟩:=rH (g:=g) (x:=x) (outs:=outs)
 have mW:(aV g x outs).length≤100000:=by omega
 have yw:f.row.length≤400000:=by omega
 have L3:outs.length≤1000000:=by omega
 unfold gT rD
 (refine Spec.eL (C:=T.cfg [] []) (rs:= [.t 6, .t 7]) [(10002,42)] (T.ak _ _) Tryz.func86 rfl rfl Tryz.ntmps86 Tryz.results86 (by simp [AObj.isNest]) (by simp [AObj.isNest]) (by first|(simp [look];done)|(simp [asN];done)|(intro l hl;simp only [asN];repeat (rw [if_neg (fun e=>by subst e;simp [look] at hl)]))) (by first|(simp [look];done)|(simp [asN];done)|(intro l hl;simp only [asN];repeat (rw [if_neg (fun e=>by subst e;simp [look] at hl)]))) (by kernel_rfl) ?_;intro X hX hP hC aK aL vals hA;refine ⟨_,by simp,hA, ?_⟩;have af:X.P.follows .mixedOrders=true:=(by rw [hP];exact T.mixed);clear aK aL)
 repeat' (first|fail|((first|((with_reducible (first|apply oA|apply oB));exact rfl;intro K hK)|(refine hK _ ?_;clear hK K)|((with_reducible (first|apply oG|apply oH));iterate 3 exact rfl)|((with_reducible apply oI);(iterate 2 exact rfl);intro K hK)|(with_reducible (first|apply wI|apply wJ|apply wK)));try simp only [go_sem,simprocAttr,hR,au,ha,hb,eY,List.length_map,List.map_append,List.map_cons,List.map_nil,rI,gT,List.cons_append,List.nil_append,List.map_take,List.map_drop])|fail|(with_reducible (first|apply oC|apply oJ|exact oK|apply wA|apply wB|apply wC hX hC|apply wD hX hC|apply wE hX hC af|apply wF hX hC af|apply wG|apply wH|apply And.intro))|((with_reducible refine oD ?_ ?_);first|fail|kernel_rfl)|((with_reducible (first|apply oE|apply oF));(iterate 3 exact rfl);all_goals (intro h;first|(exact absurd h (by decide))|((try simp only [go_sem,simprocAttr,hR,au,ha,hb,eY,List.length_map,List.map_append,List.map_cons,List.map_nil,rI,gT,List.cons_append,List.nil_append,List.map_take,List.map_drop] at h);(try with_reducible intro K hK);simp only [go_sem,simprocAttr,hR,au,ha,hb,eY,List.length_map,List.map_append,List.map_cons,List.map_nil,rI,gT,List.cons_append,List.nil_append,List.map_take,List.map_drop])))|((first|((with_reducible apply wL);exact rfl)|((with_reducible apply wM);exact rfl));all_goals (try ((with_reducible intro h);first|(exact absurd h (by decide))|(try simp only [go_sem,simprocAttr,hR,au,ha,hb,eY,List.length_map,List.map_append,List.map_cons,List.map_nil,rI,gT,List.cons_append,List.nil_append,List.map_take,List.map_drop] at h))))|omega|((first|first|(refine ai hX hC hP (l9 g hm f x ql hp1) rfl rfl rfl ?_ ?_ ?_ ?_;iterate 3 (focus (simp only [go_sem,simprocAttr,hR,au,ha,hb,eY,List.length_map,List.map_append,List.map_cons,List.map_nil,rI,gT,List.cons_append,List.nil_append,List.map_take,List.map_drop];done)))|(refine az hX hC hP [(10000,16)] (bZ outs) rfl rfl rfl ?_ ?_ ?_ ?_ ?_ ?_ ?_ ?_ ?_ ?_ ?_ ?_ ?_ ?_;(focus (simp only [go_sem,simprocAttr,hR,au,ha,hb,eY,List.length_map,List.map_append,List.map_cons,List.map_nil,rI,gT,List.cons_append,List.nil_append,List.map_take,List.map_drop];done));(iterate 12 (focus (simp [go_sem,simprocAttr,hR,au,ha,hb,eY,List.length_map,List.map_append,List.map_cons,List.map_nil,rI,gT,List.cons_append,List.nil_append,List.map_take,List.map_drop];done)));simp only [go_sem,simprocAttr,hR,au,ha,hb,eY,List.length_map,List.map_append,List.map_cons,List.map_nil,rI,gT,List.cons_append,List.nil_append,List.map_take,List.map_drop,List.map_cons,List.map_nil])|(refine cm hX hC hP [(10000,16)] (bP outs ho) rfl rfl rfl ?_ ?_ ?_ ?_ ?_ ?_ rfl rfl ?_ ?_;(focus (simp only [go_sem,simprocAttr,hR,au,ha,hb,eY,List.length_map,List.map_append,List.map_cons,List.map_nil,rI,gT,List.cons_append,List.nil_append,List.map_take,List.map_drop];done));(iterate 6 (focus (simp [go_sem,simprocAttr,hR,au,ha,hb,eY,List.length_map,List.map_append,List.map_cons,List.map_nil,rI,gT,List.cons_append,List.nil_append,List.map_take,List.map_drop];done)));simp only [go_sem,simprocAttr,hR,au,ha,hb,eY,List.length_map,List.map_append,List.map_cons,List.map_nil,rI,gT,List.cons_append,List.nil_append,List.map_take,List.map_drop,List.map_cons,List.map_nil])|refine aa hX hC hP (gA g hm x) rfl rfl rfl (by simp only [go_sem,simprocAttr,hR,au,ha,hb,eY,List.length_map,List.map_append,List.map_cons,List.map_nil,rI,gT,List.cons_append,List.nil_append,List.map_take,List.map_drop]) rfl ?_|refine aa hX hC hP (eA (fX outs) (bf (·.1) g x) hs) rfl rfl rfl (by simp only [go_sem,simprocAttr,hR,au,ha,hb,eY,List.length_map,List.map_append,List.map_cons,List.map_nil,rI,gT,List.cons_append,List.nil_append,List.map_take,List.map_drop]) rfl ?_|(refine ai hX hC hP (dH [vw g,sI f.pl] f.row x ql) rfl rfl rfl ?_ ?_ ?_ ?_;iterate 3 (focus (simp only [go_sem,simprocAttr,hR,au,ha,hb,eY,List.length_map,List.map_append,List.map_cons,List.map_nil,rI,gT,List.cons_append,List.nil_append,List.map_take,List.map_drop];done)))|(refine oU hX hC hP 54 (xR g ⟨f.row,f.pl++ [x]⟩ x outs L3 Ft) rfl rfl rfl ?_ ?_ (by first|exact ⟨_,_,_,rfl,Eo⟩|exact ⟨_,_,_,rfl,Ep⟩|exact ⟨_,_,_,rfl,Er⟩) rfl (by decide) ?_;(iterate 2 (focus (simp only [go_sem,simprocAttr,hR,au,ha,hb,eY,List.length_map,List.map_append,List.map_cons,List.map_nil,rI,gT,List.cons_append,List.nil_append,List.map_take,List.map_drop];done)));simp only [go_sem,simprocAttr,hR,au,ha,hb,eY,List.length_map,List.map_append,List.map_cons,List.map_nil,rI,gT,List.cons_append,List.nil_append,List.map_take,List.map_drop])|(refine az hX hC hP [(10001,42),(10003,54)] (zY g f.row (aV g x outs) (f.pl++ [x]) a b hab iM h0 yw mW) rfl rfl rfl ?_ ?_ ?_ ?_ ?_ ?_ ?_ ?_ ?_ ?_ ?_ ?_ ?_ ?_;(focus (simp only [go_sem,simprocAttr,hR,au,ha,hb,eY,List.length_map,List.map_append,List.map_cons,List.map_nil,rI,gT,List.cons_append,List.nil_append,List.map_take,List.map_drop];done));(iterate 12 (focus (simp [go_sem,simprocAttr,hR,au,ha,hb,eY,List.length_map,List.map_append,List.map_cons,List.map_nil,rI,gT,List.cons_append,List.nil_append,List.map_take,List.map_drop];done)));simp only [go_sem,simprocAttr,hR,au,ha,hb,eY,List.length_map,List.map_append,List.map_cons,List.map_nil,rI,gT,List.cons_append,List.nil_append,List.map_take,List.map_drop,List.map_cons,List.map_nil]));try simp only [go_sem,simprocAttr,hR,au,ha,hb,eY,List.length_map,List.map_append,List.map_cons,List.map_nil,rI,gT,List.cons_append,List.nil_append,List.map_take,List.map_drop])|(intro h))
end Go.Ab
end
section
namespace Go.Ab
open Go.Proofs
attribute [local congr] ACall.congr
set_option maxRecDepth 10000
set_option maxHeartbeats 4000000
def Fu (g:Gr) (f:Fr) (k:Nat):List Int:=((List.range k).filter fun x:Nat=>fB g f (x:Int)).map Int.ofNat
def Fv (g:Gr) (f:Fr):List Int:=Fu g f g.n.toNat
theorem td (g:Gr) (hl:g.es.length≤1000) (h0:(bH g).1=0) (hm:aO g=true):Spec Tryz.prog 84 (Args [eG g]) [] (.tup [.ptr 10000 0,eN 0]) [(10000, .box [.nil 96, .d (vw g), .nil 3])]:=by
 (refine Spec.eL (C:=T.cfg [] []) (rs:= [.t 2, .t 3]) [(10000,11)] (T.ak _ _) Tryz.func84 rfl rfl Tryz.ntmps84 Tryz.results84 (by simp [AObj.isNest]) (by simp [AObj.isNest]) (by first|(simp [look];done)|(simp [asN];done)|(intro l hl;simp only [asN];repeat (rw [if_neg (fun e=>by subst e;simp [look] at hl)]))) (by first|(simp [look];done)|(simp [asN];done)|(intro l hl;simp only [asN];repeat (rw [if_neg (fun e=>by subst e;simp [look] at hl)]))) (by kernel_rfl) ?_;intro X hX hP hC aK aL vals hA;refine ⟨_,by simp,hA, ?_⟩;have af:X.P.follows .mixedOrders=true:=(by rw [hP];exact T.mixed);clear aK aL)
 repeat' (first|fail|((first|((with_reducible (first|apply oA|apply oB));exact rfl;intro K hK)|(refine hK _ ?_;clear hK K)|((with_reducible (first|apply oG|apply oH));iterate 3 exact rfl)|((with_reducible apply oI);(iterate 2 exact rfl);intro K hK)|(with_reducible (first|apply wI|apply wJ|apply wK)));try simp only [go_sem,simprocAttr,h0])|fail|(with_reducible (first|apply oC|apply oJ|exact oK|apply wA|apply wB|apply wC hX hC|apply wD hX hC|apply wE hX hC af|apply wF hX hC af|apply wG|apply wH|apply And.intro))|((with_reducible refine oD ?_ ?_);first|fail|kernel_rfl)|((with_reducible (first|apply oE|apply oF));(iterate 3 exact rfl);all_goals (intro h;first|(exact absurd h (by decide))|((try simp only [go_sem,simprocAttr,h0] at h);(try with_reducible intro K hK);simp only [go_sem,simprocAttr,h0])))|((first|((with_reducible apply wL);exact rfl)|((with_reducible apply wM);exact rfl));all_goals (try ((with_reducible intro h);first|(exact absurd h (by decide))|(try simp only [go_sem,simprocAttr,h0] at h))))|omega|((first|first|refine aa hX hC hP (gK g hl) rfl rfl rfl (by simp only [go_sem,simprocAttr,h0]) rfl ?_|refine aa hX hC hP (eR g hm) rfl rfl rfl (by simp only [go_sem,simprocAttr,h0]) rfl ?_);try simp only [go_sem,simprocAttr,h0])|(intro h))
theorem zZ (g:Gr) (hl:g.es.length≤1000) (h0:(bH g).1≠0):Spec Tryz.prog 84 (Args [eG g]) [] (.tup [.d (.sc (.pointer none)),eN 1]) []:=by
 have hb:decide ((bH g).1=0)=false:=decide_eq_false h0
 (refine Spec.intro (C:=T.cfg [] []) (rs:= [.t 2, .t 3]) (T.ak _ _) Tryz.func84 rfl rfl Tryz.ntmps84 Tryz.results84 (by simp [AObj.isNest]) (by simp [AObj.isNest]) (by kernel_rfl) ?_;intro X hX hP hC aK aL vals hA;refine ⟨_,by simp,hA, ?_⟩;have af:X.P.follows .mixedOrders=true:=(by rw [hP];exact T.mixed);clear aK aL)
 repeat' (first|fail|((first|((with_reducible (first|apply oA|apply oB));exact rfl;intro K hK)|(refine hK _ ?_;clear hK K)|((with_reducible (first|apply oG|apply oH));iterate 3 exact rfl)|((with_reducible apply oI);(iterate 2 exact rfl);intro K hK)|(with_reducible (first|apply wI|apply wJ|apply wK)));try simp only [go_sem,simprocAttr,hb])|fail|(with_reducible (first|apply oC|apply oJ|exact oK|apply wA|apply wB|apply wC hX hC|apply wD hX hC|apply wE hX hC af|apply wF hX hC af|apply wG|apply wH|apply And.intro))|((with_reducible refine oD ?_ ?_);first|fail|kernel_rfl)|((with_reducible (first|apply oE|apply oF));(iterate 3 exact rfl);all_goals (intro h;first|(exact absurd h (by decide))|((try simp only [go_sem,simprocAttr,hb] at h);(try with_reducible intro K hK);simp only [go_sem,simprocAttr,hb])))|((first|((with_reducible apply wL);exact rfl)|((with_reducible apply wM);exact rfl));all_goals (try ((with_reducible intro h);first|(exact absurd h (by decide))|(try simp only [go_sem,simprocAttr,hb] at h))))|omega|((first|first|refine aa hX hC hP (gK g hl) rfl rfl rfl (by simp only [go_sem,simprocAttr,hb]) rfl ?_);try simp only [go_sem,simprocAttr,hb])|(intro h))
end Go.Ab
end
section
namespace Go.Ab
open Go.Proofs
attribute [local congr] ACall.congr
set_option maxRecDepth 10000
set_option maxHeartbeats 4000000
def Oz (g:Gr) (f:Fr):List AV:= [eN g.n, .d (sE g.es), .d (sT f.row), .d (sI f.pl)]
def gq (row:List It) (x:Int):Nat→Int
 |0=>0
 |k+1=>if (row.getD k (0,0,0)).2.2=x then gq row x k+1 else gq row x k
theorem fC {row:List It} {x:Int} {k:Nat} :gq row x (k+1)=if (row.getD k (0,0,0)).2.2=x then gq row x k+1 else gq row x k:=rfl
def B5 (row:List It) (x:Int) (need:Nat) (j:Nat):Bool:=decide ((row.getD j (0,0,0)).2.2≠x)&&decide (0≤(row.getD j (0,0,0)).1)&&decide (0<gq row x j)&&decide (gq row x j<need)
theorem tf {row:List It} {x:Int} {need j:Nat} :B5 row x need j=true↔((row.getD j (0,0,0)).2.2≠x∧0≤(row.getD j (0,0,0)).1)∧0<gq row x j∧gq row x j<need:=by
 simp only [B5,Bool.and_eq_true,decide_eq_true_eq,and_assoc]
def bC (g:Gr) (x:Int):Nat:=(aJ (·.2) g.es g.es.length x).length
def aH (g:Gr) (f:Fr) (x:Int):Bool:=
 if x<0∨g.n≤x∨x∈f.pl then false else if bC g x=0 then true else
 !(List.range f.row.length).any (B5 f.row x (bC g x))&&decide (gq f.row x f.row.length=bC g x)
end Go.Ab
end
section
namespace Go.Ab
open Go.Proofs
attribute [local congr] ACall.congr
set_option maxRecDepth 10000
set_option maxHeartbeats 4000000
end Go.Ab
end
section
namespace Go.Ab
open Go.Proofs
attribute [local congr] ACall.congr
set_option maxRecDepth 10000
set_option maxHeartbeats 8000000
def dL (g:Gr) (x:Int):List Int:=aJ (·.1) g.es g.es.length x
def aB (g:Gr) (f:Fr) (x:Int) (outs:List Int):(List It × Int) × Fr:=
 (((f.row.take (aU f.row x).2.1.toNat).drop (max (aU f.row x).1 0).toNat,0),⟨f.row.take (max (aU f.row x).1 0).toNat++aV g x outs++f.row.drop (aU f.row x).2.1.toNat,f.pl++ [x]⟩)
def gr (g:Gr) (f:Fr) (x:Int) (outs:List Int):(List It × Int) × Fr:=
 if aH g f x=false then (([],3),f) else
 if outs.length≠(dL g x).length∨∃i∈dL g x,i∉outs then (([],1),f) else aB g f x outs
theorem cQ {f:Edge→Int} {es:List Edge} {k:Nat} {x:Int} :(aJ f es k x).Nodup:=by
 unfold aJ
 exact List.Pairwise.map _ (fun a b h e=>h (Int.ofNat.inj e)) (List.Pairwise.filter _ List.nodup_range)
theorem xU:∀ {ms os:List Int},ms.Nodup→(∀i∈ms,i∈os)→os.length=ms.length→∀i∈os,i∈ms
 | [],os,_,_,hl,i,hi=>by
   have:os= []:=List.eq_nil_of_length_eq_zero (by simpa using hl)
   rw [this] at hi;exact hi
 |m::ms,os,hn,hs,hl,i,hi=>by
  rw [List.nodup_cons] at hn
  have hm:=hs m (List.mem_cons_self ..)
  by_cases h:i=m
  ·rw [h];exact List.mem_cons_self ..
  ·refine List.mem_cons_of_mem _ (xU hn.2 (os:=os.erase m) (fun j hj=> ?_) ?_ i ?_)
   ·have:j≠m:=fun e=>hn.1 (e ▸ hj)
    exact (List.mem_erase_of_ne this).2 (hs j (List.mem_cons_of_mem _ hj))
   ·rw [List.length_erase_of_mem hm,hl];simp
   ·exact (List.mem_erase_of_ne h).2 hi
theorem B6 {g:Gr} {x:Int} :(dL g x).length≤g.es.length:=gy
end Go.Ab
end
section
namespace Go.Ab
open Go.Proofs
attribute [local congr] ACall.congr
set_option maxRecDepth 10000
set_option maxHeartbeats 4000000
def vI (ls:List (List Int)):List (List D):=ls.map fun l=> [sI l]
theorem vI_length {ls:List (List Int)} :(vI ls).length=ls.length:=by simp [vI]
theorem mX {ls:List (List Int)} {k:Nat} (h:k<ls.length) (d:List D):(vI ls).getD k d= [sI (ls.getD k [])]:=by
 simp [vI,List.getD_eq_getElem?_getD,List.getElem?_eq_getElem h]
attribute [go_sem] vI_length
def yI (l:List Int) (i:Nat):List Int:=l.take i++l.drop (i+1)
def DN:Nat→List Int→List (List Int)
 |0,_=> [[]]
 |n+1,l=>(List.range l.length).flatMap fun i=>(DN n (yI l i)).map fun t=>l.getD i 0::t
def OA (n:Nat) (l:List Int) (k:Nat):List (List Int):=(List.range k).flatMap fun i=>(DN n (yI l i)).map fun t=>l.getD i 0::t
def OB:Nat→Nat
 |0=>1
 |n+1=>(n+1)*OB n
theorem mc {α β:Type} {f:α→β} {l:List α} {d:α} {k:Nat} (h:k<l.length):(l.take (k+1)).map f=(l.take k).map f++ [f (l.getD k d)]:=rC h
end Go.Ab
end
section
namespace Go.Ab
open Go.Proofs
attribute [local congr] ACall.congr
set_option maxRecDepth 10000
set_option maxHeartbeats 8000000
def I6 (g:Gr):Nat→Fr→Bool
 |0,f=>decide ((f.pl.length:Int)=g.n)
 |m+1,f=>decide ((f.pl.length:Int)=g.n)||(List.range g.n.toNat).any fun x=>aH g f (x:Int)&&(DN (dL g (x:Int)).length (dL g (x:Int))).any fun o=>I6 g m (aB g f (x:Int) o).2
def OC (g:Gr) (m:Nat) (f:Fr) (x:Nat):Bool:=aH g f (x:Int)&&(DN (dL g (x:Int)).length (dL g (x:Int))).any fun o=>I6 g m (aB g f (x:Int) o).2
theorem z1 {g:Gr} {f:Fr} {x:Int} {o:List Int} :(aB g f x o).2.row.length≤f.row.length+o.length+1∧(aB g f x o).2.pl.length=f.pl.length+1:=by
 obtain ⟨a,b,ha,hb,hab,iM⟩:=tc f.row x
 have:=rH (g:=g) (x:=x) (outs:=o)
 have e:aB g f x o=(((f.row.take b).drop a,0),⟨f.row.take a++aV g x o++f.row.drop b,f.pl++ [x]⟩):=by
  simp only [aB,ha,hb,Int.toNat_natCast]
 rw [e]
 refine ⟨?_,by simp⟩
 show (f.row.take a++aV g x o++f.row.drop b).length≤_
 rw [List.length_append,List.length_append,List.length_take,List.length_drop]
 omega
end Go.Ab
end
section
namespace Go.Ab
open Go.Proofs
attribute [local congr] ACall.congr
set_option maxRecDepth 10000
set_option maxHeartbeats 4000000
theorem rJ (g:Gr) (hl:g.es.length≤9223372036854775807) (hm:aO g=false):Spec Tryz.prog 99 (Args [eG g]) [] (.tup [eN (fe g).1,eN (fe g).2.1, .d (sI (fe g).2.2)]) []:=by
 (refine Spec.intro (C:=T.cfg [] []) (rs:= [.t 2, .t 3, .t 4]) (T.ak _ _) Tryz.func99 rfl rfl Tryz.ntmps99 Tryz.results99 (by simp [AObj.isNest]) (by simp [AObj.isNest]) (by kernel_rfl) ?_;intro X hX hP hC aK aL vals hA;refine ⟨_,by simp,hA, ?_⟩;have af:X.P.follows .mixedOrders=true:=(by rw [hP];exact T.mixed);clear aK aL)
 repeat' (first|fail|((first|((with_reducible (first|apply oA|apply oB));exact rfl;intro K hK)|(refine hK _ ?_;clear hK K)|((with_reducible (first|apply oG|apply oH));iterate 3 exact rfl)|((with_reducible apply oI);(iterate 2 exact rfl);intro K hK)|(with_reducible (first|apply wI|apply wJ|apply wK)));try simp only [go_sem,simprocAttr,hm])|fail|(with_reducible (first|apply oC|apply oJ|exact oK|apply wA|apply wB|apply wC hX hC|apply wD hX hC|apply wE hX hC af|apply wF hX hC af|apply wG|apply wH|apply And.intro))|((with_reducible refine oD ?_ ?_);first|fail|kernel_rfl)|((with_reducible (first|apply oE|apply oF));(iterate 3 exact rfl);all_goals (intro h;first|(exact absurd h (by decide))|((try simp only [go_sem,simprocAttr,hm] at h);(try with_reducible intro K hK);simp only [go_sem,simprocAttr,hm])))|((first|((with_reducible apply wL);exact rfl)|((with_reducible apply wM);exact rfl));all_goals (try ((with_reducible intro h);first|(exact absurd h (by decide))|(try simp only [go_sem,simprocAttr,hm] at h))))|omega|((first|first|refine aa hX hC hP (cw g hl) rfl rfl rfl (by simp only [go_sem,simprocAttr,hm]) rfl ?_);try simp only [go_sem,simprocAttr,hm])|(intro h))
 all_goals simp [fe,fO,hm]
theorem rK (g:Gr) (hl:g.es.length≤9223372036854775807):Spec Tryz.prog 99 (Args [eG g]) [] (.tup [eN (fe g).1,eN (fe g).2.1, .d (sI (fe g).2.2)]) []:=by
 cases hm:aO g with
 |false=>exact rJ g hl hm
 |true=>exact sD g (by have:=aW hm;omega)
theorem sF (g:Gr) (hl:g.es.length≤9223372036854775807):Spec Tryz.prog 72 (Args [eG g]) [] (eB (decide ((bH g).1=0))) []:=by
 rw [Fl]
 (refine Spec.intro (C:=T.cfg [] []) (rs:= [.t 2]) (T.ak _ _) Tryz.func72 rfl rfl Tryz.ntmps72 Tryz.results72 (by simp [AObj.isNest]) (by simp [AObj.isNest]) (by kernel_rfl) ?_;intro X hX hP hC aK aL vals hA;refine ⟨_,by simp,hA, ?_⟩;have af:X.P.follows .mixedOrders=true:=(by rw [hP];exact T.mixed);clear aK aL)
 repeat' (first|fail|((first|((with_reducible (first|apply oA|apply oB));exact rfl;intro K hK)|(refine hK _ ?_;clear hK K)|((with_reducible (first|apply oG|apply oH));iterate 3 exact rfl)|((with_reducible apply oI);(iterate 2 exact rfl);intro K hK)|(with_reducible (first|apply wI|apply wJ|apply wK)));try simp only [go_sem,simprocAttr])|fail|(with_reducible (first|apply oC|apply oJ|exact oK|apply wA|apply wB|apply wC hX hC|apply wD hX hC|apply wE hX hC af|apply wF hX hC af|apply wG|apply wH|apply And.intro))|((with_reducible refine oD ?_ ?_);first|fail|kernel_rfl)|((with_reducible (first|apply oE|apply oF));(iterate 3 exact rfl);all_goals (intro h;first|(exact absurd h (by decide))|((try simp only [go_sem,simprocAttr] at h);(try with_reducible intro K hK);simp only [go_sem,simprocAttr])))|((first|((with_reducible apply wL);exact rfl)|((with_reducible apply wM);exact rfl));all_goals (try ((with_reducible intro h);first|(exact absurd h (by decide))|(try simp only [go_sem,simprocAttr] at h))))|omega|((first|first|refine aa hX hC hP (rK g hl) rfl rfl rfl (by simp only [go_sem,simprocAttr]) rfl ?_);try simp only [go_sem,simprocAttr])|(intro h))
end Go.Ab
end
section
namespace Go.Ab
open Go.Proofs
attribute [local congr] ACall.congr
set_option maxRecDepth 10000
set_option maxHeartbeats 4000000
def g9:Gr:=⟨3, [(0,1),(0,2),(1,2)]⟩
def PK:Fr:=⟨[], []⟩
def PL:Fr:=⟨[(0,0,1),(1,0,2)], [0]⟩
def PM:Fr:=⟨[(2,1,2),(1,0,2)], [0,1]⟩
def PN:Fr:=⟨[(-1,2, -1)], [0,1,2]⟩
end Go.Ab
end
section
namespace Go.Ab
open Go.Proofs
set_option maxRecDepth 10000
def z2 (g:Gr) (t:It):Prop:=(t.1= -1∧t.2.2= -1)∨(0≤t.1∧t.1<g.es.length∧t.2.1=(g.es.getD t.1.toNat (0,0)).1∧t.2.2=(g.es.getD t.1.toNat (0,0)).2)
structure fY (g:Gr) (f:Fr):Prop where
 it:∀t∈f.row,z2 g t
 pl:f.pl.Nodup
 Fw:∀x∈f.pl,0≤x∧x<g.n
theorem jf {row:List It} {x:Int} :∀k:Nat,(ez row x k).2.2=gq row x k
 |0=>rfl
 |k+1=>by
  rw [l8,fC]
  split
  ·show (ez row x k).2.2+1=_
   rw [jf k]
  ·exact jf k
theorem oc {row:List It} {x:Int} {j:Nat} :∀d:Nat,gq row x j≤gq row x (j+d)
 |0=>Int.le_refl _
 |d+1=>by
  have:=oc (row:=row) (x:=x) (j:=j) d
  rw [← Nat.add_assoc,fC]
  split<;>omega
theorem jg {row:List It} {x:Int} :∀ {k:Nat},(∀j,j<k→(row.getD j (0,0,0)).2.2≠x)→gq row x k=0
 |0,_=>rfl
 |k+1,h=>by
  rw [fC,if_neg (h k (by omega))]
  exact jg fun j hj=>h j (by omega)
theorem od {row:List It} {x:Int} {b:Nat} :∀ {d:Nat},(∀j,b≤j→j<b+d→(row.getD j (0,0,0)).2.2≠x)→gq row x (b+d)=gq row x b
 |0,_=>rfl
 |d+1,h=>by
  rw [← Nat.add_assoc,fC,if_neg (h (b+d) (by omega) (by omega))]
  exact od fun j h1 h2=>h j h1 (by omega)
theorem eC {f:Edge→Int} {g:Gr} {x:Int} (h0:0≤x) (h1:x<g.n):bf f g x=aJ f g.es g.es.length x:=if_pos ⟨h0,h1⟩
theorem oe {g:Gr} {e:Int} (h0:0≤e) (h1:e<g.es.length):0<bC g (g.es.getD e.toNat (0,0)).2:=by
 refine List.length_pos_iff.2 fun h=> ?_
 have hm:e∈aJ (·.2) g.es g.es.length (g.es.getD e.toNat (0,0)).2:=by
  simp only [aJ,List.mem_map,List.mem_filter,List.mem_range,decide_eq_true_eq]
  exact ⟨e.toNat,⟨by omega,rfl⟩,by simp;omega⟩
 rw [h] at hm;cases hm
theorem tg {row:List It} {p:It→Bool} {a b:Nat} (hb:b≤row.length):((row.take b).drop a).any p=true↔∃j,a≤j∧j<b∧p (row.getD j (0,0,0))=true:=by
 rw [List.any_eq_true]
 constructor
 ·rintro ⟨t,ht,hp⟩
  obtain ⟨k,hk,rfl⟩:=List.mem_iff_getElem.1 ht
  simp only [List.length_drop,List.length_take] at hk
  refine ⟨a+k,by omega,by omega, ?_⟩
  rw [List.getD_eq_getElem?_getD,List.getElem?_eq_getElem (show a+k<row.length by omega)]
  simpa using hp
 ·rintro ⟨j,h1,h2,hp⟩
  rw [List.getD_eq_getElem?_getD,List.getElem?_eq_getElem (show j<row.length by omega)] at hp
  refine ⟨row[j], ?_,hp⟩
  refine List.mem_iff_getElem.2 ⟨j - a,by simp;omega, ?_⟩
  simp only [List.getElem_drop,List.getElem_take]
  congr 1;omega
theorem z2.head {g:Gr} (hm:aO g=true) {t:It} (h:z2 g t):(0≤t.1↔t.2.2≠ -1)∧ -1≤t.2.2:=by
 rcases h with ⟨h1,h2⟩|⟨h1,h2,_,h4⟩
 ·omega
 ·obtain ⟨_,h5,_⟩:=c9 hm (k:=t.1.toNat) (by omega)
  omega
theorem mY {g:Gr} (hm:aO g=true) {f:Fr} (hi:fY g f) (x:Int):fB g f x=aH g f x:=by
 by_cases hx:x<0∨g.n≤x∨x∈f.pl
 ·rw [fB,aH,if_pos hx,if_pos hx]
 rw [fB,aH,if_neg hx,if_neg hx]
 have hx0:0≤x∧x<g.n:=by
  constructor
  ·exact Int.not_lt.1 fun h=>hx (.inl h)
  ·exact Int.not_le.1 fun h=>hx (.inr (.inl h))
 have hmem:∀j,j<f.row.length→z2 g (f.row.getD j (0,0,0)):=fun j hj=>hi.it _ (aY hj)
 rw [eC hx0.1 hx0.2]
 have hN:(aJ (fun e=>e.2) g.es g.es.length x).length=bC g x:=rfl
 rw [hN]
 have Fx:(aU f.row x).2.2=gq f.row x f.row.length:=jf _
 by_cases h0:bC g x=0
 ·rw [if_pos h0,h0,decide_eq_true rfl,Bool.true_or,Bool.and_true,decide_eq_true_eq,Fx,jg]
  ·rfl
  ·intro j hj he
   rcases hmem j hj with ⟨_,h2⟩|⟨h1,h2,_,h4⟩
   ·omega
   ·have:=oe h1 h2
    rw [← h4,he] at this
    omega
 ·rw [if_neg h0,decide_eq_false h0,Bool.false_or,Fx]
  generalize bC g x=need at h0
  rcases dQ (row:=f.row) (x:=x) f.row.length with ⟨hs,hno⟩|⟨a,b,c,hs,hab,iM,hc0,mj,ha,hb,hlo,hhi⟩
  ·rw [jg hno]
   have e1:decide ((0:Int)=(need:Int))=false:=decide_eq_false (by omega)
   rw [e1,Bool.false_and,Bool.and_false]
  ·have hs':aU f.row x=((a:Int),(b:Int),(c:Int)):=hs
   have M5:gq f.row x f.row.length=c:=by rw [← Fx,hs']
   rw [hs',M5]
   simp only [Int.toNat_natCast]
   rw [Bool.and_comm]
   by_cases Gz:¬(c:Int)=need
   ·rw [decide_eq_false Gz,Bool.and_false,Bool.and_false]
   rw [Decidable.not_not] at Gz
   rw [decide_eq_true Gz,Bool.and_true,Bool.and_true,oZ]
   congr 1
   rw [Bool.eq_iff_iff,tg iM,List.any_eq_true]
   have ma:gq f.row x a=0:=jg hlo
   have PO:gq f.row x (a+1)=1:=by rw [fC,if_pos ha,ma];rfl
   have mb:gq f.row x b=need:=by
    have h:=od (row:=f.row) (x:=x) (b:=b) (d:=f.row.length - b) fun j h1 h2=>hhi j h1 (by omega)
    rw [show b+(f.row.length - b)=f.row.length by omega,M5] at h
    omega
   have PR:gq f.row x (b - 1)+1=need:=by
    have h:=fC (row:=f.row) (x:=x) (k:=b - 1)
    rw [if_pos hb,show b - 1+1=b by omega,mb] at h
    omega
   constructor
   ·rintro ⟨j,h1,h2,hp⟩
    simp only [jF,Bool.and_eq_true,decide_eq_true_eq] at hp
    have hja:j≠a:=fun e=>hp.1 (by rw [e];exact ha)
    have hjb:j≠b - 1:=fun e=>hp.1 (by rw [e];exact hb)
    have g1:=oc (row:=f.row) (x:=x) (j:=a+1) (j - (a+1))
    rw [show a+1+(j - (a+1))=j by omega] at g1
    have g2:=oc (row:=f.row) (x:=x) (j:=j) (b - 1 - j)
    rw [show j+(b - 1 - j)=b - 1 by omega] at g2
    exact ⟨j,List.mem_range.2 (by omega),tf.2 ⟨⟨hp.1,((hmem j (by omega)).head hm).1.2 hp.2⟩,by omega,by omega⟩⟩
   ·rintro ⟨j,hj,hl⟩
    have hj:=List.mem_range.1 hj
    obtain ⟨⟨h1,h2⟩,h3,h4⟩:=tf.1 hl
    refine ⟨j, ?_, ?_, ?_⟩
    ·refine Nat.not_lt.1 fun h=> ?_
     have:=jg (row:=f.row) (x:=x) (k:=j) fun i hi=>hlo i (by omega)
     omega
    ·refine Nat.not_le.1 fun h=> ?_
     have:=od (row:=f.row) (x:=x) (b:=b) (d:=j - b) fun i h1 h2=>hhi i h1 (by omega)
     rw [show b+(j - b)=j by omega] at this
     omega
    ·simp only [jF,Bool.and_eq_true,decide_eq_true_eq]
     exact ⟨h1,((hmem j hj).head hm).1.1 h2⟩
theorem pT:∀ {ms os:List Int},ms.Nodup→(∀i∈ms,i∈os)→os.length=ms.length→os.Perm ms
 | [],os,_,_,hl=>by
   have h:os= []:=List.eq_nil_of_length_eq_zero (by simpa using hl)
   rw [h]
 |m::ms,os,hn,hs,hl=>by
  rw [List.nodup_cons] at hn
  have hm:=hs m (List.mem_cons_self ..)
  refine (List.perm_cons_erase hm).trans (List.Perm.cons m (pT hn.2 (fun j hj=> ?_) ?_))
  ·have:j≠m:=fun e=>hn.1 (e ▸ hj)
   exact (List.mem_erase_of_ne this).2 (hs j (List.mem_cons_of_mem _ hj))
  ·rw [List.length_erase_of_mem hm,hl];simp
theorem o4 {g:Gr} {x:Int} :(dL g x).Pairwise (· ≤ ·):=by
 unfold dL aJ
 refine List.Pairwise.map _ (fun a b (h:a<b)=> ?_) (List.Pairwise.filter _ List.pairwise_lt_range)
 show (a:Int)≤b
 omega
theorem rL {l m:List Int} (h:l.Perm m) (hm:m.Pairwise (· ≤ ·)):fX l=m:=by
 have h1:(fX l).Pairwise (· ≤ ·):=by
  have:=List.pairwise_mergeSort (le:=fun a b:Int=>decide (a≤b)) (by simp;omega) (by simp;omega) l
  simpa [fX] using this
 have h2:(fX l).Perm m:=(by unfold fX;exact (List.mergeSort_perm l _).trans h)
 exact h2.eq_of_pairwise (fun a b _ _ h1 h2=>Int.le_antisymm h1 h2) h1 hm
theorem aR {g:Gr} {f:Fr} {x:Int} (h:aH g f x=true):0≤x∧x<g.n∧x∉f.pl:=by
 unfold aH at h
 by_cases hx:x<0∨g.n≤x∨x∈f.pl
 ·rw [if_pos hx] at h;cases h
 ·exact ⟨Int.not_lt.1 fun h=>hx (.inl h),Int.not_le.1 fun h=>hx (.inr (.inl h)),fun h=>hx (.inr (.inr h))⟩
theorem B7 {g:Gr} (hm:aO g=true) {f:Fr} (hi:fY g f) (x:Int) (outs:List Int):iE g f x outs=gr g f x outs:=by
 rw [iE,gr,mY hm hi]
 cases hR:aH g f x with
 |false=>rw [if_pos rfl,if_pos rfl]
 |true=>
  obtain ⟨h0,h1,h2⟩:=aR hR
  have ht:¬(true=false):=by simp
  rw [if_neg ht,if_neg ht,eC h0 h1]
  show (if fX outs≠dL g x then _ else aB g f x outs)=_
  by_cases hs:fX outs=dL g x
  ·rw [if_neg (fun h=>h hs),if_neg]
   rintro (h|⟨i,h3,h4⟩)
   ·exact h (by rw [← hs,ec])
   ·exact h4 (wg.1 (hs ▸ h3))
  ·rw [if_pos hs,if_pos]
   refine Decidable.byContradiction fun h=>hs ?_
   have hl:outs.length=(dL g x).length:=Decidable.byContradiction fun e=>h (.inl e)
   exact rL (pT cQ (fun i hi=>Decidable.byContradiction fun e=>h (.inr ⟨i,hi,e⟩)) hl) o4
theorem B8 {g:Gr} {x:Int} {outs:List Int} (ho:∀i∈outs,i∈dL g x):∀t∈aV g x outs,z2 g t:=by
 intro t ht
 unfold aV at ht
 split at ht
 ·rw [List.mem_singleton] at ht
  rw [ht];exact .inl ⟨rfl,rfl⟩
 ·obtain ⟨i,hi,rfl⟩:=List.mem_map.1 ht
  obtain ⟨⟨h1,h2⟩,h3⟩:=je (ho i hi)
  exact .inr ⟨h1,h2,h3.symm,rfl⟩
theorem B9 {g:Gr} {f:Fr} (hi:fY g f) {x:Int} (hR:aH g f x=true) {outs:List Int} (ho:∀i∈outs,i∈dL g x):fY g (aB g f x outs).2:=by
 obtain ⟨h0,h1,h2⟩:=aR hR
 refine ⟨fun t ht=> ?_, ?_,fun y hy=> ?_⟩
 ·simp only [aB,List.mem_append] at ht
  rcases ht with (ht|ht)|ht
  ·exact hi.it t (List.mem_of_mem_take ht)
  ·exact B8 ho t ht
  ·exact hi.it t (List.mem_of_mem_drop ht)
 ·show (f.pl++ [x]).Nodup
  rw [List.nodup_append]
  refine ⟨hi.pl,by simp,fun a ha b hb e=>h2 ?_⟩
  rw [List.mem_singleton] at hb
  rw [← hb, ← e];exact ha
 ·have hy:y∈f.pl++ [x]:=hy
  rcases List.mem_append.1 hy with h|h
  ·exact hi.Fw y h
  ·rw [List.mem_singleton] at h
   rw [h];exact ⟨h0,h1⟩
end Go.Ab
end
