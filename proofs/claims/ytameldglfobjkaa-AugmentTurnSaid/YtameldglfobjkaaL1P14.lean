/- A part of the proof. -/
import Derived.RangeFuncBox
import Derived.RangeFuncLeaves
import Derived.Shelf.Abstract
import Derived.WalkKit
import Derived.OwnWalkIn
import Derived.TacticsInMore
import Derived.LoopNIn
import Derived.LoopIn
import Derived.Maps.AppendAt
import Derived.Sort.OwnSortedInts
import Derived.Test.YtameldglfobjkaaL1P13
set_option linter.unusedSimpArgs false
set_option linter.unusedVariables false
section
namespace Go.Ab
open Go.Proofs Go.RowKit Go.Shelf Go.Sort
attribute [local go_sem] Oper.semAt_some
def upto {α:Type} (f:Nat→α) (k:Nat):List α:=(List.range k).map f
theorem oN {α:Type} (f:Nat→α) (k:Nat):upto f (k+1)=upto f k++ [f k]:=by simp [upto,List.range_succ]
theorem rq {α:Type} (f:Nat→α) (k:Nat):(upto f k).length=k:=by simp [upto]
theorem xL (zs:List Int):upto (fun j=>zs[j]?.getD 0) zs.length=zs:=by
 apply List.ext_getElem
 ·simp [upto]
 ·intro i h1 h2
  simp [upto,h2]
theorem uT (zs:List Int) {k:Nat} (hk:k≤zs.length):upto (fun j=>zs[j]?.getD 0) k=zs.take k:=by
 apply List.ext_getElem
 ·simp [upto,hk]
 ·intro i h1 h2
  have:i<zs.length:=by simp [upto] at h1;omega
  simp [upto,this]
set_option maxRecDepth 100000 in
set_option maxHeartbeats 2000000 in
theorem sM (F:Fence) (n:Nat) (h7:F.fn 107) (hro:F.round=none) (hn:1≤n) (l Bs n₀ b off len cap:Nat) (zs:List Int) (gh:len*8≤140737488351232) (hb:b<n₀) (J Jx:List Int→World→Prop)
 (hY:∀pre x W,J pre W→pre.length<len→YieldAt F (n - 1) Try.prog l #[.int .i64 x] W fun e W'=>
   (e= .returned (.bool true)∧J (pre++ [x]) W'∧Below n₀ W W')∨(e= .returned (.bool false)∧Jx (pre++ [x]) W'))
 (W:World) (xM:W.cell? ⟨Bs,0,none⟩=some (.slice (some ⟨b,off,none⟩) len cap)) (hc:∀j,j<len→W.cell? ⟨b,off+j,none⟩=some (.int .i64 (zs[j]?.getD 0))) (h0:J [] W):
 CallsIn F n Try.prog 107 #[.func (.yield l) #[] #[], .pointer (some ⟨Bs,0,none⟩)] W fun e W'=>(∃v,e= .returned v)∧
  ((∃ys,ys=upto (fun j=>zs[j]?.getD 0) len∧J ys W')∨(∃pre,(∃k,k≤len∧pre=upto (fun j=>zs[j]?.getD 0) k)∧Jx pre W')):=by
 refine callsIn_of_wp Try.func107 rfl h7 ?_ hro
 simp only [Try.ntmps107,List.size_toArray,List.length_cons,List.length_nil,Nat.reduceAdd,Nat.reduceSub,Array.replicate_succ,Array.replicate_zero,List.push_toArray,List.append_toArray,List.nil_append,List.cons_append]
 gi_wp2
 gi_loopw [7] (fun i wr=>∃k:Nat,k≤len∧i= .int .i64 k∧J (upto (fun j=>zs[j]?.getD 0) k) wr∧Below n₀ W wr)
  (fun i _=>len - (Go.Proofs.intOf i).toNat)
 case atStart=>exact ⟨0,Nat.zero_le _,rfl,h0,Below.refl _ _⟩
 case round=>
  obtain ⟨k,hk,rfl,Dy,k7⟩:=hrel
  have Gv:k<len→wr.cell? ⟨b,off+k,none⟩=some (.int .i64 (zs[k]?.getD 0)):=fun h=>(k7.cell (p:=⟨b,off+k,none⟩) hb).trans (hc k h)
  by_cases hlt:k<len
  ·obtain ⟨fn,tmps,assign,body,hy,hR⟩:=hY _ (zs[k]?.getD 0) wr Dy (by rw [rq];exact hlt)
   have Hy:=Gv hlt
   gi_wp2
   refine hR.mono ?_
   rintro e W3 (⟨rfl,Fw,Fx⟩|⟨rfl,Fy⟩)
   ·gi_wp2
    go_roundw
    case rel=>exact ⟨k+1,by omega,by simp,by rw [oN];exact Fw,k7.trans Fx⟩
    case measure=>simp [Go.Proofs.intOf];omega
   ·gi_wp2
    refine bodyPost_ret (results_none rfl _ _ _) rfl ?_
    exact ⟨⟨_,rfl⟩, .inr ⟨_,⟨k+1,by omega,(oN _ _).symm⟩,Fy⟩⟩
  ·obtain rfl:k=len:=by omega
   gi_wp2
   go_end0
   exact ⟨⟨_,rfl⟩, .inl ⟨_,rfl,Dy⟩⟩
def Ints (n₀:Nat) (W:World) (sv:Value) (zs:List Int):Prop:=
 (∃p c,sv= .slice p 0 c∧zs= [])∨∃b off cap,sv= .slice (some ⟨b,off,none⟩) zs.length cap∧b<n₀∧∀j,j<zs.length→W.cell? ⟨b,off+j,none⟩=some (.int .i64 (zs[j]?.getD 0))
theorem Ints.below {n₀:Nat} {A B:World} (h:Below n₀ A B) {sv:Value} {zs:List Int} :Ints n₀ A sv zs→Ints n₀ B sv zs
 | .inl e=> .inl e
 | .inr ⟨b,off,cap,e,hb,hc⟩=> .inr ⟨b,off,cap,e,hb,fun j hj=>(h.cell (p:=⟨b,off+j,none⟩) hb).trans (hc j hj)⟩
set_option maxRecDepth 100000 in
set_option maxHeartbeats 1000000 in
theorem nk (F:Fence) (n:Nat) (h7:F.fn 107) (hro:F.round=none) (l Bs:Nat) (p:Option Addr) (c:Nat) (J:List Int→World→Prop) (W:World) (xM:W.cell? ⟨Bs,0,none⟩=some (.slice p 0 c)) (h0:J [] W):
 CallsIn F n Try.prog 107 #[.func (.yield l) #[] #[], .pointer (some ⟨Bs,0,none⟩)] W fun e W'=>(∃v,e= .returned v)∧J [] W':=by
 refine callsIn_of_wp Try.func107 rfl h7 ?_ hro
 simp only [Try.ntmps107,List.size_toArray,List.length_cons,List.length_nil,Nat.reduceAdd,Nat.reduceSub,Array.replicate_succ,Array.replicate_zero,List.push_toArray,List.append_toArray,List.nil_append,List.cons_append]
 gi_wp2
 gi_loopw [7] (fun i wr=>i= .int .i64 0∧J [] wr) (fun _ _=>0)
 case atStart=>exact ⟨rfl,h0⟩
 case round=>
  obtain ⟨rfl,Dy⟩:=hrel
  gi_wp2
  go_end0
  exact ⟨⟨_,rfl⟩,Dy⟩
theorem p4 (F:Fence) (n:Nat) (h7:F.fn 107) (hro:F.round=none) (hn:1≤n) (Bs n₀:Nat) (sv:Value) (zs:List Int) (gh:zs.length*8≤140737488351232) (w:World) (xM:Bs<w.heap.size) (hn₀:n₀≤w.heap.size)
 (hc:w.cell? ⟨Bs,0,none⟩=some sv) (hI:Ints n₀ w sv zs):
 SeqStopsK F n Try.prog 107 #[.pointer (some ⟨Bs,0,none⟩)] (fun x:Int=> #[Value.int .i64 x]) (Below n₀) (fun ys=>ys=zs) (fun pre=>pre<+:zs) zs.length w:=fun l J Jx W hW _ _ hY h0=>by
 have sr:=(hW.cell (p:=⟨Bs,0,none⟩) xM).trans hc
 rcases hI.below (hW.mono hn₀) with ⟨p,c,rfl,rfl⟩|⟨b,off,cap,rfl,hb,hcs⟩
 ·exact (nk F n h7 hro l Bs p c J W sr h0).mono fun e W' ⟨he,hj⟩=>⟨he, .inl ⟨_,rfl,hj⟩⟩
 ·refine (sM F n h7 hro hn l Bs n₀ b off zs.length cap zs gh hb J Jx hY W sr hcs h0).mono ?_
  rintro e W' ⟨he,⟨ys,rfl,hj⟩|⟨pre,⟨k,hk,rfl⟩,hj⟩⟩
  ·exact ⟨he, .inl ⟨_,xL zs,hj⟩⟩
  ·exact ⟨he, .inr ⟨_,by rw [uT zs hk];exact List.take_prefix _ _,hj⟩⟩
theorem zv:(Try.prog.info? 3).map (fun i=>(i.zero,i.size,i.bytes))=some (some (.int .i64 0),1,8):=by kernel_rfl
set_option maxRecDepth 100000 in
set_option maxHeartbeats 2000000 in
theorem p5 (F:Fence) (n:Nat) (h3:F.fn 117) (h5:F.fn 107) (hro:F.round=none) (hn:3≤n) (Bs:Nat) (sv:Value) (zs:List Int) (gh:zs.length*8≤140737488351232) (w:World) (xM:Bs<w.heap.size)
 (hcs:w.cell? ⟨Bs,0,none⟩=some sv) (hI:Ints w.heap.size w sv zs):
 CallsIn F n Try.prog 117 #[.slice none 0 0, .func (.func 107) #[] #[.pointer (some ⟨Bs,0,none⟩)]] w fun e W'=>∃v,e= .returned v∧W'.ownsRow w.heap.size 3 1 v zs.length (zs.map (Value.int .i64))∧(v= .slice none 0 0↔zs= [])∧Below w.heap.size w W':=by
 have h1:1≤n:=by omega
 obtain ⟨i0,hi,y6,Bt,Dt⟩:=info_parts zv
 refine callsIn_of_wp_marks Try.func117 rfl h3 ?_ hro
 simp only [Try.ntmps117,List.size_toArray,List.length_cons,List.length_nil,Nat.reduceAdd,Nat.reduceSub,Array.replicate_succ,Array.replicate_zero,List.push_toArray,List.append_toArray,List.nil_append,List.cons_append]
 gi_wp2
 have bO:=Boxed.new w 25 (.slice none 0 0)
 have Fz:Below w.heap.size w (w.alloc (.cells #[.slice none 0 0] 25)):=(Below.refl _ w).alloc (Nat.le_refl _) _
 refine wpIn_rangeFunc_ownG hro h1 (gf:=107) (lb:= #[.pointer (some ⟨Bs,0,none⟩)]) rfl h5 (enters_of Try.func107 (by kernel_rfl) rfl)
  (p4 F (n - 1) h5 hro (by omega) Bs w.heap.size sv zs gh _ (by simp;omega) (by simp) ((Fz.cell (p:=⟨Bs,0,none⟩) xM).trans hcs) (hI.below Fz)) belowK_t (belowK_b (by simp)) (Below.refl _ _) (fun _=>rfl)
  (fun pre W=>(∃v,Boxed W w.heap.size 25 v∧W.ownsRow w.heap.size 3 1 v pre.length (pre.map (Value.int .i64))∧(v= .slice none 0 0↔pre= []))∧Below w.heap.size w W)
  (fun _ _ _=>False)
  (OwnFrom.and (Own.from (holdsRow_own w.heap.size w.heap.size 25 3 1 (fun pre=>pre.length) (fun pre=>pre.map (Value.int .i64)) (fun pre v=>v= .slice none 0 0↔pre= [])) _) (ownFrom_below (Nat.le_refl _) (by simp)))
  (fun _ _ _ _ _ hs _ _=>hs)
  ⟨⟨_,bO,World.ownsRow_nil _ _ _ _,by simp⟩,Fz⟩
  (fun x=> {tmps:= #[.slice none 0 0, .func (.func 107) #[] #[.pointer (some ⟨Bs,0,none⟩)], .pointer (some ⟨w.heap.size,0,none⟩),undef, .slice none 0 0, .int .i64 x, .func (.func 107) #[] #[.pointer (some ⟨Bs,0,none⟩)], .int .i64 x,undef,undef,undef,undef,undef],defers:= []}) ?assign ?body ?done ?stop
 case assign=>
  intro l x W K hK
  gi_wp2
  exact hK
 case body=>
  rintro l pre x W ⟨⟨v,hv,hrow,l6⟩,hB⟩ hlt
  have hc:=hv.cell
  have hml:maxLen=9223372036854775807:=rfl
  gi_wp2_with (gi_at_builtin;refine wpListIn_append_own _ rfl _ _ 25 rfl w.heap.size 3 i0 (.int .i64 0) 1 8 Try.underlying25 hi y6 Bt Dt rfl (by decide) _ _ _ rfl (hrow.alloc _) ⟨W.heap.size,0,none⟩ 1 1 [.int .i64 x] rfl rfl (cell_one_new _ _ _) (by simp [Value.oneCell']) (by omega) (by omega) (by have:=hB.size;simp;omega) ?_;intro v' w1 hown' hgrow _;obtain ⟨g',cap',rfl⟩:=ownsRow_succ hown';obtain ⟨uL,xA,r6,hk2,aE⟩:=hv.appended (by decide) hrow hB.size (Nat.le_refl _) hown' hgrow;have hc1:=uL.cell;have Dz:=uL.frozen)
  exact ⟨hk2.from _,aE,⟨_,xA,by simpa using r6,by simp⟩,hB.trans aE⟩
 case done=>
  rintro D ys W hD rfl ⟨⟨v,hv,hrow,l6⟩,hB⟩ hK
  have hc:=hv.cell
  gi_wp2
  refine ⟨by simp, .inl ⟨_,_,rfl,run_takeDeferred hK, ?_⟩⟩
  exact ⟨_,results_tmp rfl _ _ _,v,rfl,ownsRow_putObj hrow _ hK rfl,l6,hB.trans (belowK_b (w:=w) (Nat.le_refl _) W D _ _ (by simp at hD;omega) hK rfl rfl)⟩
 case stop=>
  rintro D c pre W _ _ h _
  exact h.elim
set_option maxRecDepth 100000 in
set_option maxHeartbeats 2000000 in
theorem sN (F:Fence) (n:Nat) (h2:F.fn 105) (h3:F.fn 117) (h5:F.fn 107) (hro:F.round=none) (hn:4≤n) (Bs:Nat) (sv:Value) (zs:List Int) (gh:zs.length*8≤140737488351232) (w:World) (xM:Bs<w.heap.size)
 (hcs:w.cell? ⟨Bs,0,none⟩=some sv) (hI:Ints w.heap.size w sv zs):
 CallsIn F n Try.prog 105 #[.func (.func 107) #[] #[.pointer (some ⟨Bs,0,none⟩)]] w fun e W'=>∃v,e= .returned v∧W'.ownsRow w.heap.size 3 1 v zs.length (zs.map (Value.int .i64))∧(v= .slice none 0 0↔zs= [])∧Below w.heap.size w W':=by
 have h1:1≤n:=by omega
 refine callsIn_of_wp Try.func105 rfl h2 ?_ hro
 simp only [Try.ntmps105,List.size_toArray,List.length_cons,List.length_nil,Nat.reduceAdd,Nat.reduceSub,Array.replicate_succ,Array.replicate_zero,List.push_toArray,List.append_toArray,List.nil_append,List.cons_append]
 gi_wp2_with (gi_at_call 117;refine (p5 F (n - 1) h3 h5 hro (by omega) Bs sv zs gh _ xM hcs hI).mono ?_;rintro e W ⟨v,rfl,hrow,l6,hb⟩)
 go_ret
 exact ⟨v,rfl,hrow,l6,hb⟩
def eS (l:List Int):List Int:=l.mergeSort fun x y=>decide (x≤y)
set_option maxRecDepth 100000 in
set_option maxHeartbeats 2000000 in
theorem uU (F:Fence) (n:Nat) (vH:F.fn 80) (h2:F.fn 105) (h3:F.fn 117) (h5:F.fn 107) (h9:F.fn 106) (hro:F.round=none) (hn:5≤n)
 (hsort:∀(blk off cap:Nat) (ss:List Int) (W:World),Holds (Value.int .i64) W blk off ss.toArray→blk<W.heap.size→ss.length<4611686018427387904→
   CallsIn F (n - 1) Try.prog 106 #[.slice (some ⟨blk,off,none⟩) ss.length cap] W fun e w'=>e= .returned (.tuple #[])∧∃k os,w'=grow (putRow (Value.int .i64) (Sort.ahead W k) blk off (ss.mergeSort fun x y=>decide (x≤y)).toArray) os)
 (hnone:∀(p:Option Addr) (cap:Nat) (W:World),CallsIn F (n - 1) Try.prog 106 #[.slice p 0 cap] W fun e w'=>e= .returned (.tuple #[])∧w'=W) (Bs:Nat) (sv:Value) (zs:List Int) (gh:zs.length*8≤140737488351232) (w:World) (xM:Bs<w.heap.size)
 (hcs:w.cell? ⟨Bs,0,none⟩=some sv) (hI:Ints w.heap.size w sv zs):
 CallsIn F n Try.prog 80 #[.func (.func 107) #[] #[.pointer (some ⟨Bs,0,none⟩)]] w fun e W'=>∃v,e= .returned v∧W'.ownsRow w.heap.size 3 1 v zs.length ((eS zs).map (Value.int .i64))∧Below w.heap.size w W':=by
 have h1:1≤n:=by omega
 refine callsIn_of_wp Try.func80 rfl vH ?_ hro
 simp only [Try.ntmps80,List.size_toArray,List.length_cons,List.length_nil,Nat.reduceAdd,Nat.reduceSub,Array.replicate_succ,Array.replicate_zero,List.push_toArray,List.append_toArray,List.nil_append,List.cons_append]
 gi_wp2_with (gi_at_call 105;refine (sN F (n - 1) h2 h3 h5 hro (by omega) Bs sv zs gh _ xM hcs hI).mono ?_;rintro e W ⟨v,rfl,hrow,l6,hb⟩)
 rcases hrow.2 with ⟨rfl,hz⟩|⟨gb,cap,cur,rfl,hbase,FA,r1,r2,r3,r4⟩
 ·have Hz:zs= []:=List.eq_nil_of_length_eq_zero hz
  subst Hz
  have cS:=hnone none 0 W
  gi_wp2_with (gi_at_call 106;refine cS.mono ?_;rintro e w' ⟨rfl,rfl⟩)
  go_ret
  exact ⟨.slice none 0 0,rfl,by simpa [eS] using hrow,hb⟩
 ·have hH:Holds (Value.int .i64) W gb 0 zs.toArray:=holds_of_blockI FA (by simpa using r4)
  have yG:gb<W.heap.size:=(Array.getElem?_eq_some_iff.1 FA).1
  have hsz:zs.length<4611686018427387904:=by omega
  have cS:=hsort gb 0 cap zs W hH yG hsz
  gi_wp2_with (gi_at_call 106;refine cS.mono ?_;rintro e w' ⟨rfl,nn,os,rfl⟩)
  go_ret
  exact ⟨_,rfl,ownsRow_sortedI (by simp [eS]) hbase FA r1 r2 r3,hb.grown (grownBy_sortedI _) hb.size (fun j hj=>by cases hj;exact hbase)⟩
theorem p6 (Bs:Nat) (sv:Value) (zs:List Int) (gh:zs.length*8≤140737488351232) (w:World) (xM:Bs<w.heap.size)
 (hcs:w.cell? ⟨Bs,0,none⟩=some sv) (hI:Ints w.heap.size w sv zs):
 Calls Try.prog 80 #[.func (.func 107) #[] #[.pointer (some ⟨Bs,0,none⟩)]] w fun e W'=>∃v,e= .returned v∧W'.ownsRow w.heap.size 3 1 v zs.length ((eS zs).map (Value.int .i64))∧Below w.heap.size w W':=
 (callsIn_wide (n:=5)).1 (uU Fence.wide 5 trivial trivial trivial trivial trivial rfl (Nat.le_refl _)
   (fun blk off cap ss W h1 h2 h3=>callsIn_wide.2 (AnyM.slices_Sort_int Try.Ac blk off cap ss W h1 h2 h3))
   (fun p cap W=>callsIn_wide.2 (AnyM.slices_Sort_int_none Try.Ac p cap W)) Bs sv zs gh w xM hcs hI)
end Go.Ab
end
section
namespace Go.Ab
open Go.Proofs Go.RowKit
attribute [local congr] ACall.congr gd.congr Nx.congr
set_option maxRecDepth 10000
def Ad (E:Env) (w w':World):Env:=⟨E.ρ,E.σ,fun b=>if b<w.heap.size then E.z b else b7 w' b⟩
theorem sO {m:List (Nat × AObj)} {E:Env} {w w':World} (hg:Good m E w) (hb:Below w.heap.size w w'):aB w E.z w' (Ad E w w').z:=by
 intro b
 by_cases h:b<w.heap.size
 ·exact ⟨by simp [Ad,h],fun o _=>hb.cell (p:=⟨b,o,none⟩) h⟩
 ·have h0:=hg.fresh b (by omega)
  exact ⟨by rw [h0];exact Nat.zero_le _,fun o ho=>by rw [h0] at ho;omega⟩
theorem Spec.xN {P:Program} {f:Nat} {A:Env→World→List Value→Prop} {m:List (Nat × AObj)} {res:AV} (hR:aU m) (hc:pR P f)
 (h:∀E w vals,Good m E w→A E w vals→Calls P f vals.toArray w fun e w'=>∃v,e= .returned v∧Below w.heap.size w w'∧bC w' (Ad E w w') res v):Spec P f A m res m:=by
 refine ⟨hc,fun E w vals hg hA=>(h E w vals hg hA).mono ?_⟩
 rintro e w' ⟨v,rfl,hb,hv⟩
 have hst:=sO hg hb
 have jq:∀ {l o},aY m l=some o→look m l=some o:=fun hl=>(dW (fun p hp=>hR.nest p hp) hl).1
 have hro:∀ {l o},aY m l=some o→o.ro=true:=fun hl=>hR.ro _ (aK (jq hl))
 refine ⟨v,Ad E w w',rfl,⟨hb.os,hb.tape,hb.output,hb.size,hst,fun b h1 _=>⟨hb.block b h1,by simp [Ad,h1]⟩,fun _ _=>⟨rfl,rfl⟩⟩,⟨hg.low,hg.inj,fun l o hl=> ?_,fun b h1=> ?_⟩,fun l o b hl h1=> ?_,hv⟩
 ·have h0:=hg.fN l o hl
  have h1:=hro hl
  cases o<;>simp only [AObj.ro] at h1<;>try cases h1
  obtain ⟨b,vs,e,g1,g2,g3,g4,g5⟩:=h0
  have hlt:b<w.heap.size:=(Array.getElem?_eq_some_iff.1 g2).1
  exact ⟨b,vs,e,g1,(hb.block b hlt).trans g2,by simp [Ad,hlt,g3],AVrs.mono ⟨hst,fun _ _=>rfl,fun _ _=>rfl⟩ (fun _ _=>trivial) (live:=fun _=>True) g4,g5⟩
 ·simp only [Ad,b7]
  rw [if_neg (by have:=hb.size;omega),Array.getElem?_eq_none h1]
 ·rw [hro hl] at h1;cases h1
theorem AS {w:World} {z:Nat→Nat} {v:Value} {x:Int} (h:Rd w z v (.sc (.int .i64 x))):v= .int .i64 x:=by cases h;rfl
theorem zw {w:World} {z:Nat→Nat} {v:Value} {l:List Int} (h:Rd w z v (sI l)):Ints w.heap.size w v l:=by
 generalize hx:sI l=x at h
 cases h with
 |sc v h=>cases hx
 |pt b off cells vs hz hc hr=>cases hx
 |nil p sz=>
  simp only [sI,D.sl.injEq,List.map_eq_nil_iff] at hx
  exact .inl ⟨p,0,rfl,hx.2⟩
 |sl b off n cap sz rows vs hn hsz hz hcap hc hr=>
  simp only [sI,D.sl.injEq] at hx
  obtain ⟨rfl,rfl⟩:=hx
  rw [List.length_map] at hn
  subst hn
  rcases Nat.eq_zero_or_pos l.length with h0|hpos
  ·exact .inl ⟨some ⟨b,off,none⟩,cap,by rw [h0],List.eq_nil_of_length_eq_zero h0⟩
  refine .inr ⟨b,off,cap,rfl, ?_,fun j hj=> ?_⟩
  ·have:=hc 0 (by omega)
   by_cases hlt:b<w.heap.size
   ·exact hlt
   ·exfalso
    simp [World.cell?,Array.getElem?_eq_none (Nat.le_of_not_lt hlt)] at this
  ·have h1:=hc j (by omega)
   have h2:=hr j 0 (rI l[j]) (.sc (.int .i64 l[j])) (by simp [List.getElem?_eq_getElem hj]) rfl
   have h3:=AS h2
   simp only [Nat.mul_one,Nat.add_zero] at h3
   rw [h1,h3]
   simp [List.getElem?_eq_getElem hj]
theorem uV {w':World} {z:Nat→Nat} {base e:Nat} {v:Value} {l:List Int} (h:w'.ownsRow base e 1 v l.length (l.map (Value.int .i64))) (hz:∀b,base≤b→b7 w' b≤z b):Rd w' z v (sI l):=by
 rcases h.2 with ⟨rfl,h0⟩|⟨g,cap,cur,rfl,h1,h2,h3,h4,h5,h6⟩
 ·have:l= []:=List.eq_nil_of_length_eq_zero h0
  subst this
  exact .nil _ _
 ·have HA:=hz g h1
  simp only [b7,h2] at HA
  refine .sl g 0 l.length cap 1 _ (fun k=> .int .i64 (l.getD k 0)) (by simp) (by simp [rI]) (by omega) h3 (fun k hk=> ?_) (fun i j r x hi hj=> ?_)
  ·have h7:(cur.toList.take (l.length*1))[k]? =(l.map (Value.int .i64))[k]? :=by rw [h6]
   rw [List.getElem?_take_of_lt hk,Array.getElem?_toList] at h7
   have bT:k<l.length:=by omega
   simp only [World.cell?,h2,Nat.zero_add,Option.isSome_none,Bool.false_eq_true,if_false,h7,List.getElem?_map,List.getElem?_eq_getElem bT,Option.map_some,List.getD_eq_getElem?_getD,Option.getD_some]
  ·rw [List.getElem?_map] at hi
   obtain ⟨y,hy,rfl⟩:=Option.map_eq_some_iff.1 hi
   cases j with
   |succ j=>simp [rI] at hj
   |zero=>
    simp only [rI,List.getElem?_cons_zero,Option.some.injEq] at hj
    subst hj
    simp only [Nat.mul_one,Nat.add_zero,List.getD_eq_getElem?_getD,hy,Option.getD_some]
    exact .sc _ rfl
theorem di (l:List Int):(eS l).length=l.length:=by simp [eS]
theorem FB (l:List Int):aU [(10000, .rob [.d (sI l)])]:=⟨by simp [AObj.ro],by simp [nodupM,look],by simp,by simp [AObj.ids,AV.ids,AV.idss]⟩
theorem bG (l:List Int) (hl:l.length≤17592186043904):Spec Try.prog 80 (Args [.fn 107 [] [.ptr 10000 0]]) [(10000, .rob [.d (sI l)])] (.d (sI (eS l))) [(10000, .rob [.d (sI l)])]:=by
 refine Spec.xN (FB l) ⟨Try.f80,_,Try.func80,by kernel_rfl,rfl⟩ ?_
 intro E w vals hg hA
 obtain ⟨v,vs,rfl,h0,h3⟩:=hA
 obtain ⟨us,us',rfl,h1,h2⟩:=h0
 obtain ⟨u,B7,rfl,h4,h5⟩:=h2
 obtain ⟨B,hB,rfl⟩:=h4
 simp only [AVrs] at h1 h5 h3
 subst h1 h5 h3
 obtain ⟨b,ws,e,g1,g2,g3,g4,g5⟩:=hg.fN 10000 (.rob [.d (sI l)]) rfl
 obtain rfl:b=B:=by rw [g1] at hB;exact Option.some.inj hB
 obtain ⟨sv,IT,rfl,g6,g7⟩:=g4
 simp only [AVrs] at g7
 subst g7
 have hlt:b<w.heap.size:=(Array.getElem?_eq_some_iff.1 g2).1
 refine (p6 b sv l (by omega) w hlt (by simp [World.cell?,g2]) (zw g6)).mono ?_
 rintro e w' ⟨v,rfl,hrow,hb⟩
 refine ⟨v,rfl,hb, ?_⟩
 rw [← di] at hrow
 exact uV hrow fun b hb=>by simp only [Ad];rw [if_neg (by omega)];exact Nat.le_refl _
end Go.Ab
end
section
namespace Go.Ab
open Go.Proofs
attribute [local congr] ACall.congr gd.congr Nx.congr
set_option maxRecDepth 10000
set_option maxHeartbeats 8000000
def dx (f:Edge→Int) (es:List Edge) (k:Nat) (x:Nat):List Int:=((List.range k).filter fun i=>decide (f (es.getD i (0,0))=(x:Int))).map Int.ofNat
def jy (f:Edge→Int) (es:List Edge) (n k:Nat):List (List (List D)):=(List.range n).map fun x=>(dx f es k x).map rI
def sL (ls:List (List Int)):D:= .sl 1 (ls.map fun l=> [sI l])
def dy (f:Edge→Int) (g:Gr):List (List Int):=(List.range g.n.toNat).map (dx f g.es g.es.length)
def vw (g:Gr):D:= .pt [.sc (.int .i64 g.n),sE g.es,sL (dy (·.1) g),sL (dy (·.2) g)]
theorem bf {g:Gr} (h:aZ g=true):0<g.n∧g.n≤64∧g.es.length≤128:=by
 simp [aZ] at h;omega
theorem dM {g:Gr} (h:aZ g=true) {k:Nat} (hk:k<g.es.length):(0≤(g.es.getD k (0,0)).1∧(g.es.getD k (0,0)).1<g.n)∧(0≤(g.es.getD k (0,0)).2∧(g.es.getD k (0,0)).2<g.n):=by
 have h2:=xK (g:=g) hk
 rw [h] at h2
 have h3:¬nj g (g.es.getD k (0,0))=true:=fun e=>by simpa using h2 e
 simp only [nj,q8,Bool.or_eq_true,decide_eq_true_eq] at h3
 omega
theorem bH {f:Edge→Int} {es:List Edge} {n k:Nat} :(jy f es n k).length=n:=by simp [jy]
theorem gv {f:Edge→Int} {es:List Edge} {n k x:Nat} (hx:x<n):(jy f es n k)[x]? =some ((dx f es k x).map rI):=by
 simp [jy,List.getElem?_range hx]
theorem fh {f:Edge→Int} {es:List Edge} {k x:Nat} :(dx f es k x).length≤k:=by
 simpa [dx] using List.length_filter_le (fun i=>decide (f (es.getD i (0,0))=(x:Int))) (List.range k)
theorem sP {f:Edge→Int} {es:List Edge} {k x:Nat} :dx f es (k+1) x=dx f es k x++if f (es.getD k (0,0))=(x:Int) then [(k:Int)] else []:=by
 simp only [dx,List.range_succ,List.filter_append,List.map_append,List.filter_cons,List.filter_nil]
 split<;>simp_all
theorem nq {f:Edge→Int} {es:List Edge} {n k:Nat} (h0:0≤f (es.getD k (0,0))):
 (jy f es n k).set (f (es.getD k (0,0))).toNat ((dx f es k (f (es.getD k (0,0))).toNat).map rI++ [[.sc (.int .i64 k)]])=jy f es n (k+1):=by
 refine List.ext_getElem? fun i=> ?_
 rw [List.getElem?_set,bH]
 by_cases hi:i<n
 ·rw [gv hi,gv hi,sP]
  generalize f (es.getD k (0,0))=e at*
  by_cases hq:e=(i:Int)
  ·subst hq;simp [hi,rI]
  ·have:¬e.toNat=i:=by omega
   simp [hq,this]
 ·rw [List.getElem?_eq_none (by rw [bH];omega),List.getElem?_eq_none (by rw [bH];omega)]
  generalize f (es.getD k (0,0))=e at*
  split
  ·rename_i hq;rw [if_neg (by omega)]
  ·rfl
theorem nr {f:Edge→Int} {es:List Edge} {n:Nat} :List.replicate n []=jy f es n 0:=by
 refine List.ext_getElem? fun i=> ?_
 by_cases hi:i<n
 ·rw [gv hi];simp [hi,dx]
 ·rw [List.getElem?_eq_none (by simp;omega),List.getElem?_eq_none (by rw [bH];omega)]
theorem eW (g:Gr) (hm:aZ g=true):Spec Try.prog 57 (Args [eG g]) [] (.d (vw g)) []:=by
 have hn:=bf hm
 have hl:g.es.length≤9223372036854775807:=by omega
 have hl':g.es.length≤1000000:=by omega
 (refine Spec.hd (C:=T.cfg [] [13,16]) (rs:= [.t 2]) (T.aj _ _) Try.func57 rfl rfl Try.ntmps57 Try.results57 (by simp [AObj.isNest]) (by simp [AObj.isNest]) (by kernel_rfl) T.mixed fun X hX hP hC aR cL=> ?_)
 repeat' (first|refine Rn.p ?_|(with_reducible apply And.intro)|((first|(refine hK _ ?_;clear hK K)|with_reducible intro K hK|refine Rs.p ?_|((with_reducible first|apply oP|apply oQ);exact rfl)|refine aa hX hC hP (ez g hl) rfl rfl rfl (by simp only [go_sem,simprocAttr,hm]) rfl ?_|refine aa hX hC hP (iM g.es hl') rfl rfl rfl (by simp only [go_sem,simprocAttr,hm]) rfl ?_);try simp only [go_sem,simprocAttr,hm])|((with_reducible refine oD ?_ ?_);kernel_rfl)|((with_reducible intro h);try simp only [go_sem,simprocAttr,hm] at h)|omega|intro h)
 refine qY hX 13 (by simp [go_sem,simprocAttr,hm];exact ⟨rfl,rfl,rfl,rfl⟩) (by decide) (by simp [go_sem,simprocAttr,hm]) (by simp [go_sem,simprocAttr,hm]) ?_
 refine qY hX 16 (by simp [go_sem,simprocAttr,hm];exact ⟨rfl,rfl,rfl,rfl⟩) (by decide) (by simp [go_sem,simprocAttr,hm]) (by simp [go_sem,simprocAttr,hm]) ?_
 simp only [go_sem,simprocAttr,hm]
 refine au (fun k:Nat=>k≤g.es.length) (fun k=>⟨[(29,eN k),(28,eN g.es.length),(27, .d (sE g.es)),(3, .ptr 18 0)], [(18, .box [eN g.n, .d (sE g.es), .ref 13, .ref 16]),(16, .nest 25 3 1 (jy (·.2) g.es g.n.toNat k) none),(13, .nest 25 3 1 (jy (·.1) g.es g.n.toNat k) none)]⟩) (fun k=>g.es.length - k) 0 (by simp) ?_ ?_
 ·refine Le.of ?_ ?_<;>simp [go_sem,simprocAttr,hm]
  exact ⟨nr,nr⟩
 rintro k hk
 rcases Nat.lt_or_ge k g.es.length with hlt|hge
 ·have hb:decide ((k:Int)<(g.es.length:Int))=true:=decide_eq_true (by omega)
  obtain ⟨rZ,wS⟩:=dM hm hlt
  have tU:=gv (f:=(·.1)) (es:=g.es) (k:=k) (show (g.es.getD k (0,0)).1.toNat<g.n.toNat by omega)
  have qs:=gv (f:=(·.2)) (es:=g.es) (k:=k) (show (g.es.getD k (0,0)).2.toNat<g.n.toNat by omega)
  have uW:=fh (f:=(·.1)) (es:=g.es) (k:=k) (x:=(g.es.getD k (0,0)).1.toNat)
  have Bu:=fh (f:=(·.2)) (es:=g.es) (k:=k) (x:=(g.es.getD k (0,0)).2.toNat)
  repeat' (first|refine Rn.p ?_|(with_reducible apply And.intro)|((first|(refine hK _ ?_;clear hK K)|with_reducible intro K hK|refine Rs.p ?_|((with_reducible first|apply oP|apply oQ);exact rfl)|refine aa hX hC hP (ez g hl) rfl rfl rfl (by simp only [go_sem,simprocAttr,hm,hb,tU,qs,bH]) rfl ?_|refine aa hX hC hP (iM g.es hl') rfl rfl rfl (by simp only [go_sem,simprocAttr,hm,hb,tU,qs,bH]) rfl ?_);try simp only [go_sem,simprocAttr,hm,hb,tU,qs,bH])|((with_reducible refine oD ?_ ?_);first|(focus (simp only [qF,jh,eR,meets,mS,jJ,uH,cB,ki,jx,Rec.rs,Rec.kS,Rec.z2,dK,Rec.cw,Rec.names,KV.ids,xq,xu,xw,xx,xy,xz,List.zip_cons_cons,List.zip_nil_right,List.zipIdx_cons,List.zipIdx_nil,List.all_cons,List.all_nil,List.contains_cons,List.contains_nil,List.any_cons,List.any_nil,List.flatMap_nil,List.reverse_cons,List.reverse_nil,ga,uG,Region.binds,go_sem,simprocAttr,hm,hb,tU,qs,bH];done))|kernel_rfl)|((with_reducible intro h);try simp only [go_sem,simprocAttr,hm,hb,tU,qs,bH] at h)|omega|intro h)
  refine ⟨k+1,by omega, ?_,by omega⟩
  refine Le.of ?_ ?_<;>simp [go_sem,simprocAttr,hm,hb,tU,qs,bH]
  exact ⟨nq (f:=(·.2)) wS.1,nq (f:=(·.1)) rZ.1⟩
 ·repeat' (first|refine Rn.p ?_|(with_reducible apply And.intro)|((first|(refine hK _ ?_;clear hK K)|with_reducible intro K hK|refine Rs.p ?_|((with_reducible first|apply oP|apply oQ);exact rfl)|refine aa hX hC hP (ez g hl) rfl rfl rfl (by simp only [go_sem,simprocAttr]) rfl ?_|refine aa hX hC hP (iM g.es hl') rfl rfl rfl (by simp only [go_sem,simprocAttr]) rfl ?_);try simp only [go_sem,simprocAttr])|((with_reducible refine oD ?_ ?_);first|(focus (simp only [qF,jh,eR,meets,mS,jJ,uH,cB,ki,jx,Rec.rs,Rec.kS,Rec.z2,dK,Rec.cw,Rec.names,KV.ids,xq,xu,xw,xx,xy,xz,List.zip_cons_cons,List.zip_nil_right,List.zipIdx_cons,List.zipIdx_nil,List.all_cons,List.all_nil,List.contains_cons,List.contains_nil,List.any_cons,List.any_nil,List.flatMap_nil,List.reverse_cons,List.reverse_nil,ga,uG,Region.binds,go_sem,simprocAttr];done))|kernel_rfl)|((with_reducible intro h);try simp only [go_sem,simprocAttr] at h)|omega|intro h)
  have:k=g.es.length:=by omega
  subst this
  simp only [vw,sE,sL,dy,jy,List.map_map]
  rfl
end Go.Ab
end
section
namespace Go.Ab
open Go.Proofs
attribute [local congr] ACall.congr gd.congr Nx.congr
set_option maxRecDepth 10000
def tl (g:Gr) (i:Nat):Int:=(g.es.getD i (0,0)).1
def hd (g:Gr) (i:Nat):Int:=(g.es.getD i (0,0)).2
def wt (g:Gr) (out:List Int) (y:Nat):Int:=
 if (y:Int)∈out then -1 else (((List.range g.es.length).countP fun i=>decide (hd g i=(y:Int))&& !decide (tl g i∈out):Nat):Int)
def bW (g:Gr) (out:List Int):List Int:=(List.range g.n.toNat).map (wt g out)
def oq (g:Gr):Nat→List Int→List Int
 |0,out=>out
 |f+1,out=>if fP (bW g out) 0<0 then out else oq g f (out++ [fP (bW g out) 0])
def aH (g:Gr):List Int:=oq g g.n.toNat []
structure c7 (g:Gr) (out:List Int):Prop where
 lo:∀x∈out,0≤x∧x<g.n
 back:∀i,i<g.es.length→hd g i∈out→tl g i∈out
 fuel:out.length+(List.range g.n.toNat).countP (fun y:Nat=> !decide ((y:Int)∈out))=g.n.toNat
theorem fE {α:Type} {f:α→Bool} {l:List α} (d:α):bw f l= -1∧(∀x∈l,f x=false)∨∃k:Nat,bw f l=k∧k<l.length∧f (l.getD k d)=true∧∀j,j<k→f (l.getD j d)=false:=by
 cases h:l.findIdx? f with
 |none=>
  rw [List.findIdx?_eq_none_iff] at h
  exact .inl ⟨by simp [bw,List.findIdx?_eq_none_iff.2 h],h⟩
 |some i=>
  obtain ⟨hi,hg,hb⟩:=List.findIdx?_eq_some_iff_getElem.1 h
  refine .inr ⟨i,by simp [bw,h],hi,by simpa [List.getD_eq_getElem?_getD,List.getElem?_eq_getElem hi] using hg,fun j hj=> ?_⟩
  have hjl:j<l.length:=by omega
  have:=hb j hj
  simpa [List.getD_eq_getElem?_getD,List.getElem?_eq_getElem hjl] using this
theorem wts_length {g:Gr} {out:List Int} :(bW g out).length=g.n.toNat:=by simp [bW]
theorem iO {g:Gr} {out:List Int} {y:Nat} (h:y<g.n.toNat) (d:Int):(bW g out).getD y d=wt g out y:=by
 simp [bW,List.getD_eq_getElem?_getD,List.getElem?_range h]
theorem iP {p:Nat→Bool} {x:Nat} (hx:p x=true):∀ {n:Nat},x<n→(List.range n).countP (fun y=>p y&& !decide (y=x))+1=(List.range n).countP p
 |0,h=>by omega
 |n+1,h=>by
  rw [List.range_succ,List.countP_append,List.countP_append]
  by_cases xO:x=n
  ·subst xO
   have:(List.range x).countP (fun y=>p y&& !decide (y=x))=(List.range x).countP p:=by
    refine List.countP_congr fun y hy=> ?_
    have:y≠x:=by have:=List.mem_range.1 hy;omega
    simp [this]
   rw [this]
   simp [List.countP_cons,hx]
  ·have:=iP hx (n:=n) (by omega)
   have hn:n≠x:=fun e=>xO e.symm
   simp only [List.countP_cons,List.countP_nil,hn,decide_false,Bool.not_false,Bool.and_true]
   omega
theorem c7.nil (g:Gr):c7 g []:=⟨by simp,by simp,by rw [List.countP_eq_length_filter,List.filter_eq_self.2 (by simp)];simp⟩
theorem c7.next {g:Gr} (hm:aZ g=true) {out:List Int} (h:c7 g out) {x:Nat} (hx:x<g.n.toNat) (hw:wt g out x=0):c7 g (out++ [(x:Int)])∧(x:Int)∉out∧(∀i,i<g.es.length→hd g i=x→tl g i∈out):=by
 have gL:(x:Int)∉out:=fun hi=>by simp [wt,hi] at hw
 have hb:∀i,i<g.es.length→hd g i=x→tl g i∈out:=by
  intro i hi he
  simp only [wt,gL,if_false] at hw
  have:=List.countP_eq_zero.1 (Int.ofNat.inj hw) i (List.mem_range.2 hi)
  simpa [he] using this
 refine ⟨⟨?_, ?_, ?_⟩,gL,hb⟩
 ·intro y hy
  rcases List.mem_append.1 hy with hy|hy
  ·exact h.lo y hy
  ·simp at hy;omega
 ·intro i hi hh
  rcases List.mem_append.1 hh with hh|hh
  ·exact List.mem_append_left _ (h.back i hi hh)
  ·simp at hh
   exact List.mem_append_left _ (hb i hi hh)
 ·have h1:=h.fuel
  have h2:=iP (p:=fun y:Nat=> !decide ((y:Int)∈out)) (x:=x) (by simp [gL]) hx
  have h3:(List.range g.n.toNat).countP (fun y:Nat=> !decide ((y:Int)∈out++ [(x:Int)]))=(List.range g.n.toNat).countP (fun y:Nat=>(!decide ((y:Int)∈out))&& !decide (y=x)):=by
   refine List.countP_congr fun y _=> ?_
   simp;omega
  rw [h3,List.length_append,List.length_singleton]
  omega
def fQ (g:Gr) (x:Nat):List Int:=dx (·.1) g.es g.es.length x
def k8 (g:Gr) (x:Nat):List Int:=dx (·.2) g.es g.es.length x
theorem xP {g:Gr} {x:Nat} {e:Int} (h:e∈fQ g x):∃i:Nat,e=i∧i<g.es.length∧tl g i=x:=by
 simp only [fQ,dx,List.mem_map,List.mem_filter,List.mem_range,decide_eq_true_eq] at h
 obtain ⟨i,⟨h1,h2⟩,rfl⟩:=h
 exact ⟨i,rfl,h1,h2⟩
def vO (g:Gr) (out:List Int) (x j y:Nat):Int:=
 if (y:Int)∈out++ [(x:Int)] then -1 else (((List.range g.es.length).countP fun i=>decide (hd g i=(y:Int))&& !decide (tl g i∈out):Nat):Int) - (((fQ g x).take j).countP fun e=>decide (hd g e.toNat=(y:Int)):Nat)
def ot (g:Gr) (out:List Int) (x j:Nat):List Int:=(List.range g.n.toNat).map (vO g out x j)
theorem wtps_length {g:Gr} {out:List Int} {x j:Nat} :(ot g out x j).length=g.n.toNat:=by simp [ot]
theorem kr {g:Gr} {out:List Int} {x j y:Nat} (h:y<g.n.toNat):(ot g out x j)[y]? =some (vO g out x j y):=by
 simp [ot,List.getElem?_range h]
theorem gW {g:Gr} {out:List Int} {y:Nat} (h:y<g.n.toNat):(bW g out)[y]? =some (wt g out y):=by
 simp [bW,List.getElem?_range h]
theorem uX {g:Gr} {out:List Int} {x:Nat} :(bW g out).set x (-1)=ot g out x 0:=by
 refine List.ext_getElem? fun i=> ?_
 rw [List.getElem?_set,wts_length]
 by_cases hi:i<g.n.toNat
 ·rw [gW hi,kr hi]
  by_cases hx:x=i
  ·subst hx;simp [hi,vO]
  ·have:¬i=x:=fun e=>hx e.symm
   simp only [hx,if_false,vO,wt,List.mem_append,List.mem_singleton,List.take_zero,List.countP_nil]
   have h2:¬(i:Int)=(x:Int):=by omega
   simp [h2]
 ·rw [List.getElem?_eq_none (by rw [wts_length];omega),List.getElem?_eq_none (by rw [wtps_length];omega)]
  split
  ·rw [if_neg (by omega)]
  ·rfl
theorem gX {α:Type} {p q r:α→Bool} :∀ {l:List α},(∀a∈l,p a=(q a||r a)∧(q a&&r a)=false)→l.countP p=l.countP q+l.countP r
 | [],_=>rfl
 |a::l,h=>by
  obtain ⟨h1,h2⟩:=h a List.mem_cons_self
  have:=gX (l:=l) fun b hb=>h b (List.mem_cons_of_mem _ hb)
  simp only [List.countP_cons,this,h1]
  cases hq:q a<;>cases hr:r a<;>simp [hq,hr] at h2 ⊢ <;>omega
theorem xQ {g:Gr} {out:List Int} {x j:Nat} (hx:(x:Int)∉out) (hj:(fQ g x).length≤j):ot g out x j=bW g (out++ [(x:Int)]):=by
 refine List.map_congr_left fun y _=> ?_
 simp only [vO,wt]
 split
 ·rfl
 ·rw [List.take_of_length_le hj]
  have h1:(fQ g x).countP (fun e=>decide (hd g e.toNat=(y:Int)))=(List.range g.es.length).countP (fun i=>decide (hd g i=(y:Int))&&decide (tl g i=(x:Int))):=by
   simp only [fQ,dx,List.countP_map,List.countP_filter]
   exact List.countP_congr fun i _=>by simp [tl]
  have h2:=gX (p:=fun i=>decide (hd g i=(y:Int))&& !decide (tl g i∈out)) (q:=fun i=>decide (hd g i=(y:Int))&& !decide (tl g i∈out++ [(x:Int)])) (r:=fun i=>decide (hd g i=(y:Int))&&decide (tl g i=(x:Int))) (l:=List.range g.es.length) (fun i _=>by
   by_cases h3:tl g i=x
   ·simp [h3,hx]
   ·simp [h3])
  rw [h1,h2];omega
theorem AT {g:Gr} {out:List Int} {x:Nat} (hP:c7 g out) (gL:(x:Int)∉out) (hb:∀i,i<g.es.length→hd g i=x→tl g i∈out) {i:Nat} (hi:i<g.es.length) (ht:tl g i=x):hd g i∉out++ [(x:Int)]:=by
 intro h
 rcases List.mem_append.1 h with h|h
 ·exact gL (ht ▸ hP.back i hi h)
 ·simp at h
  exact gL (ht ▸ hb i hi h)
theorem uY {g:Gr} {out:List Int} {x j i:Nat} (hj:(fQ g x)[j]? =some (i:Int)) (h0:0≤hd g i) (hn:hd g i∉out++ [(x:Int)]):
 (ot g out x j).set (hd g i).toNat (vO g out x j (hd g i).toNat - 1)=ot g out x (j+1):=by
 refine List.ext_getElem? fun y=> ?_
 rw [List.getElem?_set,wtps_length]
 by_cases hy:y<g.n.toNat
 ·rw [kr hy,kr hy]
  have ht:((fQ g x).take (j+1)).countP (fun e=>decide (hd g e.toNat=(y:Int)))=((fQ g x).take j).countP (fun e=>decide (hd g e.toNat=(y:Int)))+if hd g i=(y:Int) then 1 else 0:=by
   rw [List.take_add_one,List.countP_append,hj]
   simp [List.countP_cons]
  by_cases hq:(hd g i).toNat=y
  ·subst hq
   have he:((hd g i).toNat:Int)=hd g i:=by omega
   rw [if_pos rfl,if_pos (by assumption)]
   rw [he,if_pos rfl] at ht
   simp only [vO,he,hn,if_false,ht]
   congr 1;omega
  ·rw [if_neg hq]
   have jd:¬hd g i=(y:Int):=by omega
   simp only [vO,ht,jd,if_false,Nat.add_zero]
 ·rw [List.getElem?_eq_none (by rw [wtps_length];omega),List.getElem?_eq_none (by rw [wtps_length];omega)]
  split
  ·rw [if_neg (by omega)]
  ·rfl
def zx (f:Edge→Int) (g:Gr):List (List D):=(dy f g).map fun l=> [sI l]
theorem ku {f:Edge→Int} {g:Gr} {x:Nat} (h:x<g.n.toNat) (d:List D):(zx f g).getD x d= [sI (dx f g.es g.es.length x)]:=by
 simp [zx,dy,List.getD_eq_getElem?_getD,List.getElem?_range h]
theorem vwl_length {f:Edge→Int} {g:Gr} :(zx f g).length=g.n.toNat:=by simp [zx,dy]
def Bv (g:Gr):D:= .pt [.sc (.int .i64 g.n),sE g.es, .sl 1 (zx (·.1) g), .sl 1 (zx (·.2) g)]
theorem ah (g:Gr):vw g=Bv g:=rfl
attribute [go_sem] Bv wtps_length wts_length vwl_length
theorem xR {g:Gr} {k:Nat} (h:k<g.n.toNat):(bW g []).take (k+1)=(bW g []).take k++ [((k8 g k).length:Int)]:=by
 rw [List.take_add_one,gW h]
 simp [wt,k8,dx,hd,List.countP_eq_length_filter]
theorem uZ {g:Gr} (hm:aZ g=true) {out:List Int} {x j y:Nat} : -1000≤vO g out x j y∧vO g out x j y≤1000:=by
 have hn:=bf hm
 have h1:=List.countP_le_length (p:=fun i=>decide (hd g i=(y:Int))&& !decide (tl g i∈out)) (l:=List.range g.es.length)
 have h2:=List.countP_le_length (p:=fun e:Int=>decide (hd g e.toNat=(y:Int))) (l:=(fQ g x).take j)
 have h3:((fQ g x).take j).length≤g.es.length:=Nat.le_trans (List.length_take_le' _ _) fh
 simp only [List.length_range] at h1
 unfold vO
 split<;>omega
theorem ru {g:Gr} {out:List Int} (h:fP (bW g out) 0<0):∀f,oq g f out=out
 |0=>rfl
 |f+1=>by simp [oq,h]
def left (g:Gr) (out:List Int):Nat:=(List.range g.n.toNat).countP (fun y:Nat=> !decide ((y:Int)∈out))
theorem oO {g:Gr} {out:List Int} {x:Nat} (h:c7 g out) (h':c7 g (out++ [(x:Int)])):left g out=left g (out++ [(x:Int)])+1:=by
 have h1:=h.fuel
 have h2:=h'.fuel
 rw [List.length_append,List.length_singleton] at h2
 unfold left;omega
theorem CJ {g:Gr} (out:List Int):fP (bW g out) 0= -1∨∃x:Nat,fP (bW g out) 0=x∧x<g.n.toNat∧wt g out x=0:=by
 rcases fE (f:=fun y:Int=>decide (0=y)) (l:=bW g out) 0 with ⟨h,_⟩|⟨k,h1,h2,h3,_⟩
 ·exact .inl h
 ·rw [wts_length] at h2
  rw [iO h2] at h3
  exact .inr ⟨k,h1,h2,by simpa using (of_decide_eq_true h3).symm⟩
theorem gw (g:Gr) (hm:aZ g=true):Spec Try.prog 100 (Args [.d (vw g)]) [] (.tup [.d (sI (aH g)), .d (sI (bW g (aH g)))]) []:=by
 rw [ah]
 have hn:=bf hm
 (refine Spec.hd (C:=T.cfg [22] []) (rs:= [.t 2, .t 3]) (T.aj _ _) Try.func100 rfl rfl Try.ntmps100 Try.results100 (by simp [AObj.isNest]) (by simp [AObj.isNest]) (by kernel_rfl) T.mixed fun X hX hP hC aR cL=> ?_)
 repeat' (first|refine Rn.p ?_|(with_reducible apply And.intro)|((first|(refine hK _ ?_;clear hK K)|with_reducible intro K hK|refine Rs.p ?_|((with_reducible first|apply oP|apply oQ);exact rfl)|(refine ai hX hC hP (aJ (bW g out) 0 tV) rfl rfl rfl ?_ ?_ ?_ ?_;iterate 3 (focus (simp only [go_sem,simprocAttr];done))));try simp only [go_sem,simprocAttr])|((with_reducible refine oD ?_ ?_);kernel_rfl)|((with_reducible intro h);try simp only [go_sem,simprocAttr] at h)|omega|intro h)
 (refine eV hX 3 22 (.own 3 1 []) (by simp only [go_sem,simprocAttr]) (by simp only [go_sem,simprocAttr]) (by decide) ⟨3,1,by decide, .inl rfl⟩ ?_;simp only [go_sem,simprocAttr])
 refine au (fun k:Nat=>k≤g.n.toNat) (fun k=>⟨[(14,eN k),(13,eN g.n.toNat),(12, .d (.sl 1 (zx (·.2) g))),(3, .ref 22),(2, .nil 3),(0, .d (Bv g))], [(22, .own 3 1 (((bW g []).take k).map rI))]⟩) (fun k=>g.n.toNat - k) 0 (by simp) ?_ ?_
 ·(refine Le.of ?_ ?_<;>simp [go_sem,simprocAttr])
 ·rintro k hk
  rcases Nat.lt_or_ge k g.n.toNat with hlt|hge
  ·have hb:decide ((k:Int)<(g.n.toNat:Int))=true:=decide_eq_true (by omega)
   have hv:=ku (f:=(·.2)) hlt
   have uW:(k8 g k).length≤g.es.length:=fh
   have hlt':((bW g []).take k).length≤64:=by rw [List.length_take,wts_length];omega
   repeat' (first|refine Rn.p ?_|(with_reducible apply And.intro)|((first|(refine hK _ ?_;clear hK K)|with_reducible intro K hK|refine Rs.p ?_|((with_reducible first|apply oP|apply oQ);exact rfl)|(refine ai hX hC hP (aJ (bW g out) 0 tV) rfl rfl rfl ?_ ?_ ?_ ?_;iterate 3 (focus (simp only [go_sem,simprocAttr,hb,hv];done))));try simp only [go_sem,simprocAttr,hb,hv])|((with_reducible refine oD ?_ ?_);kernel_rfl)|((with_reducible intro h);try simp only [go_sem,simprocAttr,hb,hv] at h)|omega|intro h)
   refine ⟨k+1,by omega, ?_,by omega⟩
   refine Le.of ?_ ?_<;>simp [go_sem,simprocAttr,hb,hv,xR hlt]
   rfl
  ·obtain rfl:k=g.n.toNat:=by omega
   have hb:decide ((g.n.toNat:Int)<(g.n.toNat:Int))=false:=decide_eq_false (by omega)
   have ht:(bW g []).take g.n.toNat=bW g []:=List.take_of_length_le (by rw [wts_length];omega)
   repeat' (first|refine Rn.p ?_|(with_reducible apply And.intro)|((first|(refine hK _ ?_;clear hK K)|with_reducible intro K hK|refine Rs.p ?_|((with_reducible first|apply oP|apply oQ);exact rfl)|(refine ai hX hC hP (aJ (bW g out) 0 tV) rfl rfl rfl ?_ ?_ ?_ ?_;iterate 3 (focus (simp only [go_sem,simprocAttr,hb,ht];done))));try simp only [go_sem,simprocAttr,hb,ht])|((with_reducible refine oD ?_ ?_);kernel_rfl)|((with_reducible intro h);try simp only [go_sem,simprocAttr,hb,ht] at h)|omega|intro h)
   (refine eV hX 2 33 (.tip 3 1 []) (by simp only [go_sem,simprocAttr,hb,ht]) (by simp only [go_sem,simprocAttr,hb,ht]) (by decide) ⟨3,1,by decide, .inr rfl⟩ ?_;simp only [go_sem,simprocAttr,hb,ht])
   refine au (fun out:List Int=>c7 g out∧oq g (left g out) out=aH g) (fun out=>⟨[(3, .ref 22),(2, .ref 33),(0, .d (Bv g))], [(22, .own 3 1 ((bW g out).map rI)),(33, .tip 3 1 (out.map rI))]⟩) (left g) [] ⟨c7.nil g, ?_⟩ ?_ ?_
   ·have:=(c7.nil g).fuel
    simp only [List.length_nil,Nat.zero_add] at this
    unfold left aH
    rw [this]
   ·(refine Le.of ?_ ?_<;>simp [go_sem,simprocAttr,hb,ht])
   rintro out ⟨fS,hrun⟩
   have tV:(bW g out).length≤9223372036854775807:=by rw [wts_length];omega
   have hout:out.length≤64:=by have:=fS.fuel;omega
   rcases CJ (g:=g) out with hx|⟨x,hx,xO,hw0⟩
   ·have hr:=ru (g:=g) (out:=out) (by omega) (left g out)
    rw [hrun] at hr
    repeat' (first|refine Rn.p ?_|(with_reducible apply And.intro)|((first|(refine hK _ ?_;clear hK K)|with_reducible intro K hK|refine Rs.p ?_|((with_reducible first|apply oP|apply oQ);exact rfl)|(refine ai hX hC hP (aJ (bW g out) 0 tV) rfl rfl rfl ?_ ?_ ?_ ?_;iterate 3 (focus (simp only [go_sem,simprocAttr,hx];done))));try simp only [go_sem,simprocAttr,hx])|((with_reducible refine oD ?_ ?_);kernel_rfl)|((with_reducible intro h);try simp only [go_sem,simprocAttr,hx] at h)|omega|intro h)
    ·rw [hr]
    ·rw [hr]
   ·obtain ⟨jI,gL,Dw⟩:=fS.next hm xO hw0
    have ak:decide ((x:Int)<0)=false:=decide_eq_false (by omega)
    have hv:=ku (f:=(·.1)) xO
    have uW:(fQ g x).length≤g.es.length:=fh
    repeat' (first|refine Rn.p ?_|(with_reducible apply And.intro)|((first|(refine hK _ ?_;clear hK K)|with_reducible intro K hK|refine Rs.p ?_|((with_reducible first|apply oP|apply oQ);exact rfl)|(refine ai hX hC hP (aJ (bW g out) 0 tV) rfl rfl rfl ?_ ?_ ?_ ?_;iterate 3 (focus (simp only [go_sem,simprocAttr,hx,ak,hv];done))));try simp only [go_sem,simprocAttr,hx,ak,hv])|((with_reducible refine oD ?_ ?_);kernel_rfl)|((with_reducible intro h);try simp only [go_sem,simprocAttr,hx,ak,hv] at h)|omega|intro h)
    refine au (fun j:Nat=>j≤(fQ g x).length) (fun j=>⟨[(45,eN j),(44,eN (fQ g x).length),(43, .d (sI (fQ g x))),(3, .ref 22),(2, .ref 33),(0, .d (Bv g))], [(22, .own 3 1 ((ot g out x j).map rI)),(33, .tip 3 1 ((out++ [(x:Int)]).map rI))]⟩) (fun j=>(fQ g x).length - j) 0 (by simp) ?_ ?_
    ·refine Le.of ?_ ?_<;>simp [go_sem,simprocAttr,hx,ak,hv,fQ,rI]
     rw [← uX,List.map_set];rfl
    rintro j hj
    rcases Nat.lt_or_ge j (fQ g x).length with hlt|hge
    ·have aE:decide ((j:Int)<((fQ g x).length:Int))=true:=decide_eq_true (by omega)
     obtain ⟨i,hi,hil,hit⟩:=xP (List.getElem_mem hlt)
     have hi1:(fQ g x)[j]? =some (i:Int):=by rw [List.getElem?_eq_getElem hlt,hi]
     have hi2:(fQ g x).getD j 0=(i:Int):=by rw [List.getD_eq_getElem?_getD,hi1];rfl
     have hnew:=AT fS gL Dw hil hit
     obtain ⟨_,Gw,rZ⟩:=dM hm hil
     have hnext:=uY hi1 Gw hnew
     have hw:(ot g out x j).getD (g.es.getD i (0,0)).2.toNat 0=vO g out x j (hd g i).toNat:=by
      rw [List.getD_eq_getElem?_getD,kr (by omega)];rfl
     have hbd:=uZ hm (out:=out) (x:=x) (j:=j) (y:=(hd g i).toNat)
     repeat' (first|refine Rn.p ?_|(with_reducible apply And.intro)|((first|(refine hK _ ?_;clear hK K)|with_reducible intro K hK|refine Rs.p ?_|((with_reducible first|apply oP|apply oQ);exact rfl)|(refine ai hX hC hP (aJ (bW g out) 0 tV) rfl rfl rfl ?_ ?_ ?_ ?_;iterate 3 (focus (simp only [go_sem,simprocAttr,aE,hi2,hw];done))));try simp only [go_sem,simprocAttr,aE,hi2,hw])|((with_reducible refine oD ?_ ?_);kernel_rfl)|((with_reducible intro h);try simp only [go_sem,simprocAttr,aE,hi2,hw] at h)|omega|intro h)
     refine ⟨j+1,by omega, ?_,by omega⟩
     refine Le.of ?_ ?_<;>simp [go_sem,simprocAttr,aE,hi2,hw]
     rw [← hnext,List.map_set];rfl
    ·have aE:decide ((j:Int)<((fQ g x).length:Int))=false:=decide_eq_false (by omega)
     repeat' (first|refine Rn.p ?_|(with_reducible apply And.intro)|((first|(refine hK _ ?_;clear hK K)|with_reducible intro K hK|refine Rs.p ?_|((with_reducible first|apply oP|apply oQ);exact rfl)|(refine ai hX hC hP (aJ (bW g out) 0 tV) rfl rfl rfl ?_ ?_ ?_ ?_;iterate 3 (focus (simp only [go_sem,simprocAttr,aE];done))));try simp only [go_sem,simprocAttr,aE])|((with_reducible refine oD ?_ ?_);kernel_rfl)|((with_reducible intro h);try simp only [go_sem,simprocAttr,aE] at h)|omega|intro h)
     have HB:=oO fS jI
     refine ⟨out++ [(x:Int)],⟨jI, ?_⟩, ?_,by omega⟩
     ·rw [← hrun,HB]
      simp only [oq,hx]
      rw [if_neg (by omega)]
     ·refine Le.of ?_ ?_<;>simp [go_sem,simprocAttr,aE,xQ gL hge]
end Go.Ab
end
section
namespace Go.Ab
open Go.Proofs
attribute [local congr] ACall.congr gd.congr Nx.congr
set_option maxRecDepth 10000
def ir (l:List Int) (k:Nat):List Int:=(List.range l.length).map fun p=>if p<k∨l.length - 1<p+k then l.getD (l.length - 1 - p) 0 else l.getD p 0
theorem b8 {l:List Int} {k:Nat} :(ir l k).length=l.length:=by simp [ir]
theorem gy {l:List Int} {k p:Nat} (h:p<l.length):(ir l k)[p]? =some (if p<k∨l.length - 1<p+k then l.getD (l.length - 1 - p) 0 else l.getD p 0):=by
 simp [ir,List.getElem?_range h]
theorem nt {l:List Int} {k p:Nat} (h:p<l.length) (d:Int):(ir l k).getD p d=if p<k∨l.length - 1<p+k then l.getD (l.length - 1 - p) 0 else l.getD p 0:=by
 rw [List.getD_eq_getElem?_getD,gy h];rfl
theorem sQ {l:List Int} :ir l 0=l:=by
 refine List.ext_getElem? fun i=> ?_
 by_cases hi:i<l.length
 ·rw [gy hi,if_neg (by omega),List.getD_eq_getElem?_getD,List.getElem?_eq_getElem hi];rfl
 ·rw [List.getElem?_eq_none (by rw [b8];omega),List.getElem?_eq_none (by omega)]
theorem u5 {l:List Int} {k:Nat} (h:l.length≤2*k+1):ir l k=l.reverse:=by
 refine List.ext_getElem? fun i=> ?_
 by_cases hi:i<l.length
 ·rw [gy hi,List.getElem?_reverse hi]
  split
  ·rw [List.getD_eq_getElem?_getD,List.getElem?_eq_getElem (by omega)];rfl
  ·have:i=l.length - 1 - i:=by omega
   rw [← this,List.getD_eq_getElem?_getD,List.getElem?_eq_getElem hi];rfl
 ·rw [List.getElem?_eq_none (by rw [b8];omega),List.getElem?_eq_none (by rw [List.length_reverse];omega)]
theorem sR {l:List Int} {k:Nat} (h:k<l.length - 1 - k):((ir l k).set k ((ir l k).getD (l.length - 1 - k) 0)).set (l.length - 1 - k) ((ir l k).getD k 0)=ir l (k+1):=by
 refine List.ext_getElem? fun i=> ?_
 rw [List.getElem?_set,List.length_set,b8,List.getElem?_set,b8]
 by_cases hi:i<l.length
 ·rw [gy hi,gy hi,nt (by omega),nt (by omega)]
  by_cases h1:l.length - 1 - k=i
  ·rw [if_pos h1,if_pos (by omega),if_neg (by omega),if_pos (by omega)]
   congr 2;omega
  ·rw [if_neg h1]
   by_cases h2:k=i
   ·rw [if_pos h2,if_pos (by omega),if_neg (by omega),if_pos (by omega)]
    congr 2;omega
   ·rw [if_neg h2]
    congr 1
    by_cases h3:i<k∨l.length - 1<i+k
    ·rw [if_pos h3,if_pos (by omega)]
    ·rw [if_neg h3,if_neg (by omega)]
 ·rw [List.getElem?_eq_none (by rw [b8];omega),List.getElem?_eq_none (by rw [b8];omega),if_neg (by omega),if_neg (by omega)]
theorem cW (l:List Int) (hl:l.length≤1000000):Spec Try.prog 103 (Args [.ref 10000]) [(10000, .part 3 1 (l.map rI))] (.tup []) [(10000, .part 3 1 (l.reverse.map rI))]:=by
 (refine Spec.hd (C:=T.cfg [] []) (rs:= []) (T.aj _ _) Try.func103 rfl rfl Try.ntmps103 Try.results103 (by simp [AObj.isNest]) (by simp [AObj.isNest]) (by kernel_rfl) T.mixed fun X hX hP hC aR cL=> ?_)
 repeat' (first|refine Rn.p ?_|(with_reducible apply And.intro)|((first|(refine hK _ ?_;clear hK K)|with_reducible intro K hK|refine Rs.p ?_|((with_reducible first|apply oP|apply oQ);exact rfl));try simp only [go_sem,simprocAttr])|((with_reducible refine oD ?_ ?_);kernel_rfl)|((with_reducible intro h);try simp only [go_sem,simprocAttr] at h)|omega|intro h)
 refine au (fun k:Nat=>2*k≤l.length+1) (fun k=>⟨[(0, .ref 10000),(2,eN k),(3,eN ((l.length:Int) - 1 - k))], [(10000, .part 3 1 ((ir l k).map rI))]⟩) (fun k=>l.length+1 - k) 0 (by omega) ?_ ?_
 ·refine Le.of ?_ ?_<;>simp [go_sem,simprocAttr,sQ]
 rintro k hk
 rcases Nat.lt_or_ge (2*k+1) l.length with hlt|hge
 ·have hb:decide ((k:Int)<(l.length:Int) - 1 - (k:Int))=true:=decide_eq_true (by omega)
  have ht:((l.length:Int) - 1 - (k:Int)).toNat=l.length - 1 - k:=by omega
  repeat' (first|refine Rn.p ?_|(with_reducible apply And.intro)|((first|(refine hK _ ?_;clear hK K)|with_reducible intro K hK|refine Rs.p ?_|((with_reducible first|apply oP|apply oQ);exact rfl));try simp only [go_sem,simprocAttr,hb,ht,b8,xH])|((with_reducible refine oD ?_ ?_);kernel_rfl)|((with_reducible intro h);try simp only [go_sem,simprocAttr,hb,ht,b8,xH] at h)|omega|intro h)
  refine ⟨k+1,by omega, ?_,by omega⟩
  refine Le.of ?_ ?_<;>simp [go_sem,simprocAttr]
  ·omega
  ·rw [← sR (by omega),List.map_set,List.map_set]
   simp only [List.getD_eq_getElem?_getD]
 ·have hb:decide ((k:Int)<(l.length:Int) - 1 - (k:Int))=false:=decide_eq_false (by omega)
  repeat' (first|refine Rn.p ?_|(with_reducible apply And.intro)|((first|(refine hK _ ?_;clear hK K)|with_reducible intro K hK|refine Rs.p ?_|((with_reducible first|apply oP|apply oQ);exact rfl));try simp only [go_sem,simprocAttr,hb])|((with_reducible refine oD ?_ ?_);kernel_rfl)|((with_reducible intro h);try simp only [go_sem,simprocAttr,hb] at h)|omega|intro h)
  simp only [go_sem,simprocAttr,hb,u5 hge]
def gY:List Int→Int
 | []=>0
 |a::r=>r.foldl min a
theorem u6 {l:List Int} {k:Nat} (h0:0<k) (h:k<l.length):gY (l.take (k+1))=min (gY (l.take k)) (l.getD k 0):=by
 cases l with
 |nil=>simp at h
 |cons a r=>
  obtain ⟨k,rfl⟩:∃j,k=j+1:=⟨k - 1,by omega⟩
  simp only [List.length_cons] at h
  simp only [List.take_succ_cons,gY,List.getD_cons_succ]
  rw [List.take_add_one,List.foldl_append,List.getElem?_eq_getElem (by omega),List.getD_eq_getElem?_getD,List.getElem?_eq_getElem (by omega)]
  rfl
theorem xS {l:List Int} (h:0<l.length):gY (l.take 1)=l.getD 0 0:=by
 cases l with
 |nil=>simp at h
 |cons a r=>simp [gY]
theorem gA (l:List Int) (h0:0<l.length) (hl:l.length≤1000000):Spec Try.prog 104 (Args [.d (sI l)]) [] (eN (gY l)) []:=by
 (refine Spec.hd (C:=T.cfg [] []) (rs:= [.t 2]) (T.aj _ _) Try.func104 rfl rfl Try.ntmps104 Try.results104 (by simp [AObj.isNest]) (by simp [AObj.isNest]) (by kernel_rfl) T.mixed fun X hX hP hC aR cL=> ?_)
 repeat' (first|refine Rn.p ?_|(with_reducible apply And.intro)|((first|(refine hK _ ?_;clear hK K)|with_reducible intro K hK|refine Rs.p ?_|((with_reducible first|apply oP|apply oQ);exact rfl));try simp only [go_sem,simprocAttr])|((with_reducible refine oD ?_ ?_);kernel_rfl)|((with_reducible intro h);try simp only [go_sem,simprocAttr] at h)|omega|intro h)
 refine au (fun k:Nat=>0<k∧k≤l.length) (fun k=>⟨[(0, .d (sI l)),(3,eN (gY (l.take k))),(4,eN k)], []⟩) (fun k=>l.length - k) 1 (by omega) ?_ ?_
 ·refine Le.of ?_ ?_<;>simp [go_sem,simprocAttr,xS h0]
 rintro k ⟨y7,hk⟩
 repeat' (first|refine Rn.p ?_|(with_reducible apply And.intro)|((first|(refine hK _ ?_;clear hK K)|with_reducible intro K hK|refine Rs.p ?_|((with_reducible first|apply oP|apply oQ);exact rfl));try simp only [go_sem,simprocAttr])|((with_reducible refine oD ?_ ?_);kernel_rfl)|((with_reducible intro h);try simp only [go_sem,simprocAttr] at h)|omega|intro h)
 ·refine ⟨k+1,by omega, ?_,by omega⟩
  refine Le.of ?_ ?_<;>simp [go_sem,simprocAttr]
  rw [u6 y7 (by omega),List.getD_eq_getElem?_getD]
 ·rw [List.take_of_length_le (by omega)]
theorem dz (n:Int) (h0:0<n) (hl:n≤1000000):Spec Try.prog 88 (Args [.nil 3,eN n]) [] (.ref 10000) [(10000, .own 3 1 [])]:=by
 (refine Spec.tS (C:=T.cfg [] []) (rs:= [.t 4]) [(10000,25)] (T.aj _ _) Try.func88 rfl rfl Try.ntmps88 Try.results88 (by simp [AObj.isNest]) (by simp [AObj.isNest]) (by first|(simp [look];done)|(simp [asN];done)|(intro l hl;simp only [asN];repeat (rw [if_neg (fun e=>by subst e;simp [look] at hl)]))) (by first|(simp [look];done)|(simp [asN];done)|(intro l hl;simp only [asN];repeat (rw [if_neg (fun e=>by subst e;simp [look] at hl)]))) (by kernel_rfl) T.mixed fun X hX hP hC aR cL=> ?_)
 repeat' (first|refine Rn.p ?_|(with_reducible apply And.intro)|((first|(refine hK _ ?_;clear hK K)|with_reducible intro K hK|refine Rs.p ?_|((with_reducible first|apply oP|apply oQ);exact rfl));try simp only [go_sem,simprocAttr])|((with_reducible refine oD ?_ ?_);kernel_rfl)|((with_reducible intro h);try simp only [go_sem,simprocAttr] at h)|omega|intro h)
end Go.Ab
end
section
namespace Go.Ab
open Go.Proofs
attribute [local congr] ACall.congr gd.congr Nx.congr
set_option maxRecDepth 10000
def vL (ls:List (List Int)):List (List D):=ls.map fun l=> [sI l]
theorem vL_length {ls:List (List Int)} :(vL ls).length=ls.length:=by simp [vL]
theorem p7 {ls:List (List Int)} {k:Nat} (h:k<ls.length) (d:List D):(vL ls).getD k d= [sI (ls.getD k [])]:=by
 simp [vL,List.getD_eq_getElem?_getD,List.getElem?_eq_getElem h]
attribute [go_sem] vL_length
theorem oR {ls:List (List Int)} {k:Nat} (h:k<ls.length):(ls.take (k+1)).flatten=(ls.take k).flatten++ls.getD k []:=by
 rw [List.take_add_one,List.flatten_append,List.getElem?_eq_getElem h,List.getD_eq_getElem?_getD,List.getElem?_eq_getElem h]
 simp
theorem mq {ls:List (List Int)} {k:Nat} :(ls.take k).flatten.length≤ls.flatten.length:=by
 have:=congrArg (fun x=>x.flatten.length) (List.take_append_drop k ls)
 simp only [List.flatten_append,List.length_append] at this
 omega
theorem cP (ls:List (List Int)) (hn:ls.length≤1000) (h0:0<ls.flatten.length) (hl:ls.flatten.length≤1000000):Spec Try.prog 65 (Args [.d (.sl 1 (vL ls))]) [] (.d (sI ls.flatten)) []:=by
 (refine Spec.hd (C:=T.cfg [] []) (rs:= [.t 2]) (T.aj _ _) Try.func65 rfl rfl Try.ntmps65 Try.results65 (by simp [AObj.isNest]) (by simp [AObj.isNest]) (by kernel_rfl) T.mixed fun X hX hP hC aR cL=> ?_)
 repeat' (first|refine Rn.p ?_|(with_reducible apply And.intro)|((first|(refine hK _ ?_;clear hK K)|with_reducible intro K hK|refine Rs.p ?_|((with_reducible first|apply oP|apply oQ);exact rfl)|(refine an hX hC hP [(10000,33)] (dz (ls.flatten.length:Int) (by omega) (by omega)) rfl rfl rfl ?_ ?_ ?_ ?_ ?_ ?_ ?_ ?_ ?_ ?_ ?_ ?_ ?_ ?_;(focus (simp only [go_sem,simprocAttr];done));(iterate 12 (focus (simp [go_sem,simprocAttr];done)));try simp only [List.map_cons,List.map_nil]));try simp only [go_sem,simprocAttr])|((with_reducible refine oD ?_ ?_);kernel_rfl)|((with_reducible intro h);try simp only [go_sem,simprocAttr] at h)|omega|intro h)
 refine au (fun k:Nat=>k≤ls.length) (fun k=>⟨[(0, .d (.sl 1 (vL ls))),(9, .d (.sl 1 (vL ls))),(10,eN ls.length),(11,eN k),(3,eN ((ls.take k).flatten.length))], []⟩) (fun k=>ls.length - k) 0 (by omega) ?_ ?_
 ·(refine Le.of ?_ ?_<;>simp [go_sem,simprocAttr])
 ·rintro k hk
  rcases Nat.lt_or_ge k ls.length with hlt|hge
  ·have hb:decide ((k:Int)<(ls.length:Int))=true:=decide_eq_true (by omega)
   have hv:=p7 hlt
   have hf:=oR hlt
   have Dz:=mq (ls:=ls) (k:=k)
   have AU:=mq (ls:=ls) (k:=k+1)
   rw [hf,List.length_append] at AU
   have hneg:decide (((ls.take k).flatten.length:Int)+((ls.getD k []).length:Int)<0)=false:=decide_eq_false (by omega)
   repeat' (first|refine Rn.p ?_|(with_reducible apply And.intro)|((first|(refine hK _ ?_;clear hK K)|with_reducible intro K hK|refine Rs.p ?_|((with_reducible first|apply oP|apply oQ);exact rfl)|(refine an hX hC hP [(10000,33)] (dz (ls.flatten.length:Int) (by omega) (by omega)) rfl rfl rfl ?_ ?_ ?_ ?_ ?_ ?_ ?_ ?_ ?_ ?_ ?_ ?_ ?_ ?_;(focus (simp only [go_sem,simprocAttr,hb,hv,hneg];done));(iterate 12 (focus (simp [go_sem,simprocAttr,hb,hv,hneg];done)));try simp only [List.map_cons,List.map_nil]));try simp only [go_sem,simprocAttr,hb,hv,hneg])|((with_reducible refine oD ?_ ?_);kernel_rfl)|((with_reducible intro h);try simp only [go_sem,simprocAttr,hb,hv,hneg] at h)|omega|intro h)
   refine ⟨k+1,by omega, ?_,by omega⟩
   simp only [hf]
   refine Le.of ?_ ?_<;>simp [go_sem,simprocAttr,hb,hv,hneg]
  ·have hb:decide ((k:Int)<(ls.length:Int))=false:=decide_eq_false (by omega)
   have ht:ls.take k=ls:=List.take_of_length_le (by omega)
   repeat' (first|refine Rn.p ?_|(with_reducible apply And.intro)|((first|(refine hK _ ?_;clear hK K)|with_reducible intro K hK|refine Rs.p ?_|((with_reducible first|apply oP|apply oQ);exact rfl)|(refine an hX hC hP [(10000,33)] (dz (ls.flatten.length:Int) (by omega) (by omega)) rfl rfl rfl ?_ ?_ ?_ ?_ ?_ ?_ ?_ ?_ ?_ ?_ ?_ ?_ ?_ ?_;(focus (simp only [go_sem,simprocAttr,hb,ht];done));(iterate 12 (focus (simp [go_sem,simprocAttr,hb,ht];done)));try simp only [List.map_cons,List.map_nil]));try simp only [go_sem,simprocAttr,hb,ht])|((with_reducible refine oD ?_ ?_);kernel_rfl)|((with_reducible intro h);try simp only [go_sem,simprocAttr,hb,ht] at h)|omega|intro h)
   refine au (fun k:Nat=>k≤ls.length) (fun k=>⟨[(25, .d (.sl 1 (vL ls))),(26,eN ls.length),(27,eN k),(6, .ref 33)], [(33, .own 3 1 ((ls.take k).flatten.map rI))]⟩) (fun k=>ls.length - k) 0 (by omega) ?_ ?_
   ·(refine Le.of ?_ ?_<;>simp [go_sem,simprocAttr,hb,ht])
   ·clear hb ht hk hge
    rintro k hk
    rcases Nat.lt_or_ge k ls.length with hlt|hge
    ·have hb:decide ((k:Int)<(ls.length:Int))=true:=decide_eq_true (by omega)
     have hv:=p7 hlt
     have hf:=oR hlt
     have Dz:=mq (ls:=ls) (k:=k)
     have AU:=mq (ls:=ls) (k:=k+1)
     rw [hf,List.length_append] at AU
     repeat' (first|refine Rn.p ?_|(with_reducible apply And.intro)|((first|(refine hK _ ?_;clear hK K)|with_reducible intro K hK|refine Rs.p ?_|((with_reducible first|apply oP|apply oQ);exact rfl)|(refine an hX hC hP [(10000,33)] (dz (ls.flatten.length:Int) (by omega) (by omega)) rfl rfl rfl ?_ ?_ ?_ ?_ ?_ ?_ ?_ ?_ ?_ ?_ ?_ ?_ ?_ ?_;(focus (simp only [go_sem,simprocAttr,hb,hv];done));(iterate 12 (focus (simp [go_sem,simprocAttr,hb,hv];done)));try simp only [List.map_cons,List.map_nil]));try simp only [go_sem,simprocAttr,hb,hv])|((with_reducible refine oD ?_ ?_);kernel_rfl)|((with_reducible intro h);try simp only [go_sem,simprocAttr,hb,hv] at h)|omega|intro h)
     refine ⟨k+1,by omega, ?_,by omega⟩
     simp only [hf]
     refine Le.of ?_ ?_<;>simp [go_sem,simprocAttr,hb,hv]
    ·have hb:decide ((k:Int)<(ls.length:Int))=false:=decide_eq_false (by omega)
     have ht:ls.take k=ls:=List.take_of_length_le (by omega)
     repeat' (first|refine Rn.p ?_|(with_reducible apply And.intro)|((first|(refine hK _ ?_;clear hK K)|with_reducible intro K hK|refine Rs.p ?_|((with_reducible first|apply oP|apply oQ);exact rfl)|(refine an hX hC hP [(10000,33)] (dz (ls.flatten.length:Int) (by omega) (by omega)) rfl rfl rfl ?_ ?_ ?_ ?_ ?_ ?_ ?_ ?_ ?_ ?_ ?_ ?_ ?_ ?_;(focus (simp only [go_sem,simprocAttr,hb,ht];done));(iterate 12 (focus (simp [go_sem,simprocAttr,hb,ht];done)));try simp only [List.map_cons,List.map_nil]));try simp only [go_sem,simprocAttr,hb,ht])|((with_reducible refine oD ?_ ?_);kernel_rfl)|((with_reducible intro h);try simp only [go_sem,simprocAttr,hb,ht] at h)|omega|intro h)
def iu (ls:List (List Int)) (k:Nat):List Int:=((List.range k).filter fun x=>decide ((ls.getD x []).length=0)).map Int.ofNat
theorem nu {ls:List (List Int)} {k:Nat} :iu ls (k+1)=iu ls k++if (ls.getD k []).length=0 then [(k:Int)] else []:=by
 simp only [iu,List.range_succ,List.filter_append,List.map_append,List.filter_cons,List.filter_nil]
 split<;>simp_all
theorem u7 {ls:List (List Int)} {k:Nat} :(iu ls k).length≤k:=by
 simpa [iu] using List.length_filter_le (fun x=>decide ((ls.getD x []).length=0)) (List.range k)
theorem oS (ls:List (List Int)) (hn:ls.length≤1000):Spec Try.prog 79 (Args [.d (.sl 1 (vL ls))]) [] (.d (sI (iu ls ls.length))) []:=by
 (refine Spec.hd (C:=T.cfg [] []) (rs:= [.t 2]) (T.aj _ _) Try.func79 rfl rfl Try.ntmps79 Try.results79 (by simp [AObj.isNest]) (by simp [AObj.isNest]) (by kernel_rfl) T.mixed fun X hX hP hC aR cL=> ?_)
 repeat' (first|refine Rn.p ?_|(with_reducible apply And.intro)|((first|(refine hK _ ?_;clear hK K)|with_reducible intro K hK|refine Rs.p ?_|((with_reducible first|apply oP|apply oQ);exact rfl)|(refine an hX hC hP [(10000,33)] (dz (ls.flatten.length:Int) (by omega) (by omega)) rfl rfl rfl ?_ ?_ ?_ ?_ ?_ ?_ ?_ ?_ ?_ ?_ ?_ ?_ ?_ ?_;(focus (simp only [go_sem,simprocAttr];done));(iterate 12 (focus (simp [go_sem,simprocAttr];done)));try simp only [List.map_cons,List.map_nil]));try simp only [go_sem,simprocAttr])|((with_reducible refine oD ?_ ?_);kernel_rfl)|((with_reducible intro h);try simp only [go_sem,simprocAttr] at h)|omega|intro h)
 (refine eV hX 2 18 (.tip 3 1 []) (by simp only [go_sem,simprocAttr]) (by simp only [go_sem,simprocAttr]) (by decide) ⟨3,1,by decide, .inr rfl⟩ ?_;simp only [go_sem,simprocAttr])
 refine au (fun k:Nat=>k≤ls.length) (fun k=>⟨[(5, .d (.sl 1 (vL ls))),(6,eN ls.length),(7,eN k),(2, .ref 18)], [(18, .tip 3 1 ((iu ls k).map rI))]⟩) (fun k=>ls.length - k) 0 (by omega) ?_ ?_
 ·refine Le.of ?_ ?_<;>simp [go_sem,simprocAttr,iu]
 ·rintro k hk
  rcases Nat.lt_or_ge k ls.length with hlt|hge
  ·have hb:decide ((k:Int)<(ls.length:Int))=true:=decide_eq_true (by omega)
   have hv:=p7 hlt
   have hlen:=u7 (ls:=ls) (k:=k)
   repeat' (first|refine Rn.p ?_|(with_reducible apply And.intro)|((first|(refine hK _ ?_;clear hK K)|with_reducible intro K hK|refine Rs.p ?_|((with_reducible first|apply oP|apply oQ);exact rfl)|(refine an hX hC hP [(10000,33)] (dz (ls.flatten.length:Int) (by omega) (by omega)) rfl rfl rfl ?_ ?_ ?_ ?_ ?_ ?_ ?_ ?_ ?_ ?_ ?_ ?_ ?_ ?_;(focus (simp only [go_sem,simprocAttr,hb,hv];done));(iterate 12 (focus (simp [go_sem,simprocAttr,hb,hv];done)));try simp only [List.map_cons,List.map_nil]));try simp only [go_sem,simprocAttr,hb,hv])|((with_reducible refine oD ?_ ?_);kernel_rfl)|((with_reducible intro h);try simp only [go_sem,simprocAttr,hb,hv] at h)|omega|intro h)
   ·refine ⟨k+1,by omega, ?_,by omega⟩
    rw [nu,if_pos (by omega)]
    refine Le.of ?_ ?_<;>simp [go_sem,simprocAttr,hb,hv]
    rfl
   ·refine ⟨k+1,by omega, ?_,by omega⟩
    rw [nu,if_neg (by omega),List.append_nil]
    refine Le.of ?_ ?_<;>simp [go_sem,simprocAttr,hb,hv]
  ·have hb:decide ((k:Int)<(ls.length:Int))=false:=decide_eq_false (by omega)
   obtain rfl:k=ls.length:=by omega
   repeat' (first|refine Rn.p ?_|(with_reducible apply And.intro)|((first|(refine hK _ ?_;clear hK K)|with_reducible intro K hK|refine Rs.p ?_|((with_reducible first|apply oP|apply oQ);exact rfl)|(refine an hX hC hP [(10000,33)] (dz (ls.flatten.length:Int) (by omega) (by omega)) rfl rfl rfl ?_ ?_ ?_ ?_ ?_ ?_ ?_ ?_ ?_ ?_ ?_ ?_ ?_ ?_;(focus (simp only [go_sem,simprocAttr,hb];done));(iterate 12 (focus (simp [go_sem,simprocAttr,hb];done)));try simp only [List.map_cons,List.map_nil]));try simp only [go_sem,simprocAttr,hb])|((with_reducible refine oD ?_ ?_);kernel_rfl)|((with_reducible intro h);try simp only [go_sem,simprocAttr,hb] at h)|omega|intro h)
theorem xT {f:Edge→Int} {g:Gr} :zx f g=vL (dy f g):=rfl
theorem eX {f:Edge→Int} {g:Gr} :(dy f g).length=g.n.toNat:=by simp [dy]
def cm (f:Edge→Int) (g:Gr):List Int:=iu (dy f g) g.n.toNat
theorem dN (g:Gr) (hm:aZ g=true):Spec Try.prog 78 (Args [.d (vw g)]) [] (.d (sI (cm (·.2) g))) []:=by
 rw [ah]
 have hn:=bf hm
 have hle:(dy (·.2) g).length≤1000:=by rw [eX];omega
 (refine Spec.hd (C:=T.cfg [] []) (rs:= [.t 2]) (T.aj _ _) Try.func78 rfl rfl Try.ntmps78 Try.results78 (by simp [AObj.isNest]) (by simp [AObj.isNest]) (by kernel_rfl) T.mixed fun X hX hP hC aR cL=> ?_)
 repeat' (first|refine Rn.p ?_|(with_reducible apply And.intro)|((first|(refine hK _ ?_;clear hK K)|with_reducible intro K hK|refine Rs.p ?_|((with_reducible first|apply oP|apply oQ);exact rfl)|(rw [xT];refine aa hX hC hP (oS (dy (·.2) g) hle) rfl rfl rfl (by simp only [go_sem,simprocAttr]) rfl ?_));try simp only [go_sem,simprocAttr])|((with_reducible refine oD ?_ ?_);kernel_rfl)|((with_reducible intro h);try simp only [go_sem,simprocAttr] at h)|omega|intro h)
 rw [eX];rfl
theorem sS (g:Gr) (hm:aZ g=true):Spec Try.prog 58 (Args [.d (vw g)]) [] (.d (sI (cm (·.1) g))) []:=by
 rw [ah]
 have hn:=bf hm
 have hle:(dy (·.1) g).length≤1000:=by rw [eX];omega
 (refine Spec.hd (C:=T.cfg [] []) (rs:= [.t 2]) (T.aj _ _) Try.func58 rfl rfl Try.ntmps58 Try.results58 (by simp [AObj.isNest]) (by simp [AObj.isNest]) (by kernel_rfl) T.mixed fun X hX hP hC aR cL=> ?_)
 repeat' (first|refine Rn.p ?_|(with_reducible apply And.intro)|((first|(refine hK _ ?_;clear hK K)|with_reducible intro K hK|refine Rs.p ?_|((with_reducible first|apply oP|apply oQ);exact rfl)|(rw [xT];refine aa hX hC hP (oS (dy (·.1) g) hle) rfl rfl rfl (by simp only [go_sem,simprocAttr]) rfl ?_));try simp only [go_sem,simprocAttr])|((with_reducible refine oD ?_ ?_);kernel_rfl)|((with_reducible intro h);try simp only [go_sem,simprocAttr] at h)|omega|intro h)
 rw [eX];rfl
end Go.Ab
end
section
namespace Go.Ab
open Go.Proofs
attribute [local congr] ACall.congr gd.congr Nx.congr
set_option maxRecDepth 10000
def dA (g:Gr) (ws:List Int) (b:Int) (e:Int):Int:=if 0<ws.getD (tl g e.toNat).toNat 0∧(b<0∨tl g e.toNat<b) then tl g e.toNat else b
theorem xU (g:Gr) (ws:List Int) (b:Int) (i:Nat):dA g ws b (i:Int)=if 0<ws.getD (g.es.getD i (0,0)).1.toNat 0∧(b<0∨(g.es.getD i (0,0)).1<b) then (g.es.getD i (0,0)).1 else b:=rfl
def oT (g:Gr) (ws:List Int) (es:List Int):Int:=es.foldl (dA g ws) (-1)
def iQ (g:Gr) (ws:List Int) (at_:Int):Int:=oT g ws (k8 g at_.toNat)
def jM (g:Gr) (ws:List Int):Nat→List Int→Int→List Int × Int
 |0,way,at_=>(way,at_)
 |f+1,way,at_=>if at_<0∨at_∈way then (way,at_) else jM g ws f (way++ [at_]) (iQ g ws at_)
def js (g:Gr):List Int × Int:=jM g (bW g (aH g)) g.n.toNat [] (bw (fun n=>decide (0<n)) (bW g (aH g)))
def kz (l:List Int):List Int:=l.drop (fP l (gY l)).toNat++l.take (fP l (gY l)).toNat
def iR (g:Gr):List Int:=if (js g).2<0 then [] else kz ((js g).1.drop (fP (js g).1 (js g).2).toNat).reverse
theorem fk (n:Int):Spec Try.prog 102 (Args [eN n]) [] (eB (decide (0<n))) []:=by
 (refine Spec.hd (C:=T.cfg [] []) (rs:= [.t 2]) (T.aj _ _) Try.func102 rfl rfl Try.ntmps102 Try.results102 (by simp [AObj.isNest]) (by simp [AObj.isNest]) (by kernel_rfl) T.mixed fun X hX hP hC aR cL=> ?_)
 repeat' (first|refine Rn.p ?_|(with_reducible apply And.intro)|((first|(refine hK _ ?_;clear hK K)|with_reducible intro K hK|refine Rs.p ?_|((with_reducible first|apply oP|apply oQ);exact rfl));try simp only [go_sem,simprocAttr])|((with_reducible refine oD ?_ ?_);kernel_rfl)|((with_reducible intro h);try simp only [go_sem,simprocAttr] at h)|omega|intro h)
structure Way (g:Gr) (way:List Int):Prop where
 lo:∀x∈way,0≤x∧x<g.n
 fuel:way.length+left g way=g.n.toNat
theorem nv {g:Gr} :left g []=g.n.toNat:=by
 have:=(c7.nil g).fuel
 rw [List.length_nil,Nat.zero_add] at this
 exact this
theorem kA {g:Gr} {way:List Int} {a:Nat} (ha:a<g.n.toNat) (hn:(a:Int)∉way):left g way=left g (way++ [(a:Int)])+1:=by
 unfold left
 rw [← iP (p:=fun y:Nat=> !decide ((y:Int)∈way)) (x:=a) (by simp [hn]) ha]
 congr 1
 refine List.countP_congr fun y _=> ?_
 simp;omega
theorem Way.nil (g:Gr):Way g []:=⟨by simp,by rw [nv];simp⟩
theorem Way.next {g:Gr} {way:List Int} {a:Nat} (h:Way g way) (ha:a<g.n.toNat) (hn:(a:Int)∉way):Way g (way++ [(a:Int)]):=by
 refine ⟨fun x hx=> ?_, ?_⟩
 ·rcases List.mem_append.1 hx with hx|hx
  ·exact h.lo x hx
  ·simp at hx;omega
 ·have h1:=h.fuel
  have h2:=kA ha hn
  rw [List.length_append,List.length_singleton];omega
theorem p8 {g:Gr} {x:Nat} {e:Int} (h:e∈k8 g x):∃i:Nat,e=i∧i<g.es.length∧hd g i=x:=by
 simp only [k8,dx,List.mem_map,List.mem_filter,List.mem_range,decide_eq_true_eq] at h
 obtain ⟨i,⟨h1,h2⟩,rfl⟩:=h
 exact ⟨i,rfl,h1,h2⟩
theorem u9 {α β:Type} {f:β→α→β} {b:β} {l:List α} {j:Nat} {x:α} (h:l[j]? =some x):(l.take (j+1)).foldl f b=f ((l.take j).foldl f b) x:=by
 rw [List.take_add_one,List.foldl_append,h];rfl
theorem lP {g:Gr} (hm:aZ g=true) (ws:List Int):∀(l:List Int) (b:Int),(b= -1∨(0≤b∧b<g.n))→(∀e∈l,∃i:Nat,e=i∧i<g.es.length)→l.foldl (dA g ws) b= -1∨(0≤l.foldl (dA g ws) b∧l.foldl (dA g ws) b<g.n)
 | [],b,hb,_=>hb
 |e::l,b,hb,h=>by
  refine lP hm ws l _ ?_ fun e he=>h e (List.mem_cons_of_mem _ he)
  obtain ⟨i,rfl,hi⟩:=h e List.mem_cons_self
  obtain ⟨⟨h1,h2⟩,_⟩:=dM hm hi
  unfold dA
  split
  ·exact .inr ⟨h1,h2⟩
  ·exact hb
theorem xV {g:Gr} {x:Nat} :∀e∈k8 g x,∃i:Nat,e=i∧i<g.es.length:=fun e he=>by
 obtain ⟨i,h1,h2,_⟩:=p8 he;exact ⟨i,h1,h2⟩
theorem kB {g:Gr} {ws way:List Int} {a:Int} (h:a<0∨a∈way):∀f,jM g ws f way a=(way,a)
 |0=>rfl
 |f+1=>by simp only [jM];rw [if_pos h]
theorem fF {l:List Int} {x:Int} (h:x∈l):∃k:Nat,fP l x=k∧k<l.length∧l.getD k 0=x:=by
 rcases fE (f:=fun y:Int=>decide (x=y)) (l:=l) 0 with ⟨h1,h2⟩|⟨k,h1,h2,h3,_⟩
 ·exact absurd (h2 x h) (by simp)
 ·exact ⟨k,h1,h2,(of_decide_eq_true h3).symm⟩
theorem ry:∀ {l:List Int},0<l.length→gY l∈l
 |a::r,_=>by
  have:∀(r:List Int) (a:Int),r.foldl min a=a∨r.foldl min a∈r:=by
   intro r
   induction r with
   |nil=>intro a;exact .inl rfl
   |cons b r ih=>
    intro a
    simp only [List.foldl_cons]
    rcases ih (min a b) with h|h
    ·by_cases hab:a≤b
     ·left;rw [h];omega
     ·right;rw [h];simp;omega
    ·right;simp [h]
  rcases this r a with h|h
  ·simp [gY,h]
  ·simp [gY,h]
theorem fG (g:Gr) (hm:aZ g=true):Spec Try.prog 77 (Args [.d (vw g)]) [] (.d (sI (iR g))) []:=by
 have hn:=bf hm
 have tV:(bW g (aH g)).length≤9223372036854775807:=by rw [wts_length];omega
 (refine Spec.hd (C:=T.cfg [30] []) (rs:= [.t 2]) (T.aj _ _) Try.func77 rfl rfl Try.ntmps77 Try.results77 (by simp [AObj.isNest]) (by simp [AObj.isNest]) (by kernel_rfl) T.mixed fun X hX hP hC aR cL=> ?_)
 repeat' (first|refine Rn.p ?_|(with_reducible apply And.intro)|((first|(refine hK _ ?_;clear hK K)|with_reducible intro K hK|refine Rs.p ?_|((with_reducible first|apply oP|apply oQ);exact rfl)|refine aa hX hC hP (gw g hm) rfl rfl rfl (by simp only [go_sem,simprocAttr]) rfl ?_|refine aa hX hC hP (bV aU.nil _ [] _ fk (bW g (aH g)) tV) rfl rfl rfl (by simp only [go_sem,simprocAttr]) rfl ?_|(refine ai hX hC hP (aO way a iw) rfl rfl rfl ?_ ?_ ?_ ?_;iterate 3 (focus (simp only [go_sem,simprocAttr];done)))|(refine ai hX hC hP (aJ way a iw) rfl rfl rfl ?_ ?_ ?_ ?_;iterate 3 (focus (simp only [go_sem,simprocAttr];done)))|(refine an hX hC hP [(10000,75)] (cW (way.drop k) hlr) rfl rfl rfl ?_ ?_ ?_ ?_ ?_ ?_ ?_ ?_ ?_ ?_ ?_ ?_ ?_ ?_;(focus (simp only [go_sem,simprocAttr];done));(iterate 12 (focus (simp [go_sem,simprocAttr];done)));try simp only [List.map_cons,List.map_nil])|(refine ai hX hC hP (gA rev nw hrev) rfl rfl rfl ?_ ?_ ?_ ?_;iterate 3 (focus (simp only [go_sem,simprocAttr];done)))|(refine ai hX hC hP (aJ rev (gY rev) oU) rfl rfl rfl ?_ ?_ ?_ ?_;iterate 3 (focus (simp only [go_sem,simprocAttr];done)))|(refine bD hX hC hP (cP [rev.drop k2,rev.take k2] hc1 Bw Bx) rfl rfl rfl ?_ ?_ rfl ?_;iterate 2 (focus (simp only [go_sem,simprocAttr];done))));try simp only [go_sem,simprocAttr])|((with_reducible refine oD ?_ ?_);kernel_rfl)|((with_reducible intro h);try simp only [go_sem,simprocAttr] at h)|omega|intro h)
 (refine eV hX 6 30 (.own 3 1 []) (by simp only [go_sem,simprocAttr]) (by simp only [go_sem,simprocAttr]) (by decide) ⟨3,1,by decide, .inl rfl⟩ ?_;simp only [go_sem,simprocAttr])
 refine au (fun i:List Int × Int=>Way g i.1∧(i.2= -1∨(0≤i.2∧i.2<g.n))∧jM g (bW g (aH g)) (left g i.1) i.1 i.2=js g) (fun i=>⟨[(0, .d (vw g)),(4, .d (sI (bW g (aH g)))),(5,eN i.2),(6, .ref 30)], [(30, .own 3 1 (i.1.map rI))]⟩) (fun i=>left g i.1) ([],bw (fun n=>decide (0<n)) (bW g (aH g))) ⟨Way.nil g, ?_, ?_⟩ ?_ ?_
 ·rcases q6 (fun n:Int=>decide (0<n)) (bW g (aH g)) with h|h
  ·exact .inl h
  ·rw [wts_length] at h;exact .inr (by simp only;omega)
 ·rw [nv];rfl
 ·(refine Le.of ?_ ?_<;>simp [go_sem,simprocAttr])
 rintro ⟨way,at_⟩ ⟨AW,DA,hrun⟩
 simp only at AW DA hrun ⊢
 have IU:way.length≤64:=by have:=AW.fuel;omega
 have iw:way.length≤9223372036854775807:=by omega
 by_cases h0:at_<0
 ·have ak:decide (0≤at_)=false:=decide_eq_false (by omega)
  have cC:decide (at_<0)=true:=decide_eq_true h0
  have he:iR g= []:=by
   have:=kB (g:=g) (ws:=bW g (aH g)) (way:=way) (.inl h0) (left g way)
   rw [hrun] at this
   simp only [iR,this];rw [if_pos h0]
  repeat' (first|refine Rn.p ?_|(with_reducible apply And.intro)|((first|(refine hK _ ?_;clear hK K)|with_reducible intro K hK|refine Rs.p ?_|((with_reducible first|apply oP|apply oQ);exact rfl)|refine aa hX hC hP (gw g hm) rfl rfl rfl (by simp only [go_sem,simprocAttr,ak,cC]) rfl ?_|refine aa hX hC hP (bV aU.nil _ [] _ fk (bW g (aH g)) tV) rfl rfl rfl (by simp only [go_sem,simprocAttr,ak,cC]) rfl ?_|(refine ai hX hC hP (aO way a iw) rfl rfl rfl ?_ ?_ ?_ ?_;iterate 3 (focus (simp only [go_sem,simprocAttr,ak,cC];done)))|(refine ai hX hC hP (aJ way a iw) rfl rfl rfl ?_ ?_ ?_ ?_;iterate 3 (focus (simp only [go_sem,simprocAttr,ak,cC];done)))|(refine an hX hC hP [(10000,75)] (cW (way.drop k) hlr) rfl rfl rfl ?_ ?_ ?_ ?_ ?_ ?_ ?_ ?_ ?_ ?_ ?_ ?_ ?_ ?_;(focus (simp only [go_sem,simprocAttr,ak,cC];done));(iterate 12 (focus (simp [go_sem,simprocAttr,ak,cC];done)));try simp only [List.map_cons,List.map_nil])|(refine ai hX hC hP (gA rev nw hrev) rfl rfl rfl ?_ ?_ ?_ ?_;iterate 3 (focus (simp only [go_sem,simprocAttr,ak,cC];done)))|(refine ai hX hC hP (aJ rev (gY rev) oU) rfl rfl rfl ?_ ?_ ?_ ?_;iterate 3 (focus (simp only [go_sem,simprocAttr,ak,cC];done)))|(refine bD hX hC hP (cP [rev.drop k2,rev.take k2] hc1 Bw Bx) rfl rfl rfl ?_ ?_ rfl ?_;iterate 2 (focus (simp only [go_sem,simprocAttr,ak,cC];done))));try simp only [go_sem,simprocAttr,ak,cC])|((with_reducible refine oD ?_ ?_);kernel_rfl)|((with_reducible intro h);try simp only [go_sem,simprocAttr,ak,cC] at h)|omega|intro h)
  rw [he];rfl
 obtain ⟨a,rfl⟩:∃a:Nat,at_=a:=⟨at_.toNat,by omega⟩
 have DB:a<g.n.toNat:=by omega
 have ak:decide (0≤(a:Int))=true:=decide_eq_true (by omega)
 by_cases hmem:(a:Int)∈way
 ·have aE:decide ((a:Int)∈way)=true:=decide_eq_true hmem
  have cC:decide ((a:Int)<0)=false:=decide_eq_false h0
  have hend:=kB (g:=g) (ws:=bW g (aH g)) (.inr hmem) (left g way)
  rw [hrun] at hend
  obtain ⟨k,hk,bT,_⟩:=fF hmem
  obtain ⟨rev,fU⟩:∃rev,rev=(way.drop k).reverse:=⟨_,rfl⟩
  have hrl:rev.length=way.length - k:=by rw [fU];simp
  have nw:0<rev.length:=by omega
  have hrev:rev.length≤1000000:=by omega
  have oU:rev.length≤9223372036854775807:=by omega
  have hlr:(way.drop k).length≤1000000:=by simp;omega
  obtain ⟨k2,hk2,HC,_⟩:=fF (ry nw)
  have hc1: [rev.drop k2,rev.take k2].length≤1000:=by simp
  have Bw:0< [rev.drop k2,rev.take k2].flatten.length:=by simp;omega
  have Bx: [rev.drop k2,rev.take k2].flatten.length≤1000000:=by simp;omega
  have FC:iR g= [rev.drop k2,rev.take k2].flatten:=by
   simp only [iR,hend]
   rw [if_neg h0,hk]
   simp only [Int.toNat_natCast, ← fU,kz,hk2,List.flatten_cons,List.flatten_nil,List.append_nil]
  repeat' (first|(show bZ _ (.seq (.region 20 _ _) _) _ _;(refine zn hX 75 rfl (.inr rfl) ?_;simp only [go_sem,simprocAttr,ak,aE,cC,hk,hk2, ← List.map_take, ← List.map_drop,List.take_length, ← fU,vL]))|refine Rn.p ?_|(with_reducible apply And.intro)|((first|(refine hK _ ?_;clear hK K)|with_reducible intro K hK|refine Rs.p ?_|((with_reducible first|apply oP|apply oQ);exact rfl)|refine aa hX hC hP (gw g hm) rfl rfl rfl (by simp only [go_sem,simprocAttr,ak,aE,cC,hk,hk2, ← List.map_take, ← List.map_drop,List.take_length, ← fU,vL]) rfl ?_|refine aa hX hC hP (bV aU.nil _ [] _ fk (bW g (aH g)) tV) rfl rfl rfl (by simp only [go_sem,simprocAttr,ak,aE,cC,hk,hk2, ← List.map_take, ← List.map_drop,List.take_length, ← fU,vL]) rfl ?_|(refine ai hX hC hP (aO way a iw) rfl rfl rfl ?_ ?_ ?_ ?_;iterate 3 (focus (simp only [go_sem,simprocAttr,ak,aE,cC,hk,hk2, ← List.map_take, ← List.map_drop,List.take_length, ← fU,vL];done)))|(refine ai hX hC hP (aJ way a iw) rfl rfl rfl ?_ ?_ ?_ ?_;iterate 3 (focus (simp only [go_sem,simprocAttr,ak,aE,cC,hk,hk2, ← List.map_take, ← List.map_drop,List.take_length, ← fU,vL];done)))|(refine an hX hC hP [(10000,75)] (cW (way.drop k) hlr) rfl rfl rfl ?_ ?_ ?_ ?_ ?_ ?_ ?_ ?_ ?_ ?_ ?_ ?_ ?_ ?_;(focus (simp only [go_sem,simprocAttr,ak,aE,cC,hk,hk2, ← List.map_take, ← List.map_drop,List.take_length, ← fU,vL];done));(iterate 12 (focus (simp [go_sem,simprocAttr,ak,aE,cC,hk,hk2, ← List.map_take, ← List.map_drop,List.take_length, ← fU,vL];done)));try simp only [List.map_cons,List.map_nil])|(refine ai hX hC hP (gA rev nw hrev) rfl rfl rfl ?_ ?_ ?_ ?_;iterate 3 (focus (simp only [go_sem,simprocAttr,ak,aE,cC,hk,hk2, ← List.map_take, ← List.map_drop,List.take_length, ← fU,vL];done)))|(refine ai hX hC hP (aJ rev (gY rev) oU) rfl rfl rfl ?_ ?_ ?_ ?_;iterate 3 (focus (simp only [go_sem,simprocAttr,ak,aE,cC,hk,hk2, ← List.map_take, ← List.map_drop,List.take_length, ← fU,vL];done)))|(refine bD hX hC hP (cP [rev.drop k2,rev.take k2] hc1 Bw Bx) rfl rfl rfl ?_ ?_ rfl ?_;iterate 2 (focus (simp only [go_sem,simprocAttr,ak,aE,cC,hk,hk2, ← List.map_take, ← List.map_drop,List.take_length, ← fU,vL];done))));try simp only [go_sem,simprocAttr,ak,aE,cC,hk,hk2, ← List.map_take, ← List.map_drop,List.take_length, ← fU,vL])|((with_reducible refine oD ?_ ?_);kernel_rfl)|((with_reducible intro h);try simp only [go_sem,simprocAttr,ak,aE,cC,hk,hk2, ← List.map_take, ← List.map_drop,List.take_length, ← fU,vL] at h)|omega|intro h)
  rw [FC]
 ·have aE:decide ((a:Int)∈way)=false:=decide_eq_false hmem
  have hv:=ku (f:=(·.2)) DB
  have uW:(k8 g a).length≤g.es.length:=fh
  repeat' (first|refine Rn.p ?_|(with_reducible apply And.intro)|((first|(refine hK _ ?_;clear hK K)|with_reducible intro K hK|refine Rs.p ?_|((with_reducible first|apply oP|apply oQ);exact rfl)|refine aa hX hC hP (gw g hm) rfl rfl rfl (by simp only [go_sem,simprocAttr,ak,aE,hv,ah]) rfl ?_|refine aa hX hC hP (bV aU.nil _ [] _ fk (bW g (aH g)) tV) rfl rfl rfl (by simp only [go_sem,simprocAttr,ak,aE,hv,ah]) rfl ?_|(refine ai hX hC hP (aO way a iw) rfl rfl rfl ?_ ?_ ?_ ?_;iterate 3 (focus (simp only [go_sem,simprocAttr,ak,aE,hv,ah];done)))|(refine ai hX hC hP (aJ way a iw) rfl rfl rfl ?_ ?_ ?_ ?_;iterate 3 (focus (simp only [go_sem,simprocAttr,ak,aE,hv,ah];done)))|(refine an hX hC hP [(10000,75)] (cW (way.drop k) hlr) rfl rfl rfl ?_ ?_ ?_ ?_ ?_ ?_ ?_ ?_ ?_ ?_ ?_ ?_ ?_ ?_;(focus (simp only [go_sem,simprocAttr,ak,aE,hv,ah];done));(iterate 12 (focus (simp [go_sem,simprocAttr,ak,aE,hv,ah];done)));try simp only [List.map_cons,List.map_nil])|(refine ai hX hC hP (gA rev nw hrev) rfl rfl rfl ?_ ?_ ?_ ?_;iterate 3 (focus (simp only [go_sem,simprocAttr,ak,aE,hv,ah];done)))|(refine ai hX hC hP (aJ rev (gY rev) oU) rfl rfl rfl ?_ ?_ ?_ ?_;iterate 3 (focus (simp only [go_sem,simprocAttr,ak,aE,hv,ah];done)))|(refine bD hX hC hP (cP [rev.drop k2,rev.take k2] hc1 Bw Bx) rfl rfl rfl ?_ ?_ rfl ?_;iterate 2 (focus (simp only [go_sem,simprocAttr,ak,aE,hv,ah];done))));try simp only [go_sem,simprocAttr,ak,aE,hv,ah])|((with_reducible refine oD ?_ ?_);kernel_rfl)|((with_reducible intro h);try simp only [go_sem,simprocAttr,ak,aE,hv,ah] at h)|omega|intro h)
  refine au (fun j:Nat=>j≤(k8 g a).length) (fun j=>⟨[(39,eN j),(38,eN (k8 g a).length),(37, .d (sI (k8 g a))),(7,eN (oT g (bW g (aH g)) ((k8 g a).take j))),(0, .d (Bv g)),(4, .d (sI (bW g (aH g)))),(6, .ref 30)], [(30, .own 3 1 ((way++ [(a:Int)]).map rI))]⟩) (fun j=>(k8 g a).length - j) 0 (by simp) ?_ ?_
  ·refine Le.of ?_ ?_<;>simp [go_sem,simprocAttr,ak,aE,hv,ah,k8,rI,oT]
  rintro j hj
  rcases Nat.lt_or_ge j (k8 g a).length with hlt|hge
  ·have hb4:decide ((j:Int)<((k8 g a).length:Int))=true:=decide_eq_true (by omega)
   obtain ⟨i,hi,hil,hit⟩:=p8 (List.getElem_mem hlt)
   have hi1:(k8 g a)[j]? =some (i:Int):=by rw [List.getElem?_eq_getElem hlt,hi]
   have hi2:(k8 g a).getD j 0=(i:Int):=by rw [List.getD_eq_getElem?_getD,hi1];rfl
   obtain ⟨⟨Gw,rZ⟩,_⟩:=dM hm hil
   have hstep:oT g (bW g (aH g)) ((k8 g a).take (j+1))=dA g (bW g (aH g)) (oT g (bW g (aH g)) ((k8 g a).take j)) i:=u9 hi1
   rw [xU] at hstep
   repeat' (first|refine Rn.p ?_|(with_reducible apply And.intro)|((first|(refine hK _ ?_;clear hK K)|with_reducible intro K hK|refine Rs.p ?_|((with_reducible first|apply oP|apply oQ);exact rfl)|refine aa hX hC hP (gw g hm) rfl rfl rfl (by simp only [go_sem,simprocAttr,hb4,hi2,wts_length]) rfl ?_|refine aa hX hC hP (bV aU.nil _ [] _ fk (bW g (aH g)) tV) rfl rfl rfl (by simp only [go_sem,simprocAttr,hb4,hi2,wts_length]) rfl ?_|(refine ai hX hC hP (aO way a iw) rfl rfl rfl ?_ ?_ ?_ ?_;iterate 3 (focus (simp only [go_sem,simprocAttr,hb4,hi2,wts_length];done)))|(refine ai hX hC hP (aJ way a iw) rfl rfl rfl ?_ ?_ ?_ ?_;iterate 3 (focus (simp only [go_sem,simprocAttr,hb4,hi2,wts_length];done)))|(refine an hX hC hP [(10000,75)] (cW (way.drop k) hlr) rfl rfl rfl ?_ ?_ ?_ ?_ ?_ ?_ ?_ ?_ ?_ ?_ ?_ ?_ ?_ ?_;(focus (simp only [go_sem,simprocAttr,hb4,hi2,wts_length];done));(iterate 12 (focus (simp [go_sem,simprocAttr,hb4,hi2,wts_length];done)));try simp only [List.map_cons,List.map_nil])|(refine ai hX hC hP (gA rev nw hrev) rfl rfl rfl ?_ ?_ ?_ ?_;iterate 3 (focus (simp only [go_sem,simprocAttr,hb4,hi2,wts_length];done)))|(refine ai hX hC hP (aJ rev (gY rev) oU) rfl rfl rfl ?_ ?_ ?_ ?_;iterate 3 (focus (simp only [go_sem,simprocAttr,hb4,hi2,wts_length];done)))|(refine bD hX hC hP (cP [rev.drop k2,rev.take k2] hc1 Bw Bx) rfl rfl rfl ?_ ?_ rfl ?_;iterate 2 (focus (simp only [go_sem,simprocAttr,hb4,hi2,wts_length];done))));try simp only [go_sem,simprocAttr,hb4,hi2,wts_length])|((with_reducible refine oD ?_ ?_);kernel_rfl)|((with_reducible intro h);try simp only [go_sem,simprocAttr,hb4,hi2,wts_length] at h)|omega|intro h)
   all_goals (refine ⟨j+1,by omega, ?_,by omega⟩;first|rw [if_pos (by omega)] at hstep|rw [if_neg (by omega)] at hstep)
   all_goals (refine Le.of ?_ ?_<;>simp [go_sem,simprocAttr,hb4,hi2,wts_length,hstep])
  ·have hb4:decide ((j:Int)<((k8 g a).length:Int))=false:=decide_eq_false (by omega)
   have ht:(k8 g a).take j=k8 g a:=List.take_of_length_le (by omega)
   repeat' (first|refine Rn.p ?_|(with_reducible apply And.intro)|((first|(refine hK _ ?_;clear hK K)|with_reducible intro K hK|refine Rs.p ?_|((with_reducible first|apply oP|apply oQ);exact rfl)|refine aa hX hC hP (gw g hm) rfl rfl rfl (by simp only [go_sem,simprocAttr,hb4,ht]) rfl ?_|refine aa hX hC hP (bV aU.nil _ [] _ fk (bW g (aH g)) tV) rfl rfl rfl (by simp only [go_sem,simprocAttr,hb4,ht]) rfl ?_|(refine ai hX hC hP (aO way a iw) rfl rfl rfl ?_ ?_ ?_ ?_;iterate 3 (focus (simp only [go_sem,simprocAttr,hb4,ht];done)))|(refine ai hX hC hP (aJ way a iw) rfl rfl rfl ?_ ?_ ?_ ?_;iterate 3 (focus (simp only [go_sem,simprocAttr,hb4,ht];done)))|(refine an hX hC hP [(10000,75)] (cW (way.drop k) hlr) rfl rfl rfl ?_ ?_ ?_ ?_ ?_ ?_ ?_ ?_ ?_ ?_ ?_ ?_ ?_ ?_;(focus (simp only [go_sem,simprocAttr,hb4,ht];done));(iterate 12 (focus (simp [go_sem,simprocAttr,hb4,ht];done)));try simp only [List.map_cons,List.map_nil])|(refine ai hX hC hP (gA rev nw hrev) rfl rfl rfl ?_ ?_ ?_ ?_;iterate 3 (focus (simp only [go_sem,simprocAttr,hb4,ht];done)))|(refine ai hX hC hP (aJ rev (gY rev) oU) rfl rfl rfl ?_ ?_ ?_ ?_;iterate 3 (focus (simp only [go_sem,simprocAttr,hb4,ht];done)))|(refine bD hX hC hP (cP [rev.drop k2,rev.take k2] hc1 Bw Bx) rfl rfl rfl ?_ ?_ rfl ?_;iterate 2 (focus (simp only [go_sem,simprocAttr,hb4,ht];done))));try simp only [go_sem,simprocAttr,hb4,ht])|((with_reducible refine oD ?_ ?_);kernel_rfl)|((with_reducible intro h);try simp only [go_sem,simprocAttr,hb4,ht] at h)|omega|intro h)
   refine ⟨(way++ [(a:Int)],iQ g (bW g (aH g)) a),⟨AW.next DB hmem,lP hm _ _ _ (.inl rfl) xV, ?_⟩, ?_, ?_⟩
   ·simp only
    rw [← hrun,kA DB hmem]
    simp only [jM]
    rw [if_neg (by intro h;rcases h with h|h;omega;exact hmem h)]
   ·refine Le.of ?_ ?_<;>simp [go_sem,simprocAttr,hb4,ht,iQ]
   ·have:=kA DB hmem;simp only;omega
end Go.Ab
end
section
namespace Go.Ab
open Go.Proofs
attribute [local congr] ACall.congr gd.congr Nx.congr
set_option maxRecDepth 10000
def eF (f:Int × Int × List Int):AV:= .agg [eN f.1,eN f.2.1, .d (sI f.2.2)]
attribute [go_sem] eF
def jz (g:Gr):Int:=bw (fun e:Edge=>decide (e.1=e.2)) g.es
def nB (g:Gr) (i:Nat):Bool:=decide (g.es.getD i (0,0)∈g.es.take i)
def dY (g:Gr):Int:=bw (nB g) (List.range g.es.length)
def iS (g:Gr) (Gx bare:List Int):Int × Int × List Int:=
 if aZ g=false then (1,0, []) else
 if 0≤jz g then (13,jz g, []) else
 if 0≤dY g then (14,dY g, []) else
 if 0<Gx.length then (15,0,Gx) else
 if 1<bare.length then (16,0,bare.take 2) else (0,0, [])
def cK (g:Gr):Int × Int × List Int:=iS g (iR g) (cm (·.2) g)
theorem gB (e:Edge):Spec Try.prog 75 (Args [eE e]) [] (eB (decide (e.1=e.2))) []:=by
 (refine Spec.hd (C:=T.cfg [] []) (rs:= [.t 2]) (T.aj _ _) Try.func75 rfl rfl Try.ntmps75 Try.results75 (by simp [AObj.isNest]) (by simp [AObj.isNest]) (by kernel_rfl) T.mixed fun X hX hP hC aR cL=> ?_)
 repeat' (first|refine Rn.p ?_|(with_reducible apply And.intro)|((first|(refine hK _ ?_;clear hK K)|with_reducible intro K hK|refine Rs.p ?_|((with_reducible first|apply oP|apply oQ);exact rfl));try simp only [go_sem,simprocAttr])|((with_reducible refine oD ?_ ?_);kernel_rfl)|((with_reducible intro h);try simp only [go_sem,simprocAttr] at h)|omega|intro h)
theorem jN {n k:Nat} (h:k<n) (d:Nat):(List.range n).getD k d=k:=by
 simp [List.getD_eq_getElem?_getD,List.getElem?_range h]
theorem gZ (g:Gr) (hl:g.es.length≤1000):Spec Try.prog 56 (Args [eG g]) [] (eF (cK g)) []:=by
 have hl:g.es.length≤9223372036854775807:=by omega
 (refine Spec.hd (C:=T.cfg [] []) (rs:= [.c 2 61]) (T.aj _ _) Try.func56 rfl rfl Try.ntmps56 Try.results56 (by simp [AObj.isNest]) (by simp [AObj.isNest]) (by kernel_rfl) T.mixed fun X hX hP hC aR cL=> ?_)
 cases hm:aZ g with
 |false=>
  repeat' (first|refine Rn.p ?_|(with_reducible apply And.intro)|((first|(refine hK _ ?_;clear hK K)|with_reducible intro K hK|refine Rs.p ?_|((with_reducible first|apply oP|apply oQ);exact rfl)|refine aa hX hC hP (ez g hl) rfl rfl rfl (by simp only [go_sem,simprocAttr,hm]) rfl ?_|refine aa hX hC hP (bh aU.nil _ [] _ gB g.es hl) rfl rfl rfl (by simp only [go_sem,simprocAttr,hm]) rfl ?_|refine aa hX hC hP (eW g hm) rfl rfl rfl (by simp only [go_sem,simprocAttr,hm]) rfl ?_|refine aa hX hC hP (fG g hm) rfl rfl rfl (by simp only [go_sem,simprocAttr,hm]) rfl ?_|refine aa hX hC hP (dN g hm) rfl rfl rfl (by simp only [go_sem,simprocAttr,hm]) rfl ?_|refine aa hX hC hP (cO (g.es.take k) (g.es.getD k (0,0)) hlk) rfl rfl rfl (by simp only [go_sem,simprocAttr,hm]) rfl ?_);try simp only [go_sem,simprocAttr,hm])|((with_reducible refine oD ?_ ?_);kernel_rfl)|((with_reducible intro h);try simp only [go_sem,simprocAttr,hm] at h)|omega|intro h)
  all_goals simp [cK,iS,hm]
 |true=>
 have hn:=bf hm
 by_cases hlo:0≤jz g
 ·have ak:decide (0≤bw (fun p:Edge=>decide (p.1=p.2)) g.es)=true:=decide_eq_true hlo
  repeat' (first|refine Rn.p ?_|(with_reducible apply And.intro)|((first|(refine hK _ ?_;clear hK K)|with_reducible intro K hK|refine Rs.p ?_|((with_reducible first|apply oP|apply oQ);exact rfl)|refine aa hX hC hP (ez g hl) rfl rfl rfl (by simp only [go_sem,simprocAttr,hm,ak]) rfl ?_|refine aa hX hC hP (bh aU.nil _ [] _ gB g.es hl) rfl rfl rfl (by simp only [go_sem,simprocAttr,hm,ak]) rfl ?_|refine aa hX hC hP (eW g hm) rfl rfl rfl (by simp only [go_sem,simprocAttr,hm,ak]) rfl ?_|refine aa hX hC hP (fG g hm) rfl rfl rfl (by simp only [go_sem,simprocAttr,hm,ak]) rfl ?_|refine aa hX hC hP (dN g hm) rfl rfl rfl (by simp only [go_sem,simprocAttr,hm,ak]) rfl ?_|refine aa hX hC hP (cO (g.es.take k) (g.es.getD k (0,0)) hlk) rfl rfl rfl (by simp only [go_sem,simprocAttr,hm,ak]) rfl ?_);try simp only [go_sem,simprocAttr,hm,ak])|((with_reducible refine oD ?_ ?_);kernel_rfl)|((with_reducible intro h);try simp only [go_sem,simprocAttr,hm,ak] at h)|omega|intro h)
  all_goals (
   have hc:cK g=(13,jz g, []):=by
    simp only [cK,iS];rw [if_neg (by simp [hm]),if_pos hlo]
   rw [hc]<;>rfl)
 have ak:decide (0≤bw (fun p:Edge=>decide (p.1=p.2)) g.es)=false:=decide_eq_false hlo
 repeat' (first|refine Rn.p ?_|(with_reducible apply And.intro)|((first|(refine hK _ ?_;clear hK K)|with_reducible intro K hK|refine Rs.p ?_|((with_reducible first|apply oP|apply oQ);exact rfl)|refine aa hX hC hP (ez g hl) rfl rfl rfl (by simp only [go_sem,simprocAttr,hm,ak]) rfl ?_|refine aa hX hC hP (bh aU.nil _ [] _ gB g.es hl) rfl rfl rfl (by simp only [go_sem,simprocAttr,hm,ak]) rfl ?_|refine aa hX hC hP (eW g hm) rfl rfl rfl (by simp only [go_sem,simprocAttr,hm,ak]) rfl ?_|refine aa hX hC hP (fG g hm) rfl rfl rfl (by simp only [go_sem,simprocAttr,hm,ak]) rfl ?_|refine aa hX hC hP (dN g hm) rfl rfl rfl (by simp only [go_sem,simprocAttr,hm,ak]) rfl ?_|refine aa hX hC hP (cO (g.es.take k) (g.es.getD k (0,0)) hlk) rfl rfl rfl (by simp only [go_sem,simprocAttr,hm,ak]) rfl ?_);try simp only [go_sem,simprocAttr,hm,ak])|((with_reducible refine oD ?_ ?_);kernel_rfl)|((with_reducible intro h);try simp only [go_sem,simprocAttr,hm,ak] at h)|omega|intro h)
 refine au (fun k:Nat=>k≤g.es.length∧∀j,j<k→nB g j=false) (fun k=>⟨[(23,eN k),(22,eN g.es.length),(21, .d (sE g.es)),(1, .ptr 1 0),(2, .ptr 2 0)], [(1, .box [eN g.n, .d (sE g.es)]),(2, .box [eN 0,eN 0, .nil 3])]⟩) (fun k=>g.es.length - k) 0 (by simp) ?_ ?_
 ·(refine Le.of ?_ ?_<;>simp [go_sem,simprocAttr,hm,ak])
 rintro k ⟨hk,CK⟩
 rcases Nat.lt_or_ge k g.es.length with hlt|hge
 ·have aE:decide ((k:Int)<(g.es.length:Int))=true:=decide_eq_true (by omega)
  have hlk:(g.es.take k).length≤9223372036854775807:=by rw [List.length_take];omega
  repeat' (first|refine Rn.p ?_|(with_reducible apply And.intro)|((first|(refine hK _ ?_;clear hK K)|with_reducible intro K hK|refine Rs.p ?_|((with_reducible first|apply oP|apply oQ);exact rfl)|refine aa hX hC hP (ez g hl) rfl rfl rfl (by simp only [go_sem,simprocAttr,hm,ak,aE, ← List.map_take]) rfl ?_|refine aa hX hC hP (bh aU.nil _ [] _ gB g.es hl) rfl rfl rfl (by simp only [go_sem,simprocAttr,hm,ak,aE, ← List.map_take]) rfl ?_|refine aa hX hC hP (eW g hm) rfl rfl rfl (by simp only [go_sem,simprocAttr,hm,ak,aE, ← List.map_take]) rfl ?_|refine aa hX hC hP (fG g hm) rfl rfl rfl (by simp only [go_sem,simprocAttr,hm,ak,aE, ← List.map_take]) rfl ?_|refine aa hX hC hP (dN g hm) rfl rfl rfl (by simp only [go_sem,simprocAttr,hm,ak,aE, ← List.map_take]) rfl ?_|refine aa hX hC hP (cO (g.es.take k) (g.es.getD k (0,0)) hlk) rfl rfl rfl (by simp only [go_sem,simprocAttr,hm,ak,aE, ← List.map_take]) rfl ?_);try simp only [go_sem,simprocAttr,hm,ak,aE, ← List.map_take])|((with_reducible refine oD ?_ ?_);kernel_rfl)|((with_reducible intro h);try simp only [go_sem,simprocAttr,hm,ak,aE, ← List.map_take] at h)|omega|intro h)
  any_goals (
   have HD:dY g=(k:Int):=ew (d:=0) (by simpa using hlt) (fun j hj=>by rw [jN (by omega)];exact CK j hj) (by rw [jN hlt];exact decide_eq_true h)
   have hc:cK g=(14,dY g, []):=by
    simp only [cK,iS];rw [if_neg (by simp [hm]),if_neg hlo,if_pos (by omega)]
   rw [hc]<;>first|rfl|exact HD.symm)
  refine ⟨k+1,⟨by omega,fun j hj=> ?_⟩, ?_,by omega⟩
  ·by_cases hjk:j=k
   ·subst hjk;exact decide_eq_false h
   ·exact CK j (by omega)
  ·(refine Le.of ?_ ?_<;>simp [go_sem,simprocAttr,hm,ak,aE, ← List.map_take])
 ·have aE:decide ((k:Int)<(g.es.length:Int))=false:=decide_eq_false (by omega)
  have FD:¬0≤dY g:=by
   have:dY g= -1:=dh 0 fun j hj=>by
    rw [List.length_range] at hj
    rw [jN hj];exact CK j (by omega)
   omega
  repeat' (first|refine Rn.p ?_|(with_reducible apply And.intro)|((first|(refine hK _ ?_;clear hK K)|with_reducible intro K hK|refine Rs.p ?_|((with_reducible first|apply oP|apply oQ);exact rfl)|refine aa hX hC hP (ez g hl) rfl rfl rfl (by simp only [go_sem,simprocAttr,hm,ak,aE]) rfl ?_|refine aa hX hC hP (bh aU.nil _ [] _ gB g.es hl) rfl rfl rfl (by simp only [go_sem,simprocAttr,hm,ak,aE]) rfl ?_|refine aa hX hC hP (eW g hm) rfl rfl rfl (by simp only [go_sem,simprocAttr,hm,ak,aE]) rfl ?_|refine aa hX hC hP (fG g hm) rfl rfl rfl (by simp only [go_sem,simprocAttr,hm,ak,aE]) rfl ?_|refine aa hX hC hP (dN g hm) rfl rfl rfl (by simp only [go_sem,simprocAttr,hm,ak,aE]) rfl ?_|refine aa hX hC hP (cO (g.es.take k) (g.es.getD k (0,0)) hlk) rfl rfl rfl (by simp only [go_sem,simprocAttr,hm,ak,aE]) rfl ?_);try simp only [go_sem,simprocAttr,hm,ak,aE])|((with_reducible refine oD ?_ ?_);kernel_rfl)|((with_reducible intro h);try simp only [go_sem,simprocAttr,hm,ak,aE] at h)|omega|intro h)
  all_goals (
   have hc:cK g=if 0<(iR g).length then (15,0,iR g) else if 1<(cm (·.2) g).length then (16,0,(cm (·.2) g).take 2) else (0,0, []):=by
    simp only [cK,iS];rw [if_neg (by simp [hm]),if_neg hlo,if_neg FD]
   first|rw [if_pos (by omega)] at hc|(rw [if_neg (by omega)] at hc;first|rw [if_pos (by omega)] at hc|rw [if_neg (by omega)] at hc)
   rw [hc]<;>first|rfl|simp only [List.map_take])
end Go.Ab
end
section
namespace Go.Ab
open Go.Proofs
attribute [local congr] ACall.congr gd.congr Nx.congr
set_option maxRecDepth 10000
def aS (f:Edge→Int) (es:List Edge) (k:Nat) (x:Int):List Int:=((List.range k).filter fun i=>decide (f (es.getD i (0,0))=x)).map Int.ofNat
theorem nD (f:Edge→Int) (es:List Edge) (k x:Nat):dx f es k x=aS f es k (x:Int):=rfl
theorem k9 {f:Edge→Int} {es:List Edge} {k:Nat} {x:Int} :(aS f es k x).length≤k:=by
 simpa [aS] using List.length_filter_le (fun i=>decide (f (es.getD i (0,0))=x)) (List.range k)
def HE (b:Bool) (e:Edge):Int:=if b then e.1 else e.2
end Go.Ab
end
section
namespace Go.Ab
open Go.Proofs
attribute [local congr] ACall.congr gd.congr Nx.congr
set_option maxRecDepth 10000
def rB (b:Bool):List D:= [.sc (.bool b)]
def sB (l:List Bool):D:= .sl 1 (l.map rB)
theorem getD_rB (l:List Bool) (i:Nat):(l.map rB).getD i [.sc (.bool false)]= [.sc (.bool (l.getD i false))]:=by
 simp only [List.getD_eq_getElem?_getD,List.getElem?_map]
 cases l[i]? <;>rfl
attribute [go_sem] getD_rB sB
def tW (n k:Nat):List Bool:=(List.range n).map fun y=>decide (y<k)
def nE (g:Gr) (l:List Bool) (j:Nat):List Bool:=(List.range g.n.toNat).map fun y:Nat=>(List.range j).any fun i=>decide (hd g i=(y:Int))&&(l.getD (tl g i).toNat false&&l.getD (hd g i).toNat false)
def kC (g:Gr):Nat→List Bool
 |0=>tW g.n.toNat g.n.toNat
 |k+1=>nE g (kC g k) g.es.length
theorem trueK_length {n k:Nat} :(tW n k).length=n:=by simp [tW]
theorem nextK_length {g:Gr} {l:List Bool} {j:Nat} :(nE g l j).length=g.n.toNat:=by simp [nE]
theorem leftK_length {g:Gr} {k:Nat} :(kC g k).length=g.n.toNat:=by
 cases k
 ·exact trueK_length
 ·exact nextK_length
attribute [go_sem] trueK_length nextK_length leftK_length
end Go.Ab
end
section
namespace Go.Ab
open Go.Proofs
attribute [local congr] ACall.congr gd.congr Nx.congr
set_option maxRecDepth 10000
def Ae (g:Gr):List Bool:=kC g g.n.toNat
def By (g:Gr):Int:=if bw (fun b:Bool=>b) (Ae g)<0 then g.n else bw (fun b:Bool=>b) (Ae g)
def AX (g:Gr) (x:Int) (b:Int) (i:Nat):Int:=if hd g i=x∧(Ae g).getD (tl g i).toNat false=true then min b (tl g i) else b
def CL (g:Gr) (x:Int) (k:Nat):Int:=(List.range k).foldl (AX g x) g.n
def CM (g:Gr):Nat→List Int→Int→List Int × Int
 |0,way,x=>(way,x)
 |f+1,way,x=>if x∈way then (way,x) else CM g f (way++ [x]) (CL g x g.es.length)
def gx (g:Gr):Gr:=⟨g.n+1,g.es⟩
def xW (g:Gr):List Int × Int:=CM g (g.n.toNat+1) [] (By g)
def FE (l:List Int) (m k:Nat):List Int:=(List.range k).map fun i=>l.getD ((m+l.length - i) % l.length) 0
def CN (l:List Int):List Int:=FE l (fP l (gY l)).toNat l.length
def CO (g:Gr):List Int:=if By g=g.n then [] else CN ((xW g).1.drop (fP (xW g).1 (xW g).2).toNat)
theorem gC {l:List Int} {m:Nat} (h:m<l.length):l.getD m 0∈l:=by
 rw [List.getD_eq_getElem?_getD,List.getElem?_eq_getElem h];exact List.getElem_mem h
end Go.Ab
end
section
namespace Go.Ab
open Go.Proofs
attribute [local congr] ACall.congr gd.congr Nx.congr
set_option maxRecDepth 10000
def Gy (g:Gr):Int × Int × List Int:=iS g (CO g) (cm (·.2) g)
end Go.Ab
end
section
namespace Go.Ab
def Ord (g:Gr) (out:List Int):Prop:=∀p,p<out.length→∀i,i<g.es.length→hd g i=out.getD p 0→tl g i∈out.take p
theorem kD {l r:List Int} {p:Nat} (h:p<l.length):(l++r).getD p 0=l.getD p 0:=by
 rw [List.getD_eq_getElem?_getD,List.getD_eq_getElem?_getD,List.getElem?_append_left h]
theorem Ord.next {g:Gr} {out:List Int} (h:Ord g out) {x:Nat} (hb:∀i,i<g.es.length→hd g i=x→tl g i∈out):Ord g (out++ [(x:Int)]):=by
 intro p hp i hi hh
 rw [List.length_append,List.length_singleton] at hp
 by_cases fS:p<out.length
 ·rw [kD fS] at hh
  have:=h p fS i hi hh
  rw [List.take_append_of_le_length (by omega)]
  exact this
 ·have hpe:p=out.length:=by omega
  subst hpe
  rw [List.getD_eq_getElem?_getD,List.getElem?_append_right (by omega)] at hh
  simp at hh
  rw [List.take_append_of_le_length (by omega),List.take_of_length_le (by omega)]
  exact hb i hi hh
theorem nF {g:Gr} (hm:aZ g=true):∀f out,c7 g out→Ord g out→left g out≤f→c7 g (oq g f out)∧Ord g (oq g f out)∧fP (bW g (oq g f out)) 0<0
 |f,out,hP,hO,hl=>by
  rcases CJ (g:=g) out with hx|⟨x,hx,xO,hw⟩
  ·rw [ru (by omega)];exact ⟨hP,hO,by omega⟩
  ·obtain ⟨Bz,_,hb⟩:=hP.next hm xO hw
   have hn:=oO hP Bz
   cases f with
   |zero=>omega
   |succ f=>
    have:=nF hm f (out++ [(x:Int)]) Bz (hO.next hb) (by omega)
    simp only [oq,hx]
    rw [if_neg (by omega)]
    exact this
theorem dZ {g:Gr} (hm:aZ g=true):c7 g (aH g)∧Ord g (aH g)∧fP (bW g (aH g)) 0<0:=
 nF hm _ _ (c7.nil g) (fun p hp=>by simp at hp) (by rw [nv];exact Nat.le_refl _)
theorem ld {g:Gr} (hm:aZ g=true) {y:Nat} (hy:y<g.n.toNat):0<wt g (aH g) y↔(y:Int)∉aH g:=by
 obtain ⟨_,_,hi⟩:=dZ hm
 constructor
 ·intro h hin;simp [wt,hin] at h
 ·intro h
  have h0:wt g (aH g) y≠0:=by
   intro e
   rcases fE (f:=fun y:Int=>decide (0=y)) (l:=bW g (aH g)) 0 with ⟨_,h2⟩|⟨k,h1,_⟩
   ·have:=h2 _ (List.mem_of_getElem? (gW hy))
    rw [e] at this;simp at this
   ·have:fP (bW g (aH g)) 0=k:=h1
    omega
  have:0≤wt g (aH g) y:=by simp only [wt,h,if_false];omega
  omega
theorem nG {g:Gr} {l:List Bool} {j y:Nat} (h:y<g.n.toNat):(nE g l j).getD y false=(List.range j).any fun i=>decide (hd g i=(y:Int))&&(l.getD (tl g i).toNat false&&l.getD (hd g i).toNat false):=by
 simp [nE,List.getD_eq_getElem?_getD,List.getElem?_range h]
theorem nH {g:Gr} (hm:aZ g=true):∀k y,y<g.n.toNat→(y:Int)∉aH g→(kC g k).getD y false=true
 |0,y,hy,_=>by simp [kC,tW,List.getD_eq_getElem?_getD,List.getElem?_range hy];omega
 |k+1,y,hy,h=>by
  have hw:=(ld hm hy).2 h
  simp only [wt,h,if_false] at hw
  obtain ⟨i,hi,hp⟩:=List.countP_pos_iff.1 (Int.natCast_pos.1 hw)
  simp only [Bool.and_eq_true,decide_eq_true_eq,Bool.not_eq_true',decide_eq_false_iff_not] at hp
  have hil:=List.mem_range.1 hi
  obtain ⟨⟨h1,h2⟩,_⟩:=dM hm hil
  have ht:(g.es.getD i (0,0)).1=tl g i:=rfl
  rw [ht] at h1 h2
  have e:((tl g i).toNat:Int)=tl g i:=by omega
  have g1:=nH hm k (tl g i).toNat (by omega) (by rw [e];exact hp.2)
  have g2:=nH hm k y hy h
  show (nE g (kC g k) g.es.length).getD y false=true
  rw [nG hy,List.any_eq_true]
  refine ⟨i,hi, ?_⟩
  rw [hp.1,Int.toNat_natCast,g1,g2];simp
theorem tX {g:Gr} (hm:aZ g=true):∀k p,p<k→p<(aH g).length→(kC g k).getD ((aH g).getD p 0).toNat false=false
 |0,p,h,_=>by omega
 |k+1,p,h,hp=>by
  obtain ⟨hP,hO,_⟩:=dZ hm
  have hr:=hP.lo _ (gC hp)
  obtain ⟨y,hy⟩:∃y:Nat,(aH g).getD p 0=y:=⟨((aH g).getD p 0).toNat,by omega⟩
  have Gz:y<g.n.toNat:=by omega
  rw [hy,Int.toNat_natCast]
  show (nE g (kC g k) g.es.length).getD y false=false
  rw [nG Gz,List.any_eq_false]
  intro i hi
  have hil:=List.mem_range.1 hi
  simp only [Bool.and_eq_true,decide_eq_true_eq]
  rintro ⟨h1,h2,_⟩
  have ht:=hO p hp i hil (by rw [h1,hy])
  rw [List.mem_iff_getElem?] at ht
  obtain ⟨q,hq⟩:=ht
  rw [List.getElem?_take] at hq
  split at hq
  ·rename_i HF
   have:=tX hm k q (by omega) (by omega)
   rw [List.getD_eq_getElem?_getD (l:=aH g),hq] at this
   rw [Option.getD_some,h2] at this
   cases this
  ·cases hq
theorem AY {g:Gr} (hm:aZ g=true) {y:Nat} (hy:y<g.n.toNat):(Ae g).getD y false=true↔(y:Int)∉aH g:=by
 constructor
 ·intro h hin
  obtain ⟨hP,_,_⟩:=dZ hm
  obtain ⟨p,hp,e⟩:=List.getElem_of_mem hin
  have hl:=hP.fuel
  have:=tX hm g.n.toNat p (by omega) hp
  rw [List.getD_eq_getElem?_getD (l:=aH g),List.getElem?_eq_getElem hp,Option.getD_some,e,Int.toNat_natCast] at this
  have h2:(kC g g.n.toNat).getD y false=true:=h
  rw [this] at h2;cases h2
 ·intro h;exact nH hm _ y hy h
theorem xX {g:Gr} (hm:aZ g=true) {y:Nat} (hy:y<g.n.toNat):(Ae g).getD y false=decide (0<(bW g (aH g)).getD y 0):=by
 rw [iO hy,Bool.eq_iff_iff,AY hm hy,decide_eq_true_eq,ld hm hy]
theorem start_eq {g:Gr} (hm:aZ g=true):(bw (fun n=>decide (0<n)) (bW g (aH g))= -1∧By g=g.n)∨∃a:Nat,a<g.n.toNat∧bw (fun n=>decide (0<n)) (bW g (aH g))=a∧By g=a∧(a:Int)∉aH g:=by
 have hlf:(Ae g).length=g.n.toNat:=leftK_length
 rcases fE (f:=fun n:Int=>decide (0<n)) (l:=bW g (aH g)) 0 with ⟨h1,h2⟩|⟨k,h1,h2,h3,h4⟩
 ·refine .inl ⟨h1, ?_⟩
  have:bw (fun b:Bool=>b) (Ae g)= -1:=dh false fun j hj=>by
   rw [hlf] at hj
   rw [xX hm hj]
   exact h2 _ (by rw [List.getD_eq_getElem?_getD,gW hj];exact List.mem_of_getElem? (gW hj))
  unfold By;rw [this,if_pos (by omega)]
 ·rw [wts_length] at h2
  refine .inr ⟨k,h2,h1, ?_, ?_⟩
  ·have:bw (fun b:Bool=>b) (Ae g)=k:=ew (d:=false) (by omega) (fun j hj=>by
    rw [xX hm (by omega)];exact h4 j hj) (by rw [xX hm h2];exact h3)
   unfold By;rw [this,if_neg (by omega)]
  ·rw [← ld hm h2]
   rw [iO h2] at h3
   exact of_decide_eq_true h3
def Q (g:Gr) (a:Nat) (t:Int):Prop:=∃i,i<g.es.length∧hd g i=(a:Int)∧tl g i=t∧t∉aH g
theorem cQ {g:Gr} (hm:aZ g=true) {i:Nat} (hi:i<g.es.length):0≤tl g i∧tl g i<g.n:=(dM hm hi).1
theorem fH {g:Gr} (hm:aZ g=true) {i:Nat} (hi:i<g.es.length):0≤hd g i∧hd g i<g.n:=(dM hm hi).2
theorem va {g:Gr} (hm:aZ g=true) {i:Nat} (hi:i<g.es.length):0<(bW g (aH g)).getD (tl g i).toNat 0↔tl g i∉aH g:=by
 have h:=cQ hm hi
 have e:((tl g i).toNat:Int)=tl g i:=by omega
 rw [iO (by omega),ld hm (by omega),e]
theorem lQ {g:Gr} (hm:aZ g=true):∀(l:List Int) (b:Int),(∀e∈l,∃i:Nat,e=i∧i<g.es.length)→
 (b= -1∨0≤b)→(l.foldl (dA g (bW g (aH g))) b=b∨∃i:Nat,(i:Int)∈l∧tl g i∉aH g∧l.foldl (dA g (bW g (aH g))) b=tl g i)∧(0≤b→l.foldl (dA g (bW g (aH g))) b≤b)∧
   (∀i:Nat,(i:Int)∈l→tl g i∉aH g→0≤l.foldl (dA g (bW g (aH g))) b∧l.foldl (dA g (bW g (aH g))) b≤tl g i)
 | [],b,_,_=>⟨.inl rfl,fun _=>Int.le_refl _,by simp⟩
 |e::l,b,he,hb=>by
  obtain ⟨i,rfl,hi⟩:=he e List.mem_cons_self
  have htr:=cQ hm hi
  have hw:=va hm hi
  have hstep:dA g (bW g (aH g)) b (i:Int)=if tl g i∉aH g∧(b<0∨tl g i<b) then tl g i else b:=by
   simp only [dA,Int.toNat_natCast,hw]
  have hb':dA g (bW g (aH g)) b (i:Int)= -1∨0≤dA g (bW g (aH g)) b (i:Int):=by
   rw [hstep];split
   ·exact .inr htr.1
   ·exact hb
  obtain ⟨h1,h2,h3⟩:=lQ hm l (dA g (bW g (aH g)) b (i:Int)) (fun e h=>he e (List.mem_cons_of_mem _ h)) hb'
  simp only [List.foldl_cons]
  generalize hr:l.foldl (dA g (bW g (aH g))) (dA g (bW g (aH g)) b (i:Int))=r at h1 h2 h3 ⊢
  refine ⟨?_, ?_, ?_⟩
  ·rcases h1 with h1|⟨j,hj,h4,h5⟩
   ·rw [hstep] at h1
    split at h1
    ·rename_i hc
     exact .inr ⟨i,by simp,hc.1,h1⟩
    ·exact .inl h1
   ·exact .inr ⟨j,by simp [hj],h4,h5⟩
  ·intro h0
   rw [hstep] at h2
   split at h2
   ·rename_i hc;have:=h2 htr.1;omega
   ·exact h2 h0
  ·intro j hj hjn
   rcases List.mem_cons.1 hj with hj|hj
   ·have:j=i:=Int.ofNat.inj hj
    subst this
    rw [hstep] at h1 h2
    split at h1
    ·rename_i hc
     rw [if_pos hc] at h2
     have:=h2 htr.1
     rcases h1 with h1|⟨q,hq,h4,h5⟩
     ·omega
     ·obtain ⟨i',e',hi'⟩:=he q (List.mem_cons_of_mem _ hq)
      have:q=i':=Int.ofNat.inj e'
      subst this
      have:=cQ hm hi';omega
    ·rename_i hc
     rw [if_neg hc] at h2
     have za:¬(b<0∨tl g j<b):=fun h=>hc ⟨hjn,h⟩
     have:=h2 (by omega)
     rcases h1 with h1|⟨q,hq,h4,h5⟩
     ·omega
     ·obtain ⟨i',e',hi'⟩:=he q (List.mem_cons_of_mem _ hq)
      have:q=i':=Int.ofNat.inj e'
      subst this
      have:=cQ hm hi';omega
   ·exact h3 j hj hjn
theorem sU {g:Gr} (hm:aZ g=true) {a:Nat} (h:∃t,Q g a t):Q g a (iQ g (bW g (aH g)) a)∧∀t,Q g a t→iQ g (bW g (aH g)) a≤t:=by
 have hin:∀i,i<g.es.length→hd g i=(a:Int)→(i:Int)∈k8 g a:=by
  intro i hi hh
  simp only [k8,dx,List.mem_map,List.mem_filter,List.mem_range,decide_eq_true_eq]
  exact ⟨i,⟨hi,hh⟩,rfl⟩
 obtain ⟨h1,_,h3⟩:=lQ hm (k8 g a) (-1) xV (.inl rfl)
 have hG:iQ g (bW g (aH g)) a=(k8 g a).foldl (dA g (bW g (aH g))) (-1):=by simp [iQ,oT]
 rw [← hG] at h1 h3
 have hle:∀t,Q g a t→0≤iQ g (bW g (aH g)) a∧iQ g (bW g (aH g)) a≤t:=by
  rintro t ⟨i,h4,h5,rfl,h6⟩
  exact h3 i (hin i h4 h5) h6
 obtain ⟨t,ht⟩:=h
 have h0:=(hle t ht).1
 refine ⟨?_,fun t ht=>(hle t ht).2⟩
 rcases h1 with h1|⟨i,hi,h4,h5⟩
 ·omega
 ·obtain ⟨i',e',hi',hh⟩:=p8 hi
  have:i=i':=Int.ofNat.inj e'
  subst this
  exact ⟨i,hi',hh,h5.symm,by rw [h5];exact h4⟩
theorem CP {g:Gr} (hm:aZ g=true) {a:Nat} (ha:a<g.n.toNat) (h:(a:Int)∉aH g):∃t,Q g a t:=by
 have hw:=(ld hm ha).2 h
 simp only [wt,h,if_false] at hw
 obtain ⟨i,hi,hp⟩:=List.countP_pos_iff.1 (Int.natCast_pos.1 hw)
 simp only [Bool.and_eq_true,decide_eq_true_eq,Bool.not_eq_true',decide_eq_false_iff_not] at hp
 exact ⟨tl g i,i,List.mem_range.1 hi,hp.1,rfl,hp.2⟩
theorem zy {g:Gr} {way:List Int} :left g way≤g.n.toNat:=by
 unfold left
 have:=List.countP_le_length (p:=fun y:Nat=> !decide ((y:Int)∈way)) (l:=List.range g.n.toNat)
 simpa using this
theorem hM {l:List Int} (h:l.Nodup) {i j:Nat} (hi:i<l.length) (hj:j<l.length) (e:l.getD i 0=l.getD j 0):i=j:=by
 rw [List.getD_eq_getElem?_getD,List.getD_eq_getElem?_getD,List.getElem?_eq_getElem hi,List.getElem?_eq_getElem hj] at e
 exact (List.getElem_inj h).1 e
end Go.Ab
end
section
namespace Go.Ab
end Go.Ab
end
section
namespace Go.Ab
open Go.Proofs
attribute [local congr] ACall.congr gd.congr Nx.congr
set_option maxRecDepth 10000
def g0:Gr:=⟨3, [(0,1),(1,2),(2,1)]⟩
end Go.Ab
end
section
namespace Go.Ab
open Go.Proofs
attribute [local congr] ACall.congr gd.congr Nx.congr
set_option maxRecDepth 10000
def vb (g:Gr):Bool:=decide (g.n≤((aH g).length:Int))
def HG (g:Gr):List Int:=if vb g then aH g else []
def iT (l:List Int) (n:Int):Bool:=decide ((l.length:Int)=n)&&(List.range n.toNat).all fun x:Nat=>decide ((x:Int)∈l)
end Go.Ab
end
section
namespace Go.Ab
open Go.Proofs
attribute [local congr] ACall.congr gd.congr Nx.congr
set_option maxRecDepth 10000
theorem count_le:∀(xs l:List Int),xs.Nodup→(∀x∈xs,x∈l)→xs.length≤l.countP (fun y=>decide (y∈xs))
 | [],_,_,_=>Nat.zero_le _
 |a::r,l,hd,h=>by
  obtain ⟨h1,h2⟩:=List.nodup_cons.1 hd
  have ih:=count_le r l h2 fun x hx=>h x (List.mem_cons_of_mem _ hx)
  have hp:=gX (p:=fun y=>decide (y∈a::r)) (q:=fun y=>decide (y∈r)) (r:=fun y=>decide (y=a)) (l:=l) (fun y _=>by
   by_cases hy:y=a
   ·subst hy;simp [h1]
   ·simp [hy])
  have ha:0<l.countP (fun y=>decide (y=a)):=List.countP_pos_iff.2 ⟨a,h a List.mem_cons_self,by simp⟩
  rw [hp,List.length_cons];omega
def ec (n:Nat):List Int:=(List.range n).map Int.ofNat
theorem cI {n:Nat} {x:Int} :x∈ec n↔0≤x∧x<n:=by
 simp only [ec,List.mem_map,List.mem_range]
 constructor
 ·rintro ⟨a,h,rfl⟩;simp;omega
 ·intro h;exact ⟨x.toNat,by omega,by simp;omega⟩
theorem jO {n:Nat} :(ec n).Nodup:=by
 unfold ec
 exact List.Pairwise.map _ (fun a b h e=>h (Int.ofNat.inj e)) List.nodup_range
theorem bP {l:List Int} {n:Int} :iT l n=true↔(l.length:Int)=n∧∀x∈ec n.toNat,x∈l:=by
 simp only [iT,Bool.and_eq_true,decide_eq_true_eq,List.all_eq_true,List.mem_range]
 constructor
 ·rintro ⟨h1,h2⟩
  refine ⟨h1,fun x hx=> ?_⟩
  obtain ⟨a,b⟩:=cI.1 hx
  have:=h2 x.toNat (by omega)
  rwa [show ((x.toNat:Nat):Int)=x from by omega] at this
 ·rintro ⟨h1,h2⟩
  exact ⟨h1,fun x hx=>h2 _ (cI.2 (by omega))⟩
theorem nI {l:List Int} {n:Int} (h:iT l n=true):∀x∈l,0≤x∧x<n:=by
 obtain ⟨h1,h2⟩:=bP.1 h
 have hc:=count_le (ec n.toNat) l jO h2
 have hlen:(ec n.toNat).length=n.toNat:=by simp [ec]
 have he:l.countP (fun y=>decide (y∈ec n.toNat))=l.length:=by
  have:=List.countP_le_length (p:=fun y=>decide (y∈ec n.toNat)) (l:=l)
  omega
 intro x hx
 have:=List.countP_eq_length.1 he x hx
 have:=cI.1 (of_decide_eq_true this)
 omega
def sV (n:Nat) (l:List Int):Nat→List Int
 |0=>List.replicate n 0
 |k+1=>(sV n l k).set (l.getD k 0).toNat k
theorem atK_length {n:Nat} {l:List Int} :∀ {k:Nat},(sV n l k).length=n
 |0=>by simp [sV]
 |k+1=>by simp [sV,atK_length (k:=k)]
def xY (g:Gr) (l:List Int) (j:Nat):Bool:=(List.range j).all fun i=>decide ((sV g.n.toNat l l.length).getD (tl g i).toNat 0<(sV g.n.toNat l l.length).getD (hd g i).toNat 0)
def p9 (g:Gr) (l:List Int):Bool:=iT l g.n&&xY g l g.es.length
attribute [go_sem] atK_length
end Go.Ab
end
section
namespace Go.Ab
def IV (g:Gr) (out:List Int):Prop:=∀p,p<out.length→out.getD p 0=fP (bW g (out.take p)) 0∧0≤out.getD p 0
theorem tY {g:Gr} (hm:aZ g=true) (h:vb g=true):iT (aH g) g.n=true:=by
 obtain ⟨hP,_,_⟩:=dZ hm
 have hn:=bf hm
 have hf:=hP.fuel
 have hok:=of_decide_eq_true h
 refine bP.2 ⟨by omega,fun x hx=> ?_⟩
 obtain ⟨h1,h2⟩:=cI.1 hx
 have h0:(List.range g.n.toNat).countP (fun y:Nat=> !decide ((y:Int)∈aH g))=0:=by omega
 have:=List.countP_eq_zero.1 h0 x.toNat (List.mem_range.2 (by omega))
 rw [show ((x.toNat:Nat):Int)=x from by omega] at this
 simpa using this
theorem tZ {g:Gr} (hm:aZ g=true) (h:vb g=false):∃y:Nat,y<g.n.toNat∧(y:Int)∉aH g:=by
 obtain ⟨hP,_,_⟩:=dZ hm
 have hn:=bf hm
 have hf:=hP.fuel
 have hok:=of_decide_eq_false h
 have h0:0<(List.range g.n.toNat).countP (fun y:Nat=> !decide ((y:Int)∈aH g)):=by omega
 obtain ⟨y,hy,hp⟩:=List.countP_pos_iff.1 h0
 exact ⟨y,List.mem_range.1 hy,by simpa using hp⟩
theorem xZ {g:Gr} {l:List Int} (h:p9 g l=true) {i:Nat} (hi:i<g.es.length):(sV g.n.toNat l l.length).getD (tl g i).toNat 0<(sV g.n.toNat l l.length).getD (hd g i).toNat 0:=by
 simp only [p9,Bool.and_eq_true] at h
 have:=List.all_eq_true.1 h.2 i (List.mem_range.2 hi)
 exact of_decide_eq_true this
theorem nJ {n:Nat} {l:List Int} :∀ {k:Nat} {y:Nat},0≤(sV n l k).getD y 0
 |0,y=>by
  simp only [sV,List.getD_eq_getElem?_getD,List.getElem?_replicate]
  split<;>simp
 |k+1,y=>by
  have ih:=nJ (n:=n) (l:=l) (k:=k) (y:=y)
  simp only [sV,List.getD_eq_getElem?_getD,List.getElem?_set] at ih ⊢
  split
  ·split<;>simp
  ·exact ih
theorem qa {l:List Int} {i j:Nat} (hij:i<j) (hj:j<l.length) (e:l.getD i 0=l.getD j 0):∀x∈l,x∈l.eraseIdx i:=by
 intro x hx
 obtain ⟨k,hk,rfl⟩:=List.getElem_of_mem hx
 rw [List.mem_iff_getElem?]
 rcases Nat.lt_trichotomy k i with h|h|h
 ·exact ⟨k,by rw [List.getElem?_eraseIdx,if_pos h,List.getElem?_eq_getElem hk]⟩
 ·subst h
  refine ⟨j - 1, ?_⟩
  rw [List.getElem?_eraseIdx,if_neg (by omega),show j - 1+1=j from by omega,List.getElem?_eq_getElem hj]
  rw [List.getD_eq_getElem?_getD,List.getD_eq_getElem?_getD,List.getElem?_eq_getElem hk,List.getElem?_eq_getElem hj] at e
  exact congrArg some e.symm
 ·exact ⟨k - 1,by rw [List.getElem?_eraseIdx,if_neg (by omega),show k - 1+1=k from by omega,List.getElem?_eq_getElem hk]⟩
theorem hU {l:List Int} {n:Int} (h:iT l n=true) {i j:Nat} (hi:i<l.length) (hj:j<l.length) (e:l.getD i 0=l.getD j 0):i=j:=by
 obtain ⟨h1,h2⟩:=bP.1 h
 have key:∀i j,i<j→j<l.length→l.getD i 0=l.getD j 0→False:=by
  intro i j hij hj e
  have hc:=count_le (ec n.toNat) (l.eraseIdx i) jO fun x hx=>qa hij hj e x (h2 x hx)
  have hlen:(ec n.toNat).length=n.toNat:=by simp [ec]
  have hle:=List.countP_le_length (p:=fun y=>decide (y∈ec n.toNat)) (l:=l.eraseIdx i)
  rw [List.length_eraseIdx_of_lt (by omega)] at hle
  omega
 rcases Nat.lt_trichotomy i j with h|h|h
 ·exact (key i j h hj e).elim
 ·exact h
 ·exact (key j i h hi e.symm).elim
theorem sW {l:List Int} {n:Int} (h:iT l n=true) {p:Nat} :∀ {k:Nat},p<k→k≤l.length→(sV n.toNat l k).getD (l.getD p 0).toNat 0=p
 |0,hp,_=>by omega
 |k+1,hp,hk=>by
  have hlo:=nI h
  have hp1:=hlo _ (gC (l:=l) (m:=p) (by omega))
  have vV:=hlo _ (gC (l:=l) (m:=k) (by omega))
  simp only [sV,List.getD_eq_getElem?_getD (l:=(sV n.toNat l k).set _ _),List.getElem?_set,atK_length]
  by_cases hpk:p=k
  ·subst hpk
   rw [if_pos rfl,if_pos (by omega)];rfl
  ·have hne:¬(l.getD k 0).toNat=(l.getD p 0).toNat:=fun e=>hpk (hU h (i:=p) (j:=k) (by omega) (by omega) (by omega))
   rw [if_neg hne, ← List.getD_eq_getElem?_getD]
   exact sW h (by omega) (by omega)
theorem ve {g:Gr} (hm:aZ g=true) (h:vb g=true):p9 g (aH g)=true:=by
 have he:=tY hm h
 obtain ⟨hP,hO,_⟩:=dZ hm
 have hall:=(bP.1 he).2
 simp only [p9,he,Bool.true_and,xY,List.all_eq_true,List.mem_range,decide_eq_true_eq]
 intro i hi
 have hh:=fH hm hi
 obtain ⟨p,hp,e⟩:=List.getElem_of_mem (hall (hd g i) (cI.2 (by omega)))
 have e':(aH g).getD p 0=hd g i:=by rw [List.getD_eq_getElem?_getD,List.getElem?_eq_getElem hp];exact e
 have ht:=hO p hp i hi e'.symm
 rw [List.mem_iff_getElem?] at ht
 obtain ⟨q,hq⟩:=ht
 rw [List.getElem?_take] at hq
 split at hq
 ·rename_i HF
  have e2:(aH g).getD q 0=tl g i:=by rw [List.getD_eq_getElem?_getD,hq];rfl
  rw [← e', ← e2,sW he hp (Nat.le_refl _),sW he (by omega) (Nat.le_refl _)]
  omega
 ·cases hq
end Go.Ab
end
section
namespace Go.Ab
open Go.Proofs
attribute [local congr] ACall.congr gd.congr Nx.congr
set_option maxRecDepth 10000
end Go.Ab
end
section
namespace Go.Ab
open Go.Proofs
attribute [local congr] ACall.congr gd.congr Nx.congr
set_option maxRecDepth 10000
def gz:Gr:=⟨0, []⟩
def vz:D:= .pt [.sc (.int .i64 0), .sl 2 [], .sl 1 [], .sl 1 []]
def aP (f:Edge→Int) (g:Gr) (x:Int):List Int:=if 0≤x∧x<g.n then aS f g.es g.es.length x else []
theorem nK (f:Edge→Int) (g:Gr) (hm:aZ g=true) (x:Int):Spec Try.prog 108 (Args [.d (vw g), .d (.sl 1 (zx f g)),eN x]) [] (.d (sI (aP f g x))) []:=by
 rw [ah]
 have hn:=bf hm
 have hl':(aS f g.es g.es.length x).length≤1000000:=by have:=k9 (f:=f) (es:=g.es) (k:=g.es.length) (x:=x);omega
 (refine Spec.hd (C:=T.cfg [] []) (rs:= [.t 6]) (T.aj _ _) Try.func108 rfl rfl Try.ntmps108 Try.results108 (by simp [AObj.isNest]) (by simp [AObj.isNest]) (by kernel_rfl) T.mixed fun X hX hP hC aR cL=> ?_)
 by_cases hx:0≤x∧x<g.n
 ·have hv:=ku (f:=f) (g:=g) (x:=x.toNat) (by omega)
  have he:dx f g.es g.es.length x.toNat=aS f g.es g.es.length x:=by rw [nD,show ((x.toNat:Nat):Int)=x from by omega]
  rw [he] at hv
  have ak:decide (x<0)=false:=decide_eq_false (by omega)
  have aE:decide (g.n≤x)=false:=decide_eq_false (by omega)
  have ht:aP f g x=aS f g.es g.es.length x:=if_pos hx
  repeat' (first|refine Rn.p ?_|(with_reducible apply And.intro)|((first|(refine hK _ ?_;clear hK K)|with_reducible intro K hK|refine Rs.p ?_|((with_reducible first|apply oP|apply oQ);exact rfl)|refine aa hX hC hP (iN (aS f g.es g.es.length x) hl') rfl rfl rfl (by simp only [go_sem,simprocAttr,hv,ak,aE]) rfl ?_);try simp only [go_sem,simprocAttr,hv,ak,aE])|((with_reducible refine oD ?_ ?_);kernel_rfl)|((with_reducible intro h);try simp only [go_sem,simprocAttr,hv,ak,aE] at h)|omega|intro h)
  simp [ht]
 ·have ht:aP f g x= []:=if_neg hx
  repeat' (first|refine Rn.p ?_|(with_reducible apply And.intro)|((first|(refine hK _ ?_;clear hK K)|with_reducible intro K hK|refine Rs.p ?_|((with_reducible first|apply oP|apply oQ);exact rfl)|refine aa hX hC hP (iN (aS f g.es g.es.length x) hl') rfl rfl rfl (by simp only [go_sem,simprocAttr,ht]) rfl ?_);try simp only [go_sem,simprocAttr,ht])|((with_reducible refine oD ?_ ?_);kernel_rfl)|((with_reducible intro h);try simp only [go_sem,simprocAttr,ht] at h)|omega|intro h)
theorem fm (g:Gr) (hm:aZ g=true) (x:Int):Spec Try.prog 82 (Args [.d (vw g),eN x]) [] (.d (sI (aP (·.1) g x))) []:=by
 (refine Spec.hd (C:=T.cfg [] []) (rs:= [.t 4]) (T.aj _ _) Try.func82 rfl rfl Try.ntmps82 Try.results82 (by simp [AObj.isNest]) (by simp [AObj.isNest]) (by kernel_rfl) T.mixed fun X hX hP hC aR cL=> ?_)
 repeat' (first|refine Rn.p ?_|(with_reducible apply And.intro)|((first|(refine hK _ ?_;clear hK K)|with_reducible intro K hK|refine Rs.p ?_|((with_reducible first|apply oP|apply oQ);exact rfl)|refine aa hX hC hP (nK (·.1) g hm x) rfl rfl rfl (by simp only [go_sem,simprocAttr,ah]) rfl ?_);try simp only [go_sem,simprocAttr,ah])|((with_reducible refine oD ?_ ?_);kernel_rfl)|((with_reducible intro h);try simp only [go_sem,simprocAttr,ah] at h)|omega|intro h)
theorem gD (g:Gr) (hm:aZ g=true) (x:Int):Spec Try.prog 109 (Args [.d (vw g),eN x]) [] (.d (sI (aP (·.2) g x))) []:=by
 (refine Spec.hd (C:=T.cfg [] []) (rs:= [.t 4]) (T.aj _ _) Try.func109 rfl rfl Try.ntmps109 Try.results109 (by simp [AObj.isNest]) (by simp [AObj.isNest]) (by kernel_rfl) T.mixed fun X hX hP hC aR cL=> ?_)
 repeat' (first|refine Rn.p ?_|(with_reducible apply And.intro)|((first|(refine hK _ ?_;clear hK K)|with_reducible intro K hK|refine Rs.p ?_|((with_reducible first|apply oP|apply oQ);exact rfl)|refine aa hX hC hP (nK (·.2) g hm x) rfl rfl rfl (by simp only [go_sem,simprocAttr,ah]) rfl ?_);try simp only [go_sem,simprocAttr,ah])|((with_reducible refine oD ?_ ?_);kernel_rfl)|((with_reducible intro h);try simp only [go_sem,simprocAttr,ah] at h)|omega|intro h)
end Go.Ab
end
section
namespace Go.Ab
open Go.Proofs
attribute [local congr] ACall.congr gd.congr Nx.congr
set_option maxRecDepth 10000
abbrev It:=Int × Int × Int
def rT (t:It):List D:= [.sc (.int .i64 t.1), .sc (.int .i64 t.2.1), .sc (.int .i64 t.2.2)]
def eT (t:It):AV:= .agg [.d (.sc (.int .i64 t.1)), .d (.sc (.int .i64 t.2.1)), .d (.sc (.int .i64 t.2.2))]
def sT (ts:List It):D:= .sl 3 (ts.map rT)
theorem getD_rT (ps:List It) (i:Nat):(ps.map rT).getD i [.sc (.int .i64 0), .sc (.int .i64 0), .sc (.int .i64 0)]=rT (ps.getD i (0,0,0)):=by
 simp only [List.getD_eq_getElem?_getD,List.getElem?_map]
 cases ps[i]? <;>rfl
theorem rT_eq (t:It):rT t= [.sc (.int .i64 t.1), .sc (.int .i64 t.2.1), .sc (.int .i64 t.2.2)]:=rfl
attribute [go_sem] getD_rT rT_eq eT sT
theorem Af {l:List Int} :∀r∈l.map rI,∀x∈r,∃v,x=D.sc v:=by
 intro r hr x hx
 obtain ⟨y,_,rfl⟩:=List.mem_map.1 hr
 simp only [rI,List.mem_singleton] at hx
 exact ⟨_,hx⟩
theorem Ag {l:List It} :∀r∈l.map rT,∀x∈r,∃v,x=D.sc v:=by
 intro r hr x hx
 obtain ⟨y,_,rfl⟩:=List.mem_map.1 hr
 simp only [rT,List.mem_cons,List.not_mem_nil,or_false] at hx
 rcases hx with h|h|h<;>exact ⟨_,h⟩
theorem bq {α:Type} {l:List α} {m:Nat} {d:α} (h:m<l.length):l.getD m d∈l:=by
 rw [List.getD_eq_getElem?_getD,List.getElem?_eq_getElem h];exact List.getElem_mem h
theorem lR (ps:List It) (hl:ps.length≤1000000):
 Spec Try.prog 87 (Args [.d (sT ps)]) [] (.ref 10000) [(10000, .tip 74 3 (ps.map rT))]:=by
 (refine Spec.tS (C:=T.cfg [] []) (rs:= [.t 2]) [(10000,7)] (T.aj _ _) Try.func87 rfl rfl Try.ntmps87 Try.results87 (by simp [AObj.isNest]) (by simp [AObj.isNest]) (by first|(simp [look];done)|(simp [asN];done)|(intro l hl;simp only [asN];repeat (rw [if_neg (fun e=>by subst e;simp [look] at hl)]))) (by first|(simp [look];done)|(simp [asN];done)|(intro l hl;simp only [asN];repeat (rw [if_neg (fun e=>by subst e;simp [look] at hl)]))) (by kernel_rfl) T.mixed fun X hX hP hC aR cL=> ?_)
 repeat' (first|(show bZ _ .ret _ _;(try simp only [go_sem,simprocAttr]);refine eV hX 2 7 (.tip 74 3 []) ?_ ?_ (by decide) ⟨74,3,by decide, .inr rfl⟩ ?_;(iterate 2 (focus (simp only [go_sem,simprocAttr];done)));simp only [go_sem,simprocAttr])|refine Rn.p ?_|(with_reducible apply And.intro)|((first|(refine hK _ ?_;clear hK K)|with_reducible intro K hK|refine Rs.p ?_|((with_reducible first|apply oP|apply oQ);exact rfl));try simp only [go_sem,simprocAttr])|((with_reducible refine oD ?_ ?_);kernel_rfl)|((with_reducible intro h);try simp only [go_sem,simprocAttr] at h)|omega|intro h)
 exact h.symm
theorem qb (ps:List Int) (hl:ps.length≤1000000):
 Spec Try.prog 31 (Args [.d (sI ps)]) [] (.ref 10000) [(10000, .tip 3 1 (ps.map rI))]:=by
 (refine Spec.tS (C:=T.cfg [] []) (rs:= [.t 2]) [(10000,7)] (T.aj _ _) Try.func31 rfl rfl Try.ntmps31 Try.results31 (by simp [AObj.isNest]) (by simp [AObj.isNest]) (by first|(simp [look];done)|(simp [asN];done)|(intro l hl;simp only [asN];repeat (rw [if_neg (fun e=>by subst e;simp [look] at hl)]))) (by first|(simp [look];done)|(simp [asN];done)|(intro l hl;simp only [asN];repeat (rw [if_neg (fun e=>by subst e;simp [look] at hl)]))) (by kernel_rfl) T.mixed fun X hX hP hC aR cL=> ?_)
 repeat' (first|(show bZ _ .ret _ _;(try simp only [go_sem,simprocAttr]);refine eV hX 2 7 (.tip 3 1 []) ?_ ?_ (by decide) ⟨3,1,by decide, .inr rfl⟩ ?_;(iterate 2 (focus (simp only [go_sem,simprocAttr];done)));simp only [go_sem,simprocAttr])|refine Rn.p ?_|(with_reducible apply And.intro)|((first|(refine hK _ ?_;clear hK K)|with_reducible intro K hK|refine Rs.p ?_|((with_reducible first|apply oP|apply oQ);exact rfl));try simp only [go_sem,simprocAttr])|((with_reducible refine oD ?_ ?_);kernel_rfl)|((with_reducible intro h);try simp only [go_sem,simprocAttr] at h)|omega|intro h)
 exact h.symm
theorem iy {m:List (Nat × AObj)} (hR:aU m) (f:Nat) (caps:List AV) (g:It→Bool) (ps:List It) (hf:∀p∈ps,Spec Try.prog f (Args (eT p::caps)) m (eB (g p)) m) (hl:ps.length≤9223372036854775807):
 Spec Try.prog 132 (Args [.d (sT ps), .fn f [] caps]) m (eN (bw g ps)) m:=by
 (refine Spec.hd (C:=T.cfg [] []) (rs:= [.t 4]) (T.aj _ _) Try.func132 rfl rfl Try.ntmps132 Try.results132 (fun p hp=>⟨(aU.low hR p hp).1,aU.nest hR p hp⟩) (fun p hp=>⟨(aU.low hR p hp).2,aU.nest hR p hp⟩) (by kernel_rfl) T.mixed fun X hX hP hC aR cL=> ?_)
 repeat' (first|refine Rn.p ?_|(with_reducible apply And.intro)|((first|(refine hK _ ?_;clear hK K)|with_reducible intro K hK|refine Rs.p ?_|((with_reducible first|apply oP|apply oQ);exact rfl));try simp only [go_sem,simprocAttr])|((with_reducible refine oD ?_ ?_);kernel_rfl)|((with_reducible intro h);try simp only [go_sem,simprocAttr] at h)|omega|intro h)
 refine au (fun k:Nat=>k≤ps.length∧∀j,j<k→g (ps.getD j (0,0,0))=false) (fun k=>⟨[(0, .d (sT ps)),(1, .fn f [] caps),(7,eN ps.length),(8,eN k)],m⟩) (fun k=>ps.length - k) 0 (by simp) ?_ ?_
 ·(refine ⟨cH ?_,fun _ _ h=>h⟩;simp [go_sem,simprocAttr])
 rintro k ⟨hk,hg⟩
 rcases Nat.lt_or_ge k ps.length with hlt|hge
 ·have hb:decide ((k:Int)<(ps.length:Int))=true:=decide_eq_true (by omega)
  have hf':=hf (ps.getD k (0,0,0)) (bq hlt)
  repeat' (first|refine Rn.p ?_|(with_reducible apply And.intro)|((first|(refine hK _ ?_;clear hK K)|with_reducible intro K hK|refine Rs.p ?_|((with_reducible first|apply oP|apply oQ);exact rfl)|(first|(refine aL hX hC hP hR (hf') rfl rfl rfl ?_ ?_ rfl rfl ?_;(focus (simp only [go_sem,simprocAttr,hb];done));(focus (first|(intro p hp;exact aF (aU.nd hR) hp)|(simp [go_sem,simprocAttr,hb];done))))|(refine aL hX hC hP hR (hf') rfl rfl rfl ?_ ?_ ?_ rfl ?_;(focus (simp only [go_sem,simprocAttr,hb];done));(focus (first|(intro p hp;exact aF (aU.nd hR) hp)|(simp [go_sem,simprocAttr,hb];done)));(focus (simp [go_sem,simprocAttr,hb];done)))));try simp only [go_sem,simprocAttr,hb])|((with_reducible refine oD ?_ ?_);kernel_rfl)|((with_reducible intro h);try simp only [go_sem,simprocAttr,hb] at h)|omega|intro h)
  ·exact (ew (by omega) hg h).symm
  ·exact dL hR
  ·refine ⟨k+1,⟨by omega,fun j hj=> ?_⟩, ?_,by omega⟩
   ·by_cases hjk:j=k
    ·subst hjk;exact h
    ·exact hg j (by omega)
   ·(refine ⟨cH ?_,fun _ _ h=>h⟩;simp [go_sem,simprocAttr,hb])
 ·have hb:decide ((k:Int)<(ps.length:Int))=false:=decide_eq_false (by omega)
  repeat' (first|refine Rn.p ?_|(with_reducible apply And.intro)|((first|(refine hK _ ?_;clear hK K)|with_reducible intro K hK|refine Rs.p ?_|((with_reducible first|apply oP|apply oQ);exact rfl)|(first|(refine aL hX hC hP hR (hf') rfl rfl rfl ?_ ?_ rfl rfl ?_;(focus (simp only [go_sem,simprocAttr,hb];done));(focus (first|(intro p hp;exact aF (aU.nd hR) hp)|(simp [go_sem,simprocAttr,hb];done))))|(refine aL hX hC hP hR (hf') rfl rfl rfl ?_ ?_ ?_ rfl ?_;(focus (simp only [go_sem,simprocAttr,hb];done));(focus (first|(intro p hp;exact aF (aU.nd hR) hp)|(simp [go_sem,simprocAttr,hb];done)));(focus (simp [go_sem,simprocAttr,hb];done)))));try simp only [go_sem,simprocAttr,hb])|((with_reducible refine oD ?_ ?_);kernel_rfl)|((with_reducible intro h);try simp only [go_sem,simprocAttr,hb] at h)|omega|intro h)
  ·exact (dh (0,0,0) fun j hj=>hg j (by omega)).symm
  ·exact dL hR
theorem jP {m:List (Nat × AObj)} (hR:aU m) (f:Nat) (caps:List AV) (g:It→Bool) (ps:List It) (hf:∀p∈ps,Spec Try.prog f (Args (eT p::caps)) m (eB (g p)) m) (hl:ps.length≤9223372036854775807):
 Spec Try.prog 119 (Args [.d (sT ps), .fn f [] caps]) m (eB (ps.any g)) m:=by
 (refine Spec.hd (C:=T.cfg [] []) (rs:= [.t 4]) (T.aj _ _) Try.func119 rfl rfl Try.ntmps119 Try.results119 (fun p hp=>⟨(aU.low hR p hp).1,aU.nest hR p hp⟩) (fun p hp=>⟨(aU.low hR p hp).2,aU.nest hR p hp⟩) (by kernel_rfl) T.mixed fun X hX hP hC aR cL=> ?_)
 repeat' (first|refine Rn.p ?_|(with_reducible apply And.intro)|((first|(refine hK _ ?_;clear hK K)|with_reducible intro K hK|refine Rs.p ?_|((with_reducible first|apply oP|apply oQ);exact rfl)|(first|(refine aL hX hC hP hR (iy hR f caps g ps hf hl) rfl rfl rfl ?_ ?_ rfl rfl ?_;(focus (simp only [go_sem,simprocAttr];done));(focus (first|(intro p hp;exact aF (aU.nd hR) hp)|(simp [go_sem,simprocAttr];done))))|(refine aL hX hC hP hR (iy hR f caps g ps hf hl) rfl rfl rfl ?_ ?_ ?_ rfl ?_;(focus (simp only [go_sem,simprocAttr];done));(focus (first|(intro p hp;exact aF (aU.nd hR) hp)|(simp [go_sem,simprocAttr];done)));(focus (simp [go_sem,simprocAttr];done)))));try simp only [go_sem,simprocAttr])|((with_reducible refine oD ?_ ?_);kernel_rfl)|((with_reducible intro h);try simp only [go_sem,simprocAttr] at h)|omega|intro h)
 ·exact dX g ps
 ·exact dL hR
theorem fI (n:Int) (h0:0<n) (hl:n≤1000000):Spec Try.prog 121 (Args [.nil 74,eN n]) [] (.ref 10000) [(10000, .own 74 3 [])]:=by
 (refine Spec.tS (C:=T.cfg [] []) (rs:= [.t 4]) [(10000,25)] (T.aj _ _) Try.func121 rfl rfl Try.ntmps121 Try.results121 (by simp [AObj.isNest]) (by simp [AObj.isNest]) (by first|(simp [look];done)|(simp [asN];done)|(intro l hl;simp only [asN];repeat (rw [if_neg (fun e=>by subst e;simp [look] at hl)]))) (by first|(simp [look];done)|(simp [asN];done)|(intro l hl;simp only [asN];repeat (rw [if_neg (fun e=>by subst e;simp [look] at hl)]))) (by kernel_rfl) T.mixed fun X hX hP hC aR cL=> ?_)
 repeat' (first|refine Rn.p ?_|(with_reducible apply And.intro)|((first|(refine hK _ ?_;clear hK K)|with_reducible intro K hK|refine Rs.p ?_|((with_reducible first|apply oP|apply oQ);exact rfl));try simp only [go_sem,simprocAttr])|((with_reducible refine oD ?_ ?_);kernel_rfl)|((with_reducible intro h);try simp only [go_sem,simprocAttr] at h)|omega|intro h)
def vT (ls:List (List It)):List (List D):=ls.map fun l=> [sT l]
theorem vT_length {ls:List (List It)} :(vT ls).length=ls.length:=by simp [vT]
theorem kE {ls:List (List It)} {k:Nat} (h:k<ls.length) (d:List D):(vT ls).getD k d= [sT (ls.getD k [])]:=by
 simp [vT,List.getD_eq_getElem?_getD,List.getElem?_eq_getElem h]
attribute [go_sem] vT_length
theorem nL {α:Type} {ls:List (List α)} {k:Nat} (h:k<ls.length):(ls.take (k+1)).flatten=(ls.take k).flatten++ls.getD k []:=by
 rw [List.take_add_one,List.flatten_append,List.getElem?_eq_getElem h,List.getD_eq_getElem?_getD,List.getElem?_eq_getElem h]
 simp
theorem kF {α:Type} {ls:List (List α)} {k:Nat} :(ls.take k).flatten.length≤ls.flatten.length:=by
 have:=congrArg (fun x=>x.flatten.length) (List.take_append_drop k ls)
 simp only [List.flatten_append,List.length_append] at this
 omega
theorem qc (ls:List (List It)) (hn:ls.length≤1000) (h0:0<ls.flatten.length) (hl:ls.flatten.length≤1000000):Spec Try.prog 111 (Args [.d (.sl 1 (vT ls))]) [] (.d (sT ls.flatten)) []:=by
 (refine Spec.hd (C:=T.cfg [] []) (rs:= [.t 2]) (T.aj _ _) Try.func111 rfl rfl Try.ntmps111 Try.results111 (by simp [AObj.isNest]) (by simp [AObj.isNest]) (by kernel_rfl) T.mixed fun X hX hP hC aR cL=> ?_)
 repeat' (first|refine Rn.p ?_|(with_reducible apply And.intro)|((first|(refine hK _ ?_;clear hK K)|with_reducible intro K hK|refine Rs.p ?_|((with_reducible first|apply oP|apply oQ);exact rfl)|(refine an hX hC hP [(10000,33)] (fI (ls.flatten.length:Int) (by omega) (by omega)) rfl rfl rfl ?_ ?_ ?_ ?_ ?_ ?_ ?_ ?_ ?_ ?_ ?_ ?_ ?_ ?_;(focus (simp only [go_sem,simprocAttr];done));(iterate 12 (focus (simp [go_sem,simprocAttr];done)));try simp only [List.map_cons,List.map_nil]));try simp only [go_sem,simprocAttr])|((with_reducible refine oD ?_ ?_);kernel_rfl)|((with_reducible intro h);try simp only [go_sem,simprocAttr] at h)|omega|intro h)
 refine au (fun k:Nat=>k≤ls.length) (fun k=>⟨[(0, .d (.sl 1 (vT ls))),(9, .d (.sl 1 (vT ls))),(10,eN ls.length),(11,eN k),(3,eN ((ls.take k).flatten.length))], []⟩) (fun k=>ls.length - k) 0 (by omega) ?_ ?_
 ·(refine Le.of ?_ ?_<;>simp [go_sem,simprocAttr])
 ·rintro k hk
  rcases Nat.lt_or_ge k ls.length with hlt|hge
  ·have hb:decide ((k:Int)<(ls.length:Int))=true:=decide_eq_true (by omega)
   have hv:=kE hlt
   have hf:=nL hlt
   have Dz:=kF (ls:=ls) (k:=k)
   have AU:=kF (ls:=ls) (k:=k+1)
   rw [hf,List.length_append] at AU
   have hneg:decide (((ls.take k).flatten.length:Int)+((ls.getD k []).length:Int)<0)=false:=decide_eq_false (by omega)
   repeat' (first|refine Rn.p ?_|(with_reducible apply And.intro)|((first|(refine hK _ ?_;clear hK K)|with_reducible intro K hK|refine Rs.p ?_|((with_reducible first|apply oP|apply oQ);exact rfl)|(refine an hX hC hP [(10000,33)] (fI (ls.flatten.length:Int) (by omega) (by omega)) rfl rfl rfl ?_ ?_ ?_ ?_ ?_ ?_ ?_ ?_ ?_ ?_ ?_ ?_ ?_ ?_;(focus (simp only [go_sem,simprocAttr,hb,hv,hneg];done));(iterate 12 (focus (simp [go_sem,simprocAttr,hb,hv,hneg];done)));try simp only [List.map_cons,List.map_nil]));try simp only [go_sem,simprocAttr,hb,hv,hneg])|((with_reducible refine oD ?_ ?_);kernel_rfl)|((with_reducible intro h);try simp only [go_sem,simprocAttr,hb,hv,hneg] at h)|omega|intro h)
   refine ⟨k+1,by omega, ?_,by omega⟩
   simp only [hf]
   refine Le.of ?_ ?_<;>simp [go_sem,simprocAttr,hb,hv,hneg]
  ·have hb:decide ((k:Int)<(ls.length:Int))=false:=decide_eq_false (by omega)
   have ht:ls.take k=ls:=List.take_of_length_le (by omega)
   repeat' (first|refine Rn.p ?_|(with_reducible apply And.intro)|((first|(refine hK _ ?_;clear hK K)|with_reducible intro K hK|refine Rs.p ?_|((with_reducible first|apply oP|apply oQ);exact rfl)|(refine an hX hC hP [(10000,33)] (fI (ls.flatten.length:Int) (by omega) (by omega)) rfl rfl rfl ?_ ?_ ?_ ?_ ?_ ?_ ?_ ?_ ?_ ?_ ?_ ?_ ?_ ?_;(focus (simp only [go_sem,simprocAttr,hb,ht];done));(iterate 12 (focus (simp [go_sem,simprocAttr,hb,ht];done)));try simp only [List.map_cons,List.map_nil]));try simp only [go_sem,simprocAttr,hb,ht])|((with_reducible refine oD ?_ ?_);kernel_rfl)|((with_reducible intro h);try simp only [go_sem,simprocAttr,hb,ht] at h)|omega|intro h)
   refine au (fun k:Nat=>k≤ls.length) (fun k=>⟨[(25, .d (.sl 1 (vT ls))),(26,eN ls.length),(27,eN k),(6, .ref 33)], [(33, .own 74 3 ((ls.take k).flatten.map rT))]⟩) (fun k=>ls.length - k) 0 (by omega) ?_ ?_
   ·(refine Le.of ?_ ?_<;>simp [go_sem,simprocAttr,hb,ht])
   ·clear hb ht hk hge
    rintro k hk
    rcases Nat.lt_or_ge k ls.length with hlt|hge
    ·have hb:decide ((k:Int)<(ls.length:Int))=true:=decide_eq_true (by omega)
     have hv:=kE hlt
     have hf:=nL hlt
     have Dz:=kF (ls:=ls) (k:=k)
     have AU:=kF (ls:=ls) (k:=k+1)
     rw [hf,List.length_append] at AU
     repeat' (first|refine Rn.p ?_|(with_reducible apply And.intro)|((first|(refine hK _ ?_;clear hK K)|with_reducible intro K hK|refine Rs.p ?_|((with_reducible first|apply oP|apply oQ);exact rfl)|(refine an hX hC hP [(10000,33)] (fI (ls.flatten.length:Int) (by omega) (by omega)) rfl rfl rfl ?_ ?_ ?_ ?_ ?_ ?_ ?_ ?_ ?_ ?_ ?_ ?_ ?_ ?_;(focus (simp only [go_sem,simprocAttr,hb,hv];done));(iterate 12 (focus (simp [go_sem,simprocAttr,hb,hv];done)));try simp only [List.map_cons,List.map_nil]));try simp only [go_sem,simprocAttr,hb,hv])|((with_reducible refine oD ?_ ?_);kernel_rfl)|((with_reducible intro h);try simp only [go_sem,simprocAttr,hb,hv] at h)|omega|intro h)
     refine ⟨k+1,by omega, ?_,by omega⟩
     simp only [hf]
     refine Le.of ?_ ?_<;>simp [go_sem,simprocAttr,hb,hv]
    ·have hb:decide ((k:Int)<(ls.length:Int))=false:=decide_eq_false (by omega)
     have ht:ls.take k=ls:=List.take_of_length_le (by omega)
     repeat' (first|refine Rn.p ?_|(with_reducible apply And.intro)|((first|(refine hK _ ?_;clear hK K)|with_reducible intro K hK|refine Rs.p ?_|((with_reducible first|apply oP|apply oQ);exact rfl)|(refine an hX hC hP [(10000,33)] (fI (ls.flatten.length:Int) (by omega) (by omega)) rfl rfl rfl ?_ ?_ ?_ ?_ ?_ ?_ ?_ ?_ ?_ ?_ ?_ ?_ ?_ ?_;(focus (simp only [go_sem,simprocAttr,hb,ht];done));(iterate 12 (focus (simp [go_sem,simprocAttr,hb,ht];done)));try simp only [List.map_cons,List.map_nil]));try simp only [go_sem,simprocAttr,hb,ht])|((with_reducible refine oD ?_ ?_);kernel_rfl)|((with_reducible intro h);try simp only [go_sem,simprocAttr,hb,ht] at h)|omega|intro h)
end Go.Ab
end
section
namespace Go.Ab
open Go.Proofs Go.RowKit Go.Shelf
attribute [local go_sem] Oper.semAt_some
attribute [local congr] ACall.congr gd.congr Nx.congr
theorem CQ {W:World} {z:Nat→Nat} {p:Value} {x:D} (h:Rd W z p (.pt [x])):∃b off v,p= .pointer (some ⟨b,off,none⟩)∧W.cell? ⟨b,off,none⟩=some v∧Rd W z v x:=by
 cases h with
 |pt b off cells vs hz hc hr=>exact ⟨b,off,vs 0,rfl,by simpa using hc 0 (by simp),hr 0 x rfl⟩
theorem FF {W:World} {z:Nat→Nat} {v:Value} {sz:Nat} {rows:List (List D)} (h:Rd W z v (.sl sz rows)):(∃p,v= .slice p 0 0∧rows= [])∨∃(b off cap:Nat) (vs:Nat→Value),v= .slice (some ⟨b,off,none⟩) rows.length cap∧rows.length≤cap∧(∀r∈rows,r.length=sz)∧
 (∀k,k<rows.length*sz→W.cell? ⟨b,off+k,none⟩=some (vs k))∧∀(i j:Nat) (r:List D) (x:D),rows[i]? =some r→r[j]? =some x→Rd W z (vs (i*sz+j)) x:=by
 cases h with
 |nil p sz=>exact .inl ⟨p,rfl,rfl⟩
 |sl b off n cap sz rows vs hn hsz hz hcap hc hr=>subst hn;exact .inr ⟨b,off,cap,vs,rfl,hcap,hsz,hc,hr⟩
set_option maxRecDepth 100000 in
set_option maxHeartbeats 4000000 in
theorem zA (rows:List (List D)) (h3:∀r∈rows,r.length=3) (hl:rows.length≤1000000):xD Try.prog 63 3 rows:=by
 intro l p J W hJ h0
 obtain ⟨z0,pJ,_⟩:=hJ 0 W h0
 obtain ⟨B,o,v0,rfl,Dk,BP⟩:=CQ pJ
 have hc:∀k W1,J k W1→∃pp cap,W1.cell? ⟨B,o,none⟩=some (.slice pp rows.length cap)∧(k<rows.length→∃b1 o1,pp=some ⟨b1,o1,none⟩∧∃u0 u1 u2:Value,
  W1.cell? ⟨b1,o1+(rows.length - 1 - k)*3,none⟩=some u0∧W1.cell? ⟨b1,o1+(rows.length - 1 - k)*3+1,none⟩=some u1∧W1.cell? ⟨b1,o1+(rows.length - 1 - k)*3+2,none⟩=some u2∧
  YieldAt Fence.wide 3 Try.prog l #[.int .i64 ((rows.length - 1 - k:Nat):Int), .agg #[u0,u1,u2]] W1 fun e W2=>e= .returned (.bool true)∧J (k+1) W2):=by
  intro k W1 hk
  obtain ⟨z,hp,hy⟩:=hJ k W1 hk
  obtain ⟨B',o',v,e,hv,hr⟩:=CQ hp
  cases e
  rcases FF hr with ⟨pp,rfl,rfl⟩|⟨b,off,cap,vs,rfl,hcap,hsz,hcs,qp⟩
  ·exact ⟨pp,0,hv,fun h=>absurd h (by simp)⟩
  ·refine ⟨_,cap,hv,fun bT=>⟨b,off,rfl,vs ((rows.length - 1 - k)*3),vs ((rows.length - 1 - k)*3+1),vs ((rows.length - 1 - k)*3+2), ?_, ?_, ?_, ?_⟩⟩
   ·exact hcs ((rows.length - 1 - k)*3) (by omega)
   ·exact hcs ((rows.length - 1 - k)*3+1) (by omega)
   ·exact hcs ((rows.length - 1 - k)*3+2) (by omega)
   ·have hlt:rows.length - 1 - k<rows.length:=by omega
    refine hy bT [vs ((rows.length - 1 - k)*3),vs ((rows.length - 1 - k)*3+1),vs ((rows.length - 1 - k)*3+2)] rfl fun i u x hu hx=> ?_
    have hx':∃r,rows[rows.length - 1 - k]? =some r∧r[i]? =some x:=⟨rows[rows.length - 1 - k],List.getElem?_eq_getElem hlt,by rw [List.getD_eq_getElem?_getD,List.getElem?_eq_getElem hlt] at hx;exact hx⟩
    obtain ⟨r,mc,r6⟩:=hx'
    have:=qp (rows.length - 1 - k) i r x mc r6
    match i,hu with
    |0,hu=>cases hu;exact this
    |1,hu=>cases hu;exact this
    |2,hu=>cases hu;exact this
 clear hJ pJ BP Dk
 refine callsIn_of_wp Try.func63 rfl trivial ?_ rfl
 simp only [Try.ntmps63,List.size_toArray,List.length_cons,List.length_nil,Nat.reduceAdd,Nat.reduceSub,Array.replicate_succ,Array.replicate_zero,List.push_toArray,List.append_toArray,List.nil_append,List.cons_append]
 obtain ⟨IW,HH,hc0,_⟩:=hc 0 W h0
 have hw:wrap64 ((rows.length:Int) - 1)=(rows.length:Int) - 1:=by unfold wrap64;omega
 gi_wp2
 gi_loopw [3] (fun i wr=>∃k:Nat,k≤rows.length∧i= .int .i64 ((rows.length:Int) - 1 - k)∧J k wr) (fun i _=>(Go.RowKit.intOf i+1).toNat)
 case atStart=>exact ⟨0,Nat.zero_le _,by simp,h0⟩
 case round=>
  obtain ⟨k,hk,rfl,Ct⟩:=hrel
  obtain ⟨pp,cap,Gv,CR⟩:=hc k wr Ct
  by_cases hlt:k<rows.length
  ·obtain ⟨b1,o1,rfl,u0,u1,u2,g0,g1,g2,fn,tmps,assign,body,hy,hR⟩:=CR hlt
   have hi:((rows.length - 1 - k:Nat):Int)=(rows.length:Int) - 1 - k:=by omega
   rw [hi] at hy
   have hi2:((rows.length:Int) - 1 - k).toNat=rows.length - 1 - k:=by omega
   have IX:0≤(rows.length:Int) - 1 - k:=by omega
   have IY:wrap64 ((rows.length:Int) - 1 - k - 1)=(rows.length:Int) - 1 - k - 1:=by unfold wrap64;omega
   gi_wp2
   refine hR.mono ?_
   rintro e W3 ⟨rfl,Fw⟩
   gi_wp2
   go_roundw
   case rel=>exact ⟨k+1,by omega,by congr 1;omega,Fw⟩
   case measure=>simp [Go.RowKit.intOf];omega
  ·obtain rfl:k=rows.length:=by omega
   gi_wp2
   go_end0
   exact ⟨⟨_,rfl⟩,Ct⟩
end Go.Ab
end
section
namespace Go.Ab
open Go.Proofs
attribute [local congr] ACall.congr gd.congr Nx.congr
set_option maxRecDepth 10000
set_option maxHeartbeats 1000000
structure Fr where
 row:List It
 pl:List Int
def gE (g:Gr) (f:Fr):D:= .pt [sT f.row,vw g,sI f.pl]
def dB (row:List It) (x:Int):Nat→Int × Int × Int
 |0=>(-1,0,0)
 |k+1=>if (row.getD k (0,0,0)).2.2=x then (if (dB row x k).1= -1 then (k:Int) else (dB row x k).1,(k:Int)+1,(dB row x k).2.2+1) else dB row x k
def aQ (row:List It) (x:Int):Int × Int × Int:=dB row x row.length
theorem jQ {row:List It} {x:Int} {k:Nat} :dB row x (k+1)=if (row.getD k (0,0,0)).2.2=x then (if (dB row x k).1= -1 then (k:Int) else (dB row x k).1,(k:Int)+1,(dB row x k).2.2+1) else dB row x k:=rfl
theorem dO {row:List It} {x:Int} :∀k:Nat,(dB row x k=(-1,0,0)∧∀j,j<k→(row.getD j (0,0,0)).2.2≠x)∨
 ∃a b c:Nat,dB row x k=((a:Int),(b:Int),(c:Int))∧a<b∧b≤k∧0<c∧c≤k∧(row.getD a (0,0,0)).2.2=x∧(row.getD (b - 1) (0,0,0)).2.2=x∧(∀j,j<a→(row.getD j (0,0,0)).2.2≠x)∧(∀j,b≤j→j<k→(row.getD j (0,0,0)).2.2≠x)
 |0=> .inl ⟨rfl,fun j hj=>by omega⟩
 |k+1=>by
  rw [jQ]
  by_cases hx:(row.getD k (0,0,0)).2.2=x
  ·rw [if_pos hx]
   right
   rcases dO (row:=row) (x:=x) k with ⟨h1,h2⟩|⟨a,b,c,h1,h2,h3,h4,h5,h6,h7,h8,h9⟩
   ·refine ⟨k,k+1,1,by rw [h1];rfl,by omega,by omega,by omega,by omega,hx,hx,h2,fun j h1 h2=>by omega⟩
   ·refine ⟨a,k+1,c+1,by rw [h1];simp only [Prod.mk.injEq];exact ⟨by rw [if_neg (by omega)],by omega,by omega⟩,by omega,by omega,by omega,by omega,h6,hx,h8,fun j h1 h2=>by omega⟩
  ·rw [if_neg hx]
   rcases dO (row:=row) (x:=x) k with ⟨h1,h2⟩|⟨a,b,c,h1,h2,h3,h4,h5,h6,h7,h8,h9⟩
   ·refine .inl ⟨h1,fun j hj=> ?_⟩
    by_cases hjk:j=k
    ·subst hjk;exact hx
    ·exact h2 j (by omega)
   ·refine .inr ⟨a,b,c,h1,h2,by omega,h4,by omega,h6,h7,h8,fun j HI IZ=> ?_⟩
    by_cases hjk:j=k
    ·subst hjk;exact hx
    ·exact h9 j HI (by omega)
theorem cY (ds:List D) (row:List It) (x:Int) (hl:row.length≤1000000):Spec Try.prog 84 (Args [.d (.pt (sT row::ds)),eN x]) [] (.tup [eN (aQ row x).1,eN (aQ row x).2.1,eN (aQ row x).2.2]) []:=by
 (refine Spec.hd (C:=T.cfg [] []) (rs:= [.t 4, .t 5, .t 6]) (T.aj _ _) Try.func84 rfl rfl Try.ntmps84 Try.results84 (by simp [AObj.isNest]) (by simp [AObj.isNest]) (by kernel_rfl) T.mixed fun X hX hP hC aR cL=> ?_)
 repeat' (first|refine Rn.p ?_|(with_reducible apply And.intro)|((first|(refine hK _ ?_;clear hK K)|with_reducible intro K hK|refine Rs.p ?_|((with_reducible first|apply oP|apply oQ);exact rfl));try simp only [go_sem,simprocAttr,aQ])|((with_reducible refine oD ?_ ?_);kernel_rfl)|((with_reducible intro h);try simp only [go_sem,simprocAttr,aQ] at h)|omega|intro h)
 refine au (fun k:Nat=>k≤row.length) (fun k=>⟨[(1,eN x),(12, .d (sT row)),(13,eN row.length),(14,eN k),(4,eN (dB row x k).1),(5,eN (dB row x k).2.1),(6,eN (dB row x k).2.2)], []⟩) (fun k=>row.length - k) 0 (by simp) ?_ ?_
 ·refine Le.of ?_ ?_<;>simp [go_sem,simprocAttr,aQ,dB]
 rintro k hk
 rcases Nat.lt_or_ge k row.length with hlt|hge
 ·have hb:decide ((k:Int)<(row.length:Int))=true:=decide_eq_true (by omega)
  have hok:=dO (row:=row) (x:=x) k
  have hc: -1≤(dB row x k).2.2∧(dB row x k).2.2≤k:=by
   rcases hok with ⟨h1,_⟩|⟨a,b,c,h1,_,_,_,_,_⟩<;>rw [h1]<;>simp only<;>omega
  have k7:=jQ (row:=row) (x:=x) (k:=k)
  repeat' (first|refine Rn.p ?_|(with_reducible apply And.intro)|((first|(refine hK _ ?_;clear hK K)|with_reducible intro K hK|refine Rs.p ?_|((with_reducible first|apply oP|apply oQ);exact rfl));try simp only [go_sem,simprocAttr,hb])|((with_reducible refine oD ?_ ?_);kernel_rfl)|((with_reducible intro h);try simp only [go_sem,simprocAttr,hb] at h)|omega|intro h)
  all_goals (first|rw [if_neg (by assumption)] at k7|(rw [if_pos (by assumption)] at k7;first|rw [if_pos (by assumption)] at k7|rw [if_neg (by assumption)] at k7))
  all_goals (refine ⟨k+1,by omega, ?_,by omega⟩;refine Le.of ?_ ?_<;>simp [go_sem,simprocAttr,hb,k7])
 ·have hb:decide ((k:Int)<(row.length:Int))=false:=decide_eq_false (by omega)
  obtain rfl:k=row.length:=by omega
  repeat' (first|refine Rn.p ?_|(with_reducible apply And.intro)|((first|(refine hK _ ?_;clear hK K)|with_reducible intro K hK|refine Rs.p ?_|((with_reducible first|apply oP|apply oQ);exact rfl));try simp only [go_sem,simprocAttr,hb,aQ])|((with_reducible refine oD ?_ ?_);kernel_rfl)|((with_reducible intro h);try simp only [go_sem,simprocAttr,hb,aQ] at h)|omega|intro h)
def iU (x:Int) (t:It):Bool:=decide (t.2.2≠x)&&decide (t.2.2≠ -1)
def oV (row:List It) (x:Int) (a b:Nat):Bool:= !((row.take b).drop a).any (iU x)
theorem vf (x:Int):aU [(10000, .rob [eN x])]:=⟨by simp [AObj.ro],by simp [nodupM,look],by simp,by simp [AObj.ids,AV.ids,AV.idss,eN]⟩
theorem sX (x:Int) (t:It):Spec Try.prog 120 (Args [eT t, .ptr 10000 0]) [(10000, .rob [eN x])] (eB (iU x t)) [(10000, .rob [eN x])]:=by
 (refine Spec.hd (C:=T.cfg [] []) (rs:= [.t 3]) (T.aj _ _) Try.func120 rfl rfl Try.ntmps120 Try.results120 (fun p hp=>⟨(aU.low (vf x) p hp).1,aU.nest (vf x) p hp⟩) (fun p hp=>⟨(aU.low (vf x) p hp).2,aU.nest (vf x) p hp⟩) (by kernel_rfl) T.mixed fun X hX hP hC aR cL=> ?_)
 repeat' (first|refine Rn.p ?_|(with_reducible apply And.intro)|((first|(refine hK _ ?_;clear hK K)|with_reducible intro K hK|refine Rs.p ?_|((with_reducible first|apply oP|apply oQ);exact rfl));try simp only [go_sem,simprocAttr])|((with_reducible refine oD ?_ ?_);kernel_rfl)|((with_reducible intro h);try simp only [go_sem,simprocAttr] at h)|omega|intro h)
 all_goals (simp only [iU];first|exact dL (vf x)|simp [*])
theorem ee (ds:List D) (row:List It) (x:Int) (a b:Nat) (hab:a≤b) (hb:b≤row.length) (hl:row.length≤1000000):Spec Try.prog 110 (Args [.d (.pt (sT row::ds)),eN x,eN a,eN b]) [] (eB (oV row x a b)) []:=by
 have uz:sT ((row.take b).drop a)= .sl 3 (((row.map rT).take b).drop a):=by simp [sT,List.map_take,List.map_drop]
 have rz:((row.take b).drop a).length≤9223372036854775807:=by simp;omega
 (refine Spec.hd (C:=T.cfg [] []) (rs:= [.t 8]) (T.aj _ _) Try.func110 rfl rfl Try.ntmps110 Try.results110 (by simp [AObj.isNest]) (by simp [AObj.isNest]) (by kernel_rfl) T.mixed fun X hX hP hC aR cL=> ?_)
 repeat' (first|refine Rn.p ?_|(with_reducible apply And.intro)|((first|(refine hK _ ?_;clear hK K)|with_reducible intro K hK|refine Rs.p ?_|((with_reducible first|apply oP|apply oQ);exact rfl)|(refine bU hX hC hP [(10000,5)] (jP (vf x) _ [.ptr 10000 0] (iU x) ((row.take b).drop a) (fun t _=>sX x t) rz) rfl rfl rfl ?_ ?_ ?_ ?_ ?_ ?_ rfl rfl ?_ ?_;(focus (simp only [go_sem,simprocAttr,List.map_take,List.map_drop];done));(iterate 6 (focus (simp [go_sem,simprocAttr,List.map_take,List.map_drop];done)));try simp only [List.map_cons,List.map_nil]));try simp only [go_sem,simprocAttr,List.map_take,List.map_drop])|((with_reducible refine oD ?_ ?_);kernel_rfl)|((with_reducible intro h);try simp only [go_sem,simprocAttr,List.map_take,List.map_drop] at h)|omega|intro h)
 rfl
end Go.Ab
end
section
namespace Go.Ab
open Go.Proofs
attribute [local congr] ACall.congr gd.congr Nx.congr
set_option maxRecDepth 10000
set_option maxHeartbeats 2000000
def eH (g:Gr) (f:Fr) (x:Int):Bool:=
 if x<0∨g.n≤x∨x∈f.pl then false else
 decide ((aQ f.row x).2.2=((aP (·.2) g x).length:Int))&&(decide ((aP (·.2) g x).length=0)||oV f.row x (aQ f.row x).1.toNat (aQ f.row x).2.1.toNat)
theorem sY {f:Edge→Int} {g:Gr} {x:Int} :(aP f g x).length≤g.es.length:=by
 unfold aP
 split
 ·exact k9
 ·simp
theorem jR (g:Gr) (hm:aZ g=true) (f:Fr) (x:Int) (hr:f.row.length≤1000000) (fS:f.pl.length≤1000000):Spec Try.prog 83 (Args [.d (gE g f),eN x]) [] (eB (eH g f x)) []:=by
 have hp:f.pl.length≤9223372036854775807:=by omega
 have hn:=bf hm
 unfold gE
 by_cases hx:x<0∨g.n≤x∨x∈f.pl
 ·have hR:eH g f x=false:=if_pos hx
  (refine Spec.hd (C:=T.cfg [] []) (rs:= [.t 4]) (T.aj _ _) Try.func83 rfl rfl Try.ntmps83 Try.results83 (by simp [AObj.isNest]) (by simp [AObj.isNest]) (by kernel_rfl) T.mixed fun X hX hP hC aR cL=> ?_)
  by_cases h1:x<0
  ·have ak:decide (x<0)=true:=decide_eq_true h1
   repeat' (first|refine Rn.p ?_|(with_reducible apply And.intro)|((first|(refine hK _ ?_;clear hK K)|with_reducible intro K hK|refine Rs.p ?_|((with_reducible first|apply oP|apply oQ);exact rfl)|refine aa hX hC hP (gD g hm x) rfl rfl rfl (by simp only [go_sem,simprocAttr,ah,hR,ak]) rfl ?_|refine aa hX hC hP (aO f.pl x hp) rfl rfl rfl (by simp only [go_sem,simprocAttr,ah,hR,ak]) rfl ?_|refine aa hX hC hP (cY [vw g,sI f.pl] f.row x hr) rfl rfl rfl (by simp only [go_sem,simprocAttr,ah,hR,ak]) rfl ?_|refine aa hX hC hP (ee [vw g,sI f.pl] f.row x a b hab od hr) rfl rfl rfl (by simp only [go_sem,simprocAttr,ah,hR,ak]) rfl ?_);try simp only [go_sem,simprocAttr,ah,hR,ak])|((with_reducible refine oD ?_ ?_);kernel_rfl)|((with_reducible intro h);try simp only [go_sem,simprocAttr,ah,hR,ak] at h)|omega|intro h)
  have ak:decide (x<0)=false:=decide_eq_false h1
  by_cases h2:g.n≤x
  ·have aE:decide (g.n≤x)=true:=decide_eq_true h2
   repeat' (first|refine Rn.p ?_|(with_reducible apply And.intro)|((first|(refine hK _ ?_;clear hK K)|with_reducible intro K hK|refine Rs.p ?_|((with_reducible first|apply oP|apply oQ);exact rfl)|refine aa hX hC hP (gD g hm x) rfl rfl rfl (by simp only [go_sem,simprocAttr,ah,hR,ak,aE]) rfl ?_|refine aa hX hC hP (aO f.pl x hp) rfl rfl rfl (by simp only [go_sem,simprocAttr,ah,hR,ak,aE]) rfl ?_|refine aa hX hC hP (cY [vw g,sI f.pl] f.row x hr) rfl rfl rfl (by simp only [go_sem,simprocAttr,ah,hR,ak,aE]) rfl ?_|refine aa hX hC hP (ee [vw g,sI f.pl] f.row x a b hab od hr) rfl rfl rfl (by simp only [go_sem,simprocAttr,ah,hR,ak,aE]) rfl ?_);try simp only [go_sem,simprocAttr,ah,hR,ak,aE])|((with_reducible refine oD ?_ ?_);kernel_rfl)|((with_reducible intro h);try simp only [go_sem,simprocAttr,ah,hR,ak,aE] at h)|omega|intro h)
  have aE:decide (g.n≤x)=false:=decide_eq_false h2
  have h3:x∈f.pl:=by rcases hx with h|h|h;exact absurd h h1;exact absurd h h2;exact h
  have cC:decide (x∈f.pl)=true:=decide_eq_true h3
  repeat' (first|refine Rn.p ?_|(with_reducible apply And.intro)|((first|(refine hK _ ?_;clear hK K)|with_reducible intro K hK|refine Rs.p ?_|((with_reducible first|apply oP|apply oQ);exact rfl)|refine aa hX hC hP (gD g hm x) rfl rfl rfl (by simp only [go_sem,simprocAttr,ah,hR,ak,aE,cC]) rfl ?_|refine aa hX hC hP (aO f.pl x hp) rfl rfl rfl (by simp only [go_sem,simprocAttr,ah,hR,ak,aE,cC]) rfl ?_|refine aa hX hC hP (cY [vw g,sI f.pl] f.row x hr) rfl rfl rfl (by simp only [go_sem,simprocAttr,ah,hR,ak,aE,cC]) rfl ?_|refine aa hX hC hP (ee [vw g,sI f.pl] f.row x a b hab od hr) rfl rfl rfl (by simp only [go_sem,simprocAttr,ah,hR,ak,aE,cC]) rfl ?_);try simp only [go_sem,simprocAttr,ah,hR,ak,aE,cC])|((with_reducible refine oD ?_ ?_);kernel_rfl)|((with_reducible intro h);try simp only [go_sem,simprocAttr,ah,hR,ak,aE,cC] at h)|omega|intro h)
 ·have ak:decide (x<0)=false:=decide_eq_false fun h=>hx (.inl h)
  have aE:decide (g.n≤x)=false:=decide_eq_false fun h=>hx (.inr (.inl h))
  have cC:decide (x∈f.pl)=false:=decide_eq_false fun h=>hx (.inr (.inr h))
  have hR:eH g f x=(decide ((aQ f.row x).2.2=((aP (·.2) g x).length:Int))&&(decide ((aP (·.2) g x).length=0)||oV f.row x (aQ f.row x).1.toNat (aQ f.row x).2.1.toNat)):=if_neg hx
  by_cases h4:(aQ f.row x).2.2=((aP (·.2) g x).length:Int)
  ·have hb4:decide ((aQ f.row x).2.2=((aP (·.2) g x).length:Int))=true:=decide_eq_true h4
   by_cases h5:(aP (·.2) g x).length=0
   ·have vg:decide (((aP (·.2) g x).length:Int)=0)=true:=decide_eq_true (by omega)
    rw [hb4,decide_eq_true h5] at hR
    (refine Spec.hd (C:=T.cfg [] []) (rs:= [.t 4]) (T.aj _ _) Try.func83 rfl rfl Try.ntmps83 Try.results83 (by simp [AObj.isNest]) (by simp [AObj.isNest]) (by kernel_rfl) T.mixed fun X hX hP hC aR cL=> ?_)
    repeat' (first|refine Rn.p ?_|(with_reducible apply And.intro)|((first|(refine hK _ ?_;clear hK K)|with_reducible intro K hK|refine Rs.p ?_|((with_reducible first|apply oP|apply oQ);exact rfl)|refine aa hX hC hP (gD g hm x) rfl rfl rfl (by simp only [go_sem,simprocAttr,ah,hR,ak,aE,cC,hb4,vg]) rfl ?_|refine aa hX hC hP (aO f.pl x hp) rfl rfl rfl (by simp only [go_sem,simprocAttr,ah,hR,ak,aE,cC,hb4,vg]) rfl ?_|refine aa hX hC hP (cY [vw g,sI f.pl] f.row x hr) rfl rfl rfl (by simp only [go_sem,simprocAttr,ah,hR,ak,aE,cC,hb4,vg]) rfl ?_|refine aa hX hC hP (ee [vw g,sI f.pl] f.row x a b hab od hr) rfl rfl rfl (by simp only [go_sem,simprocAttr,ah,hR,ak,aE,cC,hb4,vg]) rfl ?_);try simp only [go_sem,simprocAttr,ah,hR,ak,aE,cC,hb4,vg])|((with_reducible refine oD ?_ ?_);kernel_rfl)|((with_reducible intro h);try simp only [go_sem,simprocAttr,ah,hR,ak,aE,cC,hb4,vg] at h)|omega|intro h)
   ·have vg:decide (((aP (·.2) g x).length:Int)=0)=false:=decide_eq_false (by omega)
    rcases dO (row:=f.row) (x:=x) f.row.length with ⟨h6,_⟩|⟨a,b,c,h6,hab,od,_⟩
    ·exfalso
     have:(aQ f.row x).2.2=0:=by unfold aQ;rw [h6]
     omega
    ·have hsp:aQ f.row x=((a:Int),(b:Int),(c:Int)):=h6
     have hab:a≤b:=by omega
     rw [hb4,decide_eq_false h5,hsp] at hR
     simp only [Bool.true_and,Bool.false_or,Int.toNat_natCast] at hR
     rw [hsp] at hb4
     (refine Spec.hd (C:=T.cfg [] []) (rs:= [.t 4]) (T.aj _ _) Try.func83 rfl rfl Try.ntmps83 Try.results83 (by simp [AObj.isNest]) (by simp [AObj.isNest]) (by kernel_rfl) T.mixed fun X hX hP hC aR cL=> ?_)
     repeat' (first|refine Rn.p ?_|(with_reducible apply And.intro)|((first|(refine hK _ ?_;clear hK K)|with_reducible intro K hK|refine Rs.p ?_|((with_reducible first|apply oP|apply oQ);exact rfl)|refine aa hX hC hP (gD g hm x) rfl rfl rfl (by simp only [go_sem,simprocAttr,ah,hR,ak,aE,cC,hb4,vg,hsp]) rfl ?_|refine aa hX hC hP (aO f.pl x hp) rfl rfl rfl (by simp only [go_sem,simprocAttr,ah,hR,ak,aE,cC,hb4,vg,hsp]) rfl ?_|refine aa hX hC hP (cY [vw g,sI f.pl] f.row x hr) rfl rfl rfl (by simp only [go_sem,simprocAttr,ah,hR,ak,aE,cC,hb4,vg,hsp]) rfl ?_|refine aa hX hC hP (ee [vw g,sI f.pl] f.row x a b hab od hr) rfl rfl rfl (by simp only [go_sem,simprocAttr,ah,hR,ak,aE,cC,hb4,vg,hsp]) rfl ?_);try simp only [go_sem,simprocAttr,ah,hR,ak,aE,cC,hb4,vg,hsp])|((with_reducible refine oD ?_ ?_);kernel_rfl)|((with_reducible intro h);try simp only [go_sem,simprocAttr,ah,hR,ak,aE,cC,hb4,vg,hsp] at h)|omega|intro h)
  ·have hb4:decide ((aQ f.row x).2.2=((aP (·.2) g x).length:Int))=false:=decide_eq_false h4
   rw [hb4,Bool.false_and] at hR
   (refine Spec.hd (C:=T.cfg [] []) (rs:= [.t 4]) (T.aj _ _) Try.func83 rfl rfl Try.ntmps83 Try.results83 (by simp [AObj.isNest]) (by simp [AObj.isNest]) (by kernel_rfl) T.mixed fun X hX hP hC aR cL=> ?_)
   repeat' (first|refine Rn.p ?_|(with_reducible apply And.intro)|((first|(refine hK _ ?_;clear hK K)|with_reducible intro K hK|refine Rs.p ?_|((with_reducible first|apply oP|apply oQ);exact rfl)|refine aa hX hC hP (gD g hm x) rfl rfl rfl (by simp only [go_sem,simprocAttr,ah,hR,ak,aE,cC,hb4]) rfl ?_|refine aa hX hC hP (aO f.pl x hp) rfl rfl rfl (by simp only [go_sem,simprocAttr,ah,hR,ak,aE,cC,hb4]) rfl ?_|refine aa hX hC hP (cY [vw g,sI f.pl] f.row x hr) rfl rfl rfl (by simp only [go_sem,simprocAttr,ah,hR,ak,aE,cC,hb4]) rfl ?_|refine aa hX hC hP (ee [vw g,sI f.pl] f.row x a b hab od hr) rfl rfl rfl (by simp only [go_sem,simprocAttr,ah,hR,ak,aE,cC,hb4]) rfl ?_);try simp only [go_sem,simprocAttr,ah,hR,ak,aE,cC,hb4])|((with_reducible refine oD ?_ ?_);kernel_rfl)|((with_reducible intro h);try simp only [go_sem,simprocAttr,ah,hR,ak,aE,cC,hb4] at h)|omega|intro h)
theorem vh (ds:List D) (row:List It) (hr:row.length≤1000000):Spec Try.prog 62 (Args [.d (.pt (sT row::ds))]) [] (.ref 10000) [(10000, .tip 74 3 (row.map rT))]:=by
 (refine Spec.tS (C:=T.cfg [] []) (rs:= [.t 2]) [(10000,7)] (T.aj _ _) Try.func62 rfl rfl Try.ntmps62 Try.results62 (by simp [AObj.isNest]) (by simp [AObj.isNest]) (by first|(simp [look];done)|(simp [asN];done)|(intro l hl;simp only [asN];repeat (rw [if_neg (fun e=>by subst e;simp [look] at hl)]))) (by first|(simp [look];done)|(simp [asN];done)|(intro l hl;simp only [asN];repeat (rw [if_neg (fun e=>by subst e;simp [look] at hl)]))) (by kernel_rfl) T.mixed fun X hX hP hC aR cL=> ?_)
 repeat' (first|refine Rn.p ?_|(with_reducible apply And.intro)|((first|(refine hK _ ?_;clear hK K)|with_reducible intro K hK|refine Rs.p ?_|((with_reducible first|apply oP|apply oQ);exact rfl)|(refine an hX hC hP [(10000,7)] (lR row hr) rfl rfl rfl ?_ ?_ ?_ ?_ ?_ ?_ ?_ ?_ ?_ ?_ ?_ ?_ ?_ ?_;(focus (simp only [go_sem,simprocAttr];done));(iterate 12 (focus (simp [go_sem,simprocAttr];done)));try simp only [List.map_cons,List.map_nil]));try simp only [go_sem,simprocAttr])|((with_reducible refine oD ?_ ?_);kernel_rfl)|((with_reducible intro h);try simp only [go_sem,simprocAttr] at h)|omega|intro h)
end Go.Ab
end
section
namespace Go.Ab
open Go.Proofs
attribute [local congr] ACall.congr gd.congr Nx.congr
set_option maxRecDepth 10000
set_option maxHeartbeats 2000000
theorem bN (l:List Int):Spec Try.prog 81 (Args [.d (sI l)]) [] (.fn 107 [] [.ptr 10000 0]) [(10000, .box [.d (sI l)])]:=by
 (refine Spec.tS (C:=T.cfg [] []) (rs:= [.t 2]) [(10000,1)] (T.aj _ _) Try.func81 rfl rfl Try.ntmps81 Try.results81 (by simp [AObj.isNest]) (by simp [AObj.isNest]) (by first|(simp [look];done)|(simp [asN];done)|(intro l hl;simp only [asN];repeat (rw [if_neg (fun e=>by subst e;simp [look] at hl)]))) (by first|(simp [look];done)|(simp [asN];done)|(intro l hl;simp only [asN];repeat (rw [if_neg (fun e=>by subst e;simp [look] at hl)]))) (by kernel_rfl) T.mixed fun X hX hP hC aR cL=> ?_)
 repeat' (first|refine Rn.p ?_|(with_reducible apply And.intro)|((first|(refine hK _ ?_;clear hK K)|with_reducible intro K hK|refine Rs.p ?_|((with_reducible first|apply oP|apply oQ);exact rfl));try simp only [go_sem,simprocAttr])|((with_reducible refine oD ?_ ?_);kernel_rfl)|((with_reducible intro h);try simp only [go_sem,simprocAttr] at h)|omega|intro h)
theorem cR (xs ys:List Int) (hlen:xs.length≤9223372036854775807):Spec Try.prog 64 (Args [.d (sI xs), .d (sI ys)]) [] (eB (decide (xs=ys))) []:=by
 (refine Spec.hd (C:=T.cfg [] []) (rs:= [.t 4]) (T.aj _ _) Try.func64 rfl rfl Try.ntmps64 Try.results64 (by simp [AObj.isNest]) (by simp [AObj.isNest]) (by kernel_rfl) T.mixed fun X hX hP hC aR cL=> ?_)
 repeat' (first|refine Rn.p ?_|(with_reducible apply And.intro)|((first|(refine hK _ ?_;clear hK K)|with_reducible intro K hK|refine Rs.p ?_|((with_reducible first|apply oP|apply oQ);exact rfl));try simp only [go_sem,simprocAttr])|((with_reducible refine oD ?_ ?_);kernel_rfl)|((with_reducible intro h);try simp only [go_sem,simprocAttr] at h)|omega|intro h)
 ·have:xs≠ys:=fun e=>h (by rw [e])
  simp [this]
 refine au (fun k:Nat=>k≤xs.length∧xs.take k=ys.take k) (fun k=>⟨[(0, .d (sI xs)),(1, .d (sI ys)),(12,eN xs.length),(13,eN k)], []⟩) (fun k=>xs.length - k) 0 (by simp) ?_ ?_
 ·(refine ⟨cH ?_,fun _ _ h=>h⟩;simp [go_sem,simprocAttr])
 rintro k ⟨hk,hp⟩
 have vK:xs.length=ys.length:=by omega
 repeat' (first|refine Rn.p ?_|(with_reducible apply And.intro)|((first|(refine hK _ ?_;clear hK K)|with_reducible intro K hK|refine Rs.p ?_|((with_reducible first|apply oP|apply oQ);exact rfl));try simp only [go_sem,simprocAttr])|((with_reducible refine oD ?_ ?_);kernel_rfl)|((with_reducible intro h);try simp only [go_sem,simprocAttr] at h)|omega|intro h)
 ·have:xs≠ys:=fun e=>h (by rw [e])
  simp [this]
 ·refine ⟨k+1,⟨by omega,uR 0 (by omega) (by omega) hp h⟩, ?_,by omega⟩
  (refine ⟨cH ?_,fun _ _ h=>h⟩;simp [go_sem,simprocAttr])
 ·have:k=xs.length:=by omega
  subst this
  rw [List.take_of_length_le (Nat.le_refl _),List.take_of_length_le (by omega)] at hp
  simp [hp]
def fV (g:Gr) (x:Int) (i:Int):It:=(i,x,(g.es.getD i.toNat (0,0)).2)
def aV (g:Gr) (x:Int) (outs:List Int):List It:=if outs= [] then [(-1,x, -1)] else outs.map (fV g x)
theorem nM {α β:Type} {f:α→β} {l:List α} {d:α} {k:Nat} (h:k<l.length):(l.take (k+1)).map f=(l.take k).map f++ [f (l.getD k d)]:=by
 rw [List.take_add_one,List.map_append,List.getElem?_eq_getElem h,List.getD_eq_getElem?_getD,List.getElem?_eq_getElem h]
 rfl
theorem sZ (g:Gr) (f:Fr) (x:Int) (outs:List Int) (hl:outs.length≤1000000) (ho:∀i∈outs,0≤i∧i<g.es.length):Spec Try.prog 86 (Args [.d (gE g f),eN x, .d (sI outs)]) [] (.ref 10000) [(10000, .tip 74 3 ((aV g x outs).map rT))]:=by
 unfold gE
 by_cases h0:outs= []
 ·subst h0
  have hA:aV g x []= [(-1,x, -1)]:=if_pos rfl
  rw [hA]
  (refine Spec.tS (C:=T.cfg [] []) (rs:= [.t 6]) [(10000,14)] (T.aj _ _) Try.func86 rfl rfl Try.ntmps86 Try.results86 (by simp [AObj.isNest]) (by simp [AObj.isNest]) (by first|(simp [look];done)|(simp [asN];done)|(intro l hl;simp only [asN];repeat (rw [if_neg (fun e=>by subst e;simp [look] at hl)]))) (by first|(simp [look];done)|(simp [asN];done)|(intro l hl;simp only [asN];repeat (rw [if_neg (fun e=>by subst e;simp [look] at hl)]))) (by kernel_rfl) T.mixed fun X hX hP hC aR cL=> ?_)
  repeat' (first|refine Rn.p ?_|(with_reducible apply And.intro)|((first|(refine hK _ ?_;clear hK K)|with_reducible intro K hK|refine Rs.p ?_|((with_reducible first|apply oP|apply oQ);exact rfl));try simp only [go_sem,simprocAttr,ah])|((with_reducible refine oD ?_ ?_);kernel_rfl)|((with_reducible intro h);try simp only [go_sem,simprocAttr,ah] at h)|omega|intro h)
 ·have hA:aV g x outs=outs.map (fV g x):=if_neg h0
  rw [hA]
  have hb0:decide ((outs.length:Int)=0)=false:=decide_eq_false fun h=>h0 (List.eq_nil_of_length_eq_zero (by omega))
  (refine Spec.tS (C:=T.cfg [] []) (rs:= [.t 6]) [(10000,38)] (T.aj _ _) Try.func86 rfl rfl Try.ntmps86 Try.results86 (by simp [AObj.isNest]) (by simp [AObj.isNest]) (by first|(simp [look];done)|(simp [asN];done)|(intro l hl;simp only [asN];repeat (rw [if_neg (fun e=>by subst e;simp [look] at hl)]))) (by first|(simp [look];done)|(simp [asN];done)|(intro l hl;simp only [asN];repeat (rw [if_neg (fun e=>by subst e;simp [look] at hl)]))) (by kernel_rfl) T.mixed fun X hX hP hC aR cL=> ?_)
  repeat' (first|refine Rn.p ?_|(with_reducible apply And.intro)|((first|(refine hK _ ?_;clear hK K)|with_reducible intro K hK|refine Rs.p ?_|((with_reducible first|apply oP|apply oQ);exact rfl));try simp only [go_sem,simprocAttr,ah,hb0])|((with_reducible refine oD ?_ ?_);kernel_rfl)|((with_reducible intro h);try simp only [go_sem,simprocAttr,ah,hb0] at h)|omega|intro h)
  (refine eV hX 6 38 (.tip 74 3 []) (by simp only [go_sem,simprocAttr,ah,hb0]) (by simp only [go_sem,simprocAttr,ah,hb0]) (by decide) ⟨74,3,by decide, .inr rfl⟩ ?_;simp only [go_sem,simprocAttr,ah,hb0])
  refine au (fun k:Nat=>k≤outs.length) (fun k=>⟨[(0, .d (gE g f)),(1,eN x),(15, .d (sI outs)),(16,eN outs.length),(17,eN k),(6, .ref 38)], [(38, .tip 74 3 (((outs.take k).map (fV g x)).map rT))]⟩) (fun k=>outs.length - k) 0 (by omega) ?_ ?_
  ·refine Le.of ?_ ?_<;>simp [go_sem,simprocAttr,ah,hb0,gE]
  unfold gE
  rintro k hk
  rcases Nat.lt_or_ge k outs.length with hlt|hge
  ·have hb:decide ((k:Int)<(outs.length:Int))=true:=decide_eq_true (by omega)
   have k7:=nM (f:=fV g x) (d:=0) hlt
   have Bo:=ho _ (bq (d:=0) hlt)
   have hlk:(outs.take k).length=k:=by simp;omega
   repeat' (first|refine Rn.p ?_|(with_reducible apply And.intro)|((first|(refine hK _ ?_;clear hK K)|with_reducible intro K hK|refine Rs.p ?_|((with_reducible first|apply oP|apply oQ);exact rfl));try simp only [go_sem,simprocAttr,ah,hb,hlk])|((with_reducible refine oD ?_ ?_);kernel_rfl)|((with_reducible intro h);try simp only [go_sem,simprocAttr,ah,hb,hlk] at h)|omega|intro h)
   refine ⟨k+1,by omega, ?_,by omega⟩
   refine Le.of ?_ ?_<;>simp [go_sem,simprocAttr,ah,hb,hlk,k7,fV]
  ·have hb:decide ((k:Int)<(outs.length:Int))=false:=decide_eq_false (by omega)
   obtain rfl:k=outs.length:=by omega
   have ht:outs.take outs.length=outs:=List.take_of_length_le (by omega)
   repeat' (first|refine Rn.p ?_|(with_reducible apply And.intro)|((first|(refine hK _ ?_;clear hK K)|with_reducible intro K hK|refine Rs.p ?_|((with_reducible first|apply oP|apply oQ);exact rfl));try simp only [go_sem,simprocAttr,ah,hb,ht])|((with_reducible refine oD ?_ ?_);kernel_rfl)|((with_reducible intro h);try simp only [go_sem,simprocAttr,ah,hb,ht] at h)|omega|intro h)
def jA (g:Gr) (f:Fr):List (Nat × AObj):= [(10000, .box [.d (sT f.row), .d (vw g), .ref 10001]),(10001, .tip 3 1 (f.pl.map rI))]
theorem qd (row items:List It) (a b:Nat) (h0:0<items.length) (hr:row.length≤400000) (hi:items.length≤100000):Spec Try.prog 111 (Args [.d (.sl 1 [[.sl 3 (List.take a (row.map rT))], [.sl 3 (items.map rT)], [.sl 3 (List.drop b (row.map rT))]])]) [] (.d (sT (row.take a++items++row.drop b))) []:=by
 have hf: [row.take a,items,row.drop b].flatten=row.take a++items++row.drop b:=by simp
 have hlen: [row.take a,items,row.drop b].flatten.length=min a row.length+items.length+(row.length - b):=by simp;omega
 have:=qc [row.take a,items,row.drop b] (by simp) (by omega) (by omega)
 rw [hf] at this
 simpa only [vT,List.map_cons,List.map_nil,sT,List.map_take,List.map_drop] using this
theorem vi (g:Gr) (row items:List It) (pl:List Int) (a b:Nat) (hab:a≤b) (hb:b≤row.length) (h0:0<items.length) (hr:row.length≤400000) (hi:items.length≤100000):
 Spec Try.prog 85 (Args [.ptr 10000 0,eN a,eN b, .ref 10003]) (jA g ⟨row,pl⟩++ [(10003, .tip 74 3 (items.map rT))]) (.d (sT ((row.take b).drop a))) (jA g ⟨row.take a++items++row.drop b,pl⟩):=by
 have sG:((row.take b).drop a).length≤1000000:=by simp;omega
 have oe:List.take row.length (row.map rT)=row.map rT:=List.take_of_length_le (by simp)
 unfold jA
 simp only [List.cons_append,List.nil_append]
 (refine Spec.hd (C:=T.cfg [] []) (rs:= [.t 8]) (T.aj _ _) Try.func85 rfl rfl Try.ntmps85 Try.results85 (by simp [AObj.isNest]) (by simp [AObj.isNest]) (by kernel_rfl) T.mixed fun X hX hP hC aR cL=> ?_)
 repeat' (first|refine Rn.p ?_|(with_reducible apply And.intro)|((first|(refine hK _ ?_;clear hK K)|with_reducible intro K hK|refine Rs.p ?_|((with_reducible first|apply oP|apply oQ);exact rfl)|(refine an hX hC hP [(10000,17)] (lR ((row.take b).drop a) sG) rfl rfl rfl ?_ ?_ ?_ ?_ ?_ ?_ ?_ ?_ ?_ ?_ ?_ ?_ ?_ ?_;(focus (simp only [go_sem,simprocAttr,List.map_take,List.map_drop,oe];done));(iterate 12 (focus (simp [go_sem,simprocAttr,List.map_take,List.map_drop,oe];done)));try simp only [List.map_cons,List.map_nil])|(refine bD hX hC hP (qd row items a b h0 hr hi) rfl rfl rfl ?_ ?_ rfl ?_;iterate 2 (focus (simp only [go_sem,simprocAttr,List.map_take,List.map_drop,oe];done))));try simp only [go_sem,simprocAttr,List.map_take,List.map_drop,oe])|((with_reducible refine oD ?_ ?_);kernel_rfl)|((with_reducible intro h);try simp only [go_sem,simprocAttr,List.map_take,List.map_drop,oe] at h)|omega|intro h)
end Go.Ab
end
