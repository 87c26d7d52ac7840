/- A part of the proof. -/
import Derived.RangeFuncBox
import Derived.RangeFuncLeaves
import Derived.Shelf.Abstract
import Derived.WalkKit
import Derived.OwnWalkIn
import Derived.TacticsInMore
import Derived.LoopNIn
import Derived.LoopIn
import Derived.Maps.AppendAt
import Derived.Sort.OwnSortedInts
import Derived.Test.YtjmaiddbinlooaaGreatL5P11
set_option linter.unusedSimpArgs false
set_option linter.unusedVariables false
section
namespace Go.Ab
open Go.Proofs Go.RowKit Go.Shelf Go.Sort
attribute [local go_sem] Oper.semAt_some
def upto {α:Type} (f:Nat→α) (k:Nat):List α:=(List.range k).map f
theorem s4 {α:Type} (f:Nat→α) (k:Nat):upto f (k+1)=upto f k++ [f k]:=by simp [upto,List.range_succ]
theorem wh {α:Type} (f:Nat→α) (k:Nat):(upto f k).length=k:=by simp [upto]
theorem B3 (zs:List Int):upto (fun j=>zs[j]?.getD 0) zs.length=zs:=by
 apply List.ext_getElem
 ·simp [upto]
 ·intro i h1 h2
  simp [upto,h2]
theorem zQ (zs:List Int) {k:Nat} (hk:k≤zs.length):upto (fun j=>zs[j]?.getD 0) k=zs.take k:=by
 apply List.ext_getElem
 ·simp [upto,hk]
 ·intro i h1 h2
  have:i<zs.length:=by simp [upto] at h1;omega
  simp [upto,this]
set_option maxRecDepth 100000 in
set_option maxHeartbeats 2000000 in
theorem xR (F:Fence) (n:Nat) (h7:F.fn 137) (hro:F.round=none) (hn:1≤n) (l Bs n₀ b off len cap:Nat) (zs:List Int) (jf:len*8≤140737488351232) (hb:b<n₀) (J Jx:List Int→World→Prop)
 (hY:∀pre x W,J pre W→pre.length<len→YieldAt F (n - 1) Tryz.prog l #[.int .i64 x] W fun e W'=>
   (e= .returned (.bool true)∧J (pre++ [x]) W'∧Below n₀ W W')∨(e= .returned (.bool false)∧Jx (pre++ [x]) W'))
 (W:World) (B4:W.cell? ⟨Bs,0,none⟩=some (.slice (some ⟨b,off,none⟩) len cap)) (hc:∀j,j<len→W.cell? ⟨b,off+j,none⟩=some (.int .i64 (zs[j]?.getD 0))) (h0:J [] W):
 CallsIn F n Tryz.prog 137 #[.func (.yield l) #[] #[], .pointer (some ⟨Bs,0,none⟩)] W fun e W'=>(∃v,e= .returned v)∧
  ((∃ys,ys=upto (fun j=>zs[j]?.getD 0) len∧J ys W')∨(∃pre,(∃k,k≤len∧pre=upto (fun j=>zs[j]?.getD 0) k)∧Jx pre W')):=by
 refine callsIn_of_wp Tryz.func137 rfl h7 ?_ hro
 simp only [Tryz.ntmps137,List.size_toArray,List.length_cons,List.length_nil,Nat.reduceAdd,Nat.reduceSub,Array.replicate_succ,Array.replicate_zero,List.push_toArray,List.append_toArray,List.nil_append,List.cons_append]
 gi_wp2
 gi_loopw [7] (fun i wr=>∃k:Nat,k≤len∧i= .int .i64 k∧J (upto (fun j=>zs[j]?.getD 0) k) wr∧Below n₀ W wr)
  (fun i _=>len - (Go.Proofs.intOf i).toNat)
 case atStart=>exact ⟨0,Nat.zero_le _,rfl,h0,Below.refl _ _⟩
 case round=>
  obtain ⟨k,hk,rfl,JR,dQ⟩:=hrel
  have N2:k<len→wr.cell? ⟨b,off+k,none⟩=some (.int .i64 (zs[k]?.getD 0)):=fun h=>(dQ.cell (p:=⟨b,off+k,none⟩) hb).trans (hc k h)
  by_cases hlt:k<len
  ·obtain ⟨fn,tmps,assign,body,hy,hR⟩:=hY _ (zs[k]?.getD 0) wr JR (by rw [wh];exact hlt)
   have N3:=N2 hlt
   gi_wp2
   refine hR.mono ?_
   rintro e W3 (⟨rfl,N4,I7⟩|⟨rfl,LI⟩)
   ·gi_wp2
    go_roundw
    case rel=>exact ⟨k+1,by omega,by simp,by rw [s4];exact N4,dQ.trans I7⟩
    case measure=>simp [Go.Proofs.intOf];omega
   ·gi_wp2
    refine bodyPost_ret (results_none rfl _ _ _) rfl ?_
    exact ⟨⟨_,rfl⟩, .inr ⟨_,⟨k+1,by omega,(s4 _ _).symm⟩,LI⟩⟩
  ·obtain rfl:k=len:=by omega
   gi_wp2
   go_end0
   exact ⟨⟨_,rfl⟩, .inl ⟨_,rfl,JR⟩⟩
def Ints (n₀:Nat) (W:World) (sv:Value) (zs:List Int):Prop:=
 (∃p c,sv= .slice p 0 c∧zs= [])∨∃b off cap,sv= .slice (some ⟨b,off,none⟩) zs.length cap∧b<n₀∧∀j,j<zs.length→W.cell? ⟨b,off+j,none⟩=some (.int .i64 (zs[j]?.getD 0))
theorem Ints.below {n₀:Nat} {A B:World} (h:Below n₀ A B) {sv:Value} {zs:List Int} :Ints n₀ A sv zs→Ints n₀ B sv zs
 | .inl e=> .inl e
 | .inr ⟨b,off,cap,e,hb,hc⟩=> .inr ⟨b,off,cap,e,hb,fun j hj=>(h.cell (p:=⟨b,off+j,none⟩) hb).trans (hc j hj)⟩
set_option maxRecDepth 100000 in
set_option maxHeartbeats 1000000 in
theorem qV (F:Fence) (n:Nat) (h7:F.fn 137) (hro:F.round=none) (l Bs:Nat) (p:Option Addr) (c:Nat) (J:List Int→World→Prop) (W:World) (B4:W.cell? ⟨Bs,0,none⟩=some (.slice p 0 c)) (h0:J [] W):
 CallsIn F n Tryz.prog 137 #[.func (.yield l) #[] #[], .pointer (some ⟨Bs,0,none⟩)] W fun e W'=>(∃v,e= .returned v)∧J [] W':=by
 refine callsIn_of_wp Tryz.func137 rfl h7 ?_ hro
 simp only [Tryz.ntmps137,List.size_toArray,List.length_cons,List.length_nil,Nat.reduceAdd,Nat.reduceSub,Array.replicate_succ,Array.replicate_zero,List.push_toArray,List.append_toArray,List.nil_append,List.cons_append]
 gi_wp2
 gi_loopw [7] (fun i wr=>i= .int .i64 0∧J [] wr) (fun _ _=>0)
 case atStart=>exact ⟨rfl,h0⟩
 case round=>
  obtain ⟨rfl,JR⟩:=hrel
  gi_wp2
  go_end0
  exact ⟨⟨_,rfl⟩,JR⟩
theorem uC (F:Fence) (n:Nat) (h7:F.fn 137) (hro:F.round=none) (hn:1≤n) (Bs n₀:Nat) (sv:Value) (zs:List Int) (jf:zs.length*8≤140737488351232) (w:World) (B4:Bs<w.heap.size) (hn₀:n₀≤w.heap.size)
 (hc:w.cell? ⟨Bs,0,none⟩=some sv) (hI:Ints n₀ w sv zs):
 SeqStopsK F n Tryz.prog 137 #[.pointer (some ⟨Bs,0,none⟩)] (fun x:Int=> #[Value.int .i64 x]) (Below n₀) (fun ys=>ys=zs) (fun pre=>pre<+:zs) zs.length w:=fun l J Jx W hW _ _ hY h0=>by
 have xG:=(hW.cell (p:=⟨Bs,0,none⟩) B4).trans hc
 rcases hI.below (hW.mono hn₀) with ⟨p,c,rfl,rfl⟩|⟨b,off,cap,rfl,hb,hcs⟩
 ·exact (qV F n h7 hro l Bs p c J W xG h0).mono fun e W' ⟨he,hj⟩=>⟨he, .inl ⟨_,rfl,hj⟩⟩
 ·refine (xR F n h7 hro hn l Bs n₀ b off zs.length cap zs jf hb J Jx hY W xG hcs h0).mono ?_
  rintro e W' ⟨he,⟨ys,rfl,hj⟩|⟨pre,⟨k,hk,rfl⟩,hj⟩⟩
  ·exact ⟨he, .inl ⟨_,B3 zs,hj⟩⟩
  ·exact ⟨he, .inr ⟨_,by rw [zQ zs hk];exact List.take_prefix _ _,hj⟩⟩
theorem DZ:(Tryz.prog.info? 3).map (fun i=>(i.zero,i.size,i.bytes))=some (some (.int .i64 0),1,8):=by kernel_rfl
set_option maxRecDepth 100000 in
set_option maxHeartbeats 2000000 in
theorem uD (F:Fence) (n:Nat) (h3:F.fn 150) (h5:F.fn 137) (hro:F.round=none) (hn:3≤n) (Bs:Nat) (sv:Value) (zs:List Int) (jf:zs.length*8≤140737488351232) (w:World) (B4:Bs<w.heap.size)
 (hcs:w.cell? ⟨Bs,0,none⟩=some sv) (hI:Ints w.heap.size w sv zs):
 CallsIn F n Tryz.prog 150 #[.slice none 0 0, .func (.func 137) #[] #[.pointer (some ⟨Bs,0,none⟩)]] w fun e W'=>∃v,e= .returned v∧W'.ownsRow w.heap.size 3 1 v zs.length (zs.map (Value.int .i64))∧(v= .slice none 0 0↔zs= [])∧Below w.heap.size w W':=by
 have h1:1≤n:=by omega
 obtain ⟨i0,hi,DM,Gg,De⟩:=info_parts DZ
 refine callsIn_of_wp_marks Tryz.func150 rfl h3 ?_ hro
 simp only [Tryz.ntmps150,List.size_toArray,List.length_cons,List.length_nil,Nat.reduceAdd,Nat.reduceSub,Array.replicate_succ,Array.replicate_zero,List.push_toArray,List.append_toArray,List.nil_append,List.cons_append]
 gi_wp2
 have bO:=Boxed.new w 25 (.slice none 0 0)
 have LJ:Below w.heap.size w (w.alloc (.cells #[.slice none 0 0] 25)):=(Below.refl _ w).alloc (Nat.le_refl _) _
 refine wpIn_rangeFunc_ownG hro h1 (gf:=137) (lb:= #[.pointer (some ⟨Bs,0,none⟩)]) rfl h5 (enters_of Tryz.func137 (by kernel_rfl) rfl)
  (uC F (n - 1) h5 hro (by omega) Bs w.heap.size sv zs jf _ (by simp;omega) (by simp) ((LJ.cell (p:=⟨Bs,0,none⟩) B4).trans hcs) (hI.below LJ)) belowK_t (belowK_b (by simp)) (Below.refl _ _) (fun _=>rfl)
  (fun pre W=>(∃v,Boxed W w.heap.size 25 v∧W.ownsRow w.heap.size 3 1 v pre.length (pre.map (Value.int .i64))∧(v= .slice none 0 0↔pre= []))∧Below w.heap.size w W)
  (fun _ _ _=>False)
  (OwnFrom.and (Own.from (holdsRow_own w.heap.size w.heap.size 25 3 1 (fun pre=>pre.length) (fun pre=>pre.map (Value.int .i64)) (fun pre v=>v= .slice none 0 0↔pre= [])) _) (ownFrom_below (Nat.le_refl _) (by simp)))
  (fun _ _ _ _ _ hs _ _=>hs)
  ⟨⟨_,bO,World.ownsRow_nil _ _ _ _,by simp⟩,LJ⟩
  (fun x=> {tmps:= #[.slice none 0 0, .func (.func 137) #[] #[.pointer (some ⟨Bs,0,none⟩)], .pointer (some ⟨w.heap.size,0,none⟩),undef, .slice none 0 0, .int .i64 x, .func (.func 137) #[] #[.pointer (some ⟨Bs,0,none⟩)], .int .i64 x,undef,undef,undef,undef,undef],defers:= []}) ?assign ?body ?done ?stop
 case assign=>
  intro l x W K hK
  gi_wp2
  exact hK
 case body=>
  rintro l pre x W ⟨⟨v,hv,hrow,pR⟩,hB⟩ hlt
  have hc:=hv.cell
  have hml:maxLen=9223372036854775807:=rfl
  gi_wp2_with (gi_at_builtin;refine wpListIn_append_own _ rfl _ _ 25 rfl w.heap.size 3 i0 (.int .i64 0) 1 8 Tryz.underlying25 hi DM Gg De rfl (by decide) _ _ _ rfl (hrow.alloc _) ⟨W.heap.size,0,none⟩ 1 1 [.int .i64 x] rfl rfl (cell_one_new _ _ _) (by simp [Value.oneCell']) (by omega) (by omega) (by have:=hB.size;simp;omega) ?_;intro v' w1 hown' hgrow _;obtain ⟨g',cap',rfl⟩:=ownsRow_succ hown';obtain ⟨zN,Di,xm,hk2,aj⟩:=hv.appended (by decide) hrow hB.size (Nat.le_refl _) hown' hgrow;have hc1:=zN.cell;have JS:=zN.frozen)
  exact ⟨hk2.from _,aj,⟨_,Di,by simpa using xm,by simp⟩,hB.trans aj⟩
 case done=>
  rintro D ys W hD rfl ⟨⟨v,hv,hrow,pR⟩,hB⟩ hK
  have hc:=hv.cell
  gi_wp2
  refine ⟨by simp, .inl ⟨_,_,rfl,run_takeDeferred hK, ?_⟩⟩
  exact ⟨_,results_tmp rfl _ _ _,v,rfl,ownsRow_putObj hrow _ hK rfl,pR,hB.trans (belowK_b (w:=w) (Nat.le_refl _) W D _ _ (by simp at hD;omega) hK rfl rfl)⟩
 case stop=>
  rintro D c pre W _ _ h _
  exact h.elim
set_option maxRecDepth 100000 in
set_option maxHeartbeats 2000000 in
theorem xS (F:Fence) (n:Nat) (h2:F.fn 135) (h3:F.fn 150) (h5:F.fn 137) (hro:F.round=none) (hn:4≤n) (Bs:Nat) (sv:Value) (zs:List Int) (jf:zs.length*8≤140737488351232) (w:World) (B4:Bs<w.heap.size)
 (hcs:w.cell? ⟨Bs,0,none⟩=some sv) (hI:Ints w.heap.size w sv zs):
 CallsIn F n Tryz.prog 135 #[.func (.func 137) #[] #[.pointer (some ⟨Bs,0,none⟩)]] w fun e W'=>∃v,e= .returned v∧W'.ownsRow w.heap.size 3 1 v zs.length (zs.map (Value.int .i64))∧(v= .slice none 0 0↔zs= [])∧Below w.heap.size w W':=by
 have h1:1≤n:=by omega
 refine callsIn_of_wp Tryz.func135 rfl h2 ?_ hro
 simp only [Tryz.ntmps135,List.size_toArray,List.length_cons,List.length_nil,Nat.reduceAdd,Nat.reduceSub,Array.replicate_succ,Array.replicate_zero,List.push_toArray,List.append_toArray,List.nil_append,List.cons_append]
 gi_wp2_with (gi_at_call 150;refine (uD F (n - 1) h3 h5 hro (by omega) Bs sv zs jf _ B4 hcs hI).mono ?_;rintro e W ⟨v,rfl,hrow,pR,hb⟩)
 go_ret
 exact ⟨v,rfl,hrow,pR,hb⟩
def gN (l:List Int):List Int:=l.mergeSort fun x y=>decide (x≤y)
set_option maxRecDepth 100000 in
set_option maxHeartbeats 2000000 in
theorem zR (F:Fence) (n:Nat) (AP:F.fn 109) (h2:F.fn 135) (h3:F.fn 150) (h5:F.fn 137) (h9:F.fn 136) (hro:F.round=none) (hn:5≤n)
 (hsort:∀(blk off cap:Nat) (ss:List Int) (W:World),Holds (Value.int .i64) W blk off ss.toArray→blk<W.heap.size→ss.length<4611686018427387904→
   CallsIn F (n - 1) Tryz.prog 136 #[.slice (some ⟨blk,off,none⟩) ss.length cap] W fun e w'=>e= .returned (.tuple #[])∧∃k os,w'=grow (putRow (Value.int .i64) (Sort.ahead W k) blk off (ss.mergeSort fun x y=>decide (x≤y)).toArray) os)
 (hnone:∀(p:Option Addr) (cap:Nat) (W:World),CallsIn F (n - 1) Tryz.prog 136 #[.slice p 0 cap] W fun e w'=>e= .returned (.tuple #[])∧w'=W) (Bs:Nat) (sv:Value) (zs:List Int) (jf:zs.length*8≤140737488351232) (w:World) (B4:Bs<w.heap.size)
 (hcs:w.cell? ⟨Bs,0,none⟩=some sv) (hI:Ints w.heap.size w sv zs):
 CallsIn F n Tryz.prog 109 #[.func (.func 137) #[] #[.pointer (some ⟨Bs,0,none⟩)]] w fun e W'=>∃v,e= .returned v∧W'.ownsRow w.heap.size 3 1 v zs.length ((gN zs).map (Value.int .i64))∧Below w.heap.size w W':=by
 have h1:1≤n:=by omega
 refine callsIn_of_wp Tryz.func109 rfl AP ?_ hro
 simp only [Tryz.ntmps109,List.size_toArray,List.length_cons,List.length_nil,Nat.reduceAdd,Nat.reduceSub,Array.replicate_succ,Array.replicate_zero,List.push_toArray,List.append_toArray,List.nil_append,List.cons_append]
 gi_wp2_with (gi_at_call 135;refine (xS F (n - 1) h2 h3 h5 hro (by omega) Bs sv zs jf _ B4 hcs hI).mono ?_;rintro e W ⟨v,rfl,hrow,pR,hb⟩)
 rcases hrow.2 with ⟨rfl,hz⟩|⟨gb,cap,cur,rfl,hbase,LL,r1,r2,r3,r4⟩
 ·have Dj:zs= []:=List.eq_nil_of_length_eq_zero hz
  subst Dj
  have cS:=hnone none 0 W
  gi_wp2_with (gi_at_call 136;refine cS.mono ?_;rintro e w' ⟨rfl,rfl⟩)
  go_ret
  exact ⟨.slice none 0 0,rfl,by simpa [gN] using hrow,hb⟩
 ·have hH:Holds (Value.int .i64) W gb 0 zs.toArray:=holds_of_blockI LL (by simpa using r4)
  have o5:gb<W.heap.size:=(Array.getElem?_eq_some_iff.1 LL).1
  have hsz:zs.length<4611686018427387904:=by omega
  have cS:=hsort gb 0 cap zs W hH o5 hsz
  gi_wp2_with (gi_at_call 136;refine cS.mono ?_;rintro e w' ⟨rfl,nn,os,rfl⟩)
  go_ret
  exact ⟨_,rfl,ownsRow_sortedI (by simp [gN]) hbase LL r1 r2 r3,hb.grown (grownBy_sortedI _) hb.size (fun j hj=>by cases hj;exact hbase)⟩
theorem uE (Bs:Nat) (sv:Value) (zs:List Int) (jf:zs.length*8≤140737488351232) (w:World) (B4:Bs<w.heap.size)
 (hcs:w.cell? ⟨Bs,0,none⟩=some sv) (hI:Ints w.heap.size w sv zs):
 Calls Tryz.prog 109 #[.func (.func 137) #[] #[.pointer (some ⟨Bs,0,none⟩)]] w fun e W'=>∃v,e= .returned v∧W'.ownsRow w.heap.size 3 1 v zs.length ((gN zs).map (Value.int .i64))∧Below w.heap.size w W':=
 (callsIn_wide (n:=5)).1 (zR Fence.wide 5 trivial trivial trivial trivial trivial rfl (Nat.le_refl _)
   (fun blk off cap ss W h1 h2 h3=>callsIn_wide.2 (AnyM.slices_Sort_int Tryz.EJ blk off cap ss W h1 h2 h3))
   (fun p cap W=>callsIn_wide.2 (AnyM.slices_Sort_int_none Tryz.EJ p cap W)) Bs sv zs jf w B4 hcs hI)
end Go.Ab
end
section
namespace Go.Ab
open Go.Proofs Go.RowKit
attribute [local congr] ACall.congr
set_option maxRecDepth 10000
def EK (E:Env) (w w':World):Env:=⟨E.ρ,E.σ,fun b=>if b<w.heap.size then E.z b else cQ w' b⟩
theorem xT {m:List (Nat × AObj)} {E:Env} {w w':World} (hg:Good m E w) (hb:Below w.heap.size w w'):aH w E.z w' (EK E w w').z:=by
 intro b
 by_cases h:b<w.heap.size
 ·exact ⟨by simp [EK,h],fun o _=>hb.cell (p:=⟨b,o,none⟩) h⟩
 ·have h0:=hg.fresh b (by omega)
  exact ⟨by rw [h0];exact Nat.zero_le _,fun o ho=>by rw [h0] at ho;omega⟩
theorem Spec.B5 {P:Program} {f:Nat} {A:Env→World→List Value→Prop} {m:List (Nat × AObj)} {res:AV} (hR:bz m) (hc:yG P f)
 (h:∀E w vals,Good m E w→A E w vals→Calls P f vals.toArray w fun e w'=>∃v,e= .returned v∧Below w.heap.size w w'∧b9 w' (EK E w w') res v):Spec P f A m res m:=by
 refine ⟨hc,fun E w vals hg hA=>(h E w vals hg hA).mono ?_⟩
 rintro e w' ⟨v,rfl,hb,hv⟩
 have hst:=xT hg hb
 have qG:∀ {l o},bH m l=some o→look m l=some o:=fun hl=>(jv (fun p hp=>hR.nest p hp) hl).1
 have hro:∀ {l o},bH m l=some o→o.ro=true:=fun hl=>hR.ro _ (aX (qG hl))
 refine ⟨v,EK E w w',rfl,⟨hb.os,hb.tape,hb.output,hb.size,hst,fun b h1 _=>⟨hb.block b h1,by simp [EK,h1]⟩,fun _ _=>⟨rfl,rfl⟩⟩,⟨hg.low,hg.inj,fun l o hl=> ?_,fun b h1=> ?_⟩,fun l o b hl h1=> ?_,hv⟩
 ·have h0:=hg.jU l o hl
  have h1:=hro hl
  cases o<;>simp only [AObj.ro] at h1<;>try cases h1
  obtain ⟨b,vs,e,g1,g2,g3,g4,g5⟩:=h0
  have hlt:b<w.heap.size:=(Array.getElem?_eq_some_iff.1 g2).1
  exact ⟨b,vs,e,g1,(hb.block b hlt).trans g2,by simp [EK,hlt,g3],AVrs.mono ⟨hst,fun _ _=>rfl,fun _ _=>rfl⟩ (fun _ _=>trivial) (live:=fun _=>True) g4,g5⟩
 ·simp only [EK,cQ]
  rw [if_neg (by have:=hb.size;omega),Array.getElem?_eq_none h1]
 ·rw [hro hl] at h1;cases h1
theorem FB {w:World} {z:Nat→Nat} {v:Value} {x:Int} (h:Rd w z v (.sc (.int .i64 x))):v= .int .i64 x:=by cases h;rfl
theorem D2 {w:World} {z:Nat→Nat} {v:Value} {l:List Int} (h:Rd w z v (sI l)):Ints w.heap.size w v l:=by
 generalize hx:sI l=x at h
 cases h with
 |sc v h=>cases hx
 |pt b off cells vs hz hc hr=>cases hx
 |nil p sz=>
  simp only [sI,D.sl.injEq,List.map_eq_nil_iff] at hx
  exact .inl ⟨p,0,rfl,hx.2⟩
 |sl b off n cap sz rows vs hn hsz hz hcap hc hr=>
  simp only [sI,D.sl.injEq] at hx
  obtain ⟨rfl,rfl⟩:=hx
  rw [List.length_map] at hn
  subst hn
  rcases Nat.eq_zero_or_pos l.length with h0|hpos
  ·exact .inl ⟨some ⟨b,off,none⟩,cap,by rw [h0],List.eq_nil_of_length_eq_zero h0⟩
  refine .inr ⟨b,off,cap,rfl, ?_,fun j hj=> ?_⟩
  ·have:=hc 0 (by omega)
   by_cases hlt:b<w.heap.size
   ·exact hlt
   ·exfalso
    simp [World.cell?,Array.getElem?_eq_none (Nat.le_of_not_lt hlt)] at this
  ·have h1:=hc j (by omega)
   have h2:=hr j 0 (rI l[j]) (.sc (.int .i64 l[j])) (by simp [List.getElem?_eq_getElem hj]) rfl
   have h3:=FB h2
   simp only [Nat.mul_one,Nat.add_zero] at h3
   rw [h1,h3]
   simp [List.getElem?_eq_getElem hj]
theorem zS {w':World} {z:Nat→Nat} {base e:Nat} {v:Value} {l:List Int} (h:w'.ownsRow base e 1 v l.length (l.map (Value.int .i64))) (hz:∀b,base≤b→cQ w' b≤z b):Rd w' z v (sI l):=by
 rcases h.2 with ⟨rfl,h0⟩|⟨g,cap,cur,rfl,h1,h2,h3,h4,h5,h6⟩
 ·have:l= []:=List.eq_nil_of_length_eq_zero h0
  subst this
  exact .nil _ _
 ·have N5:=hz g h1
  simp only [cQ,h2] at N5
  refine .sl g 0 l.length cap 1 _ (fun k=> .int .i64 (l.getD k 0)) (by simp) (by simp [rI]) (by omega) h3 (fun k hk=> ?_) (fun i j r x hi hj=> ?_)
  ·have h7:(cur.toList.take (l.length*1))[k]? =(l.map (Value.int .i64))[k]? :=by rw [h6]
   rw [List.getElem?_take_of_lt hk,Array.getElem?_toList] at h7
   have cu:k<l.length:=by omega
   simp only [World.cell?,h2,Nat.zero_add,Option.isSome_none,Bool.false_eq_true,if_false,h7,List.getElem?_map,List.getElem?_eq_getElem cu,Option.map_some,List.getD_eq_getElem?_getD,Option.getD_some]
  ·rw [List.getElem?_map] at hi
   obtain ⟨y,hy,rfl⟩:=Option.map_eq_some_iff.1 hi
   cases j with
   |succ j=>simp [rI] at hj
   |zero=>
    simp only [rI,List.getElem?_cons_zero,Option.some.injEq] at hj
    subst hj
    simp only [Nat.mul_one,Nat.add_zero,List.getD_eq_getElem?_getD,hy,Option.getD_some]
    exact .sc _ rfl
theorem fh (l:List Int):(gN l).length=l.length:=by simp [gN]
theorem LM (l:List Int):bz [(10000, .rob [.d (sI l)])]:=⟨by simp [AObj.ro],by simp [nodupM,look],by simp,by simp [AObj.ids,AV.ids,AV.idss]⟩
theorem bY (l:List Int) (hl:l.length≤17592186043904):Spec Tryz.prog 109 (Args [.fn 137 [] [.ptr 10000 0]]) [(10000, .rob [.d (sI l)])] (.d (sI (gN l))) [(10000, .rob [.d (sI l)])]:=by
 refine Spec.B5 (LM l) ⟨Tryz.f109,_,Tryz.func109,by kernel_rfl,rfl⟩ ?_
 intro E w vals hg hA
 obtain ⟨v,vs,rfl,h0,h3⟩:=hA
 obtain ⟨us,us',rfl,h1,h2⟩:=h0
 obtain ⟨u,GW,rfl,h4,h5⟩:=h2
 obtain ⟨B,hB,rfl⟩:=h4
 simp only [AVrs] at h1 h5 h3
 subst h1 h5 h3
 obtain ⟨b,ws,e,g1,g2,g3,g4,g5⟩:=hg.jU 10000 (.rob [.d (sI l)]) rfl
 obtain rfl:b=B:=by rw [g1] at hB;exact Option.some.inj hB
 obtain ⟨sv,PF,rfl,g6,g7⟩:=g4
 simp only [AVrs] at g7
 subst g7
 have hlt:b<w.heap.size:=(Array.getElem?_eq_some_iff.1 g2).1
 refine (uE b sv l (by omega) w hlt (by simp [World.cell?,g2]) (D2 g6)).mono ?_
 rintro e w' ⟨v,rfl,hrow,hb⟩
 refine ⟨v,rfl,hb, ?_⟩
 rw [← fh] at hrow
 exact zS hrow fun b hb=>by simp only [EK];rw [if_neg (by omega)];exact Nat.le_refl _
end Go.Ab
end
section
namespace Go.Ab
open Go.Proofs
attribute [local congr] ACall.congr
set_option maxRecDepth 10000
set_option maxHeartbeats 8000000
def fA (f:Edge→Int) (es:List Edge) (k:Nat) (x:Nat):List Int:=((List.range k).filter fun i=>decide (f (es.getD i (0,0))=(x:Int))).map Int.ofNat
def mg (f:Edge→Int) (es:List Edge) (n k:Nat):List (List (List D)):=(List.range n).map fun x=>(fA f es k x).map rI
def sL (ls:List (List Int)):D:= .sl 1 (ls.map fun l=> [sI l])
def c8 (f:Edge→Int) (g:Gr):List (List Int):=(List.range g.n.toNat).map (fA f g.es g.es.length)
def vw (g:Gr):D:= .pt [.sc (.int .i64 g.n),sE g.es,sL (c8 (·.1) g),sL (c8 (·.2) g)]
theorem aZ {g:Gr} (h:aU g=true):0<g.n∧g.n≤64∧g.es.length≤128:=by
 simp [aU] at h;omega
theorem gj {g:Gr} (h:aU g=true) {k:Nat} (hk:k<g.es.length):(0≤(g.es.getD k (0,0)).1∧(g.es.getD k (0,0)).1<g.n)∧(0≤(g.es.getD k (0,0)).2∧(g.es.getD k (0,0)).2<g.n):=by
 have h2:=wg (g:=g) hk
 rw [h] at h2
 have h3:¬ot g (g.es.getD k (0,0))=true:=fun e=>by simpa using h2 e
 simp only [ot,uB,Bool.or_eq_true,decide_eq_true_eq] at h3
 omega
theorem bE {f:Edge→Int} {es:List Edge} {n k:Nat} :(mg f es n k).length=n:=by simp [mg]
theorem jz {f:Edge→Int} {es:List Edge} {n k x:Nat} (hx:x<n):(mg f es n k)[x]? =some ((fA f es k x).map rI):=by
 simp [mg,List.getElem?_range hx]
theorem hU {f:Edge→Int} {es:List Edge} {k x:Nat} :(fA f es k x).length≤k:=by
 simpa [fA] using List.length_filter_le (fun i=>decide (f (es.getD i (0,0))=(x:Int))) (List.range k)
theorem xU {f:Edge→Int} {es:List Edge} {k x:Nat} :fA f es (k+1) x=fA f es k x++if f (es.getD k (0,0))=(x:Int) then [(k:Int)] else []:=by
 simp only [fA,List.range_succ,List.filter_append,List.map_append,List.filter_cons,List.filter_nil]
 split<;>simp_all
theorem qW {f:Edge→Int} {es:List Edge} {n k:Nat} (h0:0≤f (es.getD k (0,0))):
 (mg f es n k).set (f (es.getD k (0,0))).toNat ((fA f es k (f (es.getD k (0,0))).toNat).map rI++ [[.sc (.int .i64 k)]])=mg f es n (k+1):=by
 refine List.ext_getElem? fun i=> ?_
 rw [List.getElem?_set,bE]
 by_cases hi:i<n
 ·rw [jz hi,jz hi,xU]
  generalize f (es.getD k (0,0))=e at*
  by_cases hq:e=(i:Int)
  ·subst hq;simp [hi,rI]
  ·have:¬e.toNat=i:=by omega
   simp [hq,this]
 ·rw [List.getElem?_eq_none (by rw [bE];omega),List.getElem?_eq_none (by rw [bE];omega)]
  generalize f (es.getD k (0,0))=e at*
  split
  ·rename_i hq;rw [if_neg (by omega)]
  ·rfl
theorem qX {f:Edge→Int} {es:List Edge} {n:Nat} :List.replicate n []=mg f es n 0:=by
 refine List.ext_getElem? fun i=> ?_
 by_cases hi:i<n
 ·rw [jz hi];simp [hi,fA]
 ·rw [List.getElem?_eq_none (by simp;omega),List.getElem?_eq_none (by rw [bE];omega)]
theorem gy (g:Gr) (hm:aU g=true):Spec Tryz.prog 26 (Args [eG g]) [] (.d (vw g)) []:=by
 have hn:=aZ hm
 have hl:g.es.length≤9223372036854775807:=by omega
 have hl':g.es.length≤1000000:=by omega
 (refine Spec.intro (C:=T.cfg [] [13,16]) (rs:= [.t 2]) (T.aq _ _) Tryz.func26 rfl rfl Tryz.ntmps26 Tryz.results26 (by simp [AObj.isNest]) (by simp [AObj.isNest]) (by kernel_rfl) ?_;intro X hX hP hC aN aO vals hA;refine ⟨_,by simp,hA, ?_⟩;have af:X.P.follows .mixedOrders=true:=(by rw [hP];exact T.mixed);clear aN aO)
 repeat' (first|fail|((first|((with_reducible (first|apply oA|apply oB));exact rfl;intro K hK)|(refine hK _ ?_;clear hK K)|((with_reducible (first|apply oG|apply oH));iterate 3 exact rfl)|((with_reducible apply oI);(iterate 2 exact rfl);intro K hK)|(with_reducible (first|apply wI|apply wJ|apply wK)));try simp only [go_sem,simprocAttr,hm])|fail|(with_reducible (first|apply oC|apply oJ|exact oK|apply wA|apply wB|apply wC hX hC|apply wD hX hC|apply wE hX hC af|apply wF hX hC af|apply wG|apply wH|apply And.intro))|((with_reducible refine oD ?_ ?_);first|fail|kernel_rfl)|((with_reducible (first|apply oE|apply oF));(iterate 3 exact rfl);all_goals (intro h;first|(exact absurd h (by decide))|((try simp only [go_sem,simprocAttr,hm] at h);(try with_reducible intro K hK);simp only [go_sem,simprocAttr,hm])))|((first|((with_reducible apply wL);exact rfl)|((with_reducible apply wM);exact rfl));all_goals (try ((with_reducible intro h);first|(exact absurd h (by decide))|(try simp only [go_sem,simprocAttr,hm] at h))))|omega|((first|first|refine aa hX hC hP (gE g hl) rfl rfl rfl (by simp only [go_sem,simprocAttr,hm]) rfl ?_|refine aa hX hC hP (kW g.es hl') rfl rfl rfl (by simp only [go_sem,simprocAttr,hm]) rfl ?_);try simp only [go_sem,simprocAttr,hm])|(intro h))
 refine vY hX 13 (by simp [go_sem,simprocAttr,hm];exact ⟨rfl,rfl,rfl,rfl⟩) (by decide) (by simp [go_sem,simprocAttr,hm]) (by simp [go_sem,simprocAttr,hm]) ?_
 refine vY hX 16 (by simp [go_sem,simprocAttr,hm];exact ⟨rfl,rfl,rfl,rfl⟩) (by decide) (by simp [go_sem,simprocAttr,hm]) (by simp [go_sem,simprocAttr,hm]) ?_
 simp only [go_sem,simprocAttr,hm]
 refine ak (fun k:Nat=>k≤g.es.length) (fun k=>⟨[(29,eN k),(28,eN g.es.length),(27, .d (sE g.es)),(3, .ptr 18 0)], [(18, .box [eN g.n, .d (sE g.es), .ref 13, .ref 16]),(16, .nest 25 3 1 (mg (·.2) g.es g.n.toNat k) none),(13, .nest 25 3 1 (mg (·.1) g.es g.n.toNat k) none)]⟩) (fun k=>g.es.length - k) 0 (by simp) ?_ ?_
 ·refine Le.of ?_ ?_<;>simp [go_sem,simprocAttr,hm]
  exact ⟨qX,qX⟩
 rintro k hk
 rcases Nat.lt_or_ge k g.es.length with hlt|hge
 ·have hb:decide ((k:Int)<(g.es.length:Int))=true:=decide_eq_true (by omega)
  obtain ⟨mZ,vi⟩:=gj hm hlt
  have D3:=jz (f:=(·.1)) (es:=g.es) (k:=k) (show (g.es.getD k (0,0)).1.toNat<g.n.toNat by omega)
  have D4:=jz (f:=(·.2)) (es:=g.es) (k:=k) (show (g.es.getD k (0,0)).2.toNat<g.n.toNat by omega)
  have D5:=hU (f:=(·.1)) (es:=g.es) (k:=k) (x:=(g.es.getD k (0,0)).1.toNat)
  have EL:=hU (f:=(·.2)) (es:=g.es) (k:=k) (x:=(g.es.getD k (0,0)).2.toNat)
  repeat' (first|fail|((first|((with_reducible (first|apply oA|apply oB));exact rfl;intro K hK)|(refine hK _ ?_;clear hK K)|((with_reducible (first|apply oG|apply oH));iterate 3 exact rfl)|((with_reducible apply oI);(iterate 2 exact rfl);intro K hK)|(with_reducible (first|apply wI|apply wJ|apply wK)));try simp only [go_sem,simprocAttr,hm,hb,D3,D4,bE])|fail|(with_reducible (first|apply oC|apply oJ|exact oK|apply wA|apply wB|apply wC hX hC|apply wD hX hC|apply wE hX hC af|apply wF hX hC af|apply wG|apply wH|apply And.intro))|((with_reducible refine oD ?_ ?_);first|(focus (simp only [Bz,lI,gM,meets,qJ,oo,zH,dY,nq,me,Rec.rs,Rec.nW,Rec.EF,fN,Rec.di,Rec.names,KV.ids,BR,BS,BT,BU,BW,BX,List.zip_cons_cons,List.zip_nil_right,List.zipIdx_cons,List.zipIdx_nil,List.all_cons,List.all_nil,List.contains_cons,List.contains_nil,List.any_cons,List.any_nil,List.flatMap_nil,List.reverse_cons,List.reverse_nil,je,AS,Region.binds,go_sem,simprocAttr,hm,hb,D3,D4,bE];done))|kernel_rfl)|((with_reducible (first|apply oE|apply oF));(iterate 3 exact rfl);all_goals (intro h;first|(exact absurd h (by decide))|((try simp only [go_sem,simprocAttr,hm,hb,D3,D4,bE] at h);(try with_reducible intro K hK);simp only [go_sem,simprocAttr,hm,hb,D3,D4,bE])))|((first|((with_reducible apply wL);exact rfl)|((with_reducible apply wM);exact rfl));all_goals (try ((with_reducible intro h);first|(exact absurd h (by decide))|(try simp only [go_sem,simprocAttr,hm,hb,D3,D4,bE] at h))))|omega|((first|first|refine aa hX hC hP (gE g hl) rfl rfl rfl (by simp only [go_sem,simprocAttr,hm,hb,D3,D4,bE]) rfl ?_|refine aa hX hC hP (kW g.es hl') rfl rfl rfl (by simp only [go_sem,simprocAttr,hm,hb,D3,D4,bE]) rfl ?_);try simp only [go_sem,simprocAttr,hm,hb,D3,D4,bE])|(intro h))
  refine ⟨k+1,by omega, ?_,by omega⟩
  refine Le.of ?_ ?_<;>simp [go_sem,simprocAttr,hm,hb,D3,D4,bE]
  exact ⟨qW (f:=(·.2)) vi.1,qW (f:=(·.1)) mZ.1⟩
 ·repeat' (first|fail|((first|((with_reducible (first|apply oA|apply oB));exact rfl;intro K hK)|(refine hK _ ?_;clear hK K)|((with_reducible (first|apply oG|apply oH));iterate 3 exact rfl)|((with_reducible apply oI);(iterate 2 exact rfl);intro K hK)|(with_reducible (first|apply wI|apply wJ|apply wK)));try simp only [go_sem,simprocAttr])|fail|(with_reducible (first|apply oC|apply oJ|exact oK|apply wA|apply wB|apply wC hX hC|apply wD hX hC|apply wE hX hC af|apply wF hX hC af|apply wG|apply wH|apply And.intro))|((with_reducible refine oD ?_ ?_);first|(focus (simp only [Bz,lI,gM,meets,qJ,oo,zH,dY,nq,me,Rec.rs,Rec.nW,Rec.EF,fN,Rec.di,Rec.names,KV.ids,BR,BS,BT,BU,BW,BX,List.zip_cons_cons,List.zip_nil_right,List.zipIdx_cons,List.zipIdx_nil,List.all_cons,List.all_nil,List.contains_cons,List.contains_nil,List.any_cons,List.any_nil,List.flatMap_nil,List.reverse_cons,List.reverse_nil,je,AS,Region.binds,go_sem,simprocAttr];done))|kernel_rfl)|((with_reducible (first|apply oE|apply oF));(iterate 3 exact rfl);all_goals (intro h;first|(exact absurd h (by decide))|((try simp only [go_sem,simprocAttr] at h);(try with_reducible intro K hK);simp only [go_sem,simprocAttr])))|((first|((with_reducible apply wL);exact rfl)|((with_reducible apply wM);exact rfl));all_goals (try ((with_reducible intro h);first|(exact absurd h (by decide))|(try simp only [go_sem,simprocAttr] at h))))|omega|((first|first|refine aa hX hC hP (gE g hl) rfl rfl rfl (by simp only [go_sem,simprocAttr]) rfl ?_|refine aa hX hC hP (kW g.es hl') rfl rfl rfl (by simp only [go_sem,simprocAttr]) rfl ?_);try simp only [go_sem,simprocAttr])|(intro h))
  have:k=g.es.length:=by omega
  subst this
  simp only [vw,sE,sL,c8,mg,List.map_map]
  rfl
end Go.Ab
end
section
namespace Go.Ab
open Go.Proofs
attribute [local congr] ACall.congr
set_option maxRecDepth 10000
def tl (g:Gr) (i:Nat):Int:=(g.es.getD i (0,0)).1
def hd (g:Gr) (i:Nat):Int:=(g.es.getD i (0,0)).2
def wt (g:Gr) (out:List Int) (y:Nat):Int:=
 if (y:Int)∈out then -1 else (((List.range g.es.length).countP fun i=>decide (hd g i=(y:Int))&& !decide (tl g i∈out):Nat):Int)
def cB (g:Gr) (out:List Int):List Int:=(List.range g.n.toNat).map (wt g out)
def sD (g:Gr):Nat→List Int→List Int
 |0,out=>out
 |f+1,out=>if dB (cB g out) 0<0 then out else sD g f (out++ [dB (cB g out) 0])
def aI (g:Gr):List Int:=sD g g.n.toNat []
structure eO (g:Gr) (out:List Int):Prop where
 lo:∀x∈out,0≤x∧x<g.n
 back:∀i,i<g.es.length→hd g i∈out→tl g i∈out
 fuel:out.length+(List.range g.n.toNat).countP (fun y:Nat=> !decide ((y:Int)∈out))=g.n.toNat
theorem fk {α:Type} {f:α→Bool} {l:List α} (d:α):bU f l= -1∧(∀x∈l,f x=false)∨∃k:Nat,bU f l=k∧k<l.length∧f (l.getD k d)=true∧∀j,j<k→f (l.getD j d)=false:=by
 cases h:l.findIdx? f with
 |none=>
  rw [List.findIdx?_eq_none_iff] at h
  exact .inl ⟨by simp [bU,List.findIdx?_eq_none_iff.2 h],h⟩
 |some i=>
  obtain ⟨hi,hg,hb⟩:=List.findIdx?_eq_some_iff_getElem.1 h
  refine .inr ⟨i,by simp [bU,h],hi,by simpa [List.getD_eq_getElem?_getD,List.getElem?_eq_getElem hi] using hg,fun j hj=> ?_⟩
  have hjl:j<l.length:=by omega
  have:=hb j hj
  simpa [List.getD_eq_getElem?_getD,List.getElem?_eq_getElem hjl] using this
theorem wts_length {g:Gr} {out:List Int} :(cB g out).length=g.n.toNat:=by simp [cB]
theorem kY {g:Gr} {out:List Int} {y:Nat} (h:y<g.n.toNat) (d:Int):(cB g out).getD y d=wt g out y:=by
 simp [cB,List.getD_eq_getElem?_getD,List.getElem?_range h]
theorem kZ {p:Nat→Bool} {x:Nat} (hx:p x=true):∀ {n:Nat},x<n→(List.range n).countP (fun y=>p y&& !decide (y=x))+1=(List.range n).countP p
 |0,h=>by omega
 |n+1,h=>by
  rw [List.range_succ,List.countP_append,List.countP_append]
  by_cases EM:x=n
  ·subst EM
   have:(List.range x).countP (fun y=>p y&& !decide (y=x))=(List.range x).countP p:=by
    refine List.countP_congr fun y hy=> ?_
    have:y≠x:=by have:=List.mem_range.1 hy;omega
    simp [this]
   rw [this]
   simp [List.countP_cons,hx]
  ·have:=kZ hx (n:=n) (by omega)
   have hn:n≠x:=fun e=>EM e.symm
   simp only [List.countP_cons,List.countP_nil,hn,decide_false,Bool.not_false,Bool.and_true]
   omega
theorem eO.nil (g:Gr):eO g []:=⟨by simp,by simp,by rw [List.countP_eq_length_filter,List.filter_eq_self.2 (by simp)];simp⟩
theorem eO.next {g:Gr} (hm:aU g=true) {out:List Int} (h:eO g out) {x:Nat} (hx:x<g.n.toNat) (hw:wt g out x=0):eO g (out++ [(x:Int)])∧(x:Int)∉out∧(∀i,i<g.es.length→hd g i=x→tl g i∈out):=by
 have gw:(x:Int)∉out:=fun hi=>by simp [wt,hi] at hw
 have hb:∀i,i<g.es.length→hd g i=x→tl g i∈out:=by
  intro i hi he
  simp only [wt,gw,if_false] at hw
  have:=List.countP_eq_zero.1 (Int.ofNat.inj hw) i (List.mem_range.2 hi)
  simpa [he] using this
 refine ⟨⟨?_, ?_, ?_⟩,gw,hb⟩
 ·intro y hy
  rcases List.mem_append.1 hy with hy|hy
  ·exact h.lo y hy
  ·simp at hy;omega
 ·intro i hi hh
  rcases List.mem_append.1 hh with hh|hh
  ·exact List.mem_append_left _ (h.back i hi hh)
  ·simp at hh
   exact List.mem_append_left _ (hb i hi hh)
 ·have h1:=h.fuel
  have h2:=kZ (p:=fun y:Nat=> !decide ((y:Int)∈out)) (x:=x) (by simp [gw]) hx
  have h3:(List.range g.n.toNat).countP (fun y:Nat=> !decide ((y:Int)∈out++ [(x:Int)]))=(List.range g.n.toNat).countP (fun y:Nat=>(!decide ((y:Int)∈out))&& !decide (y=x)):=by
   refine List.countP_congr fun y _=> ?_
   simp;omega
  rw [h3,List.length_append,List.length_singleton]
  omega
def iQ (g:Gr) (x:Nat):List Int:=fA (·.1) g.es g.es.length x
def ow (g:Gr) (x:Nat):List Int:=fA (·.2) g.es g.es.length x
theorem B6 {g:Gr} {x:Nat} {e:Int} (h:e∈iQ g x):∃i:Nat,e=i∧i<g.es.length∧tl g i=x:=by
 simp only [iQ,fA,List.mem_map,List.mem_filter,List.mem_range,decide_eq_true_eq] at h
 obtain ⟨i,⟨h1,h2⟩,rfl⟩:=h
 exact ⟨i,rfl,h1,h2⟩
def AT (g:Gr) (out:List Int) (x j y:Nat):Int:=
 if (y:Int)∈out++ [(x:Int)] then -1 else (((List.range g.es.length).countP fun i=>decide (hd g i=(y:Int))&& !decide (tl g i∈out):Nat):Int) - (((iQ g x).take j).countP fun e=>decide (hd g e.toNat=(y:Int)):Nat)
def sF (g:Gr) (out:List Int) (x j:Nat):List Int:=(List.range g.n.toNat).map (AT g out x j)
theorem wtps_length {g:Gr} {out:List Int} {x j:Nat} :(sF g out x j).length=g.n.toNat:=by simp [sF]
theorem nv {g:Gr} {out:List Int} {x j y:Nat} (h:y<g.n.toNat):(sF g out x j)[y]? =some (AT g out x j y):=by
 simp [sF,List.getElem?_range h]
theorem j5 {g:Gr} {out:List Int} {y:Nat} (h:y<g.n.toNat):(cB g out)[y]? =some (wt g out y):=by
 simp [cB,List.getElem?_range h]
theorem zT {g:Gr} {out:List Int} {x:Nat} :(cB g out).set x (-1)=sF g out x 0:=by
 refine List.ext_getElem? fun i=> ?_
 rw [List.getElem?_set,wts_length]
 by_cases hi:i<g.n.toNat
 ·rw [j5 hi,nv hi]
  by_cases hx:x=i
  ·subst hx;simp [hi,AT]
  ·have:¬i=x:=fun e=>hx e.symm
   simp only [hx,if_false,AT,wt,List.mem_append,List.mem_singleton,List.take_zero,List.countP_nil]
   have h2:¬(i:Int)=(x:Int):=by omega
   simp [h2]
 ·rw [List.getElem?_eq_none (by rw [wts_length];omega),List.getElem?_eq_none (by rw [wtps_length];omega)]
  split
  ·rw [if_neg (by omega)]
  ·rfl
theorem j6 {α:Type} {p q r:α→Bool} :∀ {l:List α},(∀a∈l,p a=(q a||r a)∧(q a&&r a)=false)→l.countP p=l.countP q+l.countP r
 | [],_=>rfl
 |a::l,h=>by
  obtain ⟨h1,h2⟩:=h a List.mem_cons_self
  have:=j6 (l:=l) fun b hb=>h b (List.mem_cons_of_mem _ hb)
  simp only [List.countP_cons,this,h1]
  cases hq:q a<;>cases hr:r a<;>simp [hq,hr] at h2 ⊢ <;>omega
theorem B7 {g:Gr} {out:List Int} {x j:Nat} (hx:(x:Int)∉out) (hj:(iQ g x).length≤j):sF g out x j=cB g (out++ [(x:Int)]):=by
 refine List.map_congr_left fun y _=> ?_
 simp only [AT,wt]
 split
 ·rfl
 ·rw [List.take_of_length_le hj]
  have h1:(iQ g x).countP (fun e=>decide (hd g e.toNat=(y:Int)))=(List.range g.es.length).countP (fun i=>decide (hd g i=(y:Int))&&decide (tl g i=(x:Int))):=by
   simp only [iQ,fA,List.countP_map,List.countP_filter]
   exact List.countP_congr fun i _=>by simp [tl]
  have h2:=j6 (p:=fun i=>decide (hd g i=(y:Int))&& !decide (tl g i∈out)) (q:=fun i=>decide (hd g i=(y:Int))&& !decide (tl g i∈out++ [(x:Int)])) (r:=fun i=>decide (hd g i=(y:Int))&&decide (tl g i=(x:Int))) (l:=List.range g.es.length) (fun i _=>by
   by_cases h3:tl g i=x
   ·simp [h3,hx]
   ·simp [h3])
  rw [h1,h2];omega
theorem FC {g:Gr} {out:List Int} {x:Nat} (hP:eO g out) (gw:(x:Int)∉out) (hb:∀i,i<g.es.length→hd g i=x→tl g i∈out) {i:Nat} (hi:i<g.es.length) (ht:tl g i=x):hd g i∉out++ [(x:Int)]:=by
 intro h
 rcases List.mem_append.1 h with h|h
 ·exact gw (ht ▸ hP.back i hi h)
 ·simp at h
  exact gw (ht ▸ hb i hi h)
theorem zU {g:Gr} {out:List Int} {x j i:Nat} (hj:(iQ g x)[j]? =some (i:Int)) (h0:0≤hd g i) (hn:hd g i∉out++ [(x:Int)]):
 (sF g out x j).set (hd g i).toNat (AT g out x j (hd g i).toNat - 1)=sF g out x (j+1):=by
 refine List.ext_getElem? fun y=> ?_
 rw [List.getElem?_set,wtps_length]
 by_cases hy:y<g.n.toNat
 ·rw [nv hy,nv hy]
  have ht:((iQ g x).take (j+1)).countP (fun e=>decide (hd g e.toNat=(y:Int)))=((iQ g x).take j).countP (fun e=>decide (hd g e.toNat=(y:Int)))+if hd g i=(y:Int) then 1 else 0:=by
   rw [List.take_add_one,List.countP_append,hj]
   simp [List.countP_cons]
  by_cases hq:(hd g i).toNat=y
  ·subst hq
   have he:((hd g i).toNat:Int)=hd g i:=by omega
   rw [if_pos rfl,if_pos (by assumption)]
   rw [he,if_pos rfl] at ht
   simp only [AT,he,hn,if_false,ht]
   congr 1;omega
  ·rw [if_neg hq]
   have l8:¬hd g i=(y:Int):=by omega
   simp only [AT,ht,l8,if_false,Nat.add_zero]
 ·rw [List.getElem?_eq_none (by rw [wtps_length];omega),List.getElem?_eq_none (by rw [wtps_length];omega)]
  split
  ·rw [if_neg (by omega)]
  ·rfl
def D6 (f:Edge→Int) (g:Gr):List (List D):=(c8 f g).map fun l=> [sI l]
theorem nw {f:Edge→Int} {g:Gr} {x:Nat} (h:x<g.n.toNat) (d:List D):(D6 f g).getD x d= [sI (fA f g.es g.es.length x)]:=by
 simp [D6,c8,List.getD_eq_getElem?_getD,List.getElem?_range h]
theorem vwl_length {f:Edge→Int} {g:Gr} :(D6 f g).length=g.n.toNat:=by simp [D6,c8]
def Gh (g:Gr):D:= .pt [.sc (.int .i64 g.n),sE g.es, .sl 1 (D6 (·.1) g), .sl 1 (D6 (·.2) g)]
theorem ah (g:Gr):vw g=Gh g:=rfl
attribute [go_sem] Gh wtps_length wts_length vwl_length
theorem B8 {g:Gr} {k:Nat} (h:k<g.n.toNat):(cB g []).take (k+1)=(cB g []).take k++ [((ow g k).length:Int)]:=by
 rw [List.take_add_one,j5 h]
 simp [wt,ow,fA,hd,List.countP_eq_length_filter]
theorem zV {g:Gr} (hm:aU g=true) {out:List Int} {x j y:Nat} : -1000≤AT g out x j y∧AT g out x j y≤1000:=by
 have hn:=aZ hm
 have h1:=List.countP_le_length (p:=fun i=>decide (hd g i=(y:Int))&& !decide (tl g i∈out)) (l:=List.range g.es.length)
 have h2:=List.countP_le_length (p:=fun e:Int=>decide (hd g e.toNat=(y:Int))) (l:=(iQ g x).take j)
 have h3:((iQ g x).take j).length≤g.es.length:=Nat.le_trans (List.length_take_le' _ _) hU
 simp only [List.length_range] at h1
 unfold AT
 split<;>omega
theorem wj {g:Gr} {out:List Int} (h:dB (cB g out) 0<0):∀f,sD g f out=out
 |0=>rfl
 |f+1=>by simp [sD,h]
def left (g:Gr) (out:List Int):Nat:=(List.range g.n.toNat).countP (fun y:Nat=> !decide ((y:Int)∈out))
theorem s5 {g:Gr} {out:List Int} {x:Nat} (h:eO g out) (h':eO g (out++ [(x:Int)])):left g out=left g (out++ [(x:Int)])+1:=by
 have h1:=h.fuel
 have h2:=h'.fuel
 rw [List.length_append,List.length_singleton] at h2
 unfold left;omega
theorem I8 {g:Gr} (out:List Int):dB (cB g out) 0= -1∨∃x:Nat,dB (cB g out) 0=x∧x<g.n.toNat∧wt g out x=0:=by
 rcases fk (f:=fun y:Int=>decide (0=y)) (l:=cB g out) 0 with ⟨h,_⟩|⟨k,h1,h2,h3,_⟩
 ·exact .inl h
 ·rw [wts_length] at h2
  rw [kY h2] at h3
  exact .inr ⟨k,h1,h2,by simpa using (of_decide_eq_true h3).symm⟩
theorem jA (g:Gr) (hm:aU g=true):Spec Tryz.prog 60 (Args [.d (vw g)]) [] (.tup [.d (sI (aI g)), .d (sI (cB g (aI g)))]) []:=by
 rw [ah]
 have hn:=aZ hm
 (refine Spec.intro (C:=T.cfg [22] []) (rs:= [.t 2, .t 3]) (T.aq _ _) Tryz.func60 rfl rfl Tryz.ntmps60 Tryz.results60 (by simp [AObj.isNest]) (by simp [AObj.isNest]) (by kernel_rfl) ?_;intro X hX hP hC aN aO vals hA;refine ⟨_,by simp,hA, ?_⟩;have af:X.P.follows .mixedOrders=true:=(by rw [hP];exact T.mixed);clear aN aO)
 repeat' (first|fail|((first|((with_reducible (first|apply oA|apply oB));exact rfl;intro K hK)|(refine hK _ ?_;clear hK K)|((with_reducible (first|apply oG|apply oH));iterate 3 exact rfl)|((with_reducible apply oI);(iterate 2 exact rfl);intro K hK)|(with_reducible (first|apply wI|apply wJ|apply wK)));try simp only [go_sem,simprocAttr])|fail|(with_reducible (first|apply oC|apply oJ|exact oK|apply wA|apply wB|apply wC hX hC|apply wD hX hC|apply wE hX hC af|apply wF hX hC af|apply wG|apply wH|apply And.intro))|((with_reducible refine oD ?_ ?_);first|fail|kernel_rfl)|((with_reducible (first|apply oE|apply oF));(iterate 3 exact rfl);all_goals (intro h;first|(exact absurd h (by decide))|((try simp only [go_sem,simprocAttr] at h);(try with_reducible intro K hK);simp only [go_sem,simprocAttr])))|((first|((with_reducible apply wL);exact rfl)|((with_reducible apply wM);exact rfl));all_goals (try ((with_reducible intro h);first|(exact absurd h (by decide))|(try simp only [go_sem,simprocAttr] at h))))|omega|((first|(refine ai hX hC hP (aP (cB g out) 0 yL) rfl rfl rfl ?_ ?_ ?_ ?_;iterate 3 (focus (simp only [go_sem,simprocAttr];done))));try simp only [go_sem,simprocAttr])|(intro h))
 (refine j4 hX 3 22 (.own 3 1 []) (by simp only [go_sem,simprocAttr]) (by simp only [go_sem,simprocAttr]) (by decide) ⟨3,1,by decide, .inl rfl⟩ ?_;simp only [go_sem,simprocAttr])
 refine ak (fun k:Nat=>k≤g.n.toNat) (fun k=>⟨[(14,eN k),(13,eN g.n.toNat),(12, .d (.sl 1 (D6 (·.2) g))),(3, .ref 22),(2, .nil 3),(0, .d (Gh g))], [(22, .own 3 1 (((cB g []).take k).map rI))]⟩) (fun k=>g.n.toNat - k) 0 (by simp) ?_ ?_
 ·(refine Le.of ?_ ?_<;>simp [go_sem,simprocAttr])
 ·rintro k hk
  rcases Nat.lt_or_ge k g.n.toNat with hlt|hge
  ·have hb:decide ((k:Int)<(g.n.toNat:Int))=true:=decide_eq_true (by omega)
   have hv:=nw (f:=(·.2)) hlt
   have D5:(ow g k).length≤g.es.length:=hU
   have hlt':((cB g []).take k).length≤64:=by rw [List.length_take,wts_length];omega
   repeat' (first|fail|((first|((with_reducible (first|apply oA|apply oB));exact rfl;intro K hK)|(refine hK _ ?_;clear hK K)|((with_reducible (first|apply oG|apply oH));iterate 3 exact rfl)|((with_reducible apply oI);(iterate 2 exact rfl);intro K hK)|(with_reducible (first|apply wI|apply wJ|apply wK)));try simp only [go_sem,simprocAttr,hb,hv])|fail|(with_reducible (first|apply oC|apply oJ|exact oK|apply wA|apply wB|apply wC hX hC|apply wD hX hC|apply wE hX hC af|apply wF hX hC af|apply wG|apply wH|apply And.intro))|((with_reducible refine oD ?_ ?_);first|fail|kernel_rfl)|((with_reducible (first|apply oE|apply oF));(iterate 3 exact rfl);all_goals (intro h;first|(exact absurd h (by decide))|((try simp only [go_sem,simprocAttr,hb,hv] at h);(try with_reducible intro K hK);simp only [go_sem,simprocAttr,hb,hv])))|((first|((with_reducible apply wL);exact rfl)|((with_reducible apply wM);exact rfl));all_goals (try ((with_reducible intro h);first|(exact absurd h (by decide))|(try simp only [go_sem,simprocAttr,hb,hv] at h))))|omega|((first|(refine ai hX hC hP (aP (cB g out) 0 yL) rfl rfl rfl ?_ ?_ ?_ ?_;iterate 3 (focus (simp only [go_sem,simprocAttr,hb,hv];done))));try simp only [go_sem,simprocAttr,hb,hv])|(intro h))
   refine ⟨k+1,by omega, ?_,by omega⟩
   refine Le.of ?_ ?_<;>simp [go_sem,simprocAttr,hb,hv,B8 hlt]
   rfl
  ·obtain rfl:k=g.n.toNat:=by omega
   have hb:decide ((g.n.toNat:Int)<(g.n.toNat:Int))=false:=decide_eq_false (by omega)
   have ht:(cB g []).take g.n.toNat=cB g []:=List.take_of_length_le (by rw [wts_length];omega)
   repeat' (first|fail|((first|((with_reducible (first|apply oA|apply oB));exact rfl;intro K hK)|(refine hK _ ?_;clear hK K)|((with_reducible (first|apply oG|apply oH));iterate 3 exact rfl)|((with_reducible apply oI);(iterate 2 exact rfl);intro K hK)|(with_reducible (first|apply wI|apply wJ|apply wK)));try simp only [go_sem,simprocAttr,hb,ht])|fail|(with_reducible (first|apply oC|apply oJ|exact oK|apply wA|apply wB|apply wC hX hC|apply wD hX hC|apply wE hX hC af|apply wF hX hC af|apply wG|apply wH|apply And.intro))|((with_reducible refine oD ?_ ?_);first|fail|kernel_rfl)|((with_reducible (first|apply oE|apply oF));(iterate 3 exact rfl);all_goals (intro h;first|(exact absurd h (by decide))|((try simp only [go_sem,simprocAttr,hb,ht] at h);(try with_reducible intro K hK);simp only [go_sem,simprocAttr,hb,ht])))|((first|((with_reducible apply wL);exact rfl)|((with_reducible apply wM);exact rfl));all_goals (try ((with_reducible intro h);first|(exact absurd h (by decide))|(try simp only [go_sem,simprocAttr,hb,ht] at h))))|omega|((first|(refine ai hX hC hP (aP (cB g out) 0 yL) rfl rfl rfl ?_ ?_ ?_ ?_;iterate 3 (focus (simp only [go_sem,simprocAttr,hb,ht];done))));try simp only [go_sem,simprocAttr,hb,ht])|(intro h))
   (refine j4 hX 2 33 (.tip 3 1 []) (by simp only [go_sem,simprocAttr,hb,ht]) (by simp only [go_sem,simprocAttr,hb,ht]) (by decide) ⟨3,1,by decide, .inr rfl⟩ ?_;simp only [go_sem,simprocAttr,hb,ht])
   refine ak (fun out:List Int=>eO g out∧sD g (left g out) out=aI g) (fun out=>⟨[(3, .ref 22),(2, .ref 33),(0, .d (Gh g))], [(22, .own 3 1 ((cB g out).map rI)),(33, .tip 3 1 (out.map rI))]⟩) (left g) [] ⟨eO.nil g, ?_⟩ ?_ ?_
   ·have:=(eO.nil g).fuel
    simp only [List.length_nil,Nat.zero_add] at this
    unfold left aI
    rw [this]
   ·(refine Le.of ?_ ?_<;>simp [go_sem,simprocAttr,hb,ht])
   rintro out ⟨fU,hrun⟩
   have yL:(cB g out).length≤9223372036854775807:=by rw [wts_length];omega
   have hout:out.length≤64:=by have:=fU.fuel;omega
   rcases I8 (g:=g) out with hx|⟨x,hx,EM,hw0⟩
   ·have hr:=wj (g:=g) (out:=out) (by omega) (left g out)
    rw [hrun] at hr
    repeat' (first|fail|((first|((with_reducible (first|apply oA|apply oB));exact rfl;intro K hK)|(refine hK _ ?_;clear hK K)|((with_reducible (first|apply oG|apply oH));iterate 3 exact rfl)|((with_reducible apply oI);(iterate 2 exact rfl);intro K hK)|(with_reducible (first|apply wI|apply wJ|apply wK)));try simp only [go_sem,simprocAttr,hx])|fail|(with_reducible (first|apply oC|apply oJ|exact oK|apply wA|apply wB|apply wC hX hC|apply wD hX hC|apply wE hX hC af|apply wF hX hC af|apply wG|apply wH|apply And.intro))|((with_reducible refine oD ?_ ?_);first|fail|kernel_rfl)|((with_reducible (first|apply oE|apply oF));(iterate 3 exact rfl);all_goals (intro h;first|(exact absurd h (by decide))|((try simp only [go_sem,simprocAttr,hx] at h);(try with_reducible intro K hK);simp only [go_sem,simprocAttr,hx])))|((first|((with_reducible apply wL);exact rfl)|((with_reducible apply wM);exact rfl));all_goals (try ((with_reducible intro h);first|(exact absurd h (by decide))|(try simp only [go_sem,simprocAttr,hx] at h))))|omega|((first|(refine ai hX hC hP (aP (cB g out) 0 yL) rfl rfl rfl ?_ ?_ ?_ ?_;iterate 3 (focus (simp only [go_sem,simprocAttr,hx];done))));try simp only [go_sem,simprocAttr,hx])|(intro h))
    ·rw [hr]
    ·rw [hr]
   ·obtain ⟨qI,gw,bP⟩:=fU.next hm EM hw0
    have an:decide ((x:Int)<0)=false:=decide_eq_false (by omega)
    have hv:=nw (f:=(·.1)) EM
    have D5:(iQ g x).length≤g.es.length:=hU
    repeat' (first|fail|((first|((with_reducible (first|apply oA|apply oB));exact rfl;intro K hK)|(refine hK _ ?_;clear hK K)|((with_reducible (first|apply oG|apply oH));iterate 3 exact rfl)|((with_reducible apply oI);(iterate 2 exact rfl);intro K hK)|(with_reducible (first|apply wI|apply wJ|apply wK)));try simp only [go_sem,simprocAttr,hx,an,hv])|fail|(with_reducible (first|apply oC|apply oJ|exact oK|apply wA|apply wB|apply wC hX hC|apply wD hX hC|apply wE hX hC af|apply wF hX hC af|apply wG|apply wH|apply And.intro))|((with_reducible refine oD ?_ ?_);first|fail|kernel_rfl)|((with_reducible (first|apply oE|apply oF));(iterate 3 exact rfl);all_goals (intro h;first|(exact absurd h (by decide))|((try simp only [go_sem,simprocAttr,hx,an,hv] at h);(try with_reducible intro K hK);simp only [go_sem,simprocAttr,hx,an,hv])))|((first|((with_reducible apply wL);exact rfl)|((with_reducible apply wM);exact rfl));all_goals (try ((with_reducible intro h);first|(exact absurd h (by decide))|(try simp only [go_sem,simprocAttr,hx,an,hv] at h))))|omega|((first|(refine ai hX hC hP (aP (cB g out) 0 yL) rfl rfl rfl ?_ ?_ ?_ ?_;iterate 3 (focus (simp only [go_sem,simprocAttr,hx,an,hv];done))));try simp only [go_sem,simprocAttr,hx,an,hv])|(intro h))
    refine ak (fun j:Nat=>j≤(iQ g x).length) (fun j=>⟨[(45,eN j),(44,eN (iQ g x).length),(43, .d (sI (iQ g x))),(3, .ref 22),(2, .ref 33),(0, .d (Gh g))], [(22, .own 3 1 ((sF g out x j).map rI)),(33, .tip 3 1 ((out++ [(x:Int)]).map rI))]⟩) (fun j=>(iQ g x).length - j) 0 (by simp) ?_ ?_
    ·refine Le.of ?_ ?_<;>simp [go_sem,simprocAttr,hx,an,hv,iQ,rI]
     rw [← zT,List.map_set];rfl
    rintro j hj
    rcases Nat.lt_or_ge j (iQ g x).length with hlt|hge
    ·have aj:decide ((j:Int)<((iQ g x).length:Int))=true:=decide_eq_true (by omega)
     obtain ⟨i,hi,hil,hit⟩:=B6 (List.getElem_mem hlt)
     have hi1:(iQ g x)[j]? =some (i:Int):=by rw [List.getElem?_eq_getElem hlt,hi]
     have hi2:(iQ g x).getD j 0=(i:Int):=by rw [List.getD_eq_getElem?_getD,hi1];rfl
     have hnew:=FC fU gw bP hil hit
     obtain ⟨_,D7,mZ⟩:=gj hm hil
     have hnext:=zU hi1 D7 hnew
     have hw:(sF g out x j).getD (g.es.getD i (0,0)).2.toNat 0=AT g out x j (hd g i).toNat:=by
      rw [List.getD_eq_getElem?_getD,nv (by omega)];rfl
     have hbd:=zV hm (out:=out) (x:=x) (j:=j) (y:=(hd g i).toNat)
     repeat' (first|fail|((first|((with_reducible (first|apply oA|apply oB));exact rfl;intro K hK)|(refine hK _ ?_;clear hK K)|((with_reducible (first|apply oG|apply oH));iterate 3 exact rfl)|((with_reducible apply oI);(iterate 2 exact rfl);intro K hK)|(with_reducible (first|apply wI|apply wJ|apply wK)));try simp only [go_sem,simprocAttr,aj,hi2,hw])|fail|(with_reducible (first|apply oC|apply oJ|exact oK|apply wA|apply wB|apply wC hX hC|apply wD hX hC|apply wE hX hC af|apply wF hX hC af|apply wG|apply wH|apply And.intro))|((with_reducible refine oD ?_ ?_);first|fail|kernel_rfl)|((with_reducible (first|apply oE|apply oF));(iterate 3 exact rfl);all_goals (intro h;first|(exact absurd h (by decide))|((try simp only [go_sem,simprocAttr,aj,hi2,hw] at h);(try with_reducible intro K hK);simp only [go_sem,simprocAttr,aj,hi2,hw])))|((first|((with_reducible apply wL);exact rfl)|((with_reducible apply wM);exact rfl));all_goals (try ((with_reducible intro h);first|(exact absurd h (by decide))|(try simp only [go_sem,simprocAttr,aj,hi2,hw] at h))))|omega|((first|(refine ai hX hC hP (aP (cB g out) 0 yL) rfl rfl rfl ?_ ?_ ?_ ?_;iterate 3 (focus (simp only [go_sem,simprocAttr,aj,hi2,hw];done))));try simp only [go_sem,simprocAttr,aj,hi2,hw])|(intro h))
     refine ⟨j+1,by omega, ?_,by omega⟩
     refine Le.of ?_ ?_<;>simp [go_sem,simprocAttr,aj,hi2,hw]
     rw [← hnext,List.map_set];rfl
    ·have aj:decide ((j:Int)<((iQ g x).length:Int))=false:=decide_eq_false (by omega)
     repeat' (first|fail|((first|((with_reducible (first|apply oA|apply oB));exact rfl;intro K hK)|(refine hK _ ?_;clear hK K)|((with_reducible (first|apply oG|apply oH));iterate 3 exact rfl)|((with_reducible apply oI);(iterate 2 exact rfl);intro K hK)|(with_reducible (first|apply wI|apply wJ|apply wK)));try simp only [go_sem,simprocAttr,aj])|fail|(with_reducible (first|apply oC|apply oJ|exact oK|apply wA|apply wB|apply wC hX hC|apply wD hX hC|apply wE hX hC af|apply wF hX hC af|apply wG|apply wH|apply And.intro))|((with_reducible refine oD ?_ ?_);first|fail|kernel_rfl)|((with_reducible (first|apply oE|apply oF));(iterate 3 exact rfl);all_goals (intro h;first|(exact absurd h (by decide))|((try simp only [go_sem,simprocAttr,aj] at h);(try with_reducible intro K hK);simp only [go_sem,simprocAttr,aj])))|((first|((with_reducible apply wL);exact rfl)|((with_reducible apply wM);exact rfl));all_goals (try ((with_reducible intro h);first|(exact absurd h (by decide))|(try simp only [go_sem,simprocAttr,aj] at h))))|omega|((first|(refine ai hX hC hP (aP (cB g out) 0 yL) rfl rfl rfl ?_ ?_ ?_ ?_;iterate 3 (focus (simp only [go_sem,simprocAttr,aj];done))));try simp only [go_sem,simprocAttr,aj])|(intro h))
     have sG:=s5 fU qI
     refine ⟨out++ [(x:Int)],⟨qI, ?_⟩, ?_,by omega⟩
     ·rw [← hrun,sG]
      simp only [sD,hx]
      rw [if_neg (by omega)]
     ·refine Le.of ?_ ?_<;>simp [go_sem,simprocAttr,aj,B7 gw hge]
end Go.Ab
end
section
namespace Go.Ab
open Go.Proofs
attribute [local congr] ACall.congr
set_option maxRecDepth 10000
def kB (l:List Int) (k:Nat):List Int:=(List.range l.length).map fun p=>if p<k∨l.length - 1<p+k then l.getD (l.length - 1 - p) 0 else l.getD p 0
theorem bQ {l:List Int} {k:Nat} :(kB l k).length=l.length:=by simp [kB]
theorem jB {l:List Int} {k p:Nat} (h:p<l.length):(kB l k)[p]? =some (if p<k∨l.length - 1<p+k then l.getD (l.length - 1 - p) 0 else l.getD p 0):=by
 simp [kB,List.getElem?_range h]
theorem qY {l:List Int} {k p:Nat} (h:p<l.length) (d:Int):(kB l k).getD p d=if p<k∨l.length - 1<p+k then l.getD (l.length - 1 - p) 0 else l.getD p 0:=by
 rw [List.getD_eq_getElem?_getD,jB h];rfl
theorem xV {l:List Int} :kB l 0=l:=by
 refine List.ext_getElem? fun i=> ?_
 by_cases hi:i<l.length
 ·rw [jB hi,if_neg (by omega),List.getD_eq_getElem?_getD,List.getElem?_eq_getElem hi];rfl
 ·rw [List.getElem?_eq_none (by rw [bQ];omega),List.getElem?_eq_none (by omega)]
theorem zW {l:List Int} {k:Nat} (h:l.length≤2*k+1):kB l k=l.reverse:=by
 refine List.ext_getElem? fun i=> ?_
 by_cases hi:i<l.length
 ·rw [jB hi,List.getElem?_reverse hi]
  split
  ·rw [List.getD_eq_getElem?_getD,List.getElem?_eq_getElem (by omega)];rfl
  ·have:i=l.length - 1 - i:=by omega
   rw [← this,List.getD_eq_getElem?_getD,List.getElem?_eq_getElem hi];rfl
 ·rw [List.getElem?_eq_none (by rw [bQ];omega),List.getElem?_eq_none (by rw [List.length_reverse];omega)]
theorem xW {l:List Int} {k:Nat} (h:k<l.length - 1 - k):((kB l k).set k ((kB l k).getD (l.length - 1 - k) 0)).set (l.length - 1 - k) ((kB l k).getD k 0)=kB l (k+1):=by
 refine List.ext_getElem? fun i=> ?_
 rw [List.getElem?_set,List.length_set,bQ,List.getElem?_set,bQ]
 by_cases hi:i<l.length
 ·rw [jB hi,jB hi,qY (by omega),qY (by omega)]
  by_cases h1:l.length - 1 - k=i
  ·rw [if_pos h1,if_pos (by omega),if_neg (by omega),if_pos (by omega)]
   congr 2;omega
  ·rw [if_neg h1]
   by_cases h2:k=i
   ·rw [if_pos h2,if_pos (by omega),if_neg (by omega),if_pos (by omega)]
    congr 2;omega
   ·rw [if_neg h2]
    congr 1
    by_cases h3:i<k∨l.length - 1<i+k
    ·rw [if_pos h3,if_pos (by omega)]
    ·rw [if_neg h3,if_neg (by omega)]
 ·rw [List.getElem?_eq_none (by rw [bQ];omega),List.getElem?_eq_none (by rw [bQ];omega),if_neg (by omega),if_neg (by omega)]
theorem ez (l:List Int) (hl:l.length≤1000000):Spec Tryz.prog 57 (Args [.ref 10000]) [(10000, .part 3 1 (l.map rI))] (.tup []) [(10000, .part 3 1 (l.reverse.map rI))]:=by
 (refine Spec.intro (C:=T.cfg [] []) (rs:= []) (T.aq _ _) Tryz.func57 rfl rfl Tryz.ntmps57 Tryz.results57 (by simp [AObj.isNest]) (by simp [AObj.isNest]) (by kernel_rfl) ?_;intro X hX hP hC aN aO vals hA;refine ⟨_,by simp,hA, ?_⟩;have af:X.P.follows .mixedOrders=true:=(by rw [hP];exact T.mixed);clear aN aO)
 repeat' (first|fail|((first|((with_reducible (first|apply oA|apply oB));exact rfl;intro K hK)|(refine hK _ ?_;clear hK K)|((with_reducible (first|apply oG|apply oH));iterate 3 exact rfl)|((with_reducible apply oI);(iterate 2 exact rfl);intro K hK)|(with_reducible (first|apply wI|apply wJ|apply wK)));try simp only [go_sem,simprocAttr])|fail|(with_reducible (first|apply oC|apply oJ|exact oK|apply wA|apply wB|apply wC hX hC|apply wD hX hC|apply wE hX hC af|apply wF hX hC af|apply wG|apply wH|apply And.intro))|((with_reducible refine oD ?_ ?_);first|fail|kernel_rfl)|((with_reducible (first|apply oE|apply oF));(iterate 3 exact rfl);all_goals (intro h;first|(exact absurd h (by decide))|((try simp only [go_sem,simprocAttr] at h);(try with_reducible intro K hK);simp only [go_sem,simprocAttr])))|((first|((with_reducible apply wL);exact rfl)|((with_reducible apply wM);exact rfl));all_goals (try ((with_reducible intro h);first|(exact absurd h (by decide))|(try simp only [go_sem,simprocAttr] at h))))|omega|((first|fail);try simp only [go_sem,simprocAttr])|(intro h))
 refine ak (fun k:Nat=>2*k≤l.length+1) (fun k=>⟨[(0, .ref 10000),(2,eN k),(3,eN ((l.length:Int) - 1 - k))], [(10000, .part 3 1 ((kB l k).map rI))]⟩) (fun k=>l.length+1 - k) 0 (by omega) ?_ ?_
 ·refine Le.of ?_ ?_<;>simp [go_sem,simprocAttr,xV]
 rintro k hk
 rcases Nat.lt_or_ge (2*k+1) l.length with hlt|hge
 ·have hb:decide ((k:Int)<(l.length:Int) - 1 - (k:Int))=true:=decide_eq_true (by omega)
  have ht:((l.length:Int) - 1 - (k:Int)).toNat=l.length - 1 - k:=by omega
  repeat' (first|fail|((first|((with_reducible (first|apply oA|apply oB));exact rfl;intro K hK)|(refine hK _ ?_;clear hK K)|((with_reducible (first|apply oG|apply oH));iterate 3 exact rfl)|((with_reducible apply oI);(iterate 2 exact rfl);intro K hK)|(with_reducible (first|apply wI|apply wJ|apply wK)));try simp only [go_sem,simprocAttr,hb,ht,bQ,aY])|fail|(with_reducible (first|apply oC|apply oJ|exact oK|apply wA|apply wB|apply wC hX hC|apply wD hX hC|apply wE hX hC af|apply wF hX hC af|apply wG|apply wH|apply And.intro))|((with_reducible refine oD ?_ ?_);first|fail|kernel_rfl)|((with_reducible (first|apply oE|apply oF));(iterate 3 exact rfl);all_goals (intro h;first|(exact absurd h (by decide))|((try simp only [go_sem,simprocAttr,hb,ht,bQ,aY] at h);(try with_reducible intro K hK);simp only [go_sem,simprocAttr,hb,ht,bQ,aY])))|((first|((with_reducible apply wL);exact rfl)|((with_reducible apply wM);exact rfl));all_goals (try ((with_reducible intro h);first|(exact absurd h (by decide))|(try simp only [go_sem,simprocAttr,hb,ht,bQ,aY] at h))))|omega|((first|fail);try simp only [go_sem,simprocAttr,hb,ht,bQ,aY])|(intro h))
  refine ⟨k+1,by omega, ?_,by omega⟩
  refine Le.of ?_ ?_<;>simp [go_sem,simprocAttr]
  ·omega
  ·rw [← xW (by omega),List.map_set,List.map_set]
   simp only [List.getD_eq_getElem?_getD]
 ·have hb:decide ((k:Int)<(l.length:Int) - 1 - (k:Int))=false:=decide_eq_false (by omega)
  repeat' (first|fail|((first|((with_reducible (first|apply oA|apply oB));exact rfl;intro K hK)|(refine hK _ ?_;clear hK K)|((with_reducible (first|apply oG|apply oH));iterate 3 exact rfl)|((with_reducible apply oI);(iterate 2 exact rfl);intro K hK)|(with_reducible (first|apply wI|apply wJ|apply wK)));try simp only [go_sem,simprocAttr,hb])|fail|(with_reducible (first|apply oC|apply oJ|exact oK|apply wA|apply wB|apply wC hX hC|apply wD hX hC|apply wE hX hC af|apply wF hX hC af|apply wG|apply wH|apply And.intro))|((with_reducible refine oD ?_ ?_);first|fail|kernel_rfl)|((with_reducible (first|apply oE|apply oF));(iterate 3 exact rfl);all_goals (intro h;first|(exact absurd h (by decide))|((try simp only [go_sem,simprocAttr,hb] at h);(try with_reducible intro K hK);simp only [go_sem,simprocAttr,hb])))|((first|((with_reducible apply wL);exact rfl)|((with_reducible apply wM);exact rfl));all_goals (try ((with_reducible intro h);first|(exact absurd h (by decide))|(try simp only [go_sem,simprocAttr,hb] at h))))|omega|((first|fail);try simp only [go_sem,simprocAttr,hb])|(intro h))
  simp only [go_sem,simprocAttr,hb,zW hge]
def gT:List Int→Int
 | []=>0
 |a::r=>r.foldl min a
theorem zX {l:List Int} {k:Nat} (h0:0<k) (h:k<l.length):gT (l.take (k+1))=min (gT (l.take k)) (l.getD k 0):=by
 cases l with
 |nil=>simp at h
 |cons a r=>
  obtain ⟨k,rfl⟩:∃j,k=j+1:=⟨k - 1,by omega⟩
  simp only [List.length_cons] at h
  simp only [List.take_succ_cons,gT,List.getD_cons_succ]
  rw [List.take_add_one,List.foldl_append,List.getElem?_eq_getElem (by omega),List.getD_eq_getElem?_getD,List.getElem?_eq_getElem (by omega)]
  rfl
theorem B9 {l:List Int} (h:0<l.length):gT (l.take 1)=l.getD 0 0:=by
 cases l with
 |nil=>simp at h
 |cons a r=>simp [gT]
theorem jC (l:List Int) (h0:0<l.length) (hl:l.length≤1000000):Spec Tryz.prog 124 (Args [.d (sI l)]) [] (eN (gT l)) []:=by
 (refine Spec.intro (C:=T.cfg [] []) (rs:= [.t 2]) (T.aq _ _) Tryz.func124 rfl rfl Tryz.ntmps124 Tryz.results124 (by simp [AObj.isNest]) (by simp [AObj.isNest]) (by kernel_rfl) ?_;intro X hX hP hC aN aO vals hA;refine ⟨_,by simp,hA, ?_⟩;have af:X.P.follows .mixedOrders=true:=(by rw [hP];exact T.mixed);clear aN aO)
 repeat' (first|fail|((first|((with_reducible (first|apply oA|apply oB));exact rfl;intro K hK)|(refine hK _ ?_;clear hK K)|((with_reducible (first|apply oG|apply oH));iterate 3 exact rfl)|((with_reducible apply oI);(iterate 2 exact rfl);intro K hK)|(with_reducible (first|apply wI|apply wJ|apply wK)));try simp only [go_sem,simprocAttr])|fail|(with_reducible (first|apply oC|apply oJ|exact oK|apply wA|apply wB|apply wC hX hC|apply wD hX hC|apply wE hX hC af|apply wF hX hC af|apply wG|apply wH|apply And.intro))|((with_reducible refine oD ?_ ?_);first|fail|kernel_rfl)|((with_reducible (first|apply oE|apply oF));(iterate 3 exact rfl);all_goals (intro h;first|(exact absurd h (by decide))|((try simp only [go_sem,simprocAttr] at h);(try with_reducible intro K hK);simp only [go_sem,simprocAttr])))|((first|((with_reducible apply wL);exact rfl)|((with_reducible apply wM);exact rfl));all_goals (try ((with_reducible intro h);first|(exact absurd h (by decide))|(try simp only [go_sem,simprocAttr] at h))))|omega|((first|fail);try simp only [go_sem,simprocAttr])|(intro h))
 refine ak (fun k:Nat=>0<k∧k≤l.length) (fun k=>⟨[(0, .d (sI l)),(3,eN (gT (l.take k))),(4,eN k)], []⟩) (fun k=>l.length - k) 1 (by omega) ?_ ?_
 ·refine Le.of ?_ ?_<;>simp [go_sem,simprocAttr,B9 h0]
 rintro k ⟨uj,hk⟩
 repeat' (first|fail|((first|((with_reducible (first|apply oA|apply oB));exact rfl;intro K hK)|(refine hK _ ?_;clear hK K)|((with_reducible (first|apply oG|apply oH));iterate 3 exact rfl)|((with_reducible apply oI);(iterate 2 exact rfl);intro K hK)|(with_reducible (first|apply wI|apply wJ|apply wK)));try simp only [go_sem,simprocAttr])|fail|(with_reducible (first|apply oC|apply oJ|exact oK|apply wA|apply wB|apply wC hX hC|apply wD hX hC|apply wE hX hC af|apply wF hX hC af|apply wG|apply wH|apply And.intro))|((with_reducible refine oD ?_ ?_);first|fail|kernel_rfl)|((with_reducible (first|apply oE|apply oF));(iterate 3 exact rfl);all_goals (intro h;first|(exact absurd h (by decide))|((try simp only [go_sem,simprocAttr] at h);(try with_reducible intro K hK);simp only [go_sem,simprocAttr])))|((first|((with_reducible apply wL);exact rfl)|((with_reducible apply wM);exact rfl));all_goals (try ((with_reducible intro h);first|(exact absurd h (by decide))|(try simp only [go_sem,simprocAttr] at h))))|omega|((first|fail);try simp only [go_sem,simprocAttr])|(intro h))
 ·refine ⟨k+1,by omega, ?_,by omega⟩
  refine Le.of ?_ ?_<;>simp [go_sem,simprocAttr]
  rw [zX uj (by omega),List.getD_eq_getElem?_getD]
 ·rw [List.take_of_length_le (by omega)]
theorem fB (n:Int) (h0:0<n) (hl:n≤1000000):Spec Tryz.prog 91 (Args [.nil 3,eN n]) [] (.ref 10000) [(10000, .own 3 1 [])]:=by
 (refine Spec.fM (C:=T.cfg [] []) (rs:= [.t 4]) [(10000,25)] (T.aq _ _) Tryz.func91 rfl rfl Tryz.ntmps91 Tryz.results91 (by simp [AObj.isNest]) (by simp [AObj.isNest]) (by first|(simp [look];done)|(simp [asN];done)|(intro l hl;simp only [asN];repeat (rw [if_neg (fun e=>by subst e;simp [look] at hl)]))) (by first|(simp [look];done)|(simp [asN];done)|(intro l hl;simp only [asN];repeat (rw [if_neg (fun e=>by subst e;simp [look] at hl)]))) (by kernel_rfl) ?_;intro X hX hP hC aN aO vals hA;refine ⟨_,by simp,hA, ?_⟩;have af:X.P.follows .mixedOrders=true:=(by rw [hP];exact T.mixed);clear aN aO)
 repeat' (first|fail|((first|((with_reducible (first|apply oA|apply oB));exact rfl;intro K hK)|(refine hK _ ?_;clear hK K)|((with_reducible (first|apply oG|apply oH));iterate 3 exact rfl)|((with_reducible apply oI);(iterate 2 exact rfl);intro K hK)|(with_reducible (first|apply wI|apply wJ|apply wK)));try simp only [go_sem,simprocAttr])|fail|(with_reducible (first|apply oC|apply oJ|exact oK|apply wA|apply wB|apply wC hX hC|apply wD hX hC|apply wE hX hC af|apply wF hX hC af|apply wG|apply wH|apply And.intro))|((with_reducible refine oD ?_ ?_);first|fail|kernel_rfl)|((with_reducible (first|apply oE|apply oF));(iterate 3 exact rfl);all_goals (intro h;first|(exact absurd h (by decide))|((try simp only [go_sem,simprocAttr] at h);(try with_reducible intro K hK);simp only [go_sem,simprocAttr])))|((first|((with_reducible apply wL);exact rfl)|((with_reducible apply wM);exact rfl));all_goals (try ((with_reducible intro h);first|(exact absurd h (by decide))|(try simp only [go_sem,simprocAttr] at h))))|omega|((first|fail);try simp only [go_sem,simprocAttr])|(intro h))
end Go.Ab
end
section
namespace Go.Ab
open Go.Proofs
attribute [local congr] ACall.congr
set_option maxRecDepth 10000
def vL (ls:List (List Int)):List (List D):=ls.map fun l=> [sI l]
theorem vL_length {ls:List (List Int)} :(vL ls).length=ls.length:=by simp [vL]
theorem uF {ls:List (List Int)} {k:Nat} (h:k<ls.length) (d:List D):(vL ls).getD k d= [sI (ls.getD k [])]:=by
 simp [vL,List.getD_eq_getElem?_getD,List.getElem?_eq_getElem h]
attribute [go_sem] vL_length
theorem s6 {ls:List (List Int)} {k:Nat} (h:k<ls.length):(ls.take (k+1)).flatten=(ls.take k).flatten++ls.getD k []:=by
 rw [List.take_add_one,List.flatten_append,List.getElem?_eq_getElem h,List.getD_eq_getElem?_getD,List.getElem?_eq_getElem h]
 simp
theorem qa {ls:List (List Int)} {k:Nat} :(ls.take k).flatten.length≤ls.flatten.length:=by
 have:=congrArg (fun x=>x.flatten.length) (List.take_append_drop k ls)
 simp only [List.flatten_append,List.length_append] at this
 omega
theorem ee (ls:List (List Int)) (hn:ls.length≤1000) (h0:0<ls.flatten.length) (hl:ls.flatten.length≤1000000):Spec Tryz.prog 54 (Args [.d (.sl 1 (vL ls))]) [] (.d (sI ls.flatten)) []:=by
 (refine Spec.intro (C:=T.cfg [] []) (rs:= [.t 2]) (T.aq _ _) Tryz.func54 rfl rfl Tryz.ntmps54 Tryz.results54 (by simp [AObj.isNest]) (by simp [AObj.isNest]) (by kernel_rfl) ?_;intro X hX hP hC aN aO vals hA;refine ⟨_,by simp,hA, ?_⟩;have af:X.P.follows .mixedOrders=true:=(by rw [hP];exact T.mixed);clear aN aO)
 repeat' (first|fail|((first|((with_reducible (first|apply oA|apply oB));exact rfl;intro K hK)|(refine hK _ ?_;clear hK K)|((with_reducible (first|apply oG|apply oH));iterate 3 exact rfl)|((with_reducible apply oI);(iterate 2 exact rfl);intro K hK)|(with_reducible (first|apply wI|apply wJ|apply wK)));try simp only [go_sem,simprocAttr])|fail|(with_reducible (first|apply oC|apply oJ|exact oK|apply wA|apply wB|apply wC hX hC|apply wD hX hC|apply wE hX hC af|apply wF hX hC af|apply wG|apply wH|apply And.intro))|((with_reducible refine oD ?_ ?_);first|fail|kernel_rfl)|((with_reducible (first|apply oE|apply oF));(iterate 3 exact rfl);all_goals (intro h;first|(exact absurd h (by decide))|((try simp only [go_sem,simprocAttr] at h);(try with_reducible intro K hK);simp only [go_sem,simprocAttr])))|((first|((with_reducible apply wL);exact rfl)|((with_reducible apply wM);exact rfl));all_goals (try ((with_reducible intro h);first|(exact absurd h (by decide))|(try simp only [go_sem,simprocAttr] at h))))|omega|((first|(refine az hX hC hP [(10000,33)] (fB (ls.flatten.length:Int) (by omega) (by omega)) rfl rfl rfl ?_ ?_ ?_ ?_ ?_ ?_ ?_ ?_ ?_ ?_ ?_ ?_ ?_ ?_;(focus (simp only [go_sem,simprocAttr];done));(iterate 12 (focus (simp [go_sem,simprocAttr];done)));simp only [go_sem,simprocAttr,List.map_cons,List.map_nil]));try simp only [go_sem,simprocAttr])|(intro h))
 refine ak (fun k:Nat=>k≤ls.length) (fun k=>⟨[(0, .d (.sl 1 (vL ls))),(9, .d (.sl 1 (vL ls))),(10,eN ls.length),(11,eN k),(3,eN ((ls.take k).flatten.length))], []⟩) (fun k=>ls.length - k) 0 (by omega) ?_ ?_
 ·(refine Le.of ?_ ?_<;>simp [go_sem,simprocAttr])
 ·rintro k hk
  rcases Nat.lt_or_ge k ls.length with hlt|hge
  ·have hb:decide ((k:Int)<(ls.length:Int))=true:=decide_eq_true (by omega)
   have hv:=uF hlt
   have hf:=s6 hlt
   have JS:=qa (ls:=ls) (k:=k)
   have FD:=qa (ls:=ls) (k:=k+1)
   rw [hf,List.length_append] at FD
   have hneg:decide (((ls.take k).flatten.length:Int)+((ls.getD k []).length:Int)<0)=false:=decide_eq_false (by omega)
   repeat' (first|fail|((first|((with_reducible (first|apply oA|apply oB));exact rfl;intro K hK)|(refine hK _ ?_;clear hK K)|((with_reducible (first|apply oG|apply oH));iterate 3 exact rfl)|((with_reducible apply oI);(iterate 2 exact rfl);intro K hK)|(with_reducible (first|apply wI|apply wJ|apply wK)));try simp only [go_sem,simprocAttr,hb,hv,hneg])|fail|(with_reducible (first|apply oC|apply oJ|exact oK|apply wA|apply wB|apply wC hX hC|apply wD hX hC|apply wE hX hC af|apply wF hX hC af|apply wG|apply wH|apply And.intro))|((with_reducible refine oD ?_ ?_);first|fail|kernel_rfl)|((with_reducible (first|apply oE|apply oF));(iterate 3 exact rfl);all_goals (intro h;first|(exact absurd h (by decide))|((try simp only [go_sem,simprocAttr,hb,hv,hneg] at h);(try with_reducible intro K hK);simp only [go_sem,simprocAttr,hb,hv,hneg])))|((first|((with_reducible apply wL);exact rfl)|((with_reducible apply wM);exact rfl));all_goals (try ((with_reducible intro h);first|(exact absurd h (by decide))|(try simp only [go_sem,simprocAttr,hb,hv,hneg] at h))))|omega|((first|(refine az hX hC hP [(10000,33)] (fB (ls.flatten.length:Int) (by omega) (by omega)) rfl rfl rfl ?_ ?_ ?_ ?_ ?_ ?_ ?_ ?_ ?_ ?_ ?_ ?_ ?_ ?_;(focus (simp only [go_sem,simprocAttr,hb,hv,hneg];done));(iterate 12 (focus (simp [go_sem,simprocAttr,hb,hv,hneg];done)));simp only [go_sem,simprocAttr,hb,hv,hneg,List.map_cons,List.map_nil]));try simp only [go_sem,simprocAttr,hb,hv,hneg])|(intro h))
   refine ⟨k+1,by omega, ?_,by omega⟩
   simp only [hf]
   refine Le.of ?_ ?_<;>simp [go_sem,simprocAttr,hb,hv,hneg]
  ·have hb:decide ((k:Int)<(ls.length:Int))=false:=decide_eq_false (by omega)
   have ht:ls.take k=ls:=List.take_of_length_le (by omega)
   repeat' (first|fail|((first|((with_reducible (first|apply oA|apply oB));exact rfl;intro K hK)|(refine hK _ ?_;clear hK K)|((with_reducible (first|apply oG|apply oH));iterate 3 exact rfl)|((with_reducible apply oI);(iterate 2 exact rfl);intro K hK)|(with_reducible (first|apply wI|apply wJ|apply wK)));try simp only [go_sem,simprocAttr,hb,ht])|fail|(with_reducible (first|apply oC|apply oJ|exact oK|apply wA|apply wB|apply wC hX hC|apply wD hX hC|apply wE hX hC af|apply wF hX hC af|apply wG|apply wH|apply And.intro))|((with_reducible refine oD ?_ ?_);first|fail|kernel_rfl)|((with_reducible (first|apply oE|apply oF));(iterate 3 exact rfl);all_goals (intro h;first|(exact absurd h (by decide))|((try simp only [go_sem,simprocAttr,hb,ht] at h);(try with_reducible intro K hK);simp only [go_sem,simprocAttr,hb,ht])))|((first|((with_reducible apply wL);exact rfl)|((with_reducible apply wM);exact rfl));all_goals (try ((with_reducible intro h);first|(exact absurd h (by decide))|(try simp only [go_sem,simprocAttr,hb,ht] at h))))|omega|((first|(refine az hX hC hP [(10000,33)] (fB (ls.flatten.length:Int) (by omega) (by omega)) rfl rfl rfl ?_ ?_ ?_ ?_ ?_ ?_ ?_ ?_ ?_ ?_ ?_ ?_ ?_ ?_;(focus (simp only [go_sem,simprocAttr,hb,ht];done));(iterate 12 (focus (simp [go_sem,simprocAttr,hb,ht];done)));simp only [go_sem,simprocAttr,hb,ht,List.map_cons,List.map_nil]));try simp only [go_sem,simprocAttr,hb,ht])|(intro h))
   refine ak (fun k:Nat=>k≤ls.length) (fun k=>⟨[(25, .d (.sl 1 (vL ls))),(26,eN ls.length),(27,eN k),(6, .ref 33)], [(33, .own 3 1 ((ls.take k).flatten.map rI))]⟩) (fun k=>ls.length - k) 0 (by omega) ?_ ?_
   ·(refine Le.of ?_ ?_<;>simp [go_sem,simprocAttr,hb,ht])
   ·clear hb ht hk hge
    rintro k hk
    rcases Nat.lt_or_ge k ls.length with hlt|hge
    ·have hb:decide ((k:Int)<(ls.length:Int))=true:=decide_eq_true (by omega)
     have hv:=uF hlt
     have hf:=s6 hlt
     have JS:=qa (ls:=ls) (k:=k)
     have FD:=qa (ls:=ls) (k:=k+1)
     rw [hf,List.length_append] at FD
     repeat' (first|fail|((first|((with_reducible (first|apply oA|apply oB));exact rfl;intro K hK)|(refine hK _ ?_;clear hK K)|((with_reducible (first|apply oG|apply oH));iterate 3 exact rfl)|((with_reducible apply oI);(iterate 2 exact rfl);intro K hK)|(with_reducible (first|apply wI|apply wJ|apply wK)));try simp only [go_sem,simprocAttr,hb,hv])|fail|(with_reducible (first|apply oC|apply oJ|exact oK|apply wA|apply wB|apply wC hX hC|apply wD hX hC|apply wE hX hC af|apply wF hX hC af|apply wG|apply wH|apply And.intro))|((with_reducible refine oD ?_ ?_);first|fail|kernel_rfl)|((with_reducible (first|apply oE|apply oF));(iterate 3 exact rfl);all_goals (intro h;first|(exact absurd h (by decide))|((try simp only [go_sem,simprocAttr,hb,hv] at h);(try with_reducible intro K hK);simp only [go_sem,simprocAttr,hb,hv])))|((first|((with_reducible apply wL);exact rfl)|((with_reducible apply wM);exact rfl));all_goals (try ((with_reducible intro h);first|(exact absurd h (by decide))|(try simp only [go_sem,simprocAttr,hb,hv] at h))))|omega|((first|(refine az hX hC hP [(10000,33)] (fB (ls.flatten.length:Int) (by omega) (by omega)) rfl rfl rfl ?_ ?_ ?_ ?_ ?_ ?_ ?_ ?_ ?_ ?_ ?_ ?_ ?_ ?_;(focus (simp only [go_sem,simprocAttr,hb,hv];done));(iterate 12 (focus (simp [go_sem,simprocAttr,hb,hv];done)));simp only [go_sem,simprocAttr,hb,hv,List.map_cons,List.map_nil]));try simp only [go_sem,simprocAttr,hb,hv])|(intro h))
     refine ⟨k+1,by omega, ?_,by omega⟩
     simp only [hf]
     refine Le.of ?_ ?_<;>simp [go_sem,simprocAttr,hb,hv]
    ·have hb:decide ((k:Int)<(ls.length:Int))=false:=decide_eq_false (by omega)
     have ht:ls.take k=ls:=List.take_of_length_le (by omega)
     repeat' (first|fail|((first|((with_reducible (first|apply oA|apply oB));exact rfl;intro K hK)|(refine hK _ ?_;clear hK K)|((with_reducible (first|apply oG|apply oH));iterate 3 exact rfl)|((with_reducible apply oI);(iterate 2 exact rfl);intro K hK)|(with_reducible (first|apply wI|apply wJ|apply wK)));try simp only [go_sem,simprocAttr,hb,ht])|fail|(with_reducible (first|apply oC|apply oJ|exact oK|apply wA|apply wB|apply wC hX hC|apply wD hX hC|apply wE hX hC af|apply wF hX hC af|apply wG|apply wH|apply And.intro))|((with_reducible refine oD ?_ ?_);first|fail|kernel_rfl)|((with_reducible (first|apply oE|apply oF));(iterate 3 exact rfl);all_goals (intro h;first|(exact absurd h (by decide))|((try simp only [go_sem,simprocAttr,hb,ht] at h);(try with_reducible intro K hK);simp only [go_sem,simprocAttr,hb,ht])))|((first|((with_reducible apply wL);exact rfl)|((with_reducible apply wM);exact rfl));all_goals (try ((with_reducible intro h);first|(exact absurd h (by decide))|(try simp only [go_sem,simprocAttr,hb,ht] at h))))|omega|((first|(refine az hX hC hP [(10000,33)] (fB (ls.flatten.length:Int) (by omega) (by omega)) rfl rfl rfl ?_ ?_ ?_ ?_ ?_ ?_ ?_ ?_ ?_ ?_ ?_ ?_ ?_ ?_;(focus (simp only [go_sem,simprocAttr,hb,ht];done));(iterate 12 (focus (simp [go_sem,simprocAttr,hb,ht];done)));simp only [go_sem,simprocAttr,hb,ht,List.map_cons,List.map_nil]));try simp only [go_sem,simprocAttr,hb,ht])|(intro h))
def iz (ls:List (List Int)) (k:Nat):List Int:=((List.range k).filter fun x=>decide ((ls.getD x []).length=0)).map Int.ofNat
theorem mD {ls:List (List Int)} {k:Nat} :iz ls (k+1)=iz ls k++if (ls.getD k []).length=0 then [(k:Int)] else []:=by
 simp only [iz,List.range_succ,List.filter_append,List.map_append,List.filter_cons,List.filter_nil]
 split<;>simp_all
theorem s7 {ls:List (List Int)} {k:Nat} :(iz ls k).length≤k:=by
 simpa [iz] using List.length_filter_le (fun x=>decide ((ls.getD x []).length=0)) (List.range k)
theorem s8 (ls:List (List Int)) (hn:ls.length≤1000):Spec Tryz.prog 61 (Args [.d (.sl 1 (vL ls))]) [] (.d (sI (iz ls ls.length))) []:=by
 (refine Spec.intro (C:=T.cfg [] []) (rs:= [.t 2]) (T.aq _ _) Tryz.func61 rfl rfl Tryz.ntmps61 Tryz.results61 (by simp [AObj.isNest]) (by simp [AObj.isNest]) (by kernel_rfl) ?_;intro X hX hP hC aN aO vals hA;refine ⟨_,by simp,hA, ?_⟩;have af:X.P.follows .mixedOrders=true:=(by rw [hP];exact T.mixed);clear aN aO)
 repeat' (first|fail|((first|((with_reducible (first|apply oA|apply oB));exact rfl;intro K hK)|(refine hK _ ?_;clear hK K)|((with_reducible (first|apply oG|apply oH));iterate 3 exact rfl)|((with_reducible apply oI);(iterate 2 exact rfl);intro K hK)|(with_reducible (first|apply wI|apply wJ|apply wK)));try simp only [go_sem,simprocAttr])|fail|(with_reducible (first|apply oC|apply oJ|exact oK|apply wA|apply wB|apply wC hX hC|apply wD hX hC|apply wE hX hC af|apply wF hX hC af|apply wG|apply wH|apply And.intro))|((with_reducible refine oD ?_ ?_);first|fail|kernel_rfl)|((with_reducible (first|apply oE|apply oF));(iterate 3 exact rfl);all_goals (intro h;first|(exact absurd h (by decide))|((try simp only [go_sem,simprocAttr] at h);(try with_reducible intro K hK);simp only [go_sem,simprocAttr])))|((first|((with_reducible apply wL);exact rfl)|((with_reducible apply wM);exact rfl));all_goals (try ((with_reducible intro h);first|(exact absurd h (by decide))|(try simp only [go_sem,simprocAttr] at h))))|omega|((first|(refine az hX hC hP [(10000,33)] (fB (ls.flatten.length:Int) (by omega) (by omega)) rfl rfl rfl ?_ ?_ ?_ ?_ ?_ ?_ ?_ ?_ ?_ ?_ ?_ ?_ ?_ ?_;(focus (simp only [go_sem,simprocAttr];done));(iterate 12 (focus (simp [go_sem,simprocAttr];done)));simp only [go_sem,simprocAttr,List.map_cons,List.map_nil]));try simp only [go_sem,simprocAttr])|(intro h))
 (refine j4 hX 2 18 (.tip 3 1 []) (by simp only [go_sem,simprocAttr]) (by simp only [go_sem,simprocAttr]) (by decide) ⟨3,1,by decide, .inr rfl⟩ ?_;simp only [go_sem,simprocAttr])
 refine ak (fun k:Nat=>k≤ls.length) (fun k=>⟨[(5, .d (.sl 1 (vL ls))),(6,eN ls.length),(7,eN k),(2, .ref 18)], [(18, .tip 3 1 ((iz ls k).map rI))]⟩) (fun k=>ls.length - k) 0 (by omega) ?_ ?_
 ·refine Le.of ?_ ?_<;>simp [go_sem,simprocAttr,iz]
 ·rintro k hk
  rcases Nat.lt_or_ge k ls.length with hlt|hge
  ·have hb:decide ((k:Int)<(ls.length:Int))=true:=decide_eq_true (by omega)
   have hv:=uF hlt
   have hlen:=s7 (ls:=ls) (k:=k)
   repeat' (first|fail|((first|((with_reducible (first|apply oA|apply oB));exact rfl;intro K hK)|(refine hK _ ?_;clear hK K)|((with_reducible (first|apply oG|apply oH));iterate 3 exact rfl)|((with_reducible apply oI);(iterate 2 exact rfl);intro K hK)|(with_reducible (first|apply wI|apply wJ|apply wK)));try simp only [go_sem,simprocAttr,hb,hv])|fail|(with_reducible (first|apply oC|apply oJ|exact oK|apply wA|apply wB|apply wC hX hC|apply wD hX hC|apply wE hX hC af|apply wF hX hC af|apply wG|apply wH|apply And.intro))|((with_reducible refine oD ?_ ?_);first|fail|kernel_rfl)|((with_reducible (first|apply oE|apply oF));(iterate 3 exact rfl);all_goals (intro h;first|(exact absurd h (by decide))|((try simp only [go_sem,simprocAttr,hb,hv] at h);(try with_reducible intro K hK);simp only [go_sem,simprocAttr,hb,hv])))|((first|((with_reducible apply wL);exact rfl)|((with_reducible apply wM);exact rfl));all_goals (try ((with_reducible intro h);first|(exact absurd h (by decide))|(try simp only [go_sem,simprocAttr,hb,hv] at h))))|omega|((first|(refine az hX hC hP [(10000,33)] (fB (ls.flatten.length:Int) (by omega) (by omega)) rfl rfl rfl ?_ ?_ ?_ ?_ ?_ ?_ ?_ ?_ ?_ ?_ ?_ ?_ ?_ ?_;(focus (simp only [go_sem,simprocAttr,hb,hv];done));(iterate 12 (focus (simp [go_sem,simprocAttr,hb,hv];done)));simp only [go_sem,simprocAttr,hb,hv,List.map_cons,List.map_nil]));try simp only [go_sem,simprocAttr,hb,hv])|(intro h))
   ·refine ⟨k+1,by omega, ?_,by omega⟩
    rw [mD,if_pos (by omega)]
    refine Le.of ?_ ?_<;>simp [go_sem,simprocAttr,hb,hv]
    rfl
   ·refine ⟨k+1,by omega, ?_,by omega⟩
    rw [mD,if_neg (by omega),List.append_nil]
    refine Le.of ?_ ?_<;>simp [go_sem,simprocAttr,hb,hv]
  ·have hb:decide ((k:Int)<(ls.length:Int))=false:=decide_eq_false (by omega)
   obtain rfl:k=ls.length:=by omega
   repeat' (first|fail|((first|((with_reducible (first|apply oA|apply oB));exact rfl;intro K hK)|(refine hK _ ?_;clear hK K)|((with_reducible (first|apply oG|apply oH));iterate 3 exact rfl)|((with_reducible apply oI);(iterate 2 exact rfl);intro K hK)|(with_reducible (first|apply wI|apply wJ|apply wK)));try simp only [go_sem,simprocAttr,hb])|fail|(with_reducible (first|apply oC|apply oJ|exact oK|apply wA|apply wB|apply wC hX hC|apply wD hX hC|apply wE hX hC af|apply wF hX hC af|apply wG|apply wH|apply And.intro))|((with_reducible refine oD ?_ ?_);first|fail|kernel_rfl)|((with_reducible (first|apply oE|apply oF));(iterate 3 exact rfl);all_goals (intro h;first|(exact absurd h (by decide))|((try simp only [go_sem,simprocAttr,hb] at h);(try with_reducible intro K hK);simp only [go_sem,simprocAttr,hb])))|((first|((with_reducible apply wL);exact rfl)|((with_reducible apply wM);exact rfl));all_goals (try ((with_reducible intro h);first|(exact absurd h (by decide))|(try simp only [go_sem,simprocAttr,hb] at h))))|omega|((first|(refine az hX hC hP [(10000,33)] (fB (ls.flatten.length:Int) (by omega) (by omega)) rfl rfl rfl ?_ ?_ ?_ ?_ ?_ ?_ ?_ ?_ ?_ ?_ ?_ ?_ ?_ ?_;(focus (simp only [go_sem,simprocAttr,hb];done));(iterate 12 (focus (simp [go_sem,simprocAttr,hb];done)));simp only [go_sem,simprocAttr,hb,List.map_cons,List.map_nil]));try simp only [go_sem,simprocAttr,hb])|(intro h))
theorem Ca {f:Edge→Int} {g:Gr} :D6 f g=vL (c8 f g):=rfl
theorem gU {f:Edge→Int} {g:Gr} :(c8 f g).length=g.n.toNat:=by simp [c8]
def bJ (f:Edge→Int) (g:Gr):List Int:=iz (c8 f g) g.n.toNat
theorem eA (g:Gr) (hm:aU g=true):Spec Tryz.prog 28 (Args [.d (vw g)]) [] (.d (sI (bJ (·.2) g))) []:=by
 rw [ah]
 have hn:=aZ hm
 have hle:(c8 (·.2) g).length≤1000:=by rw [gU];omega
 (refine Spec.intro (C:=T.cfg [] []) (rs:= [.t 2]) (T.aq _ _) Tryz.func28 rfl rfl Tryz.ntmps28 Tryz.results28 (by simp [AObj.isNest]) (by simp [AObj.isNest]) (by kernel_rfl) ?_;intro X hX hP hC aN aO vals hA;refine ⟨_,by simp,hA, ?_⟩;have af:X.P.follows .mixedOrders=true:=(by rw [hP];exact T.mixed);clear aN aO)
 repeat' (first|fail|((first|((with_reducible (first|apply oA|apply oB));exact rfl;intro K hK)|(refine hK _ ?_;clear hK K)|((with_reducible (first|apply oG|apply oH));iterate 3 exact rfl)|((with_reducible apply oI);(iterate 2 exact rfl);intro K hK)|(with_reducible (first|apply wI|apply wJ|apply wK)));try simp only [go_sem,simprocAttr])|fail|(with_reducible (first|apply oC|apply oJ|exact oK|apply wA|apply wB|apply wC hX hC|apply wD hX hC|apply wE hX hC af|apply wF hX hC af|apply wG|apply wH|apply And.intro))|((with_reducible refine oD ?_ ?_);first|fail|kernel_rfl)|((with_reducible (first|apply oE|apply oF));(iterate 3 exact rfl);all_goals (intro h;first|(exact absurd h (by decide))|((try simp only [go_sem,simprocAttr] at h);(try with_reducible intro K hK);simp only [go_sem,simprocAttr])))|((first|((with_reducible apply wL);exact rfl)|((with_reducible apply wM);exact rfl));all_goals (try ((with_reducible intro h);first|(exact absurd h (by decide))|(try simp only [go_sem,simprocAttr] at h))))|omega|((first|(rw [Ca];refine aa hX hC hP (s8 (c8 (·.2) g) hle) rfl rfl rfl (by simp only [go_sem,simprocAttr]) rfl ?_));try simp only [go_sem,simprocAttr])|(intro h))
 rw [gU];rfl
theorem qZ (g:Gr) (hm:aU g=true):Spec Tryz.prog 29 (Args [.d (vw g)]) [] (.d (sI (bJ (·.1) g))) []:=by
 rw [ah]
 have hn:=aZ hm
 have hle:(c8 (·.1) g).length≤1000:=by rw [gU];omega
 (refine Spec.intro (C:=T.cfg [] []) (rs:= [.t 2]) (T.aq _ _) Tryz.func29 rfl rfl Tryz.ntmps29 Tryz.results29 (by simp [AObj.isNest]) (by simp [AObj.isNest]) (by kernel_rfl) ?_;intro X hX hP hC aN aO vals hA;refine ⟨_,by simp,hA, ?_⟩;have af:X.P.follows .mixedOrders=true:=(by rw [hP];exact T.mixed);clear aN aO)
 repeat' (first|fail|((first|((with_reducible (first|apply oA|apply oB));exact rfl;intro K hK)|(refine hK _ ?_;clear hK K)|((with_reducible (first|apply oG|apply oH));iterate 3 exact rfl)|((with_reducible apply oI);(iterate 2 exact rfl);intro K hK)|(with_reducible (first|apply wI|apply wJ|apply wK)));try simp only [go_sem,simprocAttr])|fail|(with_reducible (first|apply oC|apply oJ|exact oK|apply wA|apply wB|apply wC hX hC|apply wD hX hC|apply wE hX hC af|apply wF hX hC af|apply wG|apply wH|apply And.intro))|((with_reducible refine oD ?_ ?_);first|fail|kernel_rfl)|((with_reducible (first|apply oE|apply oF));(iterate 3 exact rfl);all_goals (intro h;first|(exact absurd h (by decide))|((try simp only [go_sem,simprocAttr] at h);(try with_reducible intro K hK);simp only [go_sem,simprocAttr])))|((first|((with_reducible apply wL);exact rfl)|((with_reducible apply wM);exact rfl));all_goals (try ((with_reducible intro h);first|(exact absurd h (by decide))|(try simp only [go_sem,simprocAttr] at h))))|omega|((first|(rw [Ca];refine aa hX hC hP (s8 (c8 (·.1) g) hle) rfl rfl rfl (by simp only [go_sem,simprocAttr]) rfl ?_));try simp only [go_sem,simprocAttr])|(intro h))
 rw [gU];rfl
end Go.Ab
end
section
namespace Go.Ab
open Go.Proofs
attribute [local congr] ACall.congr
set_option maxRecDepth 10000
def fC (g:Gr) (ws:List Int) (b:Int) (e:Int):Int:=if 0<ws.getD (tl g e.toNat).toNat 0∧(b<0∨tl g e.toNat<b) then tl g e.toNat else b
theorem Cb (g:Gr) (ws:List Int) (b:Int) (i:Nat):fC g ws b (i:Int)=if 0<ws.getD (g.es.getD i (0,0)).1.toNat 0∧(b<0∨(g.es.getD i (0,0)).1<b) then (g.es.getD i (0,0)).1 else b:=rfl
def s9 (g:Gr) (ws:List Int) (es:List Int):Int:=es.foldl (fC g ws) (-1)
def iU (g:Gr) (ws:List Int) (at_:Int):Int:=s9 g ws (ow g at_.toNat)
def j7 (g:Gr) (ws:List Int):Nat→List Int→Int→List Int × Int
 |0,way,at_=>(way,at_)
 |f+1,way,at_=>if at_<0∨at_∈way then (way,at_) else j7 g ws f (way++ [at_]) (iU g ws at_)
def jD (g:Gr):List Int × Int:=j7 g (cB g (aI g)) g.n.toNat [] (bU (fun n=>decide (0<n)) (cB g (aI g)))
def kC (l:List Int):List Int:=l.drop (dB l (gT l)).toNat++l.take (dB l (gT l)).toNat
def jE (g:Gr):List Int:=if (jD g).2<0 then [] else kC ((jD g).1.drop (dB (jD g).1 (jD g).2).toNat).reverse
theorem ia (n:Int):Spec Tryz.prog 122 (Args [eN n]) [] (eB (decide (0<n))) []:=by
 (refine Spec.intro (C:=T.cfg [] []) (rs:= [.t 2]) (T.aq _ _) Tryz.func122 rfl rfl Tryz.ntmps122 Tryz.results122 (by simp [AObj.isNest]) (by simp [AObj.isNest]) (by kernel_rfl) ?_;intro X hX hP hC aN aO vals hA;refine ⟨_,by simp,hA, ?_⟩;have af:X.P.follows .mixedOrders=true:=(by rw [hP];exact T.mixed);clear aN aO)
 repeat' (first|fail|((first|((with_reducible (first|apply oA|apply oB));exact rfl;intro K hK)|(refine hK _ ?_;clear hK K)|((with_reducible (first|apply oG|apply oH));iterate 3 exact rfl)|((with_reducible apply oI);(iterate 2 exact rfl);intro K hK)|(with_reducible (first|apply wI|apply wJ|apply wK)));try simp only [go_sem,simprocAttr])|fail|(with_reducible (first|apply oC|apply oJ|exact oK|apply wA|apply wB|apply wC hX hC|apply wD hX hC|apply wE hX hC af|apply wF hX hC af|apply wG|apply wH|apply And.intro))|((with_reducible refine oD ?_ ?_);first|fail|kernel_rfl)|((with_reducible (first|apply oE|apply oF));(iterate 3 exact rfl);all_goals (intro h;first|(exact absurd h (by decide))|((try simp only [go_sem,simprocAttr] at h);(try with_reducible intro K hK);simp only [go_sem,simprocAttr])))|((first|((with_reducible apply wL);exact rfl)|((with_reducible apply wM);exact rfl));all_goals (try ((with_reducible intro h);first|(exact absurd h (by decide))|(try simp only [go_sem,simprocAttr] at h))))|omega|((first|fail);try simp only [go_sem,simprocAttr])|(intro h))
structure Way (g:Gr) (way:List Int):Prop where
 lo:∀x∈way,0≤x∧x<g.n
 fuel:way.length+left g way=g.n.toNat
theorem nE {g:Gr} :left g []=g.n.toNat:=by
 have:=(eO.nil g).fuel
 rw [List.length_nil,Nat.zero_add] at this
 exact this
theorem iA {g:Gr} {way:List Int} {a:Nat} (ha:a<g.n.toNat) (hn:(a:Int)∉way):left g way=left g (way++ [(a:Int)])+1:=by
 unfold left
 rw [← kZ (p:=fun y:Nat=> !decide ((y:Int)∈way)) (x:=a) (by simp [hn]) ha]
 congr 1
 refine List.countP_congr fun y _=> ?_
 simp;omega
theorem Way.nil (g:Gr):Way g []:=⟨by simp,by rw [nE];simp⟩
theorem Way.next {g:Gr} {way:List Int} {a:Nat} (h:Way g way) (ha:a<g.n.toNat) (hn:(a:Int)∉way):Way g (way++ [(a:Int)]):=by
 refine ⟨fun x hx=> ?_, ?_⟩
 ·rcases List.mem_append.1 hx with hx|hx
  ·exact h.lo x hx
  ·simp at hx;omega
 ·have h1:=h.fuel
  have h2:=iA ha hn
  rw [List.length_append,List.length_singleton];omega
theorem uG {g:Gr} {x:Nat} {e:Int} (h:e∈ow g x):∃i:Nat,e=i∧i<g.es.length∧hd g i=x:=by
 simp only [ow,fA,List.mem_map,List.mem_filter,List.mem_range,decide_eq_true_eq] at h
 obtain ⟨i,⟨h1,h2⟩,rfl⟩:=h
 exact ⟨i,rfl,h1,h2⟩
theorem zY {α β:Type} {f:β→α→β} {b:β} {l:List α} {j:Nat} {x:α} (h:l[j]? =some x):(l.take (j+1)).foldl f b=f ((l.take j).foldl f b) x:=by
 rw [List.take_add_one,List.foldl_append,h];rfl
theorem pg {g:Gr} (hm:aU g=true) (ws:List Int):∀(l:List Int) (b:Int),(b= -1∨(0≤b∧b<g.n))→(∀e∈l,∃i:Nat,e=i∧i<g.es.length)→l.foldl (fC g ws) b= -1∨(0≤l.foldl (fC g ws) b∧l.foldl (fC g ws) b<g.n)
 | [],b,hb,_=>hb
 |e::l,b,hb,h=>by
  refine pg hm ws l _ ?_ fun e he=>h e (List.mem_cons_of_mem _ he)
  obtain ⟨i,rfl,hi⟩:=h e List.mem_cons_self
  obtain ⟨⟨h1,h2⟩,_⟩:=gj hm hi
  unfold fC
  split
  ·exact .inr ⟨h1,h2⟩
  ·exact hb
theorem Cc {g:Gr} {x:Nat} :∀e∈ow g x,∃i:Nat,e=i∧i<g.es.length:=fun e he=>by
 obtain ⟨i,h1,h2,_⟩:=uG he;exact ⟨i,h1,h2⟩
theorem jF {g:Gr} {ws way:List Int} {a:Int} (h:a<0∨a∈way):∀f,j7 g ws f way a=(way,a)
 |0=>rfl
 |f+1=>by simp only [j7];rw [if_pos h]
theorem dr {l:List Int} {x:Int} (h:x∈l):∃k:Nat,dB l x=k∧k<l.length∧l.getD k 0=x:=by
 rcases fk (f:=fun y:Int=>decide (x=y)) (l:=l) 0 with ⟨h1,h2⟩|⟨k,h1,h2,h3,_⟩
 ·exact absurd (h2 x h) (by simp)
 ·exact ⟨k,h1,h2,(of_decide_eq_true h3).symm⟩
theorem iB:∀ {l:List Int},0<l.length→gT l∈l
 |a::r,_=>by
  have:∀(r:List Int) (a:Int),r.foldl min a=a∨r.foldl min a∈r:=by
   intro r
   induction r with
   |nil=>intro a;exact .inl rfl
   |cons b r ih=>
    intro a
    simp only [List.foldl_cons]
    rcases ih (min a b) with h|h
    ·by_cases hab:a≤b
     ·left;rw [h];omega
     ·right;rw [h];simp;omega
    ·right;simp [h]
  rcases this r a with h|h
  ·simp [gT,h]
  ·simp [gT,h]
theorem iC (g:Gr) (hm:aU g=true):Spec Tryz.prog 103 (Args [.d (vw g)]) [] (.d (sI (jE g))) []:=by
 have hn:=aZ hm
 have yL:(cB g (aI g)).length≤9223372036854775807:=by rw [wts_length];omega
 (refine Spec.intro (C:=T.cfg [30] []) (rs:= [.t 2]) (T.aq _ _) Tryz.func103 rfl rfl Tryz.ntmps103 Tryz.results103 (by simp [AObj.isNest]) (by simp [AObj.isNest]) (by kernel_rfl) ?_;intro X hX hP hC aN aO vals hA;refine ⟨_,by simp,hA, ?_⟩;have af:X.P.follows .mixedOrders=true:=(by rw [hP];exact T.mixed);clear aN aO)
 repeat' (first|fail|((first|((with_reducible (first|apply oA|apply oB));exact rfl;intro K hK)|(refine hK _ ?_;clear hK K)|((with_reducible (first|apply oG|apply oH));iterate 3 exact rfl)|((with_reducible apply oI);(iterate 2 exact rfl);intro K hK)|(with_reducible (first|apply wI|apply wJ|apply wK)));try simp only [go_sem,simprocAttr])|fail|(with_reducible (first|apply oC|apply oJ|exact oK|apply wA|apply wB|apply wC hX hC|apply wD hX hC|apply wE hX hC af|apply wF hX hC af|apply wG|apply wH|apply And.intro))|((with_reducible refine oD ?_ ?_);first|fail|kernel_rfl)|((with_reducible (first|apply oE|apply oF));(iterate 3 exact rfl);all_goals (intro h;first|(exact absurd h (by decide))|((try simp only [go_sem,simprocAttr] at h);(try with_reducible intro K hK);simp only [go_sem,simprocAttr])))|((first|((with_reducible apply wL);exact rfl)|((with_reducible apply wM);exact rfl));all_goals (try ((with_reducible intro h);first|(exact absurd h (by decide))|(try simp only [go_sem,simprocAttr] at h))))|omega|((first|first|refine aa hX hC hP (jA g hm) rfl rfl rfl (by simp only [go_sem,simprocAttr]) rfl ?_|refine aa hX hC hP (cL bz.nil _ [] _ ia (cB g (aI g)) yL) rfl rfl rfl (by simp only [go_sem,simprocAttr]) rfl ?_|(refine ai hX hC hP (bn way a bV) rfl rfl rfl ?_ ?_ ?_ ?_;iterate 3 (focus (simp only [go_sem,simprocAttr];done)))|(refine ai hX hC hP (aP way a bV) rfl rfl rfl ?_ ?_ ?_ ?_;iterate 3 (focus (simp only [go_sem,simprocAttr];done)))|(refine az hX hC hP [(10000,75)] (ez (way.drop k) hlr) rfl rfl rfl ?_ ?_ ?_ ?_ ?_ ?_ ?_ ?_ ?_ ?_ ?_ ?_ ?_ ?_;(focus (simp only [go_sem,simprocAttr];done));(iterate 12 (focus (simp [go_sem,simprocAttr];done)));simp only [go_sem,simprocAttr,List.map_cons,List.map_nil])|(refine ai hX hC hP (jC rev q6 hrev) rfl rfl rfl ?_ ?_ ?_ ?_;iterate 3 (focus (simp only [go_sem,simprocAttr];done)))|(refine ai hX hC hP (aP rev (gT rev) ta) rfl rfl rfl ?_ ?_ ?_ ?_;iterate 3 (focus (simp only [go_sem,simprocAttr];done)))|(refine bM hX hC hP (ee [rev.drop k2,rev.take k2] hc1 EN Gi) rfl rfl rfl ?_ ?_ rfl ?_;iterate 2 (focus (simp only [go_sem,simprocAttr];done))));try simp only [go_sem,simprocAttr])|(intro h))
 (refine j4 hX 6 30 (.own 3 1 []) (by simp only [go_sem,simprocAttr]) (by simp only [go_sem,simprocAttr]) (by decide) ⟨3,1,by decide, .inl rfl⟩ ?_;simp only [go_sem,simprocAttr])
 refine ak (fun i:List Int × Int=>Way g i.1∧(i.2= -1∨(0≤i.2∧i.2<g.n))∧j7 g (cB g (aI g)) (left g i.1) i.1 i.2=jD g) (fun i=>⟨[(0, .d (vw g)),(4, .d (sI (cB g (aI g)))),(5,eN i.2),(6, .ref 30)], [(30, .own 3 1 (i.1.map rI))]⟩) (fun i=>left g i.1) ([],bU (fun n=>decide (0<n)) (cB g (aI g))) ⟨Way.nil g, ?_, ?_⟩ ?_ ?_
 ·rcases v7 (fun n:Int=>decide (0<n)) (cB g (aI g)) with h|h
  ·exact .inl h
  ·rw [wts_length] at h;exact .inr (by simp only;omega)
 ·rw [nE];rfl
 ·(refine Le.of ?_ ?_<;>simp [go_sem,simprocAttr])
 rintro ⟨way,at_⟩ ⟨wk,D8,hrun⟩
 simp only at wk D8 hrun ⊢
 have N6:way.length≤64:=by have:=wk.fuel;omega
 have bV:way.length≤9223372036854775807:=by omega
 by_cases h0:at_<0
 ·have an:decide (0≤at_)=false:=decide_eq_false (by omega)
  have bt:decide (at_<0)=true:=decide_eq_true h0
  have he:jE g= []:=by
   have:=jF (g:=g) (ws:=cB g (aI g)) (way:=way) (.inl h0) (left g way)
   rw [hrun] at this
   simp only [jE,this];rw [if_pos h0]
  repeat' (first|fail|((first|((with_reducible (first|apply oA|apply oB));exact rfl;intro K hK)|(refine hK _ ?_;clear hK K)|((with_reducible (first|apply oG|apply oH));iterate 3 exact rfl)|((with_reducible apply oI);(iterate 2 exact rfl);intro K hK)|(with_reducible (first|apply wI|apply wJ|apply wK)));try simp only [go_sem,simprocAttr,an,bt])|fail|(with_reducible (first|apply oC|apply oJ|exact oK|apply wA|apply wB|apply wC hX hC|apply wD hX hC|apply wE hX hC af|apply wF hX hC af|apply wG|apply wH|apply And.intro))|((with_reducible refine oD ?_ ?_);first|fail|kernel_rfl)|((with_reducible (first|apply oE|apply oF));(iterate 3 exact rfl);all_goals (intro h;first|(exact absurd h (by decide))|((try simp only [go_sem,simprocAttr,an,bt] at h);(try with_reducible intro K hK);simp only [go_sem,simprocAttr,an,bt])))|((first|((with_reducible apply wL);exact rfl)|((with_reducible apply wM);exact rfl));all_goals (try ((with_reducible intro h);first|(exact absurd h (by decide))|(try simp only [go_sem,simprocAttr,an,bt] at h))))|omega|((first|first|refine aa hX hC hP (jA g hm) rfl rfl rfl (by simp only [go_sem,simprocAttr,an,bt]) rfl ?_|refine aa hX hC hP (cL bz.nil _ [] _ ia (cB g (aI g)) yL) rfl rfl rfl (by simp only [go_sem,simprocAttr,an,bt]) rfl ?_|(refine ai hX hC hP (bn way a bV) rfl rfl rfl ?_ ?_ ?_ ?_;iterate 3 (focus (simp only [go_sem,simprocAttr,an,bt];done)))|(refine ai hX hC hP (aP way a bV) rfl rfl rfl ?_ ?_ ?_ ?_;iterate 3 (focus (simp only [go_sem,simprocAttr,an,bt];done)))|(refine az hX hC hP [(10000,75)] (ez (way.drop k) hlr) rfl rfl rfl ?_ ?_ ?_ ?_ ?_ ?_ ?_ ?_ ?_ ?_ ?_ ?_ ?_ ?_;(focus (simp only [go_sem,simprocAttr,an,bt];done));(iterate 12 (focus (simp [go_sem,simprocAttr,an,bt];done)));simp only [go_sem,simprocAttr,an,bt,List.map_cons,List.map_nil])|(refine ai hX hC hP (jC rev q6 hrev) rfl rfl rfl ?_ ?_ ?_ ?_;iterate 3 (focus (simp only [go_sem,simprocAttr,an,bt];done)))|(refine ai hX hC hP (aP rev (gT rev) ta) rfl rfl rfl ?_ ?_ ?_ ?_;iterate 3 (focus (simp only [go_sem,simprocAttr,an,bt];done)))|(refine bM hX hC hP (ee [rev.drop k2,rev.take k2] hc1 EN Gi) rfl rfl rfl ?_ ?_ rfl ?_;iterate 2 (focus (simp only [go_sem,simprocAttr,an,bt];done))));try simp only [go_sem,simprocAttr,an,bt])|(intro h))
  rw [he];rfl
 obtain ⟨a,rfl⟩:∃a:Nat,at_=a:=⟨at_.toNat,by omega⟩
 have EO:a<g.n.toNat:=by omega
 have an:decide (0≤(a:Int))=true:=decide_eq_true (by omega)
 by_cases hmem:(a:Int)∈way
 ·have aj:decide ((a:Int)∈way)=true:=decide_eq_true hmem
  have bt:decide ((a:Int)<0)=false:=decide_eq_false h0
  have hend:=jF (g:=g) (ws:=cB g (aI g)) (.inr hmem) (left g way)
  rw [hrun] at hend
  obtain ⟨k,hk,cu,_⟩:=dr hmem
  obtain ⟨rev,fY⟩:∃rev,rev=(way.drop k).reverse:=⟨_,rfl⟩
  have hrl:rev.length=way.length - k:=by rw [fY];simp
  have q6:0<rev.length:=by omega
  have hrev:rev.length≤1000000:=by omega
  have ta:rev.length≤9223372036854775807:=by omega
  have hlr:(way.drop k).length≤1000000:=by simp;omega
  obtain ⟨k2,hk2,N7,_⟩:=dr (iB q6)
  have hc1: [rev.drop k2,rev.take k2].length≤1000:=by simp
  have EN:0< [rev.drop k2,rev.take k2].flatten.length:=by simp;omega
  have Gi: [rev.drop k2,rev.take k2].flatten.length≤1000000:=by simp;omega
  have FE:jE g= [rev.drop k2,rev.take k2].flatten:=by
   simp only [jE,hend]
   rw [if_neg h0,hk]
   simp only [Int.toNat_natCast, ← fY,kC,hk2,List.flatten_cons,List.flatten_nil,List.append_nil]
  repeat' (first|fail|((first|((with_reducible (first|apply oA|apply oB));exact rfl;intro K hK)|(refine hK _ ?_;clear hK K)|((with_reducible (first|apply oG|apply oH));iterate 3 exact rfl)|((with_reducible apply oI);(iterate 2 exact rfl);intro K hK)|(with_reducible (first|apply wI|apply wJ|apply wK)));try simp only [go_sem,simprocAttr,an,aj,bt,hk,hk2, ← List.map_take, ← List.map_drop,List.take_length, ← fY,vL])|(show cH _ (.seq (.region 20 _ _) _) _ _;(refine dI hX 75 rfl (.inr rfl) ?_;simp only [go_sem,simprocAttr,an,aj,bt,hk,hk2, ← List.map_take, ← List.map_drop,List.take_length, ← fY,vL]))|(with_reducible (first|apply oC|apply oJ|exact oK|apply wA|apply wB|apply wC hX hC|apply wD hX hC|apply wE hX hC af|apply wF hX hC af|apply wG|apply wH|apply And.intro))|((with_reducible refine oD ?_ ?_);first|fail|kernel_rfl)|((with_reducible (first|apply oE|apply oF));(iterate 3 exact rfl);all_goals (intro h;first|(exact absurd h (by decide))|((try simp only [go_sem,simprocAttr,an,aj,bt,hk,hk2, ← List.map_take, ← List.map_drop,List.take_length, ← fY,vL] at h);(try with_reducible intro K hK);simp only [go_sem,simprocAttr,an,aj,bt,hk,hk2, ← List.map_take, ← List.map_drop,List.take_length, ← fY,vL])))|((first|((with_reducible apply wL);exact rfl)|((with_reducible apply wM);exact rfl));all_goals (try ((with_reducible intro h);first|(exact absurd h (by decide))|(try simp only [go_sem,simprocAttr,an,aj,bt,hk,hk2, ← List.map_take, ← List.map_drop,List.take_length, ← fY,vL] at h))))|omega|((first|first|refine aa hX hC hP (jA g hm) rfl rfl rfl (by simp only [go_sem,simprocAttr,an,aj,bt,hk,hk2, ← List.map_take, ← List.map_drop,List.take_length, ← fY,vL]) rfl ?_|refine aa hX hC hP (cL bz.nil _ [] _ ia (cB g (aI g)) yL) rfl rfl rfl (by simp only [go_sem,simprocAttr,an,aj,bt,hk,hk2, ← List.map_take, ← List.map_drop,List.take_length, ← fY,vL]) rfl ?_|(refine ai hX hC hP (bn way a bV) rfl rfl rfl ?_ ?_ ?_ ?_;iterate 3 (focus (simp only [go_sem,simprocAttr,an,aj,bt,hk,hk2, ← List.map_take, ← List.map_drop,List.take_length, ← fY,vL];done)))|(refine ai hX hC hP (aP way a bV) rfl rfl rfl ?_ ?_ ?_ ?_;iterate 3 (focus (simp only [go_sem,simprocAttr,an,aj,bt,hk,hk2, ← List.map_take, ← List.map_drop,List.take_length, ← fY,vL];done)))|(refine az hX hC hP [(10000,75)] (ez (way.drop k) hlr) rfl rfl rfl ?_ ?_ ?_ ?_ ?_ ?_ ?_ ?_ ?_ ?_ ?_ ?_ ?_ ?_;(focus (simp only [go_sem,simprocAttr,an,aj,bt,hk,hk2, ← List.map_take, ← List.map_drop,List.take_length, ← fY,vL];done));(iterate 12 (focus (simp [go_sem,simprocAttr,an,aj,bt,hk,hk2, ← List.map_take, ← List.map_drop,List.take_length, ← fY,vL];done)));simp only [go_sem,simprocAttr,an,aj,bt,hk,hk2, ← List.map_take, ← List.map_drop,List.take_length, ← fY,vL,List.map_cons,List.map_nil])|(refine ai hX hC hP (jC rev q6 hrev) rfl rfl rfl ?_ ?_ ?_ ?_;iterate 3 (focus (simp only [go_sem,simprocAttr,an,aj,bt,hk,hk2, ← List.map_take, ← List.map_drop,List.take_length, ← fY,vL];done)))|(refine ai hX hC hP (aP rev (gT rev) ta) rfl rfl rfl ?_ ?_ ?_ ?_;iterate 3 (focus (simp only [go_sem,simprocAttr,an,aj,bt,hk,hk2, ← List.map_take, ← List.map_drop,List.take_length, ← fY,vL];done)))|(refine bM hX hC hP (ee [rev.drop k2,rev.take k2] hc1 EN Gi) rfl rfl rfl ?_ ?_ rfl ?_;iterate 2 (focus (simp only [go_sem,simprocAttr,an,aj,bt,hk,hk2, ← List.map_take, ← List.map_drop,List.take_length, ← fY,vL];done))));try simp only [go_sem,simprocAttr,an,aj,bt,hk,hk2, ← List.map_take, ← List.map_drop,List.take_length, ← fY,vL])|(intro h))
  rw [FE]
 ·have aj:decide ((a:Int)∈way)=false:=decide_eq_false hmem
  have hv:=nw (f:=(·.2)) EO
  have D5:(ow g a).length≤g.es.length:=hU
  repeat' (first|fail|((first|((with_reducible (first|apply oA|apply oB));exact rfl;intro K hK)|(refine hK _ ?_;clear hK K)|((with_reducible (first|apply oG|apply oH));iterate 3 exact rfl)|((with_reducible apply oI);(iterate 2 exact rfl);intro K hK)|(with_reducible (first|apply wI|apply wJ|apply wK)));try simp only [go_sem,simprocAttr,an,aj,hv,ah])|fail|(with_reducible (first|apply oC|apply oJ|exact oK|apply wA|apply wB|apply wC hX hC|apply wD hX hC|apply wE hX hC af|apply wF hX hC af|apply wG|apply wH|apply And.intro))|((with_reducible refine oD ?_ ?_);first|fail|kernel_rfl)|((with_reducible (first|apply oE|apply oF));(iterate 3 exact rfl);all_goals (intro h;first|(exact absurd h (by decide))|((try simp only [go_sem,simprocAttr,an,aj,hv,ah] at h);(try with_reducible intro K hK);simp only [go_sem,simprocAttr,an,aj,hv,ah])))|((first|((with_reducible apply wL);exact rfl)|((with_reducible apply wM);exact rfl));all_goals (try ((with_reducible intro h);first|(exact absurd h (by decide))|(try simp only [go_sem,simprocAttr,an,aj,hv,ah] at h))))|omega|((first|first|refine aa hX hC hP (jA g hm) rfl rfl rfl (by simp only [go_sem,simprocAttr,an,aj,hv,ah]) rfl ?_|refine aa hX hC hP (cL bz.nil _ [] _ ia (cB g (aI g)) yL) rfl rfl rfl (by simp only [go_sem,simprocAttr,an,aj,hv,ah]) rfl ?_|(refine ai hX hC hP (bn way a bV) rfl rfl rfl ?_ ?_ ?_ ?_;iterate 3 (focus (simp only [go_sem,simprocAttr,an,aj,hv,ah];done)))|(refine ai hX hC hP (aP way a bV) rfl rfl rfl ?_ ?_ ?_ ?_;iterate 3 (focus (simp only [go_sem,simprocAttr,an,aj,hv,ah];done)))|(refine az hX hC hP [(10000,75)] (ez (way.drop k) hlr) rfl rfl rfl ?_ ?_ ?_ ?_ ?_ ?_ ?_ ?_ ?_ ?_ ?_ ?_ ?_ ?_;(focus (simp only [go_sem,simprocAttr,an,aj,hv,ah];done));(iterate 12 (focus (simp [go_sem,simprocAttr,an,aj,hv,ah];done)));simp only [go_sem,simprocAttr,an,aj,hv,ah,List.map_cons,List.map_nil])|(refine ai hX hC hP (jC rev q6 hrev) rfl rfl rfl ?_ ?_ ?_ ?_;iterate 3 (focus (simp only [go_sem,simprocAttr,an,aj,hv,ah];done)))|(refine ai hX hC hP (aP rev (gT rev) ta) rfl rfl rfl ?_ ?_ ?_ ?_;iterate 3 (focus (simp only [go_sem,simprocAttr,an,aj,hv,ah];done)))|(refine bM hX hC hP (ee [rev.drop k2,rev.take k2] hc1 EN Gi) rfl rfl rfl ?_ ?_ rfl ?_;iterate 2 (focus (simp only [go_sem,simprocAttr,an,aj,hv,ah];done))));try simp only [go_sem,simprocAttr,an,aj,hv,ah])|(intro h))
  refine ak (fun j:Nat=>j≤(ow g a).length) (fun j=>⟨[(39,eN j),(38,eN (ow g a).length),(37, .d (sI (ow g a))),(7,eN (s9 g (cB g (aI g)) ((ow g a).take j))),(0, .d (Gh g)),(4, .d (sI (cB g (aI g)))),(6, .ref 30)], [(30, .own 3 1 ((way++ [(a:Int)]).map rI))]⟩) (fun j=>(ow g a).length - j) 0 (by simp) ?_ ?_
  ·refine Le.of ?_ ?_<;>simp [go_sem,simprocAttr,an,aj,hv,ah,ow,rI,s9]
  rintro j hj
  rcases Nat.lt_or_ge j (ow g a).length with hlt|hge
  ·have hb4:decide ((j:Int)<((ow g a).length:Int))=true:=decide_eq_true (by omega)
   obtain ⟨i,hi,hil,hit⟩:=uG (List.getElem_mem hlt)
   have hi1:(ow g a)[j]? =some (i:Int):=by rw [List.getElem?_eq_getElem hlt,hi]
   have hi2:(ow g a).getD j 0=(i:Int):=by rw [List.getD_eq_getElem?_getD,hi1];rfl
   obtain ⟨⟨D7,mZ⟩,_⟩:=gj hm hil
   have hstep:s9 g (cB g (aI g)) ((ow g a).take (j+1))=fC g (cB g (aI g)) (s9 g (cB g (aI g)) ((ow g a).take j)) i:=zY hi1
   rw [Cb] at hstep
   repeat' (first|fail|((first|((with_reducible (first|apply oA|apply oB));exact rfl;intro K hK)|(refine hK _ ?_;clear hK K)|((with_reducible (first|apply oG|apply oH));iterate 3 exact rfl)|((with_reducible apply oI);(iterate 2 exact rfl);intro K hK)|(with_reducible (first|apply wI|apply wJ|apply wK)));try simp only [go_sem,simprocAttr,hb4,hi2,wts_length])|fail|(with_reducible (first|apply oC|apply oJ|exact oK|apply wA|apply wB|apply wC hX hC|apply wD hX hC|apply wE hX hC af|apply wF hX hC af|apply wG|apply wH|apply And.intro))|((with_reducible refine oD ?_ ?_);first|fail|kernel_rfl)|((with_reducible (first|apply oE|apply oF));(iterate 3 exact rfl);all_goals (intro h;first|(exact absurd h (by decide))|((try simp only [go_sem,simprocAttr,hb4,hi2,wts_length] at h);(try with_reducible intro K hK);simp only [go_sem,simprocAttr,hb4,hi2,wts_length])))|((first|((with_reducible apply wL);exact rfl)|((with_reducible apply wM);exact rfl));all_goals (try ((with_reducible intro h);first|(exact absurd h (by decide))|(try simp only [go_sem,simprocAttr,hb4,hi2,wts_length] at h))))|omega|((first|first|refine aa hX hC hP (jA g hm) rfl rfl rfl (by simp only [go_sem,simprocAttr,hb4,hi2,wts_length]) rfl ?_|refine aa hX hC hP (cL bz.nil _ [] _ ia (cB g (aI g)) yL) rfl rfl rfl (by simp only [go_sem,simprocAttr,hb4,hi2,wts_length]) rfl ?_|(refine ai hX hC hP (bn way a bV) rfl rfl rfl ?_ ?_ ?_ ?_;iterate 3 (focus (simp only [go_sem,simprocAttr,hb4,hi2,wts_length];done)))|(refine ai hX hC hP (aP way a bV) rfl rfl rfl ?_ ?_ ?_ ?_;iterate 3 (focus (simp only [go_sem,simprocAttr,hb4,hi2,wts_length];done)))|(refine az hX hC hP [(10000,75)] (ez (way.drop k) hlr) rfl rfl rfl ?_ ?_ ?_ ?_ ?_ ?_ ?_ ?_ ?_ ?_ ?_ ?_ ?_ ?_;(focus (simp only [go_sem,simprocAttr,hb4,hi2,wts_length];done));(iterate 12 (focus (simp [go_sem,simprocAttr,hb4,hi2,wts_length];done)));simp only [go_sem,simprocAttr,hb4,hi2,wts_length,List.map_cons,List.map_nil])|(refine ai hX hC hP (jC rev q6 hrev) rfl rfl rfl ?_ ?_ ?_ ?_;iterate 3 (focus (simp only [go_sem,simprocAttr,hb4,hi2,wts_length];done)))|(refine ai hX hC hP (aP rev (gT rev) ta) rfl rfl rfl ?_ ?_ ?_ ?_;iterate 3 (focus (simp only [go_sem,simprocAttr,hb4,hi2,wts_length];done)))|(refine bM hX hC hP (ee [rev.drop k2,rev.take k2] hc1 EN Gi) rfl rfl rfl ?_ ?_ rfl ?_;iterate 2 (focus (simp only [go_sem,simprocAttr,hb4,hi2,wts_length];done))));try simp only [go_sem,simprocAttr,hb4,hi2,wts_length])|(intro h))
   all_goals (refine ⟨j+1,by omega, ?_,by omega⟩;first|rw [if_pos (by omega)] at hstep|rw [if_neg (by omega)] at hstep)
   all_goals (refine Le.of ?_ ?_<;>simp [go_sem,simprocAttr,hb4,hi2,wts_length,hstep])
  ·have hb4:decide ((j:Int)<((ow g a).length:Int))=false:=decide_eq_false (by omega)
   have ht:(ow g a).take j=ow g a:=List.take_of_length_le (by omega)
   repeat' (first|fail|((first|((with_reducible (first|apply oA|apply oB));exact rfl;intro K hK)|(refine hK _ ?_;clear hK K)|((with_reducible (first|apply oG|apply oH));iterate 3 exact rfl)|((with_reducible apply oI);(iterate 2 exact rfl);intro K hK)|(with_reducible (first|apply wI|apply wJ|apply wK)));try simp only [go_sem,simprocAttr,hb4,ht])|fail|(with_reducible (first|apply oC|apply oJ|exact oK|apply wA|apply wB|apply wC hX hC|apply wD hX hC|apply wE hX hC af|apply wF hX hC af|apply wG|apply wH|apply And.intro))|((with_reducible refine oD ?_ ?_);first|fail|kernel_rfl)|((with_reducible (first|apply oE|apply oF));(iterate 3 exact rfl);all_goals (intro h;first|(exact absurd h (by decide))|((try simp only [go_sem,simprocAttr,hb4,ht] at h);(try with_reducible intro K hK);simp only [go_sem,simprocAttr,hb4,ht])))|((first|((with_reducible apply wL);exact rfl)|((with_reducible apply wM);exact rfl));all_goals (try ((with_reducible intro h);first|(exact absurd h (by decide))|(try simp only [go_sem,simprocAttr,hb4,ht] at h))))|omega|((first|first|refine aa hX hC hP (jA g hm) rfl rfl rfl (by simp only [go_sem,simprocAttr,hb4,ht]) rfl ?_|refine aa hX hC hP (cL bz.nil _ [] _ ia (cB g (aI g)) yL) rfl rfl rfl (by simp only [go_sem,simprocAttr,hb4,ht]) rfl ?_|(refine ai hX hC hP (bn way a bV) rfl rfl rfl ?_ ?_ ?_ ?_;iterate 3 (focus (simp only [go_sem,simprocAttr,hb4,ht];done)))|(refine ai hX hC hP (aP way a bV) rfl rfl rfl ?_ ?_ ?_ ?_;iterate 3 (focus (simp only [go_sem,simprocAttr,hb4,ht];done)))|(refine az hX hC hP [(10000,75)] (ez (way.drop k) hlr) rfl rfl rfl ?_ ?_ ?_ ?_ ?_ ?_ ?_ ?_ ?_ ?_ ?_ ?_ ?_ ?_;(focus (simp only [go_sem,simprocAttr,hb4,ht];done));(iterate 12 (focus (simp [go_sem,simprocAttr,hb4,ht];done)));simp only [go_sem,simprocAttr,hb4,ht,List.map_cons,List.map_nil])|(refine ai hX hC hP (jC rev q6 hrev) rfl rfl rfl ?_ ?_ ?_ ?_;iterate 3 (focus (simp only [go_sem,simprocAttr,hb4,ht];done)))|(refine ai hX hC hP (aP rev (gT rev) ta) rfl rfl rfl ?_ ?_ ?_ ?_;iterate 3 (focus (simp only [go_sem,simprocAttr,hb4,ht];done)))|(refine bM hX hC hP (ee [rev.drop k2,rev.take k2] hc1 EN Gi) rfl rfl rfl ?_ ?_ rfl ?_;iterate 2 (focus (simp only [go_sem,simprocAttr,hb4,ht];done))));try simp only [go_sem,simprocAttr,hb4,ht])|(intro h))
   refine ⟨(way++ [(a:Int)],iU g (cB g (aI g)) a),⟨wk.next EO hmem,pg hm _ _ _ (.inl rfl) Cc, ?_⟩, ?_, ?_⟩
   ·simp only
    rw [← hrun,iA EO hmem]
    simp only [j7]
    rw [if_neg (by intro h;rcases h with h|h;omega;exact hmem h)]
   ·refine Le.of ?_ ?_<;>simp [go_sem,simprocAttr,hb4,ht,iU]
   ·have:=iA EO hmem;simp only;omega
end Go.Ab
end
section
namespace Go.Ab
open Go.Proofs
attribute [local congr] ACall.congr
set_option maxRecDepth 10000
def eF (f:Int × Int × List Int):AV:= .agg [eN f.1,eN f.2.1, .d (sI f.2.2)]
attribute [go_sem] eF
def jG (g:Gr):Int:=bU (fun e:Edge=>decide (e.1=e.2)) g.es
def mE (g:Gr) (i:Nat):Bool:=decide (g.es.getD i (0,0)∈g.es.take i)
def fm (g:Gr):Int:=bU (mE g) (List.range g.es.length)
def gO (g:Gr) (MQ bare:List Int):Int × Int × List Int:=
 if aU g=false then (1,0, []) else
 if 0≤jG g then (13,jG g, []) else
 if 0≤fm g then (14,fm g, []) else
 if 0<MQ.length then (15,0,MQ) else
 if 1<bare.length then (16,0,bare.take 2) else (0,0, [])
def cr (g:Gr):Int × Int × List Int:=gO g (jE g) (bJ (·.2) g)
theorem jH (e:Edge):Spec Tryz.prog 101 (Args [eE e]) [] (eB (decide (e.1=e.2))) []:=by
 (refine Spec.intro (C:=T.cfg [] []) (rs:= [.t 2]) (T.aq _ _) Tryz.func101 rfl rfl Tryz.ntmps101 Tryz.results101 (by simp [AObj.isNest]) (by simp [AObj.isNest]) (by kernel_rfl) ?_;intro X hX hP hC aN aO vals hA;refine ⟨_,by simp,hA, ?_⟩;have af:X.P.follows .mixedOrders=true:=(by rw [hP];exact T.mixed);clear aN aO)
 repeat' (first|fail|((first|((with_reducible (first|apply oA|apply oB));exact rfl;intro K hK)|(refine hK _ ?_;clear hK K)|((with_reducible (first|apply oG|apply oH));iterate 3 exact rfl)|((with_reducible apply oI);(iterate 2 exact rfl);intro K hK)|(with_reducible (first|apply wI|apply wJ|apply wK)));try simp only [go_sem,simprocAttr])|fail|(with_reducible (first|apply oC|apply oJ|exact oK|apply wA|apply wB|apply wC hX hC|apply wD hX hC|apply wE hX hC af|apply wF hX hC af|apply wG|apply wH|apply And.intro))|((with_reducible refine oD ?_ ?_);first|fail|kernel_rfl)|((with_reducible (first|apply oE|apply oF));(iterate 3 exact rfl);all_goals (intro h;first|(exact absurd h (by decide))|((try simp only [go_sem,simprocAttr] at h);(try with_reducible intro K hK);simp only [go_sem,simprocAttr])))|((first|((with_reducible apply wL);exact rfl)|((with_reducible apply wM);exact rfl));all_goals (try ((with_reducible intro h);first|(exact absurd h (by decide))|(try simp only [go_sem,simprocAttr] at h))))|omega|((first|fail);try simp only [go_sem,simprocAttr])|(intro h))
theorem gl {n k:Nat} (h:k<n) (d:Nat):(List.range n).getD k d=k:=by
 simp [List.getD_eq_getElem?_getD,List.getElem?_range h]
theorem j8 (g:Gr) (hl:g.es.length≤1000):Spec Tryz.prog 74 (Args [eG g]) [] (eF (cr g)) []:=by
 have hl:g.es.length≤9223372036854775807:=by omega
 (refine Spec.intro (C:=T.cfg [] []) (rs:= [.c 2 82]) (T.aq _ _) Tryz.func74 rfl rfl Tryz.ntmps74 Tryz.results74 (by simp [AObj.isNest]) (by simp [AObj.isNest]) (by kernel_rfl) ?_;intro X hX hP hC aN aO vals hA;refine ⟨_,by simp,hA, ?_⟩;have af:X.P.follows .mixedOrders=true:=(by rw [hP];exact T.mixed);clear aN aO)
 cases hm:aU g with
 |false=>
  repeat' (first|fail|((first|((with_reducible (first|apply oA|apply oB));exact rfl;intro K hK)|(refine hK _ ?_;clear hK K)|((with_reducible (first|apply oG|apply oH));iterate 3 exact rfl)|((with_reducible apply oI);(iterate 2 exact rfl);intro K hK)|(with_reducible (first|apply wI|apply wJ|apply wK)));try simp only [go_sem,simprocAttr,hm])|fail|(with_reducible (first|apply oC|apply oJ|exact oK|apply wA|apply wB|apply wC hX hC|apply wD hX hC|apply wE hX hC af|apply wF hX hC af|apply wG|apply wH|apply And.intro))|((with_reducible refine oD ?_ ?_);first|fail|kernel_rfl)|((with_reducible (first|apply oE|apply oF));(iterate 3 exact rfl);all_goals (intro h;first|(exact absurd h (by decide))|((try simp only [go_sem,simprocAttr,hm] at h);(try with_reducible intro K hK);simp only [go_sem,simprocAttr,hm])))|((first|((with_reducible apply wL);exact rfl)|((with_reducible apply wM);exact rfl));all_goals (try ((with_reducible intro h);first|(exact absurd h (by decide))|(try simp only [go_sem,simprocAttr,hm] at h))))|omega|((first|first|refine aa hX hC hP (gE g hl) rfl rfl rfl (by simp only [go_sem,simprocAttr,hm]) rfl ?_|refine aa hX hC hP (bL bz.nil _ [] _ jH g.es hl) rfl rfl rfl (by simp only [go_sem,simprocAttr,hm]) rfl ?_|refine aa hX hC hP (gy g hm) rfl rfl rfl (by simp only [go_sem,simprocAttr,hm]) rfl ?_|refine aa hX hC hP (iC g hm) rfl rfl rfl (by simp only [go_sem,simprocAttr,hm]) rfl ?_|refine aa hX hC hP (eA g hm) rfl rfl rfl (by simp only [go_sem,simprocAttr,hm]) rfl ?_|refine aa hX hC hP (ec (g.es.take k) (g.es.getD k (0,0)) hlk) rfl rfl rfl (by simp only [go_sem,simprocAttr,hm]) rfl ?_);try simp only [go_sem,simprocAttr,hm])|(intro h))
  all_goals simp [cr,gO,hm]
 |true=>
 have hn:=aZ hm
 by_cases hlo:0≤jG g
 ·have an:decide (0≤bU (fun p:Edge=>decide (p.1=p.2)) g.es)=true:=decide_eq_true hlo
  repeat' (first|fail|((first|((with_reducible (first|apply oA|apply oB));exact rfl;intro K hK)|(refine hK _ ?_;clear hK K)|((with_reducible (first|apply oG|apply oH));iterate 3 exact rfl)|((with_reducible apply oI);(iterate 2 exact rfl);intro K hK)|(with_reducible (first|apply wI|apply wJ|apply wK)));try simp only [go_sem,simprocAttr,hm,an])|fail|(with_reducible (first|apply oC|apply oJ|exact oK|apply wA|apply wB|apply wC hX hC|apply wD hX hC|apply wE hX hC af|apply wF hX hC af|apply wG|apply wH|apply And.intro))|((with_reducible refine oD ?_ ?_);first|fail|kernel_rfl)|((with_reducible (first|apply oE|apply oF));(iterate 3 exact rfl);all_goals (intro h;first|(exact absurd h (by decide))|((try simp only [go_sem,simprocAttr,hm,an] at h);(try with_reducible intro K hK);simp only [go_sem,simprocAttr,hm,an])))|((first|((with_reducible apply wL);exact rfl)|((with_reducible apply wM);exact rfl));all_goals (try ((with_reducible intro h);first|(exact absurd h (by decide))|(try simp only [go_sem,simprocAttr,hm,an] at h))))|omega|((first|first|refine aa hX hC hP (gE g hl) rfl rfl rfl (by simp only [go_sem,simprocAttr,hm,an]) rfl ?_|refine aa hX hC hP (bL bz.nil _ [] _ jH g.es hl) rfl rfl rfl (by simp only [go_sem,simprocAttr,hm,an]) rfl ?_|refine aa hX hC hP (gy g hm) rfl rfl rfl (by simp only [go_sem,simprocAttr,hm,an]) rfl ?_|refine aa hX hC hP (iC g hm) rfl rfl rfl (by simp only [go_sem,simprocAttr,hm,an]) rfl ?_|refine aa hX hC hP (eA g hm) rfl rfl rfl (by simp only [go_sem,simprocAttr,hm,an]) rfl ?_|refine aa hX hC hP (ec (g.es.take k) (g.es.getD k (0,0)) hlk) rfl rfl rfl (by simp only [go_sem,simprocAttr,hm,an]) rfl ?_);try simp only [go_sem,simprocAttr,hm,an])|(intro h))
  all_goals (
   have hc:cr g=(13,jG g, []):=by
    simp only [cr,gO];rw [if_neg (by simp [hm]),if_pos hlo]
   rw [hc]<;>rfl)
 have an:decide (0≤bU (fun p:Edge=>decide (p.1=p.2)) g.es)=false:=decide_eq_false hlo
 repeat' (first|fail|((first|((with_reducible (first|apply oA|apply oB));exact rfl;intro K hK)|(refine hK _ ?_;clear hK K)|((with_reducible (first|apply oG|apply oH));iterate 3 exact rfl)|((with_reducible apply oI);(iterate 2 exact rfl);intro K hK)|(with_reducible (first|apply wI|apply wJ|apply wK)));try simp only [go_sem,simprocAttr,hm,an])|fail|(with_reducible (first|apply oC|apply oJ|exact oK|apply wA|apply wB|apply wC hX hC|apply wD hX hC|apply wE hX hC af|apply wF hX hC af|apply wG|apply wH|apply And.intro))|((with_reducible refine oD ?_ ?_);first|fail|kernel_rfl)|((with_reducible (first|apply oE|apply oF));(iterate 3 exact rfl);all_goals (intro h;first|(exact absurd h (by decide))|((try simp only [go_sem,simprocAttr,hm,an] at h);(try with_reducible intro K hK);simp only [go_sem,simprocAttr,hm,an])))|((first|((with_reducible apply wL);exact rfl)|((with_reducible apply wM);exact rfl));all_goals (try ((with_reducible intro h);first|(exact absurd h (by decide))|(try simp only [go_sem,simprocAttr,hm,an] at h))))|omega|((first|first|refine aa hX hC hP (gE g hl) rfl rfl rfl (by simp only [go_sem,simprocAttr,hm,an]) rfl ?_|refine aa hX hC hP (bL bz.nil _ [] _ jH g.es hl) rfl rfl rfl (by simp only [go_sem,simprocAttr,hm,an]) rfl ?_|refine aa hX hC hP (gy g hm) rfl rfl rfl (by simp only [go_sem,simprocAttr,hm,an]) rfl ?_|refine aa hX hC hP (iC g hm) rfl rfl rfl (by simp only [go_sem,simprocAttr,hm,an]) rfl ?_|refine aa hX hC hP (eA g hm) rfl rfl rfl (by simp only [go_sem,simprocAttr,hm,an]) rfl ?_|refine aa hX hC hP (ec (g.es.take k) (g.es.getD k (0,0)) hlk) rfl rfl rfl (by simp only [go_sem,simprocAttr,hm,an]) rfl ?_);try simp only [go_sem,simprocAttr,hm,an])|(intro h))
 refine ak (fun k:Nat=>k≤g.es.length∧∀j,j<k→mE g j=false) (fun k=>⟨[(23,eN k),(22,eN g.es.length),(21, .d (sE g.es)),(1, .ptr 1 0),(2, .ptr 2 0)], [(1, .box [eN g.n, .d (sE g.es)]),(2, .box [eN 0,eN 0, .nil 3])]⟩) (fun k=>g.es.length - k) 0 (by simp) ?_ ?_
 ·(refine Le.of ?_ ?_<;>simp [go_sem,simprocAttr,hm,an])
 rintro k ⟨hk,FF⟩
 rcases Nat.lt_or_ge k g.es.length with hlt|hge
 ·have aj:decide ((k:Int)<(g.es.length:Int))=true:=decide_eq_true (by omega)
  have hlk:(g.es.take k).length≤9223372036854775807:=by rw [List.length_take];omega
  repeat' (first|fail|((first|((with_reducible (first|apply oA|apply oB));exact rfl;intro K hK)|(refine hK _ ?_;clear hK K)|((with_reducible (first|apply oG|apply oH));iterate 3 exact rfl)|((with_reducible apply oI);(iterate 2 exact rfl);intro K hK)|(with_reducible (first|apply wI|apply wJ|apply wK)));try simp only [go_sem,simprocAttr,hm,an,aj, ← List.map_take])|fail|(with_reducible (first|apply oC|apply oJ|exact oK|apply wA|apply wB|apply wC hX hC|apply wD hX hC|apply wE hX hC af|apply wF hX hC af|apply wG|apply wH|apply And.intro))|((with_reducible refine oD ?_ ?_);first|fail|kernel_rfl)|((with_reducible (first|apply oE|apply oF));(iterate 3 exact rfl);all_goals (intro h;first|(exact absurd h (by decide))|((try simp only [go_sem,simprocAttr,hm,an,aj, ← List.map_take] at h);(try with_reducible intro K hK);simp only [go_sem,simprocAttr,hm,an,aj, ← List.map_take])))|((first|((with_reducible apply wL);exact rfl)|((with_reducible apply wM);exact rfl));all_goals (try ((with_reducible intro h);first|(exact absurd h (by decide))|(try simp only [go_sem,simprocAttr,hm,an,aj, ← List.map_take] at h))))|omega|((first|first|refine aa hX hC hP (gE g hl) rfl rfl rfl (by simp only [go_sem,simprocAttr,hm,an,aj, ← List.map_take]) rfl ?_|refine aa hX hC hP (bL bz.nil _ [] _ jH g.es hl) rfl rfl rfl (by simp only [go_sem,simprocAttr,hm,an,aj, ← List.map_take]) rfl ?_|refine aa hX hC hP (gy g hm) rfl rfl rfl (by simp only [go_sem,simprocAttr,hm,an,aj, ← List.map_take]) rfl ?_|refine aa hX hC hP (iC g hm) rfl rfl rfl (by simp only [go_sem,simprocAttr,hm,an,aj, ← List.map_take]) rfl ?_|refine aa hX hC hP (eA g hm) rfl rfl rfl (by simp only [go_sem,simprocAttr,hm,an,aj, ← List.map_take]) rfl ?_|refine aa hX hC hP (ec (g.es.take k) (g.es.getD k (0,0)) hlk) rfl rfl rfl (by simp only [go_sem,simprocAttr,hm,an,aj, ← List.map_take]) rfl ?_);try simp only [go_sem,simprocAttr,hm,an,aj, ← List.map_take])|(intro h))
  any_goals (
   have LN:fm g=(k:Int):=dM (d:=0) (by simpa using hlt) (fun j hj=>by rw [gl (by omega)];exact FF j hj) (by rw [gl hlt];exact decide_eq_true h)
   have hc:cr g=(14,fm g, []):=by
    simp only [cr,gO];rw [if_neg (by simp [hm]),if_neg hlo,if_pos (by omega)]
   rw [hc]<;>first|rfl|exact LN.symm)
  refine ⟨k+1,⟨by omega,fun j hj=> ?_⟩, ?_,by omega⟩
  ·by_cases hjk:j=k
   ·subst hjk;exact decide_eq_false h
   ·exact FF j (by omega)
  ·(refine Le.of ?_ ?_<;>simp [go_sem,simprocAttr,hm,an,aj, ← List.map_take])
 ·have aj:decide ((k:Int)<(g.es.length:Int))=false:=decide_eq_false (by omega)
  have Cd:¬0≤fm g:=by
   have:fm g= -1:=cD 0 fun j hj=>by
    rw [List.length_range] at hj
    rw [gl hj];exact FF j (by omega)
   omega
  repeat' (first|fail|((first|((with_reducible (first|apply oA|apply oB));exact rfl;intro K hK)|(refine hK _ ?_;clear hK K)|((with_reducible (first|apply oG|apply oH));iterate 3 exact rfl)|((with_reducible apply oI);(iterate 2 exact rfl);intro K hK)|(with_reducible (first|apply wI|apply wJ|apply wK)));try simp only [go_sem,simprocAttr,hm,an,aj])|fail|(with_reducible (first|apply oC|apply oJ|exact oK|apply wA|apply wB|apply wC hX hC|apply wD hX hC|apply wE hX hC af|apply wF hX hC af|apply wG|apply wH|apply And.intro))|((with_reducible refine oD ?_ ?_);first|fail|kernel_rfl)|((with_reducible (first|apply oE|apply oF));(iterate 3 exact rfl);all_goals (intro h;first|(exact absurd h (by decide))|((try simp only [go_sem,simprocAttr,hm,an,aj] at h);(try with_reducible intro K hK);simp only [go_sem,simprocAttr,hm,an,aj])))|((first|((with_reducible apply wL);exact rfl)|((with_reducible apply wM);exact rfl));all_goals (try ((with_reducible intro h);first|(exact absurd h (by decide))|(try simp only [go_sem,simprocAttr,hm,an,aj] at h))))|omega|((first|first|refine aa hX hC hP (gE g hl) rfl rfl rfl (by simp only [go_sem,simprocAttr,hm,an,aj]) rfl ?_|refine aa hX hC hP (bL bz.nil _ [] _ jH g.es hl) rfl rfl rfl (by simp only [go_sem,simprocAttr,hm,an,aj]) rfl ?_|refine aa hX hC hP (gy g hm) rfl rfl rfl (by simp only [go_sem,simprocAttr,hm,an,aj]) rfl ?_|refine aa hX hC hP (iC g hm) rfl rfl rfl (by simp only [go_sem,simprocAttr,hm,an,aj]) rfl ?_|refine aa hX hC hP (eA g hm) rfl rfl rfl (by simp only [go_sem,simprocAttr,hm,an,aj]) rfl ?_|refine aa hX hC hP (ec (g.es.take k) (g.es.getD k (0,0)) hlk) rfl rfl rfl (by simp only [go_sem,simprocAttr,hm,an,aj]) rfl ?_);try simp only [go_sem,simprocAttr,hm,an,aj])|(intro h))
  all_goals (
   have hc:cr g=if 0<(jE g).length then (15,0,jE g) else if 1<(bJ (·.2) g).length then (16,0,(bJ (·.2) g).take 2) else (0,0, []):=by
    simp only [cr,gO];rw [if_neg (by simp [hm]),if_neg hlo,if_neg Cd]
   first|rw [if_pos (by omega)] at hc|(rw [if_neg (by omega)] at hc;first|rw [if_pos (by omega)] at hc|rw [if_neg (by omega)] at hc)
   rw [hc]<;>first|rfl|simp only [List.map_take])
end Go.Ab
end
section
namespace Go.Ab
open Go.Proofs
attribute [local congr] ACall.congr
set_option maxRecDepth 10000
theorem bh (ps:List Int) (x:Int) (hl:ps.length≤9223372036854775807):
 Spec Tryz.prog 144 (Args [.d (sI ps),eN x]) [] (eN (dB ps x)) []:=by
 (refine Spec.intro (C:=T.cfg [] []) (rs:= [.t 4]) (T.aq _ _) Tryz.func144 rfl rfl Tryz.ntmps144 Tryz.results144 (by simp [AObj.isNest]) (by simp [AObj.isNest]) (by kernel_rfl) ?_;intro X hX hP hC aN aO vals hA;refine ⟨_,by simp,hA, ?_⟩;have af:X.P.follows .mixedOrders=true:=(by rw [hP];exact T.mixed);clear aN aO)
 repeat' (first|fail|((first|((with_reducible (first|apply oA|apply oB));exact rfl;intro K hK)|(refine hK _ ?_;clear hK K)|((with_reducible (first|apply oG|apply oH));iterate 3 exact rfl)|((with_reducible apply oI);(iterate 2 exact rfl);intro K hK)|(with_reducible (first|apply wI|apply wJ|apply wK)));try simp only [go_sem,simprocAttr])|fail|(with_reducible (first|apply oC|apply oJ|exact oK|apply wA|apply wB|apply wC hX hC|apply wD hX hC|apply wE hX hC af|apply wF hX hC af|apply wG|apply wH|apply And.intro))|((with_reducible refine oD ?_ ?_);first|fail|kernel_rfl)|((with_reducible (first|apply oE|apply oF));(iterate 3 exact rfl);all_goals (intro h;first|(exact absurd h (by decide))|((try simp only [go_sem,simprocAttr] at h);(try with_reducible intro K hK);simp only [go_sem,simprocAttr])))|((first|((with_reducible apply wL);exact rfl)|((with_reducible apply wM);exact rfl));all_goals (try ((with_reducible intro h);first|(exact absurd h (by decide))|(try simp only [go_sem,simprocAttr] at h))))|omega|((first|fail);try simp only [go_sem,simprocAttr])|(intro h))
 refine ak (fun k:Nat=>k≤ps.length∧∀j,j<k→decide (x=ps.getD j 0)=false) (fun k=>⟨[(0, .d (sI ps)),(1,eN x),(5,eN k)], []⟩) (fun k=>ps.length - k) 0 (by simp) ?_ ?_
 ·(refine ⟨bN ?_,fun _ _ h=>h⟩;simp [go_sem,simprocAttr])
 rintro k ⟨hk,hg⟩
 repeat' (first|fail|((first|((with_reducible (first|apply oA|apply oB));exact rfl;intro K hK)|(refine hK _ ?_;clear hK K)|((with_reducible (first|apply oG|apply oH));iterate 3 exact rfl)|((with_reducible apply oI);(iterate 2 exact rfl);intro K hK)|(with_reducible (first|apply wI|apply wJ|apply wK)));try simp only [go_sem,simprocAttr])|fail|(with_reducible (first|apply oC|apply oJ|exact oK|apply wA|apply wB|apply wC hX hC|apply wD hX hC|apply wE hX hC af|apply wF hX hC af|apply wG|apply wH|apply And.intro))|((with_reducible refine oD ?_ ?_);first|fail|kernel_rfl)|((with_reducible (first|apply oE|apply oF));(iterate 3 exact rfl);all_goals (intro h;first|(exact absurd h (by decide))|((try simp only [go_sem,simprocAttr] at h);(try with_reducible intro K hK);simp only [go_sem,simprocAttr])))|((first|((with_reducible apply wL);exact rfl)|((with_reducible apply wM);exact rfl));all_goals (try ((with_reducible intro h);first|(exact absurd h (by decide))|(try simp only [go_sem,simprocAttr] at h))))|omega|((first|fail);try simp only [go_sem,simprocAttr])|(intro h))
 ·exact (dM (by omega) hg (by simpa using h.symm)).symm
 ·refine ⟨k+1,⟨by omega,fun j hj=> ?_⟩, ?_,by omega⟩
  ·by_cases hjk:j=k
   ·subst hjk;exact fun e=>h (Eq.symm e)
   ·simpa using hg j (by omega)
  ·(refine ⟨bN ?_,fun _ _ h=>h⟩;simp [go_sem,simprocAttr])
 ·exact (cD 0 fun j hj=>hg j (by omega)).symm
def bg (f:Edge→Int) (es:List Edge) (k:Nat) (x:Int):List Int:=((List.range k).filter fun i=>decide (f (es.getD i (0,0))=x)).map Int.ofNat
theorem k4 (f:Edge→Int) (es:List Edge) (k x:Nat):fA f es k x=bg f es k (x:Int):=rfl
theorem jI {f:Edge→Int} {es:List Edge} {k:Nat} {x:Int} :(bg f es k x).length≤k:=by
 simpa [bg] using List.length_filter_le (fun i=>decide (f (es.getD i (0,0))=x)) (List.range k)
theorem q7 {f:Edge→Int} {es:List Edge} {k:Nat} {x:Int} :bg f es (k+1) x=bg f es k x++if f (es.getD k (0,0))=x then [(k:Int)] else []:=by
 simp only [bg,List.range_succ,List.filter_append,List.map_append,List.filter_cons,List.filter_nil]
 split<;>simp_all
def j9 (b:Bool) (e:Edge):Int:=if b then e.1 else e.2
theorem aV (g:Gr) (x:Int) (b:Bool) (hl:g.es.length≤1000):Spec Tryz.prog 71 (Args [eG g,eN x,eB b]) [] (.d (sI (bg (j9 b) g.es g.es.length x))) []:=by
 (refine Spec.intro (C:=T.cfg [] []) (rs:= [.t 6]) (T.aq _ _) Tryz.func71 rfl rfl Tryz.ntmps71 Tryz.results71 (by simp [AObj.isNest]) (by simp [AObj.isNest]) (by kernel_rfl) ?_;intro X hX hP hC aN aO vals hA;refine ⟨_,by simp,hA, ?_⟩;have af:X.P.follows .mixedOrders=true:=(by rw [hP];exact T.mixed);clear aN aO)
 repeat' (first|fail|((first|((with_reducible (first|apply oA|apply oB));exact rfl;intro K hK)|(refine hK _ ?_;clear hK K)|((with_reducible (first|apply oG|apply oH));iterate 3 exact rfl)|((with_reducible apply oI);(iterate 2 exact rfl);intro K hK)|(with_reducible (first|apply wI|apply wJ|apply wK)));try simp only [go_sem,simprocAttr])|fail|(with_reducible (first|apply oC|apply oJ|exact oK|apply wA|apply wB|apply wC hX hC|apply wD hX hC|apply wE hX hC af|apply wF hX hC af|apply wG|apply wH|apply And.intro))|((with_reducible refine oD ?_ ?_);first|fail|kernel_rfl)|((with_reducible (first|apply oE|apply oF));(iterate 3 exact rfl);all_goals (intro h;first|(exact absurd h (by decide))|((try simp only [go_sem,simprocAttr] at h);(try with_reducible intro K hK);simp only [go_sem,simprocAttr])))|((first|((with_reducible apply wL);exact rfl)|((with_reducible apply wM);exact rfl));all_goals (try ((with_reducible intro h);first|(exact absurd h (by decide))|(try simp only [go_sem,simprocAttr] at h))))|omega|((first|fail);try simp only [go_sem,simprocAttr])|(intro h))
 (refine dZ hX 7 9 45 (by simp only [go_sem,simprocAttr]) rfl (by first|exact .inl rfl|exact .inr rfl) (by decide) ?_;simp only [go_sem,simprocAttr])
 refine ak (fun k:Nat=>k≤g.es.length) (fun k=>⟨[(1,eN x),(2,eB b),(3, .ptr 3 0),(8,eN k),(7, .ref 45)], [(3, .box [eN g.n, .d (sE g.es)]),(45, .tip 3 1 ((bg (j9 b) g.es k x).map rI))]⟩) (fun k=>g.es.length - k) 0 (by simp) ?_ ?_
 ·refine Le.of ?_ ?_<;>simp [go_sem,simprocAttr,bg]
 rintro k hk
 rcases Nat.lt_or_ge k g.es.length with hlt|hge
 ·have hb:decide ((k:Int)<(g.es.length:Int))=true:=decide_eq_true (by omega)
  have kJ:=jI (f:=j9 b) (es:=g.es) (k:=k) (x:=x)
  cases b
  ·have dQ:bg (j9 false) g.es (k+1) x=bg (j9 false) g.es k x++if (g.es.getD k (0,0)).2=x then [(k:Int)] else []:=q7
   repeat' (first|fail|((first|((with_reducible (first|apply oA|apply oB));exact rfl;intro K hK)|(refine hK _ ?_;clear hK K)|((with_reducible (first|apply oG|apply oH));iterate 3 exact rfl)|((with_reducible apply oI);(iterate 2 exact rfl);intro K hK)|(with_reducible (first|apply wI|apply wJ|apply wK)));try simp only [go_sem,simprocAttr,hb])|fail|(with_reducible (first|apply oC|apply oJ|exact oK|apply wA|apply wB|apply wC hX hC|apply wD hX hC|apply wE hX hC af|apply wF hX hC af|apply wG|apply wH|apply And.intro))|((with_reducible refine oD ?_ ?_);first|fail|kernel_rfl)|((with_reducible (first|apply oE|apply oF));(iterate 3 exact rfl);all_goals (intro h;first|(exact absurd h (by decide))|((try simp only [go_sem,simprocAttr,hb] at h);(try with_reducible intro K hK);simp only [go_sem,simprocAttr,hb])))|((first|((with_reducible apply wL);exact rfl)|((with_reducible apply wM);exact rfl));all_goals (try ((with_reducible intro h);first|(exact absurd h (by decide))|(try simp only [go_sem,simprocAttr,hb] at h))))|omega|((first|fail);try simp only [go_sem,simprocAttr,hb])|(intro h))
   all_goals (first|rw [if_pos (by assumption)] at dQ|rw [if_neg (by assumption),List.append_nil] at dQ)
   all_goals (refine ⟨k+1,by omega, ?_,by omega⟩;refine Le.of ?_ ?_<;>simp [go_sem,simprocAttr,hb,dQ,rI])
  ·have dQ:bg (j9 true) g.es (k+1) x=bg (j9 true) g.es k x++if (g.es.getD k (0,0)).1=x then [(k:Int)] else []:=q7
   repeat' (first|fail|((first|((with_reducible (first|apply oA|apply oB));exact rfl;intro K hK)|(refine hK _ ?_;clear hK K)|((with_reducible (first|apply oG|apply oH));iterate 3 exact rfl)|((with_reducible apply oI);(iterate 2 exact rfl);intro K hK)|(with_reducible (first|apply wI|apply wJ|apply wK)));try simp only [go_sem,simprocAttr,hb])|fail|(with_reducible (first|apply oC|apply oJ|exact oK|apply wA|apply wB|apply wC hX hC|apply wD hX hC|apply wE hX hC af|apply wF hX hC af|apply wG|apply wH|apply And.intro))|((with_reducible refine oD ?_ ?_);first|fail|kernel_rfl)|((with_reducible (first|apply oE|apply oF));(iterate 3 exact rfl);all_goals (intro h;first|(exact absurd h (by decide))|((try simp only [go_sem,simprocAttr,hb] at h);(try with_reducible intro K hK);simp only [go_sem,simprocAttr,hb])))|((first|((with_reducible apply wL);exact rfl)|((with_reducible apply wM);exact rfl));all_goals (try ((with_reducible intro h);first|(exact absurd h (by decide))|(try simp only [go_sem,simprocAttr,hb] at h))))|omega|((first|fail);try simp only [go_sem,simprocAttr,hb])|(intro h))
   all_goals (first|rw [if_pos (by assumption)] at dQ|rw [if_neg (by assumption),List.append_nil] at dQ)
   all_goals (refine ⟨k+1,by omega, ?_,by omega⟩;refine Le.of ?_ ?_<;>simp [go_sem,simprocAttr,hb,dQ,rI])
 ·have hb:decide ((k:Int)<(g.es.length:Int))=false:=decide_eq_false (by omega)
  obtain rfl:k=g.es.length:=by omega
  repeat' (first|fail|((first|((with_reducible (first|apply oA|apply oB));exact rfl;intro K hK)|(refine hK _ ?_;clear hK K)|((with_reducible (first|apply oG|apply oH));iterate 3 exact rfl)|((with_reducible apply oI);(iterate 2 exact rfl);intro K hK)|(with_reducible (first|apply wI|apply wJ|apply wK)));try simp only [go_sem,simprocAttr,hb])|fail|(with_reducible (first|apply oC|apply oJ|exact oK|apply wA|apply wB|apply wC hX hC|apply wD hX hC|apply wE hX hC af|apply wF hX hC af|apply wG|apply wH|apply And.intro))|((with_reducible refine oD ?_ ?_);first|fail|kernel_rfl)|((with_reducible (first|apply oE|apply oF));(iterate 3 exact rfl);all_goals (intro h;first|(exact absurd h (by decide))|((try simp only [go_sem,simprocAttr,hb] at h);(try with_reducible intro K hK);simp only [go_sem,simprocAttr,hb])))|((first|((with_reducible apply wL);exact rfl)|((with_reducible apply wM);exact rfl));all_goals (try ((with_reducible intro h);first|(exact absurd h (by decide))|(try simp only [go_sem,simprocAttr,hb] at h))))|omega|((first|fail);try simp only [go_sem,simprocAttr,hb])|(intro h))
theorem cy (g:Gr) (b:Bool) (hl:g.es.length≤1000) (hn:0≤g.n∧g.n≤1000):Spec Tryz.prog 38 (Args [eG g,eB b]) [] (.d (sI (bJ (j9 (!b)) g))) []:=by
 (refine Spec.intro (C:=T.cfg [] []) (rs:= [.t 4]) (T.aq _ _) Tryz.func38 rfl rfl Tryz.ntmps38 Tryz.results38 (by simp [AObj.isNest]) (by simp [AObj.isNest]) (by kernel_rfl) ?_;intro X hX hP hC aN aO vals hA;refine ⟨_,by simp,hA, ?_⟩;have af:X.P.follows .mixedOrders=true:=(by rw [hP];exact T.mixed);clear aN aO)
 repeat' (first|fail|((first|((with_reducible (first|apply oA|apply oB));exact rfl;intro K hK)|(refine hK _ ?_;clear hK K)|((with_reducible (first|apply oG|apply oH));iterate 3 exact rfl)|((with_reducible apply oI);(iterate 2 exact rfl);intro K hK)|(with_reducible (first|apply wI|apply wJ|apply wK)));try simp only [go_sem,simprocAttr])|fail|(with_reducible (first|apply oC|apply oJ|exact oK|apply wA|apply wB|apply wC hX hC|apply wD hX hC|apply wE hX hC af|apply wF hX hC af|apply wG|apply wH|apply And.intro))|((with_reducible refine oD ?_ ?_);first|fail|kernel_rfl)|((with_reducible (first|apply oE|apply oF));(iterate 3 exact rfl);all_goals (intro h;first|(exact absurd h (by decide))|((try simp only [go_sem,simprocAttr] at h);(try with_reducible intro K hK);simp only [go_sem,simprocAttr])))|((first|((with_reducible apply wL);exact rfl)|((with_reducible apply wM);exact rfl));all_goals (try ((with_reducible intro h);first|(exact absurd h (by decide))|(try simp only [go_sem,simprocAttr] at h))))|omega|((first|refine aa hX hC hP (aV g (k:Int) (!b) hl) rfl rfl rfl (by simp only [go_sem,simprocAttr]) rfl ?_);try simp only [go_sem,simprocAttr])|(intro h))
 (refine dZ hX 5 7 24 (by simp only [go_sem,simprocAttr]) rfl (by first|exact .inl rfl|exact .inr rfl) (by decide) ?_;simp only [go_sem,simprocAttr])
 refine ak (fun k:Nat=>k≤g.n.toNat) (fun k=>⟨[(1,eB b),(2, .ptr 2 0),(6,eN k),(5, .ref 24)], [(2, .box [eN g.n, .d (sE g.es)]),(24, .tip 3 1 ((iz (c8 (j9 (!b)) g) k).map rI))]⟩) (fun k=>g.n.toNat - k) 0 (by simp) ?_ ?_
 ·refine Le.of ?_ ?_<;>simp [go_sem,simprocAttr,iz]
 rintro k hk
 rcases Nat.lt_or_ge k g.n.toNat with hlt|hge
 ·have hb:decide ((k:Int)<g.n)=true:=decide_eq_true (by omega)
  have kJ:=s7 (ls:=c8 (j9 (!b)) g) (k:=k)
  have he:(c8 (j9 (!b)) g).getD k []=bg (j9 (!b)) g.es g.es.length (k:Int):=by
   simp [c8,List.getD_eq_getElem?_getD,List.getElem?_range hlt,k4]
  have dQ:=mD (ls:=c8 (j9 (!b)) g) (k:=k)
  rw [he] at dQ
  repeat' (first|fail|((first|((with_reducible (first|apply oA|apply oB));exact rfl;intro K hK)|(refine hK _ ?_;clear hK K)|((with_reducible (first|apply oG|apply oH));iterate 3 exact rfl)|((with_reducible apply oI);(iterate 2 exact rfl);intro K hK)|(with_reducible (first|apply wI|apply wJ|apply wK)));try simp only [go_sem,simprocAttr,hb])|fail|(with_reducible (first|apply oC|apply oJ|exact oK|apply wA|apply wB|apply wC hX hC|apply wD hX hC|apply wE hX hC af|apply wF hX hC af|apply wG|apply wH|apply And.intro))|((with_reducible refine oD ?_ ?_);first|fail|kernel_rfl)|((with_reducible (first|apply oE|apply oF));(iterate 3 exact rfl);all_goals (intro h;first|(exact absurd h (by decide))|((try simp only [go_sem,simprocAttr,hb] at h);(try with_reducible intro K hK);simp only [go_sem,simprocAttr,hb])))|((first|((with_reducible apply wL);exact rfl)|((with_reducible apply wM);exact rfl));all_goals (try ((with_reducible intro h);first|(exact absurd h (by decide))|(try simp only [go_sem,simprocAttr,hb] at h))))|omega|((first|refine aa hX hC hP (aV g (k:Int) (!b) hl) rfl rfl rfl (by simp only [go_sem,simprocAttr,hb]) rfl ?_);try simp only [go_sem,simprocAttr,hb])|(intro h))
  all_goals (first|rw [if_pos (by omega)] at dQ|rw [if_neg (by omega),List.append_nil] at dQ)
  all_goals (refine ⟨k+1,by omega, ?_,by omega⟩;refine Le.of ?_ ?_<;>simp [go_sem,simprocAttr,hb,dQ,rI])
 ·have hb:decide ((k:Int)<g.n)=false:=decide_eq_false (by omega)
  obtain rfl:k=g.n.toNat:=by omega
  repeat' (first|fail|((first|((with_reducible (first|apply oA|apply oB));exact rfl;intro K hK)|(refine hK _ ?_;clear hK K)|((with_reducible (first|apply oG|apply oH));iterate 3 exact rfl)|((with_reducible apply oI);(iterate 2 exact rfl);intro K hK)|(with_reducible (first|apply wI|apply wJ|apply wK)));try simp only [go_sem,simprocAttr,hb])|fail|(with_reducible (first|apply oC|apply oJ|exact oK|apply wA|apply wB|apply wC hX hC|apply wD hX hC|apply wE hX hC af|apply wF hX hC af|apply wG|apply wH|apply And.intro))|((with_reducible refine oD ?_ ?_);first|fail|kernel_rfl)|((with_reducible (first|apply oE|apply oF));(iterate 3 exact rfl);all_goals (intro h;first|(exact absurd h (by decide))|((try simp only [go_sem,simprocAttr,hb] at h);(try with_reducible intro K hK);simp only [go_sem,simprocAttr,hb])))|((first|((with_reducible apply wL);exact rfl)|((with_reducible apply wM);exact rfl));all_goals (try ((with_reducible intro h);first|(exact absurd h (by decide))|(try simp only [go_sem,simprocAttr,hb] at h))))|omega|((first|refine aa hX hC hP (aV g (k:Int) (!b) hl) rfl rfl rfl (by simp only [go_sem,simprocAttr,hb]) rfl ?_);try simp only [go_sem,simprocAttr,hb])|(intro h))
  rfl
end Go.Ab
end
section
namespace Go.Ab
open Go.Proofs
attribute [local congr] ACall.congr
set_option maxRecDepth 10000
def rB (b:Bool):List D:= [.sc (.bool b)]
def sB (l:List Bool):D:= .sl 1 (l.map rB)
theorem getD_rB (l:List Bool) (i:Nat):(l.map rB).getD i [.sc (.bool false)]= [.sc (.bool (l.getD i false))]:=by
 simp only [List.getD_eq_getElem?_getD,List.getElem?_map]
 cases l[i]? <;>rfl
attribute [go_sem] getD_rB sB
theorem fP (l:List Bool) (k:Nat) (v:Bool):(l.map rB).set k [.sc (.bool v)]=(l.set k v).map rB:=by
 rw [List.map_set];rfl
theorem tc {α:Type} {n k:Nat} {f:Nat→α} {v:α} :((List.range n).map f).set k v=(List.range n).map fun y=>if y=k then v else f y:=by
 refine List.ext_getElem? fun i=> ?_
 rw [List.getElem?_set,List.length_map,List.length_range]
 by_cases hi:i<n
 ·rw [List.getElem?_map,List.getElem?_map,List.getElem?_range hi]
  by_cases h:k=i
  ·subst h;simp [hi]
  ·have:¬i=k:=fun e=>h e.symm
   simp [h,this]
 ·rw [List.getElem?_eq_none (by simp;omega),List.getElem?_eq_none (by simp;omega)]
  split
  ·rw [if_neg (by omega)]
  ·rfl
def k5 (n k:Nat):List Bool:=(List.range n).map fun y=>decide (y<k)
def eS (g:Gr) (l:List Bool) (j:Nat):List Bool:=(List.range g.n.toNat).map fun y:Nat=>(List.range j).any fun i=>decide (hd g i=(y:Int))&&(l.getD (tl g i).toNat false&&l.getD (hd g i).toNat false)
def fD (g:Gr):Nat→List Bool
 |0=>k5 g.n.toNat g.n.toNat
 |k+1=>eS g (fD g k) g.es.length
theorem trueK_length {n k:Nat} :(k5 n k).length=n:=by simp [k5]
theorem nextK_length {g:Gr} {l:List Bool} {j:Nat} :(eS g l j).length=g.n.toNat:=by simp [eS]
theorem leftK_length {g:Gr} {k:Nat} :(fD g k).length=g.n.toNat:=by
 cases k
 ·exact trueK_length
 ·exact nextK_length
theorem xX {n:Nat} :List.replicate n [D.sc (.bool false)]=(k5 n 0).map rB:=by
 refine List.ext_getElem? fun i=> ?_
 by_cases hi:i<n
 ·simp [k5,hi,rB,List.getElem?_range hi]
 ·rw [List.getElem?_eq_none (by simp;omega),List.getElem?_eq_none (by simp [k5];omega)]
theorem fq {n k:Nat} :(k5 n k).set k true=k5 n (k+1):=by
 unfold k5;rw [tc]
 refine List.map_congr_left fun y _=> ?_
 split
 ·rename_i h;subst h;simp
 ·rename_i h
  rw [Bool.eq_iff_iff];simp;omega
theorem xY {g:Gr} {l:List Bool} :List.replicate g.n.toNat [D.sc (.bool false)]=(eS g l 0).map rB:=by
 refine List.ext_getElem? fun i=> ?_
 by_cases hi:i<g.n.toNat
 ·simp [eS,hi,rB,List.getElem?_range hi]
 ·rw [List.getElem?_eq_none (by simp;omega),List.getElem?_eq_none (by simp [eS];omega)]
theorem zZ {g:Gr} {l:List Bool} {j:Nat} (h0:0≤hd g j) (h:(l.getD (tl g j).toNat false&&l.getD (hd g j).toNat false)=true):(eS g l j).set (hd g j).toNat true=eS g l (j+1):=by
 unfold eS;rw [tc]
 refine List.map_congr_left fun y _=> ?_
 rw [List.range_succ,List.any_append]
 simp only [List.any_cons,List.any_nil,h,Bool.and_true,Bool.or_false]
 split
 ·rename_i e
  have:hd g j=(y:Int):=by omega
  simp [this]
 ·rename_i e
  have:¬hd g j=(y:Int):=by omega
  simp [this]
theorem Ce {g:Gr} {l:List Bool} {j:Nat} (h:(l.getD (tl g j).toNat false&&l.getD (hd g j).toNat false)=false):eS g l j=eS g l (j+1):=by
 unfold eS
 refine List.map_congr_left fun y _=> ?_
 rw [List.range_succ,List.any_append]
 simp only [List.any_cons,List.any_nil,h,Bool.and_false,Bool.or_false]
attribute [go_sem] trueK_length nextK_length leftK_length
theorem cM (g:Gr) (hm:aU g=true):Spec Tryz.prog 143 (Args [eG g]) [] (.d (sB (fD g g.n.toNat))) []:=by
 have hn:=aZ hm
 (refine Spec.intro (C:=T.cfg [] []) (rs:= [.t 2]) (T.aq _ _) Tryz.func143 rfl rfl Tryz.ntmps143 Tryz.results143 (by simp [AObj.isNest]) (by simp [AObj.isNest]) (by kernel_rfl) ?_;intro X hX hP hC aN aO vals hA;refine ⟨_,by simp,hA, ?_⟩;have af:X.P.follows .mixedOrders=true:=(by rw [hP];exact T.mixed);clear aN aO)
 repeat' (first|fail|((first|((with_reducible (first|apply oA|apply oB));exact rfl;intro K hK)|(refine hK _ ?_;clear hK K)|((with_reducible (first|apply oG|apply oH));iterate 3 exact rfl)|((with_reducible apply oI);(iterate 2 exact rfl);intro K hK)|(with_reducible (first|apply wI|apply wJ|apply wK)));try simp only [go_sem,simprocAttr])|first|(show cH _ (.seq (.region 6 _ _) _) _ _;(refine dI hX 11 rfl (.inl rfl) ?_;simp only [go_sem,simprocAttr]))|(show cH _ (.region 8 _ _) _ _;(refine dI hX 29 rfl (.inl rfl) ?_;simp only [go_sem,simprocAttr]))|(with_reducible (first|apply oC|apply oJ|exact oK|apply wA|apply wB|apply wC hX hC|apply wD hX hC|apply wE hX hC af|apply wF hX hC af|apply wG|apply wH|apply And.intro))|((with_reducible refine oD ?_ ?_);first|fail|kernel_rfl)|((with_reducible (first|apply oE|apply oF));(iterate 3 exact rfl);all_goals (intro h;first|(exact absurd h (by decide))|((try simp only [go_sem,simprocAttr] at h);(try with_reducible intro K hK);simp only [go_sem,simprocAttr])))|((first|((with_reducible apply wL);exact rfl)|((with_reducible apply wM);exact rfl));all_goals (try ((with_reducible intro h);first|(exact absurd h (by decide))|(try simp only [go_sem,simprocAttr] at h))))|omega|((first|fail);try simp only [go_sem,simprocAttr])|(intro h))
 refine ak (fun k:Nat=>k≤g.n.toNat) (fun k=>⟨[(1, .ptr 1 0),(4,eN k),(3, .ref 11)], [(1, .box [eN g.n, .d (sE g.es)]),(11, .own 4 1 ((k5 g.n.toNat k).map rB))]⟩) (fun k=>g.n.toNat - k) 0 (by simp) ?_ ?_
 ·refine Le.of ?_ ?_<;>simp [go_sem,simprocAttr]
  exact xX
 rintro k hk
 rcases Nat.lt_or_ge k g.n.toNat with hlt|hge
 ·have hb:decide ((k:Int)<g.n)=true:=decide_eq_true (by omega)
  repeat' (first|fail|((first|((with_reducible (first|apply oA|apply oB));exact rfl;intro K hK)|(refine hK _ ?_;clear hK K)|((with_reducible (first|apply oG|apply oH));iterate 3 exact rfl)|((with_reducible apply oI);(iterate 2 exact rfl);intro K hK)|(with_reducible (first|apply wI|apply wJ|apply wK)));try simp only [go_sem,simprocAttr,hb,fP,fq])|first|(show cH _ (.seq (.region 6 _ _) _) _ _;(refine dI hX 11 rfl (.inl rfl) ?_;simp only [go_sem,simprocAttr,hb,fP,fq]))|(show cH _ (.region 8 _ _) _ _;(refine dI hX 29 rfl (.inl rfl) ?_;simp only [go_sem,simprocAttr,hb,fP,fq]))|(with_reducible (first|apply oC|apply oJ|exact oK|apply wA|apply wB|apply wC hX hC|apply wD hX hC|apply wE hX hC af|apply wF hX hC af|apply wG|apply wH|apply And.intro))|((with_reducible refine oD ?_ ?_);first|fail|kernel_rfl)|((with_reducible (first|apply oE|apply oF));(iterate 3 exact rfl);all_goals (intro h;first|(exact absurd h (by decide))|((try simp only [go_sem,simprocAttr,hb,fP,fq] at h);(try with_reducible intro K hK);simp only [go_sem,simprocAttr,hb,fP,fq])))|((first|((with_reducible apply wL);exact rfl)|((with_reducible apply wM);exact rfl));all_goals (try ((with_reducible intro h);first|(exact absurd h (by decide))|(try simp only [go_sem,simprocAttr,hb,fP,fq] at h))))|omega|((first|fail);try simp only [go_sem,simprocAttr,hb,fP,fq])|(intro h))
  refine ⟨k+1,by omega, ?_,by omega⟩
  (refine Le.of ?_ ?_<;>simp [go_sem,simprocAttr])
 ·have hb:decide ((k:Int)<g.n)=false:=decide_eq_false (by omega)
  obtain rfl:k=g.n.toNat:=by omega
  repeat' (first|fail|((first|((with_reducible (first|apply oA|apply oB));exact rfl;intro K hK)|(refine hK _ ?_;clear hK K)|((with_reducible (first|apply oG|apply oH));iterate 3 exact rfl)|((with_reducible apply oI);(iterate 2 exact rfl);intro K hK)|(with_reducible (first|apply wI|apply wJ|apply wK)));try simp only [go_sem,simprocAttr,hb])|first|(show cH _ (.seq (.region 6 _ _) _) _ _;(refine dI hX 11 rfl (.inl rfl) ?_;simp only [go_sem,simprocAttr,hb]))|(show cH _ (.region 8 _ _) _ _;(refine dI hX 29 rfl (.inl rfl) ?_;simp only [go_sem,simprocAttr,hb]))|(with_reducible (first|apply oC|apply oJ|exact oK|apply wA|apply wB|apply wC hX hC|apply wD hX hC|apply wE hX hC af|apply wF hX hC af|apply wG|apply wH|apply And.intro))|((with_reducible refine oD ?_ ?_);first|fail|kernel_rfl)|((with_reducible (first|apply oE|apply oF));(iterate 3 exact rfl);all_goals (intro h;first|(exact absurd h (by decide))|((try simp only [go_sem,simprocAttr,hb] at h);(try with_reducible intro K hK);simp only [go_sem,simprocAttr,hb])))|((first|((with_reducible apply wL);exact rfl)|((with_reducible apply wM);exact rfl));all_goals (try ((with_reducible intro h);first|(exact absurd h (by decide))|(try simp only [go_sem,simprocAttr,hb] at h))))|omega|((first|fail);try simp only [go_sem,simprocAttr,hb])|(intro h))
  clear hb hk hge
  refine ak (fun k:Nat=>k≤g.n.toNat) (fun k=>⟨[(1, .ptr 1 0),(5,eN k),(3, .d (sB (fD g k)))], [(1, .box [eN g.n, .d (sE g.es)])]⟩) (fun k=>g.n.toNat - k) 0 (by simp) ?_ ?_
  ·refine Le.of ?_ ?_<;>simp [go_sem,simprocAttr,fD]
  rintro k hk
  rcases Nat.lt_or_ge k g.n.toNat with hlt|hge
  ·have hb:decide ((k:Int)<g.n)=true:=decide_eq_true (by omega)
   repeat' (first|fail|((first|((with_reducible (first|apply oA|apply oB));exact rfl;intro K hK)|(refine hK _ ?_;clear hK K)|((with_reducible (first|apply oG|apply oH));iterate 3 exact rfl)|((with_reducible apply oI);(iterate 2 exact rfl);intro K hK)|(with_reducible (first|apply wI|apply wJ|apply wK)));try simp only [go_sem,simprocAttr,hb])|first|(show cH _ (.seq (.region 6 _ _) _) _ _;(refine dI hX 11 rfl (.inl rfl) ?_;simp only [go_sem,simprocAttr,hb]))|(show cH _ (.region 8 _ _) _ _;(refine dI hX 29 rfl (.inl rfl) ?_;simp only [go_sem,simprocAttr,hb]))|(with_reducible (first|apply oC|apply oJ|exact oK|apply wA|apply wB|apply wC hX hC|apply wD hX hC|apply wE hX hC af|apply wF hX hC af|apply wG|apply wH|apply And.intro))|((with_reducible refine oD ?_ ?_);first|fail|kernel_rfl)|((with_reducible (first|apply oE|apply oF));(iterate 3 exact rfl);all_goals (intro h;first|(exact absurd h (by decide))|((try simp only [go_sem,simprocAttr,hb] at h);(try with_reducible intro K hK);simp only [go_sem,simprocAttr,hb])))|((first|((with_reducible apply wL);exact rfl)|((with_reducible apply wM);exact rfl));all_goals (try ((with_reducible intro h);first|(exact absurd h (by decide))|(try simp only [go_sem,simprocAttr,hb] at h))))|omega|((first|fail);try simp only [go_sem,simprocAttr,hb])|(intro h))
   refine ak (fun j:Nat=>j≤g.es.length) (fun j=>⟨[(1, .ptr 1 0),(5,eN k),(3, .d (sB (fD g k))),(7,eN j),(6, .ref 29)], [(1, .box [eN g.n, .d (sE g.es)]),(29, .own 4 1 ((eS g (fD g k) j).map rB))]⟩) (fun j=>g.es.length - j) 0 (by simp) ?_ ?_
   ·refine Le.of ?_ ?_<;>simp [go_sem,simprocAttr]
    exact xY
   rintro j hj
   rcases Nat.lt_or_ge j g.es.length with hjl|I9
   ·have aj:decide ((j:Int)<(g.es.length:Int))=true:=decide_eq_true (by omega)
    obtain ⟨⟨D7,mZ⟩,⟨vi,uk⟩⟩:=gj hm hjl
    repeat' (first|fail|((first|((with_reducible (first|apply oA|apply oB));exact rfl;intro K hK)|(refine hK _ ?_;clear hK K)|((with_reducible (first|apply oG|apply oH));iterate 3 exact rfl)|((with_reducible apply oI);(iterate 2 exact rfl);intro K hK)|(with_reducible (first|apply wI|apply wJ|apply wK)));try simp only [go_sem,simprocAttr,aj,fP])|first|(show cH _ (.seq (.region 6 _ _) _) _ _;(refine dI hX 11 rfl (.inl rfl) ?_;simp only [go_sem,simprocAttr,aj,fP]))|(show cH _ (.region 8 _ _) _ _;(refine dI hX 29 rfl (.inl rfl) ?_;simp only [go_sem,simprocAttr,aj,fP]))|(with_reducible (first|apply oC|apply oJ|exact oK|apply wA|apply wB|apply wC hX hC|apply wD hX hC|apply wE hX hC af|apply wF hX hC af|apply wG|apply wH|apply And.intro))|((with_reducible refine oD ?_ ?_);first|fail|kernel_rfl)|((with_reducible (first|apply oE|apply oF));(iterate 3 exact rfl);all_goals (intro h;first|(exact absurd h (by decide))|((try simp only [go_sem,simprocAttr,aj,fP] at h);(try with_reducible intro K hK);simp only [go_sem,simprocAttr,aj,fP])))|((first|((with_reducible apply wL);exact rfl)|((with_reducible apply wM);exact rfl));all_goals (try ((with_reducible intro h);first|(exact absurd h (by decide))|(try simp only [go_sem,simprocAttr,aj,fP] at h))))|omega|((first|fail);try simp only [go_sem,simprocAttr,aj,fP])|(intro h))
    ·have hy:(eS g (fD g k) j).set (g.es.getD j (0,0)).2.toNat true=eS g (fD g k) (j+1):=zZ vi (by rw [Bool.and_eq_true];exact ⟨by assumption,by assumption⟩)
     refine ⟨j+1,by omega, ?_,by omega⟩
     refine Le.of ?_ ?_<;>simp [go_sem,simprocAttr]
     rw [← hy,List.map_set];rfl
    all_goals (
     have hy:eS g (fD g k) j=eS g (fD g k) (j+1):=Ce (Bool.and_eq_false_iff.2 (by first|exact .inl (by assumption)|exact .inr (by assumption)))
     refine ⟨j+1,by omega, ?_,by omega⟩
     refine Le.of ?_ ?_<;>simp [go_sem,simprocAttr, ← hy])
   ·have aj:decide ((j:Int)<(g.es.length:Int))=false:=decide_eq_false (by omega)
    obtain rfl:j=g.es.length:=by omega
    repeat' (first|fail|((first|((with_reducible (first|apply oA|apply oB));exact rfl;intro K hK)|(refine hK _ ?_;clear hK K)|((with_reducible (first|apply oG|apply oH));iterate 3 exact rfl)|((with_reducible apply oI);(iterate 2 exact rfl);intro K hK)|(with_reducible (first|apply wI|apply wJ|apply wK)));try simp only [go_sem,simprocAttr,aj])|first|(show cH _ (.seq (.region 6 _ _) _) _ _;(refine dI hX 11 rfl (.inl rfl) ?_;simp only [go_sem,simprocAttr,aj]))|(show cH _ (.region 8 _ _) _ _;(refine dI hX 29 rfl (.inl rfl) ?_;simp only [go_sem,simprocAttr,aj]))|(with_reducible (first|apply oC|apply oJ|exact oK|apply wA|apply wB|apply wC hX hC|apply wD hX hC|apply wE hX hC af|apply wF hX hC af|apply wG|apply wH|apply And.intro))|((with_reducible refine oD ?_ ?_);first|fail|kernel_rfl)|((with_reducible (first|apply oE|apply oF));(iterate 3 exact rfl);all_goals (intro h;first|(exact absurd h (by decide))|((try simp only [go_sem,simprocAttr,aj] at h);(try with_reducible intro K hK);simp only [go_sem,simprocAttr,aj])))|((first|((with_reducible apply wL);exact rfl)|((with_reducible apply wM);exact rfl));all_goals (try ((with_reducible intro h);first|(exact absurd h (by decide))|(try simp only [go_sem,simprocAttr,aj] at h))))|omega|((first|fail);try simp only [go_sem,simprocAttr,aj])|(intro h))
    refine ⟨k+1,by omega, ?_,by omega⟩
    refine Le.of ?_ ?_<;>simp [go_sem,simprocAttr,fD]
  ·have hb:decide ((k:Int)<g.n)=false:=decide_eq_false (by omega)
   obtain rfl:k=g.n.toNat:=by omega
   repeat' (first|fail|((first|((with_reducible (first|apply oA|apply oB));exact rfl;intro K hK)|(refine hK _ ?_;clear hK K)|((with_reducible (first|apply oG|apply oH));iterate 3 exact rfl)|((with_reducible apply oI);(iterate 2 exact rfl);intro K hK)|(with_reducible (first|apply wI|apply wJ|apply wK)));try simp only [go_sem,simprocAttr,hb])|first|(show cH _ (.seq (.region 6 _ _) _) _ _;(refine dI hX 11 rfl (.inl rfl) ?_;simp only [go_sem,simprocAttr,hb]))|(show cH _ (.region 8 _ _) _ _;(refine dI hX 29 rfl (.inl rfl) ?_;simp only [go_sem,simprocAttr,hb]))|(with_reducible (first|apply oC|apply oJ|exact oK|apply wA|apply wB|apply wC hX hC|apply wD hX hC|apply wE hX hC af|apply wF hX hC af|apply wG|apply wH|apply And.intro))|((with_reducible refine oD ?_ ?_);first|fail|kernel_rfl)|((with_reducible (first|apply oE|apply oF));(iterate 3 exact rfl);all_goals (intro h;first|(exact absurd h (by decide))|((try simp only [go_sem,simprocAttr,hb] at h);(try with_reducible intro K hK);simp only [go_sem,simprocAttr,hb])))|((first|((with_reducible apply wL);exact rfl)|((with_reducible apply wM);exact rfl));all_goals (try ((with_reducible intro h);first|(exact absurd h (by decide))|(try simp only [go_sem,simprocAttr,hb] at h))))|omega|((first|fail);try simp only [go_sem,simprocAttr,hb])|(intro h))
end Go.Ab
end
