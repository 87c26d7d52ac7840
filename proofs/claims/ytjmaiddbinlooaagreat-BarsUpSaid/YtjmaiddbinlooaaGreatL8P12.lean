/- A part of the proof. -/
import Derived.RangeFuncBox
import Derived.RangeFuncLeaves
import Derived.Shelf.Abstract
import Derived.WalkKit
import Derived.OwnWalkIn
import Derived.TacticsInMore
import Derived.LoopNIn
import Derived.LoopIn
import Derived.Maps.AppendAt
import Derived.Sort.OwnSortedInts
import Derived.Test.YtjmaiddbinlooaaGreatL8P11
set_option linter.unusedSimpArgs false
set_option linter.unusedVariables false
section
namespace Go.Ab
open Go.Proofs Go.RowKit Go.Shelf Go.Sort
attribute [local go_sem] Oper.semAt_some
def upto {α:Type} (f:Nat→α) (k:Nat):List α:=(List.range k).map f
theorem uK {α:Type} (f:Nat→α) (k:Nat):upto f (k+1)=upto f k++ [f k]:=by simp [upto,List.range_succ]
theorem yd {α:Type} (f:Nat→α) (k:Nat):(upto f k).length=k:=by simp [upto]
theorem DN (zs:List Int):upto (fun j=>zs[j]?.getD 0) zs.length=zs:=by
 apply List.ext_getElem
 ·simp [upto]
 ·intro i h1 h2
  simp [upto,h2]
theorem BL (zs:List Int) {k:Nat} (hk:k≤zs.length):upto (fun j=>zs[j]?.getD 0) k=zs.take k:=by
 apply List.ext_getElem
 ·simp [upto,hk]
 ·intro i h1 h2
  have:i<zs.length:=by simp [upto] at h1;omega
  simp [upto,this]
set_option maxRecDepth 100000 in
set_option maxHeartbeats 2000000 in
theorem zF (F:Fence) (n:Nat) (h7:F.fn 137) (hro:F.round=none) (hn:1≤n) (l Bs n₀ b off len cap:Nat) (zs:List Int) (jy:len*8≤140737488351232) (hb:b<n₀) (J Jx:List Int→World→Prop)
 (hY:∀pre x W,J pre W→pre.length<len→YieldAt F (n - 1) Tryz.prog l #[.int .i64 x] W fun e W'=>
   (e= .returned (.bool true)∧J (pre++ [x]) W'∧Below n₀ W W')∨(e= .returned (.bool false)∧Jx (pre++ [x]) W'))
 (W:World) (DO:W.cell? ⟨Bs,0,none⟩=some (.slice (some ⟨b,off,none⟩) len cap)) (hc:∀j,j<len→W.cell? ⟨b,off+j,none⟩=some (.int .i64 (zs[j]?.getD 0))) (h0:J [] W):
 CallsIn F n Tryz.prog 137 #[.func (.yield l) #[] #[], .pointer (some ⟨Bs,0,none⟩)] W fun e W'=>(∃v,e= .returned v)∧
  ((∃ys,ys=upto (fun j=>zs[j]?.getD 0) len∧J ys W')∨(∃pre,(∃k,k≤len∧pre=upto (fun j=>zs[j]?.getD 0) k)∧Jx pre W')):=by
 refine callsIn_of_wp Tryz.func137 rfl h7 ?_ hro
 simp only [Tryz.ntmps137,List.size_toArray,List.length_cons,List.length_nil,Nat.reduceAdd,Nat.reduceSub,Array.replicate_succ,Array.replicate_zero,List.push_toArray,List.append_toArray,List.nil_append,List.cons_append]
 gi_wp2
 gi_loopw [7] (fun i wr=>∃k:Nat,k≤len∧i= .int .i64 k∧J (upto (fun j=>zs[j]?.getD 0) k) wr∧Below n₀ W wr)
  (fun i _=>len - (Go.Proofs.intOf i).toNat)
 case atStart=>exact ⟨0,Nat.zero_le _,rfl,h0,Below.refl _ _⟩
 case round=>
  obtain ⟨k,hk,rfl,KY,dQ⟩:=hrel
  have OX:k<len→wr.cell? ⟨b,off+k,none⟩=some (.int .i64 (zs[k]?.getD 0)):=fun h=>(dQ.cell (p:=⟨b,off+k,none⟩) hb).trans (hc k h)
  by_cases hlt:k<len
  ·obtain ⟨fn,tmps,assign,body,hy,hR⟩:=hY _ (zs[k]?.getD 0) wr KY (by rw [yd];exact hlt)
   have OY:=OX hlt
   gi_wp2
   refine hR.mono ?_
   rintro e W3 (⟨rfl,OZ,JY⟩|⟨rfl,Ml⟩)
   ·gi_wp2
    go_roundw
    case rel=>exact ⟨k+1,by omega,by simp,by rw [uK];exact OZ,dQ.trans JY⟩
    case measure=>simp [Go.Proofs.intOf];omega
   ·gi_wp2
    refine bodyPost_ret (results_none rfl _ _ _) rfl ?_
    exact ⟨⟨_,rfl⟩, .inr ⟨_,⟨k+1,by omega,(uK _ _).symm⟩,Ml⟩⟩
  ·obtain rfl:k=len:=by omega
   gi_wp2
   go_end0
   exact ⟨⟨_,rfl⟩, .inl ⟨_,rfl,KY⟩⟩
def Ints (n₀:Nat) (W:World) (sv:Value) (zs:List Int):Prop:=
 (∃p c,sv= .slice p 0 c∧zs= [])∨∃b off cap,sv= .slice (some ⟨b,off,none⟩) zs.length cap∧b<n₀∧∀j,j<zs.length→W.cell? ⟨b,off+j,none⟩=some (.int .i64 (zs[j]?.getD 0))
theorem Ints.below {n₀:Nat} {A B:World} (h:Below n₀ A B) {sv:Value} {zs:List Int} :Ints n₀ A sv zs→Ints n₀ B sv zs
 | .inl e=> .inl e
 | .inr ⟨b,off,cap,e,hb,hc⟩=> .inr ⟨b,off,cap,e,hb,fun j hj=>(h.cell (p:=⟨b,off+j,none⟩) hb).trans (hc j hj)⟩
set_option maxRecDepth 100000 in
set_option maxHeartbeats 1000000 in
theorem sZ (F:Fence) (n:Nat) (h7:F.fn 137) (hro:F.round=none) (l Bs:Nat) (p:Option Addr) (c:Nat) (J:List Int→World→Prop) (W:World) (DO:W.cell? ⟨Bs,0,none⟩=some (.slice p 0 c)) (h0:J [] W):
 CallsIn F n Tryz.prog 137 #[.func (.yield l) #[] #[], .pointer (some ⟨Bs,0,none⟩)] W fun e W'=>(∃v,e= .returned v)∧J [] W':=by
 refine callsIn_of_wp Tryz.func137 rfl h7 ?_ hro
 simp only [Tryz.ntmps137,List.size_toArray,List.length_cons,List.length_nil,Nat.reduceAdd,Nat.reduceSub,Array.replicate_succ,Array.replicate_zero,List.push_toArray,List.append_toArray,List.nil_append,List.cons_append]
 gi_wp2
 gi_loopw [7] (fun i wr=>i= .int .i64 0∧J [] wr) (fun _ _=>0)
 case atStart=>exact ⟨rfl,h0⟩
 case round=>
  obtain ⟨rfl,KY⟩:=hrel
  gi_wp2
  go_end0
  exact ⟨⟨_,rfl⟩,KY⟩
theorem wh (F:Fence) (n:Nat) (h7:F.fn 137) (hro:F.round=none) (hn:1≤n) (Bs n₀:Nat) (sv:Value) (zs:List Int) (jy:zs.length*8≤140737488351232) (w:World) (DO:Bs<w.heap.size) (hn₀:n₀≤w.heap.size)
 (hc:w.cell? ⟨Bs,0,none⟩=some sv) (hI:Ints n₀ w sv zs):
 SeqStopsK F n Tryz.prog 137 #[.pointer (some ⟨Bs,0,none⟩)] (fun x:Int=> #[Value.int .i64 x]) (Below n₀) (fun ys=>ys=zs) (fun pre=>pre<+:zs) zs.length w:=fun l J Jx W hW _ _ hY h0=>by
 have qN:=(hW.cell (p:=⟨Bs,0,none⟩) DO).trans hc
 rcases hI.below (hW.mono hn₀) with ⟨p,c,rfl,rfl⟩|⟨b,off,cap,rfl,hb,hcs⟩
 ·exact (sZ F n h7 hro l Bs p c J W qN h0).mono fun e W' ⟨he,hj⟩=>⟨he, .inl ⟨_,rfl,hj⟩⟩
 ·refine (zF F n h7 hro hn l Bs n₀ b off zs.length cap zs jy hb J Jx hY W qN hcs h0).mono ?_
  rintro e W' ⟨he,⟨ys,rfl,hj⟩|⟨pre,⟨k,hk,rfl⟩,hj⟩⟩
  ·exact ⟨he, .inl ⟨_,DN zs,hj⟩⟩
  ·exact ⟨he, .inr ⟨_,by rw [BL zs hk];exact List.take_prefix _ _,hj⟩⟩
theorem F9:(Tryz.prog.info? 3).map (fun i=>(i.zero,i.size,i.bytes))=some (some (.int .i64 0),1,8):=by kernel_rfl
set_option maxRecDepth 100000 in
set_option maxHeartbeats 2000000 in
theorem wj (F:Fence) (n:Nat) (h3:F.fn 150) (h5:F.fn 137) (hro:F.round=none) (hn:3≤n) (Bs:Nat) (sv:Value) (zs:List Int) (jy:zs.length*8≤140737488351232) (w:World) (DO:Bs<w.heap.size)
 (hcs:w.cell? ⟨Bs,0,none⟩=some sv) (hI:Ints w.heap.size w sv zs):
 CallsIn F n Tryz.prog 150 #[.slice none 0 0, .func (.func 137) #[] #[.pointer (some ⟨Bs,0,none⟩)]] w fun e W'=>∃v,e= .returned v∧W'.ownsRow w.heap.size 3 1 v zs.length (zs.map (Value.int .i64))∧(v= .slice none 0 0↔zs= [])∧Below w.heap.size w W':=by
 have h1:1≤n:=by omega
 obtain ⟨i0,hi,FQ,F3,BD⟩:=info_parts F9
 refine callsIn_of_wp_marks Tryz.func150 rfl h3 ?_ hro
 simp only [Tryz.ntmps150,List.size_toArray,List.length_cons,List.length_nil,Nat.reduceAdd,Nat.reduceSub,Array.replicate_succ,Array.replicate_zero,List.push_toArray,List.append_toArray,List.nil_append,List.cons_append]
 gi_wp2
 have bO:=Boxed.new w 25 (.slice none 0 0)
 have Mm:Below w.heap.size w (w.alloc (.cells #[.slice none 0 0] 25)):=(Below.refl _ w).alloc (Nat.le_refl _) _
 refine wpIn_rangeFunc_ownG hro h1 (gf:=137) (lb:= #[.pointer (some ⟨Bs,0,none⟩)]) rfl h5 (enters_of Tryz.func137 (by kernel_rfl) rfl)
  (wh F (n - 1) h5 hro (by omega) Bs w.heap.size sv zs jy _ (by simp;omega) (by simp) ((Mm.cell (p:=⟨Bs,0,none⟩) DO).trans hcs) (hI.below Mm)) belowK_t (belowK_b (by simp)) (Below.refl _ _) (fun _=>rfl)
  (fun pre W=>(∃v,Boxed W w.heap.size 25 v∧W.ownsRow w.heap.size 3 1 v pre.length (pre.map (Value.int .i64))∧(v= .slice none 0 0↔pre= []))∧Below w.heap.size w W)
  (fun _ _ _=>False)
  (OwnFrom.and (Own.from (holdsRow_own w.heap.size w.heap.size 25 3 1 (fun pre=>pre.length) (fun pre=>pre.map (Value.int .i64)) (fun pre v=>v= .slice none 0 0↔pre= [])) _) (ownFrom_below (Nat.le_refl _) (by simp)))
  (fun _ _ _ _ _ hs _ _=>hs)
  ⟨⟨_,bO,World.ownsRow_nil _ _ _ _,by simp⟩,Mm⟩
  (fun x=> {tmps:= #[.slice none 0 0, .func (.func 137) #[] #[.pointer (some ⟨Bs,0,none⟩)], .pointer (some ⟨w.heap.size,0,none⟩),undef, .slice none 0 0, .int .i64 x, .func (.func 137) #[] #[.pointer (some ⟨Bs,0,none⟩)], .int .i64 x,undef,undef,undef,undef,undef],defers:= []}) ?assign ?body ?done ?stop
 case assign=>
  intro l x W K hK
  gi_wp2
  exact hK
 case body=>
  rintro l pre x W ⟨⟨v,hv,hrow,qP⟩,hB⟩ hlt
  have hc:=hv.cell
  have hml:maxLen=9223372036854775807:=rfl
  gi_wp2_with (gi_at_builtin;refine wpListIn_append_own _ rfl _ _ 25 rfl w.heap.size 3 i0 (.int .i64 0) 1 8 Tryz.underlying25 hi FQ F3 BD rfl (by decide) _ _ _ rfl (hrow.alloc _) ⟨W.heap.size,0,none⟩ 1 1 [.int .i64 x] rfl rfl (cell_one_new _ _ _) (by simp [Value.oneCell']) (by omega) (by omega) (by have:=hB.size;simp;omega) ?_;intro v' w1 hown' hgrow _;obtain ⟨g',cap',rfl⟩:=ownsRow_succ hown';obtain ⟨za,BC,uD,hk2,ak⟩:=hv.appended (by decide) hrow hB.size (Nat.le_refl _) hown' hgrow;have hc1:=za.cell;have KZ:=za.frozen)
  exact ⟨hk2.from _,ak,⟨_,BC,by simpa using uD,by simp⟩,hB.trans ak⟩
 case done=>
  rintro D ys W hD rfl ⟨⟨v,hv,hrow,qP⟩,hB⟩ hK
  have hc:=hv.cell
  gi_wp2
  refine ⟨by simp, .inl ⟨_,_,rfl,run_takeDeferred hK, ?_⟩⟩
  exact ⟨_,results_tmp rfl _ _ _,v,rfl,ownsRow_putObj hrow _ hK rfl,qP,hB.trans (belowK_b (w:=w) (Nat.le_refl _) W D _ _ (by simp at hD;omega) hK rfl rfl)⟩
 case stop=>
  rintro D c pre W _ _ h _
  exact h.elim
set_option maxRecDepth 100000 in
set_option maxHeartbeats 2000000 in
theorem zG (F:Fence) (n:Nat) (h2:F.fn 135) (h3:F.fn 150) (h5:F.fn 137) (hro:F.round=none) (hn:4≤n) (Bs:Nat) (sv:Value) (zs:List Int) (jy:zs.length*8≤140737488351232) (w:World) (DO:Bs<w.heap.size)
 (hcs:w.cell? ⟨Bs,0,none⟩=some sv) (hI:Ints w.heap.size w sv zs):
 CallsIn F n Tryz.prog 135 #[.func (.func 137) #[] #[.pointer (some ⟨Bs,0,none⟩)]] w fun e W'=>∃v,e= .returned v∧W'.ownsRow w.heap.size 3 1 v zs.length (zs.map (Value.int .i64))∧(v= .slice none 0 0↔zs= [])∧Below w.heap.size w W':=by
 have h1:1≤n:=by omega
 refine callsIn_of_wp Tryz.func135 rfl h2 ?_ hro
 simp only [Tryz.ntmps135,List.size_toArray,List.length_cons,List.length_nil,Nat.reduceAdd,Nat.reduceSub,Array.replicate_succ,Array.replicate_zero,List.push_toArray,List.append_toArray,List.nil_append,List.cons_append]
 gi_wp2_with (gi_at_call 150;refine (wj F (n - 1) h3 h5 hro (by omega) Bs sv zs jy _ DO hcs hI).mono ?_;rintro e W ⟨v,rfl,hrow,qP,hb⟩)
 go_ret
 exact ⟨v,rfl,hrow,qP,hb⟩
def ig (l:List Int):List Int:=l.mergeSort fun x y=>decide (x≤y)
set_option maxRecDepth 100000 in
set_option maxHeartbeats 2000000 in
theorem BM (F:Fence) (n:Nat) (CI:F.fn 109) (h2:F.fn 135) (h3:F.fn 150) (h5:F.fn 137) (h9:F.fn 136) (hro:F.round=none) (hn:5≤n)
 (hsort:∀(blk off cap:Nat) (ss:List Int) (W:World),Holds (Value.int .i64) W blk off ss.toArray→blk<W.heap.size→ss.length<4611686018427387904→
   CallsIn F (n - 1) Tryz.prog 136 #[.slice (some ⟨blk,off,none⟩) ss.length cap] W fun e w'=>e= .returned (.tuple #[])∧∃k os,w'=grow (putRow (Value.int .i64) (Sort.ahead W k) blk off (ss.mergeSort fun x y=>decide (x≤y)).toArray) os)
 (hnone:∀(p:Option Addr) (cap:Nat) (W:World),CallsIn F (n - 1) Tryz.prog 136 #[.slice p 0 cap] W fun e w'=>e= .returned (.tuple #[])∧w'=W) (Bs:Nat) (sv:Value) (zs:List Int) (jy:zs.length*8≤140737488351232) (w:World) (DO:Bs<w.heap.size)
 (hcs:w.cell? ⟨Bs,0,none⟩=some sv) (hI:Ints w.heap.size w sv zs):
 CallsIn F n Tryz.prog 109 #[.func (.func 137) #[] #[.pointer (some ⟨Bs,0,none⟩)]] w fun e W'=>∃v,e= .returned v∧W'.ownsRow w.heap.size 3 1 v zs.length ((ig zs).map (Value.int .i64))∧Below w.heap.size w W':=by
 have h1:1≤n:=by omega
 refine callsIn_of_wp Tryz.func109 rfl CI ?_ hro
 simp only [Tryz.ntmps109,List.size_toArray,List.length_cons,List.length_nil,Nat.reduceAdd,Nat.reduceSub,Array.replicate_succ,Array.replicate_zero,List.push_toArray,List.append_toArray,List.nil_append,List.cons_append]
 gi_wp2_with (gi_at_call 135;refine (zG F (n - 1) h2 h3 h5 hro (by omega) Bs sv zs jy _ DO hcs hI).mono ?_;rintro e W ⟨v,rfl,hrow,qP,hb⟩)
 rcases hrow.2 with ⟨rfl,hz⟩|⟨gb,cap,cur,rfl,hbase,Mn,r1,r2,r3,r4⟩
 ·have hss:zs= []:=List.eq_nil_of_length_eq_zero hz
  subst hss
  have cS:=hnone none 0 W
  gi_wp2_with (gi_at_call 136;refine cS.mono ?_;rintro e w' ⟨rfl,rfl⟩)
  go_ret
  exact ⟨.slice none 0 0,rfl,by simpa [ig] using hrow,hb⟩
 ·have hH:Holds (Value.int .i64) W gb 0 zs.toArray:=holds_of_blockI Mn (by simpa using r4)
  have tW:gb<W.heap.size:=(Array.getElem?_eq_some_iff.1 Mn).1
  have hsz:zs.length<4611686018427387904:=by omega
  have cS:=hsort gb 0 cap zs W hH tW hsz
  gi_wp2_with (gi_at_call 136;refine cS.mono ?_;rintro e w' ⟨rfl,nn,os,rfl⟩)
  go_ret
  exact ⟨_,rfl,ownsRow_sortedI (by simp [ig]) hbase Mn r1 r2 r3,hb.grown (grownBy_sortedI _) hb.size (fun j hj=>by cases hj;exact hbase)⟩
theorem wk (Bs:Nat) (sv:Value) (zs:List Int) (jy:zs.length*8≤140737488351232) (w:World) (DO:Bs<w.heap.size)
 (hcs:w.cell? ⟨Bs,0,none⟩=some sv) (hI:Ints w.heap.size w sv zs):
 Calls Tryz.prog 109 #[.func (.func 137) #[] #[.pointer (some ⟨Bs,0,none⟩)]] w fun e W'=>∃v,e= .returned v∧W'.ownsRow w.heap.size 3 1 v zs.length ((ig zs).map (Value.int .i64))∧Below w.heap.size w W':=
 (callsIn_wide (n:=5)).1 (BM Fence.wide 5 trivial trivial trivial trivial trivial rfl (Nat.le_refl _)
   (fun blk off cap ss W h1 h2 h3=>callsIn_wide.2 (AnyM.slices_Sort_int Tryz.GM blk off cap ss W h1 h2 h3))
   (fun p cap W=>callsIn_wide.2 (AnyM.slices_Sort_int_none Tryz.GM p cap W)) Bs sv zs jy w DO hcs hI)
end Go.Ab
end
section
namespace Go.Ab
open Go.Proofs Go.RowKit
attribute [local congr] ACall.congr
set_option maxRecDepth 10000
def GN (E:Env) (w w':World):Env:=⟨E.ρ,E.σ,fun b=>if b<w.heap.size then E.z b else cu w' b⟩
theorem zH {m:List (Nat × AObj)} {E:Env} {w w':World} (hg:Good m E w) (hb:Below w.heap.size w w'):aK w E.z w' (GN E w w').z:=by
 intro b
 by_cases h:b<w.heap.size
 ·exact ⟨by simp [GN,h],fun o _=>hb.cell (p:=⟨b,o,none⟩) h⟩
 ·have h0:=hg.fresh b (by omega)
  exact ⟨by rw [h0];exact Nat.zero_le _,fun o ho=>by rw [h0] at ho;omega⟩
theorem Spec.DP {P:Program} {f:Nat} {A:Env→World→List Value→Prop} {m:List (Nat × AObj)} {res:AV} (hR:bB m) (hc:Av P f)
 (h:∀E w vals,Good m E w→A E w vals→Calls P f vals.toArray w fun e w'=>∃v,e= .returned v∧Below w.heap.size w w'∧cq w' (GN E w w') res v):Spec P f A m res m:=by
 refine ⟨hc,fun E w vals hg hA=>(h E w vals hg hA).mono ?_⟩
 rintro e w' ⟨v,rfl,hb,hv⟩
 have hst:=zH hg hb
 have vV:∀ {l o},bD m l=some o→look m l=some o:=fun hl=>(iB (fun p hp=>hR.nest p hp) hl).1
 have hro:∀ {l o},bD m l=some o→o.ro=true:=fun hl=>hR.ro _ (aY (vV hl))
 refine ⟨v,GN E w w',rfl,⟨hb.os,hb.tape,hb.output,hb.size,hst,fun b h1 _=>⟨hb.block b h1,by simp [GN,h1]⟩,fun _ _=>⟨rfl,rfl⟩⟩,⟨hg.low,hg.inj,fun l o hl=> ?_,fun b h1=> ?_⟩,fun l o b hl h1=> ?_,hv⟩
 ·have h0:=hg.jd l o hl
  have h1:=hro hl
  cases o<;>simp only [AObj.ro] at h1<;>try cases h1
  obtain ⟨b,vs,e,g1,g2,g3,g4,g5⟩:=h0
  have hlt:b<w.heap.size:=(Array.getElem?_eq_some_iff.1 g2).1
  exact ⟨b,vs,e,g1,(hb.block b hlt).trans g2,by simp [GN,hlt,g3],AVrs.mono ⟨hst,fun _ _=>rfl,fun _ _=>rfl⟩ (fun _ _=>trivial) (live:=fun _=>True) g4,g5⟩
 ·simp only [GN,cu]
  rw [if_neg (by have:=hb.size;omega),Array.getElem?_eq_none h1]
 ·rw [hro hl] at h1;cases h1
theorem zI {w:World} {z:Nat→Nat} {v:Value} {x:Int} (h:Rd w z v (.sc (.int .i64 x))):v= .int .i64 x:=by cases h;rfl
theorem Ga {w:World} {z:Nat→Nat} {v:Value} {l:List Int} (h:Rd w z v (sI l)):Ints w.heap.size w v l:=by
 generalize hx:sI l=x at h
 cases h with
 |sc v h=>cases hx
 |pt b off cells vs hz hc hr=>cases hx
 |nil p sz=>
  simp only [sI,D.sl.injEq,List.map_eq_nil_iff] at hx
  exact .inl ⟨p,0,rfl,hx.2⟩
 |sl b off n cap sz rows vs hn hsz hz hcap hc hr=>
  simp only [sI,D.sl.injEq] at hx
  obtain ⟨rfl,rfl⟩:=hx
  rw [List.length_map] at hn
  subst hn
  rcases Nat.eq_zero_or_pos l.length with h0|hpos
  ·exact .inl ⟨some ⟨b,off,none⟩,cap,by rw [h0],List.eq_nil_of_length_eq_zero h0⟩
  refine .inr ⟨b,off,cap,rfl, ?_,fun j hj=> ?_⟩
  ·have:=hc 0 (by omega)
   by_cases hlt:b<w.heap.size
   ·exact hlt
   ·exfalso
    simp [World.cell?,Array.getElem?_eq_none (Nat.le_of_not_lt hlt)] at this
  ·have h1:=hc j (by omega)
   have h2:=hr j 0 (rI l[j]) (.sc (.int .i64 l[j])) (by simp [List.getElem?_eq_getElem hj]) rfl
   have h3:=zI h2
   simp only [Nat.mul_one,Nat.add_zero] at h3
   rw [h1,h3]
   simp [List.getElem?_eq_getElem hj]
theorem BN {w':World} {z:Nat→Nat} {base e:Nat} {v:Value} {l:List Int} (h:w'.ownsRow base e 1 v l.length (l.map (Value.int .i64))) (hz:∀b,base≤b→cu w' b≤z b):Rd w' z v (sI l):=by
 rcases h.2 with ⟨rfl,h0⟩|⟨g,cap,cur,rfl,h1,h2,h3,h4,h5,h6⟩
 ·have:l= []:=List.eq_nil_of_length_eq_zero h0
  subst this
  exact .nil _ _
 ·have Mo:=hz g h1
  simp only [cu,h2] at Mo
  refine .sl g 0 l.length cap 1 _ (fun k=> .int .i64 (l.getD k 0)) (by simp) (by simp [rI]) (by omega) h3 (fun k hk=> ?_) (fun i j r x hi hj=> ?_)
  ·have h7:(cur.toList.take (l.length*1))[k]? =(l.map (Value.int .i64))[k]? :=by rw [h6]
   rw [List.getElem?_take_of_lt hk,Array.getElem?_toList] at h7
   have bT:k<l.length:=by omega
   simp only [World.cell?,h2,Nat.zero_add,Option.isSome_none,Bool.false_eq_true,if_false,h7,List.getElem?_map,List.getElem?_eq_getElem bT,Option.map_some,List.getD_eq_getElem?_getD,Option.getD_some]
  ·rw [List.getElem?_map] at hi
   obtain ⟨y,hy,rfl⟩:=Option.map_eq_some_iff.1 hi
   cases j with
   |succ j=>simp [rI] at hj
   |zero=>
    simp only [rI,List.getElem?_cons_zero,Option.some.injEq] at hj
    subst hj
    simp only [Nat.mul_one,Nat.add_zero,List.getD_eq_getElem?_getD,hy,Option.getD_some]
    exact .sc _ rfl
theorem fk (l:List Int):(ig l).length=l.length:=by simp [ig]
theorem Mp (l:List Int):bB [(10000, .rob [.d (sI l)])]:=⟨by simp [AObj.ro],by simp [nodupM,look],by simp,by simp [AObj.ids,AV.ids,AV.idss]⟩
theorem b9 (l:List Int) (hl:l.length≤17592186043904):Spec Tryz.prog 109 (Args [.fn 137 [] [.ptr 10000 0]]) [(10000, .rob [.d (sI l)])] (.d (sI (ig l))) [(10000, .rob [.d (sI l)])]:=by
 refine Spec.DP (Mp l) ⟨Tryz.f109,_,Tryz.func109,by kernel_rfl,rfl⟩ ?_
 intro E w vals hg hA
 obtain ⟨v,vs,rfl,h0,h3⟩:=hA
 obtain ⟨us,us',rfl,h1,h2⟩:=h0
 obtain ⟨u,HA,rfl,h4,h5⟩:=h2
 obtain ⟨B,hB,rfl⟩:=h4
 simp only [AVrs] at h1 h5 h3
 subst h1 h5 h3
 obtain ⟨b,ws,e,g1,g2,g3,g4,g5⟩:=hg.jd 10000 (.rob [.d (sI l)]) rfl
 obtain rfl:b=B:=by rw [g1] at hB;exact Option.some.inj hB
 obtain ⟨sv,Qu,rfl,g6,g7⟩:=g4
 simp only [AVrs] at g7
 subst g7
 have hlt:b<w.heap.size:=(Array.getElem?_eq_some_iff.1 g2).1
 refine (wk b sv l (by omega) w hlt (by simp [World.cell?,g2]) (Ga g6)).mono ?_
 rintro e w' ⟨v,rfl,hrow,hb⟩
 refine ⟨v,rfl,hb, ?_⟩
 rw [← fk] at hrow
 exact BN hrow fun b hb=>by simp only [GN];rw [if_neg (by omega)];exact Nat.le_refl _
end Go.Ab
end
section
namespace Go.Ab
open Go.Proofs
attribute [local congr] ACall.congr
set_option maxRecDepth 10000
set_option maxHeartbeats 8000000
def eW (f:Edge→Int) (es:List Edge) (k:Nat) (x:Nat):List Int:=((List.range k).filter fun i=>decide (f (es.getD i (0,0))=(x:Int))).map Int.ofNat
def mZ (f:Edge→Int) (es:List Edge) (n k:Nat):List (List (List D)):=(List.range n).map fun x=>(eW f es k x).map rI
def sL (ls:List (List Int)):D:= .sl 1 (ls.map fun l=> [sI l])
def de (f:Edge→Int) (g:Gr):List (List Int):=(List.range g.n.toNat).map (eW f g.es g.es.length)
def vw (g:Gr):D:= .pt [.sc (.int .i64 g.n),sE g.es,sL (de (·.1) g),sL (de (·.2) g)]
theorem aT {g:Gr} (h:aP g=true):0<g.n∧g.n≤64∧g.es.length≤128:=by
 simp [aP] at h;omega
theorem dS {g:Gr} (h:aP g=true) {k:Nat} (hk:k<g.es.length):(0≤(g.es.getD k (0,0)).1∧(g.es.getD k (0,0)).1<g.n)∧(0≤(g.es.getD k (0,0)).2∧(g.es.getD k (0,0)).2<g.n):=by
 have h2:=yc (g:=g) hk
 rw [h] at h2
 have h3:¬oT g (g.es.getD k (0,0))=true:=fun e=>by simpa using h2 e
 simp only [oT,uf,Bool.or_eq_true,decide_eq_true_eq] at h3
 omega
theorem bG {f:Edge→Int} {es:List Edge} {n k:Nat} :(mZ f es n k).length=n:=by simp [mZ]
theorem jP {f:Edge→Int} {es:List Edge} {n k x:Nat} (hx:x<n):(mZ f es n k)[x]? =some ((eW f es k x).map rI):=by
 simp [mZ,List.getElem?_range hx]
theorem iE {f:Edge→Int} {es:List Edge} {k x:Nat} :(eW f es k x).length≤k:=by
 simpa [eW] using List.length_filter_le (fun i=>decide (f (es.getD i (0,0))=(x:Int))) (List.range k)
theorem zJ {f:Edge→Int} {es:List Edge} {k x:Nat} :eW f es (k+1) x=eW f es k x++if f (es.getD k (0,0))=(x:Int) then [(k:Int)] else []:=by
 simp only [eW,List.range_succ,List.filter_append,List.map_append,List.filter_cons,List.filter_nil]
 split<;>simp_all
theorem s4 {f:Edge→Int} {es:List Edge} {n k:Nat} (h0:0≤f (es.getD k (0,0))):
 (mZ f es n k).set (f (es.getD k (0,0))).toNat ((eW f es k (f (es.getD k (0,0))).toNat).map rI++ [[.sc (.int .i64 k)]])=mZ f es n (k+1):=by
 refine List.ext_getElem? fun i=> ?_
 rw [List.getElem?_set,bG]
 by_cases hi:i<n
 ·rw [jP hi,jP hi,zJ]
  generalize f (es.getD k (0,0))=e at*
  by_cases hq:e=(i:Int)
  ·subst hq;simp [hi,rI]
  ·have:¬e.toNat=i:=by omega
   simp [hq,this]
 ·rw [List.getElem?_eq_none (by rw [bG];omega),List.getElem?_eq_none (by rw [bG];omega)]
  generalize f (es.getD k (0,0))=e at*
  split
  ·rename_i hq;rw [if_neg (by omega)]
  ·rfl
theorem s5 {f:Edge→Int} {es:List Edge} {n:Nat} :List.replicate n []=mZ f es n 0:=by
 refine List.ext_getElem? fun i=> ?_
 by_cases hi:i<n
 ·rw [jP hi];simp [hi,eW]
 ·rw [List.getElem?_eq_none (by simp;omega),List.getElem?_eq_none (by rw [bG];omega)]
theorem ff (g:Gr) (hm:aP g=true):Spec Tryz.prog 26 (Args [eG g]) [] (.d (vw g)) []:=by
 have hn:=aT hm
 have hl:g.es.length≤9223372036854775807:=by omega
 have hl':g.es.length≤1000000:=by omega
 (refine Spec.intro (C:=T.cfg [] [13,16]) (rs:= [.t 2]) (T.aj _ _) Tryz.func26 rfl rfl Tryz.ntmps26 Tryz.results26 (by simp [AObj.isNest]) (by simp [AObj.isNest]) (by kernel_rfl) ?_;intro X hX hP hC aD aF vals hA;refine ⟨_,by simp,hA, ?_⟩;have af:X.P.follows .mixedOrders=true:=(by rw [hP];exact T.mixed);clear aD aF)
 repeat' (first|((first|((with_reducible (first|apply oA|apply oB));exact rfl;intro K hK)|(refine hK _ ?_;clear hK K)|((with_reducible (first|apply oG|apply oH));iterate 3 exact rfl)|((with_reducible apply oI);(iterate 2 exact rfl);intro K hK)|(with_reducible (first|apply wI|apply wJ|apply wK)));try simp only [go_sem,simprocAttr,hm])|(with_reducible (first|apply oC|apply oJ|exact oK|apply wA|apply wB|apply wC hX hC|apply wD hX hC|apply wE hX hC af|apply wF hX hC af|apply wG|apply wH|apply And.intro))|((with_reducible refine oD ?_ ?_);kernel_rfl)|((with_reducible (first|apply oE|apply oF));(iterate 3 exact rfl);all_goals (intro h;first|(exact absurd h (by decide))|((try simp only [go_sem,simprocAttr,hm] at h);(try with_reducible intro K hK);simp only [go_sem,simprocAttr,hm])))|((first|((with_reducible apply wL);exact rfl)|((with_reducible apply wM);exact rfl));all_goals (try ((with_reducible intro h);first|(exact absurd h (by decide))|(try simp only [go_sem,simprocAttr,hm] at h))))|omega|((first|refine aa hX hC hP (fT g hl) rfl rfl rfl (by simp only [go_sem,simprocAttr,hm]) rfl ?_|refine aa hX hC hP (lK g.es hl') rfl rfl rfl (by simp only [go_sem,simprocAttr,hm]) rfl ?_);try simp only [go_sem,simprocAttr,hm])|(intro h))
 refine x4 hX 13 (by simp [go_sem,simprocAttr,hm];exact ⟨rfl,rfl,rfl,rfl⟩) (by decide) (by simp [go_sem,simprocAttr,hm]) (by simp [go_sem,simprocAttr,hm]) ?_
 refine x4 hX 16 (by simp [go_sem,simprocAttr,hm];exact ⟨rfl,rfl,rfl,rfl⟩) (by decide) (by simp [go_sem,simprocAttr,hm]) (by simp [go_sem,simprocAttr,hm]) ?_
 simp only [go_sem,simprocAttr,hm]
 refine ah (fun k:Nat=>k≤g.es.length) (fun k=>⟨[(29,eN k),(28,eN g.es.length),(27, .d (sE g.es)),(3, .ptr 18 0)], [(18, .box [eN g.n, .d (sE g.es), .ref 13, .ref 16]),(16, .nest 25 3 1 (mZ (·.2) g.es g.n.toNat k) none),(13, .nest 25 3 1 (mZ (·.1) g.es g.n.toNat k) none)]⟩) (fun k=>g.es.length - k) 0 (by simp) ?_ ?_
 ·refine Le.of ?_ ?_<;>simp [go_sem,simprocAttr,hm]
  exact ⟨s5,s5⟩
 rintro k hk
 rcases Nat.lt_or_ge k g.es.length with hlt|hge
 ·have hb:decide ((k:Int)<(g.es.length:Int))=true:=decide_eq_true (by omega)
  obtain ⟨om,xo⟩:=dS hm hlt
  have hg1:=jP (f:=(·.1)) (es:=g.es) (k:=k) (show (g.es.getD k (0,0)).1.toNat<g.n.toNat by omega)
  have hg2:=jP (f:=(·.2)) (es:=g.es) (k:=k) (show (g.es.getD k (0,0)).2.toNat<g.n.toNat by omega)
  have wm:=iE (f:=(·.1)) (es:=g.es) (k:=k) (x:=(g.es.getD k (0,0)).1.toNat)
  have ye:=iE (f:=(·.2)) (es:=g.es) (k:=k) (x:=(g.es.getD k (0,0)).2.toNat)
  repeat' (first|((first|((with_reducible (first|apply oA|apply oB));exact rfl;intro K hK)|(refine hK _ ?_;clear hK K)|((with_reducible (first|apply oG|apply oH));iterate 3 exact rfl)|((with_reducible apply oI);(iterate 2 exact rfl);intro K hK)|(with_reducible (first|apply wI|apply wJ|apply wK)));try simp only [go_sem,simprocAttr,hm,hb,hg1,hg2,bG])|(with_reducible (first|apply oC|apply oJ|exact oK|apply wA|apply wB|apply wC hX hC|apply wD hX hC|apply wE hX hC af|apply wF hX hC af|apply wG|apply wH|apply And.intro))|((with_reducible refine oD ?_ ?_);first|(focus (simp only [xq,mG,ic,meets,sG,pU,Bw,dZ,oL,mX,Rec.rs,Rec.pP,Rec.GI,fR,Rec.dA,Rec.names,KV.ids,Dz,DA,DB,DC,DD,DE,List.zip_cons_cons,List.zip_nil_right,List.zipIdx_cons,List.zipIdx_nil,List.all_cons,List.all_nil,List.contains_cons,List.contains_nil,List.any_cons,List.any_nil,List.flatMap_nil,List.reverse_cons,List.reverse_nil,jv,CL,Region.binds,go_sem,simprocAttr,hm,hb,hg1,hg2,bG];done))|kernel_rfl)|((with_reducible (first|apply oE|apply oF));(iterate 3 exact rfl);all_goals (intro h;first|(exact absurd h (by decide))|((try simp only [go_sem,simprocAttr,hm,hb,hg1,hg2,bG] at h);(try with_reducible intro K hK);simp only [go_sem,simprocAttr,hm,hb,hg1,hg2,bG])))|((first|((with_reducible apply wL);exact rfl)|((with_reducible apply wM);exact rfl));all_goals (try ((with_reducible intro h);first|(exact absurd h (by decide))|(try simp only [go_sem,simprocAttr,hm,hb,hg1,hg2,bG] at h))))|omega|((first|refine aa hX hC hP (fT g hl) rfl rfl rfl (by simp only [go_sem,simprocAttr,hm,hb,hg1,hg2,bG]) rfl ?_|refine aa hX hC hP (lK g.es hl') rfl rfl rfl (by simp only [go_sem,simprocAttr,hm,hb,hg1,hg2,bG]) rfl ?_);try simp only [go_sem,simprocAttr,hm,hb,hg1,hg2,bG])|(intro h))
  refine ⟨k+1,by omega, ?_,by omega⟩
  refine Le.of ?_ ?_<;>simp [go_sem,simprocAttr,hm,hb,hg1,hg2,bG]
  exact ⟨s4 (f:=(·.2)) xo.1,s4 (f:=(·.1)) om.1⟩
 ·repeat' (first|((first|((with_reducible (first|apply oA|apply oB));exact rfl;intro K hK)|(refine hK _ ?_;clear hK K)|((with_reducible (first|apply oG|apply oH));iterate 3 exact rfl)|((with_reducible apply oI);(iterate 2 exact rfl);intro K hK)|(with_reducible (first|apply wI|apply wJ|apply wK)));try simp only [go_sem,simprocAttr])|(with_reducible (first|apply oC|apply oJ|exact oK|apply wA|apply wB|apply wC hX hC|apply wD hX hC|apply wE hX hC af|apply wF hX hC af|apply wG|apply wH|apply And.intro))|((with_reducible refine oD ?_ ?_);first|(focus (simp only [xq,mG,ic,meets,sG,pU,Bw,dZ,oL,mX,Rec.rs,Rec.pP,Rec.GI,fR,Rec.dA,Rec.names,KV.ids,Dz,DA,DB,DC,DD,DE,List.zip_cons_cons,List.zip_nil_right,List.zipIdx_cons,List.zipIdx_nil,List.all_cons,List.all_nil,List.contains_cons,List.contains_nil,List.any_cons,List.any_nil,List.flatMap_nil,List.reverse_cons,List.reverse_nil,jv,CL,Region.binds,go_sem,simprocAttr];done))|kernel_rfl)|((with_reducible (first|apply oE|apply oF));(iterate 3 exact rfl);all_goals (intro h;first|(exact absurd h (by decide))|((try simp only [go_sem,simprocAttr] at h);(try with_reducible intro K hK);simp only [go_sem,simprocAttr])))|((first|((with_reducible apply wL);exact rfl)|((with_reducible apply wM);exact rfl));all_goals (try ((with_reducible intro h);first|(exact absurd h (by decide))|(try simp only [go_sem,simprocAttr] at h))))|omega|((first|refine aa hX hC hP (fT g hl) rfl rfl rfl (by simp only [go_sem,simprocAttr]) rfl ?_|refine aa hX hC hP (lK g.es hl') rfl rfl rfl (by simp only [go_sem,simprocAttr]) rfl ?_);try simp only [go_sem,simprocAttr])|(intro h))
  have:k=g.es.length:=by omega
  subst this
  simp only [vw,sE,sL,de,mZ,List.map_map]
  rfl
end Go.Ab
end
section
namespace Go.Ab
open Go.Proofs
attribute [local congr] ACall.congr
set_option maxRecDepth 10000
def tl (g:Gr) (i:Nat):Int:=(g.es.getD i (0,0)).1
def hd (g:Gr) (i:Nat):Int:=(g.es.getD i (0,0)).2
def wt (g:Gr) (out:List Int) (y:Nat):Int:=
 if (y:Int)∈out then -1 else (((List.range g.es.length).countP fun i=>decide (hd g i=(y:Int))&& !decide (tl g i∈out):Nat):Int)
def cG (g:Gr) (out:List Int):List Int:=(List.range g.n.toNat).map (wt g out)
def ug (g:Gr):Nat→List Int→List Int
 |0,out=>out
 |f+1,out=>if dI (cG g out) 0<0 then out else ug g f (out++ [dI (cG g out) 0])
def aL (g:Gr):List Int:=ug g g.n.toNat []
structure eP (g:Gr) (out:List Int):Prop where
 lo:∀x∈out,0≤x∧x<g.n
 back:∀i,i<g.es.length→hd g i∈out→tl g i∈out
 fuel:out.length+(List.range g.n.toNat).countP (fun y:Nat=> !decide ((y:Int)∈out))=g.n.toNat
theorem fm {α:Type} {f:α→Bool} {l:List α} (d:α):bY f l= -1∧(∀x∈l,f x=false)∨∃k:Nat,bY f l=k∧k<l.length∧f (l.getD k d)=true∧∀j,j<k→f (l.getD j d)=false:=by
 cases h:l.findIdx? f with
 |none=>
  rw [List.findIdx?_eq_none_iff] at h
  exact .inl ⟨by simp [bY,List.findIdx?_eq_none_iff.2 h],h⟩
 |some i=>
  obtain ⟨hi,hg,hb⟩:=List.findIdx?_eq_some_iff_getElem.1 h
  refine .inr ⟨i,by simp [bY,h],hi,by simpa [List.getD_eq_getElem?_getD,List.getElem?_eq_getElem hi] using hg,fun j hj=> ?_⟩
  have hjl:j<l.length:=by omega
  have:=hb j hj
  simpa [List.getD_eq_getElem?_getD,List.getElem?_eq_getElem hjl] using this
theorem wts_length {g:Gr} {out:List Int} :(cG g out).length=g.n.toNat:=by simp [cG]
theorem lN {g:Gr} {out:List Int} {y:Nat} (h:y<g.n.toNat) (d:Int):(cG g out).getD y d=wt g out y:=by
 simp [cG,List.getD_eq_getElem?_getD,List.getElem?_range h]
theorem lP {p:Nat→Bool} {x:Nat} (hx:p x=true):∀ {n:Nat},x<n→(List.range n).countP (fun y=>p y&& !decide (y=x))+1=(List.range n).countP p
 |0,h=>by omega
 |n+1,h=>by
  rw [List.range_succ,List.countP_append,List.countP_append]
  by_cases BO:x=n
  ·subst BO
   have:(List.range x).countP (fun y=>p y&& !decide (y=x))=(List.range x).countP p:=by
    refine List.countP_congr fun y hy=> ?_
    have:y≠x:=by have:=List.mem_range.1 hy;omega
    simp [this]
   rw [this]
   simp [List.countP_cons,hx]
  ·have:=lP hx (n:=n) (by omega)
   have hn:n≠x:=fun e=>BO e.symm
   simp only [List.countP_cons,List.countP_nil,hn,decide_false,Bool.not_false,Bool.and_true]
   omega
theorem eP.nil (g:Gr):eP g []:=⟨by simp,by simp,by rw [List.countP_eq_length_filter,List.filter_eq_self.2 (by simp)];simp⟩
theorem eP.next {g:Gr} (hm:aP g=true) {out:List Int} (h:eP g out) {x:Nat} (hx:x<g.n.toNat) (hw:wt g out x=0):eP g (out++ [(x:Int)])∧(x:Int)∉out∧(∀i,i<g.es.length→hd g i=x→tl g i∈out):=by
 have gJ:(x:Int)∉out:=fun hi=>by simp [wt,hi] at hw
 have hb:∀i,i<g.es.length→hd g i=x→tl g i∈out:=by
  intro i hi he
  simp only [wt,gJ,if_false] at hw
  have:=List.countP_eq_zero.1 (Int.ofNat.inj hw) i (List.mem_range.2 hi)
  simpa [he] using this
 refine ⟨⟨?_, ?_, ?_⟩,gJ,hb⟩
 ·intro y hy
  rcases List.mem_append.1 hy with hy|hy
  ·exact h.lo y hy
  ·simp at hy;omega
 ·intro i hi hh
  rcases List.mem_append.1 hh with hh|hh
  ·exact List.mem_append_left _ (h.back i hi hh)
  ·simp at hh
   exact List.mem_append_left _ (hb i hi hh)
 ·have h1:=h.fuel
  have h2:=lP (p:=fun y:Nat=> !decide ((y:Int)∈out)) (x:=x) (by simp [gJ]) hx
  have h3:(List.range g.n.toNat).countP (fun y:Nat=> !decide ((y:Int)∈out++ [(x:Int)]))=(List.range g.n.toNat).countP (fun y:Nat=>(!decide ((y:Int)∈out))&& !decide (y=x)):=by
   refine List.countP_congr fun y _=> ?_
   simp;omega
  rw [h3,List.length_append,List.length_singleton]
  omega
def jf (g:Gr) (x:Nat):List Int:=eW (·.1) g.es g.es.length x
def qa (g:Gr) (x:Nat):List Int:=eW (·.2) g.es g.es.length x
theorem DQ {g:Gr} {x:Nat} {e:Int} (h:e∈jf g x):∃i:Nat,e=i∧i<g.es.length∧tl g i=x:=by
 simp only [jf,eW,List.mem_map,List.mem_filter,List.mem_range,decide_eq_true_eq] at h
 obtain ⟨i,⟨h1,h2⟩,rfl⟩:=h
 exact ⟨i,rfl,h1,h2⟩
def CP (g:Gr) (out:List Int) (x j y:Nat):Int:=
 if (y:Int)∈out++ [(x:Int)] then -1 else (((List.range g.es.length).countP fun i=>decide (hd g i=(y:Int))&& !decide (tl g i∈out):Nat):Int) - (((jf g x).take j).countP fun e=>decide (hd g e.toNat=(y:Int)):Nat)
def uh (g:Gr) (out:List Int) (x j:Nat):List Int:=(List.range g.n.toNat).map (CP g out x j)
theorem wtps_length {g:Gr} {out:List Int} {x j:Nat} :(uh g out x j).length=g.n.toNat:=by simp [uh]
theorem oU {g:Gr} {out:List Int} {x j y:Nat} (h:y<g.n.toNat):(uh g out x j)[y]? =some (CP g out x j y):=by
 simp [uh,List.getElem?_range h]
theorem kE {g:Gr} {out:List Int} {y:Nat} (h:y<g.n.toNat):(cG g out)[y]? =some (wt g out y):=by
 simp [cG,List.getElem?_range h]
theorem BP {g:Gr} {out:List Int} {x:Nat} :(cG g out).set x (-1)=uh g out x 0:=by
 refine List.ext_getElem? fun i=> ?_
 rw [List.getElem?_set,wts_length]
 by_cases hi:i<g.n.toNat
 ·rw [kE hi,oU hi]
  by_cases hx:x=i
  ·subst hx;simp [hi,CP]
  ·have:¬i=x:=fun e=>hx e.symm
   simp only [hx,if_false,CP,wt,List.mem_append,List.mem_singleton,List.take_zero,List.countP_nil]
   have h2:¬(i:Int)=(x:Int):=by omega
   simp [h2]
 ·rw [List.getElem?_eq_none (by rw [wts_length];omega),List.getElem?_eq_none (by rw [wtps_length];omega)]
  split
  ·rw [if_neg (by omega)]
  ·rfl
theorem kF {α:Type} {p q r:α→Bool} :∀ {l:List α},(∀a∈l,p a=(q a||r a)∧(q a&&r a)=false)→l.countP p=l.countP q+l.countP r
 | [],_=>rfl
 |a::l,h=>by
  obtain ⟨h1,h2⟩:=h a List.mem_cons_self
  have:=kF (l:=l) fun b hb=>h b (List.mem_cons_of_mem _ hb)
  simp only [List.countP_cons,this,h1]
  cases hq:q a<;>cases hr:r a<;>simp [hq,hr] at h2 ⊢ <;>omega
theorem DR {g:Gr} {out:List Int} {x j:Nat} (hx:(x:Int)∉out) (hj:(jf g x).length≤j):uh g out x j=cG g (out++ [(x:Int)]):=by
 refine List.map_congr_left fun y _=> ?_
 simp only [CP,wt]
 split
 ·rfl
 ·rw [List.take_of_length_le hj]
  have h1:(jf g x).countP (fun e=>decide (hd g e.toNat=(y:Int)))=(List.range g.es.length).countP (fun i=>decide (hd g i=(y:Int))&&decide (tl g i=(x:Int))):=by
   simp only [jf,eW,List.countP_map,List.countP_filter]
   exact List.countP_congr fun i _=>by simp [tl]
  have h2:=kF (p:=fun i=>decide (hd g i=(y:Int))&& !decide (tl g i∈out)) (q:=fun i=>decide (hd g i=(y:Int))&& !decide (tl g i∈out++ [(x:Int)])) (r:=fun i=>decide (hd g i=(y:Int))&&decide (tl g i=(x:Int))) (l:=List.range g.es.length) (fun i _=>by
   by_cases h3:tl g i=x
   ·simp [h3,hx]
   ·simp [h3])
  rw [h1,h2];omega
theorem HV {g:Gr} {out:List Int} {x:Nat} (hP:eP g out) (gJ:(x:Int)∉out) (hb:∀i,i<g.es.length→hd g i=x→tl g i∈out) {i:Nat} (hi:i<g.es.length) (ht:tl g i=x):hd g i∉out++ [(x:Int)]:=by
 intro h
 rcases List.mem_append.1 h with h|h
 ·exact gJ (ht ▸ hP.back i hi h)
 ·simp at h
  exact gJ (ht ▸ hb i hi h)
theorem BQ {g:Gr} {out:List Int} {x j i:Nat} (hj:(jf g x)[j]? =some (i:Int)) (h0:0≤hd g i) (hn:hd g i∉out++ [(x:Int)]):
 (uh g out x j).set (hd g i).toNat (CP g out x j (hd g i).toNat - 1)=uh g out x (j+1):=by
 refine List.ext_getElem? fun y=> ?_
 rw [List.getElem?_set,wtps_length]
 by_cases hy:y<g.n.toNat
 ·rw [oU hy,oU hy]
  have ht:((jf g x).take (j+1)).countP (fun e=>decide (hd g e.toNat=(y:Int)))=((jf g x).take j).countP (fun e=>decide (hd g e.toNat=(y:Int)))+if hd g i=(y:Int) then 1 else 0:=by
   rw [List.take_add_one,List.countP_append,hj]
   simp [List.countP_cons]
  by_cases hq:(hd g i).toNat=y
  ·subst hq
   have he:((hd g i).toNat:Int)=hd g i:=by omega
   rw [if_pos rfl,if_pos (by assumption)]
   rw [he,if_pos rfl] at ht
   simp only [CP,he,hn,if_false,ht]
   congr 1;omega
  ·rw [if_neg hq]
   have mB:¬hd g i=(y:Int):=by omega
   simp only [CP,ht,mB,if_false,Nat.add_zero]
 ·rw [List.getElem?_eq_none (by rw [wtps_length];omega),List.getElem?_eq_none (by rw [wtps_length];omega)]
  split
  ·rw [if_neg (by omega)]
  ·rfl
def Fs (f:Edge→Int) (g:Gr):List (List D):=(de f g).map fun l=> [sI l]
theorem lQ {f:Edge→Int} {g:Gr} {x:Nat} (h:x<g.n.toNat) (d:List D):(Fs f g).getD x d= [sI (eW f g.es g.es.length x)]:=by
 simp [Fs,de,List.getD_eq_getElem?_getD,List.getElem?_range h]
theorem vwl_length {f:Edge→Int} {g:Gr} :(Fs f g).length=g.n.toNat:=by simp [Fs,de]
def IS (g:Gr):D:= .pt [.sc (.int .i64 g.n),sE g.es, .sl 1 (Fs (·.1) g), .sl 1 (Fs (·.2) g)]
theorem ag (g:Gr):vw g=IS g:=rfl
attribute [go_sem] IS wtps_length wts_length vwl_length
theorem DS {g:Gr} {k:Nat} (h:k<g.n.toNat):(cG g []).take (k+1)=(cG g []).take k++ [((qa g k).length:Int)]:=by
 rw [List.take_add_one,kE h]
 simp [wt,qa,eW,hd,List.countP_eq_length_filter]
theorem BR {g:Gr} (hm:aP g=true) {out:List Int} {x j y:Nat} : -1000≤CP g out x j y∧CP g out x j y≤1000:=by
 have hn:=aT hm
 have h1:=List.countP_le_length (p:=fun i=>decide (hd g i=(y:Int))&& !decide (tl g i∈out)) (l:=List.range g.es.length)
 have h2:=List.countP_le_length (p:=fun e:Int=>decide (hd g e.toNat=(y:Int))) (l:=(jf g x).take j)
 have h3:((jf g x).take j).length≤g.es.length:=Nat.le_trans (List.length_take_le' _ _) iE
 simp only [List.length_range] at h1
 unfold CP
 split<;>omega
theorem yf {g:Gr} {out:List Int} (h:dI (cG g out) 0<0):∀f,ug g f out=out
 |0=>rfl
 |f+1=>by simp [ug,h]
def left (g:Gr) (out:List Int):Nat:=(List.range g.n.toNat).countP (fun y:Nat=> !decide ((y:Int)∈out))
theorem uL {g:Gr} {out:List Int} {x:Nat} (h:eP g out) (h':eP g (out++ [(x:Int)])):left g out=left g (out++ [(x:Int)])+1:=by
 have h1:=h.fuel
 have h2:=h'.fuel
 rw [List.length_append,List.length_singleton] at h2
 unfold left;omega
theorem JZ {g:Gr} (out:List Int):dI (cG g out) 0= -1∨∃x:Nat,dI (cG g out) 0=x∧x<g.n.toNat∧wt g out x=0:=by
 rcases fm (f:=fun y:Int=>decide (0=y)) (l:=cG g out) 0 with ⟨h,_⟩|⟨k,h1,h2,h3,_⟩
 ·exact .inl h
 ·rw [wts_length] at h2
  rw [lN h2] at h3
  exact .inr ⟨k,h1,h2,by simpa using (of_decide_eq_true h3).symm⟩
theorem gO (g:Gr) (hm:aP g=true):Spec Tryz.prog 60 (Args [.d (vw g)]) [] (.tup [.d (sI (aL g)), .d (sI (cG g (aL g)))]) []:=by
 rw [ag]
 have hn:=aT hm
 (refine Spec.intro (C:=T.cfg [22] []) (rs:= [.t 2, .t 3]) (T.aj _ _) Tryz.func60 rfl rfl Tryz.ntmps60 Tryz.results60 (by simp [AObj.isNest]) (by simp [AObj.isNest]) (by kernel_rfl) ?_;intro X hX hP hC aD aF vals hA;refine ⟨_,by simp,hA, ?_⟩;have af:X.P.follows .mixedOrders=true:=(by rw [hP];exact T.mixed);clear aD aF)
 repeat' (first|((first|((with_reducible (first|apply oA|apply oB));exact rfl;intro K hK)|(refine hK _ ?_;clear hK K)|((with_reducible (first|apply oG|apply oH));iterate 3 exact rfl)|((with_reducible apply oI);(iterate 2 exact rfl);intro K hK)|(with_reducible (first|apply wI|apply wJ|apply wK)));try simp only [go_sem,simprocAttr])|(with_reducible (first|apply oC|apply oJ|exact oK|apply wA|apply wB|apply wC hX hC|apply wD hX hC|apply wE hX hC af|apply wF hX hC af|apply wG|apply wH|apply And.intro))|((with_reducible refine oD ?_ ?_);kernel_rfl)|((with_reducible (first|apply oE|apply oF));(iterate 3 exact rfl);all_goals (intro h;first|(exact absurd h (by decide))|((try simp only [go_sem,simprocAttr] at h);(try with_reducible intro K hK);simp only [go_sem,simprocAttr])))|((first|((with_reducible apply wL);exact rfl)|((with_reducible apply wM);exact rfl));all_goals (try ((with_reducible intro h);first|(exact absurd h (by decide))|(try simp only [go_sem,simprocAttr] at h))))|omega|((first|(refine ai hX hC hP (aU (cG g out) 0 AB) rfl rfl rfl ?_ ?_ ?_ ?_;iterate 3 (focus (simp only [go_sem,simprocAttr];done))));try simp only [go_sem,simprocAttr])|(intro h))
 (refine ji hX 3 22 (.own 3 1 []) (by simp only [go_sem,simprocAttr]) (by simp only [go_sem,simprocAttr]) (by decide) ⟨3,1,by decide, .inl rfl⟩ ?_;simp only [go_sem,simprocAttr])
 refine ah (fun k:Nat=>k≤g.n.toNat) (fun k=>⟨[(14,eN k),(13,eN g.n.toNat),(12, .d (.sl 1 (Fs (·.2) g))),(3, .ref 22),(2, .nil 3),(0, .d (IS g))], [(22, .own 3 1 (((cG g []).take k).map rI))]⟩) (fun k=>g.n.toNat - k) 0 (by simp) ?_ ?_
 ·(refine Le.of ?_ ?_<;>simp [go_sem,simprocAttr])
 ·rintro k hk
  rcases Nat.lt_or_ge k g.n.toNat with hlt|hge
  ·have hb:decide ((k:Int)<(g.n.toNat:Int))=true:=decide_eq_true (by omega)
   have hv:=lQ (f:=(·.2)) hlt
   have wm:(qa g k).length≤g.es.length:=iE
   have hlt':((cG g []).take k).length≤64:=by rw [List.length_take,wts_length];omega
   repeat' (first|((first|((with_reducible (first|apply oA|apply oB));exact rfl;intro K hK)|(refine hK _ ?_;clear hK K)|((with_reducible (first|apply oG|apply oH));iterate 3 exact rfl)|((with_reducible apply oI);(iterate 2 exact rfl);intro K hK)|(with_reducible (first|apply wI|apply wJ|apply wK)));try simp only [go_sem,simprocAttr,hb,hv])|(with_reducible (first|apply oC|apply oJ|exact oK|apply wA|apply wB|apply wC hX hC|apply wD hX hC|apply wE hX hC af|apply wF hX hC af|apply wG|apply wH|apply And.intro))|((with_reducible refine oD ?_ ?_);kernel_rfl)|((with_reducible (first|apply oE|apply oF));(iterate 3 exact rfl);all_goals (intro h;first|(exact absurd h (by decide))|((try simp only [go_sem,simprocAttr,hb,hv] at h);(try with_reducible intro K hK);simp only [go_sem,simprocAttr,hb,hv])))|((first|((with_reducible apply wL);exact rfl)|((with_reducible apply wM);exact rfl));all_goals (try ((with_reducible intro h);first|(exact absurd h (by decide))|(try simp only [go_sem,simprocAttr,hb,hv] at h))))|omega|((first|(refine ai hX hC hP (aU (cG g out) 0 AB) rfl rfl rfl ?_ ?_ ?_ ?_;iterate 3 (focus (simp only [go_sem,simprocAttr,hb,hv];done))));try simp only [go_sem,simprocAttr,hb,hv])|(intro h))
   refine ⟨k+1,by omega, ?_,by omega⟩
   refine Le.of ?_ ?_<;>simp [go_sem,simprocAttr,hb,hv,DS hlt]
   rfl
  ·obtain rfl:k=g.n.toNat:=by omega
   have hb:decide ((g.n.toNat:Int)<(g.n.toNat:Int))=false:=decide_eq_false (by omega)
   have ht:(cG g []).take g.n.toNat=cG g []:=List.take_of_length_le (by rw [wts_length];omega)
   repeat' (first|((first|((with_reducible (first|apply oA|apply oB));exact rfl;intro K hK)|(refine hK _ ?_;clear hK K)|((with_reducible (first|apply oG|apply oH));iterate 3 exact rfl)|((with_reducible apply oI);(iterate 2 exact rfl);intro K hK)|(with_reducible (first|apply wI|apply wJ|apply wK)));try simp only [go_sem,simprocAttr,hb,ht])|(with_reducible (first|apply oC|apply oJ|exact oK|apply wA|apply wB|apply wC hX hC|apply wD hX hC|apply wE hX hC af|apply wF hX hC af|apply wG|apply wH|apply And.intro))|((with_reducible refine oD ?_ ?_);kernel_rfl)|((with_reducible (first|apply oE|apply oF));(iterate 3 exact rfl);all_goals (intro h;first|(exact absurd h (by decide))|((try simp only [go_sem,simprocAttr,hb,ht] at h);(try with_reducible intro K hK);simp only [go_sem,simprocAttr,hb,ht])))|((first|((with_reducible apply wL);exact rfl)|((with_reducible apply wM);exact rfl));all_goals (try ((with_reducible intro h);first|(exact absurd h (by decide))|(try simp only [go_sem,simprocAttr,hb,ht] at h))))|omega|((first|(refine ai hX hC hP (aU (cG g out) 0 AB) rfl rfl rfl ?_ ?_ ?_ ?_;iterate 3 (focus (simp only [go_sem,simprocAttr,hb,ht];done))));try simp only [go_sem,simprocAttr,hb,ht])|(intro h))
   (refine ji hX 2 33 (.tip 3 1 []) (by simp only [go_sem,simprocAttr,hb,ht]) (by simp only [go_sem,simprocAttr,hb,ht]) (by decide) ⟨3,1,by decide, .inr rfl⟩ ?_;simp only [go_sem,simprocAttr,hb,ht])
   refine ah (fun out:List Int=>eP g out∧ug g (left g out) out=aL g) (fun out=>⟨[(3, .ref 22),(2, .ref 33),(0, .d (IS g))], [(22, .own 3 1 ((cG g out).map rI)),(33, .tip 3 1 (out.map rI))]⟩) (left g) [] ⟨eP.nil g, ?_⟩ ?_ ?_
   ·have:=(eP.nil g).fuel
    simp only [List.length_nil,Nat.zero_add] at this
    unfold left aL
    rw [this]
   ·(refine Le.of ?_ ?_<;>simp [go_sem,simprocAttr,hb,ht])
   rintro out ⟨eR,hrun⟩
   have AB:(cG g out).length≤9223372036854775807:=by rw [wts_length];omega
   have hout:out.length≤64:=by have:=eR.fuel;omega
   rcases JZ (g:=g) out with hx|⟨x,hx,BO,hw0⟩
   ·have hr:=yf (g:=g) (out:=out) (by omega) (left g out)
    rw [hrun] at hr
    repeat' (first|((first|((with_reducible (first|apply oA|apply oB));exact rfl;intro K hK)|(refine hK _ ?_;clear hK K)|((with_reducible (first|apply oG|apply oH));iterate 3 exact rfl)|((with_reducible apply oI);(iterate 2 exact rfl);intro K hK)|(with_reducible (first|apply wI|apply wJ|apply wK)));try simp only [go_sem,simprocAttr,hx])|(with_reducible (first|apply oC|apply oJ|exact oK|apply wA|apply wB|apply wC hX hC|apply wD hX hC|apply wE hX hC af|apply wF hX hC af|apply wG|apply wH|apply And.intro))|((with_reducible refine oD ?_ ?_);kernel_rfl)|((with_reducible (first|apply oE|apply oF));(iterate 3 exact rfl);all_goals (intro h;first|(exact absurd h (by decide))|((try simp only [go_sem,simprocAttr,hx] at h);(try with_reducible intro K hK);simp only [go_sem,simprocAttr,hx])))|((first|((with_reducible apply wL);exact rfl)|((with_reducible apply wM);exact rfl));all_goals (try ((with_reducible intro h);first|(exact absurd h (by decide))|(try simp only [go_sem,simprocAttr,hx] at h))))|omega|((first|(refine ai hX hC hP (aU (cG g out) 0 AB) rfl rfl rfl ?_ ?_ ?_ ?_;iterate 3 (focus (simp only [go_sem,simprocAttr,hx];done))));try simp only [go_sem,simprocAttr,hx])|(intro h))
    ·rw [hr]
    ·rw [hr]
   ·obtain ⟨sC,gJ,hbk⟩:=eR.next hm BO hw0
    have an:decide ((x:Int)<0)=false:=decide_eq_false (by omega)
    have hv:=lQ (f:=(·.1)) BO
    have wm:(jf g x).length≤g.es.length:=iE
    repeat' (first|((first|((with_reducible (first|apply oA|apply oB));exact rfl;intro K hK)|(refine hK _ ?_;clear hK K)|((with_reducible (first|apply oG|apply oH));iterate 3 exact rfl)|((with_reducible apply oI);(iterate 2 exact rfl);intro K hK)|(with_reducible (first|apply wI|apply wJ|apply wK)));try simp only [go_sem,simprocAttr,hx,an,hv])|(with_reducible (first|apply oC|apply oJ|exact oK|apply wA|apply wB|apply wC hX hC|apply wD hX hC|apply wE hX hC af|apply wF hX hC af|apply wG|apply wH|apply And.intro))|((with_reducible refine oD ?_ ?_);kernel_rfl)|((with_reducible (first|apply oE|apply oF));(iterate 3 exact rfl);all_goals (intro h;first|(exact absurd h (by decide))|((try simp only [go_sem,simprocAttr,hx,an,hv] at h);(try with_reducible intro K hK);simp only [go_sem,simprocAttr,hx,an,hv])))|((first|((with_reducible apply wL);exact rfl)|((with_reducible apply wM);exact rfl));all_goals (try ((with_reducible intro h);first|(exact absurd h (by decide))|(try simp only [go_sem,simprocAttr,hx,an,hv] at h))))|omega|((first|(refine ai hX hC hP (aU (cG g out) 0 AB) rfl rfl rfl ?_ ?_ ?_ ?_;iterate 3 (focus (simp only [go_sem,simprocAttr,hx,an,hv];done))));try simp only [go_sem,simprocAttr,hx,an,hv])|(intro h))
    refine ah (fun j:Nat=>j≤(jf g x).length) (fun j=>⟨[(45,eN j),(44,eN (jf g x).length),(43, .d (sI (jf g x))),(3, .ref 22),(2, .ref 33),(0, .d (IS g))], [(22, .own 3 1 ((uh g out x j).map rI)),(33, .tip 3 1 ((out++ [(x:Int)]).map rI))]⟩) (fun j=>(jf g x).length - j) 0 (by simp) ?_ ?_
    ·refine Le.of ?_ ?_<;>simp [go_sem,simprocAttr,hx,an,hv,jf,rI]
     rw [← BP,List.map_set];rfl
    rintro j hj
    rcases Nat.lt_or_ge j (jf g x).length with hlt|hge
    ·have ak:decide ((j:Int)<((jf g x).length:Int))=true:=decide_eq_true (by omega)
     obtain ⟨i,hi,hil,hit⟩:=DQ (List.getElem_mem hlt)
     have hi1:(jf g x)[j]? =some (i:Int):=by rw [List.getElem?_eq_getElem hlt,hi]
     have hi2:(jf g x).getD j 0=(i:Int):=by rw [List.getD_eq_getElem?_getD,hi1];rfl
     have hnew:=HV eR gJ hbk hil hit
     obtain ⟨_,Gb,om⟩:=dS hm hil
     have hnext:=BQ hi1 Gb hnew
     have hw:(uh g out x j).getD (g.es.getD i (0,0)).2.toNat 0=CP g out x j (hd g i).toNat:=by
      rw [List.getD_eq_getElem?_getD,oU (by omega)];rfl
     have hbd:=BR hm (out:=out) (x:=x) (j:=j) (y:=(hd g i).toNat)
     repeat' (first|((first|((with_reducible (first|apply oA|apply oB));exact rfl;intro K hK)|(refine hK _ ?_;clear hK K)|((with_reducible (first|apply oG|apply oH));iterate 3 exact rfl)|((with_reducible apply oI);(iterate 2 exact rfl);intro K hK)|(with_reducible (first|apply wI|apply wJ|apply wK)));try simp only [go_sem,simprocAttr,ak,hi2,hw])|(with_reducible (first|apply oC|apply oJ|exact oK|apply wA|apply wB|apply wC hX hC|apply wD hX hC|apply wE hX hC af|apply wF hX hC af|apply wG|apply wH|apply And.intro))|((with_reducible refine oD ?_ ?_);kernel_rfl)|((with_reducible (first|apply oE|apply oF));(iterate 3 exact rfl);all_goals (intro h;first|(exact absurd h (by decide))|((try simp only [go_sem,simprocAttr,ak,hi2,hw] at h);(try with_reducible intro K hK);simp only [go_sem,simprocAttr,ak,hi2,hw])))|((first|((with_reducible apply wL);exact rfl)|((with_reducible apply wM);exact rfl));all_goals (try ((with_reducible intro h);first|(exact absurd h (by decide))|(try simp only [go_sem,simprocAttr,ak,hi2,hw] at h))))|omega|((first|(refine ai hX hC hP (aU (cG g out) 0 AB) rfl rfl rfl ?_ ?_ ?_ ?_;iterate 3 (focus (simp only [go_sem,simprocAttr,ak,hi2,hw];done))));try simp only [go_sem,simprocAttr,ak,hi2,hw])|(intro h))
     refine ⟨j+1,by omega, ?_,by omega⟩
     refine Le.of ?_ ?_<;>simp [go_sem,simprocAttr,ak,hi2,hw]
     rw [← hnext,List.map_set];rfl
    ·have ak:decide ((j:Int)<((jf g x).length:Int))=false:=decide_eq_false (by omega)
     repeat' (first|((first|((with_reducible (first|apply oA|apply oB));exact rfl;intro K hK)|(refine hK _ ?_;clear hK K)|((with_reducible (first|apply oG|apply oH));iterate 3 exact rfl)|((with_reducible apply oI);(iterate 2 exact rfl);intro K hK)|(with_reducible (first|apply wI|apply wJ|apply wK)));try simp only [go_sem,simprocAttr,ak])|(with_reducible (first|apply oC|apply oJ|exact oK|apply wA|apply wB|apply wC hX hC|apply wD hX hC|apply wE hX hC af|apply wF hX hC af|apply wG|apply wH|apply And.intro))|((with_reducible refine oD ?_ ?_);kernel_rfl)|((with_reducible (first|apply oE|apply oF));(iterate 3 exact rfl);all_goals (intro h;first|(exact absurd h (by decide))|((try simp only [go_sem,simprocAttr,ak] at h);(try with_reducible intro K hK);simp only [go_sem,simprocAttr,ak])))|((first|((with_reducible apply wL);exact rfl)|((with_reducible apply wM);exact rfl));all_goals (try ((with_reducible intro h);first|(exact absurd h (by decide))|(try simp only [go_sem,simprocAttr,ak] at h))))|omega|((first|(refine ai hX hC hP (aU (cG g out) 0 AB) rfl rfl rfl ?_ ?_ ?_ ?_;iterate 3 (focus (simp only [go_sem,simprocAttr,ak];done))));try simp only [go_sem,simprocAttr,ak])|(intro h))
     have DT:=uL eR sC
     refine ⟨out++ [(x:Int)],⟨sC, ?_⟩, ?_,by omega⟩
     ·rw [← hrun,DT]
      simp only [ug,hx]
      rw [if_neg (by omega)]
     ·refine Le.of ?_ ?_<;>simp [go_sem,simprocAttr,ak,DR gJ hge]
end Go.Ab
end
section
namespace Go.Ab
open Go.Proofs
attribute [local congr] ACall.congr
set_option maxRecDepth 10000
def kU (l:List Int) (k:Nat):List Int:=(List.range l.length).map fun p=>if p<k∨l.length - 1<p+k then l.getD (l.length - 1 - p) 0 else l.getD p 0
theorem cg {l:List Int} {k:Nat} :(kU l k).length=l.length:=by simp [kU]
theorem jQ {l:List Int} {k p:Nat} (h:p<l.length):(kU l k)[p]? =some (if p<k∨l.length - 1<p+k then l.getD (l.length - 1 - p) 0 else l.getD p 0):=by
 simp [kU,List.getElem?_range h]
theorem s6 {l:List Int} {k p:Nat} (h:p<l.length) (d:Int):(kU l k).getD p d=if p<k∨l.length - 1<p+k then l.getD (l.length - 1 - p) 0 else l.getD p 0:=by
 rw [List.getD_eq_getElem?_getD,jQ h];rfl
theorem zK {l:List Int} :kU l 0=l:=by
 refine List.ext_getElem? fun i=> ?_
 by_cases hi:i<l.length
 ·rw [jQ hi,if_neg (by omega),List.getD_eq_getElem?_getD,List.getElem?_eq_getElem hi];rfl
 ·rw [List.getElem?_eq_none (by rw [cg];omega),List.getElem?_eq_none (by omega)]
theorem BS {l:List Int} {k:Nat} (h:l.length≤2*k+1):kU l k=l.reverse:=by
 refine List.ext_getElem? fun i=> ?_
 by_cases hi:i<l.length
 ·rw [jQ hi,List.getElem?_reverse hi]
  split
  ·rw [List.getD_eq_getElem?_getD,List.getElem?_eq_getElem (by omega)];rfl
  ·have:i=l.length - 1 - i:=by omega
   rw [← this,List.getD_eq_getElem?_getD,List.getElem?_eq_getElem hi];rfl
 ·rw [List.getElem?_eq_none (by rw [cg];omega),List.getElem?_eq_none (by rw [List.length_reverse];omega)]
theorem zL {l:List Int} {k:Nat} (h:k<l.length - 1 - k):((kU l k).set k ((kU l k).getD (l.length - 1 - k) 0)).set (l.length - 1 - k) ((kU l k).getD k 0)=kU l (k+1):=by
 refine List.ext_getElem? fun i=> ?_
 rw [List.getElem?_set,List.length_set,cg,List.getElem?_set,cg]
 by_cases hi:i<l.length
 ·rw [jQ hi,jQ hi,s6 (by omega),s6 (by omega)]
  by_cases h1:l.length - 1 - k=i
  ·rw [if_pos h1,if_pos (by omega),if_neg (by omega),if_pos (by omega)]
   congr 2;omega
  ·rw [if_neg h1]
   by_cases h2:k=i
   ·rw [if_pos h2,if_pos (by omega),if_neg (by omega),if_pos (by omega)]
    congr 2;omega
   ·rw [if_neg h2]
    congr 1
    by_cases h3:i<k∨l.length - 1<i+k
    ·rw [if_pos h3,if_pos (by omega)]
    ·rw [if_neg h3,if_neg (by omega)]
 ·rw [List.getElem?_eq_none (by rw [cg];omega),List.getElem?_eq_none (by rw [cg];omega),if_neg (by omega),if_neg (by omega)]
theorem ez (l:List Int) (hl:l.length≤1000000):Spec Tryz.prog 57 (Args [.ref 10000]) [(10000, .part 3 1 (l.map rI))] (.tup []) [(10000, .part 3 1 (l.reverse.map rI))]:=by
 (refine Spec.intro (C:=T.cfg [] []) (rs:= []) (T.aj _ _) Tryz.func57 rfl rfl Tryz.ntmps57 Tryz.results57 (by simp [AObj.isNest]) (by simp [AObj.isNest]) (by kernel_rfl) ?_;intro X hX hP hC aD aF vals hA;refine ⟨_,by simp,hA, ?_⟩;have af:X.P.follows .mixedOrders=true:=(by rw [hP];exact T.mixed);clear aD aF)
 repeat' (first|((first|((with_reducible (first|apply oA|apply oB));exact rfl;intro K hK)|(refine hK _ ?_;clear hK K)|((with_reducible (first|apply oG|apply oH));iterate 3 exact rfl)|((with_reducible apply oI);(iterate 2 exact rfl);intro K hK)|(with_reducible (first|apply wI|apply wJ|apply wK)));try simp only [go_sem,simprocAttr])|(with_reducible (first|apply oC|apply oJ|exact oK|apply wA|apply wB|apply wC hX hC|apply wD hX hC|apply wE hX hC af|apply wF hX hC af|apply wG|apply wH|apply And.intro))|((with_reducible refine oD ?_ ?_);kernel_rfl)|((with_reducible (first|apply oE|apply oF));(iterate 3 exact rfl);all_goals (intro h;first|(exact absurd h (by decide))|((try simp only [go_sem,simprocAttr] at h);(try with_reducible intro K hK);simp only [go_sem,simprocAttr])))|((first|((with_reducible apply wL);exact rfl)|((with_reducible apply wM);exact rfl));all_goals (try ((with_reducible intro h);first|(exact absurd h (by decide))|(try simp only [go_sem,simprocAttr] at h))))|omega|(intro h))
 refine ah (fun k:Nat=>2*k≤l.length+1) (fun k=>⟨[(0, .ref 10000),(2,eN k),(3,eN ((l.length:Int) - 1 - k))], [(10000, .part 3 1 ((kU l k).map rI))]⟩) (fun k=>l.length+1 - k) 0 (by omega) ?_ ?_
 ·refine Le.of ?_ ?_<;>simp [go_sem,simprocAttr,zK]
 rintro k hk
 rcases Nat.lt_or_ge (2*k+1) l.length with hlt|hge
 ·have hb:decide ((k:Int)<(l.length:Int) - 1 - (k:Int))=true:=decide_eq_true (by omega)
  have ht:((l.length:Int) - 1 - (k:Int)).toNat=l.length - 1 - k:=by omega
  repeat' (first|((first|((with_reducible (first|apply oA|apply oB));exact rfl;intro K hK)|(refine hK _ ?_;clear hK K)|((with_reducible (first|apply oG|apply oH));iterate 3 exact rfl)|((with_reducible apply oI);(iterate 2 exact rfl);intro K hK)|(with_reducible (first|apply wI|apply wJ|apply wK)));try simp only [go_sem,simprocAttr,hb,ht,cg,lJ])|(with_reducible (first|apply oC|apply oJ|exact oK|apply wA|apply wB|apply wC hX hC|apply wD hX hC|apply wE hX hC af|apply wF hX hC af|apply wG|apply wH|apply And.intro))|((with_reducible refine oD ?_ ?_);kernel_rfl)|((with_reducible (first|apply oE|apply oF));(iterate 3 exact rfl);all_goals (intro h;first|(exact absurd h (by decide))|((try simp only [go_sem,simprocAttr,hb,ht,cg,lJ] at h);(try with_reducible intro K hK);simp only [go_sem,simprocAttr,hb,ht,cg,lJ])))|((first|((with_reducible apply wL);exact rfl)|((with_reducible apply wM);exact rfl));all_goals (try ((with_reducible intro h);first|(exact absurd h (by decide))|(try simp only [go_sem,simprocAttr,hb,ht,cg,lJ] at h))))|omega|(intro h))
  refine ⟨k+1,by omega, ?_,by omega⟩
  refine Le.of ?_ ?_<;>simp [go_sem,simprocAttr]
  ·omega
  ·rw [← zL (by omega),List.map_set,List.map_set]
   simp only [List.getD_eq_getElem?_getD]
 ·have hb:decide ((k:Int)<(l.length:Int) - 1 - (k:Int))=false:=decide_eq_false (by omega)
  repeat' (first|((first|((with_reducible (first|apply oA|apply oB));exact rfl;intro K hK)|(refine hK _ ?_;clear hK K)|((with_reducible (first|apply oG|apply oH));iterate 3 exact rfl)|((with_reducible apply oI);(iterate 2 exact rfl);intro K hK)|(with_reducible (first|apply wI|apply wJ|apply wK)));try simp only [go_sem,simprocAttr,hb])|(with_reducible (first|apply oC|apply oJ|exact oK|apply wA|apply wB|apply wC hX hC|apply wD hX hC|apply wE hX hC af|apply wF hX hC af|apply wG|apply wH|apply And.intro))|((with_reducible refine oD ?_ ?_);kernel_rfl)|((with_reducible (first|apply oE|apply oF));(iterate 3 exact rfl);all_goals (intro h;first|(exact absurd h (by decide))|((try simp only [go_sem,simprocAttr,hb] at h);(try with_reducible intro K hK);simp only [go_sem,simprocAttr,hb])))|((first|((with_reducible apply wL);exact rfl)|((with_reducible apply wM);exact rfl));all_goals (try ((with_reducible intro h);first|(exact absurd h (by decide))|(try simp only [go_sem,simprocAttr,hb] at h))))|omega|(intro h))
  simp only [go_sem,simprocAttr,hb,BS hge]
def iy:List Int→Int
 | []=>0
 |a::r=>r.foldl min a
theorem BU {l:List Int} {k:Nat} (h0:0<k) (h:k<l.length):iy (l.take (k+1))=min (iy (l.take k)) (l.getD k 0):=by
 cases l with
 |nil=>simp at h
 |cons a r=>
  obtain ⟨k,rfl⟩:∃j,k=j+1:=⟨k - 1,by omega⟩
  simp only [List.length_cons] at h
  simp only [List.take_succ_cons,iy,List.getD_cons_succ]
  rw [List.take_add_one,List.foldl_append,List.getElem?_eq_getElem (by omega),List.getD_eq_getElem?_getD,List.getElem?_eq_getElem (by omega)]
  rfl
theorem DU {l:List Int} (h:0<l.length):iy (l.take 1)=l.getD 0 0:=by
 cases l with
 |nil=>simp at h
 |cons a r=>simp [iy]
theorem jR (l:List Int) (h0:0<l.length) (hl:l.length≤1000000):Spec Tryz.prog 124 (Args [.d (sI l)]) [] (eN (iy l)) []:=by
 (refine Spec.intro (C:=T.cfg [] []) (rs:= [.t 2]) (T.aj _ _) Tryz.func124 rfl rfl Tryz.ntmps124 Tryz.results124 (by simp [AObj.isNest]) (by simp [AObj.isNest]) (by kernel_rfl) ?_;intro X hX hP hC aD aF vals hA;refine ⟨_,by simp,hA, ?_⟩;have af:X.P.follows .mixedOrders=true:=(by rw [hP];exact T.mixed);clear aD aF)
 repeat' (first|((first|((with_reducible (first|apply oA|apply oB));exact rfl;intro K hK)|(refine hK _ ?_;clear hK K)|((with_reducible (first|apply oG|apply oH));iterate 3 exact rfl)|((with_reducible apply oI);(iterate 2 exact rfl);intro K hK)|(with_reducible (first|apply wI|apply wJ|apply wK)));try simp only [go_sem,simprocAttr])|(with_reducible (first|apply oC|apply oJ|exact oK|apply wA|apply wB|apply wC hX hC|apply wD hX hC|apply wE hX hC af|apply wF hX hC af|apply wG|apply wH|apply And.intro))|((with_reducible refine oD ?_ ?_);kernel_rfl)|((with_reducible (first|apply oE|apply oF));(iterate 3 exact rfl);all_goals (intro h;first|(exact absurd h (by decide))|((try simp only [go_sem,simprocAttr] at h);(try with_reducible intro K hK);simp only [go_sem,simprocAttr])))|((first|((with_reducible apply wL);exact rfl)|((with_reducible apply wM);exact rfl));all_goals (try ((with_reducible intro h);first|(exact absurd h (by decide))|(try simp only [go_sem,simprocAttr] at h))))|omega|(intro h))
 refine ah (fun k:Nat=>0<k∧k≤l.length) (fun k=>⟨[(0, .d (sI l)),(3,eN (iy (l.take k))),(4,eN k)], []⟩) (fun k=>l.length - k) 1 (by omega) ?_ ?_
 ·refine Le.of ?_ ?_<;>simp [go_sem,simprocAttr,DU h0]
 rintro k ⟨xJ,hk⟩
 repeat' (first|((first|((with_reducible (first|apply oA|apply oB));exact rfl;intro K hK)|(refine hK _ ?_;clear hK K)|((with_reducible (first|apply oG|apply oH));iterate 3 exact rfl)|((with_reducible apply oI);(iterate 2 exact rfl);intro K hK)|(with_reducible (first|apply wI|apply wJ|apply wK)));try simp only [go_sem,simprocAttr])|(with_reducible (first|apply oC|apply oJ|exact oK|apply wA|apply wB|apply wC hX hC|apply wD hX hC|apply wE hX hC af|apply wF hX hC af|apply wG|apply wH|apply And.intro))|((with_reducible refine oD ?_ ?_);kernel_rfl)|((with_reducible (first|apply oE|apply oF));(iterate 3 exact rfl);all_goals (intro h;first|(exact absurd h (by decide))|((try simp only [go_sem,simprocAttr] at h);(try with_reducible intro K hK);simp only [go_sem,simprocAttr])))|((first|((with_reducible apply wL);exact rfl)|((with_reducible apply wM);exact rfl));all_goals (try ((with_reducible intro h);first|(exact absurd h (by decide))|(try simp only [go_sem,simprocAttr] at h))))|omega|(intro h))
 ·refine ⟨k+1,by omega, ?_,by omega⟩
  refine Le.of ?_ ?_<;>simp [go_sem,simprocAttr]
  rw [BU xJ (by omega),List.getD_eq_getElem?_getD]
 ·rw [List.take_of_length_le (by omega)]
theorem fG (n:Int) (h0:0<n) (hl:n≤1000000):Spec Tryz.prog 91 (Args [.nil 3,eN n]) [] (.ref 10000) [(10000, .own 3 1 [])]:=by
 (refine Spec.dY (C:=T.cfg [] []) (rs:= [.t 4]) [(10000,25)] (T.aj _ _) Tryz.func91 rfl rfl Tryz.ntmps91 Tryz.results91 (by simp [AObj.isNest]) (by simp [AObj.isNest]) (by first|(simp [look];done)|(simp [asN];done)|(intro l hl;simp only [asN];repeat (rw [if_neg (fun e=>by subst e;simp [look] at hl)]))) (by first|(simp [look];done)|(simp [asN];done)|(intro l hl;simp only [asN];repeat (rw [if_neg (fun e=>by subst e;simp [look] at hl)]))) (by kernel_rfl) ?_;intro X hX hP hC aD aF vals hA;refine ⟨_,by simp,hA, ?_⟩;have af:X.P.follows .mixedOrders=true:=(by rw [hP];exact T.mixed);clear aD aF)
 repeat' (first|((first|((with_reducible (first|apply oA|apply oB));exact rfl;intro K hK)|(refine hK _ ?_;clear hK K)|((with_reducible (first|apply oG|apply oH));iterate 3 exact rfl)|((with_reducible apply oI);(iterate 2 exact rfl);intro K hK)|(with_reducible (first|apply wI|apply wJ|apply wK)));try simp only [go_sem,simprocAttr])|(with_reducible (first|apply oC|apply oJ|exact oK|apply wA|apply wB|apply wC hX hC|apply wD hX hC|apply wE hX hC af|apply wF hX hC af|apply wG|apply wH|apply And.intro))|((with_reducible refine oD ?_ ?_);kernel_rfl)|((with_reducible (first|apply oE|apply oF));(iterate 3 exact rfl);all_goals (intro h;first|(exact absurd h (by decide))|((try simp only [go_sem,simprocAttr] at h);(try with_reducible intro K hK);simp only [go_sem,simprocAttr])))|((first|((with_reducible apply wL);exact rfl)|((with_reducible apply wM);exact rfl));all_goals (try ((with_reducible intro h);first|(exact absurd h (by decide))|(try simp only [go_sem,simprocAttr] at h))))|omega|(intro h))
end Go.Ab
end
section
namespace Go.Ab
open Go.Proofs
attribute [local congr] ACall.congr
set_option maxRecDepth 10000
def vL (ls:List (List Int)):List (List D):=ls.map fun l=> [sI l]
theorem vL_length {ls:List (List Int)} :(vL ls).length=ls.length:=by simp [vL]
theorem wo {ls:List (List Int)} {k:Nat} (h:k<ls.length) (d:List D):(vL ls).getD k d= [sI (ls.getD k [])]:=by
 simp [vL,List.getD_eq_getElem?_getD,List.getElem?_eq_getElem h]
attribute [go_sem] vL_length
theorem uM {ls:List (List Int)} {k:Nat} (h:k<ls.length):(ls.take (k+1)).flatten=(ls.take k).flatten++ls.getD k []:=by
 rw [List.take_add_one,List.flatten_append,List.getElem?_eq_getElem h,List.getD_eq_getElem?_getD,List.getElem?_eq_getElem h]
 simp
theorem rq {ls:List (List Int)} {k:Nat} :(ls.take k).flatten.length≤ls.flatten.length:=by
 have:=congrArg (fun x=>x.flatten.length) (List.take_append_drop k ls)
 simp only [List.flatten_append,List.length_append] at this
 omega
theorem ef (ls:List (List Int)) (hn:ls.length≤1000) (h0:0<ls.flatten.length) (hl:ls.flatten.length≤1000000):Spec Tryz.prog 54 (Args [.d (.sl 1 (vL ls))]) [] (.d (sI ls.flatten)) []:=by
 (refine Spec.intro (C:=T.cfg [] []) (rs:= [.t 2]) (T.aj _ _) Tryz.func54 rfl rfl Tryz.ntmps54 Tryz.results54 (by simp [AObj.isNest]) (by simp [AObj.isNest]) (by kernel_rfl) ?_;intro X hX hP hC aD aF vals hA;refine ⟨_,by simp,hA, ?_⟩;have af:X.P.follows .mixedOrders=true:=(by rw [hP];exact T.mixed);clear aD aF)
 repeat' (first|((first|((with_reducible (first|apply oA|apply oB));exact rfl;intro K hK)|(refine hK _ ?_;clear hK K)|((with_reducible (first|apply oG|apply oH));iterate 3 exact rfl)|((with_reducible apply oI);(iterate 2 exact rfl);intro K hK)|(with_reducible (first|apply wI|apply wJ|apply wK)));try simp only [go_sem,simprocAttr])|(with_reducible (first|apply oC|apply oJ|exact oK|apply wA|apply wB|apply wC hX hC|apply wD hX hC|apply wE hX hC af|apply wF hX hC af|apply wG|apply wH|apply And.intro))|((with_reducible refine oD ?_ ?_);kernel_rfl)|((with_reducible (first|apply oE|apply oF));(iterate 3 exact rfl);all_goals (intro h;first|(exact absurd h (by decide))|((try simp only [go_sem,simprocAttr] at h);(try with_reducible intro K hK);simp only [go_sem,simprocAttr])))|((first|((with_reducible apply wL);exact rfl)|((with_reducible apply wM);exact rfl));all_goals (try ((with_reducible intro h);first|(exact absurd h (by decide))|(try simp only [go_sem,simprocAttr] at h))))|omega|((first|(refine au hX hC hP [(10000,33)] (fG (ls.flatten.length:Int) (by omega) (by omega)) rfl rfl rfl ?_ ?_ ?_ ?_ ?_ ?_ ?_ ?_ ?_ ?_ ?_ ?_ ?_ ?_;(focus (simp only [go_sem,simprocAttr];done));(iterate 12 (focus (simp [go_sem,simprocAttr];done)));simp only [go_sem,simprocAttr,List.map_cons,List.map_nil]));try simp only [go_sem,simprocAttr])|(intro h))
 refine ah (fun k:Nat=>k≤ls.length) (fun k=>⟨[(0, .d (.sl 1 (vL ls))),(9, .d (.sl 1 (vL ls))),(10,eN ls.length),(11,eN k),(3,eN ((ls.take k).flatten.length))], []⟩) (fun k=>ls.length - k) 0 (by omega) ?_ ?_
 ·(refine Le.of ?_ ?_<;>simp [go_sem,simprocAttr])
 ·rintro k hk
  rcases Nat.lt_or_ge k ls.length with hlt|hge
  ·have hb:decide ((k:Int)<(ls.length:Int))=true:=decide_eq_true (by omega)
   have hv:=wo hlt
   have hf:=uM hlt
   have KZ:=rq (ls:=ls) (k:=k)
   have HW:=rq (ls:=ls) (k:=k+1)
   rw [hf,List.length_append] at HW
   have hneg:decide (((ls.take k).flatten.length:Int)+((ls.getD k []).length:Int)<0)=false:=decide_eq_false (by omega)
   repeat' (first|((first|((with_reducible (first|apply oA|apply oB));exact rfl;intro K hK)|(refine hK _ ?_;clear hK K)|((with_reducible (first|apply oG|apply oH));iterate 3 exact rfl)|((with_reducible apply oI);(iterate 2 exact rfl);intro K hK)|(with_reducible (first|apply wI|apply wJ|apply wK)));try simp only [go_sem,simprocAttr,hb,hv,hneg])|(with_reducible (first|apply oC|apply oJ|exact oK|apply wA|apply wB|apply wC hX hC|apply wD hX hC|apply wE hX hC af|apply wF hX hC af|apply wG|apply wH|apply And.intro))|((with_reducible refine oD ?_ ?_);kernel_rfl)|((with_reducible (first|apply oE|apply oF));(iterate 3 exact rfl);all_goals (intro h;first|(exact absurd h (by decide))|((try simp only [go_sem,simprocAttr,hb,hv,hneg] at h);(try with_reducible intro K hK);simp only [go_sem,simprocAttr,hb,hv,hneg])))|((first|((with_reducible apply wL);exact rfl)|((with_reducible apply wM);exact rfl));all_goals (try ((with_reducible intro h);first|(exact absurd h (by decide))|(try simp only [go_sem,simprocAttr,hb,hv,hneg] at h))))|omega|((first|(refine au hX hC hP [(10000,33)] (fG (ls.flatten.length:Int) (by omega) (by omega)) rfl rfl rfl ?_ ?_ ?_ ?_ ?_ ?_ ?_ ?_ ?_ ?_ ?_ ?_ ?_ ?_;(focus (simp only [go_sem,simprocAttr,hb,hv,hneg];done));(iterate 12 (focus (simp [go_sem,simprocAttr,hb,hv,hneg];done)));simp only [go_sem,simprocAttr,hb,hv,hneg,List.map_cons,List.map_nil]));try simp only [go_sem,simprocAttr,hb,hv,hneg])|(intro h))
   refine ⟨k+1,by omega, ?_,by omega⟩
   simp only [hf]
   refine Le.of ?_ ?_<;>simp [go_sem,simprocAttr,hb,hv,hneg]
  ·have hb:decide ((k:Int)<(ls.length:Int))=false:=decide_eq_false (by omega)
   have ht:ls.take k=ls:=List.take_of_length_le (by omega)
   repeat' (first|((first|((with_reducible (first|apply oA|apply oB));exact rfl;intro K hK)|(refine hK _ ?_;clear hK K)|((with_reducible (first|apply oG|apply oH));iterate 3 exact rfl)|((with_reducible apply oI);(iterate 2 exact rfl);intro K hK)|(with_reducible (first|apply wI|apply wJ|apply wK)));try simp only [go_sem,simprocAttr,hb,ht])|(with_reducible (first|apply oC|apply oJ|exact oK|apply wA|apply wB|apply wC hX hC|apply wD hX hC|apply wE hX hC af|apply wF hX hC af|apply wG|apply wH|apply And.intro))|((with_reducible refine oD ?_ ?_);kernel_rfl)|((with_reducible (first|apply oE|apply oF));(iterate 3 exact rfl);all_goals (intro h;first|(exact absurd h (by decide))|((try simp only [go_sem,simprocAttr,hb,ht] at h);(try with_reducible intro K hK);simp only [go_sem,simprocAttr,hb,ht])))|((first|((with_reducible apply wL);exact rfl)|((with_reducible apply wM);exact rfl));all_goals (try ((with_reducible intro h);first|(exact absurd h (by decide))|(try simp only [go_sem,simprocAttr,hb,ht] at h))))|omega|((first|(refine au hX hC hP [(10000,33)] (fG (ls.flatten.length:Int) (by omega) (by omega)) rfl rfl rfl ?_ ?_ ?_ ?_ ?_ ?_ ?_ ?_ ?_ ?_ ?_ ?_ ?_ ?_;(focus (simp only [go_sem,simprocAttr,hb,ht];done));(iterate 12 (focus (simp [go_sem,simprocAttr,hb,ht];done)));simp only [go_sem,simprocAttr,hb,ht,List.map_cons,List.map_nil]));try simp only [go_sem,simprocAttr,hb,ht])|(intro h))
   refine ah (fun k:Nat=>k≤ls.length) (fun k=>⟨[(25, .d (.sl 1 (vL ls))),(26,eN ls.length),(27,eN k),(6, .ref 33)], [(33, .own 3 1 ((ls.take k).flatten.map rI))]⟩) (fun k=>ls.length - k) 0 (by omega) ?_ ?_
   ·(refine Le.of ?_ ?_<;>simp [go_sem,simprocAttr,hb,ht])
   ·clear hb ht hk hge
    rintro k hk
    rcases Nat.lt_or_ge k ls.length with hlt|hge
    ·have hb:decide ((k:Int)<(ls.length:Int))=true:=decide_eq_true (by omega)
     have hv:=wo hlt
     have hf:=uM hlt
     have KZ:=rq (ls:=ls) (k:=k)
     have HW:=rq (ls:=ls) (k:=k+1)
     rw [hf,List.length_append] at HW
     repeat' (first|((first|((with_reducible (first|apply oA|apply oB));exact rfl;intro K hK)|(refine hK _ ?_;clear hK K)|((with_reducible (first|apply oG|apply oH));iterate 3 exact rfl)|((with_reducible apply oI);(iterate 2 exact rfl);intro K hK)|(with_reducible (first|apply wI|apply wJ|apply wK)));try simp only [go_sem,simprocAttr,hb,hv])|(with_reducible (first|apply oC|apply oJ|exact oK|apply wA|apply wB|apply wC hX hC|apply wD hX hC|apply wE hX hC af|apply wF hX hC af|apply wG|apply wH|apply And.intro))|((with_reducible refine oD ?_ ?_);kernel_rfl)|((with_reducible (first|apply oE|apply oF));(iterate 3 exact rfl);all_goals (intro h;first|(exact absurd h (by decide))|((try simp only [go_sem,simprocAttr,hb,hv] at h);(try with_reducible intro K hK);simp only [go_sem,simprocAttr,hb,hv])))|((first|((with_reducible apply wL);exact rfl)|((with_reducible apply wM);exact rfl));all_goals (try ((with_reducible intro h);first|(exact absurd h (by decide))|(try simp only [go_sem,simprocAttr,hb,hv] at h))))|omega|((first|(refine au hX hC hP [(10000,33)] (fG (ls.flatten.length:Int) (by omega) (by omega)) rfl rfl rfl ?_ ?_ ?_ ?_ ?_ ?_ ?_ ?_ ?_ ?_ ?_ ?_ ?_ ?_;(focus (simp only [go_sem,simprocAttr,hb,hv];done));(iterate 12 (focus (simp [go_sem,simprocAttr,hb,hv];done)));simp only [go_sem,simprocAttr,hb,hv,List.map_cons,List.map_nil]));try simp only [go_sem,simprocAttr,hb,hv])|(intro h))
     refine ⟨k+1,by omega, ?_,by omega⟩
     simp only [hf]
     refine Le.of ?_ ?_<;>simp [go_sem,simprocAttr,hb,hv]
    ·have hb:decide ((k:Int)<(ls.length:Int))=false:=decide_eq_false (by omega)
     have ht:ls.take k=ls:=List.take_of_length_le (by omega)
     repeat' (first|((first|((with_reducible (first|apply oA|apply oB));exact rfl;intro K hK)|(refine hK _ ?_;clear hK K)|((with_reducible (first|apply oG|apply oH));iterate 3 exact rfl)|((with_reducible apply oI);(iterate 2 exact rfl);intro K hK)|(with_reducible (first|apply wI|apply wJ|apply wK)));try simp only [go_sem,simprocAttr,hb,ht])|(with_reducible (first|apply oC|apply oJ|exact oK|apply wA|apply wB|apply wC hX hC|apply wD hX hC|apply wE hX hC af|apply wF hX hC af|apply wG|apply wH|apply And.intro))|((with_reducible refine oD ?_ ?_);kernel_rfl)|((with_reducible (first|apply oE|apply oF));(iterate 3 exact rfl);all_goals (intro h;first|(exact absurd h (by decide))|((try simp only [go_sem,simprocAttr,hb,ht] at h);(try with_reducible intro K hK);simp only [go_sem,simprocAttr,hb,ht])))|((first|((with_reducible apply wL);exact rfl)|((with_reducible apply wM);exact rfl));all_goals (try ((with_reducible intro h);first|(exact absurd h (by decide))|(try simp only [go_sem,simprocAttr,hb,ht] at h))))|omega|((first|(refine au hX hC hP [(10000,33)] (fG (ls.flatten.length:Int) (by omega) (by omega)) rfl rfl rfl ?_ ?_ ?_ ?_ ?_ ?_ ?_ ?_ ?_ ?_ ?_ ?_ ?_ ?_;(focus (simp only [go_sem,simprocAttr,hb,ht];done));(iterate 12 (focus (simp [go_sem,simprocAttr,hb,ht];done)));simp only [go_sem,simprocAttr,hb,ht,List.map_cons,List.map_nil]));try simp only [go_sem,simprocAttr,hb,ht])|(intro h))
def iN (ls:List (List Int)) (k:Nat):List Int:=((List.range k).filter fun x=>decide ((ls.getD x []).length=0)).map Int.ofNat
theorem nJ {ls:List (List Int)} {k:Nat} :iN ls (k+1)=iN ls k++if (ls.getD k []).length=0 then [(k:Int)] else []:=by
 simp only [iN,List.range_succ,List.filter_append,List.map_append,List.filter_cons,List.filter_nil]
 split<;>simp_all
theorem uN {ls:List (List Int)} {k:Nat} :(iN ls k).length≤k:=by
 simpa [iN] using List.length_filter_le (fun x=>decide ((ls.getD x []).length=0)) (List.range k)
theorem uO (ls:List (List Int)) (hn:ls.length≤1000):Spec Tryz.prog 61 (Args [.d (.sl 1 (vL ls))]) [] (.d (sI (iN ls ls.length))) []:=by
 (refine Spec.intro (C:=T.cfg [] []) (rs:= [.t 2]) (T.aj _ _) Tryz.func61 rfl rfl Tryz.ntmps61 Tryz.results61 (by simp [AObj.isNest]) (by simp [AObj.isNest]) (by kernel_rfl) ?_;intro X hX hP hC aD aF vals hA;refine ⟨_,by simp,hA, ?_⟩;have af:X.P.follows .mixedOrders=true:=(by rw [hP];exact T.mixed);clear aD aF)
 repeat' (first|((first|((with_reducible (first|apply oA|apply oB));exact rfl;intro K hK)|(refine hK _ ?_;clear hK K)|((with_reducible (first|apply oG|apply oH));iterate 3 exact rfl)|((with_reducible apply oI);(iterate 2 exact rfl);intro K hK)|(with_reducible (first|apply wI|apply wJ|apply wK)));try simp only [go_sem,simprocAttr])|(with_reducible (first|apply oC|apply oJ|exact oK|apply wA|apply wB|apply wC hX hC|apply wD hX hC|apply wE hX hC af|apply wF hX hC af|apply wG|apply wH|apply And.intro))|((with_reducible refine oD ?_ ?_);kernel_rfl)|((with_reducible (first|apply oE|apply oF));(iterate 3 exact rfl);all_goals (intro h;first|(exact absurd h (by decide))|((try simp only [go_sem,simprocAttr] at h);(try with_reducible intro K hK);simp only [go_sem,simprocAttr])))|((first|((with_reducible apply wL);exact rfl)|((with_reducible apply wM);exact rfl));all_goals (try ((with_reducible intro h);first|(exact absurd h (by decide))|(try simp only [go_sem,simprocAttr] at h))))|omega|((first|(refine au hX hC hP [(10000,33)] (fG (ls.flatten.length:Int) (by omega) (by omega)) rfl rfl rfl ?_ ?_ ?_ ?_ ?_ ?_ ?_ ?_ ?_ ?_ ?_ ?_ ?_ ?_;(focus (simp only [go_sem,simprocAttr];done));(iterate 12 (focus (simp [go_sem,simprocAttr];done)));simp only [go_sem,simprocAttr,List.map_cons,List.map_nil]));try simp only [go_sem,simprocAttr])|(intro h))
 (refine ji hX 2 18 (.tip 3 1 []) (by simp only [go_sem,simprocAttr]) (by simp only [go_sem,simprocAttr]) (by decide) ⟨3,1,by decide, .inr rfl⟩ ?_;simp only [go_sem,simprocAttr])
 refine ah (fun k:Nat=>k≤ls.length) (fun k=>⟨[(5, .d (.sl 1 (vL ls))),(6,eN ls.length),(7,eN k),(2, .ref 18)], [(18, .tip 3 1 ((iN ls k).map rI))]⟩) (fun k=>ls.length - k) 0 (by omega) ?_ ?_
 ·refine Le.of ?_ ?_<;>simp [go_sem,simprocAttr,iN]
 ·rintro k hk
  rcases Nat.lt_or_ge k ls.length with hlt|hge
  ·have hb:decide ((k:Int)<(ls.length:Int))=true:=decide_eq_true (by omega)
   have hv:=wo hlt
   have hlen:=uN (ls:=ls) (k:=k)
   repeat' (first|((first|((with_reducible (first|apply oA|apply oB));exact rfl;intro K hK)|(refine hK _ ?_;clear hK K)|((with_reducible (first|apply oG|apply oH));iterate 3 exact rfl)|((with_reducible apply oI);(iterate 2 exact rfl);intro K hK)|(with_reducible (first|apply wI|apply wJ|apply wK)));try simp only [go_sem,simprocAttr,hb,hv])|(with_reducible (first|apply oC|apply oJ|exact oK|apply wA|apply wB|apply wC hX hC|apply wD hX hC|apply wE hX hC af|apply wF hX hC af|apply wG|apply wH|apply And.intro))|((with_reducible refine oD ?_ ?_);kernel_rfl)|((with_reducible (first|apply oE|apply oF));(iterate 3 exact rfl);all_goals (intro h;first|(exact absurd h (by decide))|((try simp only [go_sem,simprocAttr,hb,hv] at h);(try with_reducible intro K hK);simp only [go_sem,simprocAttr,hb,hv])))|((first|((with_reducible apply wL);exact rfl)|((with_reducible apply wM);exact rfl));all_goals (try ((with_reducible intro h);first|(exact absurd h (by decide))|(try simp only [go_sem,simprocAttr,hb,hv] at h))))|omega|((first|(refine au hX hC hP [(10000,33)] (fG (ls.flatten.length:Int) (by omega) (by omega)) rfl rfl rfl ?_ ?_ ?_ ?_ ?_ ?_ ?_ ?_ ?_ ?_ ?_ ?_ ?_ ?_;(focus (simp only [go_sem,simprocAttr,hb,hv];done));(iterate 12 (focus (simp [go_sem,simprocAttr,hb,hv];done)));simp only [go_sem,simprocAttr,hb,hv,List.map_cons,List.map_nil]));try simp only [go_sem,simprocAttr,hb,hv])|(intro h))
   ·refine ⟨k+1,by omega, ?_,by omega⟩
    rw [nJ,if_pos (by omega)]
    refine Le.of ?_ ?_<;>simp [go_sem,simprocAttr,hb,hv]
    rfl
   ·refine ⟨k+1,by omega, ?_,by omega⟩
    rw [nJ,if_neg (by omega),List.append_nil]
    refine Le.of ?_ ?_<;>simp [go_sem,simprocAttr,hb,hv]
  ·have hb:decide ((k:Int)<(ls.length:Int))=false:=decide_eq_false (by omega)
   obtain rfl:k=ls.length:=by omega
   repeat' (first|((first|((with_reducible (first|apply oA|apply oB));exact rfl;intro K hK)|(refine hK _ ?_;clear hK K)|((with_reducible (first|apply oG|apply oH));iterate 3 exact rfl)|((with_reducible apply oI);(iterate 2 exact rfl);intro K hK)|(with_reducible (first|apply wI|apply wJ|apply wK)));try simp only [go_sem,simprocAttr,hb])|(with_reducible (first|apply oC|apply oJ|exact oK|apply wA|apply wB|apply wC hX hC|apply wD hX hC|apply wE hX hC af|apply wF hX hC af|apply wG|apply wH|apply And.intro))|((with_reducible refine oD ?_ ?_);kernel_rfl)|((with_reducible (first|apply oE|apply oF));(iterate 3 exact rfl);all_goals (intro h;first|(exact absurd h (by decide))|((try simp only [go_sem,simprocAttr,hb] at h);(try with_reducible intro K hK);simp only [go_sem,simprocAttr,hb])))|((first|((with_reducible apply wL);exact rfl)|((with_reducible apply wM);exact rfl));all_goals (try ((with_reducible intro h);first|(exact absurd h (by decide))|(try simp only [go_sem,simprocAttr,hb] at h))))|omega|((first|(refine au hX hC hP [(10000,33)] (fG (ls.flatten.length:Int) (by omega) (by omega)) rfl rfl rfl ?_ ?_ ?_ ?_ ?_ ?_ ?_ ?_ ?_ ?_ ?_ ?_ ?_ ?_;(focus (simp only [go_sem,simprocAttr,hb];done));(iterate 12 (focus (simp [go_sem,simprocAttr,hb];done)));simp only [go_sem,simprocAttr,hb,List.map_cons,List.map_nil]));try simp only [go_sem,simprocAttr,hb])|(intro h))
theorem DV {f:Edge→Int} {g:Gr} :Fs f g=vL (de f g):=rfl
theorem iz {f:Edge→Int} {g:Gr} :(de f g).length=g.n.toNat:=by simp [de]
def bS (f:Edge→Int) (g:Gr):List Int:=iN (de f g) g.n.toNat
theorem eA (g:Gr) (hm:aP g=true):Spec Tryz.prog 28 (Args [.d (vw g)]) [] (.d (sI (bS (·.2) g))) []:=by
 rw [ag]
 have hn:=aT hm
 have hle:(de (·.2) g).length≤1000:=by rw [iz];omega
 (refine Spec.intro (C:=T.cfg [] []) (rs:= [.t 2]) (T.aj _ _) Tryz.func28 rfl rfl Tryz.ntmps28 Tryz.results28 (by simp [AObj.isNest]) (by simp [AObj.isNest]) (by kernel_rfl) ?_;intro X hX hP hC aD aF vals hA;refine ⟨_,by simp,hA, ?_⟩;have af:X.P.follows .mixedOrders=true:=(by rw [hP];exact T.mixed);clear aD aF)
 repeat' (first|((first|((with_reducible (first|apply oA|apply oB));exact rfl;intro K hK)|(refine hK _ ?_;clear hK K)|((with_reducible (first|apply oG|apply oH));iterate 3 exact rfl)|((with_reducible apply oI);(iterate 2 exact rfl);intro K hK)|(with_reducible (first|apply wI|apply wJ|apply wK)));try simp only [go_sem,simprocAttr])|(with_reducible (first|apply oC|apply oJ|exact oK|apply wA|apply wB|apply wC hX hC|apply wD hX hC|apply wE hX hC af|apply wF hX hC af|apply wG|apply wH|apply And.intro))|((with_reducible refine oD ?_ ?_);kernel_rfl)|((with_reducible (first|apply oE|apply oF));(iterate 3 exact rfl);all_goals (intro h;first|(exact absurd h (by decide))|((try simp only [go_sem,simprocAttr] at h);(try with_reducible intro K hK);simp only [go_sem,simprocAttr])))|((first|((with_reducible apply wL);exact rfl)|((with_reducible apply wM);exact rfl));all_goals (try ((with_reducible intro h);first|(exact absurd h (by decide))|(try simp only [go_sem,simprocAttr] at h))))|omega|((first|(rw [DV];refine aa hX hC hP (uO (de (·.2) g) hle) rfl rfl rfl (by simp only [go_sem,simprocAttr]) rfl ?_));try simp only [go_sem,simprocAttr])|(intro h))
 rw [iz];rfl
theorem s7 (g:Gr) (hm:aP g=true):Spec Tryz.prog 29 (Args [.d (vw g)]) [] (.d (sI (bS (·.1) g))) []:=by
 rw [ag]
 have hn:=aT hm
 have hle:(de (·.1) g).length≤1000:=by rw [iz];omega
 (refine Spec.intro (C:=T.cfg [] []) (rs:= [.t 2]) (T.aj _ _) Tryz.func29 rfl rfl Tryz.ntmps29 Tryz.results29 (by simp [AObj.isNest]) (by simp [AObj.isNest]) (by kernel_rfl) ?_;intro X hX hP hC aD aF vals hA;refine ⟨_,by simp,hA, ?_⟩;have af:X.P.follows .mixedOrders=true:=(by rw [hP];exact T.mixed);clear aD aF)
 repeat' (first|((first|((with_reducible (first|apply oA|apply oB));exact rfl;intro K hK)|(refine hK _ ?_;clear hK K)|((with_reducible (first|apply oG|apply oH));iterate 3 exact rfl)|((with_reducible apply oI);(iterate 2 exact rfl);intro K hK)|(with_reducible (first|apply wI|apply wJ|apply wK)));try simp only [go_sem,simprocAttr])|(with_reducible (first|apply oC|apply oJ|exact oK|apply wA|apply wB|apply wC hX hC|apply wD hX hC|apply wE hX hC af|apply wF hX hC af|apply wG|apply wH|apply And.intro))|((with_reducible refine oD ?_ ?_);kernel_rfl)|((with_reducible (first|apply oE|apply oF));(iterate 3 exact rfl);all_goals (intro h;first|(exact absurd h (by decide))|((try simp only [go_sem,simprocAttr] at h);(try with_reducible intro K hK);simp only [go_sem,simprocAttr])))|((first|((with_reducible apply wL);exact rfl)|((with_reducible apply wM);exact rfl));all_goals (try ((with_reducible intro h);first|(exact absurd h (by decide))|(try simp only [go_sem,simprocAttr] at h))))|omega|((first|(rw [DV];refine aa hX hC hP (uO (de (·.1) g) hle) rfl rfl rfl (by simp only [go_sem,simprocAttr]) rfl ?_));try simp only [go_sem,simprocAttr])|(intro h))
 rw [iz];rfl
end Go.Ab
end
section
namespace Go.Ab
open Go.Proofs
attribute [local congr] ACall.congr
set_option maxRecDepth 10000
def fH (g:Gr) (ws:List Int) (b:Int) (e:Int):Int:=if 0<ws.getD (tl g e.toNat).toNat 0∧(b<0∨tl g e.toNat<b) then tl g e.toNat else b
theorem DW (g:Gr) (ws:List Int) (b:Int) (i:Nat):fH g ws b (i:Int)=if 0<ws.getD (g.es.getD i (0,0)).1.toNat 0∧(b<0∨(g.es.getD i (0,0)).1<b) then (g.es.getD i (0,0)).1 else b:=rfl
def uP (g:Gr) (ws:List Int) (es:List Int):Int:=es.foldl (fH g ws) (-1)
def jl (g:Gr) (ws:List Int) (at_:Int):Int:=uP g ws (qa g at_.toNat)
def kG (g:Gr) (ws:List Int):Nat→List Int→Int→List Int × Int
 |0,way,at_=>(way,at_)
 |f+1,way,at_=>if at_<0∨at_∈way then (way,at_) else kG g ws f (way++ [at_]) (jl g ws at_)
def jS (g:Gr):List Int × Int:=kG g (cG g (aL g)) g.n.toNat [] (bY (fun n=>decide (0<n)) (cG g (aL g)))
def kV (l:List Int):List Int:=l.drop (dI l (iy l)).toNat++l.take (dI l (iy l)).toNat
def jT (g:Gr):List Int:=if (jS g).2<0 then [] else kV ((jS g).1.drop (dI (jS g).1 (jS g).2).toNat).reverse
theorem iF (n:Int):Spec Tryz.prog 122 (Args [eN n]) [] (eB (decide (0<n))) []:=by
 (refine Spec.intro (C:=T.cfg [] []) (rs:= [.t 2]) (T.aj _ _) Tryz.func122 rfl rfl Tryz.ntmps122 Tryz.results122 (by simp [AObj.isNest]) (by simp [AObj.isNest]) (by kernel_rfl) ?_;intro X hX hP hC aD aF vals hA;refine ⟨_,by simp,hA, ?_⟩;have af:X.P.follows .mixedOrders=true:=(by rw [hP];exact T.mixed);clear aD aF)
 repeat' (first|((first|((with_reducible (first|apply oA|apply oB));exact rfl;intro K hK)|(refine hK _ ?_;clear hK K)|((with_reducible (first|apply oG|apply oH));iterate 3 exact rfl)|((with_reducible apply oI);(iterate 2 exact rfl);intro K hK)|(with_reducible (first|apply wI|apply wJ|apply wK)));try simp only [go_sem,simprocAttr])|(with_reducible (first|apply oC|apply oJ|exact oK|apply wA|apply wB|apply wC hX hC|apply wD hX hC|apply wE hX hC af|apply wF hX hC af|apply wG|apply wH|apply And.intro))|((with_reducible refine oD ?_ ?_);kernel_rfl)|((with_reducible (first|apply oE|apply oF));(iterate 3 exact rfl);all_goals (intro h;first|(exact absurd h (by decide))|((try simp only [go_sem,simprocAttr] at h);(try with_reducible intro K hK);simp only [go_sem,simprocAttr])))|((first|((with_reducible apply wL);exact rfl)|((with_reducible apply wM);exact rfl));all_goals (try ((with_reducible intro h);first|(exact absurd h (by decide))|(try simp only [go_sem,simprocAttr] at h))))|omega|(intro h))
structure Way (g:Gr) (way:List Int):Prop where
 lo:∀x∈way,0≤x∧x<g.n
 fuel:way.length+left g way=g.n.toNat
theorem oV {g:Gr} :left g []=g.n.toNat:=by
 have:=(eP.nil g).fuel
 rw [List.length_nil,Nat.zero_add] at this
 exact this
theorem iO {g:Gr} {way:List Int} {a:Nat} (ha:a<g.n.toNat) (hn:(a:Int)∉way):left g way=left g (way++ [(a:Int)])+1:=by
 unfold left
 rw [← lP (p:=fun y:Nat=> !decide ((y:Int)∈way)) (x:=a) (by simp [hn]) ha]
 congr 1
 refine List.countP_congr fun y _=> ?_
 simp;omega
theorem Way.nil (g:Gr):Way g []:=⟨by simp,by rw [oV];simp⟩
theorem Way.next {g:Gr} {way:List Int} {a:Nat} (h:Way g way) (ha:a<g.n.toNat) (hn:(a:Int)∉way):Way g (way++ [(a:Int)]):=by
 refine ⟨fun x hx=> ?_, ?_⟩
 ·rcases List.mem_append.1 hx with hx|hx
  ·exact h.lo x hx
  ·simp at hx;omega
 ·have h1:=h.fuel
  have h2:=iO ha hn
  rw [List.length_append,List.length_singleton];omega
theorem wq {g:Gr} {x:Nat} {e:Int} (h:e∈qa g x):∃i:Nat,e=i∧i<g.es.length∧hd g i=x:=by
 simp only [qa,eW,List.mem_map,List.mem_filter,List.mem_range,decide_eq_true_eq] at h
 obtain ⟨i,⟨h1,h2⟩,rfl⟩:=h
 exact ⟨i,rfl,h1,h2⟩
theorem BW {α β:Type} {f:β→α→β} {b:β} {l:List α} {j:Nat} {x:α} (h:l[j]? =some x):(l.take (j+1)).foldl f b=f ((l.take j).foldl f b) x:=by
 rw [List.take_add_one,List.foldl_append,h];rfl
theorem qD {g:Gr} (hm:aP g=true) (ws:List Int):∀(l:List Int) (b:Int),(b= -1∨(0≤b∧b<g.n))→(∀e∈l,∃i:Nat,e=i∧i<g.es.length)→l.foldl (fH g ws) b= -1∨(0≤l.foldl (fH g ws) b∧l.foldl (fH g ws) b<g.n)
 | [],b,hb,_=>hb
 |e::l,b,hb,h=>by
  refine qD hm ws l _ ?_ fun e he=>h e (List.mem_cons_of_mem _ he)
  obtain ⟨i,rfl,hi⟩:=h e List.mem_cons_self
  obtain ⟨⟨h1,h2⟩,_⟩:=dS hm hi
  unfold fH
  split
  ·exact .inr ⟨h1,h2⟩
  ·exact hb
theorem DX {g:Gr} {x:Nat} :∀e∈qa g x,∃i:Nat,e=i∧i<g.es.length:=fun e he=>by
 obtain ⟨i,h1,h2,_⟩:=wq he;exact ⟨i,h1,h2⟩
theorem jU {g:Gr} {ws way:List Int} {a:Int} (h:a<0∨a∈way):∀f,kG g ws f way a=(way,a)
 |0=>rfl
 |f+1=>by simp only [kG];rw [if_pos h]
theorem dG {l:List Int} {x:Int} (h:x∈l):∃k:Nat,dI l x=k∧k<l.length∧l.getD k 0=x:=by
 rcases fm (f:=fun y:Int=>decide (x=y)) (l:=l) 0 with ⟨h1,h2⟩|⟨k,h1,h2,h3,_⟩
 ·exact absurd (h2 x h) (by simp)
 ·exact ⟨k,h1,h2,(of_decide_eq_true h3).symm⟩
theorem iP:∀ {l:List Int},0<l.length→iy l∈l
 |a::r,_=>by
  have:∀(r:List Int) (a:Int),r.foldl min a=a∨r.foldl min a∈r:=by
   intro r
   induction r with
   |nil=>intro a;exact .inl rfl
   |cons b r ih=>
    intro a
    simp only [List.foldl_cons]
    rcases ih (min a b) with h|h
    ·by_cases hab:a≤b
     ·left;rw [h];omega
     ·right;rw [h];simp;omega
    ·right;simp [h]
  rcases this r a with h|h
  ·simp [iy,h]
  ·simp [iy,h]
theorem iQ (g:Gr) (hm:aP g=true):Spec Tryz.prog 103 (Args [.d (vw g)]) [] (.d (sI (jT g))) []:=by
 have hn:=aT hm
 have AB:(cG g (aL g)).length≤9223372036854775807:=by rw [wts_length];omega
 (refine Spec.intro (C:=T.cfg [30] []) (rs:= [.t 2]) (T.aj _ _) Tryz.func103 rfl rfl Tryz.ntmps103 Tryz.results103 (by simp [AObj.isNest]) (by simp [AObj.isNest]) (by kernel_rfl) ?_;intro X hX hP hC aD aF vals hA;refine ⟨_,by simp,hA, ?_⟩;have af:X.P.follows .mixedOrders=true:=(by rw [hP];exact T.mixed);clear aD aF)
 repeat' (first|((first|((with_reducible (first|apply oA|apply oB));exact rfl;intro K hK)|(refine hK _ ?_;clear hK K)|((with_reducible (first|apply oG|apply oH));iterate 3 exact rfl)|((with_reducible apply oI);(iterate 2 exact rfl);intro K hK)|(with_reducible (first|apply wI|apply wJ|apply wK)));try simp only [go_sem,simprocAttr])|(with_reducible (first|apply oC|apply oJ|exact oK|apply wA|apply wB|apply wC hX hC|apply wD hX hC|apply wE hX hC af|apply wF hX hC af|apply wG|apply wH|apply And.intro))|((with_reducible refine oD ?_ ?_);kernel_rfl)|((with_reducible (first|apply oE|apply oF));(iterate 3 exact rfl);all_goals (intro h;first|(exact absurd h (by decide))|((try simp only [go_sem,simprocAttr] at h);(try with_reducible intro K hK);simp only [go_sem,simprocAttr])))|((first|((with_reducible apply wL);exact rfl)|((with_reducible apply wM);exact rfl));all_goals (try ((with_reducible intro h);first|(exact absurd h (by decide))|(try simp only [go_sem,simprocAttr] at h))))|omega|((first|refine aa hX hC hP (gO g hm) rfl rfl rfl (by simp only [go_sem,simprocAttr]) rfl ?_|refine aa hX hC hP (cQ bB.nil _ [] _ iF (cG g (aL g)) AB) rfl rfl rfl (by simp only [go_sem,simprocAttr]) rfl ?_|(refine ai hX hC hP (bt way a bZ) rfl rfl rfl ?_ ?_ ?_ ?_;iterate 3 (focus (simp only [go_sem,simprocAttr];done)))|(refine ai hX hC hP (aU way a bZ) rfl rfl rfl ?_ ?_ ?_ ?_;iterate 3 (focus (simp only [go_sem,simprocAttr];done)))|(refine au hX hC hP [(10000,75)] (ez (way.drop k) hlr) rfl rfl rfl ?_ ?_ ?_ ?_ ?_ ?_ ?_ ?_ ?_ ?_ ?_ ?_ ?_ ?_;(focus (simp only [go_sem,simprocAttr];done));(iterate 12 (focus (simp [go_sem,simprocAttr];done)));simp only [go_sem,simprocAttr,List.map_cons,List.map_nil])|(refine ai hX hC hP (jR rev s8 hrev) rfl rfl rfl ?_ ?_ ?_ ?_;iterate 3 (focus (simp only [go_sem,simprocAttr];done)))|(refine ai hX hC hP (aU rev (iy rev) uQ) rfl rfl rfl ?_ ?_ ?_ ?_;iterate 3 (focus (simp only [go_sem,simprocAttr];done)))|(refine bh hX hC hP (ef [rev.drop k2,rev.take k2] hc1 DY GL) rfl rfl rfl ?_ ?_ rfl ?_;iterate 2 (focus (simp only [go_sem,simprocAttr];done))));try simp only [go_sem,simprocAttr])|(intro h))
 (refine ji hX 6 30 (.own 3 1 []) (by simp only [go_sem,simprocAttr]) (by simp only [go_sem,simprocAttr]) (by decide) ⟨3,1,by decide, .inl rfl⟩ ?_;simp only [go_sem,simprocAttr])
 refine ah (fun i:List Int × Int=>Way g i.1∧(i.2= -1∨(0≤i.2∧i.2<g.n))∧kG g (cG g (aL g)) (left g i.1) i.1 i.2=jS g) (fun i=>⟨[(0, .d (vw g)),(4, .d (sI (cG g (aL g)))),(5,eN i.2),(6, .ref 30)], [(30, .own 3 1 (i.1.map rI))]⟩) (fun i=>left g i.1) ([],bY (fun n=>decide (0<n)) (cG g (aL g))) ⟨Way.nil g, ?_, ?_⟩ ?_ ?_
 ·rcases x9 (fun n:Int=>decide (0<n)) (cG g (aL g)) with h|h
  ·exact .inl h
  ·rw [wts_length] at h;exact .inr (by simp only;omega)
 ·rw [oV];rfl
 ·(refine Le.of ?_ ?_<;>simp [go_sem,simprocAttr])
 rintro ⟨way,at_⟩ ⟨yg,DZ,hrun⟩
 simp only at yg DZ hrun ⊢
 have O0:way.length≤64:=by have:=yg.fuel;omega
 have bZ:way.length≤9223372036854775807:=by omega
 by_cases h0:at_<0
 ·have an:decide (0≤at_)=false:=decide_eq_false (by omega)
  have bI:decide (at_<0)=true:=decide_eq_true h0
  have he:jT g= []:=by
   have:=jU (g:=g) (ws:=cG g (aL g)) (way:=way) (.inl h0) (left g way)
   rw [hrun] at this
   simp only [jT,this];rw [if_pos h0]
  repeat' (first|((first|((with_reducible (first|apply oA|apply oB));exact rfl;intro K hK)|(refine hK _ ?_;clear hK K)|((with_reducible (first|apply oG|apply oH));iterate 3 exact rfl)|((with_reducible apply oI);(iterate 2 exact rfl);intro K hK)|(with_reducible (first|apply wI|apply wJ|apply wK)));try simp only [go_sem,simprocAttr,an,bI])|(with_reducible (first|apply oC|apply oJ|exact oK|apply wA|apply wB|apply wC hX hC|apply wD hX hC|apply wE hX hC af|apply wF hX hC af|apply wG|apply wH|apply And.intro))|((with_reducible refine oD ?_ ?_);kernel_rfl)|((with_reducible (first|apply oE|apply oF));(iterate 3 exact rfl);all_goals (intro h;first|(exact absurd h (by decide))|((try simp only [go_sem,simprocAttr,an,bI] at h);(try with_reducible intro K hK);simp only [go_sem,simprocAttr,an,bI])))|((first|((with_reducible apply wL);exact rfl)|((with_reducible apply wM);exact rfl));all_goals (try ((with_reducible intro h);first|(exact absurd h (by decide))|(try simp only [go_sem,simprocAttr,an,bI] at h))))|omega|((first|refine aa hX hC hP (gO g hm) rfl rfl rfl (by simp only [go_sem,simprocAttr,an,bI]) rfl ?_|refine aa hX hC hP (cQ bB.nil _ [] _ iF (cG g (aL g)) AB) rfl rfl rfl (by simp only [go_sem,simprocAttr,an,bI]) rfl ?_|(refine ai hX hC hP (bt way a bZ) rfl rfl rfl ?_ ?_ ?_ ?_;iterate 3 (focus (simp only [go_sem,simprocAttr,an,bI];done)))|(refine ai hX hC hP (aU way a bZ) rfl rfl rfl ?_ ?_ ?_ ?_;iterate 3 (focus (simp only [go_sem,simprocAttr,an,bI];done)))|(refine au hX hC hP [(10000,75)] (ez (way.drop k) hlr) rfl rfl rfl ?_ ?_ ?_ ?_ ?_ ?_ ?_ ?_ ?_ ?_ ?_ ?_ ?_ ?_;(focus (simp only [go_sem,simprocAttr,an,bI];done));(iterate 12 (focus (simp [go_sem,simprocAttr,an,bI];done)));simp only [go_sem,simprocAttr,an,bI,List.map_cons,List.map_nil])|(refine ai hX hC hP (jR rev s8 hrev) rfl rfl rfl ?_ ?_ ?_ ?_;iterate 3 (focus (simp only [go_sem,simprocAttr,an,bI];done)))|(refine ai hX hC hP (aU rev (iy rev) uQ) rfl rfl rfl ?_ ?_ ?_ ?_;iterate 3 (focus (simp only [go_sem,simprocAttr,an,bI];done)))|(refine bh hX hC hP (ef [rev.drop k2,rev.take k2] hc1 DY GL) rfl rfl rfl ?_ ?_ rfl ?_;iterate 2 (focus (simp only [go_sem,simprocAttr,an,bI];done))));try simp only [go_sem,simprocAttr,an,bI])|(intro h))
  rw [he];rfl
 obtain ⟨a,rfl⟩:∃a:Nat,at_=a:=⟨at_.toNat,by omega⟩
 have GO:a<g.n.toNat:=by omega
 have an:decide (0≤(a:Int))=true:=decide_eq_true (by omega)
 by_cases hmem:(a:Int)∈way
 ·have ak:decide ((a:Int)∈way)=true:=decide_eq_true hmem
  have bI:decide ((a:Int)<0)=false:=decide_eq_false h0
  have hend:=jU (g:=g) (ws:=cG g (aL g)) (.inr hmem) (left g way)
  rw [hrun] at hend
  obtain ⟨k,hk,bT,_⟩:=dG hmem
  obtain ⟨rev,gr⟩:∃rev,rev=(way.drop k).reverse:=⟨_,rfl⟩
  have hrl:rev.length=way.length - k:=by rw [gr];simp
  have s8:0<rev.length:=by omega
  have hrev:rev.length≤1000000:=by omega
  have uQ:rev.length≤9223372036854775807:=by omega
  have hlr:(way.drop k).length≤1000000:=by simp;omega
  obtain ⟨k2,hk2,O1,_⟩:=dG (iP s8)
  have hc1: [rev.drop k2,rev.take k2].length≤1000:=by simp
  have DY:0< [rev.drop k2,rev.take k2].flatten.length:=by simp;omega
  have GL: [rev.drop k2,rev.take k2].flatten.length≤1000000:=by simp;omega
  have HX:jT g= [rev.drop k2,rev.take k2].flatten:=by
   simp only [jT,hend]
   rw [if_neg h0,hk]
   simp only [Int.toNat_natCast, ← gr,kV,hk2,List.flatten_cons,List.flatten_nil,List.append_nil]
  repeat' (first|((first|((with_reducible (first|apply oA|apply oB));exact rfl;intro K hK)|(refine hK _ ?_;clear hK K)|((with_reducible (first|apply oG|apply oH));iterate 3 exact rfl)|((with_reducible apply oI);(iterate 2 exact rfl);intro K hK)|(with_reducible (first|apply wI|apply wJ|apply wK)));try simp only [go_sem,simprocAttr,an,ak,bI,hk,hk2, ← List.map_take, ← List.map_drop,List.take_length, ← gr,vL])|(show dz _ (.seq (.region 20 _ _) _) _ _;(refine dh hX 75 rfl (.inr rfl) ?_;simp only [go_sem,simprocAttr,an,ak,bI,hk,hk2, ← List.map_take, ← List.map_drop,List.take_length, ← gr,vL]))|(with_reducible (first|apply oC|apply oJ|exact oK|apply wA|apply wB|apply wC hX hC|apply wD hX hC|apply wE hX hC af|apply wF hX hC af|apply wG|apply wH|apply And.intro))|((with_reducible refine oD ?_ ?_);kernel_rfl)|((with_reducible (first|apply oE|apply oF));(iterate 3 exact rfl);all_goals (intro h;first|(exact absurd h (by decide))|((try simp only [go_sem,simprocAttr,an,ak,bI,hk,hk2, ← List.map_take, ← List.map_drop,List.take_length, ← gr,vL] at h);(try with_reducible intro K hK);simp only [go_sem,simprocAttr,an,ak,bI,hk,hk2, ← List.map_take, ← List.map_drop,List.take_length, ← gr,vL])))|((first|((with_reducible apply wL);exact rfl)|((with_reducible apply wM);exact rfl));all_goals (try ((with_reducible intro h);first|(exact absurd h (by decide))|(try simp only [go_sem,simprocAttr,an,ak,bI,hk,hk2, ← List.map_take, ← List.map_drop,List.take_length, ← gr,vL] at h))))|omega|((first|refine aa hX hC hP (gO g hm) rfl rfl rfl (by simp only [go_sem,simprocAttr,an,ak,bI,hk,hk2, ← List.map_take, ← List.map_drop,List.take_length, ← gr,vL]) rfl ?_|refine aa hX hC hP (cQ bB.nil _ [] _ iF (cG g (aL g)) AB) rfl rfl rfl (by simp only [go_sem,simprocAttr,an,ak,bI,hk,hk2, ← List.map_take, ← List.map_drop,List.take_length, ← gr,vL]) rfl ?_|(refine ai hX hC hP (bt way a bZ) rfl rfl rfl ?_ ?_ ?_ ?_;iterate 3 (focus (simp only [go_sem,simprocAttr,an,ak,bI,hk,hk2, ← List.map_take, ← List.map_drop,List.take_length, ← gr,vL];done)))|(refine ai hX hC hP (aU way a bZ) rfl rfl rfl ?_ ?_ ?_ ?_;iterate 3 (focus (simp only [go_sem,simprocAttr,an,ak,bI,hk,hk2, ← List.map_take, ← List.map_drop,List.take_length, ← gr,vL];done)))|(refine au hX hC hP [(10000,75)] (ez (way.drop k) hlr) rfl rfl rfl ?_ ?_ ?_ ?_ ?_ ?_ ?_ ?_ ?_ ?_ ?_ ?_ ?_ ?_;(focus (simp only [go_sem,simprocAttr,an,ak,bI,hk,hk2, ← List.map_take, ← List.map_drop,List.take_length, ← gr,vL];done));(iterate 12 (focus (simp [go_sem,simprocAttr,an,ak,bI,hk,hk2, ← List.map_take, ← List.map_drop,List.take_length, ← gr,vL];done)));simp only [go_sem,simprocAttr,an,ak,bI,hk,hk2, ← List.map_take, ← List.map_drop,List.take_length, ← gr,vL,List.map_cons,List.map_nil])|(refine ai hX hC hP (jR rev s8 hrev) rfl rfl rfl ?_ ?_ ?_ ?_;iterate 3 (focus (simp only [go_sem,simprocAttr,an,ak,bI,hk,hk2, ← List.map_take, ← List.map_drop,List.take_length, ← gr,vL];done)))|(refine ai hX hC hP (aU rev (iy rev) uQ) rfl rfl rfl ?_ ?_ ?_ ?_;iterate 3 (focus (simp only [go_sem,simprocAttr,an,ak,bI,hk,hk2, ← List.map_take, ← List.map_drop,List.take_length, ← gr,vL];done)))|(refine bh hX hC hP (ef [rev.drop k2,rev.take k2] hc1 DY GL) rfl rfl rfl ?_ ?_ rfl ?_;iterate 2 (focus (simp only [go_sem,simprocAttr,an,ak,bI,hk,hk2, ← List.map_take, ← List.map_drop,List.take_length, ← gr,vL];done))));try simp only [go_sem,simprocAttr,an,ak,bI,hk,hk2, ← List.map_take, ← List.map_drop,List.take_length, ← gr,vL])|(intro h))
  rw [HX]
 ·have ak:decide ((a:Int)∈way)=false:=decide_eq_false hmem
  have hv:=lQ (f:=(·.2)) GO
  have wm:(qa g a).length≤g.es.length:=iE
  repeat' (first|((first|((with_reducible (first|apply oA|apply oB));exact rfl;intro K hK)|(refine hK _ ?_;clear hK K)|((with_reducible (first|apply oG|apply oH));iterate 3 exact rfl)|((with_reducible apply oI);(iterate 2 exact rfl);intro K hK)|(with_reducible (first|apply wI|apply wJ|apply wK)));try simp only [go_sem,simprocAttr,an,ak,hv,ag])|(with_reducible (first|apply oC|apply oJ|exact oK|apply wA|apply wB|apply wC hX hC|apply wD hX hC|apply wE hX hC af|apply wF hX hC af|apply wG|apply wH|apply And.intro))|((with_reducible refine oD ?_ ?_);kernel_rfl)|((with_reducible (first|apply oE|apply oF));(iterate 3 exact rfl);all_goals (intro h;first|(exact absurd h (by decide))|((try simp only [go_sem,simprocAttr,an,ak,hv,ag] at h);(try with_reducible intro K hK);simp only [go_sem,simprocAttr,an,ak,hv,ag])))|((first|((with_reducible apply wL);exact rfl)|((with_reducible apply wM);exact rfl));all_goals (try ((with_reducible intro h);first|(exact absurd h (by decide))|(try simp only [go_sem,simprocAttr,an,ak,hv,ag] at h))))|omega|((first|refine aa hX hC hP (gO g hm) rfl rfl rfl (by simp only [go_sem,simprocAttr,an,ak,hv,ag]) rfl ?_|refine aa hX hC hP (cQ bB.nil _ [] _ iF (cG g (aL g)) AB) rfl rfl rfl (by simp only [go_sem,simprocAttr,an,ak,hv,ag]) rfl ?_|(refine ai hX hC hP (bt way a bZ) rfl rfl rfl ?_ ?_ ?_ ?_;iterate 3 (focus (simp only [go_sem,simprocAttr,an,ak,hv,ag];done)))|(refine ai hX hC hP (aU way a bZ) rfl rfl rfl ?_ ?_ ?_ ?_;iterate 3 (focus (simp only [go_sem,simprocAttr,an,ak,hv,ag];done)))|(refine au hX hC hP [(10000,75)] (ez (way.drop k) hlr) rfl rfl rfl ?_ ?_ ?_ ?_ ?_ ?_ ?_ ?_ ?_ ?_ ?_ ?_ ?_ ?_;(focus (simp only [go_sem,simprocAttr,an,ak,hv,ag];done));(iterate 12 (focus (simp [go_sem,simprocAttr,an,ak,hv,ag];done)));simp only [go_sem,simprocAttr,an,ak,hv,ag,List.map_cons,List.map_nil])|(refine ai hX hC hP (jR rev s8 hrev) rfl rfl rfl ?_ ?_ ?_ ?_;iterate 3 (focus (simp only [go_sem,simprocAttr,an,ak,hv,ag];done)))|(refine ai hX hC hP (aU rev (iy rev) uQ) rfl rfl rfl ?_ ?_ ?_ ?_;iterate 3 (focus (simp only [go_sem,simprocAttr,an,ak,hv,ag];done)))|(refine bh hX hC hP (ef [rev.drop k2,rev.take k2] hc1 DY GL) rfl rfl rfl ?_ ?_ rfl ?_;iterate 2 (focus (simp only [go_sem,simprocAttr,an,ak,hv,ag];done))));try simp only [go_sem,simprocAttr,an,ak,hv,ag])|(intro h))
  refine ah (fun j:Nat=>j≤(qa g a).length) (fun j=>⟨[(39,eN j),(38,eN (qa g a).length),(37, .d (sI (qa g a))),(7,eN (uP g (cG g (aL g)) ((qa g a).take j))),(0, .d (IS g)),(4, .d (sI (cG g (aL g)))),(6, .ref 30)], [(30, .own 3 1 ((way++ [(a:Int)]).map rI))]⟩) (fun j=>(qa g a).length - j) 0 (by simp) ?_ ?_
  ·refine Le.of ?_ ?_<;>simp [go_sem,simprocAttr,an,ak,hv,ag,qa,rI,uP]
  rintro j hj
  rcases Nat.lt_or_ge j (qa g a).length with hlt|hge
  ·have hb4:decide ((j:Int)<((qa g a).length:Int))=true:=decide_eq_true (by omega)
   obtain ⟨i,hi,hil,hit⟩:=wq (List.getElem_mem hlt)
   have hi1:(qa g a)[j]? =some (i:Int):=by rw [List.getElem?_eq_getElem hlt,hi]
   have hi2:(qa g a).getD j 0=(i:Int):=by rw [List.getD_eq_getElem?_getD,hi1];rfl
   obtain ⟨⟨Gb,om⟩,_⟩:=dS hm hil
   have hstep:uP g (cG g (aL g)) ((qa g a).take (j+1))=fH g (cG g (aL g)) (uP g (cG g (aL g)) ((qa g a).take j)) i:=BW hi1
   rw [DW] at hstep
   repeat' (first|((first|((with_reducible (first|apply oA|apply oB));exact rfl;intro K hK)|(refine hK _ ?_;clear hK K)|((with_reducible (first|apply oG|apply oH));iterate 3 exact rfl)|((with_reducible apply oI);(iterate 2 exact rfl);intro K hK)|(with_reducible (first|apply wI|apply wJ|apply wK)));try simp only [go_sem,simprocAttr,hb4,hi2,wts_length])|(with_reducible (first|apply oC|apply oJ|exact oK|apply wA|apply wB|apply wC hX hC|apply wD hX hC|apply wE hX hC af|apply wF hX hC af|apply wG|apply wH|apply And.intro))|((with_reducible refine oD ?_ ?_);kernel_rfl)|((with_reducible (first|apply oE|apply oF));(iterate 3 exact rfl);all_goals (intro h;first|(exact absurd h (by decide))|((try simp only [go_sem,simprocAttr,hb4,hi2,wts_length] at h);(try with_reducible intro K hK);simp only [go_sem,simprocAttr,hb4,hi2,wts_length])))|((first|((with_reducible apply wL);exact rfl)|((with_reducible apply wM);exact rfl));all_goals (try ((with_reducible intro h);first|(exact absurd h (by decide))|(try simp only [go_sem,simprocAttr,hb4,hi2,wts_length] at h))))|omega|((first|refine aa hX hC hP (gO g hm) rfl rfl rfl (by simp only [go_sem,simprocAttr,hb4,hi2,wts_length]) rfl ?_|refine aa hX hC hP (cQ bB.nil _ [] _ iF (cG g (aL g)) AB) rfl rfl rfl (by simp only [go_sem,simprocAttr,hb4,hi2,wts_length]) rfl ?_|(refine ai hX hC hP (bt way a bZ) rfl rfl rfl ?_ ?_ ?_ ?_;iterate 3 (focus (simp only [go_sem,simprocAttr,hb4,hi2,wts_length];done)))|(refine ai hX hC hP (aU way a bZ) rfl rfl rfl ?_ ?_ ?_ ?_;iterate 3 (focus (simp only [go_sem,simprocAttr,hb4,hi2,wts_length];done)))|(refine au hX hC hP [(10000,75)] (ez (way.drop k) hlr) rfl rfl rfl ?_ ?_ ?_ ?_ ?_ ?_ ?_ ?_ ?_ ?_ ?_ ?_ ?_ ?_;(focus (simp only [go_sem,simprocAttr,hb4,hi2,wts_length];done));(iterate 12 (focus (simp [go_sem,simprocAttr,hb4,hi2,wts_length];done)));simp only [go_sem,simprocAttr,hb4,hi2,wts_length,List.map_cons,List.map_nil])|(refine ai hX hC hP (jR rev s8 hrev) rfl rfl rfl ?_ ?_ ?_ ?_;iterate 3 (focus (simp only [go_sem,simprocAttr,hb4,hi2,wts_length];done)))|(refine ai hX hC hP (aU rev (iy rev) uQ) rfl rfl rfl ?_ ?_ ?_ ?_;iterate 3 (focus (simp only [go_sem,simprocAttr,hb4,hi2,wts_length];done)))|(refine bh hX hC hP (ef [rev.drop k2,rev.take k2] hc1 DY GL) rfl rfl rfl ?_ ?_ rfl ?_;iterate 2 (focus (simp only [go_sem,simprocAttr,hb4,hi2,wts_length];done))));try simp only [go_sem,simprocAttr,hb4,hi2,wts_length])|(intro h))
   all_goals (refine ⟨j+1,by omega, ?_,by omega⟩;first|rw [if_pos (by omega)] at hstep|rw [if_neg (by omega)] at hstep)
   all_goals (refine Le.of ?_ ?_<;>simp [go_sem,simprocAttr,hb4,hi2,wts_length,hstep])
  ·have hb4:decide ((j:Int)<((qa g a).length:Int))=false:=decide_eq_false (by omega)
   have ht:(qa g a).take j=qa g a:=List.take_of_length_le (by omega)
   repeat' (first|((first|((with_reducible (first|apply oA|apply oB));exact rfl;intro K hK)|(refine hK _ ?_;clear hK K)|((with_reducible (first|apply oG|apply oH));iterate 3 exact rfl)|((with_reducible apply oI);(iterate 2 exact rfl);intro K hK)|(with_reducible (first|apply wI|apply wJ|apply wK)));try simp only [go_sem,simprocAttr,hb4,ht])|(with_reducible (first|apply oC|apply oJ|exact oK|apply wA|apply wB|apply wC hX hC|apply wD hX hC|apply wE hX hC af|apply wF hX hC af|apply wG|apply wH|apply And.intro))|((with_reducible refine oD ?_ ?_);kernel_rfl)|((with_reducible (first|apply oE|apply oF));(iterate 3 exact rfl);all_goals (intro h;first|(exact absurd h (by decide))|((try simp only [go_sem,simprocAttr,hb4,ht] at h);(try with_reducible intro K hK);simp only [go_sem,simprocAttr,hb4,ht])))|((first|((with_reducible apply wL);exact rfl)|((with_reducible apply wM);exact rfl));all_goals (try ((with_reducible intro h);first|(exact absurd h (by decide))|(try simp only [go_sem,simprocAttr,hb4,ht] at h))))|omega|((first|refine aa hX hC hP (gO g hm) rfl rfl rfl (by simp only [go_sem,simprocAttr,hb4,ht]) rfl ?_|refine aa hX hC hP (cQ bB.nil _ [] _ iF (cG g (aL g)) AB) rfl rfl rfl (by simp only [go_sem,simprocAttr,hb4,ht]) rfl ?_|(refine ai hX hC hP (bt way a bZ) rfl rfl rfl ?_ ?_ ?_ ?_;iterate 3 (focus (simp only [go_sem,simprocAttr,hb4,ht];done)))|(refine ai hX hC hP (aU way a bZ) rfl rfl rfl ?_ ?_ ?_ ?_;iterate 3 (focus (simp only [go_sem,simprocAttr,hb4,ht];done)))|(refine au hX hC hP [(10000,75)] (ez (way.drop k) hlr) rfl rfl rfl ?_ ?_ ?_ ?_ ?_ ?_ ?_ ?_ ?_ ?_ ?_ ?_ ?_ ?_;(focus (simp only [go_sem,simprocAttr,hb4,ht];done));(iterate 12 (focus (simp [go_sem,simprocAttr,hb4,ht];done)));simp only [go_sem,simprocAttr,hb4,ht,List.map_cons,List.map_nil])|(refine ai hX hC hP (jR rev s8 hrev) rfl rfl rfl ?_ ?_ ?_ ?_;iterate 3 (focus (simp only [go_sem,simprocAttr,hb4,ht];done)))|(refine ai hX hC hP (aU rev (iy rev) uQ) rfl rfl rfl ?_ ?_ ?_ ?_;iterate 3 (focus (simp only [go_sem,simprocAttr,hb4,ht];done)))|(refine bh hX hC hP (ef [rev.drop k2,rev.take k2] hc1 DY GL) rfl rfl rfl ?_ ?_ rfl ?_;iterate 2 (focus (simp only [go_sem,simprocAttr,hb4,ht];done))));try simp only [go_sem,simprocAttr,hb4,ht])|(intro h))
   refine ⟨(way++ [(a:Int)],jl g (cG g (aL g)) a),⟨yg.next GO hmem,qD hm _ _ _ (.inl rfl) DX, ?_⟩, ?_, ?_⟩
   ·simp only
    rw [← hrun,iO GO hmem]
    simp only [kG]
    rw [if_neg (by intro h;rcases h with h|h;omega;exact hmem h)]
   ·refine Le.of ?_ ?_<;>simp [go_sem,simprocAttr,hb4,ht,jl]
   ·have:=iO GO hmem;simp only;omega
end Go.Ab
end
section
namespace Go.Ab
open Go.Proofs
attribute [local congr] ACall.congr
set_option maxRecDepth 10000
def eF (f:Int × Int × List Int):AV:= .agg [eN f.1,eN f.2.1, .d (sI f.2.2)]
attribute [go_sem] eF
def jV (g:Gr):Int:=bY (fun e:Edge=>decide (e.1=e.2)) g.es
def nK (g:Gr) (i:Nat):Bool:=decide (g.es.getD i (0,0)∈g.es.take i)
def fq (g:Gr):Int:=bY (nK g) (List.range g.es.length)
def gP (g:Gr) (NC bare:List Int):Int × Int × List Int:=
 if aP g=false then (1,0, []) else
 if 0≤jV g then (13,jV g, []) else
 if 0≤fq g then (14,fq g, []) else
 if 0<NC.length then (15,0,NC) else
 if 1<bare.length then (16,0,bare.take 2) else (0,0, [])
def bJ (g:Gr):Int × Int × List Int:=gP g (jT g) (bS (·.2) g)
theorem jW (e:Edge):Spec Tryz.prog 101 (Args [eE e]) [] (eB (decide (e.1=e.2))) []:=by
 (refine Spec.intro (C:=T.cfg [] []) (rs:= [.t 2]) (T.aj _ _) Tryz.func101 rfl rfl Tryz.ntmps101 Tryz.results101 (by simp [AObj.isNest]) (by simp [AObj.isNest]) (by kernel_rfl) ?_;intro X hX hP hC aD aF vals hA;refine ⟨_,by simp,hA, ?_⟩;have af:X.P.follows .mixedOrders=true:=(by rw [hP];exact T.mixed);clear aD aF)
 repeat' (first|((first|((with_reducible (first|apply oA|apply oB));exact rfl;intro K hK)|(refine hK _ ?_;clear hK K)|((with_reducible (first|apply oG|apply oH));iterate 3 exact rfl)|((with_reducible apply oI);(iterate 2 exact rfl);intro K hK)|(with_reducible (first|apply wI|apply wJ|apply wK)));try simp only [go_sem,simprocAttr])|(with_reducible (first|apply oC|apply oJ|exact oK|apply wA|apply wB|apply wC hX hC|apply wD hX hC|apply wE hX hC af|apply wF hX hC af|apply wG|apply wH|apply And.intro))|((with_reducible refine oD ?_ ?_);kernel_rfl)|((with_reducible (first|apply oE|apply oF));(iterate 3 exact rfl);all_goals (intro h;first|(exact absurd h (by decide))|((try simp only [go_sem,simprocAttr] at h);(try with_reducible intro K hK);simp only [go_sem,simprocAttr])))|((first|((with_reducible apply wL);exact rfl)|((with_reducible apply wM);exact rfl));all_goals (try ((with_reducible intro h);first|(exact absurd h (by decide))|(try simp only [go_sem,simprocAttr] at h))))|omega|(intro h))
theorem gC {n k:Nat} (h:k<n) (d:Nat):(List.range n).getD k d=k:=by
 simp [List.getD_eq_getElem?_getD,List.getElem?_range h]
theorem iR (g:Gr) (hl:g.es.length≤1000):Spec Tryz.prog 74 (Args [eG g]) [] (eF (bJ g)) []:=by
 have hl:g.es.length≤9223372036854775807:=by omega
 (refine Spec.intro (C:=T.cfg [] []) (rs:= [.c 2 82]) (T.aj _ _) Tryz.func74 rfl rfl Tryz.ntmps74 Tryz.results74 (by simp [AObj.isNest]) (by simp [AObj.isNest]) (by kernel_rfl) ?_;intro X hX hP hC aD aF vals hA;refine ⟨_,by simp,hA, ?_⟩;have af:X.P.follows .mixedOrders=true:=(by rw [hP];exact T.mixed);clear aD aF)
 cases hm:aP g with
 |false=>
  repeat' (first|((first|((with_reducible (first|apply oA|apply oB));exact rfl;intro K hK)|(refine hK _ ?_;clear hK K)|((with_reducible (first|apply oG|apply oH));iterate 3 exact rfl)|((with_reducible apply oI);(iterate 2 exact rfl);intro K hK)|(with_reducible (first|apply wI|apply wJ|apply wK)));try simp only [go_sem,simprocAttr,hm])|(with_reducible (first|apply oC|apply oJ|exact oK|apply wA|apply wB|apply wC hX hC|apply wD hX hC|apply wE hX hC af|apply wF hX hC af|apply wG|apply wH|apply And.intro))|((with_reducible refine oD ?_ ?_);kernel_rfl)|((with_reducible (first|apply oE|apply oF));(iterate 3 exact rfl);all_goals (intro h;first|(exact absurd h (by decide))|((try simp only [go_sem,simprocAttr,hm] at h);(try with_reducible intro K hK);simp only [go_sem,simprocAttr,hm])))|((first|((with_reducible apply wL);exact rfl)|((with_reducible apply wM);exact rfl));all_goals (try ((with_reducible intro h);first|(exact absurd h (by decide))|(try simp only [go_sem,simprocAttr,hm] at h))))|omega|((first|refine aa hX hC hP (fT g hl) rfl rfl rfl (by simp only [go_sem,simprocAttr,hm]) rfl ?_|refine aa hX hC hP (bQ bB.nil _ [] _ jW g.es hl) rfl rfl rfl (by simp only [go_sem,simprocAttr,hm]) rfl ?_|refine aa hX hC hP (ff g hm) rfl rfl rfl (by simp only [go_sem,simprocAttr,hm]) rfl ?_|refine aa hX hC hP (iQ g hm) rfl rfl rfl (by simp only [go_sem,simprocAttr,hm]) rfl ?_|refine aa hX hC hP (eA g hm) rfl rfl rfl (by simp only [go_sem,simprocAttr,hm]) rfl ?_|refine aa hX hC hP (ee (g.es.take k) (g.es.getD k (0,0)) hlk) rfl rfl rfl (by simp only [go_sem,simprocAttr,hm]) rfl ?_);try simp only [go_sem,simprocAttr,hm])|(intro h))
  all_goals simp [bJ,gP,hm]
 |true=>
 have hn:=aT hm
 by_cases hlo:0≤jV g
 ·have an:decide (0≤bY (fun p:Edge=>decide (p.1=p.2)) g.es)=true:=decide_eq_true hlo
  repeat' (first|((first|((with_reducible (first|apply oA|apply oB));exact rfl;intro K hK)|(refine hK _ ?_;clear hK K)|((with_reducible (first|apply oG|apply oH));iterate 3 exact rfl)|((with_reducible apply oI);(iterate 2 exact rfl);intro K hK)|(with_reducible (first|apply wI|apply wJ|apply wK)));try simp only [go_sem,simprocAttr,hm,an])|(with_reducible (first|apply oC|apply oJ|exact oK|apply wA|apply wB|apply wC hX hC|apply wD hX hC|apply wE hX hC af|apply wF hX hC af|apply wG|apply wH|apply And.intro))|((with_reducible refine oD ?_ ?_);kernel_rfl)|((with_reducible (first|apply oE|apply oF));(iterate 3 exact rfl);all_goals (intro h;first|(exact absurd h (by decide))|((try simp only [go_sem,simprocAttr,hm,an] at h);(try with_reducible intro K hK);simp only [go_sem,simprocAttr,hm,an])))|((first|((with_reducible apply wL);exact rfl)|((with_reducible apply wM);exact rfl));all_goals (try ((with_reducible intro h);first|(exact absurd h (by decide))|(try simp only [go_sem,simprocAttr,hm,an] at h))))|omega|((first|refine aa hX hC hP (fT g hl) rfl rfl rfl (by simp only [go_sem,simprocAttr,hm,an]) rfl ?_|refine aa hX hC hP (bQ bB.nil _ [] _ jW g.es hl) rfl rfl rfl (by simp only [go_sem,simprocAttr,hm,an]) rfl ?_|refine aa hX hC hP (ff g hm) rfl rfl rfl (by simp only [go_sem,simprocAttr,hm,an]) rfl ?_|refine aa hX hC hP (iQ g hm) rfl rfl rfl (by simp only [go_sem,simprocAttr,hm,an]) rfl ?_|refine aa hX hC hP (eA g hm) rfl rfl rfl (by simp only [go_sem,simprocAttr,hm,an]) rfl ?_|refine aa hX hC hP (ee (g.es.take k) (g.es.getD k (0,0)) hlk) rfl rfl rfl (by simp only [go_sem,simprocAttr,hm,an]) rfl ?_);try simp only [go_sem,simprocAttr,hm,an])|(intro h))
  all_goals (
   have hc:bJ g=(13,jV g, []):=by
    simp only [bJ,gP];rw [if_neg (by simp [hm]),if_pos hlo]
   rw [hc]<;>rfl)
 have an:decide (0≤bY (fun p:Edge=>decide (p.1=p.2)) g.es)=false:=decide_eq_false hlo
 repeat' (first|((first|((with_reducible (first|apply oA|apply oB));exact rfl;intro K hK)|(refine hK _ ?_;clear hK K)|((with_reducible (first|apply oG|apply oH));iterate 3 exact rfl)|((with_reducible apply oI);(iterate 2 exact rfl);intro K hK)|(with_reducible (first|apply wI|apply wJ|apply wK)));try simp only [go_sem,simprocAttr,hm,an])|(with_reducible (first|apply oC|apply oJ|exact oK|apply wA|apply wB|apply wC hX hC|apply wD hX hC|apply wE hX hC af|apply wF hX hC af|apply wG|apply wH|apply And.intro))|((with_reducible refine oD ?_ ?_);kernel_rfl)|((with_reducible (first|apply oE|apply oF));(iterate 3 exact rfl);all_goals (intro h;first|(exact absurd h (by decide))|((try simp only [go_sem,simprocAttr,hm,an] at h);(try with_reducible intro K hK);simp only [go_sem,simprocAttr,hm,an])))|((first|((with_reducible apply wL);exact rfl)|((with_reducible apply wM);exact rfl));all_goals (try ((with_reducible intro h);first|(exact absurd h (by decide))|(try simp only [go_sem,simprocAttr,hm,an] at h))))|omega|((first|refine aa hX hC hP (fT g hl) rfl rfl rfl (by simp only [go_sem,simprocAttr,hm,an]) rfl ?_|refine aa hX hC hP (bQ bB.nil _ [] _ jW g.es hl) rfl rfl rfl (by simp only [go_sem,simprocAttr,hm,an]) rfl ?_|refine aa hX hC hP (ff g hm) rfl rfl rfl (by simp only [go_sem,simprocAttr,hm,an]) rfl ?_|refine aa hX hC hP (iQ g hm) rfl rfl rfl (by simp only [go_sem,simprocAttr,hm,an]) rfl ?_|refine aa hX hC hP (eA g hm) rfl rfl rfl (by simp only [go_sem,simprocAttr,hm,an]) rfl ?_|refine aa hX hC hP (ee (g.es.take k) (g.es.getD k (0,0)) hlk) rfl rfl rfl (by simp only [go_sem,simprocAttr,hm,an]) rfl ?_);try simp only [go_sem,simprocAttr,hm,an])|(intro h))
 refine ah (fun k:Nat=>k≤g.es.length∧∀j,j<k→nK g j=false) (fun k=>⟨[(23,eN k),(22,eN g.es.length),(21, .d (sE g.es)),(1, .ptr 1 0),(2, .ptr 2 0)], [(1, .box [eN g.n, .d (sE g.es)]),(2, .box [eN 0,eN 0, .nil 3])]⟩) (fun k=>g.es.length - k) 0 (by simp) ?_ ?_
 ·(refine Le.of ?_ ?_<;>simp [go_sem,simprocAttr,hm,an])
 rintro k ⟨hk,HY⟩
 rcases Nat.lt_or_ge k g.es.length with hlt|hge
 ·have ak:decide ((k:Int)<(g.es.length:Int))=true:=decide_eq_true (by omega)
  have hlk:(g.es.take k).length≤9223372036854775807:=by rw [List.length_take];omega
  repeat' (first|((first|((with_reducible (first|apply oA|apply oB));exact rfl;intro K hK)|(refine hK _ ?_;clear hK K)|((with_reducible (first|apply oG|apply oH));iterate 3 exact rfl)|((with_reducible apply oI);(iterate 2 exact rfl);intro K hK)|(with_reducible (first|apply wI|apply wJ|apply wK)));try simp only [go_sem,simprocAttr,hm,an,ak, ← List.map_take])|(with_reducible (first|apply oC|apply oJ|exact oK|apply wA|apply wB|apply wC hX hC|apply wD hX hC|apply wE hX hC af|apply wF hX hC af|apply wG|apply wH|apply And.intro))|((with_reducible refine oD ?_ ?_);kernel_rfl)|((with_reducible (first|apply oE|apply oF));(iterate 3 exact rfl);all_goals (intro h;first|(exact absurd h (by decide))|((try simp only [go_sem,simprocAttr,hm,an,ak, ← List.map_take] at h);(try with_reducible intro K hK);simp only [go_sem,simprocAttr,hm,an,ak, ← List.map_take])))|((first|((with_reducible apply wL);exact rfl)|((with_reducible apply wM);exact rfl));all_goals (try ((with_reducible intro h);first|(exact absurd h (by decide))|(try simp only [go_sem,simprocAttr,hm,an,ak, ← List.map_take] at h))))|omega|((first|refine aa hX hC hP (fT g hl) rfl rfl rfl (by simp only [go_sem,simprocAttr,hm,an,ak, ← List.map_take]) rfl ?_|refine aa hX hC hP (bQ bB.nil _ [] _ jW g.es hl) rfl rfl rfl (by simp only [go_sem,simprocAttr,hm,an,ak, ← List.map_take]) rfl ?_|refine aa hX hC hP (ff g hm) rfl rfl rfl (by simp only [go_sem,simprocAttr,hm,an,ak, ← List.map_take]) rfl ?_|refine aa hX hC hP (iQ g hm) rfl rfl rfl (by simp only [go_sem,simprocAttr,hm,an,ak, ← List.map_take]) rfl ?_|refine aa hX hC hP (eA g hm) rfl rfl rfl (by simp only [go_sem,simprocAttr,hm,an,ak, ← List.map_take]) rfl ?_|refine aa hX hC hP (ee (g.es.take k) (g.es.getD k (0,0)) hlk) rfl rfl rfl (by simp only [go_sem,simprocAttr,hm,an,ak, ← List.map_take]) rfl ?_);try simp only [go_sem,simprocAttr,hm,an,ak, ← List.map_take])|(intro h))
  any_goals (
   have Mq:fq g=(k:Int):=dP (d:=0) (by simpa using hlt) (fun j hj=>by rw [gC (by omega)];exact HY j hj) (by rw [gC hlt];exact decide_eq_true h)
   have hc:bJ g=(14,fq g, []):=by
    simp only [bJ,gP];rw [if_neg (by simp [hm]),if_neg hlo,if_pos (by omega)]
   rw [hc]<;>first|rfl|exact Mq.symm)
  refine ⟨k+1,⟨by omega,fun j hj=> ?_⟩, ?_,by omega⟩
  ·by_cases hjk:j=k
   ·subst hjk;exact decide_eq_false h
   ·exact HY j (by omega)
  ·(refine Le.of ?_ ?_<;>simp [go_sem,simprocAttr,hm,an,ak, ← List.map_take])
 ·have ak:decide ((k:Int)<(g.es.length:Int))=false:=decide_eq_false (by omega)
  have D2:¬0≤fq g:=by
   have:fq g= -1:=cI 0 fun j hj=>by
    rw [List.length_range] at hj
    rw [gC hj];exact HY j (by omega)
   omega
  repeat' (first|((first|((with_reducible (first|apply oA|apply oB));exact rfl;intro K hK)|(refine hK _ ?_;clear hK K)|((with_reducible (first|apply oG|apply oH));iterate 3 exact rfl)|((with_reducible apply oI);(iterate 2 exact rfl);intro K hK)|(with_reducible (first|apply wI|apply wJ|apply wK)));try simp only [go_sem,simprocAttr,hm,an,ak])|(with_reducible (first|apply oC|apply oJ|exact oK|apply wA|apply wB|apply wC hX hC|apply wD hX hC|apply wE hX hC af|apply wF hX hC af|apply wG|apply wH|apply And.intro))|((with_reducible refine oD ?_ ?_);kernel_rfl)|((with_reducible (first|apply oE|apply oF));(iterate 3 exact rfl);all_goals (intro h;first|(exact absurd h (by decide))|((try simp only [go_sem,simprocAttr,hm,an,ak] at h);(try with_reducible intro K hK);simp only [go_sem,simprocAttr,hm,an,ak])))|((first|((with_reducible apply wL);exact rfl)|((with_reducible apply wM);exact rfl));all_goals (try ((with_reducible intro h);first|(exact absurd h (by decide))|(try simp only [go_sem,simprocAttr,hm,an,ak] at h))))|omega|((first|refine aa hX hC hP (fT g hl) rfl rfl rfl (by simp only [go_sem,simprocAttr,hm,an,ak]) rfl ?_|refine aa hX hC hP (bQ bB.nil _ [] _ jW g.es hl) rfl rfl rfl (by simp only [go_sem,simprocAttr,hm,an,ak]) rfl ?_|refine aa hX hC hP (ff g hm) rfl rfl rfl (by simp only [go_sem,simprocAttr,hm,an,ak]) rfl ?_|refine aa hX hC hP (iQ g hm) rfl rfl rfl (by simp only [go_sem,simprocAttr,hm,an,ak]) rfl ?_|refine aa hX hC hP (eA g hm) rfl rfl rfl (by simp only [go_sem,simprocAttr,hm,an,ak]) rfl ?_|refine aa hX hC hP (ee (g.es.take k) (g.es.getD k (0,0)) hlk) rfl rfl rfl (by simp only [go_sem,simprocAttr,hm,an,ak]) rfl ?_);try simp only [go_sem,simprocAttr,hm,an,ak])|(intro h))
  all_goals (
   have hc:bJ g=if 0<(jT g).length then (15,0,jT g) else if 1<(bS (·.2) g).length then (16,0,(bS (·.2) g).take 2) else (0,0, []):=by
    simp only [bJ,gP];rw [if_neg (by simp [hm]),if_neg hlo,if_neg D2]
   first|rw [if_pos (by omega)] at hc|(rw [if_neg (by omega)] at hc;first|rw [if_pos (by omega)] at hc|rw [if_neg (by omega)] at hc)
   rw [hc]<;>first|rfl|simp only [List.map_take])
end Go.Ab
end
section
namespace Go.Ab
open Go.Proofs
attribute [local congr] ACall.congr
set_option maxRecDepth 10000
theorem bp (ps:List Int) (x:Int) (hl:ps.length≤9223372036854775807):
 Spec Tryz.prog 144 (Args [.d (sI ps),eN x]) [] (eN (dI ps x)) []:=by
 (refine Spec.intro (C:=T.cfg [] []) (rs:= [.t 4]) (T.aj _ _) Tryz.func144 rfl rfl Tryz.ntmps144 Tryz.results144 (by simp [AObj.isNest]) (by simp [AObj.isNest]) (by kernel_rfl) ?_;intro X hX hP hC aD aF vals hA;refine ⟨_,by simp,hA, ?_⟩;have af:X.P.follows .mixedOrders=true:=(by rw [hP];exact T.mixed);clear aD aF)
 repeat' (first|((first|((with_reducible (first|apply oA|apply oB));exact rfl;intro K hK)|(refine hK _ ?_;clear hK K)|((with_reducible (first|apply oG|apply oH));iterate 3 exact rfl)|((with_reducible apply oI);(iterate 2 exact rfl);intro K hK)|(with_reducible (first|apply wI|apply wJ|apply wK)));try simp only [go_sem,simprocAttr])|(with_reducible (first|apply oC|apply oJ|exact oK|apply wA|apply wB|apply wC hX hC|apply wD hX hC|apply wE hX hC af|apply wF hX hC af|apply wG|apply wH|apply And.intro))|((with_reducible refine oD ?_ ?_);kernel_rfl)|((with_reducible (first|apply oE|apply oF));(iterate 3 exact rfl);all_goals (intro h;first|(exact absurd h (by decide))|((try simp only [go_sem,simprocAttr] at h);(try with_reducible intro K hK);simp only [go_sem,simprocAttr])))|((first|((with_reducible apply wL);exact rfl)|((with_reducible apply wM);exact rfl));all_goals (try ((with_reducible intro h);first|(exact absurd h (by decide))|(try simp only [go_sem,simprocAttr] at h))))|omega|(intro h))
 refine ah (fun k:Nat=>k≤ps.length∧∀j,j<k→decide (x=ps.getD j 0)=false) (fun k=>⟨[(0, .d (sI ps)),(1,eN x),(5,eN k)], []⟩) (fun k=>ps.length - k) 0 (by simp) ?_ ?_
 ·(refine ⟨bR ?_,fun _ _ h=>h⟩;simp [go_sem,simprocAttr])
 rintro k ⟨hk,hg⟩
 repeat' (first|((first|((with_reducible (first|apply oA|apply oB));exact rfl;intro K hK)|(refine hK _ ?_;clear hK K)|((with_reducible (first|apply oG|apply oH));iterate 3 exact rfl)|((with_reducible apply oI);(iterate 2 exact rfl);intro K hK)|(with_reducible (first|apply wI|apply wJ|apply wK)));try simp only [go_sem,simprocAttr])|(with_reducible (first|apply oC|apply oJ|exact oK|apply wA|apply wB|apply wC hX hC|apply wD hX hC|apply wE hX hC af|apply wF hX hC af|apply wG|apply wH|apply And.intro))|((with_reducible refine oD ?_ ?_);kernel_rfl)|((with_reducible (first|apply oE|apply oF));(iterate 3 exact rfl);all_goals (intro h;first|(exact absurd h (by decide))|((try simp only [go_sem,simprocAttr] at h);(try with_reducible intro K hK);simp only [go_sem,simprocAttr])))|((first|((with_reducible apply wL);exact rfl)|((with_reducible apply wM);exact rfl));all_goals (try ((with_reducible intro h);first|(exact absurd h (by decide))|(try simp only [go_sem,simprocAttr] at h))))|omega|(intro h))
 ·exact (dP (by omega) hg (by simpa using h.symm)).symm
 ·refine ⟨k+1,⟨by omega,fun j hj=> ?_⟩, ?_,by omega⟩
  ·by_cases hjk:j=k
   ·subst hjk;exact fun e=>h (Eq.symm e)
   ·simpa using hg j (by omega)
  ·(refine ⟨bR ?_,fun _ _ h=>h⟩;simp [go_sem,simprocAttr])
 ·exact (cI 0 fun j hj=>hg j (by omega)).symm
def aG (f:Edge→Int) (es:List Edge) (k:Nat) (x:Int):List Int:=((List.range k).filter fun i=>decide (f (es.getD i (0,0))=x)).map Int.ofNat
theorem jX (f:Edge→Int) (es:List Edge) (k x:Nat):eW f es k x=aG f es k (x:Int):=rfl
theorem eC {f:Edge→Int} {es:List Edge} {k:Nat} {x:Int} :(aG f es k x).length≤k:=by
 simpa [aG] using List.length_filter_le (fun i=>decide (f (es.getD i (0,0))=x)) (List.range k)
theorem s9 {f:Edge→Int} {es:List Edge} {k:Nat} {x:Int} :aG f es (k+1) x=aG f es k x++if f (es.getD k (0,0))=x then [(k:Int)] else []:=by
 simp only [aG,List.range_succ,List.filter_append,List.map_append,List.filter_cons,List.filter_nil]
 split<;>simp_all
def lg (b:Bool) (e:Edge):Int:=if b then e.1 else e.2
theorem bg (g:Gr) (x:Int) (b:Bool) (hl:g.es.length≤1000):Spec Tryz.prog 71 (Args [eG g,eN x,eB b]) [] (.d (sI (aG (lg b) g.es g.es.length x))) []:=by
 (refine Spec.intro (C:=T.cfg [] []) (rs:= [.t 6]) (T.aj _ _) Tryz.func71 rfl rfl Tryz.ntmps71 Tryz.results71 (by simp [AObj.isNest]) (by simp [AObj.isNest]) (by kernel_rfl) ?_;intro X hX hP hC aD aF vals hA;refine ⟨_,by simp,hA, ?_⟩;have af:X.P.follows .mixedOrders=true:=(by rw [hP];exact T.mixed);clear aD aF)
 repeat' (first|((first|((with_reducible (first|apply oA|apply oB));exact rfl;intro K hK)|(refine hK _ ?_;clear hK K)|((with_reducible (first|apply oG|apply oH));iterate 3 exact rfl)|((with_reducible apply oI);(iterate 2 exact rfl);intro K hK)|(with_reducible (first|apply wI|apply wJ|apply wK)));try simp only [go_sem,simprocAttr])|(with_reducible (first|apply oC|apply oJ|exact oK|apply wA|apply wB|apply wC hX hC|apply wD hX hC|apply wE hX hC af|apply wF hX hC af|apply wG|apply wH|apply And.intro))|((with_reducible refine oD ?_ ?_);kernel_rfl)|((with_reducible (first|apply oE|apply oF));(iterate 3 exact rfl);all_goals (intro h;first|(exact absurd h (by decide))|((try simp only [go_sem,simprocAttr] at h);(try with_reducible intro K hK);simp only [go_sem,simprocAttr])))|((first|((with_reducible apply wL);exact rfl)|((with_reducible apply wM);exact rfl));all_goals (try ((with_reducible intro h);first|(exact absurd h (by decide))|(try simp only [go_sem,simprocAttr] at h))))|omega|(intro h))
 (refine nE hX 7 9 45 (by simp only [go_sem,simprocAttr]) rfl (by first|exact .inl rfl|exact .inr rfl) (by decide) ?_;simp only [go_sem,simprocAttr])
 refine ah (fun k:Nat=>k≤g.es.length) (fun k=>⟨[(1,eN x),(2,eB b),(3, .ptr 3 0),(8,eN k),(7, .ref 45)], [(3, .box [eN g.n, .d (sE g.es)]),(45, .tip 3 1 ((aG (lg b) g.es k x).map rI))]⟩) (fun k=>g.es.length - k) 0 (by simp) ?_ ?_
 ·refine Le.of ?_ ?_<;>simp [go_sem,simprocAttr,aG]
 rintro k hk
 rcases Nat.lt_or_ge k g.es.length with hlt|hge
 ·have hb:decide ((k:Int)<(g.es.length:Int))=true:=decide_eq_true (by omega)
  have lu:=eC (f:=lg b) (es:=g.es) (k:=k) (x:=x)
  cases b
  ·have dQ:aG (lg false) g.es (k+1) x=aG (lg false) g.es k x++if (g.es.getD k (0,0)).2=x then [(k:Int)] else []:=s9
   repeat' (first|((first|((with_reducible (first|apply oA|apply oB));exact rfl;intro K hK)|(refine hK _ ?_;clear hK K)|((with_reducible (first|apply oG|apply oH));iterate 3 exact rfl)|((with_reducible apply oI);(iterate 2 exact rfl);intro K hK)|(with_reducible (first|apply wI|apply wJ|apply wK)));try simp only [go_sem,simprocAttr,hb])|(with_reducible (first|apply oC|apply oJ|exact oK|apply wA|apply wB|apply wC hX hC|apply wD hX hC|apply wE hX hC af|apply wF hX hC af|apply wG|apply wH|apply And.intro))|((with_reducible refine oD ?_ ?_);kernel_rfl)|((with_reducible (first|apply oE|apply oF));(iterate 3 exact rfl);all_goals (intro h;first|(exact absurd h (by decide))|((try simp only [go_sem,simprocAttr,hb] at h);(try with_reducible intro K hK);simp only [go_sem,simprocAttr,hb])))|((first|((with_reducible apply wL);exact rfl)|((with_reducible apply wM);exact rfl));all_goals (try ((with_reducible intro h);first|(exact absurd h (by decide))|(try simp only [go_sem,simprocAttr,hb] at h))))|omega|(intro h))
   all_goals (first|rw [if_pos (by assumption)] at dQ|rw [if_neg (by assumption),List.append_nil] at dQ)
   all_goals (refine ⟨k+1,by omega, ?_,by omega⟩;refine Le.of ?_ ?_<;>simp [go_sem,simprocAttr,hb,dQ,rI])
  ·have dQ:aG (lg true) g.es (k+1) x=aG (lg true) g.es k x++if (g.es.getD k (0,0)).1=x then [(k:Int)] else []:=s9
   repeat' (first|((first|((with_reducible (first|apply oA|apply oB));exact rfl;intro K hK)|(refine hK _ ?_;clear hK K)|((with_reducible (first|apply oG|apply oH));iterate 3 exact rfl)|((with_reducible apply oI);(iterate 2 exact rfl);intro K hK)|(with_reducible (first|apply wI|apply wJ|apply wK)));try simp only [go_sem,simprocAttr,hb])|(with_reducible (first|apply oC|apply oJ|exact oK|apply wA|apply wB|apply wC hX hC|apply wD hX hC|apply wE hX hC af|apply wF hX hC af|apply wG|apply wH|apply And.intro))|((with_reducible refine oD ?_ ?_);kernel_rfl)|((with_reducible (first|apply oE|apply oF));(iterate 3 exact rfl);all_goals (intro h;first|(exact absurd h (by decide))|((try simp only [go_sem,simprocAttr,hb] at h);(try with_reducible intro K hK);simp only [go_sem,simprocAttr,hb])))|((first|((with_reducible apply wL);exact rfl)|((with_reducible apply wM);exact rfl));all_goals (try ((with_reducible intro h);first|(exact absurd h (by decide))|(try simp only [go_sem,simprocAttr,hb] at h))))|omega|(intro h))
   all_goals (first|rw [if_pos (by assumption)] at dQ|rw [if_neg (by assumption),List.append_nil] at dQ)
   all_goals (refine ⟨k+1,by omega, ?_,by omega⟩;refine Le.of ?_ ?_<;>simp [go_sem,simprocAttr,hb,dQ,rI])
 ·have hb:decide ((k:Int)<(g.es.length:Int))=false:=decide_eq_false (by omega)
  obtain rfl:k=g.es.length:=by omega
  repeat' (first|((first|((with_reducible (first|apply oA|apply oB));exact rfl;intro K hK)|(refine hK _ ?_;clear hK K)|((with_reducible (first|apply oG|apply oH));iterate 3 exact rfl)|((with_reducible apply oI);(iterate 2 exact rfl);intro K hK)|(with_reducible (first|apply wI|apply wJ|apply wK)));try simp only [go_sem,simprocAttr,hb])|(with_reducible (first|apply oC|apply oJ|exact oK|apply wA|apply wB|apply wC hX hC|apply wD hX hC|apply wE hX hC af|apply wF hX hC af|apply wG|apply wH|apply And.intro))|((with_reducible refine oD ?_ ?_);kernel_rfl)|((with_reducible (first|apply oE|apply oF));(iterate 3 exact rfl);all_goals (intro h;first|(exact absurd h (by decide))|((try simp only [go_sem,simprocAttr,hb] at h);(try with_reducible intro K hK);simp only [go_sem,simprocAttr,hb])))|((first|((with_reducible apply wL);exact rfl)|((with_reducible apply wM);exact rfl));all_goals (try ((with_reducible intro h);first|(exact absurd h (by decide))|(try simp only [go_sem,simprocAttr,hb] at h))))|omega|(intro h))
theorem cV (g:Gr) (b:Bool) (hl:g.es.length≤1000) (hn:0≤g.n∧g.n≤1000):Spec Tryz.prog 38 (Args [eG g,eB b]) [] (.d (sI (bS (lg (!b)) g))) []:=by
 (refine Spec.intro (C:=T.cfg [] []) (rs:= [.t 4]) (T.aj _ _) Tryz.func38 rfl rfl Tryz.ntmps38 Tryz.results38 (by simp [AObj.isNest]) (by simp [AObj.isNest]) (by kernel_rfl) ?_;intro X hX hP hC aD aF vals hA;refine ⟨_,by simp,hA, ?_⟩;have af:X.P.follows .mixedOrders=true:=(by rw [hP];exact T.mixed);clear aD aF)
 repeat' (first|((first|((with_reducible (first|apply oA|apply oB));exact rfl;intro K hK)|(refine hK _ ?_;clear hK K)|((with_reducible (first|apply oG|apply oH));iterate 3 exact rfl)|((with_reducible apply oI);(iterate 2 exact rfl);intro K hK)|(with_reducible (first|apply wI|apply wJ|apply wK)));try simp only [go_sem,simprocAttr])|(with_reducible (first|apply oC|apply oJ|exact oK|apply wA|apply wB|apply wC hX hC|apply wD hX hC|apply wE hX hC af|apply wF hX hC af|apply wG|apply wH|apply And.intro))|((with_reducible refine oD ?_ ?_);kernel_rfl)|((with_reducible (first|apply oE|apply oF));(iterate 3 exact rfl);all_goals (intro h;first|(exact absurd h (by decide))|((try simp only [go_sem,simprocAttr] at h);(try with_reducible intro K hK);simp only [go_sem,simprocAttr])))|((first|((with_reducible apply wL);exact rfl)|((with_reducible apply wM);exact rfl));all_goals (try ((with_reducible intro h);first|(exact absurd h (by decide))|(try simp only [go_sem,simprocAttr] at h))))|omega|((first|refine aa hX hC hP (bg g (k:Int) (!b) hl) rfl rfl rfl (by simp only [go_sem,simprocAttr]) rfl ?_);try simp only [go_sem,simprocAttr])|(intro h))
 (refine nE hX 5 7 24 (by simp only [go_sem,simprocAttr]) rfl (by first|exact .inl rfl|exact .inr rfl) (by decide) ?_;simp only [go_sem,simprocAttr])
 refine ah (fun k:Nat=>k≤g.n.toNat) (fun k=>⟨[(1,eB b),(2, .ptr 2 0),(6,eN k),(5, .ref 24)], [(2, .box [eN g.n, .d (sE g.es)]),(24, .tip 3 1 ((iN (de (lg (!b)) g) k).map rI))]⟩) (fun k=>g.n.toNat - k) 0 (by simp) ?_ ?_
 ·refine Le.of ?_ ?_<;>simp [go_sem,simprocAttr,iN]
 rintro k hk
 rcases Nat.lt_or_ge k g.n.toNat with hlt|hge
 ·have hb:decide ((k:Int)<g.n)=true:=decide_eq_true (by omega)
  have lu:=uN (ls:=de (lg (!b)) g) (k:=k)
  have he:(de (lg (!b)) g).getD k []=aG (lg (!b)) g.es g.es.length (k:Int):=by
   simp [de,List.getD_eq_getElem?_getD,List.getElem?_range hlt,jX]
  have dQ:=nJ (ls:=de (lg (!b)) g) (k:=k)
  rw [he] at dQ
  repeat' (first|((first|((with_reducible (first|apply oA|apply oB));exact rfl;intro K hK)|(refine hK _ ?_;clear hK K)|((with_reducible (first|apply oG|apply oH));iterate 3 exact rfl)|((with_reducible apply oI);(iterate 2 exact rfl);intro K hK)|(with_reducible (first|apply wI|apply wJ|apply wK)));try simp only [go_sem,simprocAttr,hb])|(with_reducible (first|apply oC|apply oJ|exact oK|apply wA|apply wB|apply wC hX hC|apply wD hX hC|apply wE hX hC af|apply wF hX hC af|apply wG|apply wH|apply And.intro))|((with_reducible refine oD ?_ ?_);kernel_rfl)|((with_reducible (first|apply oE|apply oF));(iterate 3 exact rfl);all_goals (intro h;first|(exact absurd h (by decide))|((try simp only [go_sem,simprocAttr,hb] at h);(try with_reducible intro K hK);simp only [go_sem,simprocAttr,hb])))|((first|((with_reducible apply wL);exact rfl)|((with_reducible apply wM);exact rfl));all_goals (try ((with_reducible intro h);first|(exact absurd h (by decide))|(try simp only [go_sem,simprocAttr,hb] at h))))|omega|((first|refine aa hX hC hP (bg g (k:Int) (!b) hl) rfl rfl rfl (by simp only [go_sem,simprocAttr,hb]) rfl ?_);try simp only [go_sem,simprocAttr,hb])|(intro h))
  all_goals (first|rw [if_pos (by omega)] at dQ|rw [if_neg (by omega),List.append_nil] at dQ)
  all_goals (refine ⟨k+1,by omega, ?_,by omega⟩;refine Le.of ?_ ?_<;>simp [go_sem,simprocAttr,hb,dQ,rI])
 ·have hb:decide ((k:Int)<g.n)=false:=decide_eq_false (by omega)
  obtain rfl:k=g.n.toNat:=by omega
  repeat' (first|((first|((with_reducible (first|apply oA|apply oB));exact rfl;intro K hK)|(refine hK _ ?_;clear hK K)|((with_reducible (first|apply oG|apply oH));iterate 3 exact rfl)|((with_reducible apply oI);(iterate 2 exact rfl);intro K hK)|(with_reducible (first|apply wI|apply wJ|apply wK)));try simp only [go_sem,simprocAttr,hb])|(with_reducible (first|apply oC|apply oJ|exact oK|apply wA|apply wB|apply wC hX hC|apply wD hX hC|apply wE hX hC af|apply wF hX hC af|apply wG|apply wH|apply And.intro))|((with_reducible refine oD ?_ ?_);kernel_rfl)|((with_reducible (first|apply oE|apply oF));(iterate 3 exact rfl);all_goals (intro h;first|(exact absurd h (by decide))|((try simp only [go_sem,simprocAttr,hb] at h);(try with_reducible intro K hK);simp only [go_sem,simprocAttr,hb])))|((first|((with_reducible apply wL);exact rfl)|((with_reducible apply wM);exact rfl));all_goals (try ((with_reducible intro h);first|(exact absurd h (by decide))|(try simp only [go_sem,simprocAttr,hb] at h))))|omega|((first|refine aa hX hC hP (bg g (k:Int) (!b) hl) rfl rfl rfl (by simp only [go_sem,simprocAttr,hb]) rfl ?_);try simp only [go_sem,simprocAttr,hb])|(intro h))
  rfl
end Go.Ab
end
section
namespace Go.Ab
open Go.Proofs
attribute [local congr] ACall.congr
set_option maxRecDepth 10000
def rB (b:Bool):List D:= [.sc (.bool b)]
def sB (l:List Bool):D:= .sl 1 (l.map rB)
theorem getD_rB (l:List Bool) (i:Nat):(l.map rB).getD i [.sc (.bool false)]= [.sc (.bool (l.getD i false))]:=by
 simp only [List.getD_eq_getElem?_getD,List.getElem?_map]
 cases l[i]? <;>rfl
attribute [go_sem] getD_rB sB
theorem gW (l:List Bool) (k:Nat) (v:Bool):(l.map rB).set k [.sc (.bool v)]=(l.set k v).map rB:=by
 rw [List.map_set];rfl
theorem uR {α:Type} {n k:Nat} {f:Nat→α} {v:α} :((List.range n).map f).set k v=(List.range n).map fun y=>if y=k then v else f y:=by
 refine List.ext_getElem? fun i=> ?_
 rw [List.getElem?_set,List.length_map,List.length_range]
 by_cases hi:i<n
 ·rw [List.getElem?_map,List.getElem?_map,List.getElem?_range hi]
  by_cases h:k=i
  ·subst h;simp [hi]
  ·have:¬i=k:=fun e=>h e.symm
   simp [h,this]
 ·rw [List.getElem?_eq_none (by simp;omega),List.getElem?_eq_none (by simp;omega)]
  split
  ·rw [if_neg (by omega)]
  ·rfl
def lR (n k:Nat):List Bool:=(List.range n).map fun y=>decide (y<k)
def eX (g:Gr) (l:List Bool) (j:Nat):List Bool:=(List.range g.n.toNat).map fun y:Nat=>(List.range j).any fun i=>decide (hd g i=(y:Int))&&(l.getD (tl g i).toNat false&&l.getD (hd g i).toNat false)
def fI (g:Gr):Nat→List Bool
 |0=>lR g.n.toNat g.n.toNat
 |k+1=>eX g (fI g k) g.es.length
theorem trueK_length {n k:Nat} :(lR n k).length=n:=by simp [lR]
theorem nextK_length {g:Gr} {l:List Bool} {j:Nat} :(eX g l j).length=g.n.toNat:=by simp [eX]
theorem leftK_length {g:Gr} {k:Nat} :(fI g k).length=g.n.toNat:=by
 cases k
 ·exact trueK_length
 ·exact nextK_length
theorem zM {n:Nat} :List.replicate n [D.sc (.bool false)]=(lR n 0).map rB:=by
 refine List.ext_getElem? fun i=> ?_
 by_cases hi:i<n
 ·simp [lR,hi,rB,List.getElem?_range hi]
 ·rw [List.getElem?_eq_none (by simp;omega),List.getElem?_eq_none (by simp [lR];omega)]
theorem gD {n k:Nat} :(lR n k).set k true=lR n (k+1):=by
 unfold lR;rw [uR]
 refine List.map_congr_left fun y _=> ?_
 split
 ·rename_i h;subst h;simp
 ·rename_i h
  rw [Bool.eq_iff_iff];simp;omega
theorem zN {g:Gr} {l:List Bool} :List.replicate g.n.toNat [D.sc (.bool false)]=(eX g l 0).map rB:=by
 refine List.ext_getElem? fun i=> ?_
 by_cases hi:i<g.n.toNat
 ·simp [eX,hi,rB,List.getElem?_range hi]
 ·rw [List.getElem?_eq_none (by simp;omega),List.getElem?_eq_none (by simp [eX];omega)]
theorem BX {g:Gr} {l:List Bool} {j:Nat} (h0:0≤hd g j) (h:(l.getD (tl g j).toNat false&&l.getD (hd g j).toNat false)=true):(eX g l j).set (hd g j).toNat true=eX g l (j+1):=by
 unfold eX;rw [uR]
 refine List.map_congr_left fun y _=> ?_
 rw [List.range_succ,List.any_append]
 simp only [List.any_cons,List.any_nil,h,Bool.and_true,Bool.or_false]
 split
 ·rename_i e
  have:hd g j=(y:Int):=by omega
  simp [this]
 ·rename_i e
  have:¬hd g j=(y:Int):=by omega
  simp [this]
theorem D3 {g:Gr} {l:List Bool} {j:Nat} (h:(l.getD (tl g j).toNat false&&l.getD (hd g j).toNat false)=false):eX g l j=eX g l (j+1):=by
 unfold eX
 refine List.map_congr_left fun y _=> ?_
 rw [List.range_succ,List.any_append]
 simp only [List.any_cons,List.any_nil,h,Bool.and_false,Bool.or_false]
attribute [go_sem] trueK_length nextK_length leftK_length
theorem cR (g:Gr) (hm:aP g=true):Spec Tryz.prog 143 (Args [eG g]) [] (.d (sB (fI g g.n.toNat))) []:=by
 have hn:=aT hm
 (refine Spec.intro (C:=T.cfg [] []) (rs:= [.t 2]) (T.aj _ _) Tryz.func143 rfl rfl Tryz.ntmps143 Tryz.results143 (by simp [AObj.isNest]) (by simp [AObj.isNest]) (by kernel_rfl) ?_;intro X hX hP hC aD aF vals hA;refine ⟨_,by simp,hA, ?_⟩;have af:X.P.follows .mixedOrders=true:=(by rw [hP];exact T.mixed);clear aD aF)
 repeat' (first|((first|((with_reducible (first|apply oA|apply oB));exact rfl;intro K hK)|(refine hK _ ?_;clear hK K)|((with_reducible (first|apply oG|apply oH));iterate 3 exact rfl)|((with_reducible apply oI);(iterate 2 exact rfl);intro K hK)|(with_reducible (first|apply wI|apply wJ|apply wK)));try simp only [go_sem,simprocAttr])|first|(show dz _ (.seq (.region 6 _ _) _) _ _;(refine dh hX 11 rfl (.inl rfl) ?_;simp only [go_sem,simprocAttr]))|(show dz _ (.region 8 _ _) _ _;(refine dh hX 29 rfl (.inl rfl) ?_;simp only [go_sem,simprocAttr]))|(with_reducible (first|apply oC|apply oJ|exact oK|apply wA|apply wB|apply wC hX hC|apply wD hX hC|apply wE hX hC af|apply wF hX hC af|apply wG|apply wH|apply And.intro))|((with_reducible refine oD ?_ ?_);kernel_rfl)|((with_reducible (first|apply oE|apply oF));(iterate 3 exact rfl);all_goals (intro h;first|(exact absurd h (by decide))|((try simp only [go_sem,simprocAttr] at h);(try with_reducible intro K hK);simp only [go_sem,simprocAttr])))|((first|((with_reducible apply wL);exact rfl)|((with_reducible apply wM);exact rfl));all_goals (try ((with_reducible intro h);first|(exact absurd h (by decide))|(try simp only [go_sem,simprocAttr] at h))))|omega|(intro h))
 refine ah (fun k:Nat=>k≤g.n.toNat) (fun k=>⟨[(1, .ptr 1 0),(4,eN k),(3, .ref 11)], [(1, .box [eN g.n, .d (sE g.es)]),(11, .own 4 1 ((lR g.n.toNat k).map rB))]⟩) (fun k=>g.n.toNat - k) 0 (by simp) ?_ ?_
 ·refine Le.of ?_ ?_<;>simp [go_sem,simprocAttr]
  exact zM
 rintro k hk
 rcases Nat.lt_or_ge k g.n.toNat with hlt|hge
 ·have hb:decide ((k:Int)<g.n)=true:=decide_eq_true (by omega)
  repeat' (first|((first|((with_reducible (first|apply oA|apply oB));exact rfl;intro K hK)|(refine hK _ ?_;clear hK K)|((with_reducible (first|apply oG|apply oH));iterate 3 exact rfl)|((with_reducible apply oI);(iterate 2 exact rfl);intro K hK)|(with_reducible (first|apply wI|apply wJ|apply wK)));try simp only [go_sem,simprocAttr,hb,gW,gD])|first|(show dz _ (.seq (.region 6 _ _) _) _ _;(refine dh hX 11 rfl (.inl rfl) ?_;simp only [go_sem,simprocAttr,hb,gW,gD]))|(show dz _ (.region 8 _ _) _ _;(refine dh hX 29 rfl (.inl rfl) ?_;simp only [go_sem,simprocAttr,hb,gW,gD]))|(with_reducible (first|apply oC|apply oJ|exact oK|apply wA|apply wB|apply wC hX hC|apply wD hX hC|apply wE hX hC af|apply wF hX hC af|apply wG|apply wH|apply And.intro))|((with_reducible refine oD ?_ ?_);kernel_rfl)|((with_reducible (first|apply oE|apply oF));(iterate 3 exact rfl);all_goals (intro h;first|(exact absurd h (by decide))|((try simp only [go_sem,simprocAttr,hb,gW,gD] at h);(try with_reducible intro K hK);simp only [go_sem,simprocAttr,hb,gW,gD])))|((first|((with_reducible apply wL);exact rfl)|((with_reducible apply wM);exact rfl));all_goals (try ((with_reducible intro h);first|(exact absurd h (by decide))|(try simp only [go_sem,simprocAttr,hb,gW,gD] at h))))|omega|(intro h))
  refine ⟨k+1,by omega, ?_,by omega⟩
  (refine Le.of ?_ ?_<;>simp [go_sem,simprocAttr])
 ·have hb:decide ((k:Int)<g.n)=false:=decide_eq_false (by omega)
  obtain rfl:k=g.n.toNat:=by omega
  repeat' (first|((first|((with_reducible (first|apply oA|apply oB));exact rfl;intro K hK)|(refine hK _ ?_;clear hK K)|((with_reducible (first|apply oG|apply oH));iterate 3 exact rfl)|((with_reducible apply oI);(iterate 2 exact rfl);intro K hK)|(with_reducible (first|apply wI|apply wJ|apply wK)));try simp only [go_sem,simprocAttr,hb])|first|(show dz _ (.seq (.region 6 _ _) _) _ _;(refine dh hX 11 rfl (.inl rfl) ?_;simp only [go_sem,simprocAttr,hb]))|(show dz _ (.region 8 _ _) _ _;(refine dh hX 29 rfl (.inl rfl) ?_;simp only [go_sem,simprocAttr,hb]))|(with_reducible (first|apply oC|apply oJ|exact oK|apply wA|apply wB|apply wC hX hC|apply wD hX hC|apply wE hX hC af|apply wF hX hC af|apply wG|apply wH|apply And.intro))|((with_reducible refine oD ?_ ?_);kernel_rfl)|((with_reducible (first|apply oE|apply oF));(iterate 3 exact rfl);all_goals (intro h;first|(exact absurd h (by decide))|((try simp only [go_sem,simprocAttr,hb] at h);(try with_reducible intro K hK);simp only [go_sem,simprocAttr,hb])))|((first|((with_reducible apply wL);exact rfl)|((with_reducible apply wM);exact rfl));all_goals (try ((with_reducible intro h);first|(exact absurd h (by decide))|(try simp only [go_sem,simprocAttr,hb] at h))))|omega|(intro h))
  clear hb hk hge
  refine ah (fun k:Nat=>k≤g.n.toNat) (fun k=>⟨[(1, .ptr 1 0),(5,eN k),(3, .d (sB (fI g k)))], [(1, .box [eN g.n, .d (sE g.es)])]⟩) (fun k=>g.n.toNat - k) 0 (by simp) ?_ ?_
  ·refine Le.of ?_ ?_<;>simp [go_sem,simprocAttr,fI]
  rintro k hk
  rcases Nat.lt_or_ge k g.n.toNat with hlt|hge
  ·have hb:decide ((k:Int)<g.n)=true:=decide_eq_true (by omega)
   repeat' (first|((first|((with_reducible (first|apply oA|apply oB));exact rfl;intro K hK)|(refine hK _ ?_;clear hK K)|((with_reducible (first|apply oG|apply oH));iterate 3 exact rfl)|((with_reducible apply oI);(iterate 2 exact rfl);intro K hK)|(with_reducible (first|apply wI|apply wJ|apply wK)));try simp only [go_sem,simprocAttr,hb])|first|(show dz _ (.seq (.region 6 _ _) _) _ _;(refine dh hX 11 rfl (.inl rfl) ?_;simp only [go_sem,simprocAttr,hb]))|(show dz _ (.region 8 _ _) _ _;(refine dh hX 29 rfl (.inl rfl) ?_;simp only [go_sem,simprocAttr,hb]))|(with_reducible (first|apply oC|apply oJ|exact oK|apply wA|apply wB|apply wC hX hC|apply wD hX hC|apply wE hX hC af|apply wF hX hC af|apply wG|apply wH|apply And.intro))|((with_reducible refine oD ?_ ?_);kernel_rfl)|((with_reducible (first|apply oE|apply oF));(iterate 3 exact rfl);all_goals (intro h;first|(exact absurd h (by decide))|((try simp only [go_sem,simprocAttr,hb] at h);(try with_reducible intro K hK);simp only [go_sem,simprocAttr,hb])))|((first|((with_reducible apply wL);exact rfl)|((with_reducible apply wM);exact rfl));all_goals (try ((with_reducible intro h);first|(exact absurd h (by decide))|(try simp only [go_sem,simprocAttr,hb] at h))))|omega|(intro h))
   refine ah (fun j:Nat=>j≤g.es.length) (fun j=>⟨[(1, .ptr 1 0),(5,eN k),(3, .d (sB (fI g k))),(7,eN j),(6, .ref 29)], [(1, .box [eN g.n, .d (sE g.es)]),(29, .own 4 1 ((eX g (fI g k) j).map rB))]⟩) (fun j=>g.es.length - j) 0 (by simp) ?_ ?_
   ·refine Le.of ?_ ?_<;>simp [go_sem,simprocAttr]
    exact zN
   rintro j hj
   rcases Nat.lt_or_ge j g.es.length with hjl|J1
   ·have ak:decide ((j:Int)<(g.es.length:Int))=true:=decide_eq_true (by omega)
    obtain ⟨⟨Gb,om⟩,⟨xo,vQ⟩⟩:=dS hm hjl
    repeat' (first|((first|((with_reducible (first|apply oA|apply oB));exact rfl;intro K hK)|(refine hK _ ?_;clear hK K)|((with_reducible (first|apply oG|apply oH));iterate 3 exact rfl)|((with_reducible apply oI);(iterate 2 exact rfl);intro K hK)|(with_reducible (first|apply wI|apply wJ|apply wK)));try simp only [go_sem,simprocAttr,ak,gW])|first|(show dz _ (.seq (.region 6 _ _) _) _ _;(refine dh hX 11 rfl (.inl rfl) ?_;simp only [go_sem,simprocAttr,ak,gW]))|(show dz _ (.region 8 _ _) _ _;(refine dh hX 29 rfl (.inl rfl) ?_;simp only [go_sem,simprocAttr,ak,gW]))|(with_reducible (first|apply oC|apply oJ|exact oK|apply wA|apply wB|apply wC hX hC|apply wD hX hC|apply wE hX hC af|apply wF hX hC af|apply wG|apply wH|apply And.intro))|((with_reducible refine oD ?_ ?_);kernel_rfl)|((with_reducible (first|apply oE|apply oF));(iterate 3 exact rfl);all_goals (intro h;first|(exact absurd h (by decide))|((try simp only [go_sem,simprocAttr,ak,gW] at h);(try with_reducible intro K hK);simp only [go_sem,simprocAttr,ak,gW])))|((first|((with_reducible apply wL);exact rfl)|((with_reducible apply wM);exact rfl));all_goals (try ((with_reducible intro h);first|(exact absurd h (by decide))|(try simp only [go_sem,simprocAttr,ak,gW] at h))))|omega|(intro h))
    ·have hy:(eX g (fI g k) j).set (g.es.getD j (0,0)).2.toNat true=eX g (fI g k) (j+1):=BX xo (by rw [Bool.and_eq_true];exact ⟨by assumption,by assumption⟩)
     refine ⟨j+1,by omega, ?_,by omega⟩
     refine Le.of ?_ ?_<;>simp [go_sem,simprocAttr]
     rw [← hy,List.map_set];rfl
    all_goals (
     have hy:eX g (fI g k) j=eX g (fI g k) (j+1):=D3 (Bool.and_eq_false_iff.2 (by first|exact .inl (by assumption)|exact .inr (by assumption)))
     refine ⟨j+1,by omega, ?_,by omega⟩
     refine Le.of ?_ ?_<;>simp [go_sem,simprocAttr, ← hy])
   ·have ak:decide ((j:Int)<(g.es.length:Int))=false:=decide_eq_false (by omega)
    obtain rfl:j=g.es.length:=by omega
    repeat' (first|((first|((with_reducible (first|apply oA|apply oB));exact rfl;intro K hK)|(refine hK _ ?_;clear hK K)|((with_reducible (first|apply oG|apply oH));iterate 3 exact rfl)|((with_reducible apply oI);(iterate 2 exact rfl);intro K hK)|(with_reducible (first|apply wI|apply wJ|apply wK)));try simp only [go_sem,simprocAttr,ak])|first|(show dz _ (.seq (.region 6 _ _) _) _ _;(refine dh hX 11 rfl (.inl rfl) ?_;simp only [go_sem,simprocAttr,ak]))|(show dz _ (.region 8 _ _) _ _;(refine dh hX 29 rfl (.inl rfl) ?_;simp only [go_sem,simprocAttr,ak]))|(with_reducible (first|apply oC|apply oJ|exact oK|apply wA|apply wB|apply wC hX hC|apply wD hX hC|apply wE hX hC af|apply wF hX hC af|apply wG|apply wH|apply And.intro))|((with_reducible refine oD ?_ ?_);kernel_rfl)|((with_reducible (first|apply oE|apply oF));(iterate 3 exact rfl);all_goals (intro h;first|(exact absurd h (by decide))|((try simp only [go_sem,simprocAttr,ak] at h);(try with_reducible intro K hK);simp only [go_sem,simprocAttr,ak])))|((first|((with_reducible apply wL);exact rfl)|((with_reducible apply wM);exact rfl));all_goals (try ((with_reducible intro h);first|(exact absurd h (by decide))|(try simp only [go_sem,simprocAttr,ak] at h))))|omega|(intro h))
    refine ⟨k+1,by omega, ?_,by omega⟩
    refine Le.of ?_ ?_<;>simp [go_sem,simprocAttr,fI]
  ·have hb:decide ((k:Int)<g.n)=false:=decide_eq_false (by omega)
   obtain rfl:k=g.n.toNat:=by omega
   repeat' (first|((first|((with_reducible (first|apply oA|apply oB));exact rfl;intro K hK)|(refine hK _ ?_;clear hK K)|((with_reducible (first|apply oG|apply oH));iterate 3 exact rfl)|((with_reducible apply oI);(iterate 2 exact rfl);intro K hK)|(with_reducible (first|apply wI|apply wJ|apply wK)));try simp only [go_sem,simprocAttr,hb])|first|(show dz _ (.seq (.region 6 _ _) _) _ _;(refine dh hX 11 rfl (.inl rfl) ?_;simp only [go_sem,simprocAttr,hb]))|(show dz _ (.region 8 _ _) _ _;(refine dh hX 29 rfl (.inl rfl) ?_;simp only [go_sem,simprocAttr,hb]))|(with_reducible (first|apply oC|apply oJ|exact oK|apply wA|apply wB|apply wC hX hC|apply wD hX hC|apply wE hX hC af|apply wF hX hC af|apply wG|apply wH|apply And.intro))|((with_reducible refine oD ?_ ?_);kernel_rfl)|((with_reducible (first|apply oE|apply oF));(iterate 3 exact rfl);all_goals (intro h;first|(exact absurd h (by decide))|((try simp only [go_sem,simprocAttr,hb] at h);(try with_reducible intro K hK);simp only [go_sem,simprocAttr,hb])))|((first|((with_reducible apply wL);exact rfl)|((with_reducible apply wM);exact rfl));all_goals (try ((with_reducible intro h);first|(exact absurd h (by decide))|(try simp only [go_sem,simprocAttr,hb] at h))))|omega|(intro h))
end Go.Ab
end
