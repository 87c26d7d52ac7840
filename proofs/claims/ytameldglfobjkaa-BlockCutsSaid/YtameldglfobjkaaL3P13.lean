/- A part of the proof. -/
import Derived.RangeFuncBox
import Derived.RangeFuncLeaves
import Derived.Shelf.Abstract
import Derived.WalkKit
import Derived.OwnWalkIn
import Derived.TacticsInMore
import Derived.LoopNIn
import Derived.LoopIn
import Derived.Maps.AppendAt
import Derived.Sort.OwnSortedInts
import Derived.Test.YtameldglfobjkaaL3P12
set_option linter.unusedSimpArgs false
set_option linter.unusedVariables false
section
namespace Go.Ab
open Go.Proofs Go.RowKit Go.Shelf Go.Sort
attribute [local go_sem] Oper.semAt_some
def upto {α:Type} (f:Nat→α) (k:Nat):List α:=(List.range k).map f
theorem lF {α:Type} (f:Nat→α) (k:Nat):upto f (k+1)=upto f k++ [f k]:=by simp [upto,List.range_succ]
theorem oe {α:Type} (f:Nat→α) (k:Nat):(upto f k).length=k:=by simp [upto]
theorem ur (zs:List Int):upto (fun j=>zs[j]?.getD 0) zs.length=zs:=by
 apply List.ext_getElem
 ·simp [upto]
 ·intro i h1 h2
  simp [upto,h2]
theorem rL (zs:List Int) {k:Nat} (hk:k≤zs.length):upto (fun j=>zs[j]?.getD 0) k=zs.take k:=by
 apply List.ext_getElem
 ·simp [upto,hk]
 ·intro i h1 h2
  have:i<zs.length:=by simp [upto] at h1;omega
  simp [upto,this]
set_option maxRecDepth 100000 in
set_option maxHeartbeats 2000000 in
theorem pK {ob:Nat} (F:Fence) (n:Nat) (h7:F.fn 107) (hro:F.round=none) (hn:1≤n) (l Bs n₀ b off len cap:Nat) (zs:List Int) (eo:len*8≤140737488351232) (hb:b<n₀) (J Jx:List Int→World→Prop)
 (hY:∀pre x W,J pre W→pre.length<len→YieldAt F (n - 1) Try.prog l #[.int .i64 x] W fun e W'=>
   (e= .returned (.bool true)∧J (pre++ [x]) W'∧Below n₀ W W')∨(e= .returned (.bool false)∧Jx (pre++ [x]) W'))
 (W:World) (uu:W.cell? ⟨Bs,ob,none⟩=some (.slice (some ⟨b,off,none⟩) len cap)) (hc:∀j,j<len→W.cell? ⟨b,off+j,none⟩=some (.int .i64 (zs[j]?.getD 0))) (h0:J [] W):
 CallsIn F n Try.prog 107 #[.func (.yield l) #[] #[], .pointer (some ⟨Bs,ob,none⟩)] W fun e W'=>(∃v,e= .returned v)∧
  ((∃ys,ys=upto (fun j=>zs[j]?.getD 0) len∧J ys W')∨(∃pre,(∃k,k≤len∧pre=upto (fun j=>zs[j]?.getD 0) k)∧Jx pre W')):=by
 refine callsIn_of_wp Try.func107 rfl h7 ?_ hro
 simp only [Try.ntmps107,List.size_toArray,List.length_cons,List.length_nil,Nat.reduceAdd,Nat.reduceSub,Array.replicate_succ,Array.replicate_zero,List.push_toArray,List.append_toArray,List.nil_append,List.cons_append]
 gi_wp2
 gi_loopw [7] (fun i wr=>∃k:Nat,k≤len∧i= .int .i64 k∧J (upto (fun j=>zs[j]?.getD 0) k) wr∧Below n₀ W wr)
  (fun i _=>len - (Go.Proofs.intOf i).toNat)
 case atStart=>exact ⟨0,Nat.zero_le _,rfl,h0,Below.refl _ _⟩
 case round=>
  obtain ⟨k,hk,rfl,Bf,cE⟩:=hrel
  have Bg:k<len→wr.cell? ⟨b,off+k,none⟩=some (.int .i64 (zs[k]?.getD 0)):=fun h=>(cE.cell (p:=⟨b,off+k,none⟩) hb).trans (hc k h)
  by_cases hlt:k<len
  ·obtain ⟨fn,tmps,assign,body,hy,hR⟩:=hY _ (zs[k]?.getD 0) wr Bf (by rw [oe];exact hlt)
   have Ft:=Bg hlt
   gi_wp2
   refine hR.mono ?_
   rintro e W3 (⟨rfl,Fu,Fv⟩|⟨rfl,C5⟩)
   ·gi_wp2
    go_roundw
    case rel=>exact ⟨k+1,by omega,by simp,by rw [lF];exact Fu,cE.trans Fv⟩
    case measure=>simp [Go.Proofs.intOf];omega
   ·gi_wp2
    refine bodyPost_ret (results_none rfl _ _ _) rfl ?_
    exact ⟨⟨_,rfl⟩, .inr ⟨_,⟨k+1,by omega,(lF _ _).symm⟩,C5⟩⟩
  ·obtain rfl:k=len:=by omega
   gi_wp2
   go_end0
   exact ⟨⟨_,rfl⟩, .inl ⟨_,rfl,Bf⟩⟩
def Ints (n₀:Nat) (W:World) (sv:Value) (zs:List Int):Prop:=
 (∃p c,sv= .slice p 0 c∧zs= [])∨∃b off cap,sv= .slice (some ⟨b,off,none⟩) zs.length cap∧b<n₀∧∀j,j<zs.length→W.cell? ⟨b,off+j,none⟩=some (.int .i64 (zs[j]?.getD 0))
theorem Ints.below {n₀:Nat} {A B:World} (h:Below n₀ A B) {sv:Value} {zs:List Int} :Ints n₀ A sv zs→Ints n₀ B sv zs
 | .inl e=> .inl e
 | .inr ⟨b,off,cap,e,hb,hc⟩=> .inr ⟨b,off,cap,e,hb,fun j hj=>(h.cell (p:=⟨b,off+j,none⟩) hb).trans (hc j hj)⟩
set_option maxRecDepth 100000 in
set_option maxHeartbeats 1000000 in
theorem kz {ob:Nat} (F:Fence) (n:Nat) (h7:F.fn 107) (hro:F.round=none) (l Bs:Nat) (p:Option Addr) (c:Nat) (J:List Int→World→Prop) (W:World) (uu:W.cell? ⟨Bs,ob,none⟩=some (.slice p 0 c)) (h0:J [] W):
 CallsIn F n Try.prog 107 #[.func (.yield l) #[] #[], .pointer (some ⟨Bs,ob,none⟩)] W fun e W'=>(∃v,e= .returned v)∧J [] W':=by
 refine callsIn_of_wp Try.func107 rfl h7 ?_ hro
 simp only [Try.ntmps107,List.size_toArray,List.length_cons,List.length_nil,Nat.reduceAdd,Nat.reduceSub,Array.replicate_succ,Array.replicate_zero,List.push_toArray,List.append_toArray,List.nil_append,List.cons_append]
 gi_wp2
 gi_loopw [7] (fun i wr=>i= .int .i64 0∧J [] wr) (fun _ _=>0)
 case atStart=>exact ⟨rfl,h0⟩
 case round=>
  obtain ⟨rfl,Bf⟩:=hrel
  gi_wp2
  go_end0
  exact ⟨⟨_,rfl⟩,Bf⟩
theorem mF {ob:Nat} (F:Fence) (n:Nat) (h7:F.fn 107) (hro:F.round=none) (hn:1≤n) (Bs n₀:Nat) (sv:Value) (zs:List Int) (eo:zs.length*8≤140737488351232) (w:World) (uu:Bs<w.heap.size) (hn₀:n₀≤w.heap.size)
 (hc:w.cell? ⟨Bs,ob,none⟩=some sv) (hI:Ints n₀ w sv zs):
 SeqStopsK F n Try.prog 107 #[.pointer (some ⟨Bs,ob,none⟩)] (fun x:Int=> #[Value.int .i64 x]) (Below n₀) (fun ys=>ys=zs) (fun pre=>pre<+:zs) zs.length w:=fun l J Jx W hW _ _ hY h0=>by
 have o6:=(hW.cell (p:=⟨Bs,ob,none⟩) uu).trans hc
 rcases hI.below (hW.mono hn₀) with ⟨p,c,rfl,rfl⟩|⟨b,off,cap,rfl,hb,hcs⟩
 ·exact (kz F n h7 hro l Bs p c J W o6 h0).mono fun e W' ⟨he,hj⟩=>⟨he, .inl ⟨_,rfl,hj⟩⟩
 ·refine (pK F n h7 hro hn l Bs n₀ b off zs.length cap zs eo hb J Jx hY W o6 hcs h0).mono ?_
  rintro e W' ⟨he,⟨ys,rfl,hj⟩|⟨pre,⟨k,hk,rfl⟩,hj⟩⟩
  ·exact ⟨he, .inl ⟨_,ur zs,hj⟩⟩
  ·exact ⟨he, .inr ⟨_,by rw [rL zs hk];exact List.take_prefix _ _,hj⟩⟩
theorem vG:(Try.prog.info? 3).map (fun i=>(i.zero,i.size,i.bytes))=some (some (.int .i64 0),1,8):=by kernel_rfl
set_option maxRecDepth 100000 in
set_option maxHeartbeats 2000000 in
theorem mG {ob:Nat} (F:Fence) (n:Nat) (h3:F.fn 117) (h5:F.fn 107) (hro:F.round=none) (hn:3≤n) (Bs:Nat) (sv:Value) (zs:List Int) (eo:zs.length*8≤140737488351232) (w:World) (uu:Bs<w.heap.size)
 (hcs:w.cell? ⟨Bs,ob,none⟩=some sv) (hI:Ints w.heap.size w sv zs):
 CallsIn F n Try.prog 117 #[.slice none 0 0, .func (.func 107) #[] #[.pointer (some ⟨Bs,ob,none⟩)]] w fun e W'=>∃v,e= .returned v∧W'.ownsRow w.heap.size 3 1 v zs.length (zs.map (Value.int .i64))∧(v= .slice none 0 0↔zs= [])∧Below w.heap.size w W':=by
 have h1:1≤n:=by omega
 obtain ⟨i0,hi,vk,iJ,xN⟩:=info_parts vG
 refine callsIn_of_wp_marks Try.func117 rfl h3 ?_ hro
 simp only [Try.ntmps117,List.size_toArray,List.length_cons,List.length_nil,Nat.reduceAdd,Nat.reduceSub,Array.replicate_succ,Array.replicate_zero,List.push_toArray,List.append_toArray,List.nil_append,List.cons_append]
 gi_wp2
 have bO:=Boxed.new w 25 (.slice none 0 0)
 have C6:Below w.heap.size w (w.alloc (.cells #[.slice none 0 0] 25)):=(Below.refl _ w).alloc (Nat.le_refl _) _
 refine wpIn_rangeFunc_ownG hro h1 (gf:=107) (lb:= #[.pointer (some ⟨Bs,ob,none⟩)]) rfl h5 (enters_of Try.func107 (by kernel_rfl) rfl)
  (mF F (n - 1) h5 hro (by omega) Bs w.heap.size sv zs eo _ (by simp;omega) (by simp) ((C6.cell (p:=⟨Bs,ob,none⟩) uu).trans hcs) (hI.below C6)) belowK_t (belowK_b (by simp)) (Below.refl _ _) (fun _=>rfl)
  (fun pre W=>(∃v,Boxed W w.heap.size 25 v∧W.ownsRow w.heap.size 3 1 v pre.length (pre.map (Value.int .i64))∧(v= .slice none 0 0↔pre= []))∧Below w.heap.size w W)
  (fun _ _ _=>False)
  (OwnFrom.and (Own.from (holdsRow_own w.heap.size w.heap.size 25 3 1 (fun pre=>pre.length) (fun pre=>pre.map (Value.int .i64)) (fun pre v=>v= .slice none 0 0↔pre= [])) _) (ownFrom_below (Nat.le_refl _) (by simp)))
  (fun _ _ _ _ _ hs _ _=>hs)
  ⟨⟨_,bO,World.ownsRow_nil _ _ _ _,by simp⟩,C6⟩
  (fun x=> {tmps:= #[.slice none 0 0, .func (.func 107) #[] #[.pointer (some ⟨Bs,ob,none⟩)], .pointer (some ⟨w.heap.size,0,none⟩),undef, .slice none 0 0, .int .i64 x, .func (.func 107) #[] #[.pointer (some ⟨Bs,ob,none⟩)], .int .i64 x,undef,undef,undef,undef,undef],defers:= []}) ?assign ?body ?done ?stop
 case assign=>
  intro l x W K hK
  gi_wp2
  exact hK
 case body=>
  rintro l pre x W ⟨⟨v,hv,hrow,jh⟩,hB⟩ hlt
  have hc:=hv.cell
  have hml:maxLen=9223372036854775807:=rfl
  gi_wp2_with (gi_at_builtin;refine wpListIn_append_own _ rfl _ _ 25 rfl w.heap.size 3 i0 (.int .i64 0) 1 8 Try.underlying25 hi vk iJ xN rfl (by decide) _ _ _ rfl (hrow.alloc _) ⟨W.heap.size,0,none⟩ 1 1 [.int .i64 x] rfl rfl (cell_one_new _ _ _) (by simp [Value.oneCell']) (by omega) (by omega) (by have:=hB.size;simp;omega) ?_;intro v' w1 hown' hgrow _;obtain ⟨g',cap',rfl⟩:=ownsRow_succ hown';obtain ⟨yI,xK,sn,hk2,mC⟩:=hv.appended (by decide) hrow hB.size (Nat.le_refl _) hown' hgrow;have hc1:=yI.cell;have Gv:=yI.frozen)
  exact ⟨hk2.from _,mC,⟨_,xK,by simpa using sn,by simp⟩,hB.trans mC⟩
 case done=>
  rintro D ys W hD rfl ⟨⟨v,hv,hrow,jh⟩,hB⟩ hK
  have hc:=hv.cell
  gi_wp2
  refine ⟨by simp, .inl ⟨_,_,rfl,run_takeDeferred hK, ?_⟩⟩
  exact ⟨_,results_tmp rfl _ _ _,v,rfl,ownsRow_putObj hrow _ hK rfl,jh,hB.trans (belowK_b (w:=w) (Nat.le_refl _) W D _ _ (by simp at hD;omega) hK rfl rfl)⟩
 case stop=>
  rintro D c pre W _ _ h _
  exact h.elim
set_option maxRecDepth 100000 in
set_option maxHeartbeats 2000000 in
theorem pL {ob:Nat} (F:Fence) (n:Nat) (h2:F.fn 105) (h3:F.fn 117) (h5:F.fn 107) (hro:F.round=none) (hn:4≤n) (Bs:Nat) (sv:Value) (zs:List Int) (eo:zs.length*8≤140737488351232) (w:World) (uu:Bs<w.heap.size)
 (hcs:w.cell? ⟨Bs,ob,none⟩=some sv) (hI:Ints w.heap.size w sv zs):
 CallsIn F n Try.prog 105 #[.func (.func 107) #[] #[.pointer (some ⟨Bs,ob,none⟩)]] w fun e W'=>∃v,e= .returned v∧W'.ownsRow w.heap.size 3 1 v zs.length (zs.map (Value.int .i64))∧(v= .slice none 0 0↔zs= [])∧Below w.heap.size w W':=by
 have h1:1≤n:=by omega
 refine callsIn_of_wp Try.func105 rfl h2 ?_ hro
 simp only [Try.ntmps105,List.size_toArray,List.length_cons,List.length_nil,Nat.reduceAdd,Nat.reduceSub,Array.replicate_succ,Array.replicate_zero,List.push_toArray,List.append_toArray,List.nil_append,List.cons_append]
 gi_wp2_with (gi_at_call 117;refine (mG F (n - 1) h3 h5 hro (by omega) Bs sv zs eo _ uu hcs hI).mono ?_;rintro e W ⟨v,rfl,hrow,jh,hb⟩)
 go_ret
 exact ⟨v,rfl,hrow,jh,hb⟩
def rM (l:List Int):List Int:=l.mergeSort fun x y=>decide (x≤y)
set_option maxRecDepth 100000 in
set_option maxHeartbeats 2000000 in
theorem rO {ob:Nat} (F:Fence) (n:Nat) (jB:F.fn 80) (h2:F.fn 105) (h3:F.fn 117) (h5:F.fn 107) (h9:F.fn 106) (hro:F.round=none) (hn:5≤n)
 (hsort:∀(blk off cap:Nat) (ss:List Int) (W:World),Holds (Value.int .i64) W blk off ss.toArray→blk<W.heap.size→ss.length<4611686018427387904→
   CallsIn F (n - 1) Try.prog 106 #[.slice (some ⟨blk,off,none⟩) ss.length cap] W fun e w'=>e= .returned (.tuple #[])∧∃k os,w'=grow (putRow (Value.int .i64) (Sort.ahead W k) blk off (ss.mergeSort fun x y=>decide (x≤y)).toArray) os)
 (hnone:∀(p:Option Addr) (cap:Nat) (W:World),CallsIn F (n - 1) Try.prog 106 #[.slice p 0 cap] W fun e w'=>e= .returned (.tuple #[])∧w'=W) (Bs:Nat) (sv:Value) (zs:List Int) (eo:zs.length*8≤140737488351232) (w:World) (uu:Bs<w.heap.size)
 (hcs:w.cell? ⟨Bs,ob,none⟩=some sv) (hI:Ints w.heap.size w sv zs):
 CallsIn F n Try.prog 80 #[.func (.func 107) #[] #[.pointer (some ⟨Bs,ob,none⟩)]] w fun e W'=>∃v,e= .returned v∧W'.ownsRow w.heap.size 3 1 v zs.length ((rM zs).map (Value.int .i64))∧Below w.heap.size w W':=by
 have h1:1≤n:=by omega
 refine callsIn_of_wp Try.func80 rfl jB ?_ hro
 simp only [Try.ntmps80,List.size_toArray,List.length_cons,List.length_nil,Nat.reduceAdd,Nat.reduceSub,Array.replicate_succ,Array.replicate_zero,List.push_toArray,List.append_toArray,List.nil_append,List.cons_append]
 gi_wp2_with (gi_at_call 105;refine (pL F (n - 1) h2 h3 h5 hro (by omega) Bs sv zs eo _ uu hcs hI).mono ?_;rintro e W ⟨v,rfl,hrow,jh,hb⟩)
 rcases hrow.2 with ⟨rfl,hz⟩|⟨gb,cap,cur,rfl,hbase,C7,r1,r2,r3,r4⟩
 ·have hss:zs= []:=List.eq_nil_of_length_eq_zero hz
  subst hss
  have cS:=hnone none 0 W
  gi_wp2_with (gi_at_call 106;refine cS.mono ?_;rintro e w' ⟨rfl,rfl⟩)
  go_ret
  exact ⟨.slice none 0 0,rfl,by simpa [rM] using hrow,hb⟩
 ·have hH:Holds (Value.int .i64) W gb 0 zs.toArray:=holds_of_blockI C7 (by simpa using r4)
  have vf:gb<W.heap.size:=(Array.getElem?_eq_some_iff.1 C7).1
  have hsz:zs.length<4611686018427387904:=by omega
  have cS:=hsort gb 0 cap zs W hH vf hsz
  gi_wp2_with (gi_at_call 106;refine cS.mono ?_;rintro e w' ⟨rfl,nn,os,rfl⟩)
  go_ret
  exact ⟨_,rfl,ownsRow_sortedI (by simp [rM]) hbase C7 r1 r2 r3,hb.grown (grownBy_sortedI _) hb.size (fun j hj=>by cases hj;exact hbase)⟩
theorem mH {ob:Nat} (Bs:Nat) (sv:Value) (zs:List Int) (eo:zs.length*8≤140737488351232) (w:World) (uu:Bs<w.heap.size)
 (hcs:w.cell? ⟨Bs,ob,none⟩=some sv) (hI:Ints w.heap.size w sv zs):
 Calls Try.prog 80 #[.func (.func 107) #[] #[.pointer (some ⟨Bs,ob,none⟩)]] w fun e W'=>∃v,e= .returned v∧W'.ownsRow w.heap.size 3 1 v zs.length ((rM zs).map (Value.int .i64))∧Below w.heap.size w W':=
 (callsIn_wide (n:=5)).1 (rO Fence.wide 5 trivial trivial trivial trivial trivial rfl (Nat.le_refl _)
   (fun blk off cap ss W h1 h2 h3=>callsIn_wide.2 (AnyM.slices_Sort_int Try.wv blk off cap ss W h1 h2 h3))
   (fun p cap W=>callsIn_wide.2 (AnyM.slices_Sort_int_none Try.wv p cap W)) Bs sv zs eo w uu hcs hI)
end Go.Ab
end
section
namespace Go.Ab
open Go.Proofs Go.RowKit
attribute [local congr] ACall.congr gd.congr Nx.congr
set_option maxRecDepth 10000
def Gw (E:Env) (w w':World):Env:=⟨E.ρ,E.σ,fun b=>if b<w.heap.size then E.z b else aX w' b⟩
theorem uv {w:World} {z:Nat→Nat} {v:Value} {x:Int} (h:Rd w z v (.sc (.int .i64 x))):v= .int .i64 x:=by cases h;rfl
theorem vH {w:World} {z:Nat→Nat} {v:Value} {l:List Int} (h:Rd w z v (sI l)):Ints w.heap.size w v l:=by
 generalize hx:sI l=x at h
 cases h with
 |sc v h=>cases hx
 |pt b off cells vs hz hc hr=>cases hx
 |nil p sz=>
  simp only [sI,D.sl.injEq,List.map_eq_nil_iff] at hx
  exact .inl ⟨p,0,rfl,hx.2⟩
 |sl b off n cap sz rows vs hn hsz hz hcap hc hr=>
  simp only [sI,D.sl.injEq] at hx
  obtain ⟨rfl,rfl⟩:=hx
  rw [List.length_map] at hn
  subst hn
  rcases Nat.eq_zero_or_pos l.length with h0|hpos
  ·exact .inl ⟨some ⟨b,off,none⟩,cap,by rw [h0],List.eq_nil_of_length_eq_zero h0⟩
  refine .inr ⟨b,off,cap,rfl, ?_,fun j hj=> ?_⟩
  ·have:=hc 0 (by omega)
   by_cases hlt:b<w.heap.size
   ·exact hlt
   ·exfalso
    simp [World.cell?,Array.getElem?_eq_none (Nat.le_of_not_lt hlt)] at this
  ·have h1:=hc j (by omega)
   have h2:=hr j 0 (rI l[j]) (.sc (.int .i64 l[j])) (by simp [List.getElem?_eq_getElem hj]) rfl
   have h3:=uv h2
   simp only [Nat.mul_one,Nat.add_zero] at h3
   rw [h1,h3]
   simp [List.getElem?_eq_getElem hj]
theorem pM (l:List Int):(rM l).length=l.length:=by simp [rM]
end Go.Ab
end
section
namespace Go.Ab
end Go.Ab
end
section
namespace Go.Ab
open Go.Proofs
attribute [local congr] ACall.congr gd.congr Nx.congr
set_option maxRecDepth 10000
def g0:Gr:=⟨3, [(0,1),(1,2),(2,1)]⟩
end Go.Ab
end
section
namespace Go.Ab
open Go.Proofs
attribute [local congr] ACall.congr gd.congr Nx.congr
set_option maxRecDepth 10000
def Fw (g:Gr):Bool:=decide (g.n≤((tR g).length:Int))
def Fx (g:Gr):List Int:=if Fw g then tR g else []
def Ar (l:List Int) (n:Int):Bool:=decide ((l.length:Int)=n)&&(List.range n.toNat).all fun x:Nat=>decide ((x:Int)∈l)
end Go.Ab
end
section
namespace Go.Ab
open Go.Proofs
attribute [local congr] ACall.congr gd.congr Nx.congr
set_option maxRecDepth 10000
def C8 (n:Nat):List Int:=(List.range n).map Int.ofNat
def yR (n:Nat) (l:List Int):Nat→List Int
 |0=>List.replicate n 0
 |k+1=>(yR n l k).set (l.getD k 0).toNat k
theorem atK_length {n:Nat} {l:List Int} :∀ {k:Nat},(yR n l k).length=n
 |0=>by simp [yR]
 |k+1=>by simp [yR,atK_length (k:=k)]
def x3 (g:Gr) (l:List Int) (j:Nat):Bool:=(List.range j).all fun i=>decide ((yR g.n.toNat l l.length).getD (tl g i).toNat 0<(yR g.n.toNat l l.length).getD (hd g i).toNat 0)
def C9 (g:Gr) (l:List Int):Bool:=Ar l g.n&&x3 g l g.es.length
attribute [go_sem] atK_length
end Go.Ab
end
section
namespace Go.Ab
def Gx (g:Gr) (out:List Int):Prop:=∀p,p<out.length→out.getD p 0=iK (xR g (out.take p)) 0∧0≤out.getD p 0
end Go.Ab
end
section
namespace Go.Ab
open Go.Proofs
attribute [local congr] ACall.congr gd.congr Nx.congr
set_option maxRecDepth 10000
end Go.Ab
end
section
namespace Go.Ab
open Go.Proofs
attribute [local congr] ACall.congr gd.congr Nx.congr
set_option maxRecDepth 10000
def gz:Gr:=⟨0, []⟩
def vz:D:= .pt [.sc (.int .i64 0), .sl 2 [], .sl 1 [], .sl 1 []]
def pN (f:Edge→Int) (g:Gr) (x:Int):List Int:=if 0≤x∧x<g.n then tW f g.es g.es.length x else []
end Go.Ab
end
section
namespace Go.Ab
open Go.Proofs
attribute [local congr] ACall.congr gd.congr Nx.congr
set_option maxRecDepth 10000
abbrev It:=Int × Int × Int
def rT (t:It):List D:= [.sc (.int .i64 t.1), .sc (.int .i64 t.2.1), .sc (.int .i64 t.2.2)]
def eT (t:It):AV:= .agg [.d (.sc (.int .i64 t.1)), .d (.sc (.int .i64 t.2.1)), .d (.sc (.int .i64 t.2.2))]
def sT (ts:List It):D:= .sl 3 (ts.map rT)
theorem getD_rT (ps:List It) (i:Nat):(ps.map rT).getD i [.sc (.int .i64 0), .sc (.int .i64 0), .sc (.int .i64 0)]=rT (ps.getD i (0,0,0)):=by
 simp only [List.getD_eq_getElem?_getD,List.getElem?_map]
 cases ps[i]? <;>rfl
theorem rT_eq (t:It):rT t= [.sc (.int .i64 t.1), .sc (.int .i64 t.2.1), .sc (.int .i64 t.2.2)]:=rfl
attribute [go_sem] getD_rT rT_eq eT sT
theorem wz {l:List Int} :∀r∈l.map rI,∀x∈r,∃v,x=D.sc v:=by
 intro r hr x hx
 obtain ⟨y,_,rfl⟩:=List.mem_map.1 hr
 simp only [rI,List.mem_singleton] at hx
 exact ⟨_,hx⟩
theorem wN {l:List It} :∀r∈l.map rT,∀x∈r,∃v,x=D.sc v:=by
 intro r hr x hx
 obtain ⟨y,_,rfl⟩:=List.mem_map.1 hr
 simp only [rT,List.mem_cons,List.not_mem_nil,or_false] at hx
 rcases hx with h|h|h<;>exact ⟨_,h⟩
def vT (ls:List (List It)):List (List D):=ls.map fun l=> [sT l]
theorem vT_length {ls:List (List It)} :(vT ls).length=ls.length:=by simp [vT]
attribute [go_sem] vT_length
end Go.Ab
end
section
namespace Go.Ab
open Go.Proofs
attribute [local congr] ACall.congr gd.congr Nx.congr
set_option maxRecDepth 20000
set_option maxHeartbeats 8000000
def iO (k:Nat):List Nat:=(List.range k).map fun x=>2 ^ x
theorem rP {k:Nat} :iO (k+1)=iO k++ [2 ^ k]:=by simp [iO,List.range_succ]
theorem kA {k:Nat} :(iO k).length=k:=by simp [iO]
def fB (g:Gr):List Nat:=if aN g=true then iO g.n.toNat else []
theorem pO (g:Gr) (hl:g.es.length≤9223372036854775807):Spec Try.prog 52 (Args [eG g]) [] (.ref 10000) [(10000, .own 56 1 ((fB g).map rU))]:=by
 have hM:=nT g hl
 cases hm:aN g with
 |false=>
  rw [hm] at hM
  have he:fB g= []:=by unfold fB;rw [hm];rfl
  rw [he]
  (refine Spec.yF (C:=T.cfg [200,17] []) (rs:= [.t 2]) [(10000,200)] (T.aB _ _) Try.func52 rfl rfl Try.ntmps52 Try.results52 (by simp [AObj.isNest]) (by simp [AObj.isNest]) (by first|(simp [look];done)|(simp [asN];done)|(intro l hl;simp only [asN];repeat (rw [if_neg (fun e=>by subst e;simp [look] at hl)]))) (by first|(simp [look];done)|(simp [asN];done)|(intro l hl;simp only [asN];repeat (rw [if_neg (fun e=>by subst e;simp [look] at hl)]))) (by kernel_rfl) T.mixed fun X hX hP hC bN fH=> ?_)
  repeat' (first|(show bF _ .ret _ _;(try simp only [go_sem,simprocAttr]);refine jt hX 2 200 (.own 56 1 []) ?_ ?_ (by decide) ⟨56,1,by decide, .inl rfl⟩ ?_;(iterate 2 (focus (simp only [go_sem,simprocAttr];done)));simp only [go_sem,simprocAttr])|refine Rn.p ?_|(with_reducible apply And.intro)|((first|(refine hK _ ?_;clear hK K)|with_reducible intro K hK|refine Rs.p ?_|((with_reducible first|apply oP|apply oQ);exact rfl)|refine ag hX hC hP (hM) rfl rfl rfl (by simp only [go_sem,simprocAttr]) rfl ?_);try simp only [go_sem,simprocAttr])|((with_reducible refine oD ?_ ?_);kernel_rfl)|((with_reducible intro h);try simp only [go_sem,simprocAttr] at h)|omega|intro h)
 |true=>
  rw [hm] at hM
  have hn:=dM hm
  have he:fB g=iO g.n.toNat:=by unfold fB;rw [if_pos hm]
  rw [he]
  (refine Spec.yF (C:=T.cfg [200,17] []) (rs:= [.t 2]) [(10000,200)] (T.aB _ _) Try.func52 rfl rfl Try.ntmps52 Try.results52 (by simp [AObj.isNest]) (by simp [AObj.isNest]) (by first|(simp [look];done)|(simp [asN];done)|(intro l hl;simp only [asN];repeat (rw [if_neg (fun e=>by subst e;simp [look] at hl)]))) (by first|(simp [look];done)|(simp [asN];done)|(intro l hl;simp only [asN];repeat (rw [if_neg (fun e=>by subst e;simp [look] at hl)]))) (by kernel_rfl) T.mixed fun X hX hP hC bN fH=> ?_)
  repeat' (first|(show bF _ (.seq (.region 3 _ _) _) _ _;(refine jt hX 2 200 (.own 56 1 []) ?_ ?_ (by decide) ⟨56,1,by decide, .inl rfl⟩ ?_;(iterate 2 (focus (simp only [go_sem,simprocAttr];done)));simp only [go_sem,simprocAttr]))|refine Rn.p ?_|(with_reducible apply And.intro)|((first|(refine hK _ ?_;clear hK K)|with_reducible intro K hK|refine Rs.p ?_|((with_reducible first|apply oP|apply oQ);exact rfl)|refine ag hX hC hP (hM) rfl rfl rfl (by simp only [go_sem,simprocAttr]) rfl ?_);try simp only [go_sem,simprocAttr])|((with_reducible refine oD ?_ ?_);kernel_rfl)|((with_reducible intro h);try simp only [go_sem,simprocAttr] at h)|omega|intro h)
  refine aH (fun k:Nat=>k≤g.n.toNat) (fun k=>⟨[(2, .ref 200),(8,eN g.n),(9,eN k)], [(200, .own 56 1 ((iO k).map rU))]⟩) (fun k=>g.n.toNat - k) 0 (by omega) ?_ ?_
  ·refine Le.of ?_ ?_<;>simp [go_sem,simprocAttr,iO]
  rintro k hk
  rcases Nat.lt_or_ge k g.n.toNat with hlt|hge
  ·have hb:decide ((k:Int)<g.n)=true:=decide_eq_true (by omega)
   have qR:=kA (k:=k)
   have cE:=rP (k:=k)
   have x4:=od k (by omega)
   generalize iO k=O1 at qR cE
   repeat' (first|(show bF _ (.region 7 _ _) _ _;(refine pG hX 2 17 200 (by simp only [go_sem,simprocAttr,hb,qR]) rfl (by first|exact .inl rfl|exact .inr rfl) (by decide) ?_;simp only [go_sem,simprocAttr,hb,qR]))|refine Rn.p ?_|(with_reducible apply And.intro)|((first|(refine hK _ ?_;clear hK K)|with_reducible intro K hK|refine Rs.p ?_|((with_reducible first|apply oP|apply oQ);exact rfl)|(refine dD hX hC hP (x4) rfl rfl rfl ?_ ?_ rfl ?_;iterate 2 (focus (simp only [go_sem,simprocAttr,hb,qR];done))));try simp only [go_sem,simprocAttr,hb,qR])|((with_reducible refine oD ?_ ?_);kernel_rfl)|((with_reducible intro h);try simp only [go_sem,simprocAttr,hb,qR] at h)|omega|intro h)
   refine ⟨k+1,by omega, ?_,by omega⟩
   rw [cE]
   refine Le.of ?_ ?_<;>simp [go_sem,simprocAttr,hb,qR,rU]
  ·have hb:decide ((k:Int)<g.n)=false:=decide_eq_false (by omega)
   obtain rfl:k=g.n.toNat:=by omega
   repeat' (first|refine Rn.p ?_|(with_reducible apply And.intro)|((first|(refine hK _ ?_;clear hK K)|with_reducible intro K hK|refine Rs.p ?_|((with_reducible first|apply oP|apply oQ);exact rfl));try simp only [go_sem,simprocAttr,hb])|((with_reducible refine oD ?_ ?_);kernel_rfl)|((with_reducible intro h);try simp only [go_sem,simprocAttr,hb] at h)|omega|intro h)
theorem DW {a b:Nat} :(!decide ((a:Int)=(b:Int)))=decide (a≠b):=by
 by_cases h:a=b
 ·simp [h]
 ·simp [h];omega
theorem vJ {g:Gr} (hn:g.n.toNat≤64) (both:Bool) (c:Nat→Bool):∃M:Nat,∀b:List Nat,sx g both c b→ku b≤M:=
 ⟨_,fun b hb=>by have:=oc (a:=b) fun x=>hb.lt hn x;rw [hb.len] at this;exact this⟩
theorem wO {l:List Nat} :∀r∈l.map rU,∀x∈r,∃v,x=D.sc v:=by
 intro r hr x hx
 obtain ⟨y,_,rfl⟩:=List.mem_map.1 hr
 simp only [rU,List.mem_singleton] at hx
 exact ⟨_,hx⟩
theorem rQ {g:Gr} (hm:aN g=true) {both:Bool} {c:Nat→Bool} :sx g both c (fB g):=by
 have he:fB g=iO g.n.toNat:=by unfold fB;rw [if_pos hm]
 have mI:∀x,x<g.n.toNat→(iO g.n.toNat).getD x 0=2 ^ x:=fun x hx=>by simp [iO,List.getD_eq_getElem?_getD,List.getElem?_range hx]
 rw [he]
 refine ⟨kA,fun x hx=>by rw [mI x hx,Nat.testBit_two_pow_self],fun x y hx hb=> ?_⟩
 rw [mI x hx,Nat.testBit_two_pow] at hb
 have:x=y:=of_decide_eq_true hb
 subst this
 exact ⟨hx, .refl⟩
noncomputable def Gy (g:Gr):List Nat:=if aN g=true then lE g false (fun _=>true) else []
end Go.Ab
end
section
namespace Go.Ab
open Go.Proofs
attribute [local congr] ACall.congr gd.congr Nx.congr
set_option maxRecDepth 20000
set_option maxHeartbeats 8000000
def ug (g:Gr):UG:=⟨g.n.toNat,g.es.length,fun i=>(tl g i).toNat,fun i=>(hd g i).toNat⟩
def rN (n:Nat):List D:= [.sc (.int .i64 (n:Int))]
def sN (l:List Nat):D:= .sl 1 (l.map rN)
def kS (l:List Nat):List D:= [sN l]
def sNL (l:List (List Nat)):D:= .sl 1 (l.map kS)
theorem getD_rN (ps:List Nat) (i:Nat):(ps.map rN).getD i [.sc (.int .i64 0)]= [.sc (.int .i64 ((ps.getD i 0:Nat):Int))]:=by
 rw [List.getD_eq_getElem?_getD,List.getElem?_map,List.getD_eq_getElem?_getD]
 cases ps[i]? <;>rfl
theorem aI (l:List Nat) (k:Nat) (v:Nat):(l.map rN).set k [.sc (.int .i64 (v:Int))]=(l.set k v).map rN:=by
 rw [List.map_set];rfl
attribute [go_sem] sN sNL getD_rN
theorem gJ {n:Nat} :List.replicate n [D.sc (.int .i64 0)]=(List.replicate n 0).map rN:=by simp [rN]
def aP (g:Gr):Bool:= !g.es.any fun e=>decide (e.1=e.2)
theorem lG {g:Gr} (hm:aN g=true) (hl:aP g=true):(ug g).Ok:=by
 have key:∀i,i<g.es.length→(0≤tl g i∧tl g i<g.n)∧(0≤hd g i∧hd g i<g.n)∧tl g i≠hd g i:=fun i hi=>by
  refine ⟨uc hm hi,ud hm hi,fun e=> ?_⟩
  simp only [aP,Bool.not_eq_true',List.any_eq_false,decide_eq_true_eq] at hl
  refine hl (g.es.getD i (0,0)) ?_ e
  rw [List.getD_eq_getElem?_getD,List.getElem?_eq_getElem hi]
  exact List.getElem_mem hi
 refine ⟨fun i hi=> ?_,fun i hi=> ?_,fun i hi=> ?_⟩<;>(have:=key i hi;simp only [ug];omega)
def dW (g:Gr) (k x:Nat):List Nat:=(List.range k).filter fun i=>decide ((tl g i).toNat=x)||decide ((hd g i).toNat=x)
def fC (g:Gr) (k:Nat):List (List (List D)):=(List.range g.n.toNat).map fun x=>(dW g k x).map rN
theorem eP {g:Gr} {k:Nat} :(fC g k).length=g.n.toNat:=by simp [fC]
theorem eR {g:Gr} {k x:Nat} (hx:x<g.n.toNat):(fC g k)[x]? =some ((dW g k x).map rN):=by
 simp [fC,List.getElem?_range hx]
theorem lH {g:Gr} {k x:Nat} :(dW g k x).length≤k:=by
 simpa [dW] using List.length_filter_le (fun i=>decide ((tl g i).toNat=x)||decide ((hd g i).toNat=x)) (List.range k)
theorem pP {g:Gr} {k x:Nat} :dW g (k+1) x=dW g k x++if (tl g k).toNat=x∨(hd g k).toNat=x then [k] else []:=by
 simp only [dW,List.range_succ,List.filter_append,List.filter_cons,List.filter_nil]
 split<;>simp_all
theorem pQ {g:Gr} :List.replicate g.n.toNat []=fC g 0:=by
 refine List.ext_getElem? fun i=> ?_
 by_cases hi:i<g.n.toNat
 ·rw [eR hi];simp [hi,dW]
 ·rw [List.getElem?_eq_none (by simp;omega),List.getElem?_eq_none (by rw [eP];omega)]
theorem pR {g:Gr} {k t h:Nat} (ht:(tl g k).toNat=t) (hh:(hd g k).toNat=h) (hne:t≠h) (htn:t<g.n.toNat) (Fy:h<g.n.toNat):
 ((fC g k).set t ((dW g k t).map rN++ [[.sc (.int .i64 k)]])).set h ((dW g k h).map rN++ [[.sc (.int .i64 k)]])=fC g (k+1):=by
 refine List.ext_getElem? fun i=> ?_
 rw [List.getElem?_set,List.getElem?_set,List.length_set,eP]
 by_cases hi:i<g.n.toNat
 ·rw [eR hi,eR hi,pP,ht,hh]
  by_cases e1:h=i
  ·subst e1;simp [Fy,rN]
  ·by_cases e2:t=i
   ·subst e2;simp [htn,rN,e1]
   ·simp [e1,e2]
 ·rw [List.getElem?_eq_none (by rw [eP];omega),List.getElem?_eq_none (by rw [eP];omega)]
  rw [if_neg (by omega),if_neg (by omega)]
def bR (g:Gr) (cnt:Nat) (st bl:AV):List AV:= [eN g.n, .d (sE g.es), .d (sNL ((List.range g.n.toNat).map fun x=>(ug g).ends x)), .ref 10001, .ref 10002,eN cnt,st,bl]
theorem rR {g:Gr} :(fC g g.es.length).map (fun r=> [D.sl 1 r])=((List.range g.n.toNat).map fun x=>(ug g).ends x).map kS:=by
 unfold fC
 rw [List.map_map,List.map_map]
 rfl
theorem pS (g:Gr) (hm:aN g=true) (hl:aP g=true):Spec Try.prog 39 (Args [eG g]) [] (.ptr 10000 0)
 [(10000, .box (bR g 0 (.nil 3) (.nil 25))),(10001, .own 3 1 ((List.replicate g.n.toNat 0).map rN)),(10002, .own 3 1 ((List.replicate g.n.toNat 0).map rN))]:=by
 have hn:=dM hm
 (refine Spec.yF (C:=T.cfg [12,15] [9]) (rs:= [.t 2]) [(10000,17),(10001,12),(10002,15)] (T.aB _ _) Try.func39 rfl rfl Try.ntmps39 Try.results39 (by simp [AObj.isNest]) (by simp [AObj.isNest]) (by first|(simp [look];done)|(simp [asN];done)|(intro l hl;simp only [asN];repeat (rw [if_neg (fun e=>by subst e;simp [look] at hl)]))) (by first|(simp [look];done)|(simp [asN];done)|(intro l hl;simp only [asN];repeat (rw [if_neg (fun e=>by subst e;simp [look] at hl)]))) (by kernel_rfl) T.mixed fun X hX hP hC bN fH=> ?_)
 repeat' (first|refine Rn.p ?_|(with_reducible apply And.intro)|((first|(refine hK _ ?_;clear hK K)|with_reducible intro K hK|refine Rs.p ?_|((with_reducible first|apply oP|apply oQ);exact rfl));try simp only [go_sem,simprocAttr,gJ])|((with_reducible refine oD ?_ ?_);first|(focus (simp only [iW,bJ,bM,meets,cB,bY,gF,aS,cK,cC,Rec.rs,Rec.fG,Rec.nv,aY,Rec.aL,Rec.names,KV.ids,dF,dG,dH,dI,dJ,dK,List.zip_cons_cons,List.zip_nil_right,List.zipIdx_cons,List.zipIdx_nil,List.all_cons,List.all_nil,List.contains_cons,List.contains_nil,List.any_cons,List.any_nil,List.flatMap_nil,List.reverse_cons,List.reverse_nil,dS,eX,Region.binds,go_sem,simprocAttr,gJ];done))|kernel_rfl)|((with_reducible intro h);try simp only [go_sem,simprocAttr,gJ] at h)|omega|intro h)
 refine nK hX 9 (by simp [go_sem,simprocAttr,gJ];exact ⟨rfl,rfl,rfl,rfl⟩) (by decide) (by simp [go_sem,simprocAttr,gJ]) (by simp [go_sem,simprocAttr,gJ]) ?_
 simp only [go_sem,simprocAttr,gJ]
 refine aH (fun k:Nat=>k≤g.es.length) (fun k=>⟨[(21,eN k),(20,eN g.es.length),(19, .d (sE g.es)),(3, .ptr 17 0)], [(17, .box [eN g.n, .d (sE g.es), .ref 9, .ref 12, .ref 15,eN 0, .nil 3, .nil 25]),(9, .nest 25 3 1 (fC g k) none),(12, .own 3 1 ((List.replicate g.n.toNat 0).map rN)),(15, .own 3 1 ((List.replicate g.n.toNat 0).map rN))]⟩) (fun k=>g.es.length - k) 0 (by simp) ?_ ?_
 ·refine Le.of ?_ ?_<;>simp [go_sem,simprocAttr]
  exact pQ
 rintro k hk
 rcases Nat.lt_or_ge k g.es.length with hlt|hge
 ·have hb:decide ((k:Int)<(g.es.length:Int))=true:=decide_eq_true (by omega)
  obtain ⟨mQ,o9⟩:=ee hm hlt
  have hok:=(lG hm hl).ne k hlt
  obtain ⟨u,hu⟩:∃u:Nat,(g.es.getD k (0,0)).1=u:=⟨(g.es.getD k (0,0)).1.toNat,by omega⟩
  obtain ⟨v,hv⟩:∃v:Nat,(g.es.getD k (0,0)).2=v:=⟨(g.es.getD k (0,0)).2.toNat,by omega⟩
  have oK:(tl g k).toNat=u:=by show ((g.es.getD k (0,0)).1).toNat=u;rw [hu];rfl
  have rS:(hd g k).toNat=v:=by show ((g.es.getD k (0,0)).2).toNat=v;rw [hv];rfl
  have hne:u≠v:=fun e=>hok (by show (tl g k).toNat=(hd g k).toNat;rw [oK,rS,e])
  have hun:u<g.n.toNat:=by omega
  have DX:v<g.n.toNat:=by omega
  have cE:=pR oK rS hne hun DX
  have hg1:=eR (g:=g) (k:=k) hun
  have hg2:((fC g k).set u ((dW g k u).map rN++ [[.sc (.int .i64 k)]]))[v]? =some ((dW g k v).map rN):=by
   rw [List.getElem?_set,if_neg hne];exact eR DX
  have gK:=lH (g:=g) (k:=k) (x:=u)
  have fR:=lH (g:=g) (k:=k) (x:=v)
  have hrl:=eP (g:=g) (k:=k)
  generalize dW g k u=eu at*
  generalize dW g k v=ev at*
  generalize fC g k=Gz at*
  repeat' (first|refine Rn.p ?_|(with_reducible apply And.intro)|((first|(refine hK _ ?_;clear hK K)|with_reducible intro K hK|refine Rs.p ?_|((with_reducible first|apply oP|apply oQ);exact rfl));try simp only [go_sem,simprocAttr,hb,hu,hv,hg1,hg2,hrl])|((with_reducible refine oD ?_ ?_);first|(focus (simp only [iW,bJ,bM,meets,cB,bY,gF,aS,cK,cC,Rec.rs,Rec.fG,Rec.nv,aY,Rec.aL,Rec.names,KV.ids,dF,dG,dH,dI,dJ,dK,List.zip_cons_cons,List.zip_nil_right,List.zipIdx_cons,List.zipIdx_nil,List.all_cons,List.all_nil,List.contains_cons,List.contains_nil,List.any_cons,List.any_nil,List.flatMap_nil,List.reverse_cons,List.reverse_nil,dS,eX,Region.binds,go_sem,simprocAttr,hb,hu,hv,hg1,hg2,hrl];done))|kernel_rfl)|((with_reducible intro h);try simp only [go_sem,simprocAttr,hb,hu,hv,hg1,hg2,hrl] at h)|omega|intro h)
  refine ⟨k+1,by omega, ?_,by omega⟩
  rw [← cE]
  refine Le.of ?_ ?_<;>simp [go_sem,simprocAttr,hb,hu,hv,hg1,hg2,hrl]
 ·have hb:decide ((k:Int)<(g.es.length:Int))=false:=decide_eq_false (by omega)
  obtain rfl:k=g.es.length:=by omega
  (refine nO hX 9 rfl (by decide) ?_;simp only [go_sem,simprocAttr,hb])
  rw [rR]
  repeat' (first|refine Rn.p ?_|(with_reducible apply And.intro)|((first|(refine hK _ ?_;clear hK K)|with_reducible intro K hK|refine Rs.p ?_|((with_reducible first|apply oP|apply oQ);exact rfl));try simp only [go_sem,simprocAttr,hb])|((with_reducible refine oD ?_ ?_);first|(focus (simp only [iW,bJ,bM,meets,cB,bY,gF,aS,cK,cC,Rec.rs,Rec.fG,Rec.nv,aY,Rec.aL,Rec.names,KV.ids,dF,dG,dH,dI,dJ,dK,List.zip_cons_cons,List.zip_nil_right,List.zipIdx_cons,List.zipIdx_nil,List.all_cons,List.all_nil,List.contains_cons,List.contains_nil,List.any_cons,List.any_nil,List.flatMap_nil,List.reverse_cons,List.reverse_nil,dS,eX,Region.binds,go_sem,simprocAttr,hb];done))|kernel_rfl)|((with_reducible intro h);try simp only [go_sem,simprocAttr,hb] at h)|omega|intro h)
  all_goals (simp [go_sem,simprocAttr,hb,bR])
end Go.Ab
end
section
namespace Go.Ab
open Go.Proofs
attribute [local congr] ACall.congr gd.congr Nx.congr
set_option maxRecDepth 20000
set_option maxHeartbeats 8000000
def Da (i:Nat) (k:Nat):Bool:= !decide ((k:Int)=(i:Int))
noncomputable def Fz (g:Gr) (i:Nat):Bool:=((lE g false (Da i)).getD (tl g i).toNat 0).testBit (hd g i).toNat
noncomputable def FA (g:Gr) (k:Nat):List Int:=((List.range k).filter fun i=>Fz g i).map fun i:Nat=>(i:Int)
noncomputable def GA (g:Gr):List Int:=if aN g=true then FA g g.es.length else []
end Go.Ab
end
section
namespace Go.Ab
open Go.Proofs
set_option maxRecDepth 10000
def yS (g:Gr) (both:Bool) (c:Nat→Bool) (a:List Bool):Nat→List Bool
 |0=>a
 |k+1=>if c k&&((yS g both c a k).getD (tl g k).toNat false||both&&(yS g both c a k).getD (hd g k).toNat false) then
   ((yS g both c a k).set (hd g k).toNat true).set (tl g k).toNat (((yS g both c a k).set (hd g k).toNat true).getD (tl g k).toNat false||both) else yS g both c a k
def zG (g:Gr) (both:Bool) (c:Nat→Bool) (a:List Bool):Nat→List Bool
 |0=>a
 |r+1=>yS g both c (zG g both c a r) g.es.length
section
variable {g:Gr} (hm:aN g=true) {both:Bool} {c:Nat→Bool}
include hm
def FB (a:List Bool):Nat:=a.countP id
end
end Go.Ab
end
section
namespace Go.Ab
open Go.Proofs
attribute [local congr] ACall.congr gd.congr Nx.congr
set_option maxRecDepth 20000
set_option maxHeartbeats 8000000
def x5 (n x:Nat):List Bool:=(List.replicate n false).set x true
theorem kr.congr {g:Gr} {both:Bool} {c c':Nat→Bool} (h:∀k,k<g.es.length→c k=c' k) {x y:Nat} (hr:kr g both c x y):kr g both c' x y:=by
 induction hr with
 |refl=>exact .refl
 | @fwd i a b _ ih=>exact .fwd a (by rw [← h i a];exact b) ih
 | @wu i a b d _ ih=>exact .wu a (by rw [← h i a];exact b) d ih
def FC (m i:Nat):List Bool:=(qy m m).set i false
end Go.Ab
end
section
namespace Go.Ab
open Go.Proofs
attribute [local congr] ACall.congr gd.congr Nx.congr
set_option maxRecDepth 20000
set_option maxHeartbeats 8000000
def cW (g:Gr) (wb:List Bool) (i:Nat):Bool:= !wb.getD (tl g i).toNat false&& !wb.getD (hd g i).toNat false
def FD (g:Gr) (wb:List Bool):List Bool:=(List.range g.es.length).map (cW g wb)
def GB (g:Gr) (wb:List Bool) (k:Nat):List Bool:=(List.range g.es.length).map fun i=>if i<k then cW g wb i else true
def DY (seen:List Bool) (w:Bool) (n:Nat):Nat→Int
 |0=> -1
 |k+1=>if (seen.getD (n - 1 - k) false&& !w)=true then ((n - 1 - k:Nat):Int) else DY seen w n k
def As (g:Gr) (wb:List Bool) (x:Nat):List Bool:=zG g true (fun k=>(FD g wb).getD k false) (x5 g.n.toNat x) g.n.toNat
def wQ (g:Gr) (wb:List Bool) (x:Nat):Int:=DY (As g wb x) (wb.getD x false) g.n.toNat g.n.toNat
def DZ (g:Gr) (wb:List Bool):List Int:=(List.range g.n.toNat).map (wQ g wb)
def D2 (g:Gr) (wb:List Bool) (k:Nat):List Int:=(List.range k).map (wQ g wb)
end Go.Ab
end
section
namespace Go.Ab
open Go.Proofs
attribute [local congr] ACall.congr gd.congr Nx.congr
set_option maxRecDepth 20000
set_option maxHeartbeats 16000000
namespace UG
variable {G:UG}
noncomputable def GC (G:UG):List Nat:=(List.range G.m).map fun i=>(G.cL i).headD 0
end UG
def GD (m k:Nat):List Nat:=(List.range m).map fun i=>if i<k then i else 0
end Go.Ab
end
section
namespace Go.Ab
open Go.Proofs
attribute [local congr] ACall.congr gd.congr Nx.congr
set_option maxRecDepth 20000
set_option maxHeartbeats 16000000
theorem pT (g:Gr) (hm:aN g=true) (both:Bool) (c:Nat→Bool) (F:Nat) (W:Nat) (hF:∀i:Nat,i<g.es.length→Spec Try.prog F (Args [eN i, .ptr 10001 0, .ptr 10002 0]) [(10001, .rob [eU W]),(10002, .rob [eN g.n, .d (sE g.es)])] (eB (c i)) [(10001, .rob [eU W]),(10002, .rob [eN g.n, .d (sE g.es)])]) (a0:List Nat) (h0:sx g both c a0):
 Spec Try.prog 53 (Args [eG g, .ref 10000,eB both, .fn F [] [.ptr 10001 0, .ptr 10002 0]]) [(10000, .own 56 1 (a0.map rU)),(10001, .box [eU W]),(10002, .box [eN g.n, .d (sE g.es)])] (.tup []) [(10000, .own 56 1 ((lE g both c).map rU)),(10001, .box [eU W]),(10002, .box [eN g.n, .d (sE g.es)])]:=by
 have hn:=dM hm
 obtain ⟨M,hM⟩:=vJ (g:=g) (by omega) both c
 (refine Spec.hd (C:=T.cfg [] []) (rs:= []) (T.aB _ _) Try.func53 rfl rfl Try.ntmps53 Try.results53 (by simp [AObj.isNest]) (by simp [AObj.isNest]) (by kernel_rfl) T.mixed fun X hX hP hC bN fH=> ?_)
 repeat' (first|refine Rn.p ?_|(with_reducible apply And.intro)|((first|(refine hK _ ?_;clear hK K)|with_reducible intro K hK|refine Rs.p ?_|((with_reducible first|apply oP|apply oQ);exact rfl));try simp only [go_sem,simprocAttr])|((with_reducible refine oD ?_ ?_);kernel_rfl)|((with_reducible intro h);try simp only [go_sem,simprocAttr] at h)|omega|intro h)
 refine aH (fun s:List Nat × Bool=>sx g both c s.1∧(s.2=false→s.1=lE g both c)) (fun s=>⟨[(1, .ref 10000),(2,eB both),(3, .fn F [] [.ptr 10001 0, .ptr 10002 0]),(4, .ptr 4 0),(8,eB s.2)], [(10000, .own 56 1 (s.1.map rU)),(10001, .box [eU W]),(10002, .box [eN g.n, .d (sE g.es)]),(4, .box [eN g.n, .d (sE g.es)])]⟩) (fun s=>2*(M - ku s.1)+(if s.2=true then 1 else 0)) (a0,true) ⟨h0,by simp⟩ ?_ ?_
 ·refine Le.of ?_ ?_<;>simp [go_sem,simprocAttr]
 rintro ⟨a,more⟩ ⟨hG,gQ⟩
 simp only at hG gQ ⊢
 cases more with
 |false=>
  have:=gQ rfl
  subst this
  repeat' (first|refine Rn.p ?_|(with_reducible apply And.intro)|((first|(refine hK _ ?_;clear hK K)|with_reducible intro K hK|refine Rs.p ?_|((with_reducible first|apply oP|apply oQ);exact rfl));try simp only [go_sem,simprocAttr])|((with_reducible refine oD ?_ ?_);kernel_rfl)|((with_reducible intro h);try simp only [go_sem,simprocAttr] at h)|omega|intro h)
 |true=>
 repeat' (first|refine Rn.p ?_|(with_reducible apply And.intro)|((first|(refine hK _ ?_;clear hK K)|with_reducible intro K hK|refine Rs.p ?_|((with_reducible first|apply oP|apply oQ);exact rfl));try simp only [go_sem,simprocAttr])|((with_reducible refine oD ?_ ?_);kernel_rfl)|((with_reducible intro h);try simp only [go_sem,simprocAttr] at h)|omega|intro h)
 refine aH (fun k:Nat=>k≤g.es.length) (fun k=>⟨[(1, .ref 10000),(2,eB both),(3, .fn F [] [.ptr 10001 0, .ptr 10002 0]),(4, .ptr 4 0),(8,eB (aJ g both c a k).2),(15, .d (sE g.es)),(16,eN g.es.length),(17,eN k)], [(10000, .own 56 1 ((aJ g both c a k).1.map rU)),(10001, .box [eU W]),(10002, .box [eN g.n, .d (sE g.es)]),(4, .box [eN g.n, .d (sE g.es)])]⟩) (fun k=>g.es.length - k) 0 (by omega) ?_ ?_
 ·refine Le.of ?_ ?_<;>simp [go_sem,simprocAttr,aJ]
 rintro k hk
 rcases Nat.lt_or_ge k g.es.length with hlt|hge
 rotate_left
 ·have hb:decide ((k:Int)<(g.es.length:Int))=false:=decide_eq_false (by omega)
  obtain rfl:k=g.es.length:=by omega
  obtain ⟨i1,_⟩:=dr hm hG (Nat.le_refl g.es.length)
  have Au:=pJ hm hG
  have wR:=dN (g:=g) (both:=both) (c:=c) (a:=a) (k:=g.es.length)
  have hdone:=rJ hm hG
  have qT:=hM _ i1
  generalize aJ g both c a g.es.length=R at*
  repeat' (first|refine Rn.p ?_|(with_reducible apply And.intro)|((first|(refine hK _ ?_;clear hK K)|with_reducible intro K hK|refine Rs.p ?_|((with_reducible first|apply oP|apply oQ);exact rfl));try simp only [go_sem,simprocAttr,hb])|((with_reducible refine oD ?_ ?_);kernel_rfl)|((with_reducible intro h);try simp only [go_sem,simprocAttr,hb] at h)|omega|intro h)
  refine ⟨(R.1,R.2),⟨i1,fun hf=> ?_⟩, ?_, ?_⟩
  ·rw [(wR hf).1];exact hdone hf
  ·refine Le.of ?_ ?_<;>simp [go_sem,simprocAttr,hb]
  ·cases D3:R.2 with
   |true=>have:=Au D3;simp;omega
   |false=>rw [(wR D3).1];simp
 have hb:decide ((k:Int)<(g.es.length:Int))=true:=decide_eq_true (by omega)
 obtain ⟨Bh,_⟩:=dr hm hG (k:=k) (by omega)
 obtain ⟨ht,hh⟩:=ee hm hlt
 have er:=hF k hlt
 have sy:=Bh.len
 have vK:=Bh.lt (by omega)
 obtain ⟨x,hx⟩:∃x:Nat,(g.es.getD k (0,0)).1=x:=⟨(g.es.getD k (0,0)).1.toNat,by omega⟩
 obtain ⟨y,hy⟩:∃y:Nat,(g.es.getD k (0,0)).2=y:=⟨(g.es.getD k (0,0)).2.toNat,by omega⟩
 have oK:(tl g k).toNat=x:=by show ((g.es.getD k (0,0)).1).toNat=x;rw [hx];rfl
 have rS:(hd g k).toNat=y:=by show ((g.es.getD k (0,0)).2).toNat=y;rw [hy];rfl
 have cE:aJ g both c a (k+1)=if c k=true then ((((aJ g both c a k).1.set x ((aJ g both c a k).1.getD x 0 ||| (aJ g both c a k).1.getD y 0)).set y (if both=true then (aJ g both c a k).1.getD x 0 ||| (aJ g both c a k).1.getD y 0 else (aJ g both c a k).1.getD y 0)),(aJ g both c a k).2||(decide ((aJ g both c a k).1.getD x 0 ||| (aJ g both c a k).1.getD y 0≠(aJ g both c a k).1.getD x 0)||decide ((if both=true then (aJ g both c a k).1.getD x 0 ||| (aJ g both c a k).1.getD y 0 else (aJ g both c a k).1.getD y 0)≠(aJ g both c a k).1.getD y 0))) else aJ g both c a k:=by
  simp only [aJ,oK,rS]
 generalize aJ g both c a k=R at Bh sy vK cE
 obtain ⟨A,m1⟩:=R
 simp only at Bh sy vK cE ⊢
 have Av:=vK x
 have CT:=vK y
 cases hc:c k with
 |false=>
  rw [hc] at er cE
  repeat' (first|refine Rn.p ?_|(with_reducible apply And.intro)|((first|(refine hK _ ?_;clear hK K)|with_reducible intro K hK|refine Rs.p ?_|((with_reducible first|apply oP|apply oQ);exact rfl)|(refine gp hX hC hP [(10001,10001),(10002,10002)] (er) rfl rfl rfl ?_ ?_ ?_ ?_ ?_ ?_ rfl rfl ?_ ?_;(focus (simp only [go_sem,simprocAttr,hb,hx,hy];done));(iterate 6 (focus (simp [go_sem,simprocAttr,hb,hx,hy];done)));try simp only [List.map_cons,List.map_nil]));try simp only [go_sem,simprocAttr,hb,hx,hy])|((with_reducible refine oD ?_ ?_);kernel_rfl)|((with_reducible intro h);try simp only [go_sem,simprocAttr,hb,hx,hy] at h)|omega|intro h)
  refine ⟨k+1,by omega, ?_,by omega⟩
  rw [cE]
  refine Le.of ?_ ?_<;>simp [go_sem,simprocAttr,hb,hx,hy]
 |true=>
  rw [hc] at er cE
  rw [if_pos rfl] at cE
  have n1:=DW (a:=A.getD x 0 ||| A.getD y 0) (b:=A.getD x 0)
  have n2:=DW (a:=if both=true then A.getD x 0 ||| A.getD y 0 else A.getD y 0) (b:=A.getD y 0)
  have Db:A.getD x 0 ||| A.getD y 0<18446744073709551616:=Nat.or_lt_two_pow (n:=64) Av CT
  have fR:(A.set x (A.getD x 0 ||| A.getD y 0)).length=A.length:=List.length_set ..
  generalize o8:A.getD x 0 ||| A.getD y 0=t at n1 n2 cE Db fR
  generalize D4:decide (t≠A.getD x 0)=d1 at n1 cE
  cases both with
  |true=>
   rw [if_pos rfl] at n2 cE
   generalize hd2:decide (t≠A.getD y 0)=d2 at n2 cE
   clear D4 hd2
   cases m1<;>cases d1<;>cases d2<;>simp only [Bool.or_false,Bool.or_true,Bool.false_or,Bool.true_or] at cE
   all_goals (repeat' (first|refine Rn.p ?_|(with_reducible apply And.intro)|((first|(refine hK _ ?_;clear hK K)|with_reducible intro K hK|refine Rs.p ?_|((with_reducible first|apply oP|apply oQ);exact rfl)|(refine gp hX hC hP [(10001,10001),(10002,10002)] (er) rfl rfl rfl ?_ ?_ ?_ ?_ ?_ ?_ rfl rfl ?_ ?_;(focus (simp only [go_sem,simprocAttr,hb,hx,hy,o8,n1,n2,sy,ef,List.length_set];done));(iterate 6 (focus (simp [go_sem,simprocAttr,hb,hx,hy,o8,n1,n2,sy,ef,List.length_set];done)));try simp only [List.map_cons,List.map_nil]));try simp only [go_sem,simprocAttr,hb,hx,hy,o8,n1,n2,sy,ef,List.length_set])|((with_reducible refine oD ?_ ?_);kernel_rfl)|((with_reducible intro h);try simp only [go_sem,simprocAttr,hb,hx,hy,o8,n1,n2,sy,ef,List.length_set] at h)|omega|intro h))
   all_goals (refine ⟨k+1,by omega, ?_,by omega⟩)
   all_goals (rw [cE])
   all_goals (refine Le.of ?_ ?_<;>simp [go_sem,simprocAttr,hb,hx,hy,o8,n1,n2,sy,ef,List.length_set])
  |false=>
   rw [if_neg (by simp)] at n2 cE
   have hd2:decide (A.getD y 0≠A.getD y 0)=false:=decide_eq_false fun h=>h rfl
   rw [hd2] at n2 cE
   clear D4
   cases m1<;>cases d1<;>simp only [Bool.or_false,Bool.or_true,Bool.false_or,Bool.true_or] at cE
   all_goals (repeat' (first|refine Rn.p ?_|(with_reducible apply And.intro)|((first|(refine hK _ ?_;clear hK K)|with_reducible intro K hK|refine Rs.p ?_|((with_reducible first|apply oP|apply oQ);exact rfl)|(refine gp hX hC hP [(10001,10001),(10002,10002)] (er) rfl rfl rfl ?_ ?_ ?_ ?_ ?_ ?_ rfl rfl ?_ ?_;(focus (simp only [go_sem,simprocAttr,hb,hx,hy,o8,n1,n2,sy,ef,List.length_set];done));(iterate 6 (focus (simp [go_sem,simprocAttr,hb,hx,hy,o8,n1,n2,sy,ef,List.length_set];done)));try simp only [List.map_cons,List.map_nil]));try simp only [go_sem,simprocAttr,hb,hx,hy,o8,n1,n2,sy,ef,List.length_set])|((with_reducible refine oD ?_ ?_);kernel_rfl)|((with_reducible intro h);try simp only [go_sem,simprocAttr,hb,hx,hy,o8,n1,n2,sy,ef,List.length_set] at h)|omega|intro h))
   all_goals (refine ⟨k+1,by omega, ?_,by omega⟩)
   all_goals (rw [cE])
   all_goals (refine Le.of ?_ ?_<;>simp [go_sem,simprocAttr,hb,hx,hy,o8,n1,n2,sy,ef,List.length_set])
def cS (g:Gr) (W:Nat) (i:Nat):Bool:= !W.testBit (tl g i).toNat&& !W.testBit (hd g i).toNat
theorem uw (g:Gr) (hm:aN g=true) (W:Nat) (hW:W<18446744073709551616) (i:Nat) (hi:i<g.es.length):Spec Try.prog 54 (Args [eN i, .ptr 10001 0, .ptr 10002 0]) [(10001, .rob [eU W]),(10002, .rob [eN g.n, .d (sE g.es)])] (eB (cS g W i)) [(10001, .rob [eU W]),(10002, .rob [eN g.n, .d (sE g.es)])]:=by
 have hn:=dM hm
 obtain ⟨mQ,o9⟩:=ee hm hi
 obtain ⟨u,hu⟩:∃u:Nat,(g.es.getD i (0,0)).1=u:=⟨(g.es.getD i (0,0)).1.toNat,by omega⟩
 obtain ⟨v,hv⟩:∃v:Nat,(g.es.getD i (0,0)).2=v:=⟨(g.es.getD i (0,0)).2.toNat,by omega⟩
 have oK:(tl g i).toNat=u:=by show ((g.es.getD i (0,0)).1).toNat=u;rw [hu];rfl
 have rS:(hd g i).toNat=v:=by show ((g.es.getD i (0,0)).2).toNat=v;rw [hv];rfl
 have hc:cS g W i=(!W.testBit u&& !W.testBit v):=by unfold cS;rw [oK,rS]
 rw [hc]
 have bit:∀x:Nat,x<64→(decide (0≤(x:Int))&&decide ((x:Int)<64)&&W.testBit (x:Int).toNat)=W.testBit x:=fun x hx=>by
  rw [decide_eq_true (by omega),decide_eq_true (by omega),Int.toNat_natCast];rfl
 have h1:=iN W hW (u:Int)
 have h2:=iN W hW (v:Int)
 rw [bit u (by omega)] at h1
 rw [bit v (by omega)] at h2
 generalize W.testBit u=q1 at h1 ⊢
 generalize W.testBit v=q2 at h2 ⊢
 cases q1 with
 |true=>
  (refine Spec.hd (C:=T.cfg [] []) (rs:= [.t 4]) (T.aB _ _) Try.func54 rfl rfl Try.ntmps54 Try.results54 (by simp [AObj.isNest]) (by simp [AObj.isNest]) (by kernel_rfl) T.mixed fun X hX hP hC bN fH=> ?_)
  repeat' (first|refine Rn.p ?_|(with_reducible apply And.intro)|((first|(refine hK _ ?_;clear hK K)|with_reducible intro K hK|refine Rs.p ?_|((with_reducible first|apply oP|apply oQ);exact rfl)|refine ag hX hC hP (h1) rfl rfl rfl (by simp only [go_sem,simprocAttr,hu,hv]) rfl ?_|refine ag hX hC hP (h2) rfl rfl rfl (by simp only [go_sem,simprocAttr,hu,hv]) rfl ?_);try simp only [go_sem,simprocAttr,hu,hv])|((with_reducible refine oD ?_ ?_);kernel_rfl)|((with_reducible intro h);try simp only [go_sem,simprocAttr,hu,hv] at h)|omega|intro h)
 |false=>
  (refine Spec.hd (C:=T.cfg [] []) (rs:= [.t 4]) (T.aB _ _) Try.func54 rfl rfl Try.ntmps54 Try.results54 (by simp [AObj.isNest]) (by simp [AObj.isNest]) (by kernel_rfl) T.mixed fun X hX hP hC bN fH=> ?_)
  repeat' (first|refine Rn.p ?_|(with_reducible apply And.intro)|((first|(refine hK _ ?_;clear hK K)|with_reducible intro K hK|refine Rs.p ?_|((with_reducible first|apply oP|apply oQ);exact rfl)|refine ag hX hC hP (h1) rfl rfl rfl (by simp only [go_sem,simprocAttr,hu,hv]) rfl ?_|refine ag hX hC hP (h2) rfl rfl rfl (by simp only [go_sem,simprocAttr,hu,hv]) rfl ?_);try simp only [go_sem,simprocAttr,hu,hv])|((with_reducible refine oD ?_ ?_);kernel_rfl)|((with_reducible intro h);try simp only [go_sem,simprocAttr,hu,hv] at h)|omega|intro h)
def aQ (R:List Nat) (W:Nat):Nat→List Nat × Nat
 |0=>([],W)
 |k+1=>if (aQ R W k).2.testBit k=true then aQ R W k else ((aQ R W k).1++ [R.getD k 0],(aQ R W k).2 ||| R.getD k 0)
noncomputable def dO (g:Gr) (W:Nat):List Nat:=(aQ (lE g true (cS g W)) W g.n.toNat).1
theorem gL {R:List Nat} {W:Nat} :∀ {k:Nat},(aQ R W k).1.length≤k
 |0=>Nat.le_refl _
 |k+1=>by
  have:=gL (R:=R) (W:=W) (k:=k)
  rw [aQ]
  split
  ·omega
  ·simp;omega
theorem lI {R:List Nat} {W:Nat} (hW:W<18446744073709551616) (hR:∀x,R.getD x 0<18446744073709551616):∀ {k:Nat},(aQ R W k).2<18446744073709551616
 |0=>hW
 |k+1=>by
  have:=lI hW hR (k:=k)
  rw [aQ]
  split
  ·exact this
  ·exact Nat.or_lt_two_pow (n:=64) this (hR k)
theorem kB (g:Gr) (hm:aN g=true) (W:Nat) (hW:W<18446744073709551616):Spec Try.prog 26 (Args [eG g,eU W]) [] (.d (sU (dO g W))) []:=by
 have hn:=dM hm
 have hE:=pO g (by omega)
 have he:(fB g).length=g.n.toNat:=by unfold fB;rw [if_pos hm];exact kA
 have Dc:=pT g hm true (cS g W) 54 W (fun i hi=>uw g hm W hW i hi) (fB g) (rQ hm)
 have iJ:decide ((g.n.toNat:Int)=0)=false:=decide_eq_false (by omega)
 have sC:(lE g true (cS g W)).length=g.n.toNat:=iw
 have x6:∀x,(lE g true (cS g W)).getD x 0<18446744073709551616:=fun x=>by
  by_cases hx:x<g.n.toNat
  ·rw [pI hx]
   exact Nat.lt_of_lt_of_le vE (Nat.pow_le_pow_right (by decide) (show g.n.toNat≤64 by omega))
  ·rw [List.getD_eq_getElem?_getD,List.getElem?_eq_none (by rw [iw];omega)]
   decide
 have gQ:dO g W=(aQ (lE g true (cS g W)) W g.n.toNat).1:=rfl
 rw [gQ]
 generalize fB g=U at hE he Dc
 generalize lE g true (cS g W)=R at Dc sC x6 ⊢
 (refine Spec.hd (C:=T.cfg [10] []) (rs:= [.t 4]) (T.aB _ _) Try.func26 rfl rfl Try.ntmps26 Try.results26 (by simp [AObj.isNest]) (by simp [AObj.isNest]) (by kernel_rfl) T.mixed fun X hX hP hC bN fH=> ?_)
 repeat' (first|(show bF _ (.seq (.region 5 _ _) _) _ _;(refine jt hX 4 200 (.tip 56 1 []) ?_ ?_ (by decide) ⟨56,1,by decide, .inr rfl⟩ ?_;(iterate 2 (focus (simp only [go_sem,simprocAttr,he,iJ];done)));simp only [go_sem,simprocAttr,he,iJ]))|refine Rn.p ?_|(with_reducible apply And.intro)|((first|(refine hK _ ?_;clear hK K)|with_reducible intro K hK|refine Rs.p ?_|((with_reducible first|apply oP|apply oQ);exact rfl)|(refine mu hX hC hP 10 (hE) rfl rfl rfl ?_ ?_ (by first|exact ⟨_,_,_,rfl,wz⟩|exact ⟨_,_,_,rfl,wN⟩|exact ⟨_,_,_,rfl,wO⟩|exact ⟨_,_,_,rfl,wS⟩) rfl (by decide) ?_;(iterate 2 (focus (simp only [go_sem,simprocAttr,he,iJ];done)));simp only [go_sem,simprocAttr,he,iJ])|(refine bW hX hC hP [(10000,10),(10001,3),(10002,2)] (Dc) rfl rfl rfl ?_ ?_ ?_ ?_ ?_ ?_ ?_ ?_ ?_ ?_ ?_ ?_ ?_ ?_;(focus (simp only [go_sem,simprocAttr,he,iJ];done));(iterate 12 (focus (simp [go_sem,simprocAttr,he,iJ];done)));try simp only [List.map_cons,List.map_nil]));try simp only [go_sem,simprocAttr,he,iJ])|((with_reducible refine oD ?_ ?_);kernel_rfl)|((with_reducible intro h);try simp only [go_sem,simprocAttr,he,iJ] at h)|omega|intro h)
 refine aH (fun k:Nat=>k≤g.n.toNat) (fun k=>⟨[(4, .ref 200),(6,eU (aQ R W k).2),(19, .ref 10),(20,eN g.n.toNat),(21,eN k)], [(200, .tip 56 1 ((aQ R W k).1.map rU)),(10, .own 56 1 (R.map rU))]⟩) (fun k=>g.n.toNat - k) 0 (Nat.zero_le _) ?_ ?_
 ·refine Le.of ?_ ?_<;>simp [go_sem,simprocAttr,he,iJ,aQ,sC]
 rintro k hk
 rcases Nat.lt_or_ge k g.n.toNat with hlt|hge
 rotate_left
 ·have hb:decide ((k:Int)<(g.n.toNat:Int))=false:=decide_eq_false (by omega)
  obtain rfl:k=g.n.toNat:=by omega
  repeat' (first|refine Rn.p ?_|(with_reducible apply And.intro)|((first|(refine hK _ ?_;clear hK K)|with_reducible intro K hK|refine Rs.p ?_|((with_reducible first|apply oP|apply oQ);exact rfl));try simp only [go_sem,simprocAttr,hb])|((with_reducible refine oD ?_ ?_);kernel_rfl)|((with_reducible intro h);try simp only [go_sem,simprocAttr,hb] at h)|omega|intro h)
 have hb:decide ((k:Int)<(g.n.toNat:Int))=true:=decide_eq_true (by omega)
 have og:=lI (R:=R) (W:=W) hW x6 (k:=k)
 have gM:=gL (R:=R) (W:=W) (k:=k)
 have cE:aQ R W (k+1)=if (aQ R W k).2.testBit k=true then aQ R W k else ((aQ R W k).1++ [R.getD k 0],(aQ R W k).2 ||| R.getD k 0):=rfl
 have yT:=iN (aQ R W k).2 og (k:Int)
 rw [decide_eq_true (show (0:Int)≤(k:Int) by omega),decide_eq_true (show (k:Int)<64 by omega),Int.toNat_natCast,Bool.true_and,Bool.true_and] at yT
 have GF:=x6 k
 generalize aQ R W k=pk at og gM cE yT ⊢
 obtain ⟨o1,d1⟩:=pk
 simp only at og gM cE yT ⊢
 generalize oO:R.getD k 0=rk at*
 generalize d1.testBit k=q at cE yT
 cases q with
 |true=>
  rw [if_pos rfl] at cE
  repeat' (first|refine Rn.p ?_|(with_reducible apply And.intro)|((first|(refine hK _ ?_;clear hK K)|with_reducible intro K hK|refine Rs.p ?_|((with_reducible first|apply oP|apply oQ);exact rfl)|refine ag hX hC hP (yT) rfl rfl rfl (by simp only [go_sem,simprocAttr,hb,oO,sC]) rfl ?_);try simp only [go_sem,simprocAttr,hb,oO,sC])|((with_reducible refine oD ?_ ?_);kernel_rfl)|((with_reducible intro h);try simp only [go_sem,simprocAttr,hb,oO,sC] at h)|omega|intro h)
  refine ⟨k+1,by omega, ?_,by omega⟩
  rw [cE]
  refine Le.of ?_ ?_<;>simp [go_sem,simprocAttr,hb,oO,sC]
 |false=>
  rw [if_neg (by simp)] at cE
  repeat' (first|(show bF _ (.region 12 _ _) _ _;(refine pG hX 4 33 200 (by simp only [go_sem,simprocAttr,hb,oO,sC]) rfl (by first|exact .inl rfl|exact .inr rfl) (by decide) ?_;simp only [go_sem,simprocAttr,hb,oO,sC]))|refine Rn.p ?_|(with_reducible apply And.intro)|((first|(refine hK _ ?_;clear hK K)|with_reducible intro K hK|refine Rs.p ?_|((with_reducible first|apply oP|apply oQ);exact rfl)|refine ag hX hC hP (yT) rfl rfl rfl (by simp only [go_sem,simprocAttr,hb,oO,sC]) rfl ?_);try simp only [go_sem,simprocAttr,hb,oO,sC])|((with_reducible refine oD ?_ ?_);kernel_rfl)|((with_reducible intro h);try simp only [go_sem,simprocAttr,hb,oO,sC] at h)|omega|intro h)
  refine ⟨k+1,by omega, ?_,by omega⟩
  rw [cE]
  refine Le.of ?_ ?_<;>simp [go_sem,simprocAttr,hb,oO,sC,rU]
theorem Aw {g:Gr} {W a b:Nat} (ha:W.testBit a=false):kr g true (cS g W) a b↔(ug g).Cn (fun v=>W.testBit v=false) a b:=by
 constructor
 ·intro h
  induction h with
  |refl=>exact .refl ha
  | @fwd i hi hc _ ih=>
    unfold cS at hc
    simp only [Bool.and_eq_true,Bool.not_eq_true'] at hc
    exact .step ih (UG.J.self (G:=ug g) hi) hc.2
  | @wu i hi hc _ _ ih=>
    unfold cS at hc
    simp only [Bool.and_eq_true,Bool.not_eq_true'] at hc
    exact .step ih (UG.J.self (G:=ug g) hi).symm hc.1
 ·intro h
  induction h with
  |refl _=>exact .refl
  | @step y z i h j hz ih=>
    have hy:=h.yJ
    obtain ⟨hi,j⟩:=j
    have hi:i<g.es.length:=hi
    simp only [ug] at j
    rcases j with ⟨h1,h2⟩|⟨h1,h2⟩
    ·have hc:cS g W i=true:=by unfold cS;rw [h1,h2,hy,hz];rfl
     have:=kr.fwd hi hc (by rw [h1];exact ih)
     rw [h2] at this
     exact this
    ·have hc:cS g W i=true:=by unfold cS;rw [h1,h2,hy,hz];rfl
     have:=kr.wu hi hc rfl (by rw [h2];exact ih)
     rw [h1] at this
     exact this
open Classical in
theorem kC {g:Gr} (hm:aN g=true) (hl:aP g=true) (W:Nat):∀ {k:Nat},k≤g.n.toNat→
 (∀v,v<g.n.toNat→((aQ (lE g true (cS g W)) W k).2.testBit v=true↔W.testBit v=true∨∃y,y<k∧(ug g).Cn (fun v=>W.testBit v=false) y v))∧
 (aQ (lE g true (cS g W)) W k).1.length=((List.range k).filter fun v=>decide ((ug g).rD (fun v=>W.testBit v=false) v)).length
 |0,_=>⟨fun v _=>by simp [aQ],by simp [aQ]⟩
 |k+1,hk=>by
  obtain ⟨h1,h2⟩:=kC hm hl W (k:=k) (by omega)
  have hG:=lG hm hl
  have hkn:k<g.n.toNat:=by omega
  have bf:∀v,W.testBit k=false→v<g.n.toNat→(((lE g true (cS g W)).getD k 0).testBit v=true↔(ug g).Cn (fun v=>W.testBit v=false) k v):=fun v hk' hv=>by
   rw [pI hkn,qG,Aw hk']
   exact ⟨fun h=>h.2,fun h=>⟨hv,h⟩⟩
  have hL:(ug g).rD (fun v=>W.testBit v=false) k↔(aQ (lE g true (cS g W)) W k).2.testBit k=false:=by
   rw [Bool.eq_false_iff,ne_eq,h1 k hkn]
   constructor
   ·rintro ⟨a1,a2⟩ (h|⟨y,hy,hc⟩)
    ·rw [h] at a1;cases a1
    ·have:=a2 y hc.symm
     omega
   ·intro h
    have FE:W.testBit k=false:=by
     cases hw:W.testBit k with
     |false=>rfl
     |true=>exact absurd (.inl hw) h
    refine ⟨FE,fun y hc=> ?_⟩
    refine Decidable.byContradiction fun hlt=>h (.inr ⟨y,by omega,hc.symm⟩)
  rw [aQ,List.range_succ,List.filter_append,List.length_append,List.filter_cons]
  cases hb:(aQ (lE g true (cS g W)) W k).2.testBit k with
  |true=>
   have hn:¬(ug g).rD (fun v=>W.testBit v=false) k:=fun h=>by rw [hL.1 h] at hb;cases hb
   rw [if_pos rfl,if_neg (by rw [decide_eq_true_eq];exact hn),h2]
   refine ⟨fun v hv=> ?_,by simp⟩
   rw [h1 v hv]
   constructor
   ·rintro (h|⟨y,hy,hc⟩)
    ·exact .inl h
    ·exact .inr ⟨y,by omega,hc⟩
   ·rintro (h|⟨y,hy,hc⟩)
    ·exact .inl h
    ·by_cases e:y=k
     ·subst e
      rcases (h1 y hkn).1 hb with h3|⟨z,hz,x2⟩
      ·have:=hc.fst
       rw [h3] at this;cases this
      ·exact .inr ⟨z,hz,x2.trans hc⟩
     ·exact .inr ⟨y,by omega,hc⟩
  |false=>
   have hn:=hL.2 hb
   rw [if_neg (by simp),if_pos (decide_eq_true hn),List.length_append,h2]
   refine ⟨fun v hv=> ?_,by simp⟩
   simp only
   rw [Nat.testBit_or,Bool.or_eq_true,h1 v hv,bf v hn.1 hv]
   constructor
   ·rintro ((h|⟨y,hy,hc⟩)|h)
    ·exact .inl h
    ·exact .inr ⟨y,by omega,hc⟩
    ·exact .inr ⟨k,by omega,h⟩
   ·rintro (h|⟨y,hy,hc⟩)
    ·exact .inl (.inl h)
    ·by_cases e:y=k
     ·subst e;exact .inr hc
     ·exact .inl (.inr ⟨y,by omega,hc⟩)
theorem lJ {g:Gr} (hm:aN g=true) (hl:aP g=true) (W:Nat):(dO g W).length=UG.fT (ug g) fun v=>W.testBit v=false:=
 (kC hm hl W (Nat.le_refl _)).2
theorem pU {g:Gr} (hm:aN g=true) (hl:aP g=true):(dO g 0).length=UG.fT (ug g) fun _=>True:=by
 rw [lJ hm hl]
 congr 1
 funext v
 simp
theorem rV {g:Gr} (hm:aN g=true) (hl:aP g=true) (x:Nat):(dO g (2 ^ x)).length=UG.fT (ug g) fun v=>v≠x:=by
 rw [lJ hm hl]
 congr 1
 funext v
 rw [Nat.testBit_two_pow]
 simp
 omega
end Go.Ab
end
