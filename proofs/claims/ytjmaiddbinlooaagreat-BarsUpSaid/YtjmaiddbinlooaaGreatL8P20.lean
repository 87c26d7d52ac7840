/- A part of the proof. -/
import Derived.Shelf.SlicesG.Cmp
import Derived.Deep.QuietTactic
import Derived.Deep.RegionHeld3
import Derived.WalkKit
import Derived.LoopNIn
import Derived.LoopIn
import Derived.Sort.WalkA
import Derived.Sort.Grow
import Derived.Shelf.SlSortCmp.NoneTotal
import Derived.Test.YtjmaiddbinlooaaGreatL8P19
set_option linter.unusedSimpArgs false
set_option linter.unusedVariables false
section
namespace Go.Ab
open Go.Proofs Go.RowKit Go.Shelf Go.Lib Go.Sort
set_option maxRecDepth 10000
set_option maxHeartbeats 4000000
theorem tV (x y:Int) (W:World):Calls Tryz.prog 81 #[.int .i64 x, .int .i64 y] W fun e w'=>e= .returned (.int .i64 (compareInt x y))∧w'=W:=
 AnyG.cmp_Compare_int Tryz.KK x y W
theorem Iz (W:World) (B bx off len cap:Nat) (X:Nat→Int) (hB:W.cell? ⟨B,3,none⟩=some (.slice (some ⟨bx,off,none⟩) len cap)) (hx:∀j,j<len→W.cell? ⟨bx,off+j,none⟩=some (.int .i64 (X j))) (i k:Nat) (hi:i<len) (hk:k<len):
 Calls Tryz.prog 80 #[.int .i64 i, .int .i64 k, .pointer (some ⟨B,0,none⟩)] W fun e w'=>e= .returned (.int .i64 (compareInt (X i) (X k)))∧∃q,w'=W.drewN q:=by
 have E9:=fun W'=>tV (X i) (X k) W'
 generalize compareInt (X i) (X k)=r at E9 ⊢
 have ci:=hx i hi
 have ck:=hx k hk
 go_enter Tryz.func80,Tryz.ntmps80
 go_wp2
 go_quiet (exact Calls.quiet_of_same (E9 _))
 go_wp2
 go_ret
 exact ⟨rfl,nq,rfl⟩
theorem CG (W:World) (b:Nat) (c0 c1:Int) (h0:W.cell? ⟨b,0,none⟩=some (.int .i64 c0)) (h1:W.cell? ⟨b,1,none⟩=some (.int .i64 c1)):
 Calls Tryz.prog 83 #[.slice (some ⟨b,0,none⟩) 2 2] W fun e w'=>e= .returned (.int .i64 (if c0=0 then c1 else c0))∧w'=W:=by
 by_cases hc:c0=0
 ·subst hc
  rw [if_pos rfl]
  by_cases hd:c1=0
  ·subst hd
   go_enter Tryz.func83,Tryz.ntmps83
   go_wp2
   go_loopw [8] (fun i wr=>∃k:Nat,k≤2∧i= .int .i64 k∧wr=W) (fun i _=>2 - (Go.Proofs.intOf i).toNat)
   case atStart=>exact ⟨0,by omega,rfl,rfl⟩
   case round=>
    obtain ⟨k,hk,rfl,rfl⟩:=hrel
    match k,hk with
    |0,_=>
     go_wp2
     exact ⟨⟨1,by omega,rfl,trivial⟩,by decide⟩
    |1,_=>
     go_wp2
     exact ⟨⟨2,by omega,rfl,trivial⟩,by decide⟩
    |2,_=>
     go_wp2
     go_ret
     exact ⟨rfl,rfl⟩
  ·go_enter Tryz.func83,Tryz.ntmps83
   go_wp2
   go_loopw [8] (fun i wr=>∃k:Nat,k≤1∧i= .int .i64 k∧wr=W) (fun i _=>2 - (Go.Proofs.intOf i).toNat)
   case atStart=>exact ⟨0,by omega,rfl,rfl⟩
   case round=>
    obtain ⟨k,hk,rfl,rfl⟩:=hrel
    match k,hk with
    |0,_=>
     go_wp2
     exact ⟨⟨1,by omega,rfl,trivial⟩,by decide⟩
    |1,_=>
     go_wp2
     go_ret
     exact ⟨rfl,rfl⟩
 ·rw [if_neg hc]
  go_enter Tryz.func83,Tryz.ntmps83
  go_wp2
  go_loopw [8] (fun i wr=>i= .int .i64 0∧wr=W) (fun i _=>0)
  case atStart=>exact ⟨rfl,rfl⟩
  case round=>
   obtain ⟨rfl,rfl⟩:=hrel
   go_wp2
   go_ret
   exact ⟨rfl,rfl⟩
theorem IA (W:World) (B Fk oy ly cy bf IB lf cf:Nat) (Y F:Nat→Int) (hB:W.cell? ⟨B,0,none⟩=some (.slice (some ⟨Fk,oy,none⟩) ly cy)) (hC:W.cell? ⟨B,1,none⟩=some (.slice (some ⟨bf,IB,none⟩) lf cf))
 (hy:∀j,j<ly→W.cell? ⟨Fk,oy+j,none⟩=some (.int .i64 (Y j))) (hf:∀j,j<lf→W.cell? ⟨bf,IB+j,none⟩=some (.int .i64 (F j))) (i k:Nat) (hi:i<ly) (hk:k<ly) (hi2:i<lf) (hk2:k<lf):
 Calls Tryz.prog 82 #[.int .i64 i, .int .i64 k, .pointer (some ⟨B,0,none⟩)] W fun e w'=>e= .returned (.int .i64 (if compareInt (Y i) (Y k)=0 then compareInt (F i) (F k) else compareInt (Y i) (Y k)))∧∃q os',w'=grow (W.drewN q) os':=by
 have c1:=hy i hi
 have c2:=hy k hk
 have c3:=hf i hi2
 have c4:=hf k hk2
 clear hy hf
 generalize Y i=y1 at c1 ⊢
 generalize Y k=y2 at c2 ⊢
 generalize F i=f1 at c3 ⊢
 generalize F k=f2 at c4 ⊢
 have h3:=fun W b=>CG W b (compareInt y1 y2) (compareInt f1 f2)
 generalize (if compareInt y1 y2=0 then compareInt f1 f2 else compareInt y1 y2)=r at h3 ⊢
 go_enter Tryz.func82,Tryz.ntmps82
 go_wp2
 go_region_held3 (fun w'=>w'.cell? ⟨B,0,none⟩=some (.slice (some ⟨Fk,oy,none⟩) ly cy)∧w'.cell? ⟨B,1,none⟩=some (.slice (some ⟨bf,IB,none⟩) lf cf)∧w'.cell? ⟨Fk,oy+i,none⟩=some (.int .i64 y1)∧w'.cell? ⟨Fk,oy+k,none⟩=some (.int .i64 y2)∧w'.cell? ⟨bf,IB+i,none⟩=some (.int .i64 f1)∧w'.cell? ⟨bf,IB+k,none⟩=some (.int .i64 f2)) (go_keep)
  (first|(go_at_call 81;refine (tV _ _ _).mono ?_;rintro e w' ⟨rfl,rfl⟩)|(go_at_call 83;refine (h3 _ _ (by simp) (by simp)).mono ?_;rintro e w' ⟨rfl,rfl⟩))
 go_wp2
 go_ret
 exact ⟨rfl,1,_,by rw [alloc_eq_grow];rfl⟩
end Go.Ab
end
section
namespace Go.Ab
open Go.Proofs
attribute [local congr] ACall.congr
set_option maxRecDepth 10000
set_option maxHeartbeats 8000000
def Od (l:List Int) (k:Nat):List Int:=(List.range l.length).map fun p=>if p<k∨l.length - 1<p+k then l.getD (l.length - 1 - p) 0 else l.getD p 0
theorem xk (ps:List Int) (hl:ps.length≤1000000):
 Spec Tryz.prog 53 (Args [.d (sI ps)]) [] (.ref 10000) [(10000, .own 3 1 (ps.map rI))]:=by
 (refine Spec.dY (C:=T.cfg [5,7] []) (rs:= [.t 2]) [(10000,7)] (T.aj _ _) Tryz.func53 rfl rfl Tryz.ntmps53 Tryz.results53 (by simp [AObj.isNest]) (by simp [AObj.isNest]) (by first|(simp [look];done)|(simp [asN];done)|(intro l hl;simp only [asN];repeat (rw [if_neg (fun e=>by subst e;simp [look] at hl)]))) (by first|(simp [look];done)|(simp [asN];done)|(intro l hl;simp only [asN];repeat (rw [if_neg (fun e=>by subst e;simp [look] at hl)]))) (by kernel_rfl) ?_;intro X hX hP hC aD aF vals hA;refine ⟨_,by simp,hA, ?_⟩;have af:X.P.follows .mixedOrders=true:=(by rw [hP];exact T.mixed);clear aD aF)
 repeat' (first|(show dz _ .ret _ _;(try simp only [go_sem,simprocAttr]);refine ji hX 2 7 (.own 3 1 []) ?_ ?_ (by decide) ⟨3,1,by decide, .inl rfl⟩ ?_;(iterate 2 (focus (simp only [go_sem,simprocAttr];done)));simp only [go_sem,simprocAttr])|((first|((with_reducible (first|apply oA|apply oB));exact rfl;intro K hK)|(refine hK _ ?_;clear hK K)|((with_reducible (first|apply oG|apply oH));iterate 3 exact rfl)|((with_reducible apply oI);(iterate 2 exact rfl);intro K hK)|(with_reducible (first|apply wI|apply wJ|apply wK)));try simp only [go_sem,simprocAttr])|(with_reducible (first|apply oC|apply oJ|exact oK|apply wA|apply wB|apply wC hX hC|apply wD hX hC|apply wE hX hC af|apply wF hX hC af|apply wG|apply wH|apply And.intro))|((with_reducible refine oD ?_ ?_);kernel_rfl)|((with_reducible (first|apply oE|apply oF));(iterate 3 exact rfl);all_goals (intro h;first|(exact absurd h (by decide))|((try simp only [go_sem,simprocAttr] at h);(try with_reducible intro K hK);simp only [go_sem,simprocAttr])))|((first|((with_reducible apply wL);exact rfl)|((with_reducible apply wM);exact rfl));all_goals (try ((with_reducible intro h);first|(exact absurd h (by decide))|(try simp only [go_sem,simprocAttr] at h))))|omega|(intro h))
 exact h.symm
end Go.Ab
end
section
namespace Go.Ab
open Go.Proofs
attribute [local congr] ACall.congr
set_option maxRecDepth 20000
set_option maxHeartbeats 16000000
theorem yY (f:Edge→Int) (g:Gr) (hm:aP g=true) (x:Int) (hx:0≤x∧x<g.n):Spec Tryz.prog 105 (Args [.d (vw g), .d (.sl 1 (Fs f g)),eN x]) [] (.ref 10000) [(10000, .own 3 1 ((aG f g.es g.es.length x).map rI))]:=by
 rw [ag]
 have hn:=aT hm
 have hl':(aG f g.es g.es.length x).length≤1000000:=by have:=eC (f:=f) (es:=g.es) (k:=g.es.length) (x:=x);omega
 have hv:=lQ (f:=f) (g:=g) (x:=x.toNat) (by omega)
 have he:eW f g.es g.es.length x.toNat=aG f g.es g.es.length x:=by rw [jX,show ((x.toNat:Nat):Int)=x from by omega]
 rw [he] at hv
 have an:decide (x<0)=false:=decide_eq_false (by omega)
 have ak:decide (g.n≤x)=false:=decide_eq_false (by omega)
 have Fx:=xk (aG f g.es g.es.length x) hl'
 (refine Spec.dY (C:=T.cfg [] []) (rs:= [.t 6]) [(10000,22)] (T.aj _ _) Tryz.func105 rfl rfl Tryz.ntmps105 Tryz.results105 (by simp [AObj.isNest]) (by simp [AObj.isNest]) (by first|(simp [look];done)|(simp [asN];done)|(intro l hl;simp only [asN];repeat (rw [if_neg (fun e=>by subst e;simp [look] at hl)]))) (by first|(simp [look];done)|(simp [asN];done)|(intro l hl;simp only [asN];repeat (rw [if_neg (fun e=>by subst e;simp [look] at hl)]))) (by kernel_rfl) ?_;intro X hX hP hC aD aF vals hA;refine ⟨_,by simp,hA, ?_⟩;have af:X.P.follows .mixedOrders=true:=(by rw [hP];exact T.mixed);clear aD aF)
 repeat' (first|((first|((with_reducible (first|apply oA|apply oB));exact rfl;intro K hK)|(refine hK _ ?_;clear hK K)|((with_reducible (first|apply oG|apply oH));iterate 3 exact rfl)|((with_reducible apply oI);(iterate 2 exact rfl);intro K hK)|(with_reducible (first|apply wI|apply wJ|apply wK)));try simp only [go_sem,simprocAttr,hv,an,ak])|(with_reducible (first|apply oC|apply oJ|exact oK|apply wA|apply wB|apply wC hX hC|apply wD hX hC|apply wE hX hC af|apply wF hX hC af|apply wG|apply wH|apply And.intro))|((with_reducible refine oD ?_ ?_);kernel_rfl)|((with_reducible (first|apply oE|apply oF));(iterate 3 exact rfl);all_goals (intro h;first|(exact absurd h (by decide))|((try simp only [go_sem,simprocAttr,hv,an,ak] at h);(try with_reducible intro K hK);simp only [go_sem,simprocAttr,hv,an,ak])))|((first|((with_reducible apply wL);exact rfl)|((with_reducible apply wM);exact rfl));all_goals (try ((with_reducible intro h);first|(exact absurd h (by decide))|(try simp only [go_sem,simprocAttr,hv,an,ak] at h))))|omega|((first|(refine kC hX hC hP 22 (Fx) rfl rfl rfl ?_ ?_ (by first|exact ⟨_,_,_,rfl,yo⟩|exact ⟨_,_,_,rfl,yp⟩|exact ⟨_,_,_,rfl,yu⟩) rfl (by decide) ?_;(iterate 2 (focus (simp only [go_sem,simprocAttr,hv,an,ak];done)));simp only [go_sem,simprocAttr,hv,an,ak]));try simp only [go_sem,simprocAttr,hv,an,ak])|(intro h))
theorem Ad (g:Gr) (hm:aP g=true) (x:Int) (hx:0≤x∧x<g.n):Spec Tryz.prog 78 (Args [.d (vw g),eN x]) [] (.ref 10000) [(10000, .own 3 1 ((bn g x).map rI))]:=by
 have hT:=yY (·.1) g hm x hx
 (refine Spec.dY (C:=T.cfg [] []) (rs:= [.t 4]) [(10000,11)] (T.aj _ _) Tryz.func78 rfl rfl Tryz.ntmps78 Tryz.results78 (by simp [AObj.isNest]) (by simp [AObj.isNest]) (by first|(simp [look];done)|(simp [asN];done)|(intro l hl;simp only [asN];repeat (rw [if_neg (fun e=>by subst e;simp [look] at hl)]))) (by first|(simp [look];done)|(simp [asN];done)|(intro l hl;simp only [asN];repeat (rw [if_neg (fun e=>by subst e;simp [look] at hl)]))) (by kernel_rfl) ?_;intro X hX hP hC aD aF vals hA;refine ⟨_,by simp,hA, ?_⟩;have af:X.P.follows .mixedOrders=true:=(by rw [hP];exact T.mixed);clear aD aF)
 repeat' (first|((first|((with_reducible (first|apply oA|apply oB));exact rfl;intro K hK)|(refine hK _ ?_;clear hK K)|((with_reducible (first|apply oG|apply oH));iterate 3 exact rfl)|((with_reducible apply oI);(iterate 2 exact rfl);intro K hK)|(with_reducible (first|apply wI|apply wJ|apply wK)));try simp only [go_sem,simprocAttr,ag])|(with_reducible (first|apply oC|apply oJ|exact oK|apply wA|apply wB|apply wC hX hC|apply wD hX hC|apply wE hX hC af|apply wF hX hC af|apply wG|apply wH|apply And.intro))|((with_reducible refine oD ?_ ?_);kernel_rfl)|((with_reducible (first|apply oE|apply oF));(iterate 3 exact rfl);all_goals (intro h;first|(exact absurd h (by decide))|((try simp only [go_sem,simprocAttr,ag] at h);(try with_reducible intro K hK);simp only [go_sem,simprocAttr,ag])))|((first|((with_reducible apply wL);exact rfl)|((with_reducible apply wM);exact rfl));all_goals (try ((with_reducible intro h);first|(exact absurd h (by decide))|(try simp only [go_sem,simprocAttr,ag] at h))))|omega|((first|(refine kC hX hC hP 11 (hT) rfl rfl rfl ?_ ?_ (by first|exact ⟨_,_,_,rfl,yo⟩|exact ⟨_,_,_,rfl,yp⟩|exact ⟨_,_,_,rfl,yu⟩) rfl (by decide) ?_;(iterate 2 (focus (simp only [go_sem,simprocAttr,ag];done)));simp only [go_sem,simprocAttr,ag]));try simp only [go_sem,simprocAttr,ag])|(intro h))
 rfl
section
open Go.RowKit Go.Shelf Go.Sort Go.Lib
def Oe (b:Br) (i k:Int):Int:=compareInt (xB b i) (xB b k)
def Lc (b:Br) (u v:Int):Int:=if compareInt (yB b u) (yB b v)=0 then compareInt (fB b u) (fB b v) else compareInt (yB b u) (yB b v)
theorem pO {x y:Int} :compareInt x y<0↔x<y:=by
 unfold compareInt
 split
 ·simp [*]
 ·split<;>simp<;>omega
theorem Bi {x y:Int} :compareInt x y=0↔x=y:=by
 unfold compareInt
 split
 ·simp;omega
 ·split<;>simp<;>omega
theorem Ae {b:Br} {u v:Int} :Lc b u v<0↔yW b u v:=by
 unfold Lc yW
 by_cases h:yB b u=yB b v
 ·rw [if_pos (Bi.2 h),pO];omega
 ·rw [if_neg (fun e=>h (Bi.1 e)),pO];omega
def ki (b:Br):List AV:= [.d (sI b.y), .d (sI b.fr), .d (sI b.to), .d (sI b.x)]
theorem Fb {b:Br} {w:World} {E:Env} {vs:List Value} (h:AVrs w E (ki b) vs):∃v0 v1 v2 v3,vs= [v0,v1,v2,v3]∧Rd w E.z v0 (sI b.y)∧Rd w E.z v1 (sI b.fr)∧Rd w E.z v3 (sI b.x):=by
 obtain ⟨v0,r0,rfl,h0,h⟩:=h
 obtain ⟨v1,r1,rfl,h1,h⟩:=h
 obtain ⟨v2,r2,rfl,h2,h⟩:=h
 obtain ⟨v3,r3,rfl,h3,h⟩:=h
 simp only [AVrs] at h
 subst h
 exact ⟨v0,v1,v2,v3,rfl,h0,h1,h3⟩
theorem iH {w W:World} {b o:Nat} {blk:Nat} (hW:∀b,b<w.heap.size→b≠blk→W.heap[b]? =w.heap[b]?) (hb:b<w.heap.size) (hne:b≠blk):W.cell? ⟨b,o,none⟩=w.cell? ⟨b,o,none⟩:=by
 simp only [World.cell?,hW b hb hne]
theorem Af (b:Br) {l l':List Int} (S:E8 (Oe b) l l') (hl:∀i∈l,0≤i∧i<b.x.length) (hlen:l.length≤1000000):Spec Tryz.prog 79 (Args [.ref 10000, .fn 80 [] [.ptr 10001 0]]) [(10000, .own 3 1 (l.map rI)),(10001, .box (ki b))] (.tup []) [(10000, .own 3 1 (l'.map rI)),(10001, .box (ki b))]:=by
 refine tU S hlen (enters_of Tryz.func80 (by kernel_rfl) rfl) rfl ?_
 intro w E B blk vs e hB hA hne hz W hsz hW x hx y hy
 obtain ⟨v0,v1,v2,v3,rfl,_,_,h3⟩:=Fb hA
 have hx2:=hl x hx
 have hy2:=hl y hy
 obtain ⟨bx,off,cap,rfl,g1,g2,g3⟩:=Fa h3 (fun e=>by rw [e] at hx2;simp at hx2;omega)
 have I4:B<w.heap.size:=(Array.getElem?_eq_some_iff.1 hB).1
 have IC:bx≠blk:=fun e=>by rw [e] at g2;omega
 have hc:=Iz W B bx off b.x.length cap (fun j=>b.x.getD j 0) (by rw [iH hW I4 hne];simp [World.cell?,hB]) (fun j hj=>by rw [iH hW g1 IC];exact g3 j hj) x.toNat y.toNat (by omega) (by omega)
 rw [show ((x.toNat:Nat):Int)=x by omega,show ((y.toNat:Nat):Int)=y by omega] at hc
 exact hc.mono fun _ _ ⟨he,q,hq⟩=>⟨he,q, #[],by rw [hq,grow_empty]⟩
theorem Ag (b:Br) {l l':List Int} (S:E8 (Lc b) l l') (hl:∀i∈l,0≤i∧i<b.y.length) (hf:b.fr.length=b.y.length) (hlen:l.length≤1000000):Spec Tryz.prog 79 (Args [.ref 10000, .fn 82 [] [.ptr 10001 0]]) [(10000, .own 3 1 (l.map rI)),(10001, .box (ki b))] (.tup []) [(10000, .own 3 1 (l'.map rI)),(10001, .box (ki b))]:=by
 refine tU S hlen (enters_of Tryz.func82 (by kernel_rfl) rfl) rfl ?_
 intro w E B blk vs e hB hA hne hz W hsz hW x hx y hy
 obtain ⟨v0,v1,v2,v3,rfl,h0,h1,_⟩:=Fb hA
 have hx2:=hl x hx
 have hy2:=hl y hy
 obtain ⟨Fk,oy,cy,rfl,g1,g2,g3⟩:=Fa h0 (fun e=>by rw [e] at hx2;simp at hx2;omega)
 obtain ⟨bf,IB,cf,rfl,k1,k2,k3⟩:=Fa h1 (fun e=>by rw [e] at hf;simp at hf;omega)
 have I4:B<w.heap.size:=(Array.getElem?_eq_some_iff.1 hB).1
 have IC:Fk≠blk:=fun e=>by rw [e] at g2;omega
 have KL:bf≠blk:=fun e=>by rw [e] at k2;omega
 have hc:=IA W B Fk oy b.y.length cy bf IB b.fr.length cf (fun j=>b.y.getD j 0) (fun j=>b.fr.getD j 0) (by rw [iH hW I4 hne];simp [World.cell?,hB]) (by rw [iH hW I4 hne];simp [World.cell?,hB]) (fun j hj=>by rw [iH hW g1 IC];exact g3 j hj) (fun j hj=>by rw [iH hW k1 KL];exact k3 j hj) x.toNat y.toNat (by omega) (by omega) (by omega) (by omega)
 rw [show ((x.toNat:Nat):Int)=x by omega,show ((y.toNat:Nat):Int)=y by omega] at hc
 exact hc
end
theorem Fe {g:Gr} {b:Br} {p:Pl} (hp:qM g b p) {x:Nat} (hx:x<g.n.toNat):E8 (Oe b) (bn g x) (p.outs.getD x []):=
 {perm:=(hp.outs x hx).symm,nd:=bX,ord:=(hp.G7 x hx).imp fun h=>⟨pO.2 h,fun h2=>by have:=pO.1 h2;omega⟩,Lb:=fun i _ h=>by have:=pO.1 h;omega}
theorem GA {g:Gr} {b:Br} {p:Pl} (hp:qM g b p):E8 (Lc b) (eD g.n.toNat) p.ord:=
 {perm:=hp.perm.symm,nd:=gE,ord:=hp.sort.imp fun h=>⟨Ae.2 h,fun h2=>by have:=Ae.1 h2;unfold yW at*;omega⟩,Lb:=fun i _ h=>by have:=Ae.1 h;unfold yW at this;omega}
end Go.Ab
end
section
namespace Go.Ab
open Go.Proofs
attribute [local congr] ACall.congr
set_option maxRecDepth 20000
set_option maxHeartbeats 16000000
theorem CH {k:Nat} :(eD (k+1)).map rI=(eD k).map rI++ [rI (k:Int)]:=by simp [eD,List.range_succ]
theorem uu (g:Gr) (b:Br) (p:Pl) (hl:g.es.length≤1000) (an:b.y.length≤1000) (ak:b.x.length≤1000) (h:tT g b) (hp:qM g b p):Spec Tryz.prog 42 (Args [eG g,aI b]) [] (.tup [ePl p,eN 0]) []:=by
 have hR:=pL g b hl an ak
 rw [vv.2 h] at hR
 have hm:=aA h.xq
 have hn:=aT hm
 obtain ⟨N,hN⟩:∃N:Nat,g.n=N:=⟨g.n.toNat,by omega⟩
 have Of:g.n.toNat=N:=by omega
 have ly:b.y.length=N:=by have:=h.ly;omega
 have lf:b.fr.length=N:=by have:=h.lf;omega
 have lx:=h.lx
 have lo:p.outs.length=N:=by rw [hp.len,Of]
 have Og:=ff g hm
 have K5:=GA hp
 rw [Of] at K5
 have Qf:=Ag b K5 (fun i hi=>by have:=dH.1 hi;omega) (by omega) (by rw [iY];omega)
 have hO:=fun (x:Nat) (hx:x<N)=>Ad g hm x ⟨by omega,by omega⟩
 have KM:=fun (x:Nat) (hx:x<N)=>Af b (Fe hp (x:=x) (by omega)) (fun i hi=>by have:=(dR hi).1;omega) (by have:=eC (f:=(·.1)) (es:=g.es) (k:=g.es.length) (x:=(x:Int));show (aG (·.1) g.es g.es.length (x:Int)).length≤_;omega)
 have oa:eG g= .agg [eN N, .d (sE g.es)]:=by rw [eG,hN]
 rw [oa] at hR Og ⊢
 (refine Spec.intro (C:=T.cfg [27] []) (rs:= [.c 4 28, .t 5]) (T.aj _ _) Tryz.func42 rfl rfl Tryz.ntmps42 Tryz.results42 (by simp [AObj.isNest]) (by simp [AObj.isNest]) (by kernel_rfl) ?_;intro X hX hP hC aD aF vals hA;refine ⟨_,by simp,hA, ?_⟩;have af:X.P.follows .mixedOrders=true:=(by rw [hP];exact T.mixed);clear aD aF)
 repeat' (first|((first|((with_reducible (first|apply oA|apply oB));exact rfl;intro K hK)|(refine hK _ ?_;clear hK K)|((with_reducible (first|apply oG|apply oH));iterate 3 exact rfl)|((with_reducible apply oI);(iterate 2 exact rfl);intro K hK)|(with_reducible (first|apply wI|apply wJ|apply wK)));try simp only [go_sem,simprocAttr,aI,ki])|(with_reducible (first|apply oC|apply oJ|exact oK|apply wA|apply wB|apply wC hX hC|apply wD hX hC|apply wE hX hC af|apply wF hX hC af|apply wG|apply wH|apply And.intro))|((with_reducible refine oD ?_ ?_);kernel_rfl)|((with_reducible (first|apply oE|apply oF));(iterate 3 exact rfl);all_goals (intro h;first|(exact absurd h (by decide))|((try simp only [go_sem,simprocAttr,aI,ki] at h);(try with_reducible intro K hK);simp only [go_sem,simprocAttr,aI,ki])))|((first|((with_reducible apply wL);exact rfl)|((with_reducible apply wM);exact rfl));all_goals (try ((with_reducible intro h);first|(exact absurd h (by decide))|(try simp only [go_sem,simprocAttr,aI,ki] at h))))|omega|((first|refine aa hX hC hP (hR) rfl rfl rfl (by simp only [go_sem,simprocAttr,aI,ki]) rfl ?_|refine aa hX hC hP (Og) rfl rfl rfl (by simp only [go_sem,simprocAttr,aI,ki]) rfl ?_);try simp only [go_sem,simprocAttr,aI,ki])|(intro h))
 (refine iK hX 7 0 200 (.own 3 1 []) rfl rfl rfl (by simp only [go_sem,simprocAttr,aI,ki]) (by decide) (by simp [go_sem,simprocAttr,aI,ki]) ⟨3,1,by decide, .inl rfl⟩ ?_;simp only [LA.app,ASt.put,ASt.kill,subT,rmk,putM,rml,kl,AV.sub,AV.subs,AObj.sub,List.set_cons_zero,List.set_cons_succ,go_sem,simprocAttr,aI,ki])
 (refine iK hX 7 1 201 (.tip 25 1 []) rfl rfl rfl (by simp only [go_sem,simprocAttr,aI,ki]) (by decide) (by simp [go_sem,simprocAttr,aI,ki]) ⟨25,1,by decide, .inr rfl⟩ ?_;simp only [LA.app,ASt.put,ASt.kill,subT,rmk,putM,rml,kl,AV.sub,AV.subs,AObj.sub,List.set_cons_zero,List.set_cons_succ,go_sem,simprocAttr,aI,ki])
 refine ah (fun k:Nat=>k≤N) (fun k=>⟨[(2, .ptr 2 0),(3, .ptr 3 0),(4, .ptr 4 0),(5,eN 0),(6, .d (vw g)),(7, .ptr 7 0),(19,eN N),(20,eN k)], [(2, .box [eN N, .d (sE g.es)]),(3, .box [.d (sI b.y), .d (sI b.fr), .d (sI b.to), .d (sI b.x)]),(4, .box [.nil 3, .nil 25]),(7, .box [.ref 200, .ref 201]),(200, .own 3 1 ((eD k).map rI)),(201, .tip 25 1 (vI (p.outs.take k)))]⟩) (fun k=>N - k) 0 (by omega) ?_ ?_
 ·refine Le.of ?_ ?_<;>simp [go_sem,simprocAttr,eD,vI]
 rintro k hk
 rcases Nat.lt_or_ge k N with bT|An
 ·have hb:decide ((k:Int)<(N:Int))=true:=decide_eq_true (by omega)
  have hO:=hO k bT
  have KM:=KM k bT
  have dQ:vI (p.outs.take (k+1))=vI (p.outs.take k)++ [[sI (p.outs.getD k [])]]:=by
   simp only [vI];rw [kI (d:= []) (show k<p.outs.length by omega)]
  have hna:=CH (k:=k)
  have mD:(p.outs.take k).length=k:=by rw [List.length_take];omega
  have jm:(eD k).length=k:=iY
  generalize p.outs.getD k []=L at KM dQ
  generalize bn g (k:Int)=l at hO KM
  generalize Ja:p.outs.take (k+1)=T2 at dQ
  generalize p.outs.take k=T1 at dQ mD
  generalize Qg:(eD (k+1)).map rI=A2 at hna
  generalize eD k=A1 at hna jm
  repeat' (first|((first|((with_reducible (first|apply oA|apply oB));exact rfl;intro K hK)|(refine hK _ ?_;clear hK K)|((with_reducible (first|apply oG|apply oH));iterate 3 exact rfl)|((with_reducible apply oI);(iterate 2 exact rfl);intro K hK)|(with_reducible (first|apply wI|apply wJ|apply wK)));try simp only [go_sem,simprocAttr,hb,mD,jm,ki])|(show dz _ (.seq (.region 9 _ _) _) _ _;(refine dN hX 7 0 27 200 rfl rfl rfl (by first|exact .inl rfl|exact .inr rfl) (by decide) (by decide) ?_;simp only [LA.app,ASt.put,ASt.kill,subT,rmk,putM,rml,kl,AV.sub,AV.subs,AObj.sub,List.set_cons_zero,List.set_cons_succ,go_sem,simprocAttr,hb,mD,jm,ki]))|(show dz _ (.region 11 _ _) _ _;(refine dh hX 31 rfl (.inl rfl) ?_;simp only [go_sem,simprocAttr,hb,mD,jm,ki]))|(show dz _ (.region 12 _ _) _ _;(refine dN hX 7 1 39 201 rfl rfl rfl (by first|exact .inl rfl|exact .inr rfl) (by decide) (by decide) ?_;simp only [LA.app,ASt.put,ASt.kill,subT,rmk,putM,rml,kl,AV.sub,AV.subs,AObj.sub,List.set_cons_zero,List.set_cons_succ,go_sem,simprocAttr,hb,mD,jm,ki]))|(with_reducible (first|apply oC|apply oJ|exact oK|apply wA|apply wB|apply wC hX hC|apply wD hX hC|apply wE hX hC af|apply wF hX hC af|apply wG|apply wH|apply And.intro))|((with_reducible refine oD ?_ ?_);kernel_rfl)|((with_reducible (first|apply oE|apply oF));(iterate 3 exact rfl);all_goals (intro h;first|(exact absurd h (by decide))|((try simp only [go_sem,simprocAttr,hb,mD,jm,ki] at h);(try with_reducible intro K hK);simp only [go_sem,simprocAttr,hb,mD,jm,ki])))|((first|((with_reducible apply wL);exact rfl)|((with_reducible apply wM);exact rfl));all_goals (try ((with_reducible intro h);first|(exact absurd h (by decide))|(try simp only [go_sem,simprocAttr,hb,mD,jm,ki] at h))))|omega|((first|(refine kC hX hC hP 31 (hO) rfl rfl rfl ?_ ?_ (by first|exact ⟨_,_,_,rfl,yo⟩|exact ⟨_,_,_,rfl,yp⟩|exact ⟨_,_,_,rfl,yu⟩) rfl (by decide) ?_;(iterate 2 (focus (simp only [go_sem,simprocAttr,hb,mD,jm,ki];done)));simp only [go_sem,simprocAttr,hb,mD,jm,ki])|(refine au hX hC hP [(10000,31),(10001,3)] (KM) rfl rfl rfl ?_ ?_ ?_ ?_ ?_ ?_ ?_ ?_ ?_ ?_ ?_ ?_ ?_ ?_;(focus (simp only [go_sem,simprocAttr,hb,mD,jm,ki];done));(iterate 12 (focus (simp [go_sem,simprocAttr,hb,mD,jm,ki];done)));simp only [go_sem,simprocAttr,hb,mD,jm,ki,List.map_cons,List.map_nil]));try simp only [go_sem,simprocAttr,hb,mD,jm,ki])|(intro h))
  refine ⟨k+1,by omega, ?_,by omega⟩
  rw [Qg,Ja,hna,dQ]
  refine Le.of ?_ ?_<;>simp [go_sem,simprocAttr,hb,mD,jm,ki,rI]
 have hb:decide ((k:Int)<(N:Int))=false:=decide_eq_false (by omega)
 obtain rfl:k=N:=by omega
 rw [show p.outs.take k=p.outs by rw [← lo];exact List.take_length]
 generalize eD k=A1 at*
 repeat' (first|((first|((with_reducible (first|apply oA|apply oB));exact rfl;intro K hK)|(refine hK _ ?_;clear hK K)|((with_reducible (first|apply oG|apply oH));iterate 3 exact rfl)|((with_reducible apply oI);(iterate 2 exact rfl);intro K hK)|(with_reducible (first|apply wI|apply wJ|apply wK)));try simp only [go_sem,simprocAttr,hb,ki])|(with_reducible (first|apply oC|apply oJ|exact oK|apply wA|apply wB|apply wC hX hC|apply wD hX hC|apply wE hX hC af|apply wF hX hC af|apply wG|apply wH|apply And.intro))|((with_reducible refine oD ?_ ?_);kernel_rfl)|((with_reducible (first|apply oE|apply oF));(iterate 3 exact rfl);all_goals (intro h;first|(exact absurd h (by decide))|((try simp only [go_sem,simprocAttr,hb,ki] at h);(try with_reducible intro K hK);simp only [go_sem,simprocAttr,hb,ki])))|((first|((with_reducible apply wL);exact rfl)|((with_reducible apply wM);exact rfl));all_goals (try ((with_reducible intro h);first|(exact absurd h (by decide))|(try simp only [go_sem,simprocAttr,hb,ki] at h))))|omega|((first|(refine au hX hC hP [(10000,200),(10001,3)] (Qf) rfl rfl rfl ?_ ?_ ?_ ?_ ?_ ?_ ?_ ?_ ?_ ?_ ?_ ?_ ?_ ?_;(focus (simp only [go_sem,simprocAttr,hb,ki];done));(iterate 12 (focus (simp [go_sem,simprocAttr,hb,ki];done)));simp only [go_sem,simprocAttr,hb,ki,List.map_cons,List.map_nil]));try simp only [go_sem,simprocAttr,hb,ki])|(intro h))
end Go.Ab
end
section
namespace Go.Ab
open Go.Proofs
attribute [local congr] ACall.congr
set_option maxRecDepth 20000
set_option maxHeartbeats 16000000
def Oh (n:Nat) (us:List Int):List Bool:=(List.range n).map fun x:Nat=>decide ((x:Int)∈us)
def Oi (n:Nat) (ls:List (List Int)) (k:Nat):List (List Int):=(List.range n).map fun x=>if x<k then ls.getD x [] else []
def GB (b:Br) (u v:Int):Bool:=decide (yB b u<yB b v)||(decide (yB b u=yB b v)&&decide (fB b u<fB b v))
def Oj (b:Br) (a c:Int):Bool:=decide (xB b c<xB b a)
end Go.Ab
end
section
namespace Go.Ab
open Go.Proofs
attribute [local congr] ACall.congr
set_option maxRecDepth 20000
set_option maxHeartbeats 16000000
theorem vB {f:Nat→List Int} {n i:Nat} (h:i<n):((List.range n).map f).getD i []=f i:=by
 rw [List.getD_eq_getElem?_getD,List.getElem?_map,List.getElem?_range h];rfl
theorem Ff {g:Gr} {b:Br} (h:tT g b):∃p,qM g b p:=by
 have hm:=aA h.xq
 have hn:=aT hm
 have ly:=h.ly
 have Qh:∀u v:Int,lp g u→lp g v→u≠v→yW b u v∨yW b v u:=fun u v hu hv hne=>by
  have CO:=hu.1;have Oc:=hu.2;have qx:=hv.1;have za:=hv.2
  have key:∀u v:Int,lp g u→lp g v→u.toNat<v.toNat→yW b u v∨yW b v u:=fun u v hu hv hlt=>by
   have CO:=hu.1;have Oc:=hu.2;have qx:=hv.1;have za:=hv.2
   have a1:=h.apart v.toNat (by omega) u.toNat hlt
   have a2:=h.N9 u.toNat (by omega)
   have a3:=h.N9 v.toNat (by omega)
   unfold yW yB fB
   omega
  rcases Nat.lt_or_gt_of_ne (show u.toNat≠v.toNat by omega) with h1|h1
  ·exact key u v hu hv h1
  ·exact (key v u hv hu h1).symm
 have dx:∀(x:Nat) (i k:Int),i∈bn g x→k∈bn g x→i≠k→xB b i≠xB b k:=fun x i k hi hk hne=>by
  obtain ⟨⟨i0,i1⟩,i2⟩:=dR hi
  obtain ⟨⟨k0,k1⟩,k2⟩:=dR hk
  have key:∀i k:Nat,k<i→i<g.es.length→tl g i=tl g k→b.x.getD i 0≠b.x.getD k 0:=fun i k hki hi e e2=>by
   have u1:=(h.up i hi).1
   have u2:=(h.up k (by omega)).1
   rw [e] at u1
   exact h.KI i hi k hki ⟨e2.symm,by rw [e];exact u2,by exact u1⟩
  have e:tl g i.toNat=tl g k.toNat:=by show (g.es.getD _ _).1=(g.es.getD _ _).1;rw [i2,k2]
  unfold xB
  rcases Nat.lt_or_gt_of_ne (show i.toNat≠k.toNat by omega) with h1|h1
  ·exact Ne.symm (key k.toNat i.toNat h1 (by omega) e.symm)
  ·exact key i.toNat k.toNat h1 (by omega) e
 refine ⟨⟨G8 (fun a c=>GB b c a) g.n.toNat (eD g.n.toNat),(List.range g.n.toNat).map fun x:Nat=>G8 (Oj b) (bn g x).length (bn g x)⟩,⟨pM, ?_,by simp,fun x hx=> ?_,fun x hx=> ?_⟩⟩
 ·refine nZ (S:=fun v=>lp g v) (fun a c d _ _ _ h1 h2=>by unfold yW at*;omega) (fun a c ha hc hne=> ?_) (by rw [iY];omega) gE fun v hv=>by have:=dH.1 hv;exact ⟨by omega,by omega⟩
  have:=Qh a c ha hc hne
  by_cases h1:GB b c a=true
  ·rw [if_pos h1]
   simp only [GB,Bool.or_eq_true,Bool.and_eq_true,decide_eq_true_eq] at h1
   unfold yW;omega
  ·rw [if_neg h1]
   simp only [GB,Bool.or_eq_true,Bool.and_eq_true,decide_eq_true_eq] at h1
   unfold yW at*;omega
 ·rw [vB hx];exact pM
 ·rw [vB hx]
  refine nZ (S:=fun i=>i∈bn g (x:Int)) (fun a c d _ _ _ h1 h2=>by omega) (fun a c ha hc hne=> ?_) (Nat.le_refl _) bX fun i hi=>hi
  have:=dx x a c ha hc hne
  simp only [Oj,decide_eq_true_eq]
  split<;>omega
theorem vC {g:Gr} {b:Br} {p:Pl} (h:tT g b) (hp:qM g b p):Ke p∧pg p:=by
 have hm:=aA h.xq
 have hn:=aT hm
 have hl:p.ord.length=g.n.toNat:=bK hp.ok
 have ho:=hp.len
 have he:∀l∈p.outs,l.length≤g.es.length:=fun l hl=>by
  obtain ⟨x,hx,rfl⟩:=List.mem_iff_getElem.1 hl
  have:=(hp.outs x (by omega)).length_eq
  rw [List.getD_eq_getElem?_getD,List.getElem?_eq_getElem hx,Option.getD_some] at this
  rw [this];exact tw
 exact ⟨⟨by omega,by omega,fun l hl=>by have:=he l hl;omega⟩,⟨by omega,by omega,fun l hl=>by have:=he l hl;omega⟩⟩
theorem yZ (g:Gr) (b:Br):Spec Tryz.prog 13 (Args [eG g,aI b]) [] (eB true) []:=by
 have KN:=xe g b
 cases eS:Bf g b with
 |true=>
  rw [eS] at KN
  (refine Spec.intro (C:=T.cfg [] []) (rs:= [.t 4]) (T.aj _ _) Tryz.func13 rfl rfl Tryz.ntmps13 Tryz.results13 (by simp [AObj.isNest]) (by simp [AObj.isNest]) (by kernel_rfl) ?_;intro X hX hP hC aD aF vals hA;refine ⟨_,by simp,hA, ?_⟩;have af:X.P.follows .mixedOrders=true:=(by rw [hP];exact T.mixed);clear aD aF)
  repeat' (first|((first|((with_reducible (first|apply oA|apply oB));exact rfl;intro K hK)|(refine hK _ ?_;clear hK K)|((with_reducible (first|apply oG|apply oH));iterate 3 exact rfl)|((with_reducible apply oI);(iterate 2 exact rfl);intro K hK)|(with_reducible (first|apply wI|apply wJ|apply wK)));try simp only [go_sem,simprocAttr,aI])|(with_reducible (first|apply oC|apply oJ|exact oK|apply wA|apply wB|apply wC hX hC|apply wD hX hC|apply wE hX hC af|apply wF hX hC af|apply wG|apply wH|apply And.intro))|((with_reducible refine oD ?_ ?_);kernel_rfl)|((with_reducible (first|apply oE|apply oF));(iterate 3 exact rfl);all_goals (intro h;first|(exact absurd h (by decide))|((try simp only [go_sem,simprocAttr,aI] at h);(try with_reducible intro K hK);simp only [go_sem,simprocAttr,aI])))|((first|((with_reducible apply wL);exact rfl)|((with_reducible apply wM);exact rfl));all_goals (try ((with_reducible intro h);first|(exact absurd h (by decide))|(try simp only [go_sem,simprocAttr,aI] at h))))|omega|((first|refine aa hX hC hP (jE) rfl rfl rfl (by simp only [go_sem,simprocAttr,aI]) rfl ?_|refine aa hX hC hP (KN) rfl rfl rfl (by simp only [go_sem,simprocAttr,aI]) rfl ?_);try simp only [go_sem,simprocAttr,aI])|(intro h))
 |false=>
 rw [eS] at KN
 have Ni:=eS
 simp only [Bf,Bool.or_eq_false_iff,decide_eq_false_iff_not] at Ni
 have I3:=uo g b (by omega) (by omega) (by omega)
 cases mA:cB g b with
 |false=>
  rw [mA] at I3
  (refine Spec.intro (C:=T.cfg [] []) (rs:= [.t 4]) (T.aj _ _) Tryz.func13 rfl rfl Tryz.ntmps13 Tryz.results13 (by simp [AObj.isNest]) (by simp [AObj.isNest]) (by kernel_rfl) ?_;intro X hX hP hC aD aF vals hA;refine ⟨_,by simp,hA, ?_⟩;have af:X.P.follows .mixedOrders=true:=(by rw [hP];exact T.mixed);clear aD aF)
  repeat' (first|((first|((with_reducible (first|apply oA|apply oB));exact rfl;intro K hK)|(refine hK _ ?_;clear hK K)|((with_reducible (first|apply oG|apply oH));iterate 3 exact rfl)|((with_reducible apply oI);(iterate 2 exact rfl);intro K hK)|(with_reducible (first|apply wI|apply wJ|apply wK)));try simp only [go_sem,simprocAttr,aI])|(with_reducible (first|apply oC|apply oJ|exact oK|apply wA|apply wB|apply wC hX hC|apply wD hX hC|apply wE hX hC af|apply wF hX hC af|apply wG|apply wH|apply And.intro))|((with_reducible refine oD ?_ ?_);kernel_rfl)|((with_reducible (first|apply oE|apply oF));(iterate 3 exact rfl);all_goals (intro h;first|(exact absurd h (by decide))|((try simp only [go_sem,simprocAttr,aI] at h);(try with_reducible intro K hK);simp only [go_sem,simprocAttr,aI])))|((first|((with_reducible apply wL);exact rfl)|((with_reducible apply wM);exact rfl));all_goals (try ((with_reducible intro h);first|(exact absurd h (by decide))|(try simp only [go_sem,simprocAttr,aI] at h))))|omega|((first|refine aa hX hC hP (jE) rfl rfl rfl (by simp only [go_sem,simprocAttr,aI]) rfl ?_|refine aa hX hC hP (KN) rfl rfl rfl (by simp only [go_sem,simprocAttr,aI]) rfl ?_|refine aa hX hC hP (I3) rfl rfl rfl (by simp only [go_sem,simprocAttr,aI]) rfl ?_);try simp only [go_sem,simprocAttr,aI])|(intro h))
 |true=>
  rw [mA] at I3
  have h:=vv.1 mA
  have Qi:=CC b
  obtain ⟨p,hp⟩:=Ff h
  have kO:=uu g b p (by omega) (by omega) (by omega) h hp
  have hrun:=CE h hp
  obtain ⟨bb,hr⟩:=PK g p
  have Nj:=jB g (by omega) p (vC h hp).2 bb hr
  have Ct:=Cy g (by omega) p (vC h hp).2 bb hr
  rw [nV hr hrun] at Nj Ct
  simp only at Nj Ct
  simp only [decide_true] at Ct
  generalize eu g p g.n.toNat=ER at*
  generalize kX g p=LR at*
  (refine Spec.intro (C:=T.cfg [] []) (rs:= [.t 4]) (T.aj _ _) Tryz.func13 rfl rfl Tryz.ntmps13 Tryz.results13 (by simp [AObj.isNest]) (by simp [AObj.isNest]) (by kernel_rfl) ?_;intro X hX hP hC aD aF vals hA;refine ⟨_,by simp,hA, ?_⟩;have af:X.P.follows .mixedOrders=true:=(by rw [hP];exact T.mixed);clear aD aF)
  repeat' (first|((first|((with_reducible (first|apply oA|apply oB));exact rfl;intro K hK)|(refine hK _ ?_;clear hK K)|((with_reducible (first|apply oG|apply oH));iterate 3 exact rfl)|((with_reducible apply oI);(iterate 2 exact rfl);intro K hK)|(with_reducible (first|apply wI|apply wJ|apply wK)));try simp only [go_sem,simprocAttr,aI])|(with_reducible (first|apply oC|apply oJ|exact oK|apply wA|apply wB|apply wC hX hC|apply wD hX hC|apply wE hX hC af|apply wF hX hC af|apply wG|apply wH|apply And.intro))|((with_reducible refine oD ?_ ?_);kernel_rfl)|((with_reducible (first|apply oE|apply oF));(iterate 3 exact rfl);all_goals (intro h;first|(exact absurd h (by decide))|((try simp only [go_sem,simprocAttr,aI] at h);(try with_reducible intro K hK);simp only [go_sem,simprocAttr,aI])))|((first|((with_reducible apply wL);exact rfl)|((with_reducible apply wM);exact rfl));all_goals (try ((with_reducible intro h);first|(exact absurd h (by decide))|(try simp only [go_sem,simprocAttr,aI] at h))))|omega|((first|refine aa hX hC hP (jE) rfl rfl rfl (by simp only [go_sem,simprocAttr,aI]) rfl ?_|refine aa hX hC hP (KN) rfl rfl rfl (by simp only [go_sem,simprocAttr,aI]) rfl ?_|refine aa hX hC hP (I3) rfl rfl rfl (by simp only [go_sem,simprocAttr,aI]) rfl ?_|refine aa hX hC hP (Qi) rfl rfl rfl (by simp only [go_sem,simprocAttr,aI]) rfl ?_|refine aa hX hC hP (kO) rfl rfl rfl (by simp only [go_sem,simprocAttr,aI]) rfl ?_|refine aa hX hC hP (Nj) rfl rfl rfl (by simp only [go_sem,simprocAttr,aI]) rfl ?_|refine aa hX hC hP (Ct) rfl rfl rfl (by simp only [go_sem,simprocAttr,aI]) rfl ?_);try simp only [go_sem,simprocAttr,aI])|(intro h))
end Go.Ab
end
