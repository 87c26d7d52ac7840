/- A part of the proof. -/
import Derived.Shelf.SlicesG.Cmp
import Derived.Deep.QuietTactic
import Derived.Deep.RegionHeld3
import Derived.WalkKit
import Derived.LoopNIn
import Derived.LoopIn
import Derived.Sort.WalkA
import Derived.Sort.Grow
import Derived.Shelf.SlSortCmp.NoneTotal
import Derived.Test.YtjmaiddbinlooaaGreatL7P18
set_option linter.unusedSimpArgs false
set_option linter.unusedVariables false
section
namespace Go.Ab
open Go.Proofs Go.RowKit Go.Shelf Go.Lib Go.Sort
set_option maxRecDepth 10000
set_option maxHeartbeats 4000000
theorem tK (x y:Int) (W:World):Calls Tryz.prog 81 #[.int .i64 x, .int .i64 y] W fun e w'=>e= .returned (.int .i64 (compareInt x y))∧w'=W:=
 AnyG.cmp_Compare_int Tryz.KH x y W
theorem Io (W:World) (B bx off len cap:Nat) (X:Nat→Int) (hB:W.cell? ⟨B,3,none⟩=some (.slice (some ⟨bx,off,none⟩) len cap)) (hx:∀j,j<len→W.cell? ⟨bx,off+j,none⟩=some (.int .i64 (X j))) (i k:Nat) (hi:i<len) (hk:k<len):
 Calls Tryz.prog 80 #[.int .i64 i, .int .i64 k, .pointer (some ⟨B,0,none⟩)] W fun e w'=>e= .returned (.int .i64 (compareInt (X i) (X k)))∧∃q,w'=W.drewN q:=by
 have EJ:=fun W'=>tK (X i) (X k) W'
 generalize compareInt (X i) (X k)=r at EJ ⊢
 have ci:=hx i hi
 have ck:=hx k hk
 go_enter Tryz.func80,Tryz.ntmps80
 go_wp2
 go_quiet (exact Calls.quiet_of_same (EJ _))
 go_wp2
 go_ret
 exact ⟨rfl,nq,rfl⟩
theorem Ci (W:World) (b:Nat) (c0 c1:Int) (h0:W.cell? ⟨b,0,none⟩=some (.int .i64 c0)) (h1:W.cell? ⟨b,1,none⟩=some (.int .i64 c1)):
 Calls Tryz.prog 83 #[.slice (some ⟨b,0,none⟩) 2 2] W fun e w'=>e= .returned (.int .i64 (if c0=0 then c1 else c0))∧w'=W:=by
 by_cases hc:c0=0
 ·subst hc
  rw [if_pos rfl]
  by_cases hd:c1=0
  ·subst hd
   go_enter Tryz.func83,Tryz.ntmps83
   go_wp2
   go_loopw [8] (fun i wr=>∃k:Nat,k≤2∧i= .int .i64 k∧wr=W) (fun i _=>2 - (Go.Proofs.intOf i).toNat)
   case atStart=>exact ⟨0,by omega,rfl,rfl⟩
   case round=>
    obtain ⟨k,hk,rfl,rfl⟩:=hrel
    match k,hk with
    |0,_=>
     go_wp2
     exact ⟨⟨1,by omega,rfl,trivial⟩,by decide⟩
    |1,_=>
     go_wp2
     exact ⟨⟨2,by omega,rfl,trivial⟩,by decide⟩
    |2,_=>
     go_wp2
     go_ret
     exact ⟨rfl,rfl⟩
  ·go_enter Tryz.func83,Tryz.ntmps83
   go_wp2
   go_loopw [8] (fun i wr=>∃k:Nat,k≤1∧i= .int .i64 k∧wr=W) (fun i _=>2 - (Go.Proofs.intOf i).toNat)
   case atStart=>exact ⟨0,by omega,rfl,rfl⟩
   case round=>
    obtain ⟨k,hk,rfl,rfl⟩:=hrel
    match k,hk with
    |0,_=>
     go_wp2
     exact ⟨⟨1,by omega,rfl,trivial⟩,by decide⟩
    |1,_=>
     go_wp2
     go_ret
     exact ⟨rfl,rfl⟩
 ·rw [if_neg hc]
  go_enter Tryz.func83,Tryz.ntmps83
  go_wp2
  go_loopw [8] (fun i wr=>i= .int .i64 0∧wr=W) (fun i _=>0)
  case atStart=>exact ⟨rfl,rfl⟩
  case round=>
   obtain ⟨rfl,rfl⟩:=hrel
   go_wp2
   go_ret
   exact ⟨rfl,rfl⟩
theorem Ip (W:World) (B EW oy ly cy bf Iq lf cf:Nat) (Y F:Nat→Int) (hB:W.cell? ⟨B,0,none⟩=some (.slice (some ⟨EW,oy,none⟩) ly cy)) (hC:W.cell? ⟨B,1,none⟩=some (.slice (some ⟨bf,Iq,none⟩) lf cf))
 (hy:∀j,j<ly→W.cell? ⟨EW,oy+j,none⟩=some (.int .i64 (Y j))) (hf:∀j,j<lf→W.cell? ⟨bf,Iq+j,none⟩=some (.int .i64 (F j))) (i k:Nat) (hi:i<ly) (hk:k<ly) (hi2:i<lf) (hk2:k<lf):
 Calls Tryz.prog 82 #[.int .i64 i, .int .i64 k, .pointer (some ⟨B,0,none⟩)] W fun e w'=>e= .returned (.int .i64 (if compareInt (Y i) (Y k)=0 then compareInt (F i) (F k) else compareInt (Y i) (Y k)))∧∃q os',w'=grow (W.drewN q) os':=by
 have c1:=hy i hi
 have c2:=hy k hk
 have c3:=hf i hi2
 have c4:=hf k hk2
 clear hy hf
 generalize Y i=y1 at c1 ⊢
 generalize Y k=y2 at c2 ⊢
 generalize F i=f1 at c3 ⊢
 generalize F k=f2 at c4 ⊢
 have h3:=fun W b=>Ci W b (compareInt y1 y2) (compareInt f1 f2)
 generalize (if compareInt y1 y2=0 then compareInt f1 f2 else compareInt y1 y2)=r at h3 ⊢
 go_enter Tryz.func82,Tryz.ntmps82
 go_wp2
 go_region_held3 (fun w'=>w'.cell? ⟨B,0,none⟩=some (.slice (some ⟨EW,oy,none⟩) ly cy)∧w'.cell? ⟨B,1,none⟩=some (.slice (some ⟨bf,Iq,none⟩) lf cf)∧w'.cell? ⟨EW,oy+i,none⟩=some (.int .i64 y1)∧w'.cell? ⟨EW,oy+k,none⟩=some (.int .i64 y2)∧w'.cell? ⟨bf,Iq+i,none⟩=some (.int .i64 f1)∧w'.cell? ⟨bf,Iq+k,none⟩=some (.int .i64 f2)) (go_keep)
  (first|(go_at_call 81;refine (tK _ _ _).mono ?_;rintro e w' ⟨rfl,rfl⟩)|(go_at_call 83;refine (h3 _ _ (by simp) (by simp)).mono ?_;rintro e w' ⟨rfl,rfl⟩))
 go_wp2
 go_ret
 exact ⟨rfl,1,_,by rw [alloc_eq_grow];rfl⟩
end Go.Ab
end
section
namespace Go.Ab
open Go.Proofs
attribute [local congr] ACall.congr
set_option maxRecDepth 10000
set_option maxHeartbeats 8000000
def Oi (l:List Int) (k:Nat):List Int:=(List.range l.length).map fun p=>if p<k∨l.length - 1<p+k then l.getD (l.length - 1 - p) 0 else l.getD p 0
theorem wY (ps:List Int) (hl:ps.length≤1000000):
 Spec Tryz.prog 53 (Args [.d (sI ps)]) [] (.ref 10000) [(10000, .own 3 1 (ps.map rI))]:=by
 (refine Spec.dK (C:=T.cfg [5,7] []) (rs:= [.t 2]) [(10000,7)] (T.aj _ _) Tryz.func53 rfl rfl Tryz.ntmps53 Tryz.results53 (by simp [AObj.isNest]) (by simp [AObj.isNest]) (by first|(simp [look];done)|(simp [asN];done)|(intro l hl;simp only [asN];repeat (rw [if_neg (fun e=>by subst e;simp [look] at hl)]))) (by first|(simp [look];done)|(simp [asN];done)|(intro l hl;simp only [asN];repeat (rw [if_neg (fun e=>by subst e;simp [look] at hl)]))) (by kernel_rfl) ?_;intro X hX hP hC aL aM vals hA;refine ⟨_,by simp,hA, ?_⟩;have af:X.P.follows .mixedOrders=true:=(by rw [hP];exact T.mixed);clear aL aM)
 repeat' (first|(show dw _ .ret _ _;(try simp only [go_sem,simprocAttr]);refine ja hX 2 7 (.own 3 1 []) ?_ ?_ (by decide) ⟨3,1,by decide, .inl rfl⟩ ?_;(iterate 2 (focus (simp only [go_sem,simprocAttr];done)));simp only [go_sem,simprocAttr])|((first|((with_reducible (first|apply oA|apply oB));exact rfl;intro K hK)|(refine hK _ ?_;clear hK K)|((with_reducible (first|apply oG|apply oH));iterate 3 exact rfl)|((with_reducible apply oI);(iterate 2 exact rfl);intro K hK)|(with_reducible (first|apply wI|apply wJ|apply wK)));try simp only [go_sem,simprocAttr])|(with_reducible (first|apply oC|apply oJ|exact oK|apply wA|apply wB|apply wC hX hC|apply wD hX hC|apply wE hX hC af|apply wF hX hC af|apply wG|apply wH|apply And.intro))|((with_reducible refine oD ?_ ?_);kernel_rfl)|((with_reducible (first|apply oE|apply oF));(iterate 3 exact rfl);all_goals (intro h;first|(exact absurd h (by decide))|((try simp only [go_sem,simprocAttr] at h);(try with_reducible intro K hK);simp only [go_sem,simprocAttr])))|((first|((with_reducible apply wL);exact rfl)|((with_reducible apply wM);exact rfl));all_goals (try ((with_reducible intro h);first|(exact absurd h (by decide))|(try simp only [go_sem,simprocAttr] at h))))|omega|(intro h))
 exact h.symm
end Go.Ab
end
section
namespace Go.Ab
open Go.Proofs
attribute [local congr] ACall.congr
set_option maxRecDepth 20000
set_option maxHeartbeats 16000000
theorem yG (f:Edge→Int) (g:Gr) (hm:aO g=true) (x:Int) (hx:0≤x∧x<g.n):Spec Tryz.prog 105 (Args [.d (vw g), .d (.sl 1 (E5 f g)),eN x]) [] (.ref 10000) [(10000, .own 3 1 ((aD f g.es g.es.length x).map rI))]:=by
 rw [ag]
 have hn:=aT hm
 have hl':(aD f g.es g.es.length x).length≤1000000:=by have:=dH (f:=f) (es:=g.es) (k:=g.es.length) (x:=x);omega
 have hv:=lG (f:=f) (g:=g) (x:=x.toNat) (by omega)
 have he:eD f g.es g.es.length x.toNat=aD f g.es g.es.length x:=by rw [jR,show ((x.toNat:Nat):Int)=x from by omega]
 rw [he] at hv
 have au:decide (x<0)=false:=decide_eq_false (by omega)
 have ak:decide (g.n≤x)=false:=decide_eq_false (by omega)
 have E8:=wY (aD f g.es g.es.length x) hl'
 (refine Spec.dK (C:=T.cfg [] []) (rs:= [.t 6]) [(10000,22)] (T.aj _ _) Tryz.func105 rfl rfl Tryz.ntmps105 Tryz.results105 (by simp [AObj.isNest]) (by simp [AObj.isNest]) (by first|(simp [look];done)|(simp [asN];done)|(intro l hl;simp only [asN];repeat (rw [if_neg (fun e=>by subst e;simp [look] at hl)]))) (by first|(simp [look];done)|(simp [asN];done)|(intro l hl;simp only [asN];repeat (rw [if_neg (fun e=>by subst e;simp [look] at hl)]))) (by kernel_rfl) ?_;intro X hX hP hC aL aM vals hA;refine ⟨_,by simp,hA, ?_⟩;have af:X.P.follows .mixedOrders=true:=(by rw [hP];exact T.mixed);clear aL aM)
 repeat' (first|((first|((with_reducible (first|apply oA|apply oB));exact rfl;intro K hK)|(refine hK _ ?_;clear hK K)|((with_reducible (first|apply oG|apply oH));iterate 3 exact rfl)|((with_reducible apply oI);(iterate 2 exact rfl);intro K hK)|(with_reducible (first|apply wI|apply wJ|apply wK)));try simp only [go_sem,simprocAttr,hv,au,ak])|(with_reducible (first|apply oC|apply oJ|exact oK|apply wA|apply wB|apply wC hX hC|apply wD hX hC|apply wE hX hC af|apply wF hX hC af|apply wG|apply wH|apply And.intro))|((with_reducible refine oD ?_ ?_);kernel_rfl)|((with_reducible (first|apply oE|apply oF));(iterate 3 exact rfl);all_goals (intro h;first|(exact absurd h (by decide))|((try simp only [go_sem,simprocAttr,hv,au,ak] at h);(try with_reducible intro K hK);simp only [go_sem,simprocAttr,hv,au,ak])))|((first|((with_reducible apply wL);exact rfl)|((with_reducible apply wM);exact rfl));all_goals (try ((with_reducible intro h);first|(exact absurd h (by decide))|(try simp only [go_sem,simprocAttr,hv,au,ak] at h))))|omega|((first|(refine gY hX hC hP 22 (E8) rfl rfl rfl ?_ ?_ (by first|exact ⟨_,_,_,rfl,uN⟩|exact ⟨_,_,_,rfl,uO⟩|exact ⟨_,_,_,rfl,uQ⟩) rfl (by decide) ?_;(iterate 2 (focus (simp only [go_sem,simprocAttr,hv,au,ak];done)));simp only [go_sem,simprocAttr,hv,au,ak]));try simp only [go_sem,simprocAttr,hv,au,ak])|(intro h))
theorem zT (g:Gr) (hm:aO g=true) (x:Int) (hx:0≤x∧x<g.n):Spec Tryz.prog 78 (Args [.d (vw g),eN x]) [] (.ref 10000) [(10000, .own 3 1 ((b9 g x).map rI))]:=by
 have hT:=yG (·.1) g hm x hx
 (refine Spec.dK (C:=T.cfg [] []) (rs:= [.t 4]) [(10000,11)] (T.aj _ _) Tryz.func78 rfl rfl Tryz.ntmps78 Tryz.results78 (by simp [AObj.isNest]) (by simp [AObj.isNest]) (by first|(simp [look];done)|(simp [asN];done)|(intro l hl;simp only [asN];repeat (rw [if_neg (fun e=>by subst e;simp [look] at hl)]))) (by first|(simp [look];done)|(simp [asN];done)|(intro l hl;simp only [asN];repeat (rw [if_neg (fun e=>by subst e;simp [look] at hl)]))) (by kernel_rfl) ?_;intro X hX hP hC aL aM vals hA;refine ⟨_,by simp,hA, ?_⟩;have af:X.P.follows .mixedOrders=true:=(by rw [hP];exact T.mixed);clear aL aM)
 repeat' (first|((first|((with_reducible (first|apply oA|apply oB));exact rfl;intro K hK)|(refine hK _ ?_;clear hK K)|((with_reducible (first|apply oG|apply oH));iterate 3 exact rfl)|((with_reducible apply oI);(iterate 2 exact rfl);intro K hK)|(with_reducible (first|apply wI|apply wJ|apply wK)));try simp only [go_sem,simprocAttr,ag])|(with_reducible (first|apply oC|apply oJ|exact oK|apply wA|apply wB|apply wC hX hC|apply wD hX hC|apply wE hX hC af|apply wF hX hC af|apply wG|apply wH|apply And.intro))|((with_reducible refine oD ?_ ?_);kernel_rfl)|((with_reducible (first|apply oE|apply oF));(iterate 3 exact rfl);all_goals (intro h;first|(exact absurd h (by decide))|((try simp only [go_sem,simprocAttr,ag] at h);(try with_reducible intro K hK);simp only [go_sem,simprocAttr,ag])))|((first|((with_reducible apply wL);exact rfl)|((with_reducible apply wM);exact rfl));all_goals (try ((with_reducible intro h);first|(exact absurd h (by decide))|(try simp only [go_sem,simprocAttr,ag] at h))))|omega|((first|(refine gY hX hC hP 11 (hT) rfl rfl rfl ?_ ?_ (by first|exact ⟨_,_,_,rfl,uN⟩|exact ⟨_,_,_,rfl,uO⟩|exact ⟨_,_,_,rfl,uQ⟩) rfl (by decide) ?_;(iterate 2 (focus (simp only [go_sem,simprocAttr,ag];done)));simp only [go_sem,simprocAttr,ag]));try simp only [go_sem,simprocAttr,ag])|(intro h))
 rfl
section
open Go.RowKit Go.Shelf Go.Sort Go.Lib
def Oj (b:Br) (i k:Int):Int:=compareInt (xB b i) (xB b k)
def Li (b:Br) (u v:Int):Int:=if compareInt (yB b u) (yB b v)=0 then compareInt (fB b u) (fB b v) else compareInt (yB b u) (yB b v)
theorem pe {x y:Int} :compareInt x y<0↔x<y:=by
 unfold compareInt
 split
 ·simp [*]
 ·split<;>simp<;>omega
theorem AZ {x y:Int} :compareInt x y=0↔x=y:=by
 unfold compareInt
 split
 ·simp;omega
 ·split<;>simp<;>omega
theorem zU {b:Br} {u v:Int} :Li b u v<0↔yU b u v:=by
 unfold Li yU
 by_cases h:yB b u=yB b v
 ·rw [if_pos (AZ.2 h),pe];omega
 ·rw [if_neg (fun e=>h (AZ.1 e)),pe];omega
def j8 (b:Br):List AV:= [.d (sI b.y), .d (sI b.fr), .d (sI b.to), .d (sI b.x)]
theorem EL {b:Br} {w:World} {E:Env} {vs:List Value} (h:AVrs w E (j8 b) vs):∃v0 v1 v2 v3,vs= [v0,v1,v2,v3]∧Rd w E.z v0 (sI b.y)∧Rd w E.z v1 (sI b.fr)∧Rd w E.z v3 (sI b.x):=by
 obtain ⟨v0,r0,rfl,h0,h⟩:=h
 obtain ⟨v1,r1,rfl,h1,h⟩:=h
 obtain ⟨v2,r2,rfl,h2,h⟩:=h
 obtain ⟨v3,r3,rfl,h3,h⟩:=h
 simp only [AVrs] at h
 subst h
 exact ⟨v0,v1,v2,v3,rfl,h0,h1,h3⟩
theorem iB {w W:World} {b o:Nat} {blk:Nat} (hW:∀b,b<w.heap.size→b≠blk→W.heap[b]? =w.heap[b]?) (hb:b<w.heap.size) (hne:b≠blk):W.cell? ⟨b,o,none⟩=w.cell? ⟨b,o,none⟩:=by
 simp only [World.cell?,hW b hb hne]
theorem zV (b:Br) {l l':List Int} (S:EI (Oj b) l l') (hl:∀i∈l,0≤i∧i<b.x.length) (hlen:l.length≤1000000):Spec Tryz.prog 79 (Args [.ref 10000, .fn 80 [] [.ptr 10001 0]]) [(10000, .own 3 1 (l.map rI)),(10001, .box (j8 b))] (.tup []) [(10000, .own 3 1 (l'.map rI)),(10001, .box (j8 b))]:=by
 refine tJ S hlen (enters_of Tryz.func80 (by kernel_rfl) rfl) rfl ?_
 intro w E B blk vs e hB hA hne hz W hsz hW x hx y hy
 obtain ⟨v0,v1,v2,v3,rfl,_,_,h3⟩:=EL hA
 have hx2:=hl x hx
 have hy2:=hl y hy
 obtain ⟨bx,off,cap,rfl,g1,g2,g3⟩:=EK h3 (fun e=>by rw [e] at hx2;simp at hx2;omega)
 have I2:B<w.heap.size:=(Array.getElem?_eq_some_iff.1 hB).1
 have Ir:bx≠blk:=fun e=>by rw [e] at g2;omega
 have hc:=Io W B bx off b.x.length cap (fun j=>b.x.getD j 0) (by rw [iB hW I2 hne];simp [World.cell?,hB]) (fun j hj=>by rw [iB hW g1 Ir];exact g3 j hj) x.toNat y.toNat (by omega) (by omega)
 rw [show ((x.toNat:Nat):Int)=x by omega,show ((y.toNat:Nat):Int)=y by omega] at hc
 exact hc.mono fun _ _ ⟨he,q,hq⟩=>⟨he,q, #[],by rw [hq,grow_empty]⟩
theorem zW (b:Br) {l l':List Int} (S:EI (Li b) l l') (hl:∀i∈l,0≤i∧i<b.y.length) (hf:b.fr.length=b.y.length) (hlen:l.length≤1000000):Spec Tryz.prog 79 (Args [.ref 10000, .fn 82 [] [.ptr 10001 0]]) [(10000, .own 3 1 (l.map rI)),(10001, .box (j8 b))] (.tup []) [(10000, .own 3 1 (l'.map rI)),(10001, .box (j8 b))]:=by
 refine tJ S hlen (enters_of Tryz.func82 (by kernel_rfl) rfl) rfl ?_
 intro w E B blk vs e hB hA hne hz W hsz hW x hx y hy
 obtain ⟨v0,v1,v2,v3,rfl,h0,h1,_⟩:=EL hA
 have hx2:=hl x hx
 have hy2:=hl y hy
 obtain ⟨EW,oy,cy,rfl,g1,g2,g3⟩:=EK h0 (fun e=>by rw [e] at hx2;simp at hx2;omega)
 obtain ⟨bf,Iq,cf,rfl,k1,k2,k3⟩:=EK h1 (fun e=>by rw [e] at hf;simp at hf;omega)
 have I2:B<w.heap.size:=(Array.getElem?_eq_some_iff.1 hB).1
 have Ir:EW≠blk:=fun e=>by rw [e] at g2;omega
 have KI:bf≠blk:=fun e=>by rw [e] at k2;omega
 have hc:=Ip W B EW oy b.y.length cy bf Iq b.fr.length cf (fun j=>b.y.getD j 0) (fun j=>b.fr.getD j 0) (by rw [iB hW I2 hne];simp [World.cell?,hB]) (by rw [iB hW I2 hne];simp [World.cell?,hB]) (fun j hj=>by rw [iB hW g1 Ir];exact g3 j hj) (fun j hj=>by rw [iB hW k1 KI];exact k3 j hj) x.toNat y.toNat (by omega) (by omega) (by omega) (by omega)
 rw [show ((x.toNat:Nat):Int)=x by omega,show ((y.toNat:Nat):Int)=y by omega] at hc
 exact hc
end
theorem EM {g:Gr} {b:Br} {p:Pl} (hp:mY g b p) {x:Nat} (hx:x<g.n.toNat):EI (Oj b) (b9 g x) (p.outs.getD x []):=
 {perm:=(hp.outs x hx).symm,nd:=bU,ord:=(hp.ED x hx).imp fun h=>⟨pe.2 h,fun h2=>by have:=pe.1 h2;omega⟩,Lh:=fun i _ h=>by have:=pe.1 h;omega}
theorem Gl {g:Gr} {b:Br} {p:Pl} (hp:mY g b p):EI (Li b) (dZ g.n.toNat) p.ord:=
 {perm:=hp.perm.symm,nd:=e8,ord:=hp.sort.imp fun h=>⟨zU.2 h,fun h2=>by have:=zU.1 h2;unfold yU at*;omega⟩,Lh:=fun i _ h=>by have:=zU.1 h;unfold yU at this;omega}
end Go.Ab
end
section
namespace Go.Ab
open Go.Proofs
attribute [local congr] ACall.congr
set_option maxRecDepth 20000
set_option maxHeartbeats 16000000
theorem Cj {k:Nat} :(dZ (k+1)).map rI=(dZ k).map rI++ [rI (k:Int)]:=by simp [dZ,List.range_succ]
theorem yH (g:Gr) (b:Br) (hl:g.es.length≤1000) (au:b.y.length≤1000) (ak:b.x.length≤1000) (kR:bW g b=false):Spec Tryz.prog 42 (Args [eG g,aB b]) [] (.tup [ePl ⟨[], []⟩,eN 3]) []:=by
 have hR:=iq g b hl au ak
 rw [kR] at hR
 (refine Spec.intro (C:=T.cfg [] []) (rs:= [.c 4 28, .t 5]) (T.aj _ _) Tryz.func42 rfl rfl Tryz.ntmps42 Tryz.results42 (by simp [AObj.isNest]) (by simp [AObj.isNest]) (by kernel_rfl) ?_;intro X hX hP hC aL aM vals hA;refine ⟨_,by simp,hA, ?_⟩;have af:X.P.follows .mixedOrders=true:=(by rw [hP];exact T.mixed);clear aL aM)
 repeat' (first|((first|((with_reducible (first|apply oA|apply oB));exact rfl;intro K hK)|(refine hK _ ?_;clear hK K)|((with_reducible (first|apply oG|apply oH));iterate 3 exact rfl)|((with_reducible apply oI);(iterate 2 exact rfl);intro K hK)|(with_reducible (first|apply wI|apply wJ|apply wK)));try simp only [go_sem,simprocAttr,aB,vI,List.map_nil])|(with_reducible (first|apply oC|apply oJ|exact oK|apply wA|apply wB|apply wC hX hC|apply wD hX hC|apply wE hX hC af|apply wF hX hC af|apply wG|apply wH|apply And.intro))|((with_reducible refine oD ?_ ?_);kernel_rfl)|((with_reducible (first|apply oE|apply oF));(iterate 3 exact rfl);all_goals (intro h;first|(exact absurd h (by decide))|((try simp only [go_sem,simprocAttr,aB,vI,List.map_nil] at h);(try with_reducible intro K hK);simp only [go_sem,simprocAttr,aB,vI,List.map_nil])))|((first|((with_reducible apply wL);exact rfl)|((with_reducible apply wM);exact rfl));all_goals (try ((with_reducible intro h);first|(exact absurd h (by decide))|(try simp only [go_sem,simprocAttr,aB,vI,List.map_nil] at h))))|omega|((first|refine aa hX hC hP (hR) rfl rfl rfl (by simp only [go_sem,simprocAttr,aB,vI,List.map_nil]) rfl ?_);try simp only [go_sem,simprocAttr,aB,vI,List.map_nil])|(intro h))
theorem uj (g:Gr) (b:Br) (p:Pl) (hl:g.es.length≤1000) (au:b.y.length≤1000) (ak:b.x.length≤1000) (h:qf g b) (hp:mY g b p):Spec Tryz.prog 42 (Args [eG g,aB b]) [] (.tup [ePl p,eN 0]) []:=by
 have hR:=iq g b hl au ak
 rw [vl.2 h] at hR
 have hm:=aC h.yQ
 have hn:=aT hm
 obtain ⟨N,hN⟩:∃N:Nat,g.n=N:=⟨g.n.toNat,by omega⟩
 have Cx:g.n.toNat=N:=by omega
 have ly:b.y.length=N:=by have:=h.ly;omega
 have lf:b.fr.length=N:=by have:=h.lf;omega
 have lx:=h.lx
 have lo:p.outs.length=N:=by rw [hp.len,Cx]
 have Ol:=eW g hm
 have K9:=Gl hp
 rw [Cx] at K9
 have Qg:=zW b K9 (fun i hi=>by have:=cB.1 hi;omega) (by omega) (by rw [dm];omega)
 have hO:=fun (x:Nat) (hx:x<N)=>zT g hm x ⟨by omega,by omega⟩
 have KJ:=fun (x:Nat) (hx:x<N)=>zV b (EM hp (x:=x) (by omega)) (fun i hi=>by have:=(eu hi).1;omega) (by have:=dH (f:=(·.1)) (es:=g.es) (k:=g.es.length) (x:=(x:Int));show (aD (·.1) g.es g.es.length (x:Int)).length≤_;omega)
 have tQ:eG g= .agg [eN N, .d (sE g.es)]:=by rw [eG,hN]
 rw [tQ] at hR Ol ⊢
 (refine Spec.intro (C:=T.cfg [27] []) (rs:= [.c 4 28, .t 5]) (T.aj _ _) Tryz.func42 rfl rfl Tryz.ntmps42 Tryz.results42 (by simp [AObj.isNest]) (by simp [AObj.isNest]) (by kernel_rfl) ?_;intro X hX hP hC aL aM vals hA;refine ⟨_,by simp,hA, ?_⟩;have af:X.P.follows .mixedOrders=true:=(by rw [hP];exact T.mixed);clear aL aM)
 repeat' (first|((first|((with_reducible (first|apply oA|apply oB));exact rfl;intro K hK)|(refine hK _ ?_;clear hK K)|((with_reducible (first|apply oG|apply oH));iterate 3 exact rfl)|((with_reducible apply oI);(iterate 2 exact rfl);intro K hK)|(with_reducible (first|apply wI|apply wJ|apply wK)));try simp only [go_sem,simprocAttr,aB,j8])|(with_reducible (first|apply oC|apply oJ|exact oK|apply wA|apply wB|apply wC hX hC|apply wD hX hC|apply wE hX hC af|apply wF hX hC af|apply wG|apply wH|apply And.intro))|((with_reducible refine oD ?_ ?_);kernel_rfl)|((with_reducible (first|apply oE|apply oF));(iterate 3 exact rfl);all_goals (intro h;first|(exact absurd h (by decide))|((try simp only [go_sem,simprocAttr,aB,j8] at h);(try with_reducible intro K hK);simp only [go_sem,simprocAttr,aB,j8])))|((first|((with_reducible apply wL);exact rfl)|((with_reducible apply wM);exact rfl));all_goals (try ((with_reducible intro h);first|(exact absurd h (by decide))|(try simp only [go_sem,simprocAttr,aB,j8] at h))))|omega|((first|refine aa hX hC hP (hR) rfl rfl rfl (by simp only [go_sem,simprocAttr,aB,j8]) rfl ?_|refine aa hX hC hP (Ol) rfl rfl rfl (by simp only [go_sem,simprocAttr,aB,j8]) rfl ?_);try simp only [go_sem,simprocAttr,aB,j8])|(intro h))
 (refine gF hX 7 0 200 (.own 3 1 []) rfl rfl rfl (by simp only [go_sem,simprocAttr,aB,j8]) (by decide) (by simp [go_sem,simprocAttr,aB,j8]) ⟨3,1,by decide, .inl rfl⟩ ?_;simp only [LA.app,ASt.put,ASt.kill,subT,rmk,putM,rml,kl,AV.sub,AV.subs,AObj.sub,List.set_cons_zero,List.set_cons_succ,go_sem,simprocAttr,aB,j8])
 (refine gF hX 7 1 201 (.tip 25 1 []) rfl rfl rfl (by simp only [go_sem,simprocAttr,aB,j8]) (by decide) (by simp [go_sem,simprocAttr,aB,j8]) ⟨25,1,by decide, .inr rfl⟩ ?_;simp only [LA.app,ASt.put,ASt.kill,subT,rmk,putM,rml,kl,AV.sub,AV.subs,AObj.sub,List.set_cons_zero,List.set_cons_succ,go_sem,simprocAttr,aB,j8])
 refine ah (fun k:Nat=>k≤N) (fun k=>⟨[(2, .ptr 2 0),(3, .ptr 3 0),(4, .ptr 4 0),(5,eN 0),(6, .d (vw g)),(7, .ptr 7 0),(19,eN N),(20,eN k)], [(2, .box [eN N, .d (sE g.es)]),(3, .box [.d (sI b.y), .d (sI b.fr), .d (sI b.to), .d (sI b.x)]),(4, .box [.nil 3, .nil 25]),(7, .box [.ref 200, .ref 201]),(200, .own 3 1 ((dZ k).map rI)),(201, .tip 25 1 (vI (p.outs.take k)))]⟩) (fun k=>N - k) 0 (by omega) ?_ ?_
 ·refine Le.of ?_ ?_<;>simp [go_sem,simprocAttr,dZ,vI]
 rintro k hk
 rcases Nat.lt_or_ge k N with bF|yM
 ·have hb:decide ((k:Int)<(N:Int))=true:=decide_eq_true (by omega)
  have hO:=hO k bF
  have KJ:=KJ k bF
  have eV:vI (p.outs.take (k+1))=vI (p.outs.take k)++ [[sI (p.outs.getD k [])]]:=by
   simp only [vI];rw [nK (d:= []) (show k<p.outs.length by omega)]
  have hna:=Cj (k:=k)
  have jy:(p.outs.take k).length=k:=by rw [List.length_take];omega
  have jA:(dZ k).length=k:=dm
  generalize p.outs.getD k []=L at KJ eV
  generalize b9 g (k:Int)=l at hO KJ
  generalize I9:p.outs.take (k+1)=T2 at eV
  generalize p.outs.take k=T1 at eV jy
  generalize Qh:(dZ (k+1)).map rI=A2 at hna
  generalize dZ k=A1 at hna jA
  repeat' (first|((first|((with_reducible (first|apply oA|apply oB));exact rfl;intro K hK)|(refine hK _ ?_;clear hK K)|((with_reducible (first|apply oG|apply oH));iterate 3 exact rfl)|((with_reducible apply oI);(iterate 2 exact rfl);intro K hK)|(with_reducible (first|apply wI|apply wJ|apply wK)));try simp only [go_sem,simprocAttr,hb,jy,jA,j8])|(show dw _ (.seq (.region 9 _ _) _) _ _;(refine c7 hX 7 0 27 200 rfl rfl rfl (by first|exact .inl rfl|exact .inr rfl) (by decide) (by decide) ?_;simp only [LA.app,ASt.put,ASt.kill,subT,rmk,putM,rml,kl,AV.sub,AV.subs,AObj.sub,List.set_cons_zero,List.set_cons_succ,go_sem,simprocAttr,hb,jy,jA,j8]))|(show dw _ (.region 11 _ _) _ _;(refine cM hX 31 rfl (.inl rfl) ?_;simp only [go_sem,simprocAttr,hb,jy,jA,j8]))|(show dw _ (.region 12 _ _) _ _;(refine c7 hX 7 1 39 201 rfl rfl rfl (by first|exact .inl rfl|exact .inr rfl) (by decide) (by decide) ?_;simp only [LA.app,ASt.put,ASt.kill,subT,rmk,putM,rml,kl,AV.sub,AV.subs,AObj.sub,List.set_cons_zero,List.set_cons_succ,go_sem,simprocAttr,hb,jy,jA,j8]))|(with_reducible (first|apply oC|apply oJ|exact oK|apply wA|apply wB|apply wC hX hC|apply wD hX hC|apply wE hX hC af|apply wF hX hC af|apply wG|apply wH|apply And.intro))|((with_reducible refine oD ?_ ?_);kernel_rfl)|((with_reducible (first|apply oE|apply oF));(iterate 3 exact rfl);all_goals (intro h;first|(exact absurd h (by decide))|((try simp only [go_sem,simprocAttr,hb,jy,jA,j8] at h);(try with_reducible intro K hK);simp only [go_sem,simprocAttr,hb,jy,jA,j8])))|((first|((with_reducible apply wL);exact rfl)|((with_reducible apply wM);exact rfl));all_goals (try ((with_reducible intro h);first|(exact absurd h (by decide))|(try simp only [go_sem,simprocAttr,hb,jy,jA,j8] at h))))|omega|((first|(refine gY hX hC hP 31 (hO) rfl rfl rfl ?_ ?_ (by first|exact ⟨_,_,_,rfl,uN⟩|exact ⟨_,_,_,rfl,uO⟩|exact ⟨_,_,_,rfl,uQ⟩) rfl (by decide) ?_;(iterate 2 (focus (simp only [go_sem,simprocAttr,hb,jy,jA,j8];done)));simp only [go_sem,simprocAttr,hb,jy,jA,j8])|(refine az hX hC hP [(10000,31),(10001,3)] (KJ) rfl rfl rfl ?_ ?_ ?_ ?_ ?_ ?_ ?_ ?_ ?_ ?_ ?_ ?_ ?_ ?_;(focus (simp only [go_sem,simprocAttr,hb,jy,jA,j8];done));(iterate 12 (focus (simp [go_sem,simprocAttr,hb,jy,jA,j8];done)));simp only [go_sem,simprocAttr,hb,jy,jA,j8,List.map_cons,List.map_nil]));try simp only [go_sem,simprocAttr,hb,jy,jA,j8])|(intro h))
  refine ⟨k+1,by omega, ?_,by omega⟩
  rw [Qh,I9,hna,eV]
  refine Le.of ?_ ?_<;>simp [go_sem,simprocAttr,hb,jy,jA,j8,rI]
 have hb:decide ((k:Int)<(N:Int))=false:=decide_eq_false (by omega)
 obtain rfl:k=N:=by omega
 rw [show p.outs.take k=p.outs by rw [← lo];exact List.take_length]
 generalize dZ k=A1 at*
 repeat' (first|((first|((with_reducible (first|apply oA|apply oB));exact rfl;intro K hK)|(refine hK _ ?_;clear hK K)|((with_reducible (first|apply oG|apply oH));iterate 3 exact rfl)|((with_reducible apply oI);(iterate 2 exact rfl);intro K hK)|(with_reducible (first|apply wI|apply wJ|apply wK)));try simp only [go_sem,simprocAttr,hb,j8])|(with_reducible (first|apply oC|apply oJ|exact oK|apply wA|apply wB|apply wC hX hC|apply wD hX hC|apply wE hX hC af|apply wF hX hC af|apply wG|apply wH|apply And.intro))|((with_reducible refine oD ?_ ?_);kernel_rfl)|((with_reducible (first|apply oE|apply oF));(iterate 3 exact rfl);all_goals (intro h;first|(exact absurd h (by decide))|((try simp only [go_sem,simprocAttr,hb,j8] at h);(try with_reducible intro K hK);simp only [go_sem,simprocAttr,hb,j8])))|((first|((with_reducible apply wL);exact rfl)|((with_reducible apply wM);exact rfl));all_goals (try ((with_reducible intro h);first|(exact absurd h (by decide))|(try simp only [go_sem,simprocAttr,hb,j8] at h))))|omega|((first|(refine az hX hC hP [(10000,200),(10001,3)] (Qg) rfl rfl rfl ?_ ?_ ?_ ?_ ?_ ?_ ?_ ?_ ?_ ?_ ?_ ?_ ?_ ?_;(focus (simp only [go_sem,simprocAttr,hb,j8];done));(iterate 12 (focus (simp [go_sem,simprocAttr,hb,j8];done)));simp only [go_sem,simprocAttr,hb,j8,List.map_cons,List.map_nil]));try simp only [go_sem,simprocAttr,hb,j8])|(intro h))
end Go.Ab
end
section
namespace Go.Ab
open Go.Proofs
attribute [local congr] ACall.congr
set_option maxRecDepth 20000
set_option maxHeartbeats 16000000
theorem zX (g:Gr) (x:Int) (hl:g.es.length≤1000):Spec Tryz.prog 71 (Args [eG g,eN x,eB true]) [] (.ref 10000) [(10000, .own 3 1 ((b9 g x).map rI))]:=by
 (refine Spec.dK (C:=T.cfg [9,45] []) (rs:= [.t 6]) [(10000,45)] (T.aj _ _) Tryz.func71 rfl rfl Tryz.ntmps71 Tryz.results71 (by simp [AObj.isNest]) (by simp [AObj.isNest]) (by first|(simp [look];done)|(simp [asN];done)|(intro l hl;simp only [asN];repeat (rw [if_neg (fun e=>by subst e;simp [look] at hl)]))) (by first|(simp [look];done)|(simp [asN];done)|(intro l hl;simp only [asN];repeat (rw [if_neg (fun e=>by subst e;simp [look] at hl)]))) (by kernel_rfl) ?_;intro X hX hP hC aL aM vals hA;refine ⟨_,by simp,hA, ?_⟩;have af:X.P.follows .mixedOrders=true:=(by rw [hP];exact T.mixed);clear aL aM)
 repeat' (first|((first|((with_reducible (first|apply oA|apply oB));exact rfl;intro K hK)|(refine hK _ ?_;clear hK K)|((with_reducible (first|apply oG|apply oH));iterate 3 exact rfl)|((with_reducible apply oI);(iterate 2 exact rfl);intro K hK)|(with_reducible (first|apply wI|apply wJ|apply wK)));try simp only [go_sem,simprocAttr])|(with_reducible (first|apply oC|apply oJ|exact oK|apply wA|apply wB|apply wC hX hC|apply wD hX hC|apply wE hX hC af|apply wF hX hC af|apply wG|apply wH|apply And.intro))|((with_reducible refine oD ?_ ?_);kernel_rfl)|((with_reducible (first|apply oE|apply oF));(iterate 3 exact rfl);all_goals (intro h;first|(exact absurd h (by decide))|((try simp only [go_sem,simprocAttr] at h);(try with_reducible intro K hK);simp only [go_sem,simprocAttr])))|((first|((with_reducible apply wL);exact rfl)|((with_reducible apply wM);exact rfl));all_goals (try ((with_reducible intro h);first|(exact absurd h (by decide))|(try simp only [go_sem,simprocAttr] at h))))|omega|(intro h))
 (refine pI hX 7 9 45 (by simp only [go_sem,simprocAttr]) rfl (by first|exact .inl rfl|exact .inr rfl) (by decide) ?_;simp only [go_sem,simprocAttr])
 refine ah (fun k:Nat=>k≤g.es.length) (fun k=>⟨[(1,eN x),(2,eB true),(3, .ptr 3 0),(8,eN k),(7, .ref 45)], [(3, .box [eN g.n, .d (sE g.es)]),(45, .own 3 1 ((aD (·.1) g.es k x).map rI))]⟩) (fun k=>g.es.length - k) 0 (by simp) ?_ ?_
 ·refine Le.of ?_ ?_<;>simp [go_sem,simprocAttr,aD]
 rintro k hk
 rcases Nat.lt_or_ge k g.es.length with hlt|hge
 ·have hb:decide ((k:Int)<(g.es.length:Int))=true:=decide_eq_true (by omega)
  have kV:=dH (f:=(·.1)) (es:=g.es) (k:=k) (x:=x)
  have eV:aD (·.1) g.es (k+1) x=aD (·.1) g.es k x++if (g.es.getD k (0,0)).1=x then [(k:Int)] else []:=nw
  repeat' (first|((first|((with_reducible (first|apply oA|apply oB));exact rfl;intro K hK)|(refine hK _ ?_;clear hK K)|((with_reducible (first|apply oG|apply oH));iterate 3 exact rfl)|((with_reducible apply oI);(iterate 2 exact rfl);intro K hK)|(with_reducible (first|apply wI|apply wJ|apply wK)));try simp only [go_sem,simprocAttr,hb])|(with_reducible (first|apply oC|apply oJ|exact oK|apply wA|apply wB|apply wC hX hC|apply wD hX hC|apply wE hX hC af|apply wF hX hC af|apply wG|apply wH|apply And.intro))|((with_reducible refine oD ?_ ?_);kernel_rfl)|((with_reducible (first|apply oE|apply oF));(iterate 3 exact rfl);all_goals (intro h;first|(exact absurd h (by decide))|((try simp only [go_sem,simprocAttr,hb] at h);(try with_reducible intro K hK);simp only [go_sem,simprocAttr,hb])))|((first|((with_reducible apply wL);exact rfl)|((with_reducible apply wM);exact rfl));all_goals (try ((with_reducible intro h);first|(exact absurd h (by decide))|(try simp only [go_sem,simprocAttr,hb] at h))))|omega|(intro h))
  all_goals (first|rw [if_pos (by assumption)] at eV|rw [if_neg (by assumption),List.append_nil] at eV)
  all_goals (refine ⟨k+1,by omega, ?_,by omega⟩;refine Le.of ?_ ?_<;>simp [go_sem,simprocAttr,hb,eV,rI])
 ·have hb:decide ((k:Int)<(g.es.length:Int))=false:=decide_eq_false (by omega)
  obtain rfl:k=g.es.length:=by omega
  repeat' (first|((first|((with_reducible (first|apply oA|apply oB));exact rfl;intro K hK)|(refine hK _ ?_;clear hK K)|((with_reducible (first|apply oG|apply oH));iterate 3 exact rfl)|((with_reducible apply oI);(iterate 2 exact rfl);intro K hK)|(with_reducible (first|apply wI|apply wJ|apply wK)));try simp only [go_sem,simprocAttr,hb])|(with_reducible (first|apply oC|apply oJ|exact oK|apply wA|apply wB|apply wC hX hC|apply wD hX hC|apply wE hX hC af|apply wF hX hC af|apply wG|apply wH|apply And.intro))|((with_reducible refine oD ?_ ?_);kernel_rfl)|((with_reducible (first|apply oE|apply oF));(iterate 3 exact rfl);all_goals (intro h;first|(exact absurd h (by decide))|((try simp only [go_sem,simprocAttr,hb] at h);(try with_reducible intro K hK);simp only [go_sem,simprocAttr,hb])))|((first|((with_reducible apply wL);exact rfl)|((with_reducible apply wM);exact rfl));all_goals (try ((with_reducible intro h);first|(exact absurd h (by decide))|(try simp only [go_sem,simprocAttr,hb] at h))))|omega|(intro h))
  rfl
def iT (n:Nat) (us:List Int):List Bool:=(List.range n).map fun x:Nat=>decide ((x:Int)∈us)
theorem j5 {n:Nat} {us:List Int} :(iT n us).length=n:=by simp [iT]
theorem gy {n:Nat} :List.replicate n [D.sc (.bool false)]=(iT n []).map rB:=by
 refine List.ext_getElem? fun i=> ?_
 by_cases hi:i<n
 ·simp [iT,hi,rB,List.getElem?_range hi]
 ·simp [iT,hi]
theorem EN {n x:Nat} {us:List Int} (h:x<n):(iT n us).getD x false=decide ((x:Int)∈us):=by
 simp [iT,List.getD_eq_getElem?_getD,List.getElem?_range h]
theorem Ck {n v:Nat} {us:List Int} :(iT n us).set v true=iT n (us++ [(v:Int)]):=by
 refine List.ext_getElem? fun i=> ?_
 by_cases hi:i<n
 ·rw [List.getElem?_set,j5]
  simp only [iT,List.getElem?_map,List.getElem?_range hi,Option.map_some,List.mem_append,List.mem_singleton]
  by_cases hv:v=i
  ·subst hv;simp [hi]
  ·rw [if_neg hv]
   congr 1
   have:¬(i:Int)=(v:Int):=by omega
   simp [this]
 ·rw [List.getElem?_eq_none (by rw [List.length_set,j5];omega),List.getElem?_eq_none (by rw [j5];omega)]
def gL (n:Nat) (ls:List (List Int)) (k:Nat):List (List Int):=(List.range n).map fun x=>if x<k then ls.getD x [] else []
theorem j6 {n k:Nat} {ls:List (List Int)} :(gL n ls k).length=n:=by simp [gL]
theorem e9 {n:Nat} {ls:List (List Int)} :List.replicate n [D.sl 1 []]=vI (gL n ls 0):=by
 refine List.ext_getElem? fun i=> ?_
 by_cases hi:i<n
 ·simp [vI,gL,hi,List.getElem?_range hi,sI]
 ·simp [vI,gL,hi]
theorem zY {n k:Nat} {ls:List (List Int)} (hk:k<n):(vI (gL n ls k)).set k [sI (ls.getD k [])]=vI (gL n ls (k+1)):=by
 refine List.ext_getElem? fun i=> ?_
 rw [List.getElem?_set,vI_length,j6]
 by_cases hi:i<n
 ·simp only [vI,gL,List.getElem?_map,List.getElem?_range hi,Option.map_some]
  by_cases hv:k=i
  ·subst hv;simp [hk]
  ·rw [if_neg hv]
   by_cases h2:i<k
   ·rw [if_pos h2,if_pos (by omega)]
   ·rw [if_neg h2,if_neg (by omega)]
 ·rw [if_neg (by omega),List.getElem?_eq_none (by rw [vI_length,j6];omega),List.getElem?_eq_none (by rw [vI_length,j6];omega)]
theorem Cl {ls:List (List Int)} :gL ls.length ls ls.length=ls:=by
 refine List.ext_getElem? fun i=> ?_
 by_cases hi:i<ls.length
 ·simp [gL,List.getElem?_range hi,hi]
 ·rw [List.getElem?_eq_none (by rw [j6];omega),List.getElem?_eq_none (by omega)]
def kJ (b:Br) (u v:Int):Bool:=decide (yB b u<yB b v)||(decide (yB b u=yB b v)&&decide (fB b u<fB b v))
theorem Is {b:Br} {u v:Int} (h:yU b u v):Nf (kJ b) u v:=by
 unfold yU at h
 refine ⟨?_, ?_⟩
 ·simp only [kJ,Bool.or_eq_true,Bool.and_eq_true,decide_eq_true_eq];omega
 ·simp only [kJ,Bool.or_eq_false_iff,Bool.and_eq_false_iff,decide_eq_false_iff_not];omega
def EO (b:Br) (a c:Int):Bool:=decide (xB b c<xB b a)
theorem EP {g:Gr} {b:Br} {p:Pl} (hp:mY g b p) {x:Nat} (hx:x<g.n.toNat):AY (EO b) (b9 g x).length (b9 g x)=p.outs.getD x []:=by
 have Nj:=hp.outs x hx
 have cI:(b9 g (x:Int)).Nodup:=bU
 refine Cg (R:=fun i k=>xB b i<xB b k) (l8.trans Nj.symm) (fun a c h1 h2=>by omega) ?_ (hp.ED x hx)
 refine kI (S:=fun i=>i∈b9 g (x:Int)) (fun a c d _ _ _ h1 h2=>by omega) (fun a c ha hc hne=> ?_) (Nat.le_refl _) cI fun i hi=>hi
 have HB:xB b a≠xB b c:=fun e=>by
  obtain ⟨i,hi,ei⟩:=List.mem_iff_getElem.1 (Nj.mem_iff.2 ha)
  obtain ⟨j,hj,ej⟩:=List.mem_iff_getElem.1 (Nj.mem_iff.2 hc)
  have Om:=List.pairwise_iff_getElem.1 (hp.ED x hx)
  rcases Nat.lt_trichotomy i j with h|h|h
  ·have:=Om i j hi hj h;rw [ei,ej] at this;omega
  ·subst h;exact hne (ei.symm.trans ej)
  ·have:=Om j i hj hi h;rw [ei,ej] at this;omega
 simp only [EO,decide_eq_true_eq]
 split<;>omega
theorem tL (g:Gr) (b:Br) (p:Pl) (h:qf g b) (hp:mY g b p):Spec Tryz.prog 45 (Args [eG g,aB b]) [] (ePl p) []:=by
 have hm:=aC h.yQ
 have hn:=aT hm
 obtain ⟨N,hN⟩:∃N:Nat,g.n=N:=⟨g.n.toNat,by omega⟩
 have Cx:g.n.toNat=N:=by omega
 have ly:b.y.length=N:=by have:=h.ly;omega
 have lf:b.fr.length=N:=by have:=h.lf;omega
 have lx:=h.lx
 have lo:p.outs.length=N:=by rw [hp.len,Cx]
 have IE:p.ord.Perm (dZ N):=by rw [← Cx];exact hp.perm
 have hps:p.ord.Pairwise (Nf (kJ b)):=hp.sort.imp fun h=>Is h
 have Ag:p.ord.length=N:=by rw [IE.length_eq,dm]
 (refine Spec.intro (C:=T.cfg [] []) (rs:= [.c 4 28]) (T.aj _ _) Tryz.func45 rfl rfl Tryz.ntmps45 Tryz.results45 (by simp [AObj.isNest]) (by simp [AObj.isNest]) (by kernel_rfl) ?_;intro X hX hP hC aL aM vals hA;refine ⟨_,by simp,hA, ?_⟩;have af:X.P.follows .mixedOrders=true:=(by rw [hP];exact T.mixed);clear aL aM)
 repeat' (first|((first|((with_reducible (first|apply oA|apply oB));exact rfl;intro K hK)|(refine hK _ ?_;clear hK K)|((with_reducible (first|apply oG|apply oH));iterate 3 exact rfl)|((with_reducible apply oI);(iterate 2 exact rfl);intro K hK)|(with_reducible (first|apply wI|apply wJ|apply wK)));try simp only [go_sem,simprocAttr,aB,hN,Cx,gy,e9 (ls:=p.outs)])|(with_reducible (first|apply oC|apply oJ|exact oK|apply wA|apply wB|apply wC hX hC|apply wD hX hC|apply wE hX hC af|apply wF hX hC af|apply wG|apply wH|apply And.intro))|((with_reducible refine oD ?_ ?_);kernel_rfl)|((with_reducible (first|apply oE|apply oF));(iterate 3 exact rfl);all_goals (intro h;first|(exact absurd h (by decide))|((try simp only [go_sem,simprocAttr,aB,hN,Cx,gy,e9 (ls:=p.outs)] at h);(try with_reducible intro K hK);simp only [go_sem,simprocAttr,aB,hN,Cx,gy,e9 (ls:=p.outs)])))|((first|((with_reducible apply wL);exact rfl)|((with_reducible apply wM);exact rfl));all_goals (try ((with_reducible intro h);first|(exact absurd h (by decide))|(try simp only [go_sem,simprocAttr,aB,hN,Cx,gy,e9 (ls:=p.outs)] at h))))|omega|(intro h))
 (refine gF hX 5 0 200 (.tip 3 1 []) rfl rfl rfl (by simp only [go_sem,simprocAttr,aB,hN,Cx,gy,e9 (ls:=p.outs)]) (by decide) (by simp [go_sem,simprocAttr,aB,hN,Cx,gy,e9 (ls:=p.outs)]) ⟨3,1,by decide, .inr rfl⟩ ?_;simp only [LA.app,ASt.put,ASt.kill,subT,rmk,putM,rml,kl,AV.sub,AV.subs,AObj.sub,List.set_cons_zero,List.set_cons_succ,go_sem,simprocAttr,aB,hN,Cx,gy,e9 (ls:=p.outs)])
 refine ah (fun k:Nat=>k≤N) (fun k=>⟨[(2, .ptr 2 0),(3, .ptr 3 0),(4, .ptr 4 0),(5, .ptr 5 0),(6, .ref 21),(7,eN k)], [(2, .box [eN N, .d (sE g.es)]),(3, .box [.d (sI b.y), .d (sI b.fr), .d (sI b.to), .d (sI b.x)]),(4, .box [.nil 3, .nil 25]),(5, .box [.ref 200, .ref 17]),(200, .tip 3 1 ((p.ord.take k).map rI)),(17, .own 25 1 (vI (gL N p.outs 0))),(21, .own 4 1 ((iT N (p.ord.take k)).map rB))]⟩) (fun k=>N - k) 0 (by omega) ?_ ?_
 ·refine Le.of ?_ ?_<;>simp [go_sem,simprocAttr]
 rintro k hk
 rcases Nat.lt_or_ge k N with bF|yM
 ·have hb:decide ((k:Int)<(N:Int))=true:=decide_eq_true (by omega)
  repeat' (first|((first|((with_reducible (first|apply oA|apply oB));exact rfl;intro K hK)|(refine hK _ ?_;clear hK K)|((with_reducible (first|apply oG|apply oH));iterate 3 exact rfl)|((with_reducible apply oI);(iterate 2 exact rfl);intro K hK)|(with_reducible (first|apply wI|apply wJ|apply wK)));try simp only [go_sem,simprocAttr,hb])|(with_reducible (first|apply oC|apply oJ|exact oK|apply wA|apply wB|apply wC hX hC|apply wD hX hC|apply wE hX hC af|apply wF hX hC af|apply wG|apply wH|apply And.intro))|((with_reducible refine oD ?_ ?_);kernel_rfl)|((with_reducible (first|apply oE|apply oF));(iterate 3 exact rfl);all_goals (intro h;first|(exact absurd h (by decide))|((try simp only [go_sem,simprocAttr,hb] at h);(try with_reducible intro K hK);simp only [go_sem,simprocAttr,hb])))|((first|((with_reducible apply wL);exact rfl)|((with_reducible apply wM);exact rfl));all_goals (try ((with_reducible intro h);first|(exact absurd h (by decide))|(try simp only [go_sem,simprocAttr,hb] at h))))|omega|(intro h))
  refine ah (fun x:Nat=>x≤N) (fun x=>⟨[(2, .ptr 2 0),(3, .ptr 3 0),(4, .ptr 4 0),(5, .ptr 5 0),(6, .ref 21),(7,eN k),(8,eN (cg (kJ b) (p.ord.take k) x)),(9,eN x)], [(2, .box [eN N, .d (sE g.es)]),(3, .box [.d (sI b.y), .d (sI b.fr), .d (sI b.to), .d (sI b.x)]),(4, .box [.nil 3, .nil 25]),(5, .box [.ref 200, .ref 17]),(200, .tip 3 1 ((p.ord.take k).map rI)),(17, .own 25 1 (vI (gL N p.outs 0))),(21, .own 4 1 ((iT N (p.ord.take k)).map rB))]⟩) (fun x=>N - x) 0 (by omega) ?_ ?_
  ·refine Le.of ?_ ?_<;>simp [go_sem,simprocAttr,cg]
  rintro x hx
  rcases Nat.lt_or_ge x N with hxl|Ct
  ·have dy:decide ((x:Int)<(N:Int))=true:=decide_eq_true (by omega)
   have hU:=EN (us:=p.ord.take k) hxl
   have kK:=j5 (n:=N) (us:=p.ord.take k)
   have Nk:=tI IE hps (j:=k) (by omega) (k:=x) (by omega)
   have Iu:cg (kJ b) (p.ord.take k) (x+1)=if ((!decide ((x:Int)∈p.ord.take k))&&(decide (cg (kJ b) (p.ord.take k) x<0)||kJ b x (cg (kJ b) (p.ord.take k) x)))=true then (x:Int) else cg (kJ b) (p.ord.take k) x:=by
    rw [cg]
   generalize Ra:decide ((x:Int)∈p.ord.take k)=ud at hU Iu
   generalize I3:cg (kJ b) (p.ord.take k) (x+1)=B1 at Iu
   generalize cg (kJ b) (p.ord.take k) x=B0 at Iu Nk
   generalize iT N (p.ord.take k)=UL at hU kK
   have JW:B0= -1∨∃m:Nat,B0=m∧m<N:=by
    rcases Nk with h1|h1
    ·exact .inl h1.1
    ·exact .inr ⟨B0.toNat,by omega,by omega⟩
   clear Nk
   cases ud with
   |true=>
    have yI:B1=B0:=by rw [Iu];simp
    repeat' (first|((first|((with_reducible (first|apply oA|apply oB));exact rfl;intro K hK)|(refine hK _ ?_;clear hK K)|((with_reducible (first|apply oG|apply oH));iterate 3 exact rfl)|((with_reducible apply oI);(iterate 2 exact rfl);intro K hK)|(with_reducible (first|apply wI|apply wJ|apply wK)));try simp only [go_sem,simprocAttr,dy,hU,kK])|(with_reducible (first|apply oC|apply oJ|exact oK|apply wA|apply wB|apply wC hX hC|apply wD hX hC|apply wE hX hC af|apply wF hX hC af|apply wG|apply wH|apply And.intro))|((with_reducible refine oD ?_ ?_);kernel_rfl)|((with_reducible (first|apply oE|apply oF));(iterate 3 exact rfl);all_goals (intro h;first|(exact absurd h (by decide))|((try simp only [go_sem,simprocAttr,dy,hU,kK] at h);(try with_reducible intro K hK);simp only [go_sem,simprocAttr,dy,hU,kK])))|((first|((with_reducible apply wL);exact rfl)|((with_reducible apply wM);exact rfl));all_goals (try ((with_reducible intro h);first|(exact absurd h (by decide))|(try simp only [go_sem,simprocAttr,dy,hU,kK] at h))))|omega|(intro h))
    refine ⟨x+1,by omega, ?_,by omega⟩
    rw [I3,yI]
    refine Le.of ?_ ?_<;>simp [go_sem,simprocAttr,dy,hU,kK]
   |false=>
    rcases JW with rfl|⟨m,rfl,Rb⟩
    ·have yI:B1=x:=by rw [Iu];simp
     repeat' (first|((first|((with_reducible (first|apply oA|apply oB));exact rfl;intro K hK)|(refine hK _ ?_;clear hK K)|((with_reducible (first|apply oG|apply oH));iterate 3 exact rfl)|((with_reducible apply oI);(iterate 2 exact rfl);intro K hK)|(with_reducible (first|apply wI|apply wJ|apply wK)));try simp only [go_sem,simprocAttr,dy,hU,kK])|(with_reducible (first|apply oC|apply oJ|exact oK|apply wA|apply wB|apply wC hX hC|apply wD hX hC|apply wE hX hC af|apply wF hX hC af|apply wG|apply wH|apply And.intro))|((with_reducible refine oD ?_ ?_);kernel_rfl)|((with_reducible (first|apply oE|apply oF));(iterate 3 exact rfl);all_goals (intro h;first|(exact absurd h (by decide))|((try simp only [go_sem,simprocAttr,dy,hU,kK] at h);(try with_reducible intro K hK);simp only [go_sem,simprocAttr,dy,hU,kK])))|((first|((with_reducible apply wL);exact rfl)|((with_reducible apply wM);exact rfl));all_goals (try ((with_reducible intro h);first|(exact absurd h (by decide))|(try simp only [go_sem,simprocAttr,dy,hU,kK] at h))))|omega|(intro h))
     refine ⟨x+1,by omega, ?_,by omega⟩
     rw [I3,yI]
     refine Le.of ?_ ?_<;>simp [go_sem,simprocAttr,dy,hU,kK]
    ·have yI:B1=if kJ b x m=true then (x:Int) else (m:Int):=by
      rw [Iu,decide_eq_false (show ¬(m:Int)<0 by omega)];simp
     have hlt:kJ b x m=(decide (b.y.getD x 0<b.y.getD m 0)||(decide (b.y.getD x 0=b.y.getD m 0)&&decide (b.fr.getD x 0<b.fr.getD m 0))):=by
      simp only [kJ,yB,fB,Int.toNat_natCast];rfl
     have vm:decide ((m:Int)<0)=false:=decide_eq_false (by omega)
     rw [hlt] at yI
     clear hlt Iu
     cases dJ:decide (b.y.getD x 0<b.y.getD m 0) with
     |true=>
      rw [dJ] at yI
      simp only [Bool.true_or,if_true] at yI
      repeat' (first|((first|((with_reducible (first|apply oA|apply oB));exact rfl;intro K hK)|(refine hK _ ?_;clear hK K)|((with_reducible (first|apply oG|apply oH));iterate 3 exact rfl)|((with_reducible apply oI);(iterate 2 exact rfl);intro K hK)|(with_reducible (first|apply wI|apply wJ|apply wK)));try simp only [go_sem,simprocAttr,dy,hU,kK,vm,ly,dJ])|(with_reducible (first|apply oC|apply oJ|exact oK|apply wA|apply wB|apply wC hX hC|apply wD hX hC|apply wE hX hC af|apply wF hX hC af|apply wG|apply wH|apply And.intro))|((with_reducible refine oD ?_ ?_);kernel_rfl)|((with_reducible (first|apply oE|apply oF));(iterate 3 exact rfl);all_goals (intro h;first|(exact absurd h (by decide))|((try simp only [go_sem,simprocAttr,dy,hU,kK,vm,ly,dJ] at h);(try with_reducible intro K hK);simp only [go_sem,simprocAttr,dy,hU,kK,vm,ly,dJ])))|((first|((with_reducible apply wL);exact rfl)|((with_reducible apply wM);exact rfl));all_goals (try ((with_reducible intro h);first|(exact absurd h (by decide))|(try simp only [go_sem,simprocAttr,dy,hU,kK,vm,ly,dJ] at h))))|omega|(intro h))
      refine ⟨x+1,by omega, ?_,by omega⟩
      rw [I3,yI]
      refine Le.of ?_ ?_<;>simp [go_sem,simprocAttr,dy,hU,kK,vm,ly,dJ]
     |false=>
      cases hd2:decide (b.y.getD x 0=b.y.getD m 0) with
      |false=>
       rw [dJ,hd2] at yI
       simp only [Bool.false_or,Bool.false_and,Bool.false_eq_true,if_false] at yI
       repeat' (first|((first|((with_reducible (first|apply oA|apply oB));exact rfl;intro K hK)|(refine hK _ ?_;clear hK K)|((with_reducible (first|apply oG|apply oH));iterate 3 exact rfl)|((with_reducible apply oI);(iterate 2 exact rfl);intro K hK)|(with_reducible (first|apply wI|apply wJ|apply wK)));try simp only [go_sem,simprocAttr,dy,hU,kK,vm,ly,dJ,hd2])|(with_reducible (first|apply oC|apply oJ|exact oK|apply wA|apply wB|apply wC hX hC|apply wD hX hC|apply wE hX hC af|apply wF hX hC af|apply wG|apply wH|apply And.intro))|((with_reducible refine oD ?_ ?_);kernel_rfl)|((with_reducible (first|apply oE|apply oF));(iterate 3 exact rfl);all_goals (intro h;first|(exact absurd h (by decide))|((try simp only [go_sem,simprocAttr,dy,hU,kK,vm,ly,dJ,hd2] at h);(try with_reducible intro K hK);simp only [go_sem,simprocAttr,dy,hU,kK,vm,ly,dJ,hd2])))|((first|((with_reducible apply wL);exact rfl)|((with_reducible apply wM);exact rfl));all_goals (try ((with_reducible intro h);first|(exact absurd h (by decide))|(try simp only [go_sem,simprocAttr,dy,hU,kK,vm,ly,dJ,hd2] at h))))|omega|(intro h))
       refine ⟨x+1,by omega, ?_,by omega⟩
       rw [I3,yI]
       refine Le.of ?_ ?_<;>simp [go_sem,simprocAttr,dy,hU,kK,vm,ly,dJ,hd2]
      |true=>
       cases iR:decide (b.fr.getD x 0<b.fr.getD m 0) with
       |false=>
        rw [dJ,hd2,iR] at yI
        simp only [Bool.false_or,Bool.and_false,Bool.false_eq_true,if_false] at yI
        repeat' (first|((first|((with_reducible (first|apply oA|apply oB));exact rfl;intro K hK)|(refine hK _ ?_;clear hK K)|((with_reducible (first|apply oG|apply oH));iterate 3 exact rfl)|((with_reducible apply oI);(iterate 2 exact rfl);intro K hK)|(with_reducible (first|apply wI|apply wJ|apply wK)));try simp only [go_sem,simprocAttr,dy,hU,kK,vm,ly,lf,dJ,hd2,iR])|(with_reducible (first|apply oC|apply oJ|exact oK|apply wA|apply wB|apply wC hX hC|apply wD hX hC|apply wE hX hC af|apply wF hX hC af|apply wG|apply wH|apply And.intro))|((with_reducible refine oD ?_ ?_);kernel_rfl)|((with_reducible (first|apply oE|apply oF));(iterate 3 exact rfl);all_goals (intro h;first|(exact absurd h (by decide))|((try simp only [go_sem,simprocAttr,dy,hU,kK,vm,ly,lf,dJ,hd2,iR] at h);(try with_reducible intro K hK);simp only [go_sem,simprocAttr,dy,hU,kK,vm,ly,lf,dJ,hd2,iR])))|((first|((with_reducible apply wL);exact rfl)|((with_reducible apply wM);exact rfl));all_goals (try ((with_reducible intro h);first|(exact absurd h (by decide))|(try simp only [go_sem,simprocAttr,dy,hU,kK,vm,ly,lf,dJ,hd2,iR] at h))))|omega|(intro h))
        refine ⟨x+1,by omega, ?_,by omega⟩
        rw [I3,yI]
        refine Le.of ?_ ?_<;>simp [go_sem,simprocAttr,dy,hU,kK,vm,ly,lf,dJ,hd2,iR]
       |true=>
        rw [dJ,hd2,iR] at yI
        simp only [Bool.false_or,Bool.and_self,if_true] at yI
        repeat' (first|((first|((with_reducible (first|apply oA|apply oB));exact rfl;intro K hK)|(refine hK _ ?_;clear hK K)|((with_reducible (first|apply oG|apply oH));iterate 3 exact rfl)|((with_reducible apply oI);(iterate 2 exact rfl);intro K hK)|(with_reducible (first|apply wI|apply wJ|apply wK)));try simp only [go_sem,simprocAttr,dy,hU,kK,vm,ly,lf,dJ,hd2,iR])|(with_reducible (first|apply oC|apply oJ|exact oK|apply wA|apply wB|apply wC hX hC|apply wD hX hC|apply wE hX hC af|apply wF hX hC af|apply wG|apply wH|apply And.intro))|((with_reducible refine oD ?_ ?_);kernel_rfl)|((with_reducible (first|apply oE|apply oF));(iterate 3 exact rfl);all_goals (intro h;first|(exact absurd h (by decide))|((try simp only [go_sem,simprocAttr,dy,hU,kK,vm,ly,lf,dJ,hd2,iR] at h);(try with_reducible intro K hK);simp only [go_sem,simprocAttr,dy,hU,kK,vm,ly,lf,dJ,hd2,iR])))|((first|((with_reducible apply wL);exact rfl)|((with_reducible apply wM);exact rfl));all_goals (try ((with_reducible intro h);first|(exact absurd h (by decide))|(try simp only [go_sem,simprocAttr,dy,hU,kK,vm,ly,lf,dJ,hd2,iR] at h))))|omega|(intro h))
        refine ⟨x+1,by omega, ?_,by omega⟩
        rw [I3,yI]
        refine Le.of ?_ ?_<;>simp [go_sem,simprocAttr,dy,hU,kK,vm,ly,lf,dJ,hd2,iR]
  have dy:decide ((x:Int)<(N:Int))=false:=decide_eq_false (by omega)
  obtain rfl:x=N:=by omega
  have HK:=Gg IE hps bF
  have HV:=AW IE hps bF
  have hnt:p.ord.take (k+1)=p.ord.take k++ [p.ord.getD k 0]:=by
   rw [List.take_add_one,List.getElem?_eq_getElem (by omega),List.getD_eq_getElem?_getD,List.getElem?_eq_getElem (by omega)];rfl
  have jy:(p.ord.take k).length=k:=by rw [List.length_take];omega
  rw [HK]
  obtain ⟨v,hv⟩:∃v:Nat,p.ord.getD k 0=v:=⟨(p.ord.getD k 0).toNat,by omega⟩
  rw [hv] at hnt HV ⊢
  have KO:=Ck (n:=x) (v:=v) (us:=p.ord.take k)
  have kK:=j5 (n:=x) (us:=p.ord.take k)
  generalize iT x (p.ord.take k)=U1 at KO kK
  generalize p.ord.take k=T1 at hnt jy KO
  repeat' (first|((first|((with_reducible (first|apply oA|apply oB));exact rfl;intro K hK)|(refine hK _ ?_;clear hK K)|((with_reducible (first|apply oG|apply oH));iterate 3 exact rfl)|((with_reducible apply oI);(iterate 2 exact rfl);intro K hK)|(with_reducible (first|apply wI|apply wJ|apply wK)));try simp only [go_sem,simprocAttr,dy,kK,dM,jy])|(show dw _ (.region 5 _ _) _ _;(refine c7 hX 5 0 90 200 rfl rfl rfl (by first|exact .inl rfl|exact .inr rfl) (by decide) (by decide) ?_;simp only [LA.app,ASt.put,ASt.kill,subT,rmk,putM,rml,kl,AV.sub,AV.subs,AObj.sub,List.set_cons_zero,List.set_cons_succ,go_sem,simprocAttr,dy,kK,dM,jy]))|(with_reducible (first|apply oC|apply oJ|exact oK|apply wA|apply wB|apply wC hX hC|apply wD hX hC|apply wE hX hC af|apply wF hX hC af|apply wG|apply wH|apply And.intro))|((with_reducible refine oD ?_ ?_);kernel_rfl)|((with_reducible (first|apply oE|apply oF));(iterate 3 exact rfl);all_goals (intro h;first|(exact absurd h (by decide))|((try simp only [go_sem,simprocAttr,dy,kK,dM,jy] at h);(try with_reducible intro K hK);simp only [go_sem,simprocAttr,dy,kK,dM,jy])))|((first|((with_reducible apply wL);exact rfl)|((with_reducible apply wM);exact rfl));all_goals (try ((with_reducible intro h);first|(exact absurd h (by decide))|(try simp only [go_sem,simprocAttr,dy,kK,dM,jy] at h))))|omega|(intro h))
  refine ⟨k+1,by omega, ?_,by omega⟩
  rw [hnt, ← KO]
  refine Le.of ?_ ?_<;>simp [go_sem,simprocAttr,dy,kK,dM,jy,rI]
 have hb:decide ((k:Int)<(N:Int))=false:=decide_eq_false (by omega)
 obtain rfl:k=N:=by omega
 rw [show p.ord.take k=p.ord by rw [← Ag];exact List.take_length]
 generalize iT k p.ord=UL
 repeat' (first|((first|((with_reducible (first|apply oA|apply oB));exact rfl;intro K hK)|(refine hK _ ?_;clear hK K)|((with_reducible (first|apply oG|apply oH));iterate 3 exact rfl)|((with_reducible apply oI);(iterate 2 exact rfl);intro K hK)|(with_reducible (first|apply wI|apply wJ|apply wK)));try simp only [go_sem,simprocAttr,hb])|(with_reducible (first|apply oC|apply oJ|exact oK|apply wA|apply wB|apply wC hX hC|apply wD hX hC|apply wE hX hC af|apply wF hX hC af|apply wG|apply wH|apply And.intro))|((with_reducible refine oD ?_ ?_);kernel_rfl)|((with_reducible (first|apply oE|apply oF));(iterate 3 exact rfl);all_goals (intro h;first|(exact absurd h (by decide))|((try simp only [go_sem,simprocAttr,hb] at h);(try with_reducible intro K hK);simp only [go_sem,simprocAttr,hb])))|((first|((with_reducible apply wL);exact rfl)|((with_reducible apply wM);exact rfl));all_goals (try ((with_reducible intro h);first|(exact absurd h (by decide))|(try simp only [go_sem,simprocAttr,hb] at h))))|omega|(intro h))
 refine ah (fun x:Nat=>x≤k) (fun x=>⟨[(2, .ptr 2 0),(3, .ptr 3 0),(4, .ptr 4 0),(5, .ptr 5 0),(10,eN x)], [(2, .box [eN k, .d (sE g.es)]),(3, .box [.d (sI b.y), .d (sI b.fr), .d (sI b.to), .d (sI b.x)]),(4, .box [.nil 3, .nil 25]),(5, .box [.ref 200, .ref 17]),(200, .tip 3 1 (p.ord.map rI)),(17, .own 25 1 (vI (gL k p.outs x)))]⟩) (fun x=>k - x) 0 (by omega) ?_ ?_
 ·refine Le.of ?_ ?_<;>simp [go_sem,simprocAttr]
 rintro x hx
 rcases Nat.lt_or_ge x k with hxl|Ct
 ·have dy:decide ((x:Int)<(k:Int))=true:=decide_eq_true (by omega)
  have hE:=zX g x (by omega)
  have hS:=EP (b:=b) hp (x:=x) (by omega)
  have HV:∀i∈b9 g (x:Int),0≤i∧i<g.es.length:=fun i hi=>(eu hi).1
  have KK:(b9 g (x:Int)).length≤1000:=by have:=dH (f:=(·.1)) (es:=g.es) (k:=g.es.length) (x:=(x:Int));show (aD (·.1) g.es g.es.length (x:Int)).length≤_;omega
  have tQ:eG g= .agg [eN k, .d (sE g.es)]:=by rw [eG,hN]
  rw [tQ] at hE
  have eV:=zY (ls:=p.outs) hxl
  have Iv:=j6 (n:=k) (ls:=p.outs) (k:=x)
  generalize Qi:vI (gL k p.outs (x+1))=V2 at eV
  have sD:=kD (ls:=gL k p.outs x) (k:=x) (by omega)
  generalize gL k p.outs x=V1 at eV Iv sD
  generalize p.outs.getD x []=L at hS eV
  generalize b9 g (x:Int)=l at hE hS HV KK
  have hml:l.length≤1000:=KK
  repeat' (first|((first|((with_reducible (first|apply oA|apply oB));exact rfl;intro K hK)|(refine hK _ ?_;clear hK K)|((with_reducible (first|apply oG|apply oH));iterate 3 exact rfl)|((with_reducible apply oI);(iterate 2 exact rfl);intro K hK)|(with_reducible (first|apply wI|apply wJ|apply wK)));try simp only [go_sem,simprocAttr,dy])|(with_reducible (first|apply oC|apply oJ|exact oK|apply wA|apply wB|apply wC hX hC|apply wD hX hC|apply wE hX hC af|apply wF hX hC af|apply wG|apply wH|apply And.intro))|((with_reducible refine oD ?_ ?_);kernel_rfl)|((with_reducible (first|apply oE|apply oF));(iterate 3 exact rfl);all_goals (intro h;first|(exact absurd h (by decide))|((try simp only [go_sem,simprocAttr,dy] at h);(try with_reducible intro K hK);simp only [go_sem,simprocAttr,dy])))|((first|((with_reducible apply wL);exact rfl)|((with_reducible apply wM);exact rfl));all_goals (try ((with_reducible intro h);first|(exact absurd h (by decide))|(try simp only [go_sem,simprocAttr,dy] at h))))|omega|((first|(refine gY hX hC hP 100 (hE) rfl rfl rfl ?_ ?_ (by first|exact ⟨_,_,_,rfl,uN⟩|exact ⟨_,_,_,rfl,uO⟩|exact ⟨_,_,_,rfl,uQ⟩) rfl (by decide) ?_;(iterate 2 (focus (simp only [go_sem,simprocAttr,dy];done)));simp only [go_sem,simprocAttr,dy]));try simp only [go_sem,simprocAttr,dy])|(intro h))
  refine ah (ι:=List Int × List Int) (fun q=>q.1++AY (EO b) q.2.length q.2=L∧q.1.length+q.2.length=l.length∧∀i∈q.1++q.2,0≤i∧i<g.es.length) (fun q=>⟨[(2, .ptr 2 0),(3, .ptr 3 0),(4, .ptr 4 0),(5, .ptr 5 0),(10,eN x),(11, .ref 100),(12,eN q.1.length)], [(2, .box [eN k, .d (sE g.es)]),(3, .box [.d (sI b.y), .d (sI b.fr), .d (sI b.to), .d (sI b.x)]),(4, .box [.nil 3, .nil 25]),(5, .box [.ref 200, .ref 17]),(200, .tip 3 1 (p.ord.map rI)),(17, .own 25 1 (vI V1)),(100, .own 3 1 ((q.1++q.2).map rI))]⟩) (fun q=>q.2.length) ([],l) ⟨hS,by simp,by simpa using HV⟩ ?_ ?_
  ·refine Le.of ?_ ?_<;>simp [go_sem,simprocAttr]
  rintro ⟨pre,rest⟩ ⟨hF,hlen,hr⟩
  simp only at hF hlen hr
  cases rest with
  |nil=>
   have gM:pre=L:=by simpa [AY] using hF
   subst gM
   rw [List.append_nil]
   have dI:decide ((pre.length:Int)<(pre.length:Int))=false:=decide_eq_false (by omega)
   repeat' (first|((first|((with_reducible (first|apply oA|apply oB));exact rfl;intro K hK)|(refine hK _ ?_;clear hK K)|((with_reducible (first|apply oG|apply oH));iterate 3 exact rfl)|((with_reducible apply oI);(iterate 2 exact rfl);intro K hK)|(with_reducible (first|apply wI|apply wJ|apply wK)));try simp only [go_sem,simprocAttr,dI,Iv,sD,List.drop_succ_cons,List.drop_zero])|(show dw _ (.region 28 _ _) _ _;(refine cM hX 100 rfl (.inl rfl) ?_;simp only [go_sem,simprocAttr,dI,Iv,sD,List.drop_succ_cons,List.drop_zero]))|(with_reducible (first|apply oC|apply oJ|exact oK|apply wA|apply wB|apply wC hX hC|apply wD hX hC|apply wE hX hC af|apply wF hX hC af|apply wG|apply wH|apply And.intro))|((with_reducible refine oD ?_ ?_);kernel_rfl)|((with_reducible (first|apply oE|apply oF));(iterate 3 exact rfl);all_goals (intro h;first|(exact absurd h (by decide))|((try simp only [go_sem,simprocAttr,dI,Iv,sD,List.drop_succ_cons,List.drop_zero] at h);(try with_reducible intro K hK);simp only [go_sem,simprocAttr,dI,Iv,sD,List.drop_succ_cons,List.drop_zero])))|((first|((with_reducible apply wL);exact rfl)|((with_reducible apply wM);exact rfl));all_goals (try ((with_reducible intro h);first|(exact absurd h (by decide))|(try simp only [go_sem,simprocAttr,dI,Iv,sD,List.drop_succ_cons,List.drop_zero] at h))))|omega|(intro h))
   refine ⟨x+1,by omega, ?_,by omega⟩
   rw [Qi, ← eV]
   refine Le.of ?_ ?_<;>simp [go_sem,simprocAttr,dI,Iv,sD,List.drop_succ_cons,List.drop_zero]
  |cons a0 r0=>
   have On:(pre++a0::r0).length=l.length:=by simpa using hlen
   have dI:decide ((pre.length:Int)<((pre++a0::r0).length:Int))=true:=decide_eq_true (by rw [On];simp at hlen;omega)
   have Qj:pre++Cw (EO b) a0 [] r0=L:=by rw [Gi];exact hF
   obtain ⟨M0,Oo⟩:∃M0,pre++a0::r0=M0:=⟨_,rfl⟩
   rw [Oo] at dI On ⊢
   repeat' (first|((first|((with_reducible (first|apply oA|apply oB));exact rfl;intro K hK)|(refine hK _ ?_;clear hK K)|((with_reducible (first|apply oG|apply oH));iterate 3 exact rfl)|((with_reducible apply oI);(iterate 2 exact rfl);intro K hK)|(with_reducible (first|apply wI|apply wJ|apply wK)));try simp only [go_sem,simprocAttr,dI])|(with_reducible (first|apply oC|apply oJ|exact oK|apply wA|apply wB|apply wC hX hC|apply wD hX hC|apply wE hX hC af|apply wF hX hC af|apply wG|apply wH|apply And.intro))|((with_reducible refine oD ?_ ?_);kernel_rfl)|((with_reducible (first|apply oE|apply oF));(iterate 3 exact rfl);all_goals (intro h;first|(exact absurd h (by decide))|((try simp only [go_sem,simprocAttr,dI] at h);(try with_reducible intro K hK);simp only [go_sem,simprocAttr,dI])))|((first|((with_reducible apply wL);exact rfl)|((with_reducible apply wM);exact rfl));all_goals (try ((with_reducible intro h);first|(exact absurd h (by decide))|(try simp only [go_sem,simprocAttr,dI] at h))))|omega|(intro h))
   rw [← Oo]
   refine ah (ι:=Int × List Int × List Int) (fun q=>pre++Cw (EO b) q.1 q.2.1 q.2.2=L∧pre.length+1+q.2.1.length+q.2.2.length=l.length∧∀i∈pre++q.1::(q.2.1++q.2.2),0≤i∧i<g.es.length) (fun q=>⟨[(2, .ptr 2 0),(3, .ptr 3 0),(4, .ptr 4 0),(5, .ptr 5 0),(10,eN x),(11, .ref 100),(12,eN pre.length),(13,eN ((pre.length+1+q.2.1.length:Nat):Int))], [(2, .box [eN k, .d (sE g.es)]),(3, .box [.d (sI b.y), .d (sI b.fr), .d (sI b.to), .d (sI b.x)]),(4, .box [.nil 3, .nil 25]),(5, .box [.ref 200, .ref 17]),(200, .tip 3 1 (p.ord.map rI)),(17, .own 25 1 (vI V1)),(100, .own 3 1 ((pre++q.1::(q.2.1++q.2.2)).map rI))]⟩) (fun q=>q.2.2.length) (a0, [],r0) ⟨Qj,by simp at hlen ⊢;omega,by simpa using hr⟩ ?_ ?_
   ·refine Le.of ?_ ?_<;>simp [go_sem,simprocAttr]
   rintro ⟨a,done,todo⟩ ⟨Iw,qy,mM⟩
   simp only at Iw qy mM
   cases todo with
   |nil=>
    have w8:decide (((pre.length+1+done.length:Nat):Int)<(((pre++a::(done++ [])).length:Nat):Int))=false:=decide_eq_false (by simp;omega)
    obtain ⟨M,hM⟩:∃M,pre++a::(done++ [])=M:=⟨_,rfl⟩
    have Qk:M.length=l.length:=by rw [← hM];simp at qy ⊢;omega
    rw [hM] at w8 ⊢
    repeat' (first|((first|((with_reducible (first|apply oA|apply oB));exact rfl;intro K hK)|(refine hK _ ?_;clear hK K)|((with_reducible (first|apply oG|apply oH));iterate 3 exact rfl)|((with_reducible apply oI);(iterate 2 exact rfl);intro K hK)|(with_reducible (first|apply wI|apply wJ|apply wK)));try simp only [go_sem,simprocAttr,w8])|(with_reducible (first|apply oC|apply oJ|exact oK|apply wA|apply wB|apply wC hX hC|apply wD hX hC|apply wE hX hC af|apply wF hX hC af|apply wG|apply wH|apply And.intro))|((with_reducible refine oD ?_ ?_);kernel_rfl)|((with_reducible (first|apply oE|apply oF));(iterate 3 exact rfl);all_goals (intro h;first|(exact absurd h (by decide))|((try simp only [go_sem,simprocAttr,w8] at h);(try with_reducible intro K hK);simp only [go_sem,simprocAttr,w8])))|((first|((with_reducible apply wL);exact rfl)|((with_reducible apply wM);exact rfl));all_goals (try ((with_reducible intro h);first|(exact absurd h (by decide))|(try simp only [go_sem,simprocAttr,w8] at h))))|omega|(intro h))
    refine ⟨(pre++ [a],done),⟨?_, ?_, ?_⟩, ?_, ?_⟩
    ·rw [Gj] at Iw
     simpa using Iw
    ·simp at qy ⊢;omega
    ·simpa using mM
    ·rw [← hM]
     refine Le.of ?_ ?_<;>simp [go_sem,simprocAttr,w8]
    ·simp at qy hlen ⊢;omega
   |cons c td=>
    have tM:=Ik (pre:=pre) (r:=done++c::td) (a:=a) (d:=0)
    have tN:=Il (pre:=pre) (q:=done) (r:=td) (a:=a) (c:=c) (d:=0)
    have hsw:=Gk (pre:=pre) (d:=done) (r:=td) (a:=a) (c:=c)
    have Rc:=mM a (by simp)
    have hrc:=mM c (by simp)
    have w8:decide (((pre.length+1+done.length:Nat):Int)<(((pre++a::(done++c::td)).length:Nat):Int))=true:=decide_eq_true (by simp;omega)
    obtain ⟨M,hM⟩:∃M,pre++a::(done++c::td)=M:=⟨_,rfl⟩
    have Qk:M.length=l.length:=by rw [← hM];simp at qy ⊢;omega
    rw [hM] at w8 tM tN hsw ⊢
    obtain ⟨an,rfl⟩:∃n:Nat,a=n:=⟨a.toNat,by omega⟩
    obtain ⟨cn,rfl⟩:∃n:Nat,c=n:=⟨c.toNat,by omega⟩
    have Re:pre.length<M.length:=by omega
    have hi1:pre.length+1+done.length<M.length:=by simp at qy;omega
    cases hd:decide (b.x.getD cn 0<b.x.getD an 0) with
    |true=>
     have Nl:EO b an cn=true:=by simpa [EO,xB] using hd
     rw [EF Nl] at Iw
     generalize Iy:pre.length+1+done.length=i1 at*
     repeat' (first|((first|((with_reducible (first|apply oA|apply oB));exact rfl;intro K hK)|(refine hK _ ?_;clear hK K)|((with_reducible (first|apply oG|apply oH));iterate 3 exact rfl)|((with_reducible apply oI);(iterate 2 exact rfl);intro K hK)|(with_reducible (first|apply wI|apply wJ|apply wK)));try simp only [go_sem,simprocAttr,w8,tM,tN,hd,lx,fV,List.length_set])|(with_reducible (first|apply oC|apply oJ|exact oK|apply wA|apply wB|apply wC hX hC|apply wD hX hC|apply wE hX hC af|apply wF hX hC af|apply wG|apply wH|apply And.intro))|((with_reducible refine oD ?_ ?_);kernel_rfl)|((with_reducible (first|apply oE|apply oF));(iterate 3 exact rfl);all_goals (intro h;first|(exact absurd h (by decide))|((try simp only [go_sem,simprocAttr,w8,tM,tN,hd,lx,fV,List.length_set] at h);(try with_reducible intro K hK);simp only [go_sem,simprocAttr,w8,tM,tN,hd,lx,fV,List.length_set])))|((first|((with_reducible apply wL);exact rfl)|((with_reducible apply wM);exact rfl));all_goals (try ((with_reducible intro h);first|(exact absurd h (by decide))|(try simp only [go_sem,simprocAttr,w8,tM,tN,hd,lx,fV,List.length_set] at h))))|omega|(intro h))
     refine ⟨((cn:Int),done++ [(an:Int)],td),⟨Iw, ?_, ?_⟩, ?_, ?_⟩
     ·simp at qy ⊢;omega
     ·intro i hi;exact mM i (by simp at hi ⊢;rcases hi with h|h|h|h|h<;>simp [h])
     ·rw [hsw, ← Iy]
      refine Le.of ?_ ?_<;>simp [go_sem,simprocAttr,w8,tM,tN,hd,lx,fV,List.length_set]<;>omega
     ·simp
    |false=>
     have Nl:EO b an cn=false:=by simpa [EO,xB] using hd
     rw [EG Nl] at Iw
     generalize Iy:pre.length+1+done.length=i1 at*
     repeat' (first|((first|((with_reducible (first|apply oA|apply oB));exact rfl;intro K hK)|(refine hK _ ?_;clear hK K)|((with_reducible (first|apply oG|apply oH));iterate 3 exact rfl)|((with_reducible apply oI);(iterate 2 exact rfl);intro K hK)|(with_reducible (first|apply wI|apply wJ|apply wK)));try simp only [go_sem,simprocAttr,w8,tM,tN,hd,lx])|(with_reducible (first|apply oC|apply oJ|exact oK|apply wA|apply wB|apply wC hX hC|apply wD hX hC|apply wE hX hC af|apply wF hX hC af|apply wG|apply wH|apply And.intro))|((with_reducible refine oD ?_ ?_);kernel_rfl)|((with_reducible (first|apply oE|apply oF));(iterate 3 exact rfl);all_goals (intro h;first|(exact absurd h (by decide))|((try simp only [go_sem,simprocAttr,w8,tM,tN,hd,lx] at h);(try with_reducible intro K hK);simp only [go_sem,simprocAttr,w8,tM,tN,hd,lx])))|((first|((with_reducible apply wL);exact rfl)|((with_reducible apply wM);exact rfl));all_goals (try ((with_reducible intro h);first|(exact absurd h (by decide))|(try simp only [go_sem,simprocAttr,w8,tM,tN,hd,lx] at h))))|omega|(intro h))
     refine ⟨((an:Int),done++ [(cn:Int)],td),⟨Iw, ?_, ?_⟩, ?_, ?_⟩
     ·simp at qy ⊢;omega
     ·intro i hi;exact mM i (by simp at hi ⊢;rcases hi with h|h|h|h|h<;>simp [h])
     ·rw [← hM, ← Iy]
      refine Le.of ?_ ?_<;>simp [go_sem,simprocAttr,w8,tM,tN,hd,lx]<;>omega
     ·simp
 have dy:decide ((x:Int)<(k:Int))=false:=decide_eq_false (by omega)
 obtain rfl:x=k:=by omega
 have Kj:gL x p.outs x=p.outs:=by rw [← lo];exact Cl
 rw [Kj]
 repeat' (first|((first|((with_reducible (first|apply oA|apply oB));exact rfl;intro K hK)|(refine hK _ ?_;clear hK K)|((with_reducible (first|apply oG|apply oH));iterate 3 exact rfl)|((with_reducible apply oI);(iterate 2 exact rfl);intro K hK)|(with_reducible (first|apply wI|apply wJ|apply wK)));try simp only [go_sem,simprocAttr,dy])|(with_reducible (first|apply oC|apply oJ|exact oK|apply wA|apply wB|apply wC hX hC|apply wD hX hC|apply wE hX hC af|apply wF hX hC af|apply wG|apply wH|apply And.intro))|((with_reducible refine oD ?_ ?_);kernel_rfl)|((with_reducible (first|apply oE|apply oF));(iterate 3 exact rfl);all_goals (intro h;first|(exact absurd h (by decide))|((try simp only [go_sem,simprocAttr,dy] at h);(try with_reducible intro K hK);simp only [go_sem,simprocAttr,dy])))|((first|((with_reducible apply wL);exact rfl)|((with_reducible apply wM);exact rfl));all_goals (try ((with_reducible intro h);first|(exact absurd h (by decide))|(try simp only [go_sem,simprocAttr,dy] at h))))|omega|(intro h))
end Go.Ab
end
section
namespace Go.Ab
open Go.Proofs
attribute [local congr] ACall.congr
set_option maxRecDepth 20000
set_option maxHeartbeats 16000000
theorem vn {f:Nat→List Int} {n i:Nat} (h:i<n):((List.range n).map f).getD i []=f i:=by
 rw [List.getD_eq_getElem?_getD,List.getElem?_map,List.getElem?_range h];rfl
theorem ER {g:Gr} {b:Br} (h:qf g b):∃p,mY g b p:=by
 have hm:=aC h.yQ
 have hn:=aT hm
 have ly:=h.ly
 have Ql:∀u v:Int,nN g u→nN g v→u≠v→yU b u v∨yU b v u:=fun u v hu hv hne=>by
  have Dp:=hu.1;have Qm:=hu.2;have qz:=hv.1;have sD:=hv.2
  have key:∀u v:Int,nN g u→nN g v→u.toNat<v.toNat→yU b u v∨yU b v u:=fun u v hu hv hlt=>by
   have Dp:=hu.1;have Qm:=hu.2;have qz:=hv.1;have sD:=hv.2
   have a1:=h.apart v.toNat (by omega) u.toNat hlt
   have a2:=h.Of u.toNat (by omega)
   have a3:=h.Of v.toNat (by omega)
   unfold yU yB fB
   omega
  rcases Nat.lt_or_gt_of_ne (show u.toNat≠v.toNat by omega) with h1|h1
  ·exact key u v hu hv h1
  ·exact (key v u hv hu h1).symm
 have dx:∀(x:Nat) (i k:Int),i∈b9 g x→k∈b9 g x→i≠k→xB b i≠xB b k:=fun x i k hi hk hne=>by
  obtain ⟨⟨i0,i1⟩,i2⟩:=eu hi
  obtain ⟨⟨k0,k1⟩,k2⟩:=eu hk
  have key:∀i k:Nat,k<i→i<g.es.length→tl g i=tl g k→b.x.getD i 0≠b.x.getD k 0:=fun i k hki hi e e2=>by
   have u1:=(h.up i hi).1
   have u2:=(h.up k (by omega)).1
   rw [e] at u1
   exact h.KF i hi k hki ⟨e2.symm,by rw [e];exact u2,by exact u1⟩
  have e:tl g i.toNat=tl g k.toNat:=by show (g.es.getD _ _).1=(g.es.getD _ _).1;rw [i2,k2]
  unfold xB
  rcases Nat.lt_or_gt_of_ne (show i.toNat≠k.toNat by omega) with h1|h1
  ·exact Ne.symm (key k.toNat i.toNat h1 (by omega) e.symm)
  ·exact key i.toNat k.toNat h1 (by omega) e
 refine ⟨⟨AY (fun a c=>kJ b c a) g.n.toNat (dZ g.n.toNat),(List.range g.n.toNat).map fun x:Nat=>AY (EO b) (b9 g x).length (b9 g x)⟩,⟨l8, ?_,by simp,fun x hx=> ?_,fun x hx=> ?_⟩⟩
 ·refine kI (S:=fun v=>nN g v) (fun a c d _ _ _ h1 h2=>by unfold yU at*;omega) (fun a c ha hc hne=> ?_) (by rw [dm];omega) e8 fun v hv=>by have:=cB.1 hv;exact ⟨by omega,by omega⟩
  have:=Ql a c ha hc hne
  by_cases h1:kJ b c a=true
  ·rw [if_pos h1]
   simp only [kJ,Bool.or_eq_true,Bool.and_eq_true,decide_eq_true_eq] at h1
   unfold yU;omega
  ·rw [if_neg h1]
   simp only [kJ,Bool.or_eq_true,Bool.and_eq_true,decide_eq_true_eq] at h1
   unfold yU at*;omega
 ·rw [vn hx];exact l8
 ·rw [vn hx]
  refine kI (S:=fun i=>i∈b9 g (x:Int)) (fun a c d _ _ _ h1 h2=>by omega) (fun a c ha hc hne=> ?_) (Nat.le_refl _) bU fun i hi=>hi
  have:=dx x a c ha hc hne
  simp only [EO,decide_eq_true_eq]
  split<;>omega
theorem Cm {g:Gr} {b:Br} {p:Pl} (h:qf g b) (hp:mY g b p):GB p∧uX p:=by
 have hm:=aC h.yQ
 have hn:=aT hm
 have hl:p.ord.length=g.n.toNat:=bP hp.ok
 have ho:=hp.len
 have he:∀l∈p.outs,l.length≤g.es.length:=fun l hl=>by
  obtain ⟨x,hx,rfl⟩:=List.mem_iff_getElem.1 hl
  have:=(hp.outs x (by omega)).length_eq
  rw [List.getD_eq_getElem?_getD,List.getElem?_eq_getElem hx,Option.getD_some] at this
  rw [this];exact yb
 exact ⟨⟨by omega,by omega,fun l hl=>by have:=he l hl;omega⟩,⟨by omega,by omega,fun l hl=>by have:=he l hl;omega⟩⟩
theorem tO (g:Gr) (b:Br):Spec Tryz.prog 12 (Args [eG g,aB b]) [] (eB true) []:=by
 have KL:=wW g b
 cases ez:AU g b with
 |true=>
  rw [ez] at KL
  (refine Spec.intro (C:=T.cfg [] []) (rs:= [.t 4]) (T.aj _ _) Tryz.func12 rfl rfl Tryz.ntmps12 Tryz.results12 (by simp [AObj.isNest]) (by simp [AObj.isNest]) (by kernel_rfl) ?_;intro X hX hP hC aL aM vals hA;refine ⟨_,by simp,hA, ?_⟩;have af:X.P.follows .mixedOrders=true:=(by rw [hP];exact T.mixed);clear aL aM)
  repeat' (first|((first|((with_reducible (first|apply oA|apply oB));exact rfl;intro K hK)|(refine hK _ ?_;clear hK K)|((with_reducible (first|apply oG|apply oH));iterate 3 exact rfl)|((with_reducible apply oI);(iterate 2 exact rfl);intro K hK)|(with_reducible (first|apply wI|apply wJ|apply wK)));try simp only [go_sem,simprocAttr,aB])|(with_reducible (first|apply oC|apply oJ|exact oK|apply wA|apply wB|apply wC hX hC|apply wD hX hC|apply wE hX hC af|apply wF hX hC af|apply wG|apply wH|apply And.intro))|((with_reducible refine oD ?_ ?_);kernel_rfl)|((with_reducible (first|apply oE|apply oF));(iterate 3 exact rfl);all_goals (intro h;first|(exact absurd h (by decide))|((try simp only [go_sem,simprocAttr,aB] at h);(try with_reducible intro K hK);simp only [go_sem,simprocAttr,aB])))|((first|((with_reducible apply wL);exact rfl)|((with_reducible apply wM);exact rfl));all_goals (try ((with_reducible intro h);first|(exact absurd h (by decide))|(try simp only [go_sem,simprocAttr,aB] at h))))|omega|((first|refine aa hX hC hP (jw) rfl rfl rfl (by simp only [go_sem,simprocAttr,aB]) rfl ?_|refine aa hX hC hP (KL) rfl rfl rfl (by simp only [go_sem,simprocAttr,aB]) rfl ?_);try simp only [go_sem,simprocAttr,aB])|(intro h))
 |false=>
 rw [ez] at KL
 have Nn:=ez
 simp only [AU,Bool.or_eq_false_iff,decide_eq_false_iff_not] at Nn
 have I1:=ug g b (by omega) (by omega) (by omega)
 have Gw:=iq g b (by omega) (by omega) (by omega)
 have Oq:=Cf b
 cases kR:bW g b with
 |false=>
  rw [kR] at I1 Gw
  have Qn:=yH g b (by omega) (by omega) (by omega) kR
  have No:=mT ⟨[], []⟩ ⟨by simp,by simp,by simp⟩
  (refine Spec.intro (C:=T.cfg [] []) (rs:= [.t 4]) (T.aj _ _) Tryz.func12 rfl rfl Tryz.ntmps12 Tryz.results12 (by simp [AObj.isNest]) (by simp [AObj.isNest]) (by kernel_rfl) ?_;intro X hX hP hC aL aM vals hA;refine ⟨_,by simp,hA, ?_⟩;have af:X.P.follows .mixedOrders=true:=(by rw [hP];exact T.mixed);clear aL aM)
  repeat' (first|((first|((with_reducible (first|apply oA|apply oB));exact rfl;intro K hK)|(refine hK _ ?_;clear hK K)|((with_reducible (first|apply oG|apply oH));iterate 3 exact rfl)|((with_reducible apply oI);(iterate 2 exact rfl);intro K hK)|(with_reducible (first|apply wI|apply wJ|apply wK)));try simp only [go_sem,simprocAttr,aB,vI,List.map_nil])|(with_reducible (first|apply oC|apply oJ|exact oK|apply wA|apply wB|apply wC hX hC|apply wD hX hC|apply wE hX hC af|apply wF hX hC af|apply wG|apply wH|apply And.intro))|((with_reducible refine oD ?_ ?_);kernel_rfl)|((with_reducible (first|apply oE|apply oF));(iterate 3 exact rfl);all_goals (intro h;first|(exact absurd h (by decide))|((try simp only [go_sem,simprocAttr,aB,vI,List.map_nil] at h);(try with_reducible intro K hK);simp only [go_sem,simprocAttr,aB,vI,List.map_nil])))|((first|((with_reducible apply wL);exact rfl)|((with_reducible apply wM);exact rfl));all_goals (try ((with_reducible intro h);first|(exact absurd h (by decide))|(try simp only [go_sem,simprocAttr,aB,vI,List.map_nil] at h))))|omega|((first|refine aa hX hC hP (jw) rfl rfl rfl (by simp only [go_sem,simprocAttr,aB,vI,List.map_nil]) rfl ?_|refine aa hX hC hP (KL) rfl rfl rfl (by simp only [go_sem,simprocAttr,aB,vI,List.map_nil]) rfl ?_|refine aa hX hC hP (Oq) rfl rfl rfl (by simp only [go_sem,simprocAttr,aB,vI,List.map_nil]) rfl ?_|refine aa hX hC hP (Qn) rfl rfl rfl (by simp only [go_sem,simprocAttr,aB,vI,List.map_nil]) rfl ?_|refine aa hX hC hP (I1) rfl rfl rfl (by simp only [go_sem,simprocAttr,aB,vI,List.map_nil]) rfl ?_|refine aa hX hC hP (Gw) rfl rfl rfl (by simp only [go_sem,simprocAttr,aB,vI,List.map_nil]) rfl ?_|(refine aY hX hC hP (No) rfl rfl rfl ?_ ?_ rfl ?_;iterate 2 (focus (simp only [go_sem,simprocAttr,aB,vI,List.map_nil];done))));try simp only [go_sem,simprocAttr,aB,vI,List.map_nil])|(intro h))
 |true=>
  rw [kR] at I1 Gw
  have h:=vl.1 kR
  obtain ⟨p,hp⟩:=ER h
  have nM:=uj g b p (by omega) (by omega) (by omega) h hp
  have Qo:=tL g b p h hp
  have No:=mT p (Cm h hp).1
  (refine Spec.intro (C:=T.cfg [] []) (rs:= [.t 4]) (T.aj _ _) Tryz.func12 rfl rfl Tryz.ntmps12 Tryz.results12 (by simp [AObj.isNest]) (by simp [AObj.isNest]) (by kernel_rfl) ?_;intro X hX hP hC aL aM vals hA;refine ⟨_,by simp,hA, ?_⟩;have af:X.P.follows .mixedOrders=true:=(by rw [hP];exact T.mixed);clear aL aM)
  repeat' (first|((first|((with_reducible (first|apply oA|apply oB));exact rfl;intro K hK)|(refine hK _ ?_;clear hK K)|((with_reducible (first|apply oG|apply oH));iterate 3 exact rfl)|((with_reducible apply oI);(iterate 2 exact rfl);intro K hK)|(with_reducible (first|apply wI|apply wJ|apply wK)));try simp only [go_sem,simprocAttr,aB])|(with_reducible (first|apply oC|apply oJ|exact oK|apply wA|apply wB|apply wC hX hC|apply wD hX hC|apply wE hX hC af|apply wF hX hC af|apply wG|apply wH|apply And.intro))|((with_reducible refine oD ?_ ?_);kernel_rfl)|((with_reducible (first|apply oE|apply oF));(iterate 3 exact rfl);all_goals (intro h;first|(exact absurd h (by decide))|((try simp only [go_sem,simprocAttr,aB] at h);(try with_reducible intro K hK);simp only [go_sem,simprocAttr,aB])))|((first|((with_reducible apply wL);exact rfl)|((with_reducible apply wM);exact rfl));all_goals (try ((with_reducible intro h);first|(exact absurd h (by decide))|(try simp only [go_sem,simprocAttr,aB] at h))))|omega|((first|refine aa hX hC hP (jw) rfl rfl rfl (by simp only [go_sem,simprocAttr,aB]) rfl ?_|refine aa hX hC hP (KL) rfl rfl rfl (by simp only [go_sem,simprocAttr,aB]) rfl ?_|refine aa hX hC hP (Oq) rfl rfl rfl (by simp only [go_sem,simprocAttr,aB]) rfl ?_|refine aa hX hC hP (nM) rfl rfl rfl (by simp only [go_sem,simprocAttr,aB]) rfl ?_|refine aa hX hC hP (Qo) rfl rfl rfl (by simp only [go_sem,simprocAttr,aB]) rfl ?_|refine aa hX hC hP (I1) rfl rfl rfl (by simp only [go_sem,simprocAttr,aB]) rfl ?_|refine aa hX hC hP (Gw) rfl rfl rfl (by simp only [go_sem,simprocAttr,aB]) rfl ?_|refine aa hX hC hP (No) rfl rfl rfl (by simp only [go_sem,simprocAttr,aB]) rfl ?_);try simp only [go_sem,simprocAttr,aB])|(intro h))
end Go.Ab
end
