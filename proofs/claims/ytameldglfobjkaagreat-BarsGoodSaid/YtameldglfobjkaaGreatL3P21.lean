/- A part of the proof. -/
import Derived.Shelf.SlicesG.Cmp
import Derived.Deep.QuietTactic
import Derived.Deep.RegionHeld3
import Derived.WalkKit
import Derived.LoopNIn
import Derived.LoopIn
import Derived.Sort.WalkA
import Derived.Sort.Grow
import Derived.Shelf.SlSortCmp.NoneTotal
import Derived.Test.YtameldglfobjkaaGreatL3P20
set_option linter.unusedSimpArgs false
set_option linter.unusedVariables false
section
namespace Go.Ab
open Go.Proofs Go.RowKit Go.Shelf Go.Lib Go.Sort
set_option maxRecDepth 10000
set_option maxHeartbeats 4000000
theorem vC (x y:Int) (W:World):Calls Tryz.prog 79 #[.int .i64 x, .int .i64 y] W fun e w'=>e= .returned (.int .i64 (compareInt x y))∧w'=W:=
 AnyG.cmp_Compare_int Tryz.Oq x y W
theorem Lt (W:World) (B bx off len cap:Nat) (X:Nat→Int) (hB:W.cell? ⟨B,3,none⟩=some (.slice (some ⟨bx,off,none⟩) len cap)) (hx:∀j,j<len→W.cell? ⟨bx,off+j,none⟩=some (.int .i64 (X j))) (i k:Nat) (hi:i<len) (hk:k<len):
 Calls Tryz.prog 84 #[.int .i64 i, .int .i64 k, .pointer (some ⟨B,0,none⟩)] W fun e w'=>e= .returned (.int .i64 (compareInt (X i) (X k)))∧∃q,w'=W.drewN q:=by
 have HS:=fun W'=>vC (X i) (X k) W'
 generalize compareInt (X i) (X k)=r at HS ⊢
 have ci:=hx i hi
 have ck:=hx k hk
 go_enter Tryz.func84,Tryz.ntmps84
 go_wp2
 go_quiet (exact Calls.quiet_of_same (HS _))
 go_wp2
 go_ret
 exact ⟨rfl,nq,rfl⟩
theorem EL (W:World) (b:Nat) (c0 c1:Int) (h0:W.cell? ⟨b,0,none⟩=some (.int .i64 c0)) (h1:W.cell? ⟨b,1,none⟩=some (.int .i64 c1)):
 Calls Tryz.prog 78 #[.slice (some ⟨b,0,none⟩) 2 2] W fun e w'=>e= .returned (.int .i64 (if c0=0 then c1 else c0))∧w'=W:=by
 by_cases hc:c0=0
 ·subst hc
  rw [if_pos rfl]
  by_cases hd:c1=0
  ·subst hd
   go_enter Tryz.func78,Tryz.ntmps78
   go_wp2
   go_loopw [8] (fun i wr=>∃k:Nat,k≤2∧i= .int .i64 k∧wr=W) (fun i _=>2 - (Go.Proofs.intOf i).toNat)
   case atStart=>exact ⟨0,by omega,rfl,rfl⟩
   case round=>
    obtain ⟨k,hk,rfl,rfl⟩:=hrel
    match k,hk with
    |0,_=>
     go_wp2
     exact ⟨⟨1,by omega,rfl,trivial⟩,by decide⟩
    |1,_=>
     go_wp2
     exact ⟨⟨2,by omega,rfl,trivial⟩,by decide⟩
    |2,_=>
     go_wp2
     go_ret
     exact ⟨rfl,rfl⟩
  ·go_enter Tryz.func78,Tryz.ntmps78
   go_wp2
   go_loopw [8] (fun i wr=>∃k:Nat,k≤1∧i= .int .i64 k∧wr=W) (fun i _=>2 - (Go.Proofs.intOf i).toNat)
   case atStart=>exact ⟨0,by omega,rfl,rfl⟩
   case round=>
    obtain ⟨k,hk,rfl,rfl⟩:=hrel
    match k,hk with
    |0,_=>
     go_wp2
     exact ⟨⟨1,by omega,rfl,trivial⟩,by decide⟩
    |1,_=>
     go_wp2
     go_ret
     exact ⟨rfl,rfl⟩
 ·rw [if_neg hc]
  go_enter Tryz.func78,Tryz.ntmps78
  go_wp2
  go_loopw [8] (fun i wr=>i= .int .i64 0∧wr=W) (fun i _=>0)
  case atStart=>exact ⟨rfl,rfl⟩
  case round=>
   obtain ⟨rfl,rfl⟩:=hrel
   go_wp2
   go_ret
   exact ⟨rfl,rfl⟩
theorem Lu (W:World) (B H7 oy ly cy bf Lv lf cf:Nat) (Y F:Nat→Int) (hB:W.cell? ⟨B,0,none⟩=some (.slice (some ⟨H7,oy,none⟩) ly cy)) (hC:W.cell? ⟨B,1,none⟩=some (.slice (some ⟨bf,Lv,none⟩) lf cf))
 (hy:∀j,j<ly→W.cell? ⟨H7,oy+j,none⟩=some (.int .i64 (Y j))) (hf:∀j,j<lf→W.cell? ⟨bf,Lv+j,none⟩=some (.int .i64 (F j))) (i k:Nat) (hi:i<ly) (hk:k<ly) (hi2:i<lf) (hk2:k<lf):
 Calls Tryz.prog 85 #[.int .i64 i, .int .i64 k, .pointer (some ⟨B,0,none⟩)] W fun e w'=>e= .returned (.int .i64 (if compareInt (Y i) (Y k)=0 then compareInt (F i) (F k) else compareInt (Y i) (Y k)))∧∃q os',w'=grow (W.drewN q) os':=by
 have c1:=hy i hi
 have c2:=hy k hk
 have c3:=hf i hi2
 have c4:=hf k hk2
 clear hy hf
 generalize Y i=y1 at c1 ⊢
 generalize Y k=y2 at c2 ⊢
 generalize F i=f1 at c3 ⊢
 generalize F k=f2 at c4 ⊢
 have h3:=fun W b=>EL W b (compareInt y1 y2) (compareInt f1 f2)
 generalize (if compareInt y1 y2=0 then compareInt f1 f2 else compareInt y1 y2)=r at h3 ⊢
 go_enter Tryz.func85,Tryz.ntmps85
 go_wp2
 go_region_held3 (fun w'=>w'.cell? ⟨B,0,none⟩=some (.slice (some ⟨H7,oy,none⟩) ly cy)∧w'.cell? ⟨B,1,none⟩=some (.slice (some ⟨bf,Lv,none⟩) lf cf)∧w'.cell? ⟨H7,oy+i,none⟩=some (.int .i64 y1)∧w'.cell? ⟨H7,oy+k,none⟩=some (.int .i64 y2)∧w'.cell? ⟨bf,Lv+i,none⟩=some (.int .i64 f1)∧w'.cell? ⟨bf,Lv+k,none⟩=some (.int .i64 f2)) (go_keep)
  (first|(go_at_call 79;refine (vC _ _ _).mono ?_;rintro e w' ⟨rfl,rfl⟩)|(go_at_call 78;refine (h3 _ _ (by simp) (by simp)).mono ?_;rintro e w' ⟨rfl,rfl⟩))
 go_wp2
 go_ret
 exact ⟨rfl,1,_,by rw [alloc_eq_grow];rfl⟩
end Go.Ab
end
section
namespace Go.Ab
open Go.Proofs
attribute [local congr] ACall.congr gd.congr Nx.congr
set_option maxRecDepth 10000
set_option maxHeartbeats 8000000
def S2 (l:List Int) (k:Nat):List Int:=(List.range l.length).map fun p=>if p<k∨l.length - 1<p+k then l.getD (l.length - 1 - p) 0 else l.getD p 0
theorem y7 (ps:List Int) (hl:ps.length≤1000000):
 Spec Tryz.prog 44 (Args [.d (sI ps)]) [] (.ref 10000) [(10000, .own 3 1 (ps.map rI))]:=by
 (refine Spec.A5 (C:=T.cfg [5,7] []) (rs:= [.t 2]) [(10000,7)] (T.ah _ _) Tryz.func44 rfl rfl Tryz.ntmps44 Tryz.results44 (by simp [AObj.isNest]) (by simp [AObj.isNest]) (by first|(simp [look];done)|(simp [asN];done)|(intro l hl;simp only [asN];repeat (rw [if_neg (fun e=>by subst e;simp [look] at hl)]))) (by first|(simp [look];done)|(simp [asN];done)|(intro l hl;simp only [asN];repeat (rw [if_neg (fun e=>by subst e;simp [look] at hl)]))) (by kernel_rfl) T.mixed fun X hX hP hC aI bU=> ?_)
 repeat' (first|(show cw _ .ret _ _;(try simp only [go_sem,simprocAttr]);refine iZ hX 2 7 (.own 3 1 []) ?_ ?_ (by decide) ⟨3,1,by decide, .inl rfl⟩ ?_;(iterate 2 (focus (simp only [go_sem,simprocAttr];done)));simp only [go_sem,simprocAttr])|refine Rn.p ?_|(with_reducible apply And.intro)|((first|(refine hK _ ?_;clear hK K)|with_reducible intro K hK|refine Rs.p ?_|((with_reducible first|apply oP|apply oQ);exact rfl));try simp only [go_sem,simprocAttr])|((with_reducible refine oD ?_ ?_);kernel_rfl)|((with_reducible intro h);try simp only [go_sem,simprocAttr] at h)|omega|intro h)
 exact h.symm
end Go.Ab
end
section
namespace Go.Ab
open Go.Proofs
attribute [local congr] ACall.congr gd.congr Nx.congr
set_option maxRecDepth 20000
set_option maxHeartbeats 16000000
theorem AS (f:Edge→Int) (g:Gr) (hm:aO g=true) (x:Int) (hx:0≤x∧x<g.n):Spec Tryz.prog 128 (Args [.d (vw g), .d (.sl 1 (Ic f g)),eN x]) [] (.ref 10000) [(10000, .own 3 1 ((aJ f g.es g.es.length x).map rI))]:=by
 rw [aq]
 have hn:=aM hm
 have hl':(aJ f g.es g.es.length x).length≤1000000:=by have:=fe (f:=f) (es:=g.es) (k:=g.es.length) (x:=x);omega
 have hv:=mT (f:=f) (g:=g) (x:=x.toNat) (by omega)
 have he:fF f g.es g.es.length x.toNat=aJ f g.es g.es.length x:=by rw [kG,show ((x.toNat:Nat):Int)=x from by omega]
 rw [he] at hv
 have au:decide (x<0)=false:=decide_eq_false (by omega)
 have az:decide (g.n≤x)=false:=decide_eq_false (by omega)
 have Ik:=y7 (aJ f g.es g.es.length x) hl'
 (refine Spec.A5 (C:=T.cfg [] []) (rs:= [.t 6]) [(10000,22)] (T.ah _ _) Tryz.func128 rfl rfl Tryz.ntmps128 Tryz.results128 (by simp [AObj.isNest]) (by simp [AObj.isNest]) (by first|(simp [look];done)|(simp [asN];done)|(intro l hl;simp only [asN];repeat (rw [if_neg (fun e=>by subst e;simp [look] at hl)]))) (by first|(simp [look];done)|(simp [asN];done)|(intro l hl;simp only [asN];repeat (rw [if_neg (fun e=>by subst e;simp [look] at hl)]))) (by kernel_rfl) T.mixed fun X hX hP hC aI bU=> ?_)
 repeat' (first|refine Rn.p ?_|(with_reducible apply And.intro)|((first|(refine hK _ ?_;clear hK K)|with_reducible intro K hK|refine Rs.p ?_|((with_reducible first|apply oP|apply oQ);exact rfl)|(refine lG hX hC hP 22 (Ik) rfl rfl rfl ?_ ?_ (by first|exact ⟨_,_,_,rfl,Ae⟩|exact ⟨_,_,_,rfl,Af⟩|exact ⟨_,_,_,rfl,Ah⟩) rfl (by decide) ?_;(iterate 2 (focus (simp only [go_sem,simprocAttr,hv,au,az];done)));simp only [go_sem,simprocAttr,hv,au,az]));try simp only [go_sem,simprocAttr,hv,au,az])|((with_reducible refine oD ?_ ?_);kernel_rfl)|((with_reducible intro h);try simp only [go_sem,simprocAttr,hv,au,az] at h)|omega|intro h)
theorem Ca (g:Gr) (hm:aO g=true) (x:Int) (hx:0≤x∧x<g.n):Spec Tryz.prog 73 (Args [.d (vw g),eN x]) [] (.ref 10000) [(10000, .own 3 1 ((bu g x).map rI))]:=by
 have hT:=AS (·.1) g hm x hx
 (refine Spec.A5 (C:=T.cfg [] []) (rs:= [.t 4]) [(10000,11)] (T.ah _ _) Tryz.func73 rfl rfl Tryz.ntmps73 Tryz.results73 (by simp [AObj.isNest]) (by simp [AObj.isNest]) (by first|(simp [look];done)|(simp [asN];done)|(intro l hl;simp only [asN];repeat (rw [if_neg (fun e=>by subst e;simp [look] at hl)]))) (by first|(simp [look];done)|(simp [asN];done)|(intro l hl;simp only [asN];repeat (rw [if_neg (fun e=>by subst e;simp [look] at hl)]))) (by kernel_rfl) T.mixed fun X hX hP hC aI bU=> ?_)
 repeat' (first|refine Rn.p ?_|(with_reducible apply And.intro)|((first|(refine hK _ ?_;clear hK K)|with_reducible intro K hK|refine Rs.p ?_|((with_reducible first|apply oP|apply oQ);exact rfl)|(refine lG hX hC hP 11 (hT) rfl rfl rfl ?_ ?_ (by first|exact ⟨_,_,_,rfl,Ae⟩|exact ⟨_,_,_,rfl,Af⟩|exact ⟨_,_,_,rfl,Ah⟩) rfl (by decide) ?_;(iterate 2 (focus (simp only [go_sem,simprocAttr,aq];done)));simp only [go_sem,simprocAttr,aq]));try simp only [go_sem,simprocAttr,aq])|((with_reducible refine oD ?_ ?_);kernel_rfl)|((with_reducible intro h);try simp only [go_sem,simprocAttr,aq] at h)|omega|intro h)
 rfl
section
open Go.RowKit Go.Shelf Go.Sort Go.Lib
def S3 (b:Br) (i k:Int):Int:=compareInt (xB b i) (xB b k)
def OZ (b:Br) (u v:Int):Int:=if compareInt (yB b u) (yB b v)=0 then compareInt (fB b u) (fB b v) else compareInt (yB b u) (yB b v)
theorem qU {x y:Int} :compareInt x y<0↔x<y:=by
 unfold compareInt
 split
 ·simp [*]
 ·split<;>simp<;>omega
theorem Dm {x y:Int} :compareInt x y=0↔x=y:=by
 unfold compareInt
 split
 ·simp;omega
 ·split<;>simp<;>omega
theorem Cb {b:Br} {u v:Int} :OZ b u v<0↔AL b u v:=by
 unfold OZ AL
 by_cases h:yB b u=yB b v
 ·rw [if_pos (Dm.2 h),qU];omega
 ·rw [if_neg (fun e=>h (Dm.1 e)),qU];omega
def qV (b:Br):List AV:= [.d (sI b.y), .d (sI b.fr), .d (sI b.to), .d (sI b.x)]
theorem HU {b:Br} {w:World} {E:Env} {vs:List Value} (h:AVrs w E (qV b) vs):∃v0 v1 v2 v3,vs= [v0,v1,v2,v3]∧Rd w E.z v0 (sI b.y)∧Rd w E.z v1 (sI b.fr)∧Rd w E.z v3 (sI b.x):=by
 obtain ⟨v0,r0,rfl,h0,h⟩:=h
 obtain ⟨v1,r1,rfl,h1,h⟩:=h
 obtain ⟨v2,r2,rfl,h2,h⟩:=h
 obtain ⟨v3,r3,rfl,h3,h⟩:=h
 simp only [AVrs] at h
 subst h
 exact ⟨v0,v1,v2,v3,rfl,h0,h1,h3⟩
theorem jl {w W:World} {b o:Nat} {blk:Nat} (hW:∀b,b<w.heap.size→b≠blk→W.heap[b]? =w.heap[b]?) (hb:b<w.heap.size) (hne:b≠blk):W.cell? ⟨b,o,none⟩=w.cell? ⟨b,o,none⟩:=by
 simp only [World.cell?,hW b hb hne]
theorem Cc (b:Br) {l l':List Int} (S:HR (S3 b) l l') (hl:∀i∈l,0≤i∧i<b.x.length) (hlen:l.length≤1000000):Spec Tryz.prog 74 (Args [.ref 10000, .fn 84 [] [.ptr 10001 0]]) [(10000, .own 3 1 (l.map rI)),(10001, .box (qV b))] (.tup []) [(10000, .own 3 1 (l'.map rI)),(10001, .box (qV b))]:=by
 refine vB S hlen (enters_of Tryz.func84 (by kernel_rfl) rfl) rfl ?_
 intro w E B blk vs e hB hA hne hz W hsz hW x hx y hy
 obtain ⟨v0,v1,v2,v3,rfl,_,_,h3⟩:=HU hA
 have hx2:=hl x hx
 have hy2:=hl y hy
 obtain ⟨bx,off,cap,rfl,g1,g2,g3⟩:=HT h3 (fun e=>by rw [e] at hx2;simp at hx2;omega)
 have Mb:B<w.heap.size:=(Array.getElem?_eq_some_iff.1 hB).1
 have Lw:bx≠blk:=fun e=>by rw [e] at g2;omega
 have hc:=Lt W B bx off b.x.length cap (fun j=>b.x.getD j 0) (by rw [jl hW Mb hne];simp [World.cell?,hB]) (fun j hj=>by rw [jl hW g1 Lw];exact g3 j hj) x.toNat y.toNat (by omega) (by omega)
 rw [show ((x.toNat:Nat):Int)=x by omega,show ((y.toNat:Nat):Int)=y by omega] at hc
 exact hc.mono fun _ _ ⟨he,q,hq⟩=>⟨he,q, #[],by rw [hq,grow_empty]⟩
theorem Cd (b:Br) {l l':List Int} (S:HR (OZ b) l l') (hl:∀i∈l,0≤i∧i<b.y.length) (hf:b.fr.length=b.y.length) (hlen:l.length≤1000000):Spec Tryz.prog 74 (Args [.ref 10000, .fn 85 [] [.ptr 10001 0]]) [(10000, .own 3 1 (l.map rI)),(10001, .box (qV b))] (.tup []) [(10000, .own 3 1 (l'.map rI)),(10001, .box (qV b))]:=by
 refine vB S hlen (enters_of Tryz.func85 (by kernel_rfl) rfl) rfl ?_
 intro w E B blk vs e hB hA hne hz W hsz hW x hx y hy
 obtain ⟨v0,v1,v2,v3,rfl,h0,h1,_⟩:=HU hA
 have hx2:=hl x hx
 have hy2:=hl y hy
 obtain ⟨H7,oy,cy,rfl,g1,g2,g3⟩:=HT h0 (fun e=>by rw [e] at hx2;simp at hx2;omega)
 obtain ⟨bf,Lv,cf,rfl,k1,k2,k3⟩:=HT h1 (fun e=>by rw [e] at hf;simp at hf;omega)
 have Mb:B<w.heap.size:=(Array.getElem?_eq_some_iff.1 hB).1
 have Lw:H7≠blk:=fun e=>by rw [e] at g2;omega
 have Ot:bf≠blk:=fun e=>by rw [e] at k2;omega
 have hc:=Lu W B H7 oy b.y.length cy bf Lv b.fr.length cf (fun j=>b.y.getD j 0) (fun j=>b.fr.getD j 0) (by rw [jl hW Mb hne];simp [World.cell?,hB]) (by rw [jl hW Mb hne];simp [World.cell?,hB]) (fun j hj=>by rw [jl hW g1 Lw];exact g3 j hj) (fun j hj=>by rw [jl hW k1 Ot];exact k3 j hj) x.toNat y.toNat (by omega) (by omega) (by omega) (by omega)
 rw [show ((x.toNat:Nat):Int)=x by omega,show ((y.toNat:Nat):Int)=y by omega] at hc
 exact hc
end
theorem HV {g:Gr} {b:Br} {p:Pl} (hp:sV g b p) {x:Nat} (hx:x<g.n.toNat):HR (S3 b) (bu g x) (p.outs.getD x []):=
 {perm:=(hp.outs x hx).symm,nd:=cq,ord:=(hp.HG x hx).imp fun h=>⟨qU.2 h,fun h2=>by have:=qU.1 h2;omega⟩,OY:=fun i _ h=>by have:=qU.1 h;omega}
theorem Jz {g:Gr} {b:Br} {p:Pl} (hp:sV g b p):HR (OZ b) (ff g.n.toNat) p.ord:=
 {perm:=hp.perm.symm,nd:=ig,ord:=hp.sort.imp fun h=>⟨Cb.2 h,fun h2=>by have:=Cb.1 h2;unfold AL at*;omega⟩,OY:=fun i _ h=>by have:=Cb.1 h;unfold AL at this;omega}
end Go.Ab
end
section
namespace Go.Ab
open Go.Proofs
attribute [local congr] ACall.congr gd.congr Nx.congr
set_option maxRecDepth 20000
set_option maxHeartbeats 16000000
theorem EM {k:Nat} :(ff (k+1)).map rI=(ff k).map rI++ [rI (k:Int)]:=by simp [ff,List.range_succ]
theorem vX (g:Gr) (b:Br) (p:Pl) (hl:g.es.length≤1000) (au:b.y.length≤1000) (az:b.x.length≤1000) (h:vv g b) (hp:sV g b p):Spec Tryz.prog 34 (Args [eG g,bZ b]) [] (.tup [ePl p,eN 0]) []:=by
 have hR:=qQ g b hl au az
 rw [xI.2 h] at hR
 have hm:=an h.tZ
 have hn:=aM hm
 obtain ⟨N,hN⟩:∃N:Nat,g.n=N:=⟨g.n.toNat,by omega⟩
 have S4:g.n.toNat=N:=by omega
 have ly:b.y.length=N:=by have:=h.ly;omega
 have lf:b.fr.length=N:=by have:=h.lf;omega
 have lx:=h.lx
 have lo:p.outs.length=N:=by rw [hp.len,S4]
 have S5:=fL g hm
 have ON:=Jz hp
 rw [S4] at ON
 have U5:=Cd b ON (fun i hi=>by have:=dX.1 hi;omega) (by omega) (by rw [jE];omega)
 have hO:=fun (x:Nat) (hx:x<N)=>Ca g hm x ⟨by omega,by omega⟩
 have Ou:=fun (x:Nat) (hx:x<N)=>Cc b (HV hp (x:=x) (by omega)) (fun i hi=>by have:=(dY hi).1;omega) (by have:=fe (f:=(·.1)) (es:=g.es) (k:=g.es.length) (x:=(x:Int));show (aJ (·.1) g.es g.es.length (x:Int)).length≤_;omega)
 have rV:eG g= .agg [eN N, .d (sE g.es)]:=by rw [eG,hN]
 rw [rV] at hR S5 ⊢
 (refine Spec.hd (C:=T.cfg [27] []) (rs:= [.c 4 28, .t 5]) (T.ah _ _) Tryz.func34 rfl rfl Tryz.ntmps34 Tryz.results34 (by simp [AObj.isNest]) (by simp [AObj.isNest]) (by kernel_rfl) T.mixed fun X hX hP hC aI bU=> ?_)
 repeat' (first|refine Rn.p ?_|(with_reducible apply And.intro)|((first|(refine hK _ ?_;clear hK K)|with_reducible intro K hK|refine Rs.p ?_|((with_reducible first|apply oP|apply oQ);exact rfl)|refine aa hX hC hP (hR) rfl rfl rfl (by simp only [go_sem,simprocAttr,bZ,qV]) rfl ?_|refine aa hX hC hP (S5) rfl rfl rfl (by simp only [go_sem,simprocAttr,bZ,qV]) rfl ?_);try simp only [go_sem,simprocAttr,bZ,qV])|((with_reducible refine oD ?_ ?_);kernel_rfl)|((with_reducible intro h);try simp only [go_sem,simprocAttr,bZ,qV] at h)|omega|intro h)
 (refine iC hX 7 0 200 (.own 3 1 []) rfl rfl rfl (by simp only [go_sem,simprocAttr,bZ,qV]) (by decide) (by simp [go_sem,simprocAttr,bZ,qV]) ⟨3,1,by decide, .inl rfl⟩ ?_;simp only [List.set_cons_zero,List.set_cons_succ,go_sem,simprocAttr,bZ,qV])
 (refine iC hX 7 1 201 (.tip 25 1 []) rfl rfl rfl (by simp only [go_sem,simprocAttr,bZ,qV]) (by decide) (by simp [go_sem,simprocAttr,bZ,qV]) ⟨25,1,by decide, .inr rfl⟩ ?_;simp only [List.set_cons_zero,List.set_cons_succ,go_sem,simprocAttr,bZ,qV])
 refine ag (fun k:Nat=>k≤N) (fun k=>⟨[(2, .ptr 2 0),(3, .ptr 3 0),(4, .ptr 4 0),(5,eN 0),(6, .d (vw g)),(7, .ptr 7 0),(19,eN N),(20,eN k)], [(2, .box [eN N, .d (sE g.es)]),(3, .box [.d (sI b.y), .d (sI b.fr), .d (sI b.to), .d (sI b.x)]),(4, .box [.nil 3, .nil 25]),(7, .box [.ref 200, .ref 201]),(200, .own 3 1 ((ff k).map rI)),(201, .tip 25 1 (vI (p.outs.take k)))]⟩) (fun k=>N - k) 0 (by omega) ?_ ?_
 ·refine Le.of ?_ ?_<;>simp [go_sem,simprocAttr,ff,vI]
 rintro k hk
 rcases Nat.lt_or_ge k N with bS|Bh
 ·have hb:decide ((k:Int)<(N:Int))=true:=decide_eq_true (by omega)
  have hO:=hO k bS
  have Ou:=Ou k bS
  have ef:vI (p.outs.take (k+1))=vI (p.outs.take k)++ [[sI (p.outs.getD k [])]]:=by
   simp only [vI];rw [lR (d:= []) (show k<p.outs.length by omega)]
  have hna:=EM (k:=k)
  have pZ:(p.outs.take k).length=k:=by rw [List.length_take];omega
  have n0:(ff k).length=k:=jE
  generalize p.outs.getD k []=L at Ou ef
  generalize bu g (k:Int)=l at hO Ou
  generalize HZ:p.outs.take (k+1)=T2 at ef
  generalize p.outs.take k=T1 at ef pZ
  generalize U6:(ff (k+1)).map rI=A2 at hna
  generalize ff k=A1 at hna n0
  repeat' (first|(show cw _ (.seq (.region 9 _ _) _) _ _;(refine dO hX 7 0 27 200 rfl rfl rfl (by first|exact .inl rfl|exact .inr rfl) (by decide) (by decide) ?_;simp only [List.set_cons_zero,List.set_cons_succ,go_sem,simprocAttr,hb,pZ,n0,qV]))|(show cw _ (.region 11 _ _) _ _;(refine dN hX 31 rfl (.inl rfl) ?_;simp only [go_sem,simprocAttr,hb,pZ,n0,qV]))|(show cw _ (.region 12 _ _) _ _;(refine dO hX 7 1 39 201 rfl rfl rfl (by first|exact .inl rfl|exact .inr rfl) (by decide) (by decide) ?_;simp only [List.set_cons_zero,List.set_cons_succ,go_sem,simprocAttr,hb,pZ,n0,qV]))|refine Rn.p ?_|(with_reducible apply And.intro)|((first|(refine hK _ ?_;clear hK K)|with_reducible intro K hK|refine Rs.p ?_|((with_reducible first|apply oP|apply oQ);exact rfl)|(refine lG hX hC hP 31 (hO) rfl rfl rfl ?_ ?_ (by first|exact ⟨_,_,_,rfl,Ae⟩|exact ⟨_,_,_,rfl,Af⟩|exact ⟨_,_,_,rfl,Ah⟩) rfl (by decide) ?_;(iterate 2 (focus (simp only [go_sem,simprocAttr,hb,pZ,n0,qV];done)));simp only [go_sem,simprocAttr,hb,pZ,n0,qV])|(refine aA hX hC hP [(10000,31),(10001,3)] (Ou) rfl rfl rfl ?_ ?_ ?_ ?_ ?_ ?_ ?_ ?_ ?_ ?_ ?_ ?_ ?_ ?_;(focus (simp only [go_sem,simprocAttr,hb,pZ,n0,qV];done));(iterate 12 (focus (simp [go_sem,simprocAttr,hb,pZ,n0,qV];done)));try simp only [List.map_cons,List.map_nil]));try simp only [go_sem,simprocAttr,hb,pZ,n0,qV])|((with_reducible refine oD ?_ ?_);kernel_rfl)|((with_reducible intro h);try simp only [go_sem,simprocAttr,hb,pZ,n0,qV] at h)|omega|intro h)
  refine ⟨k+1,by omega, ?_,by omega⟩
  rw [U6,HZ,hna,ef]
  refine Le.of ?_ ?_<;>simp [go_sem,simprocAttr,hb,pZ,n0,qV,rI]
 have hb:decide ((k:Int)<(N:Int))=false:=decide_eq_false (by omega)
 obtain rfl:k=N:=by omega
 rw [show p.outs.take k=p.outs by rw [← lo];exact List.take_length]
 generalize ff k=A1 at*
 repeat' (first|refine Rn.p ?_|(with_reducible apply And.intro)|((first|(refine hK _ ?_;clear hK K)|with_reducible intro K hK|refine Rs.p ?_|((with_reducible first|apply oP|apply oQ);exact rfl)|(refine aA hX hC hP [(10000,200),(10001,3)] (U5) rfl rfl rfl ?_ ?_ ?_ ?_ ?_ ?_ ?_ ?_ ?_ ?_ ?_ ?_ ?_ ?_;(focus (simp only [go_sem,simprocAttr,hb,qV];done));(iterate 12 (focus (simp [go_sem,simprocAttr,hb,qV];done)));try simp only [List.map_cons,List.map_nil]));try simp only [go_sem,simprocAttr,hb,qV])|((with_reducible refine oD ?_ ?_);kernel_rfl)|((with_reducible intro h);try simp only [go_sem,simprocAttr,hb,qV] at h)|omega|intro h)
end Go.Ab
end
section
namespace Go.Ab
open Go.Proofs
attribute [local congr] ACall.congr gd.congr Nx.congr
set_option maxRecDepth 20000
set_option maxHeartbeats 16000000
def S6 (n:Nat) (us:List Int):List Bool:=(List.range n).map fun x:Nat=>decide ((x:Int)∈us)
def S7 (n:Nat) (ls:List (List Int)) (k:Nat):List (List Int):=(List.range n).map fun x=>if x<k then ls.getD x [] else []
def JA (b:Br) (u v:Int):Bool:=decide (yB b u<yB b v)||(decide (yB b u=yB b v)&&decide (fB b u<fB b v))
def S8 (b:Br) (a c:Int):Bool:=decide (xB b c<xB b a)
end Go.Ab
end
section
namespace Go.Ab
open Go.Proofs
attribute [local congr] ACall.congr gd.congr Nx.congr
set_option maxRecDepth 20000
set_option maxHeartbeats 16000000
theorem xM {f:Nat→List Int} {n i:Nat} (h:i<n):((List.range n).map f).getD i []=f i:=by
 rw [List.getD_eq_getElem?_getD,List.getElem?_map,List.getElem?_range h];rfl
theorem HW {g:Gr} {b:Br} (h:vv g b):∃p,sV g b p:=by
 have hm:=an h.tZ
 have hn:=aM hm
 have ly:=h.ly
 have U7:∀u v:Int,iN g u→iN g v→u≠v→AL b u v∨AL b v u:=fun u v hu hv hne=>by
  have EW:=hu.1;have SV:=hu.2;have ta:=hv.1;have A7:=hv.2
  have key:∀u v:Int,iN g u→iN g v→u.toNat<v.toNat→AL b u v∨AL b v u:=fun u v hu hv hlt=>by
   have EW:=hu.1;have SV:=hu.2;have ta:=hv.1;have A7:=hv.2
   have a1:=h.apart v.toNat (by omega) u.toNat hlt
   have a2:=h.SR u.toNat (by omega)
   have a3:=h.SR v.toNat (by omega)
   unfold AL yB fB
   omega
  rcases Nat.lt_or_gt_of_ne (show u.toNat≠v.toNat by omega) with h1|h1
  ·exact key u v hu hv h1
  ·exact (key v u hv hu h1).symm
 have dx:∀(x:Nat) (i k:Int),i∈bu g x→k∈bu g x→i≠k→xB b i≠xB b k:=fun x i k hi hk hne=>by
  obtain ⟨⟨i0,i1⟩,i2⟩:=dY hi
  obtain ⟨⟨k0,k1⟩,k2⟩:=dY hk
  have key:∀i k:Nat,k<i→i<g.es.length→tl g i=tl g k→b.x.getD i 0≠b.x.getD k 0:=fun i k hki hi e e2=>by
   have u1:=(h.up i hi).1
   have u2:=(h.up k (by omega)).1
   rw [e] at u1
   exact h.Of i hi k hki ⟨e2.symm,by rw [e];exact u2,by exact u1⟩
  have e:tl g i.toNat=tl g k.toNat:=by show (g.es.getD _ _).1=(g.es.getD _ _).1;rw [i2,k2]
  unfold xB
  rcases Nat.lt_or_gt_of_ne (show i.toNat≠k.toNat by omega) with h1|h1
  ·exact Ne.symm (key k.toNat i.toNat h1 (by omega) e.symm)
  ·exact key i.toNat k.toNat h1 (by omega) e
 refine ⟨⟨J6 (fun a c=>JA b c a) g.n.toNat (ff g.n.toNat),(List.range g.n.toNat).map fun x:Nat=>J6 (S8 b) (bu g x).length (bu g x)⟩,⟨qS, ?_,by simp,fun x hx=> ?_,fun x hx=> ?_⟩⟩
 ·refine pV (S:=fun v=>iN g v) (fun a c d _ _ _ h1 h2=>by unfold AL at*;omega) (fun a c ha hc hne=> ?_) (by rw [jE];omega) ig fun v hv=>by have:=dX.1 hv;exact ⟨by omega,by omega⟩
  have:=U7 a c ha hc hne
  by_cases h1:JA b c a=true
  ·rw [if_pos h1]
   simp only [JA,Bool.or_eq_true,Bool.and_eq_true,decide_eq_true_eq] at h1
   unfold AL;omega
  ·rw [if_neg h1]
   simp only [JA,Bool.or_eq_true,Bool.and_eq_true,decide_eq_true_eq] at h1
   unfold AL at*;omega
 ·rw [xM hx];exact qS
 ·rw [xM hx]
  refine pV (S:=fun i=>i∈bu g (x:Int)) (fun a c d _ _ _ h1 h2=>by omega) (fun a c ha hc hne=> ?_) (Nat.le_refl _) cq fun i hi=>hi
  have:=dx x a c ha hc hne
  simp only [S8,decide_eq_true_eq]
  split<;>omega
end Go.Ab
end
section
namespace Go.Ab
open Go.Proofs
attribute [local congr] ACall.congr gd.congr Nx.congr
set_option maxRecDepth 20000
set_option maxHeartbeats 16000000
theorem AT (l:List Int) (hl:l.length≤100000):Spec Tryz.prog 81 (Args [.d (sI l), .d (sI l)]) [] (eB true) []:=by
 cases l with
 |nil=>
  (refine Spec.hd (C:=T.cfg [] []) (rs:= [.t 4]) (T.ah _ _) Tryz.func81 rfl rfl Tryz.ntmps81 Tryz.results81 (by simp [AObj.isNest]) (by simp [AObj.isNest]) (by kernel_rfl) T.mixed fun X hX hP hC aI bU=> ?_)
  repeat' (first|refine Rn.p ?_|(with_reducible apply And.intro)|((first|(refine hK _ ?_;clear hK K)|with_reducible intro K hK|refine Rs.p ?_|((with_reducible first|apply oP|apply oQ);exact rfl));try simp only [go_sem,simprocAttr])|((with_reducible refine oD ?_ ?_);kernel_rfl)|((with_reducible intro h);try simp only [go_sem,simprocAttr] at h)|omega|intro h)
  refine ag (ι:=Unit) (fun _=>True) (fun _=>⟨[(0, .d (sI [])),(1, .d (sI [])),(7,eN (0:Nat)),(8,eN (0:Nat))], []⟩) (fun _=>0) () trivial ?_ ?_
  ·refine Le.of ?_ ?_<;>simp [go_sem,simprocAttr]
  rintro _ _
  repeat' (first|refine Rn.p ?_|(with_reducible apply And.intro)|((first|(refine hK _ ?_;clear hK K)|with_reducible intro K hK|refine Rs.p ?_|((with_reducible first|apply oP|apply oQ);exact rfl));try simp only [go_sem,simprocAttr])|((with_reducible refine oD ?_ ?_);kernel_rfl)|((with_reducible intro h);try simp only [go_sem,simprocAttr] at h)|omega|intro h)
 |cons a r=>
  have O0:=eu [a::r, []] (by simp) (by simp) (by simp at hl ⊢;omega)
  have hE:=eW (a::r) (a::r) (by simp at hl ⊢;omega)
  have e: [a::r, []].flatten=a::r:=by simp
  rw [e] at O0
  simp only [decide_true] at hE
  generalize hL:a::r=L at*
  have hb:decide ((0:Int)<(L.length:Int))=true:=decide_eq_true (by rw [← hL];simp)
  have pK:List.take L.length (L.map rI)=L.map rI:=List.take_of_length_le (by simp)
  simp only [vL,List.map_cons,List.map_nil,sI] at O0
  (refine Spec.hd (C:=T.cfg [] []) (rs:= [.t 4]) (T.ah _ _) Tryz.func81 rfl rfl Tryz.ntmps81 Tryz.results81 (by simp [AObj.isNest]) (by simp [AObj.isNest]) (by kernel_rfl) T.mixed fun X hX hP hC aI bU=> ?_)
  repeat' (first|refine Rn.p ?_|(with_reducible apply And.intro)|((first|(refine hK _ ?_;clear hK K)|with_reducible intro K hK|refine Rs.p ?_|((with_reducible first|apply oP|apply oQ);exact rfl)|(refine aZ hX hC hP (O0) rfl rfl rfl ?_ ?_ rfl ?_;iterate 2 (focus (simp only [go_sem,simprocAttr,hb,pK];done)))|refine aa hX hC hP (hE) rfl rfl rfl (by simp only [go_sem,simprocAttr,hb,pK]) rfl ?_);try simp only [go_sem,simprocAttr,hb,pK])|((with_reducible refine oD ?_ ?_);kernel_rfl)|((with_reducible intro h);try simp only [go_sem,simprocAttr,hb,pK] at h)|omega|intro h)
  refine ag (ι:=Unit) (fun _=>True) (fun _=>⟨[(0, .d (sI L)),(1, .d (sI L)),(7,eN L.length),(8,eN (0:Nat))], []⟩) (fun _=>0) () trivial ?_ ?_
  ·refine Le.of ?_ ?_<;>simp [go_sem,simprocAttr,hb,pK]
  rintro _ _
  repeat' (first|refine Rn.p ?_|(with_reducible apply And.intro)|((first|(refine hK _ ?_;clear hK K)|with_reducible intro K hK|refine Rs.p ?_|((with_reducible first|apply oP|apply oQ);exact rfl)|(refine aZ hX hC hP (O0) rfl rfl rfl ?_ ?_ rfl ?_;iterate 2 (focus (simp only [go_sem,simprocAttr,hb,pK];done)))|refine aa hX hC hP (hE) rfl rfl rfl (by simp only [go_sem,simprocAttr,hb,pK]) rfl ?_);try simp only [go_sem,simprocAttr,hb,pK])|((with_reducible refine oD ?_ ?_);kernel_rfl)|((with_reducible intro h);try simp only [go_sem,simprocAttr,hb,pK] at h)|omega|intro h)
theorem AU (ls:List (List Int)) (hn:ls.length≤1000) (hl:∀l∈ls,l.length≤100000):Spec Tryz.prog 80 (Args [.d (.sl 1 (vI ls)), .d (.sl 1 (vI ls)), .fn 81 [] []]) [] (eB true) []:=by
 (refine Spec.hd (C:=T.cfg [] []) (rs:= [.t 6]) (T.ah _ _) Tryz.func80 rfl rfl Tryz.ntmps80 Tryz.results80 (by simp [AObj.isNest]) (by simp [AObj.isNest]) (by kernel_rfl) T.mixed fun X hX hP hC aI bU=> ?_)
 repeat' (first|refine Rn.p ?_|(with_reducible apply And.intro)|((first|(refine hK _ ?_;clear hK K)|with_reducible intro K hK|refine Rs.p ?_|((with_reducible first|apply oP|apply oQ);exact rfl));try simp only [go_sem,simprocAttr,vI_length])|((with_reducible refine oD ?_ ?_);kernel_rfl)|((with_reducible intro h);try simp only [go_sem,simprocAttr,vI_length] at h)|omega|intro h)
 refine ag (fun k:Nat=>k≤ls.length) (fun k=>⟨[(1, .d (.sl 1 (vI ls))),(2, .fn 81 [] []),(15, .d (.sl 1 (vI ls))),(16,eN ls.length),(17,eN k)], []⟩) (fun k=>ls.length - k) 0 (by omega) ?_ ?_
 ·refine Le.of ?_ ?_<;>simp [go_sem,simprocAttr,vI_length]
 rintro k hk
 rcases Nat.lt_or_ge k ls.length with hlt|hge
 ·have hb:decide ((k:Int)<(ls.length:Int))=true:=decide_eq_true (by omega)
  have hv:=iu (ls:=ls) (k:=k) hlt
  have hT:=AT (ls.getD k []) (hl _ (aB hlt))
  repeat' (first|refine Rn.p ?_|(with_reducible apply And.intro)|((first|(refine hK _ ?_;clear hK K)|with_reducible intro K hK|refine Rs.p ?_|((with_reducible first|apply oP|apply oQ);exact rfl)|refine aa hX hC hP (hT) rfl rfl rfl (by simp only [go_sem,simprocAttr,vI_length,hb,hv]) rfl ?_);try simp only [go_sem,simprocAttr,vI_length,hb,hv])|((with_reducible refine oD ?_ ?_);kernel_rfl)|((with_reducible intro h);try simp only [go_sem,simprocAttr,vI_length,hb,hv] at h)|omega|intro h)
  refine ⟨k+1,by omega, ?_,by omega⟩
  refine Le.of ?_ ?_<;>simp [go_sem,simprocAttr,vI_length,hb,hv]
 ·have hb:decide ((k:Int)<(ls.length:Int))=false:=decide_eq_false (by omega)
  repeat' (first|refine Rn.p ?_|(with_reducible apply And.intro)|((first|(refine hK _ ?_;clear hK K)|with_reducible intro K hK|refine Rs.p ?_|((with_reducible first|apply oP|apply oQ);exact rfl));try simp only [go_sem,simprocAttr,hb])|((with_reducible refine oD ?_ ?_);kernel_rfl)|((with_reducible intro h);try simp only [go_sem,simprocAttr,hb] at h)|omega|intro h)
theorem Ce (ls:List (List Int)) (hn:ls.length≤1000) (hl:∀l∈ls,l.length≤100000):Spec Tryz.prog 30 (Args [.d (.sl 1 (vI ls)), .d (.sl 1 (vI ls))]) [] (eB true) []:=by
 have hE:=AU ls hn hl
 (refine Spec.hd (C:=T.cfg [] []) (rs:= [.t 4]) (T.ah _ _) Tryz.func30 rfl rfl Tryz.ntmps30 Tryz.results30 (by simp [AObj.isNest]) (by simp [AObj.isNest]) (by kernel_rfl) T.mixed fun X hX hP hC aI bU=> ?_)
 repeat' (first|refine Rn.p ?_|(with_reducible apply And.intro)|((first|(refine hK _ ?_;clear hK K)|with_reducible intro K hK|refine Rs.p ?_|((with_reducible first|apply oP|apply oQ);exact rfl)|refine aa hX hC hP (hE) rfl rfl rfl (by simp only [go_sem,simprocAttr]) rfl ?_);try simp only [go_sem,simprocAttr])|((with_reducible refine oD ?_ ?_);kernel_rfl)|((with_reducible intro h);try simp only [go_sem,simprocAttr] at h)|omega|intro h)
end Go.Ab
end
section
namespace Go.Ab
open Go.Proofs
attribute [local congr] ACall.congr gd.congr Nx.congr
set_option maxRecDepth 40000
set_option maxHeartbeats 32000000
theorem Cf {g:Gr} {p:Pl} (hr:bH g p) {x:Nat} (hx:x<g.n.toNat):(qR g p x).length≤20000:=by
 have hn:=aM (an hr.1)
 have h1:=(y4 hr hx).1
 have h2:=(y3 hr hx).1
 unfold qR
 rw [List.length_append,List.length_map,List.length_map]
 have:=List.length_filter_le (fun t:It=> !decide (t.1= -1)) ((dM g p g.n.toNat).getD x []).reverse
 rw [List.length_reverse] at this
 omega
theorem AW {g:Gr} {p:Pl} (hr:bH g p):(eZ g p).length≤1000∧∀l∈eZ g p,l.length≤100000:=by
 have hn:=aM (an hr.1)
 have hlen:=hr.2.1.1
 refine ⟨by rw [oo];omega,fun l hl=> ?_⟩
 obtain ⟨x,hx,rfl⟩:=List.mem_map.1 hl
 have:=Cf hr (x:=x) (by have:=List.mem_range.1 hx;omega)
 omega
theorem vY (g:Gr) (p:Pl) (hl:g.es.length≤9223372036854775807) (hp:CT p):Spec Tryz.prog 7 (Args [eG g,ePl p]) [] (eB true) []:=by
 obtain ⟨b,hr⟩:=Uy g p
 have O1:=yV g hl p hp b hr
 (refine Spec.hd (C:=T.cfg [] []) (rs:= [.t 4]) (T.ah _ _) Tryz.func7 rfl rfl Tryz.ntmps7 Tryz.results7 (by simp [AObj.isNest]) (by simp [AObj.isNest]) (by kernel_rfl) T.mixed fun X hX hP hC aI bU=> ?_)
 cases ha:AG b g p with
 |false=>
  rw [ha] at O1
  repeat' (first|refine Rn.p ?_|(with_reducible apply And.intro)|((first|(refine hK _ ?_;clear hK K)|with_reducible intro K hK|refine Rs.p ?_|((with_reducible first|apply oP|apply oQ);exact rfl)|refine aa hX hC hP (oU) rfl rfl rfl (by simp only [go_sem,simprocAttr]) rfl ?_|refine aa hX hC hP (O1) rfl rfl rfl (by simp only [go_sem,simprocAttr]) rfl ?_);try simp only [go_sem,simprocAttr])|((with_reducible refine oD ?_ ?_);kernel_rfl)|((with_reducible intro h);try simp only [go_sem,simprocAttr] at h)|omega|intro h)
 |true=>
 rw [ha] at O1
 obtain ⟨hB,hI,hrun,h0,gW⟩:=Lk hr ha
 have hm:=an hrun.1
 have hn:=aM hm
 have hD:=xD g p hB hrun hI h0 gW b hr
 have hR:=AP hrun hI h0 gW
 obtain ⟨q,hq⟩:=HW hR
 obtain ⟨Ma,KC⟩:=EJ hrun hI h0 gW hq
 have hy:(gF g p).y.length≤1000:=by have:=hR.ly;omega
 have hx:(gF g p).x.length≤1000:=by have:=hR.lx;omega
 have RY:=vS g (gF g p) (by omega) hy hx
 rw [xI.2 hR] at RY
 have S9:=EG (gF g p)
 have Ta:=vX g (gF g p) q (by omega) hy hx hR hq
 have U8:=xL g (by omega) p hrun
 have HZ:=xL g (by omega) q Ma
 rw [KC] at HZ
 obtain ⟨s1,s2⟩:=AW hrun
 have Oo:=Ce (eZ g p) s1 s2
 generalize eZ g p=T at*
 have LP:bZ (gF g p)= .agg [.d (sI (gF g p).y), .d (sI (gF g p).fr), .d (sI (gF g p).to), .d (sI (gF g p).x)]:=rfl
 rw [LP] at hD RY S9 Ta
 generalize (gF g p).y=ys at*
 generalize (gF g p).fr=fs at*
 generalize (gF g p).to=ts at*
 generalize (gF g p).x=xs at*
 repeat' (first|refine Rn.p ?_|(with_reducible apply And.intro)|((first|(refine hK _ ?_;clear hK K)|with_reducible intro K hK|refine Rs.p ?_|((with_reducible first|apply oP|apply oQ);exact rfl)|refine aa hX hC hP (oU) rfl rfl rfl (by simp only [go_sem,simprocAttr]) rfl ?_|refine aa hX hC hP (O1) rfl rfl rfl (by simp only [go_sem,simprocAttr]) rfl ?_|refine aa hX hC hP (hD) rfl rfl rfl (by simp only [go_sem,simprocAttr]) rfl ?_|refine aa hX hC hP (RY) rfl rfl rfl (by simp only [go_sem,simprocAttr]) rfl ?_|refine aa hX hC hP (S9) rfl rfl rfl (by simp only [go_sem,simprocAttr]) rfl ?_|refine aa hX hC hP (Ta) rfl rfl rfl (by simp only [go_sem,simprocAttr]) rfl ?_|refine aa hX hC hP (U8) rfl rfl rfl (by simp only [go_sem,simprocAttr]) rfl ?_|refine aa hX hC hP (HZ) rfl rfl rfl (by simp only [go_sem,simprocAttr]) rfl ?_|refine aa hX hC hP (Oo) rfl rfl rfl (by simp only [go_sem,simprocAttr]) rfl ?_);try simp only [go_sem,simprocAttr])|((with_reducible refine oD ?_ ?_);kernel_rfl)|((with_reducible intro h);try simp only [go_sem,simprocAttr] at h)|omega|intro h)
end Go.Ab
end
