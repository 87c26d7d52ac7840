/- Of any bars that are right for a good graph, whichever they are, a plan comes that runs: BarsUp, for every input, without a condition. -/
import Derived.Test.YtjmaiddbinlooaaGreatRows
import Derived.ProofKit
import Derived.Lib.SmallJoins
import Derived.Test.YtjmaiddbinlooaaGreatL8P21
set_option linter.unusedSimpArgs false
set_option linter.unusedVariables false
namespace Go.Proofs.YtjmaiddbinlooaaGreat
open Go.ChangeShapes Go.WideShapes Go.ChangeAt Go.RowKit Go.Ab Go.Joins
theorem Tryz.own:ownKnob Tryz.prog.godebug=none:=by kernel_rfl
theorem Tryz.laidOut:laidOutB Tryz.prog=true:=by kernel_rfl
set_option maxRecDepth 100000 in
theorem open_graph {H:Type} {enc:TypeId × Value→H} {W:World} {r:Reach} {b0:Nat} {v:Value} {d:DataW H} {ps:List MemPlace}
 (hval:Value.okWide Tryz.prog W r b0 24 v) (hd:DataW.Trod enc Tryz.prog W 0 (fun _=>true) true 24 v d ps):
 ∃g:Gr,cq W (qQ W) (eG g) v∧g.es.length≤maxLen:=by
 simp only [Value.okWide,Tryz.underlying24] at hval
 obtain ⟨cs,rfl,hsz,_⟩:=hval
 obtain ⟨fuel,h⟩:=hd
 obtain ⟨y0,y1,n,hx,hl,h0,h1⟩:=trod_struct2 Tryz.underlying24 h
 have ct:Tryz.prog.cellsOf 24=2:=by kernel_rfl
 have ca:Tryz.prog.cellsOf 3=1:=by kernel_rfl
 have cb:Tryz.prog.cellsOf 22=1:=by kernel_rfl
 simp only [Value.cells] at h0 h1
 rw [ct] at hsz
 match hq:cs.toList with
 | []=>rw [← Array.length_toList,hq] at hsz;simp at hsz
 | [p]=>rw [← Array.length_toList,hq] at hsz;simp at hsz
 |p::q::r::l=>rw [← Array.length_toList,hq] at hsz;simp at hsz
 | [p,q]=>
   rw [hq] at h0 h1
   simp only [ca,cb,List.drop_zero,List.take_succ_cons,List.take_zero,List.drop_succ_cons] at h0 h1
   obtain ⟨x,hx0,_,_⟩:=DataW.trod_int Tryz.underlying3 h0
   simp only [List.cons.injEq,and_true] at hx0
   obtain ⟨es,IL,hel,_⟩:=Fg Tryz.underlying22 Tryz.underlying58 (by kernel_rfl) rfl rfl (by kernel_rfl) (by kernel_rfl) Tryz.underlying3 Tryz.underlying3 h1
   refine ⟨⟨x,es⟩,⟨[p,q], ?_,p, [q],rfl, ?_,q, [],rfl,IL,rfl⟩,hel⟩
   ·congr 1;apply Array.toList_inj.1;rw [hq]
   ·rw [hx0];exact cD _ rfl
set_option maxRecDepth 100000 in
theorem open_bars {H:Type} {enc:TypeId × Value→H} {W:World} {r:Reach} {b0:Nat} {v:Value} {d:DataW H} {ps:List MemPlace}
 (hval:Value.okWide Tryz.prog W r b0 67 v) (hd:DataW.Trod enc Tryz.prog W 0 (fun _=>true) true 67 v d ps):
 ∃b:Br,cq W (qQ W) (aI b) v∧b.y.length≤maxLen∧b.fr.length≤maxLen∧b.to.length≤maxLen∧b.x.length≤maxLen:=by
 simp only [Value.okWide,Tryz.underlying67] at hval
 obtain ⟨cs,rfl,hsz,_⟩:=hval
 obtain ⟨fuel,h⟩:=hd
 obtain ⟨y0,y1,y2,y3,n,hx,hl,h0,h1,h2,h3⟩:=trod_struct4 Tryz.underlying67 h
 have ct:Tryz.prog.cellsOf 67=4:=by kernel_rfl
 have ca:Tryz.prog.cellsOf 25=1:=by kernel_rfl
 simp only [Value.cells] at h0 h1 h2 h3
 rw [ct] at hsz
 obtain ⟨p,q,r,s,hq⟩:∃p q r s,cs.toList= [p,q,r,s]:=by
  match hq:cs.toList with
  | [p,q,r,s]=>exact ⟨p,q,r,s,rfl⟩
  | []| [_]| [_,_]| [_,_,_]|_::_::_::_::_::_=>rw [← Array.length_toList,hq] at hsz;simp at hsz
 rw [hq] at h0 h1 h2 h3
 simp only [ca,List.drop_zero,List.take_succ_cons,List.take_zero,List.drop_succ_cons] at h0 h1 h2 h3
 obtain ⟨l0,e0,f0,_⟩:=rN Tryz.underlying25 Tryz.underlying3 (by kernel_rfl) h0
 obtain ⟨l1,e1,f1,_⟩:=rN Tryz.underlying25 Tryz.underlying3 (by kernel_rfl) h1
 obtain ⟨l2,e2,f2,_⟩:=rN Tryz.underlying25 Tryz.underlying3 (by kernel_rfl) h2
 obtain ⟨l3,e3,f3,_⟩:=rN Tryz.underlying25 Tryz.underlying3 (by kernel_rfl) h3
 refine ⟨⟨l0,l1,l2,l3⟩,⟨[p,q,r,s], ?_,p,_,rfl,e0,q,_,rfl,e1,r,_,rfl,e2,s, [],rfl,e3,rfl⟩,f0,f1,f2,f3⟩
 congr 1;apply Array.toList_inj.1;rw [hq]
set_option maxRecDepth 100000 in
theorem barsUp_lifted (os:Os) (started:os.Started) (H:Type) (enc:TypeId × Value→H):
 ReturnsInHanded {} Tryz.checked os 13 .any (Rows.barsUpSpec.pre6 enc Tryz.prog Tryz.f13 Rows.barsUpRow.domain false) (Rows.barsUpSpec.post enc Tryz.prog Tryz.f13 false true false false):=by
 refine returnsInHanded_of_change (C:=Tryz.checked) Tryz.own started (by kernel_rfl) Tryz.func13
  (ChangeSpec.witness6 (enc:=enc) (C:=Tryz.checked) false ⟨#[], #[.agg #[.int .i64 0, .slice none 0 0], .agg #[.slice none 0 0, .slice none 0 0, .slice none 0 0, .slice none 0 0]], []⟩ 8 (by kernel_rfl) (by kernel_rfl) (by kernel_rfl) (by kernel_rfl)) ?_
 intro W base args ds gs before KO hW Qj _
 have hval:∀(j:Nat) t v,Tryz.f13.params[j]? =some t→args[j]? =some v→Value.okWide Tryz.prog W .any base t v:=KO
 have Qk:=hW
 obtain ⟨p,q,NX,hV,rfl,hfz,b7⟩:=hW
 have hA:DataW.TrodAll enc Tryz.prog W 0 (fun _=>true) true Tryz.f13.params.toList args.toList ds p:=NX
 rw [Tryz.params13] at hA hval
 obtain ⟨v0,Q4,d0,Q5,p0,q0,hargs,rfl,rfl,k0,r0⟩:=trodAll_cons hA
 obtain ⟨v1,Q6,d1,Q7,p1,q1,rfl,rfl,rfl,k1,r1⟩:=trodAll_cons r0
 obtain ⟨rfl,rfl,rfl⟩:=trodAll_nil r1
 obtain ⟨rfl,rfl⟩:=trodVars_none hV
 have Ql:args= #[v0,v1]:=by apply Array.toList_inj.1;simpa using hargs
 subst Ql
 obtain ⟨x0,e0,h0⟩:=open_graph (hval 0 24 v0 rfl rfl) k0
 obtain ⟨x1,e1,h1⟩:=open_bars (hval 1 67 v1 rfl rfl) k1
 refine (BF (yZ x0 x1) (W:=W) ⟨_,_,rfl,e0,_,_,rfl,e1,rfl⟩).mono fun e W' ⟨he,hb⟩=> ?_
 subst he
 exact ⟨_,rfl, [d0,d1], [],_, [],_, [],Qk,trodAll_mk1 (shut_bool Tryz.underlying4 true),vD Tryz.laidOut hb (by kernel_rfl) hA,rfl,hb.frame _,fun h=>by cases h⟩
theorem barsUp_holds:Rows.BarsUpSaid:=
 OpenClaim.holds_of_wide 13 Tryz.f13 rfl rfl rfl rfl rfl rfl rfl ⟨rfl,rfl,rfl,rfl,rfl⟩ rfl rfl rfl rfl rfl (by kernel_rfl) Tryz.func13 (by kernel_rfl)
  (of_decide_eq_true (by kernel_rfl)) (by unfold Func.isWrapper;first|(rw [if_pos (by decide+kernel)];kernel_rfl)|(rw [if_neg (by decide+kernel)];exact ⟨rfl,rfl⟩))
  (fun os started H enc _=>barsUp_lifted os started H enc)
end Go.Proofs.YtjmaiddbinlooaaGreat
