/- Around each vertex the augment's edges stand as the graph's do, when those that are new are left out: AugmentTurn, for every input, without a condition. -/
import Derived.Test.YtameldglfobjkaaRows
import Derived.ProofKit
import Derived.Test.YtameldglfobjkaaL1P17
set_option linter.unusedSimpArgs false
set_option linter.unusedVariables false
namespace Go.Proofs.Ytameldglfobjkaa
open Go.ChangeShapes Go.WideShapes Go.ChangeAt Go.RowKit Go.Ab
theorem Try.own:ownKnob Try.prog.godebug=none:=by kernel_rfl
theorem Try.laidOut:laidOutB Try.prog=true:=by kernel_rfl
set_option maxRecDepth 100000 in
theorem open_graph {H:Type} {enc:TypeId × Value→H} {W:World} {r:Reach} {b0:Nat} {v:Value} {d:DataW H} {ps:List MemPlace}
 (hval:Value.okWide Try.prog W r b0 24 v) (hd:DataW.Trod enc Try.prog W 0 (fun _=>true) true 24 v d ps):
 ∃g:Gr,bC W (jr W) (eG g) v∧g.es.length≤maxLen:=by
 simp only [Value.okWide,Try.underlying24] at hval
 obtain ⟨cs,rfl,hsz,_⟩:=hval
 obtain ⟨fuel,h⟩:=hd
 obtain ⟨y0,y1,n,hx,hl,h0,h1⟩:=trod_struct2 Try.underlying24 h
 have ct:Try.prog.cellsOf 24=2:=by kernel_rfl
 have ca:Try.prog.cellsOf 3=1:=by kernel_rfl
 have cb:Try.prog.cellsOf 22=1:=by kernel_rfl
 simp only [Value.cells] at h0 h1
 rw [ct] at hsz
 match hq:cs.toList with
 | []=>rw [← Array.length_toList,hq] at hsz;simp at hsz
 | [p]=>rw [← Array.length_toList,hq] at hsz;simp at hsz
 |p::q::r::l=>rw [← Array.length_toList,hq] at hsz;simp at hsz
 | [p,q]=>
   rw [hq] at h0 h1
   simp only [ca,cb,List.drop_zero,List.take_succ_cons,List.take_zero,List.drop_succ_cons] at h0 h1
   obtain ⟨x,hx0,_,_⟩:=DataW.trod_int Try.underlying3 h0
   simp only [List.cons.injEq,and_true] at hx0
   obtain ⟨es,vN,hel,_⟩:=yB Try.underlying22 Try.underlying42 (by kernel_rfl) rfl rfl (by kernel_rfl) (by kernel_rfl) Try.underlying3 Try.underlying3 h1
   refine ⟨⟨x,es⟩,⟨[p,q], ?_,p, [q],rfl, ?_,q, [],rfl,vN,rfl⟩,hel⟩
   ·congr 1;apply Array.toList_inj.1;rw [hq]
   ·rw [hx0];exact bA _ rfl
set_option maxRecDepth 100000 in
theorem open_plan {H:Type} {enc:TypeId × Value→H} {W:World} {r:Reach} {b0:Nat} {v:Value} {d:DataW H} {ps:List MemPlace}
 (hval:Value.okWide Try.prog W r b0 28 v) (hd:DataW.Trod enc Try.prog W 0 (fun _=>true) true 28 v d ps):
 ∃p:Pl,bC W (jr W) (ePl p) v∧yl p:=by
 simp only [Value.okWide,Try.underlying28] at hval
 obtain ⟨cs,rfl,hsz,_⟩:=hval
 obtain ⟨fuel,h⟩:=hd
 obtain ⟨y0,y1,n,hx,hl,h0,h1⟩:=trod_struct2 Try.underlying28 h
 have ct:Try.prog.cellsOf 28=2:=by kernel_rfl
 have ca:Try.prog.cellsOf 25=1:=by kernel_rfl
 have cb:Try.prog.cellsOf 26=1:=by kernel_rfl
 simp only [Value.cells] at h0 h1
 rw [ct] at hsz
 match hq:cs.toList with
 | []=>rw [← Array.length_toList,hq] at hsz;simp at hsz
 | [p]=>rw [← Array.length_toList,hq] at hsz;simp at hsz
 |p::q::r::l=>rw [← Array.length_toList,hq] at hsz;simp at hsz
 | [p,q]=>
   rw [hq] at h0 h1
   simp only [ca,cb,List.drop_zero,List.take_succ_cons,List.take_zero,List.drop_succ_cons] at h0 h1
   obtain ⟨os,hos,vM,_⟩:=uw Try.underlying25 Try.underlying3 (by kernel_rfl) h0
   obtain ⟨ls,hls,rz,hle⟩:=vG Try.underlying26 (by kernel_rfl) Try.underlying25 Try.underlying3 (by kernel_rfl) h1
   refine ⟨⟨os,ls⟩,⟨[p,q], ?_,p, [q],rfl,hos,q, [],rfl,hls,rfl⟩,⟨vM,rz,hle⟩⟩
   congr 1;apply Array.toList_inj.1;rw [hq]
set_option maxRecDepth 100000 in
theorem augmentTurn_lifted (os:Os) (started:os.Started) (H:Type) (enc:TypeId × Value→H):
 ReturnsInHanded {} Try.checked os 3 .any (Rows.augmentTurnSpec.pre6 enc Try.prog Try.f3 Rows.augmentTurnRow.domain false) (Rows.augmentTurnSpec.post enc Try.prog Try.f3 false true false false):=by
 refine returnsInHanded_of_change (C:=Try.checked) Try.own started (by kernel_rfl) Try.func3
  (ChangeSpec.witness6 (enc:=enc) (C:=Try.checked) false ⟨#[], #[.agg #[.int .i64 0, .slice none 0 0], .agg #[.slice none 0 0, .slice none 0 0]], []⟩ 8 (by kernel_rfl) (by kernel_rfl) (by kernel_rfl) (by kernel_rfl)) ?_
 intro W base args ds gs before Df hW IC _
 have hval:∀(j:Nat) t v,Try.f3.params[j]? =some t→args[j]? =some v→Value.okWide Try.prog W .any base t v:=Df
 have ID:=hW
 obtain ⟨p,q,IE,hV,rfl,hfz,eD⟩:=hW
 have hA:DataW.TrodAll enc Try.prog W 0 (fun _=>true) true Try.f3.params.toList args.toList ds p:=IE
 rw [Try.params3] at hA hval
 obtain ⟨v0,Jf,d0,Jg,p0,q0,hargs,rfl,rfl,k0,r0⟩:=trodAll_cons hA
 obtain ⟨v1,Jh,d1,Ji,p1,q1,rfl,rfl,rfl,k1,r1⟩:=trodAll_cons r0
 obtain ⟨rfl,rfl,rfl⟩:=trodAll_nil r1
 obtain ⟨rfl,rfl⟩:=trodVars_none hV
 have EP:args= #[v0,v1]:=by apply Array.toList_inj.1;simpa using hargs
 subst EP
 obtain ⟨x0,e0,h0⟩:=open_graph (hval 0 24 v0 rfl rfl) k0
 obtain ⟨x1,e1,h1⟩:=open_plan (hval 1 28 v1 rfl rfl) k1
 refine (uO (lF x0 x1 h0 h1) (W:=W) ⟨_,_,rfl,e0,_,_,rfl,e1,rfl⟩).mono fun e W' ⟨he,hb⟩=> ?_
 subst he
 exact ⟨_,rfl, [d0,d1], [],_, [],_, [],ID,trodAll_mk1 (shut_bool Try.underlying4 true),pn Try.laidOut hb (by kernel_rfl) hA,rfl,hb.frame _,fun h=>by cases h⟩
theorem augmentTurn_holds:Rows.AugmentTurnSaid:=
 OpenClaim.holds_of_wide 3 Try.f3 rfl rfl rfl rfl rfl rfl rfl ⟨rfl,rfl,rfl,rfl,rfl⟩ rfl rfl rfl rfl rfl (by kernel_rfl) Try.func3 (by kernel_rfl)
  (of_decide_eq_true (by kernel_rfl)) (by unfold Func.isWrapper;first|(rw [if_pos (by decide+kernel)];kernel_rfl)|(rw [if_neg (by decide+kernel)];exact ⟨rfl,rfl⟩))
  (fun os started H enc _=>augmentTurn_lifted os started H enc)
end Go.Proofs.Ytameldglfobjkaa
