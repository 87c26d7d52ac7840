/- With an edge more blocks come together, and never part: the edges of each block are all in one block then: BlockGrows, for every input, without a condition. -/
import Derived.Test.YtameldglfobjkaaRows
import Derived.ProofKit
import Derived.Test.YtameldglfobjkaaL4P17
set_option linter.unusedSimpArgs false
set_option linter.unusedVariables false
namespace Go.Proofs.Ytameldglfobjkaa
open Go.ChangeShapes Go.WideShapes Go.ChangeAt Go.RowKit Go.Ab
theorem Try.own:ownKnob Try.prog.godebug=none:=by kernel_rfl
theorem Try.laidOut:laidOutB Try.prog=true:=by kernel_rfl
set_option maxRecDepth 100000 in
theorem open_graph {H:Type} {enc:TypeId × Value→H} {W:World} {r:Reach} {b0:Nat} {v:Value} {d:DataW H} {ps:List MemPlace}
 (hval:Value.okWide Try.prog W r b0 24 v) (hd:DataW.Trod enc Try.prog W 0 (fun _=>true) true 24 v d ps):
 ∃g:Gr,aN W (lM W) (eG g) v∧g.es.length≤maxLen:=by
 simp only [Value.okWide,Try.underlying24] at hval
 obtain ⟨cs,rfl,hsz,_⟩:=hval
 obtain ⟨fuel,h⟩:=hd
 obtain ⟨y0,y1,n,hx,hl,h0,h1⟩:=trod_struct2 Try.underlying24 h
 have ct:Try.prog.cellsOf 24=2:=by kernel_rfl
 have ca:Try.prog.cellsOf 3=1:=by kernel_rfl
 have cb:Try.prog.cellsOf 22=1:=by kernel_rfl
 simp only [Value.cells] at h0 h1
 rw [ct] at hsz
 match hq:cs.toList with
 | []=>rw [← Array.length_toList,hq] at hsz;simp at hsz
 | [p]=>rw [← Array.length_toList,hq] at hsz;simp at hsz
 |p::q::r::l=>rw [← Array.length_toList,hq] at hsz;simp at hsz
 | [p,q]=>
   rw [hq] at h0 h1
   simp only [ca,cb,List.drop_zero,List.take_succ_cons,List.take_zero,List.drop_succ_cons] at h0 h1
   obtain ⟨x,hx0,_,_⟩:=DataW.trod_int Try.underlying3 h0
   simp only [List.cons.injEq,and_true] at hx0
   obtain ⟨es,mF,hel,_⟩:=tP Try.underlying22 Try.underlying42 (by kernel_rfl) rfl rfl (by kernel_rfl) (by kernel_rfl) Try.underlying3 Try.underlying3 h1
   refine ⟨⟨x,es⟩,⟨[p,q], ?_,p, [q],rfl, ?_,q, [],rfl,mF,rfl⟩,hel⟩
   ·congr 1;apply Array.toList_inj.1;rw [hq]
   ·rw [hx0];exact aP _ rfl
set_option maxRecDepth 100000 in
theorem open_num {H:Type} {enc:TypeId × Value→H} {W:World} {r:Reach} {b0:Nat} {v:Value} {d:DataW H} {ps:List MemPlace}
 (hval:Value.okWide Try.prog W r b0 3 v) (hd:DataW.Trod enc Try.prog W 0 (fun _=>true) true 3 v d ps):
 ∃n:Int,aN W (lM W) (eN n) v∧(-9223372036854775808≤n∧n≤9223372036854775807):=by
 obtain ⟨n,rfl,_,_,hw⟩:=open_int Try.underlying3 hval hd
 exact ⟨n,aP _ rfl,wf_i64 hw⟩
set_option maxRecDepth 100000 in
theorem blockGrows_lifted (os:Os) (started:os.Started) (H:Type) (enc:TypeId × Value→H):
 ReturnsInHanded {} Try.checked os 5 .any (Rows.blockGrowsSpec.pre6 enc Try.prog Try.f5 Rows.blockGrowsRow.domain false) (Rows.blockGrowsSpec.post enc Try.prog Try.f5 false true false false):=by
 refine returnsInHanded_of_change (C:=Try.checked) Try.own started (by kernel_rfl) Try.func5
  (ChangeSpec.witness6 (enc:=enc) (C:=Try.checked) false ⟨#[], #[.agg #[.int .i64 0, .slice none 0 0], .int .i64 0, .int .i64 0], []⟩ 8 (by kernel_rfl) (by kernel_rfl) (by kernel_rfl) (by kernel_rfl)) ?_
 intro W base args ds gs before Aa hW Fy _
 have hval:∀(j:Nat) t v,Try.f5.params[j]? =some t→args[j]? =some v→Value.okWide Try.prog W .any base t v:=Aa
 have Fz:=hW
 obtain ⟨p,q,FA,hV,rfl,hfz,bI⟩:=hW
 have hA:DataW.TrodAll enc Try.prog W 0 (fun _=>true) true Try.f5.params.toList args.toList ds p:=FA
 rw [Try.params5] at hA hval
 obtain ⟨v0,Gk,d0,Gl,p0,q0,hargs,rfl,rfl,k0,r0⟩:=trodAll_cons hA
 obtain ⟨v1,Gm,d1,Gn,p1,q1,rfl,rfl,rfl,k1,r1⟩:=trodAll_cons r0
 obtain ⟨v2,E4,d2,Gp,p2,q2,rfl,rfl,rfl,k2,r2⟩:=trodAll_cons r1
 obtain ⟨rfl,rfl,rfl⟩:=trodAll_nil r2
 obtain ⟨rfl,rfl⟩:=trodVars_none hV
 have FB:args= #[v0,v1,v2]:=by apply Array.toList_inj.1;simpa using hargs
 subst FB
 obtain ⟨x0,e0,h0⟩:=open_graph (hval 0 24 v0 rfl rfl) k0
 obtain ⟨x1,e1,h1⟩:=open_num (hval 1 3 v1 rfl rfl) k1
 obtain ⟨x2,e2,h2⟩:=open_num (hval 2 3 v2 rfl rfl) k2
 refine (qq (iT x0 x1 x2 h0) (W:=W) ⟨_,_,rfl,e0,_,_,rfl,e1,_,_,rfl,e2,rfl⟩).mono fun e W' ⟨he,hb⟩=> ?_
 subst he
 exact ⟨_,rfl, [d0,d1,d2], [],_, [],_, [],Fz,trodAll_mk1 (shut_bool Try.underlying4 true),kR Try.laidOut hb (by kernel_rfl) hA,rfl,hb.frame _,fun h=>by cases h⟩
theorem blockGrows_holds:Rows.BlockGrowsSaid:=
 OpenClaim.holds_of_wide 5 Try.f5 rfl rfl rfl rfl rfl rfl rfl ⟨rfl,rfl,rfl,rfl,rfl⟩ rfl rfl rfl rfl rfl (by kernel_rfl) Try.func5 (by kernel_rfl)
  (of_decide_eq_true (by kernel_rfl)) (by unfold Func.isWrapper;first|(rw [if_pos (by decide+kernel)];kernel_rfl)|(rw [if_neg (by decide+kernel)];exact ⟨rfl,rfl⟩))
  (fun os started H enc _=>blockGrows_lifted os started H enc)
end Go.Proofs.Ytameldglfobjkaa
