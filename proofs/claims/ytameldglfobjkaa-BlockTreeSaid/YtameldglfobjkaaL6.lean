/- The Block law: BlockTree.: BlockTree, for every input, without a condition. -/
import Derived.Test.YtameldglfobjkaaRows
import Derived.ProofKit
import Derived.Test.YtameldglfobjkaaL6P18
set_option linter.unusedSimpArgs false
set_option linter.unusedVariables false
namespace Go.Proofs.Ytameldglfobjkaa
open Go.ChangeShapes Go.WideShapes Go.ChangeAt Go.RowKit Go.Ab
theorem Try.own:ownKnob Try.prog.godebug=none:=by kernel_rfl
theorem Try.laidOut:laidOutB Try.prog=true:=by kernel_rfl
set_option maxRecDepth 100000 in
theorem open_graph {H:Type} {enc:TypeId × Value→H} {W:World} {r:Reach} {b0:Nat} {v:Value} {d:DataW H} {ps:List MemPlace}
 (hval:Value.okWide Try.prog W r b0 24 v) (hd:DataW.Trod enc Try.prog W 0 (fun _=>true) true 24 v d ps):
 ∃g:Gr,aQ W (o9 W) (eG g) v∧g.es.length≤maxLen:=by
 simp only [Value.okWide,Try.underlying24] at hval
 obtain ⟨cs,rfl,hsz,_⟩:=hval
 obtain ⟨fuel,h⟩:=hd
 obtain ⟨y0,y1,n,hx,hl,h0,h1⟩:=trod_struct2 Try.underlying24 h
 have ct:Try.prog.cellsOf 24=2:=by kernel_rfl
 have ca:Try.prog.cellsOf 3=1:=by kernel_rfl
 have cb:Try.prog.cellsOf 22=1:=by kernel_rfl
 simp only [Value.cells] at h0 h1
 rw [ct] at hsz
 match hq:cs.toList with
 | []=>rw [← Array.length_toList,hq] at hsz;simp at hsz
 | [p]=>rw [← Array.length_toList,hq] at hsz;simp at hsz
 |p::q::r::l=>rw [← Array.length_toList,hq] at hsz;simp at hsz
 | [p,q]=>
   rw [hq] at h0 h1
   simp only [ca,cb,List.drop_zero,List.take_succ_cons,List.take_zero,List.drop_succ_cons] at h0 h1
   obtain ⟨x,hx0,_,_⟩:=DataW.trod_int Try.underlying3 h0
   simp only [List.cons.injEq,and_true] at hx0
   obtain ⟨es,uF,hel,_⟩:=wT Try.underlying22 Try.underlying42 (by kernel_rfl) rfl rfl (by kernel_rfl) (by kernel_rfl) Try.underlying3 Try.underlying3 h1
   refine ⟨⟨x,es⟩,⟨[p,q], ?_,p, [q],rfl, ?_,q, [],rfl,uF,rfl⟩,hel⟩
   ·congr 1;apply Array.toList_inj.1;rw [hq]
   ·rw [hx0];exact aV _ rfl
set_option maxRecDepth 100000 in
theorem blockTree_lifted (os:Os) (started:os.Started) (H:Type) (enc:TypeId × Value→H):
 ReturnsInHanded {} Try.checked os 7 .any (Rows.blockTreeSpec.pre6 enc Try.prog Try.f7 Rows.blockTreeRow.domain false) (Rows.blockTreeSpec.post enc Try.prog Try.f7 false true false false):=by
 refine returnsInHanded_of_change (C:=Try.checked) Try.own started (by kernel_rfl) Try.func7
  (ChangeSpec.witness6 (enc:=enc) (C:=Try.checked) false ⟨#[], #[.agg #[.int .i64 0, .slice none 0 0]], []⟩ 8 (by kernel_rfl) (by kernel_rfl) (by kernel_rfl) (by kernel_rfl)) ?_
 intro W base args ds gs before CS hW IL _
 have hval:∀(j:Nat) t v,Try.f7.params[j]? =some t→args[j]? =some v→Value.okWide Try.prog W .any base t v:=CS
 have IM:=hW
 obtain ⟨p,q,IN,hV,rfl,hfz,bG⟩:=hW
 have hA:DataW.TrodAll enc Try.prog W 0 (fun _=>true) true Try.f7.params.toList args.toList ds p:=IN
 rw [Try.params7] at hA hval
 obtain ⟨v0,Jz,d0,JA,p0,q0,hargs,rfl,rfl,k0,r0⟩:=trodAll_cons hA
 obtain ⟨rfl,rfl,rfl⟩:=trodAll_nil r0
 obtain ⟨rfl,rfl⟩:=trodVars_none hV
 have IP:args= #[v0]:=by apply Array.toList_inj.1;simpa using hargs
 subst IP
 obtain ⟨x0,e0,h0⟩:=open_graph (hval 0 24 v0 rfl rfl) k0
 refine (s7 (lT x0 h0) (W:=W) ⟨_,_,rfl,e0,rfl⟩).mono fun e W' ⟨he,hb⟩=> ?_
 subst he
 exact ⟨_,rfl, [d0], [],_, [],_, [],IM,trodAll_mk1 (shut_bool Try.underlying4 true),mL Try.laidOut hb (by kernel_rfl) hA,rfl,hb.frame _,fun h=>by cases h⟩
theorem blockTree_holds:Rows.BlockTreeSaid:=
 OpenClaim.holds_of_wide 7 Try.f7 rfl rfl rfl rfl rfl rfl rfl ⟨rfl,rfl,rfl,rfl,rfl⟩ rfl rfl rfl rfl rfl (by kernel_rfl) Try.func7 (by kernel_rfl)
  (of_decide_eq_true (by kernel_rfl)) (by unfold Func.isWrapper;first|(rw [if_pos (by decide+kernel)];kernel_rfl)|(rw [if_neg (by decide+kernel)];exact ⟨rfl,rfl⟩))
  (fun os started H enc _=>blockTree_lifted os started H enc)
end Go.Proofs.Ytameldglfobjkaa
