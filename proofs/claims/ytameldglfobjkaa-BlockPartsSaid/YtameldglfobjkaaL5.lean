/- Each block hangs together, and without any one of its vertices it still does; taken together blocks have each edge once: BlockParts, for every input, without a condition. -/
import Derived.Test.YtameldglfobjkaaRows
import Derived.ProofKit
import Derived.Test.YtameldglfobjkaaL5P18
set_option linter.unusedSimpArgs false
set_option linter.unusedVariables false
namespace Go.Proofs.Ytameldglfobjkaa
open Go.ChangeShapes Go.WideShapes Go.ChangeAt Go.RowKit Go.Ab
theorem Try.own:ownKnob Try.prog.godebug=none:=by kernel_rfl
theorem Try.laidOut:laidOutB Try.prog=true:=by kernel_rfl
set_option maxRecDepth 100000 in
theorem open_graph {H:Type} {enc:TypeId × Value→H} {W:World} {r:Reach} {b0:Nat} {v:Value} {d:DataW H} {ps:List MemPlace}
 (hval:Value.okWide Try.prog W r b0 24 v) (hd:DataW.Trod enc Try.prog W 0 (fun _=>true) true 24 v d ps):
 ∃g:Gr,aN W (nT W) (eG g) v∧g.es.length≤maxLen:=by
 simp only [Value.okWide,Try.underlying24] at hval
 obtain ⟨cs,rfl,hsz,_⟩:=hval
 obtain ⟨fuel,h⟩:=hd
 obtain ⟨y0,y1,n,hx,hl,h0,h1⟩:=trod_struct2 Try.underlying24 h
 have ct:Try.prog.cellsOf 24=2:=by kernel_rfl
 have ca:Try.prog.cellsOf 3=1:=by kernel_rfl
 have cb:Try.prog.cellsOf 22=1:=by kernel_rfl
 simp only [Value.cells] at h0 h1
 rw [ct] at hsz
 match hq:cs.toList with
 | []=>rw [← Array.length_toList,hq] at hsz;simp at hsz
 | [p]=>rw [← Array.length_toList,hq] at hsz;simp at hsz
 |p::q::r::l=>rw [← Array.length_toList,hq] at hsz;simp at hsz
 | [p,q]=>
   rw [hq] at h0 h1
   simp only [ca,cb,List.drop_zero,List.take_succ_cons,List.take_zero,List.drop_succ_cons] at h0 h1
   obtain ⟨x,hx0,_,_⟩:=DataW.trod_int Try.underlying3 h0
   simp only [List.cons.injEq,and_true] at hx0
   obtain ⟨es,pH,hel,_⟩:=u6 Try.underlying22 Try.underlying42 (by kernel_rfl) rfl rfl (by kernel_rfl) (by kernel_rfl) Try.underlying3 Try.underlying3 h1
   refine ⟨⟨x,es⟩,⟨[p,q], ?_,p, [q],rfl, ?_,q, [],rfl,pH,rfl⟩,hel⟩
   ·congr 1;apply Array.toList_inj.1;rw [hq]
   ·rw [hx0];exact aR _ rfl
set_option maxRecDepth 100000 in
theorem blockParts_lifted (os:Os) (started:os.Started) (H:Type) (enc:TypeId × Value→H):
 ReturnsInHanded {} Try.checked os 4 .any (Rows.blockPartsSpec.pre6 enc Try.prog Try.f4 Rows.blockPartsRow.domain false) (Rows.blockPartsSpec.post enc Try.prog Try.f4 false true false false):=by
 refine returnsInHanded_of_change (C:=Try.checked) Try.own started (by kernel_rfl) Try.func4
  (ChangeSpec.witness6 (enc:=enc) (C:=Try.checked) false ⟨#[], #[.agg #[.int .i64 0, .slice none 0 0]], []⟩ 8 (by kernel_rfl) (by kernel_rfl) (by kernel_rfl) (by kernel_rfl)) ?_
 intro W base args ds gs before Br hW GY _
 have hval:∀(j:Nat) t v,Try.f4.params[j]? =some t→args[j]? =some v→Value.okWide Try.prog W .any base t v:=Br
 have GZ:=hW
 obtain ⟨p,q,G0,hV,rfl,hfz,bU⟩:=hW
 have hA:DataW.TrodAll enc Try.prog W 0 (fun _=>true) true Try.f4.params.toList args.toList ds p:=G0
 rw [Try.params4] at hA hval
 obtain ⟨v0,HU,d0,HV,p0,q0,hargs,rfl,rfl,k0,r0⟩:=trodAll_cons hA
 obtain ⟨rfl,rfl,rfl⟩:=trodAll_nil r0
 obtain ⟨rfl,rfl⟩:=trodVars_none hV
 have G1:args= #[v0]:=by apply Array.toList_inj.1;simpa using hargs
 subst G1
 obtain ⟨x0,e0,h0⟩:=open_graph (hval 0 24 v0 rfl rfl) k0
 refine (rC (jt x0 h0) (W:=W) ⟨_,_,rfl,e0,rfl⟩).mono fun e W' ⟨he,hb⟩=> ?_
 subst he
 exact ⟨_,rfl, [d0], [],_, [],_, [],GZ,trodAll_mk1 (shut_bool Try.underlying4 true),lU Try.laidOut hb (by kernel_rfl) hA,rfl,hb.frame _,fun h=>by cases h⟩
theorem blockParts_holds:Rows.BlockPartsSaid:=
 OpenClaim.holds_of_wide 4 Try.f4 rfl rfl rfl rfl rfl rfl rfl ⟨rfl,rfl,rfl,rfl,rfl⟩ rfl rfl rfl rfl rfl (by kernel_rfl) Try.func4 (by kernel_rfl)
  (of_decide_eq_true (by kernel_rfl)) (by unfold Func.isWrapper;first|(rw [if_pos (by decide+kernel)];kernel_rfl)|(rw [if_neg (by decide+kernel)];exact ⟨rfl,rfl⟩))
  (fun os started H enc _=>blockParts_lifted os started H enc)
end Go.Proofs.Ytameldglfobjkaa
