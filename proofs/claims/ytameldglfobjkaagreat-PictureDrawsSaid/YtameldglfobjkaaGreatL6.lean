/- The drawing of any plan that runs has no fault, and the plan that comes of it has the same turn: PictureDraws, for every input, without a condition. -/
import Derived.Test.YtameldglfobjkaaGreatRows
import Derived.ProofKit
import Derived.Test.YtameldglfobjkaaGreatL6P36
set_option linter.unusedSimpArgs false
set_option linter.unusedVariables false
set_option linter.unusedSectionVars false
namespace Go.Proofs.YtameldglfobjkaaGreat
open Go.ChangeShapes Go.WideShapes Go.ChangeAt Go.RowKit Go.Ab
theorem Tryz.own:ownKnob Tryz.prog.godebug=none:=by kernel_rfl
theorem Tryz.laidOut:laidOutB Tryz.prog=true:=by kernel_rfl
set_option maxRecDepth 100000 in
theorem open_graph{H:Type}{enc:TypeId × Value->H}{W:World}{r:Reach}{b0:Nat}{v:Value}{d:DataW H}{ps:List MemPlace}
 (hval:Value.okWide Tryz.prog W r b0 24 v) (hd:DataW.Trod enc Tryz.prog W 0 (fun _=>true) true 24 v d ps):
 ∃g:Gr,cG W (tE W) (eG g) v/\g.es.length<=maxLen:=by
 simp only[Value.okWide,Tryz.underlying24]at hval
 obtain⟨cs,rfl,hsz,_⟩:=hval
 obtain⟨fuel,h⟩:=hd
 obtain⟨y0,y1,n,hx,hl,h0,h1⟩:=trod_struct2 Tryz.underlying24 h
 have ct:Tryz.prog.cellsOf 24=2:=by kernel_rfl
 have ca:Tryz.prog.cellsOf 3=1:=by kernel_rfl
 have cb:Tryz.prog.cellsOf 22=1:=by kernel_rfl
 simp only[Value.cells]at h0 h1
 rw[ct]at hsz
 match hq:cs.toList with
 | []=>rw[<- Array.length_toList,hq]at hsz;simp at hsz
 | [p]=>rw[<- Array.length_toList,hq]at hsz;simp at hsz
 |p::q::r::l=>rw[<- Array.length_toList,hq]at hsz;simp at hsz
 | [p,q]=>
   rw[hq]at h0 h1
   simp only[ca,cb,List.drop_zero,List.take_succ_cons,List.take_zero,List.drop_succ_cons]at h0 h1
   obtain⟨x,hx0,_,_⟩:=DataW.trod_int Tryz.underlying3 h0
   simp only[List.cons.injEq,and_true]at hx0
   obtain⟨es,Ia,hel,_⟩:=RF Tryz.underlying22 Tryz.underlying56 (by kernel_rfl) rfl rfl (by kernel_rfl) (by kernel_rfl) Tryz.underlying3 Tryz.underlying3 h1
   refine⟨⟨x,es⟩,⟨[p,q], ?_,p, [q],rfl, ?_,q, [],rfl,Ia,rfl⟩,hel⟩
   ·congr 1;apply Array.toList_inj.1;rw[hq]
   ·rw[hx0];exact cQ _ rfl
set_option maxRecDepth 100000 in
theorem open_plan{H:Type}{enc:TypeId × Value->H}{W:World}{r:Reach}{b0:Nat}{v:Value}{d:DataW H}{ps:List MemPlace}
 (hval:Value.okWide Tryz.prog W r b0 28 v) (hd:DataW.Trod enc Tryz.prog W 0 (fun _=>true) true 28 v d ps):
 ∃p:Pl,cG W (tE W) (ePl p) v/\Qs p:=by
 simp only[Value.okWide,Tryz.underlying28]at hval
 obtain⟨cs,rfl,hsz,_⟩:=hval
 obtain⟨fuel,h⟩:=hd
 obtain⟨y0,y1,n,hx,hl,h0,h1⟩:=trod_struct2 Tryz.underlying28 h
 have ct:Tryz.prog.cellsOf 28=2:=by kernel_rfl
 have ca:Tryz.prog.cellsOf 25=1:=by kernel_rfl
 have cb:Tryz.prog.cellsOf 26=1:=by kernel_rfl
 simp only[Value.cells]at h0 h1
 rw[ct]at hsz
 match hq:cs.toList with
 | []=>rw[<- Array.length_toList,hq]at hsz;simp at hsz
 | [p]=>rw[<- Array.length_toList,hq]at hsz;simp at hsz
 |p::q::r::l=>rw[<- Array.length_toList,hq]at hsz;simp at hsz
 | [p,q]=>
   rw[hq]at h0 h1
   simp only[ca,cb,List.drop_zero,List.take_succ_cons,List.take_zero,List.drop_succ_cons]at h0 h1
   obtain⟨os,hos,Ax,_⟩:=LX Tryz.underlying25 Tryz.underlying3 (by kernel_rfl) h0
   obtain⟨ls,hls,iF,hle⟩:=NQ Tryz.underlying26 (by kernel_rfl) Tryz.underlying25 Tryz.underlying3 (by kernel_rfl) h1
   refine⟨⟨os,ls⟩,⟨[p,q], ?_,p, [q],rfl,hos,q, [],rfl,hls,rfl⟩,⟨Ax,iF,hle⟩⟩
   congr 1;apply Array.toList_inj.1;rw[hq]
set_option maxRecDepth 100000 in
theorem pictureDraws_lifted(os:Os)(started:os.Started)(H:Type)(enc:TypeId × Value->H):
 ReturnsInHanded {} Tryz.checked os 8 .any (Rows.pictureDrawsSpec.pre6 enc Tryz.prog Tryz.f8 Rows.pictureDrawsRow.domain false) (Rows.pictureDrawsSpec.post enc Tryz.prog Tryz.f8 false true false false):=by
 refine returnsInHanded_of_change (C:=Tryz.checked) Tryz.own started (by kernel_rfl) Tryz.func8
  (ChangeSpec.witness6 (enc:=enc) (C:=Tryz.checked) false ⟨#[], #[.agg #[.int .i64 0, .slice none 0 0], .agg #[.slice none 0 0, .slice none 0 0]], []⟩ 8 (by kernel_rfl) (by kernel_rfl) (by kernel_rfl) (by kernel_rfl)) ?_
 intro W base args ds gs before YW hW ac4 _
 have hval:∀(j:Nat) t v,Tryz.f8.params[j]? =some t->args[j]? =some v->Value.okWide Tryz.prog W .any base t v:=YW
 have hW':=hW
 obtain⟨p,q,hA0,hV,rfl,hfz,bR⟩:=hW
 have hA:DataW.TrodAll enc Tryz.prog W 0 (fun _=>true) true Tryz.f8.params.toList args.toList ds p:=hA0
 rw[Tryz.params8]at hA hval
 obtain⟨v0,vs0,d0,ds0,p0,q0,hargs,rfl,rfl,k0,r0⟩:=trodAll_cons hA
 obtain⟨v1,vs1,d1,ds1,p1,q1,rfl,rfl,rfl,k1,r1⟩:=trodAll_cons r0
 obtain⟨rfl,rfl,rfl⟩:=trodAll_nil r1
 obtain⟨rfl,rfl⟩:=trodVars_none hV
 have XP:args= #[v0,v1]:=by apply Array.toList_inj.1;simpa using hargs
 subst XP
 obtain⟨x0,e0,h0⟩:=open_graph (hval 0 24 v0 rfl rfl) k0
 obtain⟨x1,e1,h1⟩:=open_plan (hval 1 28 v1 rfl rfl) k1
 refine(Mg (xM x0 x1 h0 h1) (W:=W) ⟨_,_,rfl,e0,_,_,rfl,e1,rfl⟩).mono fun e W' ⟨he,hb⟩=> ?_
 subst he
 exact⟨_,rfl, [d0,d1], [],_, [],_, [],hW',trodAll_mk1 (shut_bool Tryz.underlying4 true),DT Tryz.laidOut hb (by kernel_rfl) hA,rfl,hb.frame _,fun h=>by cases h⟩
theorem pictureDraws_holds:Rows.PictureDrawsSaid:=
 OpenClaim.holds_of_wide 8 Tryz.f8 rfl rfl rfl rfl rfl rfl rfl ⟨rfl,rfl,rfl,rfl,rfl⟩ rfl rfl rfl rfl rfl (by kernel_rfl) Tryz.func8 (by kernel_rfl)
  (of_decide_eq_true (by kernel_rfl)) (by unfold Func.isWrapper;first|(rw[if_pos (by decide+kernel)];kernel_rfl)|(rw[if_neg (by decide+kernel)];exact⟨rfl,rfl⟩))
  (fun os started H enc _=>pictureDraws_lifted os started H enc)
end Go.Proofs.YtameldglfobjkaaGreat
