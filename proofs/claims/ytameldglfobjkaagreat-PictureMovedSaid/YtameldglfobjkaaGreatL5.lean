/- A drawing without a fault has none when it is moved, put further apart or turned; then the turn is the other way round: PictureMoved, for every input, without a condition. -/
import Derived.Test.YtameldglfobjkaaGreatRows
import Derived.ProofKit
import Derived.Test.YtameldglfobjkaaGreatL5P21
set_option linter.unusedSimpArgs false
set_option linter.unusedVariables false
namespace Go.Proofs.YtameldglfobjkaaGreat
open Go.ChangeShapes Go.WideShapes Go.ChangeAt Go.RowKit Go.Ab
theorem Tryz.own:ownKnob Tryz.prog.godebug=none:=by kernel_rfl
theorem Tryz.laidOut:laidOutB Tryz.prog=true:=by kernel_rfl
set_option maxRecDepth 100000 in
theorem open_graph {H:Type} {enc:TypeId × Value→H} {W:World} {r:Reach} {b0:Nat} {v:Value} {d:DataW H} {ps:List MemPlace}
 (hval:Value.okWide Tryz.prog W r b0 24 v) (hd:DataW.Trod enc Tryz.prog W 0 (fun _=>true) true 24 v d ps):
 ∃g:Gr,cn W (qd W) (eG g) v∧g.es.length≤maxLen:=by
 simp only [Value.okWide,Tryz.underlying24] at hval
 obtain ⟨cs,rfl,hsz,_⟩:=hval
 obtain ⟨fuel,h⟩:=hd
 obtain ⟨y0,y1,n,hx,hl,h0,h1⟩:=trod_struct2 Tryz.underlying24 h
 have ct:Tryz.prog.cellsOf 24=2:=by kernel_rfl
 have ca:Tryz.prog.cellsOf 3=1:=by kernel_rfl
 have cb:Tryz.prog.cellsOf 22=1:=by kernel_rfl
 simp only [Value.cells] at h0 h1
 rw [ct] at hsz
 match hq:cs.toList with
 | []=>rw [← Array.length_toList,hq] at hsz;simp at hsz
 | [p]=>rw [← Array.length_toList,hq] at hsz;simp at hsz
 |p::q::r::l=>rw [← Array.length_toList,hq] at hsz;simp at hsz
 | [p,q]=>
   rw [hq] at h0 h1
   simp only [ca,cb,List.drop_zero,List.take_succ_cons,List.take_zero,List.drop_succ_cons] at h0 h1
   obtain ⟨x,hx0,_,_⟩:=DataW.trod_int Tryz.underlying3 h0
   simp only [List.cons.injEq,and_true] at hx0
   obtain ⟨es,HV,hel,_⟩:=vN Tryz.underlying22 Tryz.underlying56 (by kernel_rfl) rfl rfl (by kernel_rfl) (by kernel_rfl) Tryz.underlying3 Tryz.underlying3 h1
   refine ⟨⟨x,es⟩,⟨[p,q], ?_,p, [q],rfl, ?_,q, [],rfl,HV,rfl⟩,hel⟩
   ·congr 1;apply Array.toList_inj.1;rw [hq]
   ·rw [hx0];exact bX _ rfl
set_option maxRecDepth 100000 in
theorem open_drawing {H:Type} {enc:TypeId × Value→H} {W:World} {r:Reach} {b0:Nat} {v:Value} {d:DataW H} {ps:List MemPlace}
 (hval:Value.okWide Tryz.prog W r b0 50 v) (hd:DataW.Trod enc Tryz.prog W 0 (fun _=>true) true 50 v d ps):
 ∃d:Dr,cn W (qd W) (eDr d) v∧d.pts.length≤maxLen∧d.ls.length≤maxLen:=by
 simp only [Value.okWide,Tryz.underlying50] at hval
 obtain ⟨cs,rfl,hsz,_⟩:=hval
 obtain ⟨fuel,h⟩:=hd
 obtain ⟨y0,y1,n,hx,hl,h0,h1⟩:=trod_struct2 Tryz.underlying50 h
 have ct:Tryz.prog.cellsOf 50=2:=by kernel_rfl
 have ca:Tryz.prog.cellsOf 47=1:=by kernel_rfl
 have cb:Tryz.prog.cellsOf 48=1:=by kernel_rfl
 simp only [Value.cells] at h0 h1
 rw [ct] at hsz
 match hq:cs.toList with
 | []=>rw [← Array.length_toList,hq] at hsz;simp at hsz
 | [p]=>rw [← Array.length_toList,hq] at hsz;simp at hsz
 |p::q::r::l=>rw [← Array.length_toList,hq] at hsz;simp at hsz
 | [p,q]=>
   rw [hq] at h0 h1
   simp only [ca,cb,List.drop_zero,List.take_succ_cons,List.take_zero,List.drop_succ_cons] at h0 h1
   obtain ⟨ps,hps,ez,_⟩:=vN Tryz.underlying47 Tryz.underlying54 (by kernel_rfl) rfl rfl (by kernel_rfl) (by kernel_rfl) Tryz.underlying3 Tryz.underlying3 h0
   obtain ⟨ls,hls,jK⟩:=HP Tryz.underlying48 (by kernel_rfl) Tryz.underlying47 Tryz.underlying54 (by kernel_rfl) rfl rfl (by kernel_rfl) (by kernel_rfl) Tryz.underlying3 Tryz.underlying3 h1
   refine ⟨⟨ps,ls⟩,⟨[p,q], ?_,p, [q],rfl,hps,q, [],rfl,hls,rfl⟩,ez,jK⟩
   congr 1;apply Array.toList_inj.1;rw [hq]
set_option maxRecDepth 100000 in
theorem open_pt {H:Type} {enc:TypeId × Value→H} {W:World} {r:Reach} {b0:Nat} {v:Value} {d:DataW H} {ps:List MemPlace}
 (hval:Value.okWide Tryz.prog W r b0 54 v) (hd:DataW.Trod enc Tryz.prog W 0 (fun _=>true) true 54 v d ps):
 ∃q:Pt,cn W (qd W) (eP q) v∧True:=by
 simp only [Value.okWide,Tryz.underlying54] at hval
 obtain ⟨cs,rfl,hsz,_⟩:=hval
 obtain ⟨fuel,h⟩:=hd
 obtain ⟨y0,y1,n,hx,hl,h0,h1⟩:=trod_struct2 Tryz.underlying54 h
 have ct:Tryz.prog.cellsOf 54=2:=by kernel_rfl
 have ca:Tryz.prog.cellsOf 3=1:=by kernel_rfl
 have cb:Tryz.prog.cellsOf 3=1:=by kernel_rfl
 simp only [Value.cells] at h0 h1
 rw [ct] at hsz
 match hq:cs.toList with
 | []=>rw [← Array.length_toList,hq] at hsz;simp at hsz
 | [p]=>rw [← Array.length_toList,hq] at hsz;simp at hsz
 |p::q::r::l=>rw [← Array.length_toList,hq] at hsz;simp at hsz
 | [p,q]=>
   rw [hq] at h0 h1
   simp only [ca,cb,List.drop_zero,List.take_succ_cons,List.take_zero,List.drop_succ_cons] at h0 h1
   obtain ⟨x,hx0,_,_⟩:=DataW.trod_int Tryz.underlying3 h0
   obtain ⟨y,hy0,_,_⟩:=DataW.trod_int Tryz.underlying3 h1
   simp only [List.cons.injEq,and_true] at hx0 hy0
   refine ⟨(x,y),⟨[p,q], ?_,p, [q],rfl, ?_,q, [],rfl, ?_,rfl⟩,trivial⟩
   ·congr 1;apply Array.toList_inj.1;rw [hq]
   ·rw [hx0];exact bX _ rfl
   ·rw [hy0];exact bX _ rfl
set_option maxRecDepth 100000 in
theorem pictureMoved_lifted (os:Os) (started:os.Started) (H:Type) (enc:TypeId × Value→H):
 ReturnsInHanded {} Tryz.checked os 6 .any (Rows.pictureMovedSpec.pre6 enc Tryz.prog Tryz.f6 Rows.pictureMovedRow.domain false) (Rows.pictureMovedSpec.post enc Tryz.prog Tryz.f6 false true false false):=by
 refine returnsInHanded_of_change (C:=Tryz.checked) Tryz.own started (by kernel_rfl) Tryz.func6
  (ChangeSpec.witness6 (enc:=enc) (C:=Tryz.checked) false ⟨#[], #[.agg #[.int .i64 0, .slice none 0 0], .agg #[.slice none 0 0, .slice none 0 0], .agg #[.int .i64 0, .int .i64 0]], []⟩ 8 (by kernel_rfl) (by kernel_rfl) (by kernel_rfl) (by kernel_rfl)) ?_
 intro W base args ds gs before Oq hW Vi _
 have hval:∀(j:Nat) t v,Tryz.f6.params[j]? =some t→args[j]? =some v→Value.okWide Tryz.prog W .any base t v:=Oq
 have Vj:=hW
 obtain ⟨p,q,Vk,hV,rfl,hfz,fA⟩:=hW
 have hA:DataW.TrodAll enc Tryz.prog W 0 (fun _=>true) true Tryz.f6.params.toList args.toList ds p:=Vk
 rw [Tryz.params6] at hA hval
 obtain ⟨v0,Wq,d0,Wr,p0,q0,hargs,rfl,rfl,k0,r0⟩:=trodAll_cons hA
 obtain ⟨v1,Ws,d1,Wt,p1,q1,rfl,rfl,rfl,k1,r1⟩:=trodAll_cons r0
 obtain ⟨v2,Sw,d2,Wu,p2,q2,rfl,rfl,rfl,k2,r2⟩:=trodAll_cons r1
 obtain ⟨rfl,rfl,rfl⟩:=trodAll_nil r2
 obtain ⟨rfl,rfl⟩:=trodVars_none hV
 have M0:args= #[v0,v1,v2]:=by apply Array.toList_inj.1;simpa using hargs
 subst M0
 obtain ⟨x0,e0,h0⟩:=open_graph (hval 0 24 v0 rfl rfl) k0
 obtain ⟨x1,e1,h1⟩:=open_drawing (hval 1 50 v1 rfl rfl) k1
 obtain ⟨x2,e2,h2⟩:=open_pt (hval 2 54 v2 rfl rfl) k2
 refine (DW (qP x0 x1 x2 h1.2) (W:=W) ⟨_,_,rfl,e0,_,_,rfl,e1,_,_,rfl,e2,rfl⟩).mono fun e W' ⟨he,hb⟩=> ?_
 subst he
 exact ⟨_,rfl, [d0,d1,d2], [],_, [],_, [],Vj,trodAll_mk1 (shut_bool Tryz.underlying4 true),xQ Tryz.laidOut hb (by kernel_rfl) hA,rfl,hb.frame _,fun h=>by cases h⟩
theorem pictureMoved_holds:Rows.PictureMovedSaid:=
 OpenClaim.holds_of_wide 6 Tryz.f6 rfl rfl rfl rfl rfl rfl rfl ⟨rfl,rfl,rfl,rfl,rfl⟩ rfl rfl rfl rfl rfl (by kernel_rfl) Tryz.func6 (by kernel_rfl)
  (of_decide_eq_true (by kernel_rfl)) (by unfold Func.isWrapper;first|(rw [if_pos (by decide+kernel)];kernel_rfl)|(rw [if_neg (by decide+kernel)];exact ⟨rfl,rfl⟩))
  (fun os started H enc _=>pictureMoved_lifted os started H enc)
end Go.Proofs.YtameldglfobjkaaGreat
