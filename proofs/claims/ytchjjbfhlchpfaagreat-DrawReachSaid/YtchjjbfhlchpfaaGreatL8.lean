/- Where a vertex can be reached its point is further to the right, and up; of an st-graph, where it is, it can: DrawReach, for every input, without a condition. -/
import Derived.Test.YtchjjbfhlchpfaaGreatRows
import Derived.ProofKit
import Derived.Test.YtchjjbfhlchpfaaGreatL8P20
set_option linter.unusedSimpArgs false
set_option linter.unusedVariables false
namespace Go.Proofs.YtchjjbfhlchpfaaGreat
open Go.ChangeShapes Go.WideShapes Go.ChangeAt Go.RowKit Go.Ab
theorem Tryz.own:ownKnob Tryz.prog.godebug=none:=by kernel_rfl
theorem Tryz.laidOut:laidOutB Tryz.prog=true:=by kernel_rfl
set_option maxRecDepth 100000 in
theorem open_graph {H:Type} {enc:TypeId × Value→H} {W:World} {r:Reach} {b0:Nat} {v:Value} {d:DataW H} {ps:List MemPlace}
 (hval:Value.okWide Tryz.prog W r b0 24 v) (hd:DataW.Trod enc Tryz.prog W 0 (fun _=>true) true 24 v d ps):
 ∃g:Gr,ck W (ou W) (eG g) v∧g.es.length≤maxLen:=by
 simp only [Value.okWide,Tryz.underlying24] at hval
 obtain ⟨cs,rfl,hsz,_⟩:=hval
 obtain ⟨fuel,h⟩:=hd
 obtain ⟨y0,y1,n,hx,hl,h0,h1⟩:=trod_struct2 Tryz.underlying24 h
 have ct:Tryz.prog.cellsOf 24=2:=by kernel_rfl
 have ca:Tryz.prog.cellsOf 3=1:=by kernel_rfl
 have cb:Tryz.prog.cellsOf 22=1:=by kernel_rfl
 simp only [Value.cells] at h0 h1
 rw [ct] at hsz
 match hq:cs.toList with
 | []=>rw [← Array.length_toList,hq] at hsz;simp at hsz
 | [p]=>rw [← Array.length_toList,hq] at hsz;simp at hsz
 |p::q::r::l=>rw [← Array.length_toList,hq] at hsz;simp at hsz
 | [p,q]=>
   rw [hq] at h0 h1
   simp only [ca,cb,List.drop_zero,List.take_succ_cons,List.take_zero,List.drop_succ_cons] at h0 h1
   obtain ⟨x,hx0,_,_⟩:=DataW.trod_int Tryz.underlying3 h0
   simp only [List.cons.injEq,and_true] at hx0
   obtain ⟨es,Cb,hel,_⟩:=I9 Tryz.underlying22 Tryz.underlying73 (by kernel_rfl) rfl rfl (by kernel_rfl) (by kernel_rfl) Tryz.underlying3 Tryz.underlying3 h1
   refine ⟨⟨x,es⟩,⟨[p,q], ?_,p, [q],rfl, ?_,q, [],rfl,Cb,rfl⟩,hel⟩
   ·congr 1;apply Array.toList_inj.1;rw [hq]
   ·rw [hx0];exact cu _ rfl
set_option maxRecDepth 100000 in
theorem open_plan {H:Type} {enc:TypeId × Value→H} {W:World} {r:Reach} {b0:Nat} {v:Value} {d:DataW H} {ps:List MemPlace}
 (hval:Value.okWide Tryz.prog W r b0 34 v) (hd:DataW.Trod enc Tryz.prog W 0 (fun _=>true) true 34 v d ps):
 ∃p:Pl,ck W (ou W) (ePl p) v∧Ig p:=by
 simp only [Value.okWide,Tryz.underlying34] at hval
 obtain ⟨cs,rfl,hsz,_⟩:=hval
 obtain ⟨fuel,h⟩:=hd
 obtain ⟨y0,y1,n,hx,hl,h0,h1⟩:=trod_struct2 Tryz.underlying34 h
 have ct:Tryz.prog.cellsOf 34=2:=by kernel_rfl
 have ca:Tryz.prog.cellsOf 31=1:=by kernel_rfl
 have cb:Tryz.prog.cellsOf 32=1:=by kernel_rfl
 simp only [Value.cells] at h0 h1
 rw [ct] at hsz
 match hq:cs.toList with
 | []=>rw [← Array.length_toList,hq] at hsz;simp at hsz
 | [p]=>rw [← Array.length_toList,hq] at hsz;simp at hsz
 |p::q::r::l=>rw [← Array.length_toList,hq] at hsz;simp at hsz
 | [p,q]=>
   rw [hq] at h0 h1
   simp only [ca,cb,List.drop_zero,List.take_succ_cons,List.take_zero,List.drop_succ_cons] at h0 h1
   obtain ⟨os,hos,tQ,_⟩:=Ex Tryz.underlying31 Tryz.underlying3 (by kernel_rfl) h0
   obtain ⟨ls,hls,j0,hle⟩:=FZ Tryz.underlying32 (by kernel_rfl) Tryz.underlying31 Tryz.underlying3 (by kernel_rfl) h1
   refine ⟨⟨os,ls⟩,⟨[p,q], ?_,p, [q],rfl,hos,q, [],rfl,hls,rfl⟩,⟨tQ,j0,hle⟩⟩
   congr 1;apply Array.toList_inj.1;rw [hq]
set_option maxRecDepth 100000 in
theorem drawReach_lifted (os:Os) (started:os.Started) (H:Type) (enc:TypeId × Value→H):
 ReturnsInHanded {} Tryz.checked os 11 .any (Rows.drawReachSpec.pre6 enc Tryz.prog Tryz.f11 Rows.drawReachRow.domain false) (Rows.drawReachSpec.post enc Tryz.prog Tryz.f11 false true false false):=by
 refine returnsInHanded_of_change (C:=Tryz.checked) Tryz.own started (by kernel_rfl) Tryz.func11
  (ChangeSpec.witness6 (enc:=enc) (C:=Tryz.checked) false ⟨#[], #[.agg #[.int .i64 0, .slice none 0 0], .agg #[.slice none 0 0, .slice none 0 0]], []⟩ 8 (by kernel_rfl) (by kernel_rfl) (by kernel_rfl) (by kernel_rfl)) ?_
 intro W base args ds gs before Pp hW VA _
 have hval:∀(j:Nat) t v,Tryz.f11.params[j]? =some t→args[j]? =some v→Value.okWide Tryz.prog W .any base t v:=Pp
 have VB:=hW
 obtain ⟨p,q,VC,hV,rfl,hfz,bN⟩:=hW
 have hA:DataW.TrodAll enc Tryz.prog W 0 (fun _=>true) true Tryz.f11.params.toList args.toList ds p:=VC
 rw [Tryz.params11] at hA hval
 obtain ⟨v0,Wz,d0,WA,p0,q0,hargs,rfl,rfl,k0,r0⟩:=trodAll_cons hA
 obtain ⟨v1,WB,d1,WC,p1,q1,rfl,rfl,rfl,k1,r1⟩:=trodAll_cons r0
 obtain ⟨rfl,rfl,rfl⟩:=trodAll_nil r1
 obtain ⟨rfl,rfl⟩:=trodVars_none hV
 have VD:args= #[v0,v1]:=by apply Array.toList_inj.1;simpa using hargs
 subst VD
 obtain ⟨x0,e0,h0⟩:=open_graph (hval 0 24 v0 rfl rfl) k0
 obtain ⟨x1,e1,h1⟩:=open_plan (hval 1 34 v1 rfl rfl) k1
 refine (EP (xk x0 x1 h0 h1) (W:=W) ⟨_,_,rfl,e0,_,_,rfl,e1,rfl⟩).mono fun e W' ⟨he,hb⟩=> ?_
 subst he
 exact ⟨_,rfl, [d0,d1], [],_, [],_, [],VB,trodAll_mk1 (shut_bool Tryz.underlying4 true),yM Tryz.laidOut hb (by kernel_rfl) hA,rfl,hb.frame _,fun h=>by cases h⟩
theorem drawReach_holds:Rows.DrawReachSaid:=
 OpenClaim.holds_of_wide 11 Tryz.f11 rfl rfl rfl rfl rfl rfl rfl ⟨rfl,rfl,rfl,rfl,rfl⟩ rfl rfl rfl rfl rfl (by kernel_rfl) Tryz.func11 (by kernel_rfl)
  (of_decide_eq_true (by kernel_rfl)) (by unfold Func.isWrapper;first|(rw [if_pos (by decide+kernel)];kernel_rfl)|(rw [if_neg (by decide+kernel)];exact ⟨rfl,rfl⟩))
  (fun os started H enc _=>drawReach_lifted os started H enc)
end Go.Proofs.YtchjjbfhlchpfaaGreat
