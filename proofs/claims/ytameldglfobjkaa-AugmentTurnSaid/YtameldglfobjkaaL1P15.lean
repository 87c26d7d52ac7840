/- A part of the proof. -/
import Derived.Test.YtameldglfobjkaaL1P14
set_option linter.unusedSimpArgs false
set_option linter.unusedVariables false
section
namespace Go.Ab
open Go.Proofs
attribute [local congr] ACall.congr gd.congr Nx.congr
set_option maxRecDepth 10000
set_option maxHeartbeats 4000000
def s4 (g:Gr) (f:Fr):List (Nat × AObj):= [(10000, .box [.d (sT f.row), .d (vw g), .ref 10002]),(10002, .tip 3 1 (f.pl.map rI))]
def gi (g:Gr) (f:Fr) (x:Int) (outs:List Int):(List It × Int) × Fr:=
 if eH g f x=false then (([],3),f) else if eS outs≠aP (·.1) g x then (([],1),f) else
 (((f.row.take (aQ f.row x).2.1.toNat).drop (max (aQ f.row x).1 0).toNat,0),⟨f.row.take (max (aQ f.row x).1 0).toNat++aV g x outs++f.row.drop (aQ f.row x).2.1.toNat,f.pl++ [x]⟩)
theorem dD {f:Edge→Int} {es:List Edge} {k:Nat} {x i:Int} (h:i∈aS f es k x):(0≤i∧i<k)∧f (es.getD i.toNat (0,0))=x:=by
 simp only [aS,List.mem_map,List.mem_filter,List.mem_range,decide_eq_true_eq] at h
 obtain ⟨j,⟨h1,h2⟩,rfl⟩:=h
 exact ⟨⟨Int.natCast_nonneg j,by simp;omega⟩,h2⟩
theorem s5 {f:Edge→Int} {g:Gr} {x i:Int} (h:i∈aP f g x):(0≤i∧i<g.es.length)∧f (g.es.getD i.toNat (0,0))=x:=by
 unfold aP at h
 split at h
 ·exact dD h
 ·cases h
theorem rC {l:List Int} {x:Int} :x∈eS l↔x∈l:=by simp [eS]
theorem oW (row:List It) (x:Int):∃a b:Nat,max (aQ row x).1 0=(a:Int)∧(aQ row x).2.1=(b:Int)∧a≤b∧b≤row.length:=by
 rcases dO (row:=row) (x:=x) row.length with ⟨h,_⟩|⟨a,b,c,h,h1,h2,_⟩
 ·exact ⟨0,0,by unfold aQ;rw [h];rfl,by unfold aQ;rw [h];rfl,by omega,by omega⟩
 ·exact ⟨a,b,by unfold aQ;rw [h];simp only;omega,by unfold aQ;rw [h],by omega,by omega⟩
theorem jS {g:Gr} {x:Int} {outs:List Int} :0<(aV g x outs).length∧(aV g x outs).length≤outs.length+1:=by
 unfold aV
 split
 ·simp
 ·rename_i h
  have:=List.length_pos_iff.2 h
  simp;omega
theorem s6 (g:Gr) (hm:aZ g=true) (f:Fr) (x:Int) (outs:List Int) (hr:f.row.length≤300000) (hp:f.pl.length≤100000) (ho:outs.length≤17592186043904):
 Spec Try.prog 61 (Args [.ptr 10000 0,eN x, .d (sI outs)]) (jA g f) (.tup [.d (sT (gi g f x outs).1.1),eN (gi g f x outs).1.2]) (s4 g (gi g f x outs).2):=by
 have mc:f.row.length≤1000000:=by omega
 have hp1:f.pl.length≤1000000:=by omega
 have hs:(eS outs).length≤9223372036854775807:=by rw [di];omega
 have hn:=bf hm
 cases hR:eH g f x with
 |false=>
  have hP:gi g f x outs=(([],3),f):=if_pos hR
  rw [hP]
  unfold jA s4
  (refine Spec.tS (C:=T.cfg [] []) (rs:= [.t 6, .t 7]) [(10002,10001)] (T.aj _ _) Try.func61 rfl rfl Try.ntmps61 Try.results61 (by simp [AObj.isNest]) (by simp [AObj.isNest]) (by first|(simp [look];done)|(simp [asN];done)|(intro l hl;simp only [asN];repeat (rw [if_neg (fun e=>by subst e;simp [look] at hl)]))) (by first|(simp [look];done)|(simp [asN];done)|(intro l hl;simp only [asN];repeat (rw [if_neg (fun e=>by subst e;simp [look] at hl)]))) (by kernel_rfl) T.mixed fun X hX hP hC aR cL=> ?_)
  repeat' (first|refine Rn.p ?_|(with_reducible apply And.intro)|((first|(refine hK _ ?_;clear hK K)|with_reducible intro K hK|refine Rs.p ?_|((with_reducible first|apply oP|apply oQ);exact rfl)|(refine ai hX hC hP (jR g hm f x mc hp1) rfl rfl rfl ?_ ?_ ?_ ?_;iterate 3 (focus (simp only [go_sem,simprocAttr,hR,gE];done)))|(refine an hX hC hP [(10000,16)] (bN outs) rfl rfl rfl ?_ ?_ ?_ ?_ ?_ ?_ ?_ ?_ ?_ ?_ ?_ ?_ ?_ ?_;(focus (simp only [go_sem,simprocAttr,hR,gE];done));(iterate 12 (focus (simp [go_sem,simprocAttr,hR,gE];done)));try simp only [List.map_cons,List.map_nil])|(refine bU hX hC hP [(10000,16)] (bG outs ho) rfl rfl rfl ?_ ?_ ?_ ?_ ?_ ?_ rfl rfl ?_ ?_;(focus (simp only [go_sem,simprocAttr,hR,gE];done));(iterate 6 (focus (simp [go_sem,simprocAttr,hR,gE];done)));try simp only [List.map_cons,List.map_nil])|refine aa hX hC hP (fm g hm x) rfl rfl rfl (by simp only [go_sem,simprocAttr,hR,gE]) rfl ?_|refine aa hX hC hP (cR (eS outs) (aP (·.1) g x) hs) rfl rfl rfl (by simp only [go_sem,simprocAttr,hR,gE]) rfl ?_|(refine ai hX hC hP (cY [vw g,sI f.pl] f.row x mc) rfl rfl rfl ?_ ?_ ?_ ?_;iterate 3 (focus (simp only [go_sem,simprocAttr,hR,gE];done))));try simp only [go_sem,simprocAttr,hR,gE])|((with_reducible refine oD ?_ ?_);kernel_rfl)|((with_reducible intro h);try simp only [go_sem,simprocAttr,hR,gE] at h)|omega|intro h)
 |true=>
 have zB:¬eH g f x=false:=by rw [hR];simp
 by_cases hE:¬eS outs=aP (·.1) g x
 ·have ak:decide (eS outs=aP (·.1) g x)=false:=decide_eq_false hE
  have hP:gi g f x outs=(([],1),f):=by unfold gi;rw [if_neg zB,if_pos hE]
  rw [hP]
  unfold jA s4
  (refine Spec.tS (C:=T.cfg [] []) (rs:= [.t 6, .t 7]) [(10002,10001)] (T.aj _ _) Try.func61 rfl rfl Try.ntmps61 Try.results61 (by simp [AObj.isNest]) (by simp [AObj.isNest]) (by first|(simp [look];done)|(simp [asN];done)|(intro l hl;simp only [asN];repeat (rw [if_neg (fun e=>by subst e;simp [look] at hl)]))) (by first|(simp [look];done)|(simp [asN];done)|(intro l hl;simp only [asN];repeat (rw [if_neg (fun e=>by subst e;simp [look] at hl)]))) (by kernel_rfl) T.mixed fun X hX hP hC aR cL=> ?_)
  repeat' (first|refine Rn.p ?_|(with_reducible apply And.intro)|((first|(refine hK _ ?_;clear hK K)|with_reducible intro K hK|refine Rs.p ?_|((with_reducible first|apply oP|apply oQ);exact rfl)|(refine ai hX hC hP (jR g hm f x mc hp1) rfl rfl rfl ?_ ?_ ?_ ?_;iterate 3 (focus (simp only [go_sem,simprocAttr,hR,ak,gE];done)))|(refine an hX hC hP [(10000,16)] (bN outs) rfl rfl rfl ?_ ?_ ?_ ?_ ?_ ?_ ?_ ?_ ?_ ?_ ?_ ?_ ?_ ?_;(focus (simp only [go_sem,simprocAttr,hR,ak,gE];done));(iterate 12 (focus (simp [go_sem,simprocAttr,hR,ak,gE];done)));try simp only [List.map_cons,List.map_nil])|(refine bU hX hC hP [(10000,16)] (bG outs ho) rfl rfl rfl ?_ ?_ ?_ ?_ ?_ ?_ rfl rfl ?_ ?_;(focus (simp only [go_sem,simprocAttr,hR,ak,gE];done));(iterate 6 (focus (simp [go_sem,simprocAttr,hR,ak,gE];done)));try simp only [List.map_cons,List.map_nil])|refine aa hX hC hP (fm g hm x) rfl rfl rfl (by simp only [go_sem,simprocAttr,hR,ak,gE]) rfl ?_|refine aa hX hC hP (cR (eS outs) (aP (·.1) g x) hs) rfl rfl rfl (by simp only [go_sem,simprocAttr,hR,ak,gE]) rfl ?_|(refine ai hX hC hP (cY [vw g,sI f.pl] f.row x mc) rfl rfl rfl ?_ ?_ ?_ ?_;iterate 3 (focus (simp only [go_sem,simprocAttr,hR,ak,gE];done))));try simp only [go_sem,simprocAttr,hR,ak,gE])|((with_reducible refine oD ?_ ?_);kernel_rfl)|((with_reducible intro h);try simp only [go_sem,simprocAttr,hR,ak,gE] at h)|omega|intro h)
 rw [Decidable.not_not] at hE
 have ak:decide (eS outs=aP (·.1) g x)=true:=decide_eq_true hE
 have hP:gi g f x outs=(((f.row.take (aQ f.row x).2.1.toNat).drop (max (aQ f.row x).1 0).toNat,0),⟨f.row.take (max (aQ f.row x).1 0).toNat++aV g x outs++f.row.drop (aQ f.row x).2.1.toNat,f.pl++ [x]⟩):=by
  unfold gi;rw [if_neg zB,if_neg (by rw [hE];simp)]
 rw [hP]
 obtain ⟨a,b,ha,hb,hab,od⟩:=oW f.row x
 rw [ha,hb]
 simp only [Int.toNat_natCast]
 have vM:outs.length≤128:=by
  have h1:=congrArg List.length hE
  rw [di] at h1
  have h2:=sY (f:=(·.1)) (g:=g) (x:=x)
  omega
 have AZ:∀i∈outs,0≤i∧i<g.es.length:=fun i hi=>(s5 (f:=(·.1)) (g:=g) (x:=x) (by rw [← hE];exact rC.2 hi)).1
 obtain ⟨h0,h1⟩:=jS (g:=g) (x:=x) (outs:=outs)
 have FG:(aV g x outs).length≤100000:=by omega
 have r6:f.row.length≤400000:=by omega
 have FH:outs.length≤1000000:=by omega
 unfold jA s4
 (refine Spec.tS (C:=T.cfg [] []) (rs:= [.t 6, .t 7]) [(10002,42)] (T.aj _ _) Try.func61 rfl rfl Try.ntmps61 Try.results61 (by simp [AObj.isNest]) (by simp [AObj.isNest]) (by first|(simp [look];done)|(simp [asN];done)|(intro l hl;simp only [asN];repeat (rw [if_neg (fun e=>by subst e;simp [look] at hl)]))) (by first|(simp [look];done)|(simp [asN];done)|(intro l hl;simp only [asN];repeat (rw [if_neg (fun e=>by subst e;simp [look] at hl)]))) (by kernel_rfl) T.mixed fun X hX hP hC aR cL=> ?_)
 repeat' (first|refine Rn.p ?_|(with_reducible apply And.intro)|((first|(refine hK _ ?_;clear hK K)|with_reducible intro K hK|refine Rs.p ?_|((with_reducible first|apply oP|apply oQ);exact rfl)|(refine ai hX hC hP (jR g hm f x mc hp1) rfl rfl rfl ?_ ?_ ?_ ?_;iterate 3 (focus (simp only [go_sem,simprocAttr,hR,ak,ha,hb,gE,List.length_map,List.map_append,List.map_cons,List.map_nil,rI,jA,List.cons_append,List.nil_append,List.map_take,List.map_drop];done)))|(refine an hX hC hP [(10000,16)] (bN outs) rfl rfl rfl ?_ ?_ ?_ ?_ ?_ ?_ ?_ ?_ ?_ ?_ ?_ ?_ ?_ ?_;(focus (simp only [go_sem,simprocAttr,hR,ak,ha,hb,gE,List.length_map,List.map_append,List.map_cons,List.map_nil,rI,jA,List.cons_append,List.nil_append,List.map_take,List.map_drop];done));(iterate 12 (focus (simp [go_sem,simprocAttr,hR,ak,ha,hb,gE,List.length_map,List.map_append,List.map_cons,List.map_nil,rI,jA,List.cons_append,List.nil_append,List.map_take,List.map_drop];done)));try simp only [List.map_cons,List.map_nil])|(refine bU hX hC hP [(10000,16)] (bG outs ho) rfl rfl rfl ?_ ?_ ?_ ?_ ?_ ?_ rfl rfl ?_ ?_;(focus (simp only [go_sem,simprocAttr,hR,ak,ha,hb,gE,List.length_map,List.map_append,List.map_cons,List.map_nil,rI,jA,List.cons_append,List.nil_append,List.map_take,List.map_drop];done));(iterate 6 (focus (simp [go_sem,simprocAttr,hR,ak,ha,hb,gE,List.length_map,List.map_append,List.map_cons,List.map_nil,rI,jA,List.cons_append,List.nil_append,List.map_take,List.map_drop];done)));try simp only [List.map_cons,List.map_nil])|refine aa hX hC hP (fm g hm x) rfl rfl rfl (by simp only [go_sem,simprocAttr,hR,ak,ha,hb,gE,List.length_map,List.map_append,List.map_cons,List.map_nil,rI,jA,List.cons_append,List.nil_append,List.map_take,List.map_drop]) rfl ?_|refine aa hX hC hP (cR (eS outs) (aP (·.1) g x) hs) rfl rfl rfl (by simp only [go_sem,simprocAttr,hR,ak,ha,hb,gE,List.length_map,List.map_append,List.map_cons,List.map_nil,rI,jA,List.cons_append,List.nil_append,List.map_take,List.map_drop]) rfl ?_|(refine ai hX hC hP (cY [vw g,sI f.pl] f.row x mc) rfl rfl rfl ?_ ?_ ?_ ?_;iterate 3 (focus (simp only [go_sem,simprocAttr,hR,ak,ha,hb,gE,List.length_map,List.map_append,List.map_cons,List.map_nil,rI,jA,List.cons_append,List.nil_append,List.map_take,List.map_drop];done)))|(refine lM hX hC hP 54 (sZ g ⟨f.row,f.pl++ [x]⟩ x outs FH AZ) rfl rfl rfl ?_ ?_ (by first|exact ⟨_,_,_,rfl,Af⟩|exact ⟨_,_,_,rfl,Ag⟩|exact ⟨_,_,_,rfl,CS⟩) rfl (by decide) ?_;(iterate 2 (focus (simp only [go_sem,simprocAttr,hR,ak,ha,hb,gE,List.length_map,List.map_append,List.map_cons,List.map_nil,rI,jA,List.cons_append,List.nil_append,List.map_take,List.map_drop];done)));simp only [go_sem,simprocAttr,hR,ak,ha,hb,gE,List.length_map,List.map_append,List.map_cons,List.map_nil,rI,jA,List.cons_append,List.nil_append,List.map_take,List.map_drop])|(refine an hX hC hP [(10001,42),(10003,54)] (vi g f.row (aV g x outs) (f.pl++ [x]) a b hab od h0 r6 FG) rfl rfl rfl ?_ ?_ ?_ ?_ ?_ ?_ ?_ ?_ ?_ ?_ ?_ ?_ ?_ ?_;(focus (simp only [go_sem,simprocAttr,hR,ak,ha,hb,gE,List.length_map,List.map_append,List.map_cons,List.map_nil,rI,jA,List.cons_append,List.nil_append,List.map_take,List.map_drop];done));(iterate 12 (focus (simp [go_sem,simprocAttr,hR,ak,ha,hb,gE,List.length_map,List.map_append,List.map_cons,List.map_nil,rI,jA,List.cons_append,List.nil_append,List.map_take,List.map_drop];done)));try simp only [List.map_cons,List.map_nil]));try simp only [go_sem,simprocAttr,hR,ak,ha,hb,gE,List.length_map,List.map_append,List.map_cons,List.map_nil,rI,jA,List.cons_append,List.nil_append,List.map_take,List.map_drop])|((with_reducible refine oD ?_ ?_);kernel_rfl)|((with_reducible intro h);try simp only [go_sem,simprocAttr,hR,ak,ha,hb,gE,List.length_map,List.map_append,List.map_cons,List.map_nil,rI,jA,List.cons_append,List.nil_append,List.map_take,List.map_drop] at h)|omega|intro h)
end Go.Ab
end
section
namespace Go.Ab
open Go.Proofs
attribute [local congr] ACall.congr gd.congr Nx.congr
set_option maxRecDepth 10000
set_option maxHeartbeats 4000000
def A0 (g:Gr) (f:Fr) (k:Nat):List Int:=((List.range k).filter fun x:Nat=>eH g f (x:Int)).map Int.ofNat
def FI (g:Gr) (f:Fr):List Int:=A0 g f g.n.toNat
theorem oX (g:Gr) (hl:g.es.length≤1000) (h0:(cK g).1=0) (hm:aZ g=true):Spec Try.prog 59 (Args [eG g]) [] (.tup [.ptr 10000 0,eN 0]) [(10000, .box [.nil 74, .d (vw g), .nil 3])]:=by
 (refine Spec.tS (C:=T.cfg [] []) (rs:= [.t 2, .t 3]) [(10000,11)] (T.aj _ _) Try.func59 rfl rfl Try.ntmps59 Try.results59 (by simp [AObj.isNest]) (by simp [AObj.isNest]) (by first|(simp [look];done)|(simp [asN];done)|(intro l hl;simp only [asN];repeat (rw [if_neg (fun e=>by subst e;simp [look] at hl)]))) (by first|(simp [look];done)|(simp [asN];done)|(intro l hl;simp only [asN];repeat (rw [if_neg (fun e=>by subst e;simp [look] at hl)]))) (by kernel_rfl) T.mixed fun X hX hP hC aR cL=> ?_)
 repeat' (first|refine Rn.p ?_|(with_reducible apply And.intro)|((first|(refine hK _ ?_;clear hK K)|with_reducible intro K hK|refine Rs.p ?_|((with_reducible first|apply oP|apply oQ);exact rfl)|refine aa hX hC hP (gZ g hl) rfl rfl rfl (by simp only [go_sem,simprocAttr,h0]) rfl ?_|refine aa hX hC hP (eW g hm) rfl rfl rfl (by simp only [go_sem,simprocAttr,h0]) rfl ?_);try simp only [go_sem,simprocAttr,h0])|((with_reducible refine oD ?_ ?_);kernel_rfl)|((with_reducible intro h);try simp only [go_sem,simprocAttr,h0] at h)|omega|intro h)
theorem vj (g:Gr) (hl:g.es.length≤1000) (h0:(cK g).1≠0):Spec Try.prog 59 (Args [eG g]) [] (.tup [.d (.sc (.pointer none)),eN 1]) []:=by
 have hb:decide ((cK g).1=0)=false:=decide_eq_false h0
 (refine Spec.hd (C:=T.cfg [] []) (rs:= [.t 2, .t 3]) (T.aj _ _) Try.func59 rfl rfl Try.ntmps59 Try.results59 (by simp [AObj.isNest]) (by simp [AObj.isNest]) (by kernel_rfl) T.mixed fun X hX hP hC aR cL=> ?_)
 repeat' (first|refine Rn.p ?_|(with_reducible apply And.intro)|((first|(refine hK _ ?_;clear hK K)|with_reducible intro K hK|refine Rs.p ?_|((with_reducible first|apply oP|apply oQ);exact rfl)|refine aa hX hC hP (gZ g hl) rfl rfl rfl (by simp only [go_sem,simprocAttr,hb]) rfl ?_);try simp only [go_sem,simprocAttr,hb])|((with_reducible refine oD ?_ ?_);kernel_rfl)|((with_reducible intro h);try simp only [go_sem,simprocAttr,hb] at h)|omega|intro h)
end Go.Ab
end
section
namespace Go.Ab
open Go.Proofs
attribute [local congr] ACall.congr gd.congr Nx.congr
set_option maxRecDepth 10000
set_option maxHeartbeats 4000000
def HJ (g:Gr) (f:Fr):List AV:= [eN g.n, .d (sE g.es), .d (sT f.row), .d (sI f.pl)]
def eY (row:List It) (x:Int):Nat→Int
 |0=>0
 |k+1=>if (row.getD k (0,0,0)).2.2=x then eY row x k+1 else eY row x k
theorem ef {row:List It} {x:Int} {k:Nat} :eY row x (k+1)=if (row.getD k (0,0,0)).2.2=x then eY row x k+1 else eY row x k:=rfl
def x2 (row:List It) (x:Int) (need:Nat) (j:Nat):Bool:=decide ((row.getD j (0,0,0)).2.2≠x)&&decide (0≤(row.getD j (0,0,0)).1)&&decide (0<eY row x j)&&decide (eY row x j<need)
theorem oY {row:List It} {x:Int} {need j:Nat} :x2 row x need j=true↔((row.getD j (0,0,0)).2.2≠x∧0≤(row.getD j (0,0,0)).1)∧0<eY row x j∧eY row x j<need:=by
 simp only [x2,Bool.and_eq_true,decide_eq_true_eq,and_assoc]
def bJ (g:Gr) (x:Int):Nat:=(aS (·.2) g.es g.es.length x).length
def bn (g:Gr) (f:Fr) (x:Int):Bool:=
 if x<0∨g.n≤x∨x∈f.pl then false else if bJ g x=0 then true else
 !(List.range f.row.length).any (x2 f.row x (bJ g x))&&decide (eY f.row x f.row.length=bJ g x)
end Go.Ab
end
section
namespace Go.Ab
open Go.Proofs
attribute [local congr] ACall.congr gd.congr Nx.congr
set_option maxRecDepth 10000
set_option maxHeartbeats 4000000
end Go.Ab
end
section
namespace Go.Ab
open Go.Proofs
attribute [local congr] ACall.congr gd.congr Nx.congr
set_option maxRecDepth 10000
set_option maxHeartbeats 8000000
def cn (g:Gr) (x:Int):List Int:=aS (·.1) g.es g.es.length x
def bF (g:Gr) (f:Fr) (x:Int) (outs:List Int):(List It × Int) × Fr:=
 (((f.row.take (aQ f.row x).2.1.toNat).drop (max (aQ f.row x).1 0).toNat,0),⟨f.row.take (max (aQ f.row x).1 0).toNat++aV g x outs++f.row.drop (aQ f.row x).2.1.toNat,f.pl++ [x]⟩)
def eZ (g:Gr) (f:Fr) (x:Int) (outs:List Int):(List It × Int) × Fr:=
 if bn g f x=false then (([],3),f) else
 if outs.length≠(cn g x).length∨∃i∈cn g x,i∉outs then (([],1),f) else bF g f x outs
theorem lS {f:Edge→Int} {es:List Edge} {k:Nat} {x:Int} :(aS f es k x).Nodup:=by
 unfold aS
 exact List.Pairwise.map _ (fun a b h e=>h (Int.ofNat.inj e)) (List.Pairwise.filter _ List.nodup_range)
theorem x3:∀ {ms os:List Int},ms.Nodup→(∀i∈ms,i∈os)→os.length=ms.length→∀i∈os,i∈ms
 | [],os,_,_,hl,i,hi=>by
   have:os= []:=List.eq_nil_of_length_eq_zero (by simpa using hl)
   rw [this] at hi;exact hi
 |m::ms,os,hn,hs,hl,i,hi=>by
  rw [List.nodup_cons] at hn
  have hm:=hs m (List.mem_cons_self ..)
  by_cases h:i=m
  ·rw [h];exact List.mem_cons_self ..
  ·refine List.mem_cons_of_mem _ (x3 hn.2 (os:=os.erase m) (fun j hj=> ?_) ?_ i ?_)
   ·have:j≠m:=fun e=>hn.1 (e ▸ hj)
    exact (List.mem_erase_of_ne this).2 (hs j (List.mem_cons_of_mem _ hj))
   ·rw [List.length_erase_of_mem hm,hl];simp
   ·exact (List.mem_erase_of_ne h).2 hi
theorem x4 {g:Gr} {x:Int} :(cn g x).length≤g.es.length:=k9
end Go.Ab
end
section
namespace Go.Ab
open Go.Proofs
attribute [local congr] ACall.congr gd.congr Nx.congr
set_option maxRecDepth 10000
set_option maxHeartbeats 4000000
def vI (ls:List (List Int)):List (List D):=ls.map fun l=> [sI l]
theorem vI_length {ls:List (List Int)} :(vI ls).length=ls.length:=by simp [vI]
theorem fW {ls:List (List Int)} {k:Nat} (h:k<ls.length) (d:List D):(vI ls).getD k d= [sI (ls.getD k [])]:=by
 simp [vI,List.getD_eq_getElem?_getD,List.getElem?_eq_getElem h]
attribute [go_sem] vI_length
def ua (l:List Int) (i:Nat):List Int:=l.take i++l.drop (i+1)
def zC:Nat→List Int→List (List Int)
 |0,_=> [[]]
 |n+1,l=>(List.range l.length).flatMap fun i=>(zC n (ua l i)).map fun t=>l.getD i 0::t
def HK (n:Nat) (l:List Int) (k:Nat):List (List Int):=(List.range k).flatMap fun i=>(zC n (ua l i)).map fun t=>l.getD i 0::t
def HL:Nat→Nat
 |0=>1
 |n+1=>(n+1)*HL n
end Go.Ab
end
section
namespace Go.Ab
open Go.Proofs
attribute [local congr] ACall.congr gd.congr Nx.congr
set_option maxRecDepth 10000
set_option maxHeartbeats 8000000
def CT (g:Gr):Nat→Fr→Bool
 |0,f=>decide ((f.pl.length:Int)=g.n)
 |m+1,f=>decide ((f.pl.length:Int)=g.n)||(List.range g.n.toNat).any fun x=>bn g f (x:Int)&&(zC (cn g (x:Int)).length (cn g (x:Int))).any fun o=>CT g m (bF g f (x:Int) o).2
def HM (g:Gr) (m:Nat) (f:Fr) (x:Nat):Bool:=bn g f (x:Int)&&(zC (cn g (x:Int)).length (cn g (x:Int))).any fun o=>CT g m (bF g f (x:Int) o).2
theorem vk {g:Gr} {f:Fr} {x:Int} {o:List Int} :(bF g f x o).2.row.length≤f.row.length+o.length+1∧(bF g f x o).2.pl.length=f.pl.length+1:=by
 obtain ⟨a,b,ha,hb,hab,od⟩:=oW f.row x
 have:=jS (g:=g) (x:=x) (outs:=o)
 have e:bF g f x o=(((f.row.take b).drop a,0),⟨f.row.take a++aV g x o++f.row.drop b,f.pl++ [x]⟩):=by
  simp only [bF,ha,hb,Int.toNat_natCast]
 rw [e]
 refine ⟨?_,by simp⟩
 show (f.row.take a++aV g x o++f.row.drop b).length≤_
 rw [List.length_append,List.length_append,List.length_take,List.length_drop]
 omega
end Go.Ab
end
section
namespace Go.Ab
open Go.Proofs
attribute [local congr] ACall.congr gd.congr Nx.congr
set_option maxRecDepth 10000
set_option maxHeartbeats 4000000
end Go.Ab
end
section
namespace Go.Ab
open Go.Proofs
attribute [local congr] ACall.congr gd.congr Nx.congr
set_option maxRecDepth 10000
set_option maxHeartbeats 4000000
def g9:Gr:=⟨3, [(0,1),(0,2),(1,2)]⟩
def I0:Fr:=⟨[], []⟩
def I1:Fr:=⟨[(0,0,1),(1,0,2)], [0]⟩
def I2:Fr:=⟨[(2,1,2),(1,0,2)], [0,1]⟩
def I3:Fr:=⟨[(-1,2, -1)], [0,1,2]⟩
end Go.Ab
end
section
namespace Go.Ab
open Go.Proofs
set_option maxRecDepth 10000
def vl (g:Gr) (t:It):Prop:=(t.1= -1∧t.2.2= -1)∨(0≤t.1∧t.1<g.es.length∧t.2.1=(g.es.getD t.1.toNat (0,0)).1∧t.2.2=(g.es.getD t.1.toNat (0,0)).2)
structure iV (g:Gr) (f:Fr):Prop where
 it:∀t∈f.row,vl g t
 pl:f.pl.Nodup
 A1:∀x∈f.pl,0≤x∧x<g.n
theorem iW {row:List It} {x:Int} :∀k:Nat,(dB row x k).2.2=eY row x k
 |0=>rfl
 |k+1=>by
  rw [jQ,ef]
  split
  ·show (dB row x k).2.2+1=_
   rw [iW k]
  ·exact iW k
theorem lf {row:List It} {x:Int} {j:Nat} :∀d:Nat,eY row x j≤eY row x (j+d)
 |0=>Int.le_refl _
 |d+1=>by
  have:=lf (row:=row) (x:=x) (j:=j) d
  rw [← Nat.add_assoc,ef]
  split<;>omega
theorem gF {row:List It} {x:Int} :∀ {k:Nat},(∀j,j<k→(row.getD j (0,0,0)).2.2≠x)→eY row x k=0
 |0,_=>rfl
 |k+1,h=>by
  rw [ef,if_neg (h k (by omega))]
  exact gF fun j hj=>h j (by omega)
theorem lg {row:List It} {x:Int} {b:Nat} :∀ {d:Nat},(∀j,b≤j→j<b+d→(row.getD j (0,0,0)).2.2≠x)→eY row x (b+d)=eY row x b
 |0,_=>rfl
 |d+1,h=>by
  rw [← Nat.add_assoc,ef,if_neg (h (b+d) (by omega) (by omega))]
  exact lg fun j h1 h2=>h j h1 (by omega)
theorem fq {f:Edge→Int} {g:Gr} {x:Int} (h0:0≤x) (h1:x<g.n):aP f g x=aS f g.es g.es.length x:=if_pos ⟨h0,h1⟩
theorem lp {g:Gr} {e:Int} (h0:0≤e) (h1:e<g.es.length):0<bJ g (g.es.getD e.toNat (0,0)).2:=by
 refine List.length_pos_iff.2 fun h=> ?_
 have hm:e∈aS (·.2) g.es g.es.length (g.es.getD e.toNat (0,0)).2:=by
  simp only [aS,List.mem_map,List.mem_filter,List.mem_range,decide_eq_true_eq]
  exact ⟨e.toNat,⟨by omega,rfl⟩,by simp;omega⟩
 rw [h] at hm;cases hm
theorem vm {row:List It} {p:It→Bool} {a b:Nat} (hb:b≤row.length):((row.take b).drop a).any p=true↔∃j,a≤j∧j<b∧p (row.getD j (0,0,0))=true:=by
 rw [List.any_eq_true]
 constructor
 ·rintro ⟨t,ht,hp⟩
  obtain ⟨k,hk,rfl⟩:=List.mem_iff_getElem.1 ht
  simp only [List.length_drop,List.length_take] at hk
  refine ⟨a+k,by omega,by omega, ?_⟩
  rw [List.getD_eq_getElem?_getD,List.getElem?_eq_getElem (show a+k<row.length by omega)]
  simpa using hp
 ·rintro ⟨j,h1,h2,hp⟩
  rw [List.getD_eq_getElem?_getD,List.getElem?_eq_getElem (show j<row.length by omega)] at hp
  refine ⟨row[j], ?_,hp⟩
  refine List.mem_iff_getElem.2 ⟨j - a,by simp;omega, ?_⟩
  simp only [List.getElem_drop,List.getElem_take]
  congr 1;omega
theorem vl.head {g:Gr} (hm:aZ g=true) {t:It} (h:vl g t):(0≤t.1↔t.2.2≠ -1)∧ -1≤t.2.2:=by
 rcases h with ⟨h1,h2⟩|⟨h1,h2,_,h4⟩
 ·omega
 ·obtain ⟨_,h5,_⟩:=dM hm (k:=t.1.toNat) (by omega)
  omega
theorem nN {g:Gr} (hm:aZ g=true) {f:Fr} (hi:iV g f) (x:Int):eH g f x=bn g f x:=by
 by_cases hx:x<0∨g.n≤x∨x∈f.pl
 ·rw [eH,bn,if_pos hx,if_pos hx]
 rw [eH,bn,if_neg hx,if_neg hx]
 have hx0:0≤x∧x<g.n:=by
  constructor
  ·exact Int.not_lt.1 fun h=>hx (.inl h)
  ·exact Int.not_le.1 fun h=>hx (.inr (.inl h))
 have hmem:∀j,j<f.row.length→vl g (f.row.getD j (0,0,0)):=fun j hj=>hi.it _ (bq hj)
 rw [fq hx0.1 hx0.2]
 have hN:(aS (fun e=>e.2) g.es g.es.length x).length=bJ g x:=rfl
 rw [hN]
 have A3:(aQ f.row x).2.2=eY f.row x f.row.length:=iW _
 by_cases h0:bJ g x=0
 ·rw [if_pos h0,h0,decide_eq_true rfl,Bool.true_or,Bool.and_true,decide_eq_true_eq,A3,gF]
  ·rfl
  ·intro j hj he
   rcases hmem j hj with ⟨_,h2⟩|⟨h1,h2,_,h4⟩
   ·omega
   ·have:=lp h1 h2
    rw [← h4,he] at this
    omega
 ·rw [if_neg h0,decide_eq_false h0,Bool.false_or,A3]
  generalize bJ g x=need at h0
  rcases dO (row:=f.row) (x:=x) f.row.length with ⟨hs,hno⟩|⟨a,b,c,hs,hab,od,hc0,sG,ha,hb,hlo,hhi⟩
  ·rw [gF hno]
   have e1:decide ((0:Int)=(need:Int))=false:=decide_eq_false (by omega)
   rw [e1,Bool.false_and,Bool.and_false]
  ·have hs':aQ f.row x=((a:Int),(b:Int),(c:Int)):=hs
   have GA:eY f.row x f.row.length=c:=by rw [← A3,hs']
   rw [hs',GA]
   simp only [Int.toNat_natCast]
   rw [Bool.and_comm]
   by_cases Dl:¬(c:Int)=need
   ·rw [decide_eq_false Dl,Bool.and_false,Bool.and_false]
   rw [Decidable.not_not] at Dl
   rw [decide_eq_true Dl,Bool.and_true,Bool.and_true,oV]
   congr 1
   rw [Bool.eq_iff_iff,vm od,List.any_eq_true]
   have ma:eY f.row x a=0:=gF hlo
   have I4:eY f.row x (a+1)=1:=by rw [ef,if_pos ha,ma];rfl
   have mb:eY f.row x b=need:=by
    have h:=lg (row:=f.row) (x:=x) (b:=b) (d:=f.row.length - b) fun j h1 h2=>hhi j h1 (by omega)
    rw [show b+(f.row.length - b)=f.row.length by omega,GA] at h
    omega
   have I5:eY f.row x (b - 1)+1=need:=by
    have h:=ef (row:=f.row) (x:=x) (k:=b - 1)
    rw [if_pos hb,show b - 1+1=b by omega,mb] at h
    omega
   constructor
   ·rintro ⟨j,h1,h2,hp⟩
    simp only [iU,Bool.and_eq_true,decide_eq_true_eq] at hp
    have hja:j≠a:=fun e=>hp.1 (by rw [e];exact ha)
    have hjb:j≠b - 1:=fun e=>hp.1 (by rw [e];exact hb)
    have g1:=lf (row:=f.row) (x:=x) (j:=a+1) (j - (a+1))
    rw [show a+1+(j - (a+1))=j by omega] at g1
    have g2:=lf (row:=f.row) (x:=x) (j:=j) (b - 1 - j)
    rw [show j+(b - 1 - j)=b - 1 by omega] at g2
    exact ⟨j,List.mem_range.2 (by omega),oY.2 ⟨⟨hp.1,((hmem j (by omega)).head hm).1.2 hp.2⟩,by omega,by omega⟩⟩
   ·rintro ⟨j,hj,hl⟩
    have hj:=List.mem_range.1 hj
    obtain ⟨⟨h1,h2⟩,h3,h4⟩:=oY.1 hl
    refine ⟨j, ?_, ?_, ?_⟩
    ·refine Nat.not_lt.1 fun h=> ?_
     have:=gF (row:=f.row) (x:=x) (k:=j) fun i hi=>hlo i (by omega)
     omega
    ·refine Nat.not_le.1 fun h=> ?_
     have:=lg (row:=f.row) (x:=x) (b:=b) (d:=j - b) fun i h1 h2=>hhi i h1 (by omega)
     rw [show b+(j - b)=j by omega] at this
     omega
    ·simp only [iU,Bool.and_eq_true,decide_eq_true_eq]
     exact ⟨h1,((hmem j hj).head hm).1.1 h2⟩
theorem qe:∀ {ms os:List Int},ms.Nodup→(∀i∈ms,i∈os)→os.length=ms.length→os.Perm ms
 | [],os,_,_,hl=>by
   have h:os= []:=List.eq_nil_of_length_eq_zero (by simpa using hl)
   rw [h]
 |m::ms,os,hn,hs,hl=>by
  rw [List.nodup_cons] at hn
  have hm:=hs m (List.mem_cons_self ..)
  refine (List.perm_cons_erase hm).trans (List.Perm.cons m (qe hn.2 (fun j hj=> ?_) ?_))
  ·have:j≠m:=fun e=>hn.1 (e ▸ hj)
   exact (List.mem_erase_of_ne this).2 (hs j (List.mem_cons_of_mem _ hj))
  ·rw [List.length_erase_of_mem hm,hl];simp
theorem lT {g:Gr} {x:Int} :(cn g x).Pairwise (· ≤ ·):=by
 unfold cn aS
 refine List.Pairwise.map _ (fun a b (h:a<b)=> ?_) (List.Pairwise.filter _ List.pairwise_lt_range)
 show (a:Int)≤b
 omega
theorem nO {l m:List Int} (h:l.Perm m) (hm:m.Pairwise (· ≤ ·)):eS l=m:=by
 have h1:(eS l).Pairwise (· ≤ ·):=by
  have:=List.pairwise_mergeSort (le:=fun a b:Int=>decide (a≤b)) (by simp;omega) (by simp;omega) l
  simpa [eS] using this
 have h2:(eS l).Perm m:=(by unfold eS;exact (List.mergeSort_perm l _).trans h)
 exact h2.eq_of_pairwise (fun a b _ _ h1 h2=>Int.le_antisymm h1 h2) h1 hm
theorem dF {g:Gr} {f:Fr} {x:Int} (h:bn g f x=true):0≤x∧x<g.n∧x∉f.pl:=by
 unfold bn at h
 by_cases hx:x<0∨g.n≤x∨x∈f.pl
 ·rw [if_pos hx] at h;cases h
 ·exact ⟨Int.not_lt.1 fun h=>hx (.inl h),Int.not_le.1 fun h=>hx (.inr (.inl h)),fun h=>hx (.inr (.inr h))⟩
theorem x5 {g:Gr} (hm:aZ g=true) {f:Fr} (hi:iV g f) (x:Int) (outs:List Int):gi g f x outs=eZ g f x outs:=by
 rw [gi,eZ,nN hm hi]
 cases hR:bn g f x with
 |false=>rw [if_pos rfl,if_pos rfl]
 |true=>
  obtain ⟨h0,h1,h2⟩:=dF hR
  have ht:¬(true=false):=by simp
  rw [if_neg ht,if_neg ht,fq h0 h1]
  show (if eS outs≠cn g x then _ else bF g f x outs)=_
  by_cases hs:eS outs=cn g x
  ·rw [if_neg (fun h=>h hs),if_neg]
   rintro (h|⟨i,h3,h4⟩)
   ·exact h (by rw [← hs,di])
   ·exact h4 (rC.1 (hs ▸ h3))
  ·rw [if_pos hs,if_pos]
   refine Decidable.byContradiction fun h=>hs ?_
   have hl:outs.length=(cn g x).length:=Decidable.byContradiction fun e=>h (.inl e)
   exact nO (qe lS (fun i hi=>Decidable.byContradiction fun e=>h (.inr ⟨i,hi,e⟩)) hl) lT
theorem x6 {g:Gr} {x:Int} {outs:List Int} (ho:∀i∈outs,i∈cn g x):∀t∈aV g x outs,vl g t:=by
 intro t ht
 unfold aV at ht
 split at ht
 ·rw [List.mem_singleton] at ht
  rw [ht];exact .inl ⟨rfl,rfl⟩
 ·obtain ⟨i,hi,rfl⟩:=List.mem_map.1 ht
  obtain ⟨⟨h1,h2⟩,h3⟩:=dD (ho i hi)
  exact .inr ⟨h1,h2,h3.symm,rfl⟩
theorem x7 {g:Gr} {f:Fr} (hi:iV g f) {x:Int} (hR:bn g f x=true) {outs:List Int} (ho:∀i∈outs,i∈cn g x):iV g (bF g f x outs).2:=by
 obtain ⟨h0,h1,h2⟩:=dF hR
 refine ⟨fun t ht=> ?_, ?_,fun y hy=> ?_⟩
 ·simp only [bF,List.mem_append] at ht
  rcases ht with (ht|ht)|ht
  ·exact hi.it t (List.mem_of_mem_take ht)
  ·exact x6 ho t ht
  ·exact hi.it t (List.mem_of_mem_drop ht)
 ·show (f.pl++ [x]).Nodup
  rw [List.nodup_append]
  refine ⟨hi.pl,by simp,fun a ha b hb e=>h2 ?_⟩
  rw [List.mem_singleton] at hb
  rw [← hb, ← e];exact ha
 ·have hy:y∈f.pl++ [x]:=hy
  rcases List.mem_append.1 hy with h|h
  ·exact hi.A1 y h
  ·rw [List.mem_singleton] at h
   rw [h];exact ⟨h0,h1⟩
end Go.Ab
end
section
namespace Go.Ab
open Go.Proofs
set_option maxRecDepth 10000
def jj (x:Int) (t:It):Bool:=decide (t.2.2=x)
structure x8 (x:Int) (X:List It):Prop where
 fst:∃p X',X=p::X'∧p.2.2=x
 FJ:∃X' q,X=X'++ [q]∧q.2.2=x
 al:∀t∈X,t.2.2=x∨t.2.2= -1
def jt (x:Int) (l:List It):Prop:=∀t∈l,t.2.2≠x
theorem jt.app {x:Int} {l m:List It} (h:jt x l) (h':jt x m):jt x (l++m):=fun t ht=>(List.mem_append.1 ht).elim (h t) (h' t)
theorem jt.left {x:Int} {l m:List It} (h:jt x (l++m)):jt x l:=fun t ht=>h t (List.mem_append.2 (.inl ht))
theorem jt.right {x:Int} {l m:List It} (h:jt x (l++m)):jt x m:=fun t ht=>h t (List.mem_append.2 (.inr ht))
theorem x8.GB {x y:Int} {X:List It} (h:x8 x X) (hxy:x≠y) (hy:0≤y):jt y X:=fun t ht e=>by
 rcases h.al t ht with h1|h1<;>omega
theorem jT {row:List It} {x:Int} :∀ {k:Nat},k≤row.length→eY row x k=((row.take k).countP (jj x):Nat)
 |0,_=>by simp [eY]
 |k+1,h=>by
  rw [ef,jT (k:=k) (by omega),List.take_add_one,List.getElem?_eq_getElem (show k<row.length by omega),List.countP_append]
  simp only [Option.toList,List.countP_cons,List.countP_nil,jj,decide_eq_true_eq,List.getD_eq_getElem?_getD,List.getElem?_eq_getElem (show k<row.length by omega),Option.getD_some]
  split<;>simp
theorem vo {A X C:List It} {p:It} {X':List It} (h:X=p::X'):(A++X++C).getD A.length (0,0,0)=p:=by
 subst h;simp [List.getD_eq_getElem?_getD]
theorem vp {A X C:List It} {q:It} {X':List It} (h:X=X'++ [q]):(A++X++C).getD (A.length+X.length - 1) (0,0,0)=q:=by
 subst h
 have e:A.length+(X'++ [q]).length - 1=(A++X').length:=by simp
 rw [e,show A++(X'++ [q])++C=(A++X')++([q]++C) by simp]
 simp [List.getD_eq_getElem?_getD]
theorem vq {A L:List It} {j:Nat} (h:j<A.length):(A++L).getD j (0,0,0)∈A:=by
 rw [List.getD_eq_getElem?_getD,List.getElem?_append_left h,List.getElem?_eq_getElem h]
 exact List.getElem_mem h
theorem vr {A L:List It} {j:Nat} (h:A.length≤j) (h':j<(A++L).length):(A++L).getD j (0,0,0)∈L:=by
 rw [List.length_append] at h'
 rw [List.getD_eq_getElem?_getD,List.getElem?_append_right h,List.getElem?_eq_getElem (by omega)]
 exact List.getElem_mem _
theorem uc {A X C:List It} {x:Int} (hA:jt x A) (hC:jt x C) (hX:x8 x X):
 (aQ (A++X++C) x).1=(A.length:Int)∧(aQ (A++X++C) x).2.1=((A.length+X.length:Nat):Int)∧(aQ (A++X++C) x).2.2=(X.countP (jj x):Nat):=by
 have pW:(aQ (A++X++C) x).2.2=(X.countP (jj x):Nat):=by
  unfold aQ
  rw [iW,jT (Nat.le_refl _),List.take_length,List.countP_append,List.countP_append]
  have h1:A.countP (jj x)=0:=List.countP_eq_zero.2 fun t ht=>by simp [jj,hA t ht]
  have h2:C.countP (jj x)=0:=List.countP_eq_zero.2 fun t ht=>by simp [jj,hC t ht]
  rw [h1,h2];simp
 obtain ⟨p,X',e1,hp⟩:=hX.fst
 obtain ⟨I6,q,e2,hq⟩:=hX.FJ
 have g1:=vo (A:=A) (C:=C) e1
 have g2:=vp (A:=A) (C:=C) e2
 have I7:0<X.length:=by rw [e1];simp
 have hlen:(A++X++C).length=A.length+X.length+C.length:=by simp;omega
 rcases dO (row:=A++X++C) (x:=x) (A++X++C).length with ⟨_,hno⟩|⟨a,b,c,hs,hab,od,hc0,sG,ha,hb,hlo,hhi⟩
 ·exact absurd (by rw [g1];exact hp) (hno A.length (by omega))
 ·have hs':aQ (A++X++C) x=((a:Int),(b:Int),(c:Int)):=hs
  refine ⟨?_, ?_,pW⟩
  ·rw [hs']
   have h1:¬A.length<a:=fun h=>hlo _ h (by rw [g1];exact hp)
   have h2:¬a<A.length:=fun h=>hA _ (by have:=vq (L:=X++C) h;rw [← List.append_assoc] at this;exact this) ha
   simp only;omega
  ·rw [hs']
   have h1:¬b<A.length+X.length:=fun h=>hhi (A.length+X.length - 1) (by omega) (by omega) (by rw [g2];exact hq)
   have h2:¬A.length+X.length<b:=fun h=>hC _ (vr (A:=A++X) (j:=b - 1) (by simp;omega) (by omega)) hb
   simp only;omega
theorem nP {g:Gr} (hm:aZ g=true) {f:Fr} (hi:iV g f) {A X C:List It} {x:Int} (h0:0≤x) (h1:x<g.n) (hp:x∉f.pl) (hr:f.row=A++X++C) (hA:jt x A) (hC:jt x C) (hX:x8 x X)
 (hc:X.countP (jj x)=bJ g x):bn g f x=true:=by
 rw [← nN hm hi,eH,if_neg (by rintro (h|h|h);omega;omega;exact hp h)]
 obtain ⟨e1,e2,e3⟩:=uc hA hC hX
 rw [hr,e1,e2,e3,fq h0 h1,Bool.and_eq_true,decide_eq_true_eq]
 refine ⟨by rw [hc];rfl, ?_⟩
 rw [Bool.or_eq_true];right
 simp only [oV,Int.toNat_natCast]
 rw [List.take_append_of_le_length (by simp),List.take_of_length_le (by simp),List.drop_left,Bool.not_eq_true',List.any_eq_false]
 intro t ht
 simp only [iU,Bool.and_eq_true,decide_eq_true_eq]
 rcases hX.al t ht with h|h<;>simp [h]
theorem cD {g:Gr} (hm:aZ g=true) {f:Fr} (hi:iV g f) {x:Int} (hR:bn g f x=true) (hn:bJ g x≠0):
 ∃A X C,f.row=A++X++C∧jt x A∧jt x C∧x8 x X∧X.countP (jj x)=bJ g x:=by
 obtain ⟨h0,h1,h2⟩:=dF hR
 rw [← nN hm hi,eH,if_neg (by rintro (h|h|h);omega;omega;exact h2 h),fq h0 h1,Bool.and_eq_true,decide_eq_true_eq] at hR
 have hN:(aS (fun e=>e.2) g.es g.es.length x).length=bJ g x:=rfl
 rw [hN,decide_eq_false hn,Bool.false_or] at hR
 obtain ⟨hc,hb⟩:=hR
 have pW:(f.row.countP (jj x):Int)=bJ g x:=by
  rw [← hc];unfold aQ
  rw [iW,jT (Nat.le_refl _),List.take_length]
 rcases dO (row:=f.row) (x:=x) f.row.length with ⟨hs,hno⟩|⟨a,b,c,hs,hab,od,hc0,sG,ha,hb',hlo,hhi⟩
 ·have:aQ f.row x=(-1,0,0):=hs
  rw [this] at hc
  exfalso;simp only at hc;omega
 ·have hs':aQ f.row x=((a:Int),(b:Int),(c:Int)):=hs
  rw [hs'] at hb
  simp only [Int.toNat_natCast] at hb
  have hA:jt x (f.row.take a):=fun t ht=>by
   obtain ⟨j,hj,rfl⟩:=List.mem_iff_getElem.1 ht
   simp only [List.length_take] at hj
   have:=hlo j (by omega)
   rw [List.getD_eq_getElem?_getD,List.getElem?_eq_getElem (show j<f.row.length by omega)] at this
   simpa using this
  have hC:jt x (f.row.drop b):=fun t ht=>by
   obtain ⟨j,hj,rfl⟩:=List.mem_iff_getElem.1 ht
   simp only [List.length_drop] at hj
   have:=hhi (b+j) (by omega) (by omega)
   rw [List.getD_eq_getElem?_getD,List.getElem?_eq_getElem (show b+j<f.row.length by omega)] at this
   simpa using this
  have hrow:f.row=f.row.take a++(f.row.take b).drop a++f.row.drop b:=by
   have e1:f.row.take a=(f.row.take b).take a:=by rw [List.take_take,Nat.min_eq_left (by omega)]
   rw [e1,List.take_append_drop,List.take_append_drop]
  refine ⟨f.row.take a,(f.row.take b).drop a,f.row.drop b,hrow,hA,hC,⟨?_, ?_, ?_⟩, ?_⟩
  ·refine ⟨f.row.getD a (0,0,0),(f.row.take b).drop (a+1), ?_,ha⟩
   rw [List.drop_eq_getElem_cons (by simp;omega)]
   congr 1
   rw [List.getD_eq_getElem?_getD,List.getElem?_eq_getElem (show a<f.row.length by omega)]
   simp
  ·refine ⟨(f.row.take (b - 1)).drop a,f.row.getD (b - 1) (0,0,0), ?_,hb'⟩
   have e:f.row.take b=f.row.take (b - 1)++ [f.row.getD (b - 1) (0,0,0)]:=by
    conv=>lhs;rw [show b=b - 1+1 by omega]
    rw [List.take_add_one,List.getD_eq_getElem?_getD,List.getElem?_eq_getElem (show b - 1<f.row.length by omega)]
    rfl
   rw [e,List.drop_append_of_le_length (by simp;omega)]
  ·intro t ht
   rw [oV,Bool.not_eq_true',List.any_eq_false] at hb
   have:=hb t ht
   simp only [iU,Bool.and_eq_true,decide_eq_true_eq,not_and] at this
   by_cases h:t.2.2=x
   ·exact .inl h
   ·exact .inr (Decidable.byContradiction fun h'=>this h h')
  ·have h1:(f.row.take a).countP (jj x)=0:=List.countP_eq_zero.2 fun t ht=>by simp [jj,hA t ht]
   have h2:(f.row.drop b).countP (jj x)=0:=List.countP_eq_zero.2 fun t ht=>by simp [jj,hC t ht]
   rw [hrow,List.countP_append,List.countP_append,h1,h2] at pW
   omega
theorem fc {g:Gr} {f:Fr} {A X C:List It} {x:Int} (o:List Int) (hr:f.row=A++X++C) (hA:jt x A) (hC:jt x C) (hX:x8 x X):
 bF g f x o=((X,0),⟨A++aV g x o++C,f.pl++ [x]⟩):=by
 obtain ⟨e1,e2,e3⟩:=uc hA hC hX
 have e4:max (A.length:Int) 0=(A.length:Int):=by omega
 unfold bF
 rw [hr,e1,e2,e4,Int.toNat_natCast,Int.toNat_natCast]
 rw [List.take_append_of_le_length (show A.length+X.length≤(A++X).length by simp),List.take_of_length_le (show (A++X).length≤A.length+X.length by simp),List.drop_left]
 rw [show (A++X++C).take A.length=A by rw [List.append_assoc,List.take_left]]
 rw [show (A++X++C).drop (A.length+X.length)=C by rw [← List.length_append,List.drop_left]]
theorem dG {g:Gr} {f:Fr} {x:Int} (o:List Int) (hr:jt x f.row):bF g f x o=(([],0),⟨aV g x o++f.row,f.pl++ [x]⟩):=by
 have hs:aQ f.row x=(-1,0,0):=by
  rcases dO (row:=f.row) (x:=x) f.row.length with ⟨hs,_⟩|⟨a,b,c,hs,hab,od,hc0,sG,ha,hb',hlo,hhi⟩
  ·exact hs
  ·exact absurd ha (hr _ (bq (by omega)))
 have e4:max (-1:Int) 0=0:=by omega
 unfold bF
 rw [hs]
 simp [e4]
end Go.Ab
end
section
namespace Go.Ab
open Go.Proofs
set_option maxRecDepth 10000
structure A4 (g:Gr) (f:Fr):Prop extends iV g f where
 tail:∀t∈f.row,0≤t.1→t.2.1∈f.pl
 head:∀t∈f.row,0≤t.1→t.2.2∉f.pl
 once:f.row.Pairwise fun s t=>0≤s.1→s.1≠t.1
 low:∀i,i<g.es.length→hd g i∈f.pl→tl g i∈f.pl
 src:(f.pl= []∧f.row= [])∨∃s∈f.pl,bJ g s=0
theorem ud (g:Gr):A4 g ⟨[], []⟩:=
 {it:=by simp,pl:=by simp,A1:=by simp,tail:=by simp,head:=by simp,once:=by simp,low:=by simp,src:= .inl ⟨rfl,rfl⟩}
theorem s7 {g:Gr} (hm:aZ g=true) {f:Fr} (hi:A4 g f) {x:Int} (hR:bn g f x=true) {i:Nat} (hl:i<g.es.length) (hx:hd g i=x):∃t∈f.row,t.1=i∧t.2.1=tl g i∧t.2.2=x:=by
 have hn:bJ g x≠0:=by
  have:=lp (g:=g) (e:=(i:Int)) (by omega) (by omega)
  rw [Int.toNat_natCast,show (g.es.getD i (0,0)).2=x from hx] at this
  omega
 obtain ⟨A,X,C,hr,hA,hC,hX,hc⟩:=cD hm hi.toiV hR hn
 have hN:(aS (fun e=>e.2) g.es g.es.length x).length=bJ g x:=rfl
 have hok:∀t∈f.row,t.2.2=x→0≤t.1∧t.1<g.es.length∧t.2.1=(g.es.getD t.1.toNat (0,0)).1∧t.2.2=(g.es.getD t.1.toNat (0,0)).2:=fun t ht he=>by
  rcases hi.it t ht with ⟨_,h2⟩|h
  ·have:=(dF hR).1;omega
  ·exact h
 have hmem:∀t∈X,t∈f.row:=fun t ht=>by rw [hr];simp [ht]
 have Ah:=qe (ms:=(X.filter (jj x)).map (·.1)) (os:=aS (fun e=>e.2) g.es g.es.length x)
 have key:∀i∈aS (fun e=>e.2) g.es g.es.length x,i∈(X.filter (jj x)).map (·.1):=by
  refine x3 (ms:=(X.filter (jj x)).map (·.1)) (os:=aS (fun e=>e.2) g.es g.es.length x) ?_ ?_ ?_
  ·have h1:X.Pairwise fun s t=>0≤s.1→s.1≠t.1:=by
    have:=hi.once
    rw [hr,List.pairwise_append,List.pairwise_append] at this
    exact this.1.2.1
   have h2:=h1.filter (jj x)
   rw [List.Nodup,List.pairwise_map]
   refine h2.imp_of_mem fun {a b} ha hb h=>h ?_
   obtain ⟨HN,HO⟩:=List.mem_filter.1 ha
   exact (hok a (hmem a HN) (by simpa [jj] using HO)).1
  ·intro e he
   obtain ⟨t,ht,rfl⟩:=List.mem_map.1 he
   obtain ⟨ht1,ht2⟩:=List.mem_filter.1 ht
   have ht2:t.2.2=x:=by simpa [jj] using ht2
   obtain ⟨h1,h2,h3,h4⟩:=hok t (hmem t ht1) ht2
   simp only [aS,List.mem_map,List.mem_filter,List.mem_range,decide_eq_true_eq]
   exact ⟨t.1.toNat,⟨by omega,by rw [← h4];exact ht2⟩,by simp;omega⟩
  ·rw [hN, ← hc,List.length_map,List.countP_eq_length_filter]
 have hie:(i:Int)∈aS (fun e=>e.2) g.es g.es.length x:=by
  simp only [aS,List.mem_map,List.mem_filter,List.mem_range,decide_eq_true_eq]
  exact ⟨i,⟨hl,hx⟩,rfl⟩
 obtain ⟨t,ht,he⟩:=List.mem_map.1 (key _ hie)
 obtain ⟨ht1,ht2⟩:=List.mem_filter.1 ht
 have ht2:t.2.2=x:=by simpa [jj] using ht2
 obtain ⟨h1,h2,h3,h4⟩:=hok t (hmem t ht1) ht2
 refine ⟨t,hmem t ht1,he, ?_,ht2⟩
 rw [h3,he,Int.toNat_natCast];rfl
theorem dm {g:Gr} (hm:aZ g=true) {f:Fr} (hi:iV g f) {x:Int} (h0:0≤x) (hn:bJ g x=0):jt x f.row:=by
 intro t ht he
 rcases hi.it t ht with ⟨_,h2⟩|⟨h1,h2,_,h4⟩
 ·omega
 ·have:=lp h1 h2
  rw [← h4,he] at this
  omega
theorem ia {g:Gr} (hm:aZ g=true) {f:Fr} (hi:iV g f) {x:Int} (hR:bn g f x=true):
 ∃A X C,f.row=A++X++C∧jt x A∧jt x C∧(∀t∈X,t.2.2=x∨t.2.2= -1)∧∀o,bF g f x o=((X,0),⟨A++aV g x o++C,f.pl++ [x]⟩):=by
 by_cases hn:bJ g x=0
 ·have h:=dm hm hi (dF hR).1 hn
  exact ⟨[], [],f.row,by simp,fun t ht=>(by cases ht),h,fun t ht=>(by cases ht),fun o=>by rw [dG o h];simp⟩
 ·obtain ⟨A,X,C,hr,hA,hC,hX,_⟩:=cD hm hi hR hn
  exact ⟨A,X,C,hr,hA,hC,hX.al,fun o=>fc o hr hA hC hX⟩
theorem kG {g:Gr} {x i:Int} (h:i∈cn g x):∃k:Nat,i=k∧k<g.es.length∧tl g k=x:=by
 obtain ⟨⟨h1,h2⟩,h3⟩:=dD h
 exact ⟨i.toNat,by omega,by omega,h3⟩
theorem jk {g:Gr} {x:Int} {o:List Int} (ho:∀i∈o,i∈cn g x) {t:It} (h:t∈aV g x o):(t.1= -1∧t.2.2= -1)∨∃k:Nat,k<g.es.length∧t.1=k∧t.2.1=x∧t.2.2=hd g k∧tl g k=x∧t.1∈o:=by
 unfold aV at h
 split at h
 ·rw [List.mem_singleton] at h
  rw [h];exact .inl ⟨rfl,rfl⟩
 ·obtain ⟨i,GC,rfl⟩:=List.mem_map.1 h
  obtain ⟨k,rfl,h1,h2⟩:=kG (ho i GC)
  exact .inr ⟨k,h1,rfl,rfl,by simp [fV];rfl,h2,GC⟩
theorem vt {g:Gr} (hm:aZ g=true) {f:Fr} (hi:A4 g f) {x y:Int} (hx:x∉f.pl) (hR:bn g f y=true) {o:List Int} (ho:∀i∈o,i∈cn g x):jt y (aV g x o):=by
 intro t ht he
 rcases jk ho ht with ⟨_,h⟩|⟨k,h1,h2,h3,h4,h5,_⟩
 ·have:=(dF hR).1;omega
 ·obtain ⟨s,hs,e1,e2,e3⟩:=s7 hm hi hR h1 (by rw [← h4];exact he)
  refine hx ?_
  rw [← h5, ← e2]
  exact hi.tail s hs (by omega)
theorem x9 {g:Gr} (hm:aZ g=true) {f:Fr} (hi:A4 g f) {x:Int} (hR:bn g f x=true) {o:List Int} (ho:o.Perm (cn g x)):A4 g (bF g f x o).2:=by
 have AZ:∀i∈o,i∈cn g x:=fun i h=>ho.mem_iff.1 h
 have hx:=(dF hR).2.2
 have h0:=x7 hi.toiV hR AZ
 obtain ⟨A,X,C,hr,hA,hC,hX,hs⟩:=ia hm hi.toiV hR
 have fS:(bF g f x o).2.pl=f.pl++ [x]:=rfl
 have hrow:(bF g f x o).2.row=A++aV g x o++C:=by rw [hs o]
 have FK:∀t∈A,t∈f.row:=fun t ht=>by rw [hr];simp [ht]
 have FL:∀t∈C,t∈f.row:=fun t ht=>by rw [hr];simp [ht]
 have CU:=vt hm hi hx hR AZ
 refine {toiV:=h0,tail:= ?_,head:= ?_,once:= ?_,low:= ?_,src:= .inr ?_}
 ·intro t ht h1
  rw [fS]
  rw [hrow,List.mem_append,List.mem_append] at ht
  rcases ht with (ht|ht)|ht
  ·exact List.mem_append_left _ (hi.tail t (FK t ht) h1)
  ·rcases jk AZ ht with ⟨h,_⟩|⟨k,_,_,h3,_⟩
   ·omega
   ·rw [h3];simp
  ·exact List.mem_append_left _ (hi.tail t (FL t ht) h1)
 ·intro t ht h1
  rw [fS,List.mem_append,List.mem_singleton]
  rw [hrow,List.mem_append,List.mem_append] at ht
  rcases ht with (ht|ht)|ht
  ·rintro (h|h)
   ·exact hi.head t (FK t ht) h1 h
   ·exact hA t ht h
  ·rintro (h|h)
   ·rcases jk AZ ht with ⟨h',_⟩|⟨k,hk,_,_,h4,h5,_⟩
    ·omega
    ·rw [h4] at h
     have:=hi.low k hk h
     rw [h5] at this;exact hx this
   ·exact CU t ht h
  ·rintro (h|h)
   ·exact hi.head t (FL t ht) h1 h
   ·exact hC t ht h
 ·have qz:=hi.once
  rw [hr,List.pairwise_append,List.pairwise_append] at qz
  obtain ⟨⟨HP,_,_⟩,HQ,FM⟩:=qz
  have old:∀s∈f.row,0≤s.1→∀t∈aV g x o,s.1≠t.1:=fun s hs h1 t ht e=>by
   rcases jk AZ ht with ⟨h,_⟩|⟨k,hk,h2,h3,h4,h5,_⟩
   ·omega
   ·rcases hi.it s hs with ⟨h,_⟩|⟨_,_,h6,_⟩
    ·omega
    ·have:=hi.tail s hs h1
     rw [h6,e,h2,Int.toNat_natCast] at this
     exact hx (h5 ▸ this)
  rw [hrow,List.pairwise_append,List.pairwise_append]
  refine ⟨⟨HP, ?_,fun s hs t ht h1=>old s (FK s hs) h1 t ht⟩,HQ, ?_⟩
  ·unfold aV
   split
   ·simp
   ·refine List.pairwise_map.2 ((ho.nodup_iff.2 lS).imp fun {i j} (h:i≠j) _=> ?_)
    exact h
  ·intro s hs t ht h1
   rcases List.mem_append.1 hs with hs|hs
   ·exact FM s (List.mem_append_left _ hs) t ht h1
   ·intro e
    exact old t (FL t ht) (by omega) s hs e.symm
 ·intro i hl h
  rw [fS,List.mem_append,List.mem_singleton] at h ⊢
  left
  rcases h with h|h
  ·exact hi.low i hl h
  ·obtain ⟨t,ht,e1,e2,_⟩:=s7 hm hi hR hl h
   rw [← e2]
   exact hi.tail t ht (by omega)
 ·rcases hi.src with ⟨h1,h2⟩|⟨s,hs,h⟩
  ·refine ⟨x,by rw [fS];simp, ?_⟩
   refine Decidable.byContradiction fun hn=> ?_
   obtain ⟨A,X,C,hr,_,_,hX,_⟩:=cD hm hi.toiV hR hn
   obtain ⟨p,X',e,_⟩:=hX.fst
   rw [h2,e] at hr
   simp at hr
  ·exact ⟨s,by rw [fS];simp [hs],h⟩
theorem apart {x y:Int} (hx:0≤x) (hy:0≤y) (hxy:x≠y) {A X C B Y D:List It} (h:A++X++C=B++Y++D) (hX:x8 x X) (hY:x8 y Y):
 (∃M,B=A++X++M∧C=M++Y++D)∨(∃M,A=B++Y++M∧D=M++X++C):=by
 obtain ⟨p,X',s8,hp⟩:=hX.fst
 obtain ⟨q,Y',HR,hq⟩:=hY.fst
 have nX:q∉X:=fun h=>hX.GB hxy hy q h hq
 have nY:p∉Y:=fun h=>hY.GB (Ne.symm hxy) hx p h hp
 rw [show B++Y++D=B++(Y++D) by simp,List.append_eq_append_iff] at h
 rcases h with ⟨es,h1,h2⟩|⟨cs,h1,h2⟩
 ·exact .inl ⟨es,h1,by rw [h2];simp⟩
 ·match cs,h1,h2 with
  | [],h1,h2=>exact .inl ⟨[],by simpa using h1.symm,by simpa using h2.symm⟩
  |c::cs,h1,h2=>
   have HS:c=q:=by rw [HR] at h2;simp at h2;exact h2.1.symm
   rw [List.append_eq_append_iff] at h1
   rcases h1 with ⟨es,h3,h4⟩|⟨ds,h3,h4⟩
   ·exfalso;refine nX ?_
    rw [h4, ← HS];simp
   ·rw [h4,List.append_assoc,List.append_eq_append_iff] at h2
    rcases h2 with ⟨es,h5,h6⟩|⟨bs,h5,h6⟩
    ·exact .inr ⟨es,by rw [h3,h5];simp,by rw [h6];simp⟩
    ·match bs,h5,h6 with
     | [],h5,h6=>exact .inr ⟨[],by rw [h3,h5];simp,by simpa using h6.symm⟩
     |b::bs,h5,h6=>
      exfalso;refine nY ?_
      have HT:b=p:=by rw [s8] at h6;simp at h6;exact h6.1.symm
      rw [h5, ← HT];simp
theorem lu {g:Gr} {y:Int} :y∈cm (·.2) g↔(0≤y∧y<g.n)∧bJ g y=0:=by
 simp only [cm,iu,List.mem_map,List.mem_filter,List.mem_range,decide_eq_true_eq]
 have he:∀x:Nat,x<g.n.toNat→(((dy (·.2) g).getD x []).length=bJ g (x:Int)):=by
  intro x hx
  have e:(dy (·.2) g).getD x []=aS (·.2) g.es g.es.length (x:Int):=by
   simp [dy,List.getD_eq_getElem?_getD,List.getElem?_range hx,nD]
  rw [e];rfl
 constructor
 ·rintro ⟨x,⟨hx,h0⟩,rfl⟩
  refine ⟨by simp;omega,by rw [he x hx] at h0;exact h0⟩
 ·rintro ⟨⟨h1,h2⟩,h3⟩
  have e:((y.toNat:Nat):Int)=y:=by omega
  exact ⟨y.toNat,⟨by omega,by rw [he _ (by omega),e];exact h3⟩,e⟩
theorem zD {g:Gr} (hc:(cK g).1=0) {x y:Int} (hx:0≤x∧x<g.n) (hy:0≤y∧y<g.n) (nx:bJ g x=0) (ny:bJ g y=0):x=y:=by
 have h1:(cm (·.2) g).length≤1:=by
  unfold cK iS at hc
  refine Nat.not_lt.1 fun h=> ?_
  split at hc
  ·cases hc
  split at hc
  ·cases hc
  split at hc
  ·cases hc
  split at hc
  ·cases hc
  cases hc
 have h2:=lu.2 ⟨hx,nx⟩
 have h3:=lu.2 ⟨hy,ny⟩
 match hb:cm (·.2) g with
 | []=>rw [hb] at h2;cases h2
 | [z]=>rw [hb,List.mem_singleton] at h2 h3;rw [h2,h3]
 |_::_::_=>rw [hb] at h1;simp at h1
theorem aW {g:Gr} (hc:(cK g).1=0):aZ g=true:=by
 unfold cK iS at hc
 split at hc
 ·cases hc
 ·rename_i h;simpa using h
end Go.Ab
end
section
namespace Go.Ab
open Go.Proofs
attribute [local congr] ACall.congr gd.congr Nx.congr
set_option maxRecDepth 10000
set_option maxHeartbeats 4000000
def ue (row:List It) (a b:Int):Nat→Int × Int
 |0=>(-1,0)
 |k+1=>if ((row.getD k (0,0,0)).2.2=a∨(row.getD k (0,0,0)).2.2=b)∧(row.getD k (0,0,0)).2.2≠(ue row a b k).1 then ((row.getD k (0,0,0)).2.2,(ue row a b k).2+1) else ue row a b k
end Go.Ab
end
section
namespace Go.Ab
open Go.Proofs
attribute [local congr] ACall.congr gd.congr Nx.congr
set_option maxRecDepth 10000
set_option maxHeartbeats 4000000
def BA (row:List It) (i:Nat):Int:=(row.getD i (0,0,0)).2.2
def FN (row:List It) (i j:Nat):Bool:=decide (BA row i≠ -1)&&decide (BA row j≠ -1)&&decide (BA row i≠BA row j)&&decide (4≤(ue row (BA row i) (BA row j) row.length).2)
def GD (row:List It):Bool:=(List.range row.length).any fun i=>(List.range row.length).any (FN row i)
end Go.Ab
end
section
namespace Go.Ab
open Go.Proofs
attribute [local congr] ACall.congr gd.congr Nx.congr
set_option maxRecDepth 10000
set_option maxHeartbeats 8000000
def T4 (row:List It) (a b c d:Nat):Prop:=0≤(row.getD a (0,0,0)).2.2∧0≤(row.getD b (0,0,0)).2.2∧(row.getD a (0,0,0)).2.2≠(row.getD b (0,0,0)).2.2∧(row.getD a (0,0,0)).2.2=(row.getD c (0,0,0)).2.2∧(row.getD b (0,0,0)).2.2=(row.getD d (0,0,0)).2.2
def HU (row:List It):Prop:=∃a b c d,a<b∧b<c∧c<d∧d<row.length∧T4 row a b c d
end Go.Ab
end
section
namespace Go.Ab
open Go.Proofs
set_option maxRecDepth 10000
theorem fJ:∀ {l m:List Int},l.Nodup→(∀i∈l,i∈m)→l.length≤m.length
 | [],_,_,_=>by simp
 |a::l,m,hn,hs=>by
  rw [List.nodup_cons] at hn
  have ha:=hs a (List.mem_cons_self ..)
  have:=fJ hn.2 (m:=m.erase a) fun i hi=>(List.mem_erase_of_ne (fun e:i=a=>hn.1 (e ▸ hi))).2 (hs i (List.mem_cons_of_mem _ hi))
  rw [List.length_erase_of_mem ha] at this
  have:=List.length_pos_of_mem ha
  rw [List.length_cons];omega
theorem vu {g:Gr} {f:Fr} (hi:iV g f) (hf:(f.pl.length:Int)=g.n) {x:Int} (hx:0≤x∧x<g.n):x∈f.pl:=by
 refine Decidable.byContradiction fun h=> ?_
 have h1:(x::f.pl).Nodup:=List.nodup_cons.2 ⟨h,hi.pl⟩
 have h2:((List.range g.n.toNat).map Int.ofNat).length=g.n.toNat:=by simp
 have h3:=fJ h1 (m:=(List.range g.n.toNat).map Int.ofNat) (fun y hy=>by
  rw [List.mem_map]
  have:0≤y∧y<g.n:=by
   rcases List.mem_cons.1 hy with h|h
   ·rw [h];exact hx
   ·exact hi.A1 y h
  exact ⟨y.toNat,List.mem_range.2 (by omega),by simp;omega⟩)
 rw [h2,List.length_cons] at h3
 omega
def Tg (a b:Int) (row:List It):Prop:=∃l:List It,l.Sublist row∧l.map (fun t=>t.2.2)= [a,b,a,b]
def ya (a b:Int) (t:It):Bool:=decide (t.2.2=a)||decide (t.2.2=b)
theorem Tg.FO {a b:Int} {row:List It} :Tg a b row↔Tg a b (row.filter (ya a b)):=by
 constructor
 ·rintro ⟨l,h,e⟩
  refine ⟨l, ?_,e⟩
  have h1:=h.filter (ya a b)
  rw [List.filter_eq_self.2] at h1
  ·exact h1
  ·intro t ht
   have:t.2.2∈l.map (fun t=>t.2.2):=List.mem_map.2 ⟨t,ht,rfl⟩
   rw [e] at this
   simp only [ya,Bool.or_eq_true,decide_eq_true_eq]
   simp only [List.mem_cons,List.not_mem_nil,or_false] at this
   omega
 ·rintro ⟨l,h,e⟩
  exact ⟨l,h.trans List.filter_sublist,e⟩
theorem Tg.keep {a b x:Int} (ha:0≤a) (hb:0≤b) (z1:a≠x) (pY:b≠x) {A X C u:List It} (hX:∀t∈X,t.2.2=x∨t.2.2= -1) (h:Tg a b (A++X++C)):Tg a b (A++u++C):=by
 rw [Tg.FO] at h ⊢
 obtain ⟨l,h,e⟩:=h
 refine ⟨l,h.trans ?_,e⟩
 rw [List.filter_append,List.filter_append,List.filter_append,List.filter_append]
 have:X.filter (ya a b)= []:=List.filter_eq_nil_iff.2 fun t ht=>by
  simp only [ya,Bool.or_eq_true,decide_eq_true_eq]
  rcases hX t ht with h|h<;>omega
 rw [this,List.append_nil]
 exact List.Sublist.append_right (List.sublist_append_left _ _) _
theorem Tg.not {a b x:Int} (hab:a≠b) (hb0:0≤b) (ha0:0≤a) (hx:x=a∨x=b) {A X C:List It} (hA:jt x A) (hC:jt x C) (hX:∀t∈X,t.2.2=x∨t.2.2= -1):¬Tg a b (A++X++C):=by
 rintro ⟨l,h,e⟩
 rw [List.append_assoc,List.sublist_append_iff] at h
 obtain ⟨l1,l',rfl,h1,h'⟩:=h
 rw [List.sublist_append_iff] at h'
 obtain ⟨l2,l3,rfl,h2,h3⟩:=h'
 have k1:∀t∈l1,t.2.2≠x:=fun t ht=>hA t (h1.subset ht)
 have k2:∀t∈l2,t.2.2=x∨t.2.2= -1:=fun t ht=>hX t (h2.subset ht)
 have k3:∀t∈l3,t.2.2≠x:=fun t ht=>hC t (h3.subset ht)
 clear h1 h2 h3
 match l1,k1,e with
 |t1::t2::_,k1,e=>
  simp only [List.cons_append,List.map_cons,List.cons.injEq] at e
  rcases hx with h|h
  ·exact k1 t1 (by simp) (by omega)
  ·exact k1 t2 (by simp) (by omega)
 | [t1],k1,e=>
   simp only [List.cons_append,List.nil_append,List.map_cons,List.cons.injEq] at e
   rcases hx with h|h
   ·exact k1 t1 (by simp) (by omega)
   ·match l2,k2,e with
    | [],_,e=>
      match l3,k3,e with
      | [s1,s2,s3],k3,e=>
        simp only [List.nil_append,List.map_cons,List.map_nil,List.cons.injEq,and_true] at e
        exact k3 s1 (by simp) (by omega)
      | [],_,e=>simp at e
      | [_],_,e=>simp at e
      | [_,_],_,e=>simp at e
      |_::_::_::_::_,_,e=>simp at e
    |s1::s2::_,k2,e=>
     simp only [List.cons_append,List.map_cons,List.cons.injEq] at e
     rcases k2 s2 (by simp) with h|h<;>omega
    | [s1],k2,e=>
      match l3,k3,e with
      | [u1,u2],k3,e=>
        simp only [List.cons_append,List.nil_append,List.map_cons,List.map_nil,List.cons.injEq,and_true] at e
        exact k3 u2 (by simp) (by omega)
      | [],_,e=>simp at e
      | [_],_,e=>simp at e
      |_::_::_::_,_,e=>simp at e
 | [],_,e=>
   simp only [List.nil_append] at e
   match l2,k2,e with
   | [],_,e=>
     match l3,k3,e with
     | [],_,e=>simp at e
     | [_],_,e=>simp at e
     |s1::s2::_,k3,e=>
      simp only [List.nil_append,List.map_cons,List.cons.injEq] at e
      rcases hx with h|h
      ·exact k3 s1 (by simp) (by omega)
      ·exact k3 s2 (by simp) (by omega)
   |s1::s2::_,k2,e=>
    simp only [List.cons_append,List.map_cons,List.cons.injEq] at e
    have q1:=k2 s1 (by simp)
    have q2:=k2 s2 (by simp)
    omega
   | [s1],k2,e=>
     match l3,k3,e with
     | [],_,e=>simp at e
     | [_],_,e=>simp at e
     | [_,_],_,e=>simp at e
     |u1::u2::u3::_,k3,e=>
      simp only [List.cons_append,List.nil_append,List.map_cons,List.cons.injEq] at e
      have q1:=k2 s1 (by simp)
      exact k3 u2 (by simp) (by omega)
end Go.Ab
end
section
namespace Go.Ab
open Go.Proofs
set_option maxRecDepth 10000
theorem vv {row:List It} {k:Nat} (h:k<row.length):row.take (k+1)=row.take k++ [row.getD k (0,0,0)]:=by
 rw [List.take_add_one,List.getD_eq_getElem?_getD,List.getElem?_eq_getElem h];rfl
def FP (a b:Int):List It→Prop
 | []=>True
 | [t]=>t.2.2=a∨t.2.2=b
 |s::t::l=>(s.2.2=a∨s.2.2=b)∧s.2.2≠t.2.2∧FP a b (t::l)
end Go.Ab
end
section
namespace Go.Ab
open Go.Proofs
attribute [local congr] ACall.congr gd.congr Nx.congr
set_option maxRecDepth 10000
end Go.Ab
end
section
namespace Go.Ab
open Go.Proofs
attribute [local congr] ACall.congr gd.congr Nx.congr
set_option maxRecDepth 10000
def FQ (g:Gr) (out:List Int) (x:Nat) (i:Nat):Bool:=(List.range i).all fun j=> !decide (hd g j=(x:Int))||decide (tl g j∈out)
def HV (g:Gr) (out:List Int) (k:Nat) (f:Bool):Prop:=k≤g.n.toNat∧(if f then 0<k∧wt g out (k - 1)=0∧∀j,j<k - 1→wt g out j≠0 else ∀j,j<k→wt g out j≠0)
def HW (out:List Int) (k:Nat) (f:Bool):List Int:=if f then out++ [((k - 1:Nat):Int)] else out
end Go.Ab
end
section
namespace Go.Ab
open Go.Proofs
attribute [local congr] ACall.congr gd.congr Nx.congr
set_option maxRecDepth 10000
end Go.Ab
end
section
namespace Go.Ab
open Go.Proofs
set_option maxRecDepth 10000
structure Pl where
 ord:List Int
 outs:List (List Int)
def bz (p:Pl) (k:Nat):Int:=p.ord.getD k 0
def eL (p:Pl) (x:Int):List Int:=p.outs.getD x.toNat []
def bE (g:Gr) (p:Pl):Prop:=p.outs.length=g.n.toNat∧p.ord.Perm (ec g.n.toNat)∧∀x:Nat,x<g.n.toNat→(p.outs.getD x []).Perm (cn g x)
def fK (g:Gr) (p:Pl):Nat→Fr
 |0=>⟨[], []⟩
 |k+1=>(bF g (fK g p k) (bz p k) (eL p (bz p k))).2
def bL (g:Gr) (p:Pl) (k:Nat):List It:=(bF g (fK g p k) (bz p k) (eL p (bz p k))).1.1
def oZ (g:Gr) (p:Pl) (k:Nat):Bool:=bn g (fK g p k) (bz p k)
def c8 (g:Gr) (p:Pl):Nat→List (List It)
 |0=>List.replicate g.n.toNat []
 |k+1=>(c8 g p k).set (bz p k).toNat (bL g p k)
def gG (g:Gr) (p:Pl):Nat→Option Nat
 |0=>none
 |k+1=>match gG g p k with
  |some i=>some i
  |none=>if oZ g p k=true then none else some k
def cJ (g:Gr) (p:Pl):Prop:=(cK g).1=0∧bE g p∧∀k,k<g.n.toNat→oZ g p k=true
theorem ej {g:Gr} {p:Pl} :∀ {k:Nat},gG g p k=none↔∀j,j<k→oZ g p j=true
 |0=>by simp [gG]
 |k+1=>by
  rw [gG]
  cases h:gG g p k with
  |some i=>
   simp only [reduceCtorEq,false_iff]
   intro h2
   rw [ej.2 fun j hj=>h2 j (by omega)] at h
   cases h
  |none=>
   have ih:=ej.1 h
   simp only
   constructor
   ·intro h2 j hj
    by_cases hjk:j=k
    ·subst hjk
     refine Decidable.byContradiction fun hn=> ?_
     rw [if_neg hn] at h2;cases h2
    ·exact ih j (by omega)
   ·intro h2
    rw [if_pos (h2 k (by omega))]
theorem nQ {g:Gr} {p:Pl} {i:Nat} :∀ {k:Nat},gG g p k=some i↔i<k∧oZ g p i=false∧∀j,j<i→oZ g p j=true
 |0=>by simp [gG]
 |k+1=>by
  rw [gG]
  cases h:gG g p k with
  |some i'=>
   have ih:=(nQ (g:=g) (p:=p)).1 h
   simp only [Option.some.injEq]
   constructor
   ·rintro rfl
    exact ⟨by omega,ih.2⟩
   ·rintro ⟨h1,h2,h3⟩
    rcases Nat.lt_trichotomy i' i with h4|h4|h4
    ·rw [h3 i' h4] at ih;simp at ih
    ·exact h4
    ·rw [ih.2.2 i h4] at h2;cases h2
  |none=>
   have ih:=ej.1 h
   simp only
   constructor
   ·intro h2
    by_cases hk:oZ g p k=true
    ·rw [if_pos hk] at h2;cases h2
    ·rw [if_neg hk] at h2
     cases h2
     exact ⟨by omega,by simpa using hk,ih⟩
   ·rintro ⟨h1,h2,h3⟩
    have:i=k:=by
     by_cases h4:i<k
     ·rw [ih i h4] at h2;cases h2
     ·omega
    subst this
    rw [if_neg (by rw [h2];simp)]
theorem iX {n:Nat} :(ec n).length=n:=by simp [ec]
theorem bB {g:Gr} {p:Pl} (h:bE g p):p.ord.length=g.n.toNat:=by rw [h.2.1.length_eq,iX]
theorem ic {g:Gr} {p:Pl} (h:bE g p):p.ord.Nodup:=h.2.1.nodup_iff.2 jO
theorem b9 {g:Gr} {p:Pl} (h:bE g p) {k:Nat} (hk:k<g.n.toNat):0≤bz p k∧bz p k<g.n:=by
 have h1:bz p k∈p.ord:=bq (by rw [bB h];exact hk)
 have:=cI.1 (h.2.1.mem_iff.1 h1)
 omega
theorem jl {g:Gr} {p:Pl} (h:bE g p) {i j:Nat} (hi:i<g.n.toNat) (hj:j<g.n.toNat) (e:bz p i=bz p j):i=j:=
 hM (ic h) (by rw [bB h];exact hi) (by rw [bB h];exact hj) e
theorem qf {g:Gr} {p:Pl} (h:bE g p) {x:Int} (h0:0≤x) (h1:x<g.n):∃k,k<g.n.toNat∧bz p k=x:=by
 have:x∈p.ord:=h.2.1.mem_iff.2 (cI.2 (by omega))
 obtain ⟨k,hk,e⟩:=List.mem_iff_getElem.1 this
 refine ⟨k,by rw [← bB h];exact hk, ?_⟩
 rw [bz,List.getD_eq_getElem?_getD,List.getElem?_eq_getElem hk,Option.getD_some,e]
theorem c9 {g:Gr} {p:Pl} (h:bE g p) {x:Int} (h0:0≤x) (h1:x<g.n):(eL p x).Perm (cn g x):=by
 have:=h.2.2 x.toNat (by omega)
 rwa [show ((x.toNat:Nat):Int)=x by omega] at this
theorem qg {g:Gr} {p:Pl} (h:bE g p) {x:Int} (h0:0≤x) (h1:x<g.n):(eL p x).length≤g.es.length:=by
 rw [(c9 h h0 h1).length_eq];exact x4
theorem bS {g:Gr} (hm:aZ g=true) {p:Pl} (h:bE g p):∀ {k:Nat},k≤g.n.toNat→(∀j,j<k→oZ g p j=true)→A4 g (fK g p k)∧(fK g p k).pl=p.ord.take k∧(fK g p k).row.length≤k*(g.es.length+1)
 |0,_,_=>⟨ud g,by simp [fK],by simp [fK]⟩
 |k+1,hk,hok=>by
  obtain ⟨h1,h2,h3⟩:=bS hm h (k:=k) (by omega) fun j hj=>hok j (by omega)
  obtain ⟨x0,x1⟩:=b9 h (k:=k) (by omega)
  have hl:=vk (g:=g) (f:=fK g p k) (x:=bz p k) (o:=eL p (bz p k))
  have Bu:=qg h x0 x1
  refine ⟨x9 hm h1 (hok k (by omega)) (c9 h x0 x1), ?_, ?_⟩
  ·show (fK g p k).pl++ [bz p k]=_
   rw [h2,List.take_add_one,List.getElem?_eq_getElem (by rw [bB h];omega),bz,List.getD_eq_getElem?_getD,List.getElem?_eq_getElem (by rw [bB h];omega)]
   rfl
  ·show (bF _ _ _ _).2.row.length≤_
   rw [Nat.add_mul];omega
theorem yb {g:Gr} {p:Pl} (h:bE g p) {k:Nat} (hk:k<g.n.toNat) (hR:oZ g p k=true):eZ g (fK g p k) (bz p k) (eL p (bz p k))=bF g (fK g p k) (bz p k) (eL p (bz p k)):=by
 have hp:=c9 h (b9 h hk).1 (b9 h hk).2
 unfold eZ
 have zB:bn g (fK g p k) (bz p k)=true:=hR
 rw [if_neg (by rw [zB];simp),if_neg]
 rintro (h|⟨i,h1,h2⟩)
 ·exact h hp.length_eq
 ·exact h2 (hp.mem_iff.2 h1)
theorem yc {g:Gr} {p:Pl} {k:Nat} (hR:oZ g p k=false):eZ g (fK g p k) (bz p k) (eL p (bz p k))=(([],3),fK g p k):=if_pos hR
theorem iY {g:Gr} {p:Pl} :∀ {k:Nat},(c8 g p k).length=g.n.toNat
 |0=>by simp [c8]
 |k+1=>by rw [c8,List.length_set,iY]
theorem lz {α:Type} {l:List α} {i j:Nat} {a d:α} (hi:i<l.length):(l.set i a).getD j d=if j=i then a else l.getD j d:=by
 rw [List.getD_eq_getElem?_getD,List.getElem?_set,List.getD_eq_getElem?_getD]
 by_cases h:i=j
 ·subst h;simp [hi]
 ·rw [if_neg h,if_neg (Ne.symm h)]
theorem kH {g:Gr} {p:Pl} (h:bE g p):∀ {k:Nat},k≤g.n.toNat→∀ {i:Nat},i<k→(c8 g p k).getD (bz p i).toNat []=bL g p i
 |0,_,i,hi=>by omega
 |k+1,hk,i,hi=>by
  have hm:=b9 h (k:=k) (by omega)
  rw [c8,lz (by rw [iY];omega)]
  by_cases e:i=k
  ·subst e;rw [if_pos rfl]
  ·have Dp:=b9 h (k:=i) (by omega)
   rw [if_neg (fun h2=>e (jl h (by omega) (by omega) (by omega)))]
   exact kH h (by omega) (by omega)
theorem kI {l m:List Int} (h:eS l=m):l.Perm m:=by
 rw [← h];exact (List.mergeSort_perm l _).symm
theorem rD {n:Nat} :(ec n).Pairwise (· ≤ ·):=by
 unfold ec
 refine List.Pairwise.map _ (fun a b (h:a<b)=> ?_) List.pairwise_lt_range
 show (a:Int)≤b
 omega
theorem zE {g:Gr} (hm:aZ g=true) {p:Pl} :(p.outs.length=g.n.toNat∧p.ord.length=g.n.toNat∧(∀i:Nat,i<(eS p.ord).length→(eS p.ord).getD i 0=i)∧∀x:Nat,x<p.outs.length→eS (p.outs.getD x [])=aP (·.1) g x)↔bE g p:=by
 constructor
 ·rintro ⟨h1,h2,h3,h4⟩
  refine ⟨h1,kI ?_,fun x hx=> ?_⟩
  ·refine List.ext_getElem (by rw [di,h2,iX]) fun i h5 h6=> ?_
   have:=h3 i h5
   rw [List.getD_eq_getElem?_getD,List.getElem?_eq_getElem h5,Option.getD_some] at this
   rw [this];simp [ec]
  ·have:=h4 x (by omega)
   rw [fq (by omega) (by omega)] at this
   exact kI this
 ·intro h
  refine ⟨h.1,bB h, ?_,fun x hx=> ?_⟩
  ·rw [nO h.2.1 rD]
   intro i hi
   rw [iX] at hi
   simp [ec,List.getD_eq_getElem?_getD,List.getElem?_range hi]
  ·rw [fq (by omega) (by have:=h.1;omega)]
   exact nO (h.2.2 x (by rw [← h.1];exact hx)) lT
end Go.Ab
end
section
namespace Go.Ab
open Go.Proofs
set_option maxRecDepth 10000
def loose (l:List It):List Int:=(l.filter fun t=>decide (t.1<0)).map fun t=>t.2.1
theorem cy {a b:List It} :loose (a++b)=loose a++loose b:=by simp [loose]
def bQ (g:Gr) (p:Pl):Nat→List Edge
 |0=> []
 |k+1=>bQ g p k++(loose (bL g p k)).map fun v=>(v,bz p k)
def aN (g:Gr) (p:Pl):List It:=(fK g p g.n.toNat).row
def newL (g:Gr) (p:Pl):List Edge:=if 1<(aN g p).length then (loose (aN g p)).map fun v=>(v,g.n) else []
def aD (g:Gr) (p:Pl):List Edge:=bQ g p g.n.toNat++newL g p
def aA (g:Gr) (p:Pl):Gr:=⟨if 1<(aN g p).length then g.n+1 else g.n,g.es++aD g p⟩
def ck:Nat→List Edge→List (List Int)→List (List Int)
 |_, [],O=>O
 |m,e::N,O=>ck (m+1) N (O.set e.1.toNat [(m:Int)])
def bg (g:Gr) (p:Pl):Pl:=⟨if 1<(aN g p).length then p.ord++ [g.n] else p.ord,ck g.es.length (aD g p) (if 1<(aN g p).length then p.outs++ [[]] else p.outs)⟩
def s9 (g:Gr) (p:Pl) (x:Gr):List (List Int):=(List.range x.n.toNat).map fun v=>if 0<(p.outs.getD v []).length then p.outs.getD v [] else cn x (v:Int)
theorem eA:∀ {m:Nat} {N:List Edge} {O:List (List Int)},(ck m N O).length=O.length
 |_, [],_=>rfl
 |m,e::N,O=>by rw [ck,eA,List.length_set]
theorem kJ:∀ {m:Nat} {N M:List Edge} {O:List (List Int)},ck m (N++M) O=ck (m+N.length) M (ck m N O)
 |_, [],_,_=>rfl
 |m,e::N,M,O=>by
  rw [List.cons_append,ck,ck,kJ,List.length_cons]
  congr 1
  omega
theorem o3:∀ {m:Nat} {N:List Edge} {O:List (List Int)},(∀e∈N,e.1.toNat<O.length)→ck m N (O++ [[]])=ck m N O++ [[]]
 |_, [],_,_=>rfl
 |m,e::N,O,h=>by
  rw [ck,ck,List.set_append_left _ _ (h e (List.mem_cons_self ..))]
  exact o3 fun e' he=>by rw [List.length_set];exact h e' (List.mem_cons_of_mem _ he)
theorem nR {v:Nat} :∀ {m:Nat} {N:List Edge} {O:List (List Int)},(∀e∈N,e.1.toNat<O.length)→(∀e∈N,e.1.toNat≠v)→(ck m N O).getD v []=O.getD v []
 |_, [],_,_,_=>rfl
 |m,e::N,O,h,hv=>by
  rw [ck,nR (fun e' he=>by rw [List.length_set];exact h e' (List.mem_cons_of_mem _ he)) fun e' he=>hv e' (List.mem_cons_of_mem _ he),lz (h e (List.mem_cons_self ..)),if_neg (Ne.symm (hv e (List.mem_cons_self ..)))]
theorem uf:∀ {m:Nat} {N:List Edge} {O:List (List Int)},(∀e∈N,0≤e.1∧e.1.toNat<O.length)→(N.map (·.1)).Nodup→∀ {j:Nat},j<N.length→(ck m N O).getD (N.getD j (0,0)).1.toNat []= [((m+j:Nat):Int)]
 |m,e::N,O,h,hd,0,_=>by
  rw [List.map_cons,List.nodup_cons] at hd
  rw [ck,List.getD_cons_zero,nR (fun e' he=>by rw [List.length_set];exact (h e' (List.mem_cons_of_mem _ he)).2) (fun e' he h2=>hd.1 ?_),lz (h e (List.mem_cons_self ..)).2,if_pos rfl]
  ·rfl
  ·have h3:=(h e (List.mem_cons_self ..)).1
   have h4:=(h e' (List.mem_cons_of_mem _ he)).1
   exact List.mem_map.2 ⟨e',he,by omega⟩
 |m,e::N,O,h,hd,j+1,hj=>by
  rw [List.map_cons,List.nodup_cons] at hd
  rw [ck,List.getD_cons_succ,uf (fun e' he=>by rw [List.length_set];exact h e' (List.mem_cons_of_mem _ he)) hd.2 (by simpa using hj)]
  congr 2
  omega
theorem jm {f:Edge→Int} {es N:List Edge} {x:Int} :aS f (es++N) (es++N).length x=aS f es es.length x++(aS f N N.length x).map (· +(es.length:Int)):=by
 unfold aS
 rw [List.length_append,List.range_add,List.filter_append,List.map_append,List.filter_map,List.map_map,List.map_map]
 congr 1
 ·congr 1
  refine List.filter_congr fun i hi=> ?_
  have:=List.mem_range.1 hi
  rw [List.getD_eq_getElem?_getD,List.getElem?_append_left this, ← List.getD_eq_getElem?_getD]
 ·have e1:(List.range N.length).filter ((fun i=>decide (f ((es++N).getD i (0,0))=x)) ∘ fun x=>es.length+x)=(List.range N.length).filter fun i=>decide (f (N.getD i (0,0))=x):=by
   refine List.filter_congr fun i hi=> ?_
   simp only [Function.comp]
   rw [List.getD_eq_getElem?_getD,List.getElem?_append_right (by omega),Nat.add_sub_cancel_left, ← List.getD_eq_getElem?_getD]
  rw [e1]
  refine List.map_congr_left fun i _=> ?_
  simp only [Function.comp]
  show ((es.length+i:Nat):Int)=(i:Int)+(es.length:Int)
  omega
theorem filter_one {j:Nat} :∀ {n:Nat},j<n→(List.range n).filter (fun i=>decide (i=j))= [j]
 |n+1,h=>by
  rw [List.range_succ,List.filter_append]
  by_cases e:j=n
  ·subst e
   have:(List.range j).filter (fun i=>decide (i=j))= []:=List.filter_eq_nil_iff.2 fun i hi=>by
    have:=List.mem_range.1 hi
    simp;omega
   rw [this];simp
  ·rw [filter_one (by omega)]
   have: [n].filter (fun i=>decide (i=j))= []:=List.filter_eq_nil_iff.2 fun i hi=>by
    rw [List.mem_singleton] at hi
    simp;omega
   rw [this];simp
theorem rH {N:List Edge} (hd:(N.map (·.1)).Nodup) {j:Nat} (hj:j<N.length):aS (·.1) N N.length (N.getD j (0,0)).1= [(j:Int)]:=by
 unfold aS
 have:(List.range N.length).filter (fun i=>decide ((N.getD i (0,0)).1=(N.getD j (0,0)).1))=(List.range N.length).filter (fun i=>decide (i=j)):=by
  refine List.filter_congr fun i hi=> ?_
  have hi:=List.mem_range.1 hi
  rw [decide_eq_decide]
  constructor
  ·intro h
   have e1:∀k,k<N.length→(N.map (·.1)).getD k 0=(N.getD k (0,0)).1:=fun k hk=>by
    simp [List.getD_eq_getElem?_getD,List.getElem?_eq_getElem hk]
   refine hM hd (by simpa using hi) (by simpa using hj) ?_
   rw [e1 i hi,e1 j hj,h]
  ·rintro rfl;rfl
 rw [this,filter_one hj]
 rfl
theorem fu {f:Edge→Int} {N:List Edge} {v:Int} (h:∀e∈N,f e≠v):aS f N N.length v= []:=by
 unfold aS
 rw [List.map_eq_nil_iff,List.filter_eq_nil_iff]
 intro i hi
 have:=h _ (bq (d:=(0,0)) (List.mem_range.1 hi))
 simpa using this
theorem rJ {g:Gr} {x:Int} {o:List Int} (ho:∀i∈o,i∈cn g x):loose (aV g x o)=if o= [] then [x] else []:=by
 unfold aV
 split
 ·rfl
 ·simp only [loose,List.map_eq_nil_iff,List.filter_eq_nil_iff,List.mem_map]
  rintro t ⟨i,hi,rfl⟩
  obtain ⟨k,rfl,_⟩:=kG (ho i hi)
  simp [fV]
theorem gH {g:Gr} (hm:aZ g=true) {p:Pl} (h:bE g p):∀ {k:Nat},k≤g.n.toNat→(∀j,j<k→oZ g p j=true)→
 ((bQ g p k).map (·.1)++loose (fK g p k).row).Nodup∧∀v∈(bQ g p k).map (·.1)++loose (fK g p k).row,v∈(fK g p k).pl∧eL p v= []
 |0,_,_=>by simp [bQ,fK,loose]
 |k+1,hk,hok=>by
  obtain ⟨h1,h2⟩:=gH hm h (k:=k) (by omega) fun j hj=>hok j (by omega)
  obtain ⟨hi,fS,_⟩:=bS hm h (k:=k) (by omega) fun j hj=>hok j (by omega)
  have hR:bn g (fK g p k) (bz p k)=true:=hok k (by omega)
  obtain ⟨x0,x1⟩:=b9 h (k:=k) (by omega)
  have hx:=(dF hR).2.2
  have Ah:=c9 h x0 x1
  obtain ⟨A,X,C,hr,_,_,_,hs⟩:=ia hm hi.toiV hR
  have CV:bL g p k=X:=by unfold bL;rw [hs]
  have hrow:(fK g p (k+1)).row=A++aV g (bz p k) (eL p (bz p k))++C:=by show (bF _ _ _ _).2.row=_;rw [hs]
  have jI:(fK g p (k+1)).pl=(fK g p k).pl++ [bz p k]:=rfl
  have hla:=rJ (g:=g) (x:=bz p k) (o:=eL p (bz p k)) fun i hi=>Ah.mem_iff.1 hi
  have e1:(bQ g p (k+1)).map (·.1)=(bQ g p k).map (·.1)++loose X:=by
   rw [bQ,CV,List.map_append,List.map_map]
   congr 1
   simp [Function.comp_def]
  have e2:loose (fK g p (k+1)).row=loose A++(if eL p (bz p k)= [] then [bz p k] else [])++loose C:=by rw [hrow,cy,cy,hla]
  have e3:loose (fK g p k).row=loose A++loose X++loose C:=by rw [hr,cy,cy]
  rw [e3] at h1 h2
  have hP:((bQ g p (k+1)).map (·.1)++loose (fK g p (k+1)).row).Perm (((bQ g p k).map (·.1)++(loose A++loose X++loose C))++(if eL p (bz p k)= [] then [bz p k] else [])):=by
   rw [e1,e2,List.perm_iff_count]
   intro a
   simp only [List.count_append]
   omega
  constructor
  ·rw [hP.nodup_iff,List.nodup_append]
   refine ⟨h1,by split<;>simp,fun a ha b hb e=>hx ?_⟩
   split at hb
   ·rw [List.mem_singleton] at hb
    rw [← hb, ← e]
    exact (h2 a ha).1
   ·cases hb
  ·intro v hv
   rw [hP.mem_iff,List.mem_append] at hv
   rw [jI,List.mem_append,List.mem_singleton]
   rcases hv with hv|hv
   ·exact ⟨.inl (h2 v hv).1,(h2 v hv).2⟩
   ·split at hv
    ·rw [List.mem_singleton] at hv
     subst hv
     exact ⟨.inr rfl,by assumption⟩
    ·cases hv
theorem dP {g:Gr} {p:Pl} (hr:cJ g p):((aD g p).map (·.1)).Nodup∧∀e∈aD g p,(0≤e.1∧e.1<g.n)∧eL p e.1= []:=by
 obtain ⟨hc,h,hok⟩:=hr
 have hm:=aW hc
 obtain ⟨h1,h2⟩:=gH hm h (k:=g.n.toNat) (Nat.le_refl _) hok
 obtain ⟨hi,_⟩:=bS hm h (k:=g.n.toNat) (Nat.le_refl _) hok
 have e1:(aD g p).map (·.1)=(bQ g p g.n.toNat).map (·.1)++if 1<(aN g p).length then loose (aN g p) else []:=by
  rw [aD,newL,List.map_append]
  congr 1
  split
  ·rw [List.map_map];simp [Function.comp_def]
  ·rfl
 have hsub:∀v∈(aD g p).map (·.1),v∈(bQ g p g.n.toNat).map (·.1)++loose (aN g p):=by
  intro v hv
  rw [e1,List.mem_append] at hv
  rw [List.mem_append]
  rcases hv with hv|hv
  ·exact .inl hv
  ·split at hv
   ·exact .inr hv
   ·cases hv
 constructor
 ·rw [e1]
  split
  ·exact h1
  ·rw [List.append_nil]
   exact (List.nodup_append.1 h1).1
 ·intro e he
  have:=h2 e.1 (hsub _ (List.mem_map.2 ⟨e,he,rfl⟩))
  exact ⟨hi.A1 _ this.1,this.2⟩
theorem iZ {g:Gr} {p:Pl} (h:bE g p) {v:Int} (h0:0≤v) (h1:v<g.n):cn g v= []↔eL p v= []:=by
 have hp:=c9 h h0 h1
 constructor
 ·intro e;rw [e] at hp;exact hp.eq_nil
 ·intro e;rw [e] at hp;exact hp.symm.eq_nil
theorem nS {g:Gr} {p:Pl} (hr:cJ g p):(bg g p).outs=s9 g p (aA g p):=by
 obtain ⟨kR,ug⟩:=dP hr
 have h:=hr.2.1
 have hm:=aW hr.1
 have hn:=bf hm
 generalize hO:(if 1<(aN g p).length then p.outs++ [[]] else p.outs)=O
 have DC:O.length=(aA g p).n.toNat:=by
  rw [← hO]
  unfold aA
  split
  ·rw [List.length_append,h.1];simp;omega
  ·rw [h.1]
 have HX:∀v,O.getD v []=p.outs.getD v []:=by
  intro v
  rw [← hO]
  split
  ·rw [List.getD_eq_getElem?_getD,List.getD_eq_getElem?_getD,List.getElem?_append]
   split
   ·rfl
   ·rename_i hv
    rw [List.getElem?_eq_none (by omega:p.outs.length≤v)]
    cases I8:v - p.outs.length<;>simp
  ·rfl
 have I9:g.n.toNat≤O.length:=by rw [← hO];split<;>simp [h.1]
 have ta:∀e∈aD g p,0≤e.1∧e.1.toNat<O.length:=fun e he=>by
  have:=(ug e he).1;omega
 have HY:∀e∈aD g p,e.1.toNat<O.length:=fun e he=>(ta e he).2
 show ck g.es.length (aD g p) (if 1<(aN g p).length then p.outs++ [[]] else p.outs)=_
 rw [hO]
 refine List.ext_getElem (by rw [eA,DC];simp [s9]) fun v uL xA=> ?_
 rw [eA] at uL
 have hL:(ck g.es.length (aD g p) O).getD v []=(ck g.es.length (aD g p) O)[v]'(by rw [eA];exact uL):=by
  rw [List.getD_eq_getElem?_getD,List.getElem?_eq_getElem (by rw [eA];exact uL)];rfl
 rw [← hL]
 have hD:(s9 g p (aA g p))[v]=if 0<(p.outs.getD v []).length then p.outs.getD v [] else cn (aA g p) (v:Int):=by simp [s9]
 rw [hD]
 have hlv:eL p (v:Int)=p.outs.getD v []:=by unfold eL;rw [Int.toNat_natCast]
 have hout:cn (aA g p) (v:Int)=cn g (v:Int)++(aS (·.1) (aD g p) (aD g p).length (v:Int)).map (· +(g.es.length:Int)):=jm
 by_cases hin:∃j,j<(aD g p).length∧((aD g p).getD j (0,0)).1=v
 ·obtain ⟨j,hj,e⟩:=hin
  have hmem:=bq (d:=(0,0)) hj
  obtain ⟨⟨q0,q1⟩,q2⟩:=ug _ hmem
  rw [e] at q0 q1 q2
  rw [hlv] at q2
  rw [q2,if_neg (by simp),hout,(iZ h q0 q1).2 (by rw [hlv];exact q2), ← e,rH kR hj]
  have:=uf (m:=g.es.length) ta kR hj
  rw [e,Int.toNat_natCast] at this
  rw [this]
  simp
  omega
 ·have hno:∀e∈aD g p,e.1≠(v:Int):=fun e he h2=>hin (by
   obtain ⟨j,hj,e1⟩:=List.mem_iff_getElem.1 he
   exact ⟨j,hj,by rw [List.getD_eq_getElem?_getD,List.getElem?_eq_getElem hj,Option.getD_some,e1,h2]⟩)
  rw [nR HY (fun e he h2=>hno e he (by have:=(ta e he).1;omega)),HX,hout,fu hno]
  simp only [List.map_nil,List.append_nil]
  split
  ·rfl
  ·rename_i hl
   have hl:p.outs.getD v []= []:=List.eq_nil_of_length_eq_zero (by omega)
   rw [hl]
   by_cases A5:v<g.n.toNat
   ·exact ((iZ h (v:=(v:Int)) (by omega) (by omega)).2 (by rw [hlv];exact hl)).symm
   ·symm
    refine fu fun e he h2=> ?_
    obtain ⟨i,hi,rfl⟩:=List.mem_iff_getElem.1 he
    have:=(dM hm hi).1
    rw [List.getD_eq_getElem?_getD,List.getElem?_eq_getElem hi,Option.getD_some] at this
    omega
end Go.Ab
end
section
namespace Go.Ab
open Go.Proofs
set_option maxRecDepth 10000
abbrev Act:=Int × List Int
def rA (a:Act):List D:= [.sc (.int .i64 a.1),sI a.2]
def sA (as':List Act):D:= .sl 2 (as'.map rA)
attribute [go_sem] sA
def CW (g:Gr) (A6:List Act):Nat→Fr
 |0=>⟨[], []⟩
 |k+1=>(eZ g (CW g A6 k) (A6.getD k (0, [])).1 (A6.getD k (0, [])).2).2
theorem CX {g:Gr} {f:Fr} (hi:iV g f):(f.pl.length:Int)≤g.n∨f.pl= []:=by
 by_cases h:f.pl= []
 ·exact .inr h
 ·left
  obtain ⟨y,hy⟩:=List.exists_mem_of_ne_nil _ h
  have:=hi.A1 y hy
  have h3:=fJ hi.pl (m:=(List.range g.n.toNat).map Int.ofNat) (fun y hy=>by
   rw [List.mem_map]
   have:=hi.A1 y hy
   exact ⟨y.toNat,List.mem_range.2 (by omega),by simp;omega⟩)
  simp at h3
  omega
theorem rK (g:Gr) (hm:aZ g=true) (f:Fr) (hi:A4 g f) (x:Int) (outs:List Int) (hr:f.row.length≤300000) (hp:f.pl.length≤100000) (ho:outs.length≤17592186043904):
 Spec Try.prog 61 (Args [.ptr 10000 0,eN x, .d (sI outs)]) (jA g f) (.tup [.d (sT (eZ g f x outs).1.1),eN (eZ g f x outs).1.2]) (s4 g (eZ g f x outs).2):=by
 rw [← x5 hm hi.toiV]
 exact s6 g hm f x outs hr hp ho
end Go.Ab
end
section
namespace Go.Ab
open Go.Proofs
attribute [local congr] ACall.congr gd.congr Nx.congr
set_option maxRecDepth 10000
set_option maxHeartbeats 4000000
def ePl (p:Pl):AV:= .agg [.d (sI p.ord), .d (.sl 1 (vI p.outs))]
attribute [go_sem] ePl
structure rL (p:Pl):Prop where
 ord:p.ord.length≤17592186043904
 outs:p.outs.length≤9223372036854775807
 each:∀l∈p.outs,l.length≤17592186043904
theorem yd (g:Gr) (hm:aZ g=true) (p:Pl) (hp:rL p) (res:Bool) (hr:res=true↔bE g p):Spec Try.prog 60 (Args [.d (vw g),ePl p]) [] (eB res) []:=by
 rw [← zE hm] at hr
 have hn:=bf hm
 have ho:=hp.ord
 have Dg:=hp.outs
 by_cases h1:p.outs.length=g.n.toNat∧p.ord.length=g.n.toNat
 rotate_left
 ·have hres:res=false:=by
   rw [← Bool.not_eq_true,hr]
   rintro ⟨h2,h3,_⟩
   exact h1 ⟨h2,h3⟩
  subst hres
  by_cases h2:(p.outs.length:Int)=g.n
  ·have ak:decide ((p.outs.length:Int)=g.n)=true:=decide_eq_true h2
   have aE:decide ((p.ord.length:Int)=g.n)=false:=decide_eq_false fun h3=>h1 ⟨by omega,by omega⟩
   (refine Spec.hd (C:=T.cfg [] []) (rs:= [.t 4]) (T.aj _ _) Try.func60 rfl rfl Try.ntmps60 Try.results60 (by simp [AObj.isNest]) (by simp [AObj.isNest]) (by kernel_rfl) T.mixed fun X hX hP hC aR cL=> ?_)
   repeat' (first|refine Rn.p ?_|(with_reducible apply And.intro)|((first|(refine hK _ ?_;clear hK K)|with_reducible intro K hK|refine Rs.p ?_|((with_reducible first|apply oP|apply oQ);exact rfl));try simp only [go_sem,simprocAttr,ah,ak,aE])|((with_reducible refine oD ?_ ?_);kernel_rfl)|((with_reducible intro h);try simp only [go_sem,simprocAttr,ah,ak,aE] at h)|omega|intro h)
  ·have ak:decide ((p.outs.length:Int)=g.n)=false:=decide_eq_false h2
   (refine Spec.hd (C:=T.cfg [] []) (rs:= [.t 4]) (T.aj _ _) Try.func60 rfl rfl Try.ntmps60 Try.results60 (by simp [AObj.isNest]) (by simp [AObj.isNest]) (by kernel_rfl) T.mixed fun X hX hP hC aR cL=> ?_)
   repeat' (first|refine Rn.p ?_|(with_reducible apply And.intro)|((first|(refine hK _ ?_;clear hK K)|with_reducible intro K hK|refine Rs.p ?_|((with_reducible first|apply oP|apply oQ);exact rfl));try simp only [go_sem,simprocAttr,ah,ak])|((with_reducible refine oD ?_ ?_);kernel_rfl)|((with_reducible intro h);try simp only [go_sem,simprocAttr,ah,ak] at h)|omega|intro h)
 have ak:decide ((p.outs.length:Int)=g.n)=true:=decide_eq_true (by omega)
 have aE:decide ((p.ord.length:Int)=g.n)=true:=decide_eq_true (by omega)
 have uz:=di p.ord
 (refine Spec.hd (C:=T.cfg [] []) (rs:= [.t 4]) (T.aj _ _) Try.func60 rfl rfl Try.ntmps60 Try.results60 (by simp [AObj.isNest]) (by simp [AObj.isNest]) (by kernel_rfl) T.mixed fun X hX hP hC aR cL=> ?_)
 repeat' (first|refine Rn.p ?_|(with_reducible apply And.intro)|((first|(refine hK _ ?_;clear hK K)|with_reducible intro K hK|refine Rs.p ?_|((with_reducible first|apply oP|apply oQ);exact rfl)|(refine an hX hC hP [(10000,31)] (bN p.ord) rfl rfl rfl ?_ ?_ ?_ ?_ ?_ ?_ ?_ ?_ ?_ ?_ ?_ ?_ ?_ ?_;(focus (simp only [go_sem,simprocAttr,ah,ak,aE];done));(iterate 12 (focus (simp [go_sem,simprocAttr,ah,ak,aE];done)));try simp only [List.map_cons,List.map_nil])|(refine bU hX hC hP [(10000,31)] (bG p.ord ho) rfl rfl rfl ?_ ?_ ?_ ?_ ?_ ?_ rfl rfl ?_ ?_;(focus (simp only [go_sem,simprocAttr,ah,ak,aE];done));(iterate 6 (focus (simp [go_sem,simprocAttr,ah,ak,aE];done)));try simp only [List.map_cons,List.map_nil]));try simp only [go_sem,simprocAttr,ah,ak,aE])|((with_reducible refine oD ?_ ?_);kernel_rfl)|((with_reducible intro h);try simp only [go_sem,simprocAttr,ah,ak,aE] at h)|omega|intro h)
 clear ak aE
 refine au (fun k:Nat=>k≤(eS p.ord).length∧∀i:Nat,i<k→(eS p.ord).getD i 0=i) (fun k=>⟨[(0, .d (vw g)),(3, .ptr 3 0),(32, .d (sI (eS p.ord))),(33,eN (eS p.ord).length),(34,eN k)], [(3, .box [.d (sI p.ord), .d (.sl 1 (vI p.outs))])]⟩) (fun k=>(eS p.ord).length - k) 0 (by simp) ?_ ?_
 ·(refine Le.of ?_ ?_<;>simp [go_sem,simprocAttr,ah])
 rintro k ⟨hk,hg⟩
 rcases Nat.lt_or_ge k (eS p.ord).length with hlt|hge
 ·have hb:decide ((k:Int)<((eS p.ord).length:Int))=true:=decide_eq_true (by omega)
  by_cases he:(eS p.ord).getD k 0=k
  ·have aE:decide ((eS p.ord).getD k 0=(k:Int))=true:=decide_eq_true he
   repeat' (first|refine Rn.p ?_|(with_reducible apply And.intro)|((first|(refine hK _ ?_;clear hK K)|with_reducible intro K hK|refine Rs.p ?_|((with_reducible first|apply oP|apply oQ);exact rfl)|(refine an hX hC hP [(10000,31)] (bN p.ord) rfl rfl rfl ?_ ?_ ?_ ?_ ?_ ?_ ?_ ?_ ?_ ?_ ?_ ?_ ?_ ?_;(focus (simp only [go_sem,simprocAttr,ah,hb,aE];done));(iterate 12 (focus (simp [go_sem,simprocAttr,ah,hb,aE];done)));try simp only [List.map_cons,List.map_nil])|(refine bU hX hC hP [(10000,31)] (bG p.ord ho) rfl rfl rfl ?_ ?_ ?_ ?_ ?_ ?_ rfl rfl ?_ ?_;(focus (simp only [go_sem,simprocAttr,ah,hb,aE];done));(iterate 6 (focus (simp [go_sem,simprocAttr,ah,hb,aE];done)));try simp only [List.map_cons,List.map_nil]));try simp only [go_sem,simprocAttr,ah,hb,aE])|((with_reducible refine oD ?_ ?_);kernel_rfl)|((with_reducible intro h);try simp only [go_sem,simprocAttr,ah,hb,aE] at h)|omega|intro h)
   refine ⟨k+1,⟨by omega,fun i hi=> ?_⟩, ?_,by omega⟩
   ·by_cases hik:i=k
    ·subst hik;exact he
    ·exact hg i (by omega)
   ·(refine Le.of ?_ ?_<;>simp [go_sem,simprocAttr,ah,hb,aE])
  ·have aE:decide ((eS p.ord).getD k 0=(k:Int))=false:=decide_eq_false he
   have hres:res=false:=by
    rw [← Bool.not_eq_true,hr]
    rintro ⟨_,_,h3,_⟩
    exact he (h3 k hlt)
   subst hres
   repeat' (first|refine Rn.p ?_|(with_reducible apply And.intro)|((first|(refine hK _ ?_;clear hK K)|with_reducible intro K hK|refine Rs.p ?_|((with_reducible first|apply oP|apply oQ);exact rfl)|(refine an hX hC hP [(10000,31)] (bN p.ord) rfl rfl rfl ?_ ?_ ?_ ?_ ?_ ?_ ?_ ?_ ?_ ?_ ?_ ?_ ?_ ?_;(focus (simp only [go_sem,simprocAttr,ah,hb,aE];done));(iterate 12 (focus (simp [go_sem,simprocAttr,ah,hb,aE];done)));try simp only [List.map_cons,List.map_nil])|(refine bU hX hC hP [(10000,31)] (bG p.ord ho) rfl rfl rfl ?_ ?_ ?_ ?_ ?_ ?_ rfl rfl ?_ ?_;(focus (simp only [go_sem,simprocAttr,ah,hb,aE];done));(iterate 6 (focus (simp [go_sem,simprocAttr,ah,hb,aE];done)));try simp only [List.map_cons,List.map_nil]));try simp only [go_sem,simprocAttr,ah,hb,aE])|((with_reducible refine oD ?_ ?_);kernel_rfl)|((with_reducible intro h);try simp only [go_sem,simprocAttr,ah,hb,aE] at h)|omega|intro h)
 have hb:decide ((k:Int)<((eS p.ord).length:Int))=false:=decide_eq_false (by omega)
 repeat' (first|refine Rn.p ?_|(with_reducible apply And.intro)|((first|(refine hK _ ?_;clear hK K)|with_reducible intro K hK|refine Rs.p ?_|((with_reducible first|apply oP|apply oQ);exact rfl)|(refine an hX hC hP [(10000,31)] (bN p.ord) rfl rfl rfl ?_ ?_ ?_ ?_ ?_ ?_ ?_ ?_ ?_ ?_ ?_ ?_ ?_ ?_;(focus (simp only [go_sem,simprocAttr,ah,hb];done));(iterate 12 (focus (simp [go_sem,simprocAttr,ah,hb];done)));try simp only [List.map_cons,List.map_nil])|(refine bU hX hC hP [(10000,31)] (bG p.ord ho) rfl rfl rfl ?_ ?_ ?_ ?_ ?_ ?_ rfl rfl ?_ ?_;(focus (simp only [go_sem,simprocAttr,ah,hb];done));(iterate 6 (focus (simp [go_sem,simprocAttr,ah,hb];done)));try simp only [List.map_cons,List.map_nil]));try simp only [go_sem,simprocAttr,ah,hb])|((with_reducible refine oD ?_ ?_);kernel_rfl)|((with_reducible intro h);try simp only [go_sem,simprocAttr,ah,hb] at h)|omega|intro h)
 obtain rfl:k=(eS p.ord).length:=by omega
 clear hb hk
 refine au (fun x:Nat=>x≤p.outs.length∧∀i:Nat,i<x→eS (p.outs.getD i [])=aP (·.1) g i) (fun x=>⟨[(0, .d (vw g)),(44, .d (.sl 1 (vI p.outs))),(45,eN p.outs.length),(46,eN x)], []⟩) (fun x=>p.outs.length - x) 0 (by simp) ?_ ?_
 ·refine Le.of ?_ ?_<;>simp [go_sem,simprocAttr,ah]
 rintro x ⟨hx,zF⟩
 rcases Nat.lt_or_ge x p.outs.length with hxl|HZ
 ·have hb:decide ((x:Int)<(p.outs.length:Int))=true:=decide_eq_true (by omega)
  have hv:=fW hxl
  have hl:=hp.each _ (bq (d:= []) hxl)
  have hn2:∀h:eS (p.outs.getD x [])=aP (·.1) g x,∀i:Nat,i<x+1→eS (p.outs.getD i [])=aP (·.1) g i:=fun h i hi=>by
   by_cases H6:i=x
   ·subst H6;exact h
   ·exact zF i (by omega)
  have r6:¬eS (p.outs.getD x [])=aP (·.1) g x→res=false:=fun h=>by
   rw [← Bool.not_eq_true,hr]
   rintro ⟨_,_,_,h4⟩
   exact h (h4 x hxl)
  generalize p.outs.getD x []=l at hv hl hn2 r6
  have H7:=di l
  by_cases he:eS l=aP (·.1) g x
  ·have aE:decide (eS l=aP (·.1) g (x:Int))=true:=decide_eq_true he
   repeat' (first|refine Rn.p ?_|(with_reducible apply And.intro)|((first|(refine hK _ ?_;clear hK K)|with_reducible intro K hK|refine Rs.p ?_|((with_reducible first|apply oP|apply oQ);exact rfl)|(refine an hX hC hP [(10000,52)] (bN l) rfl rfl rfl ?_ ?_ ?_ ?_ ?_ ?_ ?_ ?_ ?_ ?_ ?_ ?_ ?_ ?_;(focus (simp only [go_sem,simprocAttr,hb,hv,aE];done));(iterate 12 (focus (simp [go_sem,simprocAttr,hb,hv,aE];done)));try simp only [List.map_cons,List.map_nil])|(refine bU hX hC hP [(10000,52)] (bG l hl) rfl rfl rfl ?_ ?_ ?_ ?_ ?_ ?_ rfl rfl ?_ ?_;(focus (simp only [go_sem,simprocAttr,hb,hv,aE];done));(iterate 6 (focus (simp [go_sem,simprocAttr,hb,hv,aE];done)));try simp only [List.map_cons,List.map_nil])|refine aa hX hC hP (fm g hm (x:Int)) rfl rfl rfl (by simp only [go_sem,simprocAttr,hb,hv,aE]) rfl ?_|refine aa hX hC hP (cR (eS l) (aP (·.1) g x) (by omega)) rfl rfl rfl (by simp only [go_sem,simprocAttr,hb,hv,aE]) rfl ?_);try simp only [go_sem,simprocAttr,hb,hv,aE])|((with_reducible refine oD ?_ ?_);kernel_rfl)|((with_reducible intro h);try simp only [go_sem,simprocAttr,hb,hv,aE] at h)|omega|intro h)
   refine ⟨x+1,⟨by omega,hn2 he⟩, ?_,by omega⟩
   (refine Le.of ?_ ?_<;>simp [go_sem,simprocAttr,hb,hv,aE])
  ·have aE:decide (eS l=aP (·.1) g (x:Int))=false:=decide_eq_false he
   have hres:=r6 he
   subst hres
   repeat' (first|refine Rn.p ?_|(with_reducible apply And.intro)|((first|(refine hK _ ?_;clear hK K)|with_reducible intro K hK|refine Rs.p ?_|((with_reducible first|apply oP|apply oQ);exact rfl)|(refine an hX hC hP [(10000,52)] (bN l) rfl rfl rfl ?_ ?_ ?_ ?_ ?_ ?_ ?_ ?_ ?_ ?_ ?_ ?_ ?_ ?_;(focus (simp only [go_sem,simprocAttr,hb,hv,aE];done));(iterate 12 (focus (simp [go_sem,simprocAttr,hb,hv,aE];done)));try simp only [List.map_cons,List.map_nil])|(refine bU hX hC hP [(10000,52)] (bG l hl) rfl rfl rfl ?_ ?_ ?_ ?_ ?_ ?_ rfl rfl ?_ ?_;(focus (simp only [go_sem,simprocAttr,hb,hv,aE];done));(iterate 6 (focus (simp [go_sem,simprocAttr,hb,hv,aE];done)));try simp only [List.map_cons,List.map_nil])|refine aa hX hC hP (fm g hm (x:Int)) rfl rfl rfl (by simp only [go_sem,simprocAttr,hb,hv,aE]) rfl ?_|refine aa hX hC hP (cR (eS l) (aP (·.1) g x) (by omega)) rfl rfl rfl (by simp only [go_sem,simprocAttr,hb,hv,aE]) rfl ?_);try simp only [go_sem,simprocAttr,hb,hv,aE])|((with_reducible refine oD ?_ ?_);kernel_rfl)|((with_reducible intro h);try simp only [go_sem,simprocAttr,hb,hv,aE] at h)|omega|intro h)
 ·have hb:decide ((x:Int)<(p.outs.length:Int))=false:=decide_eq_false (by omega)
  obtain rfl:x=p.outs.length:=by omega
  have hres:res=true:=hr.2 ⟨h1.1,h1.2,fun i hi=>hg i (by omega),zF⟩
  subst hres
  repeat' (first|refine Rn.p ?_|(with_reducible apply And.intro)|((first|(refine hK _ ?_;clear hK K)|with_reducible intro K hK|refine Rs.p ?_|((with_reducible first|apply oP|apply oQ);exact rfl)|(refine an hX hC hP [(10000,52)] (bN l) rfl rfl rfl ?_ ?_ ?_ ?_ ?_ ?_ ?_ ?_ ?_ ?_ ?_ ?_ ?_ ?_;(focus (simp only [go_sem,simprocAttr,hb];done));(iterate 12 (focus (simp [go_sem,simprocAttr,hb];done)));try simp only [List.map_cons,List.map_nil])|(refine bU hX hC hP [(10000,52)] (bG l hl) rfl rfl rfl ?_ ?_ ?_ ?_ ?_ ?_ rfl rfl ?_ ?_;(focus (simp only [go_sem,simprocAttr,hb];done));(iterate 6 (focus (simp [go_sem,simprocAttr,hb];done)));try simp only [List.map_cons,List.map_nil])|refine aa hX hC hP (fm g hm (x:Int)) rfl rfl rfl (by simp only [go_sem,simprocAttr,hb]) rfl ?_|refine aa hX hC hP (cR (eS l) (aP (·.1) g x) (by omega)) rfl rfl rfl (by simp only [go_sem,simprocAttr,hb]) rfl ?_);try simp only [go_sem,simprocAttr,hb])|((with_reducible refine oD ?_ ?_);kernel_rfl)|((with_reducible intro h);try simp only [go_sem,simprocAttr,hb] at h)|omega|intro h)
end Go.Ab
end
section
namespace Go.Ab
open Go.Proofs
attribute [local congr] ACall.congr gd.congr Nx.congr
set_option maxRecDepth 10000
set_option maxHeartbeats 8000000
def H8 (m:Nat) (fl:List Int):List Int:=(List.range m).map fun i:Nat=>if (i:Int)∈fl then (1:Int) else 0
theorem ye {g:Gr} {x i:Int} :i∈cn g x↔(0≤i∧i<g.es.length)∧(g.es.getD i.toNat (0,0)).1=x:=by
 constructor
 ·exact dD
 ·rintro ⟨⟨h1,h2⟩,h3⟩
  simp only [cn,aS,List.mem_map,List.mem_filter,List.mem_range,decide_eq_true_eq]
  exact ⟨i.toNat,⟨by omega,h3⟩,by simp;omega⟩
end Go.Ab
end
section
namespace Go.Ab
open Go.Proofs
attribute [local congr] ACall.congr gd.congr Nx.congr
set_option maxRecDepth 10000
set_option maxHeartbeats 8000000
def cT (b:Bool) (g:Gr) (p:Pl):(List (List It) × List It) × Int × Int:=
 if b=false then (([], []),(1,0)) else
 match gG g p g.n.toNat with
 |some i=>(([], []),(3,(i:Int)))
 |none=>((c8 g p g.n.toNat,(fK g p g.n.toNat).row),(0,0))
theorem A7 {n:Nat} :List.replicate n [D.sl 3 []]=vT (List.replicate n []):=by simp [vT,sT]
theorem A8 {ls:List (List It)} {k:Nat} {l:List It} :(vT ls).set k [sT l]=vT (ls.set k l):=by simp [vT,List.map_set]
theorem vA {g:Gr} {p:Pl} {k:Nat} :c8 g p (k+1)=(c8 g p k).set (bz p k).toNat (bL g p k):=rfl
end Go.Ab
end
section
namespace Go.Ab
open Go.Proofs
attribute [local congr] ACall.congr gd.congr Nx.congr
set_option maxRecDepth 10000
set_option maxHeartbeats 8000000
theorem jB (g:Gr) (hl:g.es.length≤1000) (p:Pl) (hp:rL p) (b:Bool) (hr:b=true↔(cK g).1=0∧bE g p):
 Spec Try.prog 29 (Args [eG g,ePl p]) [] (.tup [.d (.sl 1 (vT (cT b g p).1.1)), .d (sT (cT b g p).1.2),eF ((cT b g p).2.1,(cT b g p).2.2, [])]) []:=by
 by_cases hc:(cK g).1=0
 rotate_left
 ·obtain rfl:b=false:=by
   rw [← Bool.not_eq_true,hr]
   exact fun h=>hc h.1
  have hR:cT false g p=(([], []),(1,0)):=rfl
  rw [hR]
  (refine Spec.hd (C:=T.cfg [] []) (rs:= [.t 4, .t 5, .c 6 61]) (T.aj _ _) Try.func29 rfl rfl Try.ntmps29 Try.results29 (by simp [AObj.isNest]) (by simp [AObj.isNest]) (by kernel_rfl) T.mixed fun X hX hP hC aR cL=> ?_)
  repeat' (first|refine Rn.p ?_|(with_reducible apply And.intro)|((first|(refine hK _ ?_;clear hK K)|with_reducible intro K hK|refine Rs.p ?_|((with_reducible first|apply oP|apply oQ);exact rfl)|refine aa hX hC hP (vj g hl hc) rfl rfl rfl (by simp only [go_sem,simprocAttr,vT,List.map_nil]) rfl ?_);try simp only [go_sem,simprocAttr,vT,List.map_nil])|((with_reducible refine oD ?_ ?_);kernel_rfl)|((with_reducible intro h);try simp only [go_sem,simprocAttr,vT,List.map_nil] at h)|omega|intro h)
 have hm:=aW hc
 have hn:=bf hm
 have hr:b=true↔bE g p:=by rw [hr];exact ⟨fun h=>h.2,fun h=>⟨hc,h⟩⟩
 have hO:=yd g hm p hp b hr
 cases b with
 |false=>
  have hR:cT false g p=(([], []),(1,0)):=rfl
  rw [hR]
  (refine Spec.hd (C:=T.cfg [] []) (rs:= [.t 4, .t 5, .c 6 61]) (T.aj _ _) Try.func29 rfl rfl Try.ntmps29 Try.results29 (by simp [AObj.isNest]) (by simp [AObj.isNest]) (by kernel_rfl) T.mixed fun X hX hP hC aR cL=> ?_)
  repeat' (first|refine Rn.p ?_|(with_reducible apply And.intro)|((first|(refine hK _ ?_;clear hK K)|with_reducible intro K hK|refine Rs.p ?_|((with_reducible first|apply oP|apply oQ);exact rfl)|(refine gV hX hC hP [(10000,13)] (oX g hl hc hm) rfl rfl rfl ?_ ?_ ?_ ?_ ?_ ?_ ?_ ?_ ?_ ?_ ?_ ?_ ?_ ?_;(focus (simp only [go_sem,simprocAttr,vT,List.map_nil];done));(iterate 12 (focus (simp [go_sem,simprocAttr,vT,List.map_nil];done)));try simp only [List.map_cons,List.map_nil])|refine aa hX hC hP (eW g hm) rfl rfl rfl (by simp only [go_sem,simprocAttr,vT,List.map_nil]) rfl ?_|refine aa hX hC hP (hO) rfl rfl rfl (by simp only [go_sem,simprocAttr,vT,List.map_nil]) rfl ?_);try simp only [go_sem,simprocAttr,vT,List.map_nil])|((with_reducible refine oD ?_ ?_);kernel_rfl)|((with_reducible intro h);try simp only [go_sem,simprocAttr,vT,List.map_nil] at h)|omega|intro h)
 |true=>
 have gj:=hr.1 rfl
 have hle:=bB gj
 have hR:cT true g p=match gG g p g.n.toNat with
  |some i=>(([], []),(3,(i:Int)))
  |none=>((c8 g p g.n.toNat,(fK g p g.n.toNat).row),(0,0)):=rfl
 generalize cT true g p=R at hR
 (refine Spec.hd (C:=T.cfg [] []) (rs:= [.t 4, .t 5, .c 6 61]) (T.aj _ _) Try.func29 rfl rfl Try.ntmps29 Try.results29 (by simp [AObj.isNest]) (by simp [AObj.isNest]) (by kernel_rfl) T.mixed fun X hX hP hC aR cL=> ?_)
 repeat' (first|(show bZ _ (.seq (.region 5 _ _) _) _ _;(refine xB 13 0 3 rfl rfl rfl ?_;simp only [List.set_cons_zero,List.set_cons_succ,go_sem,simprocAttr]);(refine ni hX 13 2 100 (.tip 3 1 []) rfl rfl rfl (by simp only [go_sem,simprocAttr]) (by decide) (by simp [go_sem,simprocAttr]) ⟨3,1,by decide, .inr rfl⟩ ?_;simp only [List.set_cons_zero,List.set_cons_succ,go_sem,simprocAttr]))|refine Rn.p ?_|(with_reducible apply And.intro)|((first|(refine hK _ ?_;clear hK K)|with_reducible intro K hK|refine Rs.p ?_|((with_reducible first|apply oP|apply oQ);exact rfl)|(refine gV hX hC hP [(10000,13)] (oX g hl hc hm) rfl rfl rfl ?_ ?_ ?_ ?_ ?_ ?_ ?_ ?_ ?_ ?_ ?_ ?_ ?_ ?_;(focus (simp only [go_sem,simprocAttr];done));(iterate 12 (focus (simp [go_sem,simprocAttr];done)));try simp only [List.map_cons,List.map_nil])|refine aa hX hC hP (eW g hm) rfl rfl rfl (by simp only [go_sem,simprocAttr]) rfl ?_|refine aa hX hC hP (hO) rfl rfl rfl (by simp only [go_sem,simprocAttr]) rfl ?_);try simp only [go_sem,simprocAttr])|((with_reducible refine oD ?_ ?_);kernel_rfl)|((with_reducible intro h);try simp only [go_sem,simprocAttr] at h)|omega|intro h)
 rw [A7]
 refine au (fun k:Nat=>k≤g.n.toNat∧∀j,j<k→oZ g p j=true) (fun k=>⟨[(3, .ptr 3 0),(4, .ref 28),(6, .ptr 6 0),(7, .ptr 13 0),(30, .d (sI p.ord)),(31,eN p.ord.length),(32,eN k)], [(28, .own 59 1 (vT (c8 g p k))),(13, .box [.d (sT (fK g p k).row), .d (vw g), .ref 100]),(100, .tip 3 1 ((fK g p k).pl.map rI)),(6, .box [eN 0,eN 0, .nil 3]),(3, .box [.d (sI p.ord), .d (.sl 1 (vI p.outs))])]⟩) (fun k=>g.n.toNat - k) 0 (by simp) ?_ ?_
 ·refine Le.of ?_ ?_<;>simp [go_sem,simprocAttr,HJ,fK,c8]
 rintro k ⟨hk,hok⟩
 obtain ⟨hi,_,hrl⟩:=bS hm gj hk hok
 have hel:=iY (g:=g) (p:=p) (k:=k)
 have hmul:k*(g.es.length+1)≤64*129:=Nat.mul_le_mul (by omega) (by omega)
 rcases Nat.lt_or_ge k g.n.toNat with hlt|hge
 ·have hb:decide ((k:Int)<(p.ord.length:Int))=true:=decide_eq_true (by omega)
  have CY:=b9 gj hlt
  have k7:=vA (g:=g) (p:=p) (k:=k)
  have BB:fK g p (k+1)=(bF g (fK g p k) (bz p k) (eL p (bz p k))).2:=rfl
  have zF:bL g p k=(bF g (fK g p k) (bz p k) (eL p (bz p k))).1.1:=rfl
  have hpk:=yb gj hlt
  have CZ:=yc (g:=g) (p:=p) (k:=k)
  have hsk:oZ g p k=false→R=(([], []),(3,(k:Int))):=fun h=>by
   rw [hR,nQ.2 ⟨hlt,h,hok⟩]
  have rz:=qg gj CY.1 CY.2
  have gL:p.ord.getD k 0=bz p k:=rfl
  have C0:(fK g p k).pl.length≤64:=by
   rcases CX hi.toiV with h|h
   ·omega
   ·rw [h];simp
  obtain ⟨x,hx⟩:∃x:Nat,bz p k=x:=⟨(bz p k).toNat,by omega⟩
  rw [hx] at gL BB zF hpk CZ CY rz k7
  have hxl:x<p.outs.length:=by have:=gj.1;omega
  have hv:=fW hxl
  have hla:eL p (x:Int)=p.outs.getD x []:=by unfold eL;rw [Int.toNat_natCast]
  rw [hla] at BB zF hpk CZ rz
  rw [Int.toNat_natCast] at k7
  have Ai:=rK g hm (fK g p k) hi (x:Int) (p.outs.getD x []) (by omega) (by omega) (by omega)
  have cV:=A8 (ls:=c8 g p k) (k:=x) (l:=bL g p k)
  generalize p.outs.getD x []=o at hv BB zF hpk CZ Ai
  rw [← k7] at cV
  generalize fK g p k=f at BB zF hpk CZ Ai hi hrl C0
  have DD:x<(c8 g p k).length:=by omega
  have hvl:(vT (c8 g p k)).length=(c8 g p k).length:=vT_length
  cases zG:oZ g p k with
  |false=>
   rw [CZ zG] at Ai
   simp only at Ai
   have H9:=hsk zG
   subst H9
   repeat' (first|refine Rn.p ?_|(with_reducible apply And.intro)|((first|(refine hK _ ?_;clear hK K)|with_reducible intro K hK|refine Rs.p ?_|((with_reducible first|apply oP|apply oQ);exact rfl)|(refine an hX hC hP [(10000,13),(10001,100),(10002,101)] (Ai) rfl rfl rfl ?_ ?_ ?_ ?_ ?_ ?_ ?_ ?_ ?_ ?_ ?_ ?_ ?_ ?_;(focus (simp only [go_sem,simprocAttr,hb,gL,hv,jA,s4,List.map_nil];done));(iterate 12 (focus (simp [go_sem,simprocAttr,hb,gL,hv,jA,s4,List.map_nil];done)));try simp only [List.map_cons,List.map_nil]));try simp only [go_sem,simprocAttr,hb,gL,hv,jA,s4,List.map_nil])|((with_reducible refine oD ?_ ?_);kernel_rfl)|((with_reducible intro h);try simp only [go_sem,simprocAttr,hb,gL,hv,jA,s4,List.map_nil] at h)|omega|intro h)
   all_goals rfl
  |true=>
   rw [hpk zG] at Ai
   have nT:(bF g f (x:Int) o).1.2=0:=rfl
   rw [zF] at cV
   generalize bF g f (x:Int) o=su at BB zF Ai nT cV
   generalize Ja:c8 g p k=E at cV DD hel hvl
   have yf:=fun d=>kE DD d
   repeat' (first|(show bZ _ (.region 11 _ _) _ _;(refine gU hX 13 2 101 100 rfl rfl rfl (by first|exact .inl rfl|exact .inr rfl) (by decide) (by decide) ?_;simp only [List.set_cons_zero,List.set_cons_succ,go_sem,simprocAttr,hb,gL,hv,jA,s4,nT,cV,yf,List.drop_succ_cons,List.drop_zero]))|refine Rn.p ?_|(with_reducible apply And.intro)|((first|(refine hK _ ?_;clear hK K)|with_reducible intro K hK|refine Rs.p ?_|((with_reducible first|apply oP|apply oQ);exact rfl)|(refine an hX hC hP [(10000,13),(10001,100),(10002,101)] (Ai) rfl rfl rfl ?_ ?_ ?_ ?_ ?_ ?_ ?_ ?_ ?_ ?_ ?_ ?_ ?_ ?_;(focus (simp only [go_sem,simprocAttr,hb,gL,hv,jA,s4,nT,cV,yf,List.drop_succ_cons,List.drop_zero];done));(iterate 12 (focus (simp [go_sem,simprocAttr,hb,gL,hv,jA,s4,nT,cV,yf,List.drop_succ_cons,List.drop_zero];done)));try simp only [List.map_cons,List.map_nil]));try simp only [go_sem,simprocAttr,hb,gL,hv,jA,s4,nT,cV,yf,List.drop_succ_cons,List.drop_zero])|((with_reducible refine oD ?_ ?_);kernel_rfl)|((with_reducible intro h);try simp only [go_sem,simprocAttr,hb,gL,hv,jA,s4,nT,cV,yf,List.drop_succ_cons,List.drop_zero] at h)|omega|intro h)
   refine ⟨k+1,⟨by omega,fun j hj=> ?_⟩, ?_,by omega⟩
   ·by_cases e:j=k
    ·subst e;exact zG
    ·exact hok j (by omega)
   ·rw [BB]
    have C1:(vT E).set x [D.sl 3 (List.map rT su.1.1)]=vT (c8 g p (k+1)):=cV
    refine Le.of ?_ ?_<;>simp [go_sem,simprocAttr,hb,gL,hv,jA,s4,nT,cV,yf,List.drop_succ_cons,List.drop_zero,C1]
 have hb:decide ((k:Int)<(p.ord.length:Int))=false:=decide_eq_false (by omega)
 obtain rfl:k=g.n.toNat:=by omega
 rw [ej.2 hok] at hR
 subst hR
 repeat' (first|refine Rn.p ?_|(with_reducible apply And.intro)|((first|(refine hK _ ?_;clear hK K)|with_reducible intro K hK|refine Rs.p ?_|((with_reducible first|apply oP|apply oQ);exact rfl)|(refine lM hX hC hP 60 (vh [vw g,sI (fK g p g.n.toNat).pl] (fK g p g.n.toNat).row (by omega)) rfl rfl rfl ?_ ?_ (by first|exact ⟨_,_,_,rfl,Af⟩|exact ⟨_,_,_,rfl,Ag⟩|exact ⟨_,_,_,rfl,CS⟩) rfl (by decide) ?_;(iterate 2 (focus (simp only [go_sem,simprocAttr,hb];done)));simp only [go_sem,simprocAttr,hb]));try simp only [go_sem,simprocAttr,hb])|((with_reducible refine oD ?_ ?_);kernel_rfl)|((with_reducible intro h);try simp only [go_sem,simprocAttr,hb] at h)|omega|intro h)
end Go.Ab
end
section
namespace Go.Ab
open Go.Proofs
attribute [local congr] ACall.congr gd.congr Nx.congr
set_option maxRecDepth 10000
set_option maxHeartbeats 8000000
def o4 (n:Int) (es:List Edge) (ord:List Int) (O:List (List Int)):List (Nat × AObj):= [(10000, .box [eN n, .ref 10001, .ref 10002, .ref 10003]),(10001, .tip 42 2 (es.map rE)),(10002, .tip 3 1 (ord.map rI)),(10003, .own 25 1 (vI O))]
def o5 (n:Int) (es:List Edge) (ord:List Int) (O:List (List Int)):List (Nat × AObj):= [(10000, .box [eN n, .ref 10004, .ref 10002, .ref 10003]),(10004, .tip 42 2 (es.map rE)),(10002, .tip 3 1 (ord.map rI)),(10003, .own 25 1 (vI O))]
def dn (x:Int) (items:List It):List Edge:=(loose items).map fun v=>(v,x)
theorem yg {x:Int} {a b:List It} :dn x (a++b)=dn x a++dn x b:=by simp [dn,cy]
theorem A9 {ls:List (List Int)} {k:Nat} {l:List Int} :(vI ls).set k [sI l]=vI (ls.set k l):=by simp [vI,List.map_set]
theorem vB {items:List It} :(loose items).length≤items.length:=by
 unfold loose
 rw [List.length_map]
 exact List.length_filter_le _ _
theorem rM (n:Int) (es:List Edge) (ord:List Int) (O:List (List Int)) (x:Int) (items:List It) (hl:es.length+items.length≤100000) (hO:∀v∈loose items,0≤v∧v<O.length):
 Spec Try.prog 32 (Args [.ptr 10000 0,eN x, .d (sT items)]) (o4 n es ord O) (.tup []) (o5 n (es++dn x items) ord (ck es.length (dn x items) O)):=by
 unfold o4 o5
 (refine Spec.tS (C:=T.cfg [] []) (rs:= []) [(10004,50)] (T.aj _ _) Try.func32 rfl rfl Try.ntmps32 Try.results32 (by simp [AObj.isNest]) (by simp [AObj.isNest]) (by first|(simp [look];done)|(simp [asN];done)|(intro l hl;simp only [asN];repeat (rw [if_neg (fun e=>by subst e;simp [look] at hl)]))) (by first|(simp [look];done)|(simp [asN];done)|(intro l hl;simp only [asN];repeat (rw [if_neg (fun e=>by subst e;simp [look] at hl)]))) (by kernel_rfl) T.mixed fun X hX hP hC aR cL=> ?_)
 repeat' (first|refine Rn.p ?_|(with_reducible apply And.intro)|((first|(refine hK _ ?_;clear hK K)|with_reducible intro K hK|refine Rs.p ?_|((with_reducible first|apply oP|apply oQ);exact rfl));try simp only [go_sem,simprocAttr])|((with_reducible refine oD ?_ ?_);kernel_rfl)|((with_reducible intro h);try simp only [go_sem,simprocAttr] at h)|omega|intro h)
 (refine gU hX 10000 1 10001 50 rfl rfl rfl (by first|exact .inl rfl|exact .inr rfl) (by decide) (by decide) ?_;simp only [List.set_cons_zero,List.set_cons_succ,go_sem,simprocAttr])
 refine au (fun k:Nat=>k≤items.length) (fun k=>⟨[(0, .ptr 10000 0),(1,eN x),(8, .d (sT items)),(9,eN items.length),(10,eN k)], [(10000, .box [eN n, .ref 50, .ref 10002, .ref 10003]),(50, .tip 42 2 ((es++dn x (items.take k)).map rE)),(10002, .tip 3 1 (ord.map rI)),(10003, .own 25 1 (vI (ck es.length (dn x (items.take k)) O)))]⟩) (fun k=>items.length - k) 0 (by simp) ?_ ?_
 ·refine Le.of ?_ ?_<;>simp [go_sem,simprocAttr,dn,loose,ck]
 rintro k hk
 rcases Nat.lt_or_ge k items.length with hlt|hge
 ·have hb:decide ((k:Int)<(items.length:Int))=true:=decide_eq_true (by omega)
  have oe:items.take (k+1)=items.take k++ [items.getD k (0,0,0)]:=vv hlt
  have Ia:=bq (d:=(0,0,0)) hlt
  have mF:dn x (items.take (k+1))=dn x (items.take k)++dn x [items.getD k (0,0,0)]:=by rw [oe,yg]
  have GF:(items.getD k (0,0,0)).1<0→0≤(items.getD k (0,0,0)).2.1∧(items.getD k (0,0,0)).2.1<O.length:=fun h=>hO _ (by
   unfold loose
   exact List.mem_map.2 ⟨_,List.mem_filter.2 ⟨Ia,decide_eq_true h⟩,rfl⟩)
  have rz:(dn x (items.take k)).length≤k:=by
   unfold dn
   rw [List.length_map]
   refine Nat.le_trans vB ?_
   rw [List.length_take];omega
  have yL:=kJ (m:=es.length) (N:=dn x (items.take k)) (M:=dn x [items.getD k (0,0,0)]) (O:=O)
  have DC:(ck es.length (dn x (items.take k)) O).length=O.length:=eA
  rw [← mF] at yL
  generalize jc:items.getD k (0,0,0)=t at mF GF yL
  generalize ck es.length (dn x (items.take k)) O=O' at yL DC
  generalize dn x (items.take k)=N at mF rz yL
  by_cases h0:0≤t.1
  ·have ak:decide (0≤t.1)=true:=decide_eq_true h0
   have he:dn x [t]= []:=by
    have:¬t.1<0:=by omega
    simp [dn,loose,this]
   rw [he] at mF yL
   rw [List.append_nil] at mF
   repeat' (first|refine Rn.p ?_|(with_reducible apply And.intro)|((first|(refine hK _ ?_;clear hK K)|with_reducible intro K hK|refine Rs.p ?_|((with_reducible first|apply oP|apply oQ);exact rfl));try simp only [go_sem,simprocAttr,hb,ak,jc])|((with_reducible refine oD ?_ ?_);kernel_rfl)|((with_reducible intro h);try simp only [go_sem,simprocAttr,hb,ak,jc] at h)|omega|intro h)
   refine ⟨k+1,by omega, ?_,by omega⟩
   rw [yL,mF]
   refine Le.of ?_ ?_<;>simp [go_sem,simprocAttr,hb,ak,jc,ck]
  ·have ak:decide (0≤t.1)=false:=decide_eq_false h0
   have he:dn x [t]= [(t.2.1,x)]:=by
    have:t.1<0:=by omega
    simp [dn,loose,this]
   rw [he] at mF yL
   obtain ⟨Dk,uL⟩:=GF (by omega)
   obtain ⟨vn,A5⟩:∃vn:Nat,t.2.1=vn:=⟨t.2.1.toNat,by omega⟩
   have hvl:vn<O'.length:=by omega
   have yf:=fun d=>fW hvl d
   have FR:ck es.length (dn x (items.take (k+1))) O=O'.set vn [((es.length+N.length:Nat):Int)]:=by
    rw [yL,A5]
    show O'.set ((vn:Int).toNat) _=_
    rw [Int.toNat_natCast]
   rw [A5] at mF
   have hrow:rI ((es.length:Int)+(N.length:Int))= [D.sc (.int .i64 ((es.length:Int)+(N.length:Int)))]:=rfl
   have cV:=A9 (ls:=O') (k:=vn) (l:= [((es.length+N.length:Nat):Int)])
   repeat' (first|(show bZ _ (.region 6 _ _) _ _;(refine gU hX 10000 1 43 50 rfl rfl rfl (by first|exact .inl rfl|exact .inr rfl) (by decide) (by decide) ?_;simp only [List.set_cons_zero,List.set_cons_succ,go_sem,simprocAttr,hb,ak,jc,A5,yf,List.drop_succ_cons,List.drop_zero,List.length_append]))|refine Rn.p ?_|(with_reducible apply And.intro)|((first|(refine hK _ ?_;clear hK K)|with_reducible intro K hK|refine Rs.p ?_|((with_reducible first|apply oP|apply oQ);exact rfl));try simp only [go_sem,simprocAttr,hb,ak,jc,A5,yf,List.drop_succ_cons,List.drop_zero,List.length_append])|((with_reducible refine oD ?_ ?_);kernel_rfl)|((with_reducible intro h);try simp only [go_sem,simprocAttr,hb,ak,jc,A5,yf,List.drop_succ_cons,List.drop_zero,List.length_append] at h)|omega|intro h)
   refine ⟨k+1,by omega, ?_,by omega⟩
   rw [FR,mF]
   refine Le.of ?_ ?_<;>simp [go_sem,simprocAttr,hb,ak,jc,A5,yf,List.drop_succ_cons,List.drop_zero,List.length_append]
   refine ⟨rfl, ?_⟩
   simp only [Int.natCast_add] at cV
   exact cV
 ·have hb:decide ((k:Int)<(items.length:Int))=false:=decide_eq_false (by omega)
  obtain rfl:k=items.length:=by omega
  have ht:items.take items.length=items:=List.take_length
  repeat' (first|refine Rn.p ?_|(with_reducible apply And.intro)|((first|(refine hK _ ?_;clear hK K)|with_reducible intro K hK|refine Rs.p ?_|((with_reducible first|apply oP|apply oQ);exact rfl));try simp only [go_sem,simprocAttr,hb,ht])|((with_reducible refine oD ?_ ?_);kernel_rfl)|((with_reducible intro h);try simp only [go_sem,simprocAttr,hb,ht] at h)|omega|intro h)
end Go.Ab
end
section
namespace Go.Ab
open Go.Proofs
attribute [local congr] ACall.congr gd.congr Nx.congr
set_option maxRecDepth 10000
set_option maxHeartbeats 16000000
theorem qh (ps:List Edge) (hl:ps.length≤1000000):
 Spec Try.prog 30 (Args [.d (sE ps)]) [] (.ref 10000) [(10000, .tip 42 2 (ps.map rE))]:=by
 (refine Spec.tS (C:=T.cfg [] []) (rs:= [.t 2]) [(10000,7)] (T.aj _ _) Try.func30 rfl rfl Try.ntmps30 Try.results30 (by simp [AObj.isNest]) (by simp [AObj.isNest]) (by first|(simp [look];done)|(simp [asN];done)|(intro l hl;simp only [asN];repeat (rw [if_neg (fun e=>by subst e;simp [look] at hl)]))) (by first|(simp [look];done)|(simp [asN];done)|(intro l hl;simp only [asN];repeat (rw [if_neg (fun e=>by subst e;simp [look] at hl)]))) (by kernel_rfl) T.mixed fun X hX hP hC aR cL=> ?_)
 repeat' (first|(show bZ _ .ret _ _;(try simp only [go_sem,simprocAttr]);refine eV hX 2 7 (.tip 42 2 []) ?_ ?_ (by decide) ⟨42,2,by decide, .inr rfl⟩ ?_;(iterate 2 (focus (simp only [go_sem,simprocAttr];done)));simp only [go_sem,simprocAttr])|refine Rn.p ?_|(with_reducible apply And.intro)|((first|(refine hK _ ?_;clear hK K)|with_reducible intro K hK|refine Rs.p ?_|((with_reducible first|apply oP|apply oQ);exact rfl));try simp only [go_sem,simprocAttr])|((with_reducible refine oD ?_ ?_);kernel_rfl)|((with_reducible intro h);try simp only [go_sem,simprocAttr] at h)|omega|intro h)
 exact h.symm
def pz:Pl:=⟨[], []⟩
def lB (b:Bool) (g:Gr) (p:Pl):Gr × Pl × Int:=
 if (cT b g p).2.1≠0 then (gz,pz,1) else if 64<(aA g p).n∨128<(aA g p).es.length then (gz,pz,10) else (aA g p,bg g p,0)
theorem o6 {b:Bool} {g:Gr} {p:Pl} (hr:b=true↔(cK g).1=0∧bE g p) (h:(cT b g p).2.1=0):cJ g p∧cT b g p=((c8 g p g.n.toNat,aN g p),(0,0)):=by
 cases b with
 |false=>simp [cT] at h
 |true=>
  have hR:cT true g p=match gG g p g.n.toNat with
   |some i=>(([], []),(3,(i:Int)))
   |none=>((c8 g p g.n.toNat,(fK g p g.n.toNat).row),(0,0)):=rfl
  cases hs:gG g p g.n.toNat with
  |some i=>rw [hR,hs] at h;simp at h
  |none=>
   obtain ⟨h1,h2⟩:=hr.1 rfl
   exact ⟨⟨h1,h2,ej.1 hs⟩,by rw [hR,hs];rfl⟩
theorem vC {g:Gr} {p:Pl} {k:Nat} :bQ g p (k+1)=bQ g p k++dn (bz p k) (bL g p k):=rfl
theorem uh {g:Gr} {p:Pl} (hr:cJ g p) {k:Nat} (hk:k≤g.n.toNat):(bQ g p k).length≤g.n.toNat∧∀e∈bQ g p k,0≤e.1∧e.1<g.n:=by
 obtain ⟨hc,h,hok⟩:=hr
 have hm:=aW hc
 obtain ⟨h1,h2⟩:=gH hm h hk fun j hj=>hok j (by omega)
 obtain ⟨hi,_⟩:=bS hm h hk fun j hj=>hok j (by omega)
 have hv:∀v∈(bQ g p k).map (·.1),0≤v∧v<g.n:=fun v hv=>hi.A1 v (h2 v (List.mem_append_left _ hv)).1
 refine ⟨?_,fun e he=>hv _ (List.mem_map.2 ⟨e,he,rfl⟩)⟩
 have:=fJ (List.nodup_append.1 h1).1 (m:=ec g.n.toNat) fun v yZ=>cI.2 (by have:=hv v yZ;omega)
 rw [iX,List.length_map] at this
 exact this
theorem kK (g:Gr) (hl:g.es.length≤1000) (p:Pl) (hp:rL p) (hp1:p.ord.length≤1000) (hp2:p.outs.length≤1000) (Ib:∀l∈p.outs,l.length≤1000) (b:Bool) (hr:b=true↔(cK g).1=0∧bE g p):
 Spec Try.prog 11 (Args [eG g,ePl p]) [] (.tup [eG (lB b g p).1,ePl (lB b g p).2.1,eN (lB b g p).2.2]) []:=by
 have hO:=jB g hl p hp b hr
 by_cases h0:(cT b g p).2.1=0
 rotate_left
 ·have yh:lB b g p=(gz,pz,1):=if_pos h0
  rw [yh]
  have ak:decide ((cT b g p).2.1=0)=false:=decide_eq_false h0
  (refine Spec.hd (C:=T.cfg [] []) (rs:= [.c 4 24, .c 5 28, .t 6]) (T.aj _ _) Try.func11 rfl rfl Try.ntmps11 Try.results11 (by simp [AObj.isNest]) (by simp [AObj.isNest]) (by kernel_rfl) T.mixed fun X hX hP hC aR cL=> ?_)
  repeat' (first|refine Rn.p ?_|(with_reducible apply And.intro)|((first|(refine hK _ ?_;clear hK K)|with_reducible intro K hK|refine Rs.p ?_|((with_reducible first|apply oP|apply oQ);exact rfl)|refine aa hX hC hP (hO) rfl rfl rfl (by simp only [go_sem,simprocAttr,ak,gz,pz,vI,List.map_nil]) rfl ?_);try simp only [go_sem,simprocAttr,ak,gz,pz,vI,List.map_nil])|((with_reducible refine oD ?_ ?_);kernel_rfl)|((with_reducible intro h);try simp only [go_sem,simprocAttr,ak,gz,pz,vI,List.map_nil] at h)|omega|intro h)
 obtain ⟨hrun,hR⟩:=o6 hr h0
 rw [hR] at hO
 simp only at hO
 have yh:lB b g p=if 64<(aA g p).n∨128<(aA g p).es.length then (gz,pz,10) else (aA g p,bg g p,0):=by
  unfold lB;rw [if_neg (by rw [h0];simp)]
 generalize lB b g p=AR at yh
 have hm:=aW hrun.1
 have hn:=bf hm
 have gj:=hrun.2.1
 have hle:=bB gj
 have vM:=gj.1
 (refine Spec.hd (C:=T.cfg [55,98] []) (rs:= [.c 4 24, .c 5 28, .t 6]) (T.aj _ _) Try.func11 rfl rfl Try.ntmps11 Try.results11 (by simp [AObj.isNest]) (by simp [AObj.isNest]) (by kernel_rfl) T.mixed fun X hX hP hC aR cL=> ?_)
 repeat' (first|(show bZ _ (.seq (.region 5 _ _) _) _ _;(refine gU hX 38 1 31 200 rfl rfl rfl (by first|exact .inl rfl|exact .inr rfl) (by decide) (by decide) ?_;simp only [List.set_cons_zero,List.set_cons_succ,go_sem,simprocAttr]);(refine ni hX 38 3 201 (.own 25 1 []) rfl rfl rfl (by simp only [go_sem,simprocAttr]) (by decide) (by simp [go_sem,simprocAttr]) ⟨25,1,by decide, .inl rfl⟩ ?_;simp only [List.set_cons_zero,List.set_cons_succ,go_sem,simprocAttr]))|refine Rn.p ?_|(with_reducible apply And.intro)|((first|(refine hK _ ?_;clear hK K)|with_reducible intro K hK|refine Rs.p ?_|((with_reducible first|apply oP|apply oQ);exact rfl)|refine aa hX hC hP (hO) rfl rfl rfl (by simp only [go_sem,simprocAttr]) rfl ?_|(refine gV hX hC hP [(10000,31)] (qh g.es (by omega)) rfl rfl rfl ?_ ?_ ?_ ?_ ?_ ?_ ?_ ?_ ?_ ?_ ?_ ?_ ?_ ?_;(focus (simp only [go_sem,simprocAttr];done));(iterate 12 (focus (simp [go_sem,simprocAttr];done)));try simp only [List.map_cons,List.map_nil])|(refine gV hX hC hP [(10000,35)] (qb p.ord (by omega)) rfl rfl rfl ?_ ?_ ?_ ?_ ?_ ?_ ?_ ?_ ?_ ?_ ?_ ?_ ?_ ?_;(focus (simp only [go_sem,simprocAttr];done));(iterate 12 (focus (simp [go_sem,simprocAttr];done)));try simp only [List.map_cons,List.map_nil]));try simp only [go_sem,simprocAttr])|((with_reducible refine oD ?_ ?_);kernel_rfl)|((with_reducible intro h);try simp only [go_sem,simprocAttr] at h)|omega|intro h)
 refine au (fun x:Nat=>x≤p.outs.length) (fun x=>⟨[(2, .ptr 2 0),(3, .ptr 3 0),(4, .ptr 4 0),(5, .ptr 5 0),(7, .d (.sl 1 (vT (c8 g p g.n.toNat)))),(8, .d (sT (aN g p))),(10, .ptr 38 0),(40, .d (.sl 1 (vI p.outs))),(41,eN p.outs.length),(42,eN x)], [(2, .box [eN g.n, .d (sE g.es)]),(3, .box [.d (sI p.ord), .d (.sl 1 (vI p.outs))]),(4, .box [eN 0, .nil 42]),(5, .box [.nil 3, .nil 25]),(38, .box [eN g.n, .ref 200, .ref 35, .ref 201]),(200, .tip 42 2 (g.es.map rE)),(35, .tip 3 1 (p.ord.map rI)),(201, .own 25 1 (vI (p.outs.take x)))]⟩) (fun x=>p.outs.length - x) 0 (by simp) ?_ ?_
 ·refine Le.of ?_ ?_<;>simp [go_sem,simprocAttr,vI]
 rintro x hx
 rcases Nat.lt_or_ge x p.outs.length with hxl|HZ
 ·have hb:decide ((x:Int)<(p.outs.length:Int))=true:=decide_eq_true (by omega)
  have hv:=fW hxl
  have rz:=Ib _ (bq (d:= []) hxl)
  have oe:vI (p.outs.take (x+1))=vI (p.outs.take x)++ [[sI (p.outs.getD x [])]]:=by
   unfold vI
   rw [nM (d:= []) hxl]
  have oI:(p.outs.take x).length=x:=by rw [List.length_take];omega
  have FT:=iN (p.outs.getD x []) (by omega)
  generalize p.outs.getD x []=l at hv rz oe FT
  repeat' (first|(show bZ _ (.region 9 _ _) _ _;(refine gU hX 38 3 55 201 rfl rfl rfl (by first|exact .inl rfl|exact .inr rfl) (by decide) (by decide) ?_;simp only [List.set_cons_zero,List.set_cons_succ,go_sem,simprocAttr,hb,hv,oI]))|refine Rn.p ?_|(with_reducible apply And.intro)|((first|(refine hK _ ?_;clear hK K)|with_reducible intro K hK|refine Rs.p ?_|((with_reducible first|apply oP|apply oQ);exact rfl)|refine aa hX hC hP (FT) rfl rfl rfl (by simp only [go_sem,simprocAttr,hb,hv,oI]) rfl ?_);try simp only [go_sem,simprocAttr,hb,hv,oI])|((with_reducible refine oD ?_ ?_);kernel_rfl)|((with_reducible intro h);try simp only [go_sem,simprocAttr,hb,hv,oI] at h)|omega|intro h)
  refine ⟨x+1,by omega, ?_,by omega⟩
  rw [oe]
  refine Le.of ?_ ?_<;>simp [go_sem,simprocAttr,hb,hv,oI]
 have hb:decide ((x:Int)<(p.outs.length:Int))=false:=decide_eq_false (by omega)
 obtain rfl:x=p.outs.length:=by omega
 repeat' (first|refine Rn.p ?_|(with_reducible apply And.intro)|((first|(refine hK _ ?_;clear hK K)|with_reducible intro K hK|refine Rs.p ?_|((with_reducible first|apply oP|apply oQ);exact rfl)|refine aa hX hC hP (FT) rfl rfl rfl (by simp only [go_sem,simprocAttr,hb,List.take_length]) rfl ?_);try simp only [go_sem,simprocAttr,hb,List.take_length])|((with_reducible refine oD ?_ ?_);kernel_rfl)|((with_reducible intro h);try simp only [go_sem,simprocAttr,hb,List.take_length] at h)|omega|intro h)
 clear hb hx
 refine au (fun k:Nat=>k≤g.n.toNat) (fun k=>⟨[(2, .ptr 2 0),(4, .ptr 4 0),(5, .ptr 5 0),(7, .d (.sl 1 (vT (c8 g p g.n.toNat)))),(8, .d (sT (aN g p))),(10, .ptr 38 0),(61, .d (sI p.ord)),(62,eN p.ord.length),(63,eN k)], [(2, .box [eN g.n, .d (sE g.es)]),(4, .box [eN 0, .nil 42]),(5, .box [.nil 3, .nil 25]),(38, .box [eN g.n, .ref 200, .ref 35, .ref 201]),(200, .tip 42 2 ((g.es++bQ g p k).map rE)),(35, .tip 3 1 (p.ord.map rI)),(201, .own 25 1 (vI (ck g.es.length (bQ g p k) p.outs)))]⟩) (fun k=>g.n.toNat - k) 0 (by simp) ?_ ?_
 ·refine Le.of ?_ ?_<;>simp [go_sem,simprocAttr,bQ,ck]
 rintro k hk
 obtain ⟨hnl,DE⟩:=uh hrun hk
 have DC:(ck g.es.length (bQ g p k) p.outs).length=p.outs.length:=eA
 rcases Nat.lt_or_ge k g.n.toNat with bT|BM
 ·have hb:decide ((k:Int)<(p.ord.length:Int))=true:=decide_eq_true (by omega)
  have CY:=b9 gj bT
  have FU:=kH gj (k:=g.n.toNat) (Nat.le_refl _) bT
  have gL:p.ord.getD k 0=bz p k:=rfl
  have k7:=vC (g:=g) (p:=p) (k:=k)
  obtain ⟨rN,FV⟩:=uh hrun (k:=k+1) (by omega)
  have yG:(bL g p k).length≤(fK g p k).row.length:=by unfold bL bF;simp;omega
  obtain ⟨_,_,hrl⟩:=bS hm gj (k:=k) (by omega) fun j hj=>hrun.2.2 j (by omega)
  have hmul:k*(g.es.length+1)≤64*129:=Nat.mul_le_mul (by omega) (by omega)
  have yL:ck g.es.length (bQ g p (k+1)) p.outs=ck (g.es++bQ g p k).length (dn (bz p k) (bL g p k)) (ck g.es.length (bQ g p k) p.outs):=by
   rw [k7,kJ,List.length_append]
  have vP:=rM g.n (g.es++bQ g p k) p.ord (ck g.es.length (bQ g p k) p.outs) (bz p k) (bL g p k) (by rw [List.length_append];omega) (fun v hv=>by
   have:=FV (v,bz p k) (by rw [k7];exact List.mem_append_right _ (List.mem_map.2 ⟨v,hv,rfl⟩))
   simp only at this
   omega)
  rw [← yL] at vP
  have vN:g.es++bQ g p k++dn (bz p k) (bL g p k)=g.es++bQ g p (k+1):=by rw [k7,List.append_assoc]
  rw [vN] at vP
  obtain ⟨x,hx⟩:∃x:Nat,bz p k=x:=⟨(bz p k).toNat,by omega⟩
  rw [hx] at gL FU vP CY
  rw [Int.toNat_natCast] at FU
  have hel:=iY (g:=g) (p:=p) (k:=g.n.toNat)
  have DD:x<(c8 g p g.n.toNat).length:=by omega
  have mu:=kE DD
  rw [FU] at mu
  have hvl:(vT (c8 g p g.n.toNat)).length=(c8 g p g.n.toNat).length:=vT_length
  repeat' (first|(show bZ _ (.region 14 _ _) _ _;(refine gU hX 38 1 202 200 rfl rfl rfl (by first|exact .inl rfl|exact .inr rfl) (by decide) (by decide) ?_;simp only [List.set_cons_zero,List.set_cons_succ,go_sem,simprocAttr,hb,gL,mu,hvl,o4,o5]))|refine Rn.p ?_|(with_reducible apply And.intro)|((first|(refine hK _ ?_;clear hK K)|with_reducible intro K hK|refine Rs.p ?_|((with_reducible first|apply oP|apply oQ);exact rfl)|(refine an hX hC hP [(10000,38),(10001,200),(10002,35),(10003,201),(10004,202)] (vP) rfl rfl rfl ?_ ?_ ?_ ?_ ?_ ?_ ?_ ?_ ?_ ?_ ?_ ?_ ?_ ?_;(focus (simp only [go_sem,simprocAttr,hb,gL,mu,hvl,o4,o5];done));(iterate 12 (focus (simp [go_sem,simprocAttr,hb,gL,mu,hvl,o4,o5];done)));try simp only [List.map_cons,List.map_nil]));try simp only [go_sem,simprocAttr,hb,gL,mu,hvl,o4,o5])|((with_reducible refine oD ?_ ?_);kernel_rfl)|((with_reducible intro h);try simp only [go_sem,simprocAttr,hb,gL,mu,hvl,o4,o5] at h)|omega|intro h)
  refine ⟨k+1,by omega, ?_,by omega⟩
  refine Le.of ?_ ?_<;>simp [go_sem,simprocAttr,hb,gL,mu,hvl,o4,o5]
 have hb:decide ((k:Int)<(p.ord.length:Int))=false:=decide_eq_false (by omega)
 obtain rfl:k=g.n.toNat:=by omega
 by_cases h1:1<(aN g p).length
 ·have ak:decide ((1:Int)<((aN g p).length:Int))=true:=decide_eq_true (by omega)
  obtain ⟨_,_,hrl⟩:=bS hm gj (k:=g.n.toNat) (Nat.le_refl _) hrun.2.2
  have hmul:g.n.toNat*(g.es.length+1)≤64*129:=Nat.mul_le_mul (by omega) (by omega)
  have hrl:(aN g p).length≤g.n.toNat*(g.es.length+1):=hrl
  obtain ⟨kR,ug⟩:=dP hrun
  have rN:newL g p=dn g.n (aN g p):=if_pos h1
  have vP:=rM (g.n+1) (g.es++bQ g p g.n.toNat) (p.ord++ [g.n]) (ck g.es.length (bQ g p g.n.toNat) p.outs++ [[]]) g.n (aN g p) (by rw [List.length_append];omega) (fun v hv=>by
   have:=(ug (v,g.n) (by unfold aD;rw [rN];exact List.mem_append_right _ (List.mem_map.2 ⟨v,hv,rfl⟩))).1
   simp only at this
   rw [List.length_append,eA];omega)
  have hq:ck (g.es++bQ g p g.n.toNat).length (dn g.n (aN g p)) (ck g.es.length (bQ g p g.n.toNat) p.outs++ [[]])=(bg g p).outs:=by
   show _=ck g.es.length (aD g p) (if 1<(aN g p).length then p.outs++ [[]] else p.outs)
   have mF:=o3 (m:=g.es.length) (N:=bQ g p g.n.toNat) (O:=p.outs) (fun e he=>by
    have:=DE e he
    omega)
   rw [if_pos h1,aD,rN,kJ,List.length_append,mF]
  have he:g.es++bQ g p g.n.toNat++dn g.n (aN g p)=(aA g p).es:=by
   show _=g.es++aD g p
   rw [aD,rN,List.append_assoc]
  have ho:p.ord++ [g.n]=(bg g p).ord:=(if_pos h1).symm
  have hg:g.n+1=(aA g p).n:=(if_pos h1).symm
  have hvs:vI (ck g.es.length (bQ g p g.n.toNat) p.outs)++ [[D.sl 1 []]]=vI (ck g.es.length (bQ g p g.n.toNat) p.outs++ [[]]):=by simp [vI,sI]
  have hos:p.ord.map rI++ [[D.sc (.int .i64 g.n)]]=(p.ord++ [g.n]).map rI:=by simp [rI]
  rw [hq,he] at vP
  have FG:(aA g p).es.length≤1000:=by
   rw [← he,List.length_append,List.length_append]
   have:(dn g.n (aN g p)).length≤g.n.toNat:=by
    have:=fJ (List.nodup_append.1 (by rw [aD,List.map_append] at kR;exact kR)).2.1 (m:=ec g.n.toNat) fun v yZ=>cI.2 (by
     obtain ⟨e,he,rfl⟩:=List.mem_map.1 yZ
     have:=(ug e (List.mem_append_right _ he)).1
     omega)
    rw [iX,List.length_map,rN] at this
    exact this
   omega
  have yM:AR=if 64<(aA g p).n∨128<(aA g p).es.length then (gz,pz,10) else (aA g p,bg g p,0):=yh
  clear yh
  have Gl:(bg g p).outs.length=(bg g p).outs.length:=rfl
  have Gf:bg g p=⟨(bg g p).ord,(bg g p).outs⟩:=rfl
  generalize aA g p=G at he hg vP yM FG
  rw [ho] at vP hos
  generalize bg g p=Q at hq ho vP yM hos
  by_cases h2:64<G.n
  ·have aE:decide (64<G.n)=true:=decide_eq_true h2
   rw [if_pos (.inl h2)] at yM
   subst yM
   repeat' (first|refine Rn.p ?_|(with_reducible apply And.intro)|((first|(refine hK _ ?_;clear hK K)|with_reducible intro K hK|refine Rs.p ?_|((with_reducible first|apply oP|apply oQ);exact rfl)|(refine an hX hC hP [(10000,38),(10001,200),(10002,87),(10003,98),(10004,203)] (vP) rfl rfl rfl ?_ ?_ ?_ ?_ ?_ ?_ ?_ ?_ ?_ ?_ ?_ ?_ ?_ ?_;(focus (simp only [go_sem,simprocAttr,hb,ak,aE,o4,o5,hvs,hos,hg,gz,pz,vI,List.map_nil];done));(iterate 12 (focus (simp [go_sem,simprocAttr,hb,ak,aE,o4,o5,hvs,hos,hg,gz,pz,vI,List.map_nil];done)));try simp only [List.map_cons,List.map_nil]));try simp only [go_sem,simprocAttr,hb,ak,aE,o4,o5,hvs,hos,hg,gz,pz,vI,List.map_nil])|((with_reducible refine oD ?_ ?_);kernel_rfl)|((with_reducible intro h);try simp only [go_sem,simprocAttr,hb,ak,aE,o4,o5,hvs,hos,hg,gz,pz,vI,List.map_nil] at h)|omega|intro h)
  ·have aE:decide (64<G.n)=false:=decide_eq_false h2
   by_cases h3:128<G.es.length
   ·have cC:decide (128<(G.es.length:Int))=true:=decide_eq_true (by omega)
    rw [if_pos (.inr h3)] at yM
    subst yM
    repeat' (first|refine Rn.p ?_|(with_reducible apply And.intro)|((first|(refine hK _ ?_;clear hK K)|with_reducible intro K hK|refine Rs.p ?_|((with_reducible first|apply oP|apply oQ);exact rfl)|(refine an hX hC hP [(10000,38),(10001,200),(10002,87),(10003,98),(10004,203)] (vP) rfl rfl rfl ?_ ?_ ?_ ?_ ?_ ?_ ?_ ?_ ?_ ?_ ?_ ?_ ?_ ?_;(focus (simp only [go_sem,simprocAttr,hb,ak,aE,cC,o4,o5,hvs,hos,hg,gz,pz];done));(iterate 12 (focus (simp [go_sem,simprocAttr,hb,ak,aE,cC,o4,o5,hvs,hos,hg,gz,pz];done)));try simp only [List.map_cons,List.map_nil]));try simp only [go_sem,simprocAttr,hb,ak,aE,cC,o4,o5,hvs,hos,hg,gz,pz])|((with_reducible refine oD ?_ ?_);kernel_rfl)|((with_reducible intro h);try simp only [go_sem,simprocAttr,hb,ak,aE,cC,o4,o5,hvs,hos,hg,gz,pz] at h)|omega|intro h)
    all_goals rfl
   ·have cC:decide (128<(G.es.length:Int))=false:=decide_eq_false (by omega)
    rw [if_neg (by rintro (h|h);exact h2 h;exact h3 h)] at yM
    subst yM
    repeat' (first|refine Rn.p ?_|(with_reducible apply And.intro)|((first|(refine hK _ ?_;clear hK K)|with_reducible intro K hK|refine Rs.p ?_|((with_reducible first|apply oP|apply oQ);exact rfl)|(refine an hX hC hP [(10000,38),(10001,200),(10002,87),(10003,98),(10004,203)] (vP) rfl rfl rfl ?_ ?_ ?_ ?_ ?_ ?_ ?_ ?_ ?_ ?_ ?_ ?_ ?_ ?_;(focus (simp only [go_sem,simprocAttr,hb,ak,aE,cC,o4,o5,hvs,hos,hg];done));(iterate 12 (focus (simp [go_sem,simprocAttr,hb,ak,aE,cC,o4,o5,hvs,hos,hg];done)));try simp only [List.map_cons,List.map_nil]));try simp only [go_sem,simprocAttr,hb,ak,aE,cC,o4,o5,hvs,hos,hg])|((with_reducible refine oD ?_ ?_);kernel_rfl)|((with_reducible intro h);try simp only [go_sem,simprocAttr,hb,ak,aE,cC,o4,o5,hvs,hos,hg] at h)|omega|intro h)
 ·have ak:decide ((1:Int)<((aN g p).length:Int))=false:=decide_eq_false (by omega)
  have rN:newL g p= []:=if_neg h1
  have he:g.es++bQ g p g.n.toNat=(aA g p).es:=by
   show _=g.es++aD g p
   rw [aD,rN,List.append_nil]
  have hq:ck g.es.length (bQ g p g.n.toNat) p.outs=(bg g p).outs:=by
   show _=ck g.es.length (aD g p) (if 1<(aN g p).length then p.outs++ [[]] else p.outs)
   rw [if_neg h1,aD,rN,List.append_nil]
  have ho:p.ord=(bg g p).ord:=(if_neg h1).symm
  have hg:g.n=(aA g p).n:=(if_neg h1).symm
  have hml:(g.es++bQ g p g.n.toNat).map rE=(aA g p).es.map rE:=by rw [he]
  have FW:(aA g p).es.length=g.es.length+(bQ g p g.n.toNat).length:=by rw [← he,List.length_append]
  have Dh:p.ord.map rI=(bg g p).ord.map rI:=by rw [← ho]
  generalize aA g p=G at he hg yh hml FW
  generalize bg g p=Q at hq ho yh Dh
  by_cases h2:64<G.n
  ·omega
  ·have aE:decide (64<G.n)=false:=decide_eq_false h2
   by_cases h3:128<G.es.length
   ·have cC:decide (128<(G.es.length:Int))=true:=decide_eq_true (by omega)
    rw [if_pos (.inr h3)] at yh
    subst yh
    rw [he]
    repeat' (first|refine Rn.p ?_|(with_reducible apply And.intro)|((first|(refine hK _ ?_;clear hK K)|with_reducible intro K hK|refine Rs.p ?_|((with_reducible first|apply oP|apply oQ);exact rfl));try simp only [go_sem,simprocAttr,hb,ak,aE,cC,hg,gz,pz])|((with_reducible refine oD ?_ ?_);kernel_rfl)|((with_reducible intro h);try simp only [go_sem,simprocAttr,hb,ak,aE,cC,hg,gz,pz] at h)|omega|intro h)
    all_goals rfl
   ·have cC:decide (128<(G.es.length:Int))=false:=decide_eq_false (by omega)
    rw [if_neg (by rintro (h|h);exact h2 h;exact h3 h)] at yh
    subst yh
    rw [he,hq]
    have C2:=Dh.symm
    have qs:=hg.symm
    rw [qs] at aE
    repeat' (first|refine Rn.p ?_|(with_reducible apply And.intro)|((first|(refine hK _ ?_;clear hK K)|with_reducible intro K hK|refine Rs.p ?_|((with_reducible first|apply oP|apply oQ);exact rfl));try simp only [go_sem,simprocAttr,hb,ak,aE,cC,qs,C2])|((with_reducible refine oD ?_ ?_);kernel_rfl)|((with_reducible intro h);try simp only [go_sem,simprocAttr,hb,ak,aE,cC,qs,C2] at h)|omega|intro h)
end Go.Ab
end
section
namespace Go.Ab
open Go.Proofs
attribute [local congr] ACall.congr gd.congr Nx.congr
set_option maxRecDepth 10000
set_option maxHeartbeats 16000000
def Ic (p:Pl) (x:Gr) (k:Nat):List (List Int):=(List.range k).map fun v=>if 0<(p.outs.getD v []).length then p.outs.getD v [] else cn x (v:Int)
theorem nU {g:Gr} {p:Pl} (hr:cJ g p):∀t∈aN g p,t.1<0:=by
 obtain ⟨hc,h,hok⟩:=hr
 have hm:=aW hc
 have hn:=bf hm
 obtain ⟨hi,fS,_⟩:=bS hm h (k:=g.n.toNat) (Nat.le_refl _) hok
 intro t ht
 refine Decidable.byContradiction fun h0=> ?_
 rcases hi.it t ht with ⟨h1,_⟩|⟨h1,h2,_,h4⟩
 ·omega
 ·have DF:=(dM hm (k:=t.1.toNat) (by omega)).2
  rw [← h4] at DF
  refine hi.head t ht h1 (vu hi.toiV ?_ DF)
  rw [fS,List.length_take,bB h];omega
end Go.Ab
end
section
namespace Go.Ab
open Go.Proofs
attribute [local congr] ACall.congr gd.congr Nx.congr
set_option maxRecDepth 10000
set_option maxHeartbeats 8000000
def ou (g:Gr) (p:Pl):Bool:=decide (200<g.es.length)||decide (100<p.ord.length)||decide (100<p.outs.length)||p.outs.any fun l=>decide (200<l.length)
theorem uj {g:Gr} {p:Pl} (h:ou g p=false):g.es.length≤200∧p.ord.length≤100∧p.outs.length≤100∧∀l∈p.outs,l.length≤200:=by
 simp only [ou,Bool.or_eq_false_iff,decide_eq_false_iff_not,List.any_eq_false,decide_eq_true_eq] at h
 obtain ⟨⟨⟨h1,h2⟩,h3⟩,h4⟩:=h
 exact ⟨by omega,by omega,by omega,fun l hl=>by have:=h4 l hl;omega⟩
theorem yj {g:Gr} {p:Pl} (h:ou g p=false):rL p:=by
 obtain ⟨_,h1,h2,h3⟩:=uj h
 exact ⟨by omega,by omega,fun l hl=>by have:=h3 l hl;omega⟩
structure yl (p:Pl):Prop where
 ord:p.ord.length≤9223372036854775807
 outs:p.outs.length≤9223372036854775807
 each:∀l∈p.outs,l.length≤9223372036854775807
theorem qi (g:Gr) (p:Pl) (hl:g.es.length≤9223372036854775807) (hp:yl p):Spec Try.prog 10 (Args [eG g,ePl p]) [] (eB (ou g p)) []:=by
 have ho:=hp.ord
 have hu:=hp.outs
 (refine Spec.hd (C:=T.cfg [] []) (rs:= [.t 4]) (T.aj _ _) Try.func10 rfl rfl Try.ntmps10 Try.results10 (by simp [AObj.isNest]) (by simp [AObj.isNest]) (by kernel_rfl) T.mixed fun X hX hP hC aR cL=> ?_)
 generalize hB:ou g p=B
 by_cases h1:200<g.es.length
 ·have ak:decide (200<(g.es.length:Int))=true:=decide_eq_true (by omega)
  have:B=true:=by rw [← hB,ou,decide_eq_true h1];rfl
  subst this
  repeat' (first|refine Rn.p ?_|(with_reducible apply And.intro)|((first|(refine hK _ ?_;clear hK K)|with_reducible intro K hK|refine Rs.p ?_|((with_reducible first|apply oP|apply oQ);exact rfl));try simp only [go_sem,simprocAttr,ak])|((with_reducible refine oD ?_ ?_);kernel_rfl)|((with_reducible intro h);try simp only [go_sem,simprocAttr,ak] at h)|omega|intro h)
 have ak:decide (200<(g.es.length:Int))=false:=decide_eq_false (by omega)
 by_cases h2:100<p.ord.length
 ·have aE:decide (100<(p.ord.length:Int))=true:=decide_eq_true (by omega)
  have:B=true:=by rw [← hB,ou,decide_eq_true h2];simp
  subst this
  repeat' (first|refine Rn.p ?_|(with_reducible apply And.intro)|((first|(refine hK _ ?_;clear hK K)|with_reducible intro K hK|refine Rs.p ?_|((with_reducible first|apply oP|apply oQ);exact rfl));try simp only [go_sem,simprocAttr,ak,aE])|((with_reducible refine oD ?_ ?_);kernel_rfl)|((with_reducible intro h);try simp only [go_sem,simprocAttr,ak,aE] at h)|omega|intro h)
 have aE:decide (100<(p.ord.length:Int))=false:=decide_eq_false (by omega)
 by_cases h3:100<p.outs.length
 ·have cC:decide (100<(p.outs.length:Int))=true:=decide_eq_true (by omega)
  have:B=true:=by rw [← hB,ou,decide_eq_true h3];simp
  subst this
  repeat' (first|refine Rn.p ?_|(with_reducible apply And.intro)|((first|(refine hK _ ?_;clear hK K)|with_reducible intro K hK|refine Rs.p ?_|((with_reducible first|apply oP|apply oQ);exact rfl));try simp only [go_sem,simprocAttr,ak,aE,cC])|((with_reducible refine oD ?_ ?_);kernel_rfl)|((with_reducible intro h);try simp only [go_sem,simprocAttr,ak,aE,cC] at h)|omega|intro h)
 have cC:decide (100<(p.outs.length:Int))=false:=decide_eq_false (by omega)
 have GG:B=p.outs.any fun l=>decide (200<l.length):=by rw [← hB,ou,decide_eq_false h1,decide_eq_false h2,decide_eq_false h3];simp
 clear hB
 repeat' (first|refine Rn.p ?_|(with_reducible apply And.intro)|((first|(refine hK _ ?_;clear hK K)|with_reducible intro K hK|refine Rs.p ?_|((with_reducible first|apply oP|apply oQ);exact rfl));try simp only [go_sem,simprocAttr,ak,aE,cC])|((with_reducible refine oD ?_ ?_);kernel_rfl)|((with_reducible intro h);try simp only [go_sem,simprocAttr,ak,aE,cC] at h)|omega|intro h)
 refine au (fun k:Nat=>k≤p.outs.length∧∀j,j<k→(p.outs.getD j []).length≤200) (fun k=>⟨[(24, .d (.sl 1 (vI p.outs))),(25,eN p.outs.length),(26,eN k)], []⟩) (fun k=>p.outs.length - k) 0 (by simp) ?_ ?_
 ·(refine Le.of ?_ ?_<;>simp [go_sem,simprocAttr])
 rintro k ⟨hk,hg⟩
 rcases Nat.lt_or_ge k p.outs.length with bT|BM
 ·have hb:decide ((k:Int)<(p.outs.length:Int))=true:=decide_eq_true (by omega)
  have hv:=fW bT
  have hm:=bq (d:= []) bT
  have rz:=hp.each _ hm
  by_cases h4:200<(p.outs.getD k []).length
  ·have hb4:decide (200<((p.outs.getD k []).length:Int))=true:=decide_eq_true (by omega)
   have:B=true:=by rw [GG,List.any_eq_true];exact ⟨_,hm,decide_eq_true h4⟩
   subst this
   repeat' (first|refine Rn.p ?_|(with_reducible apply And.intro)|((first|(refine hK _ ?_;clear hK K)|with_reducible intro K hK|refine Rs.p ?_|((with_reducible first|apply oP|apply oQ);exact rfl));try simp only [go_sem,simprocAttr,hb,hv,hb4])|((with_reducible refine oD ?_ ?_);kernel_rfl)|((with_reducible intro h);try simp only [go_sem,simprocAttr,hb,hv,hb4] at h)|omega|intro h)
  ·have hb4:decide (200<((p.outs.getD k []).length:Int))=false:=decide_eq_false (by omega)
   repeat' (first|refine Rn.p ?_|(with_reducible apply And.intro)|((first|(refine hK _ ?_;clear hK K)|with_reducible intro K hK|refine Rs.p ?_|((with_reducible first|apply oP|apply oQ);exact rfl));try simp only [go_sem,simprocAttr,hb,hv,hb4])|((with_reducible refine oD ?_ ?_);kernel_rfl)|((with_reducible intro h);try simp only [go_sem,simprocAttr,hb,hv,hb4] at h)|omega|intro h)
   refine ⟨k+1,⟨by omega,fun j hj=> ?_⟩, ?_,by omega⟩
   ·by_cases e:j=k
    ·subst e;omega
    ·exact hg j (by omega)
   ·(refine Le.of ?_ ?_<;>simp [go_sem,simprocAttr,hb,hv,hb4])
 ·have hb:decide ((k:Int)<(p.outs.length:Int))=false:=decide_eq_false (by omega)
  have:B=false:=by
   rw [GG,List.any_eq_false]
   intro l hl
   obtain ⟨j,hj,rfl⟩:=List.mem_iff_getElem.1 hl
   have:=hg j (by omega)
   rw [List.getD_eq_getElem?_getD,List.getElem?_eq_getElem hj,Option.getD_some] at this
   simp;omega
  subst this
  repeat' (first|refine Rn.p ?_|(with_reducible apply And.intro)|((first|(refine hK _ ?_;clear hK K)|with_reducible intro K hK|refine Rs.p ?_|((with_reducible first|apply oP|apply oQ);exact rfl));try simp only [go_sem,simprocAttr,hb])|((with_reducible refine oD ?_ ?_);kernel_rfl)|((with_reducible intro h);try simp only [go_sem,simprocAttr,hb] at h)|omega|intro h)
def Ba (g:Gr):Bool:=decide ((cK g).1=0)&&decide ((cm (·.1) g).length=1)
theorem ig (g:Gr) (hl:g.es.length≤1000):Spec Try.prog 28 (Args [eG g]) [] (eB (Ba g)) []:=by
 by_cases hc:(cK g).1=0
 ·have hm:=aW hc
  have ak:decide ((cK g).1=0)=true:=decide_eq_true hc
  have hI:Ba g=decide (((cm (·.1) g).length:Int)=1):=by
   unfold Ba;rw [ak,Bool.true_and,decide_eq_decide];omega
  rw [hI]
  generalize od:cm (·.1) g=bl
  have hS:=sS g hm
  rw [od] at hS
  (refine Spec.hd (C:=T.cfg [] []) (rs:= [.t 2]) (T.aj _ _) Try.func28 rfl rfl Try.ntmps28 Try.results28 (by simp [AObj.isNest]) (by simp [AObj.isNest]) (by kernel_rfl) T.mixed fun X hX hP hC aR cL=> ?_)
  repeat' (first|refine Rn.p ?_|(with_reducible apply And.intro)|((first|(refine hK _ ?_;clear hK K)|with_reducible intro K hK|refine Rs.p ?_|((with_reducible first|apply oP|apply oQ);exact rfl)|refine aa hX hC hP (gZ g hl) rfl rfl rfl (by simp only [go_sem,simprocAttr,ak]) rfl ?_|refine aa hX hC hP (eW g hm) rfl rfl rfl (by simp only [go_sem,simprocAttr,ak]) rfl ?_|refine aa hX hC hP (hS) rfl rfl rfl (by simp only [go_sem,simprocAttr,ak]) rfl ?_);try simp only [go_sem,simprocAttr,ak])|((with_reducible refine oD ?_ ?_);kernel_rfl)|((with_reducible intro h);try simp only [go_sem,simprocAttr,ak] at h)|omega|intro h)
 ·have ak:decide ((cK g).1=0)=false:=decide_eq_false hc
  have hI:Ba g=false:=by unfold Ba;rw [ak];rfl
  rw [hI]
  (refine Spec.hd (C:=T.cfg [] []) (rs:= [.t 2]) (T.aj _ _) Try.func28 rfl rfl Try.ntmps28 Try.results28 (by simp [AObj.isNest]) (by simp [AObj.isNest]) (by kernel_rfl) T.mixed fun X hX hP hC aR cL=> ?_)
  repeat' (first|refine Rn.p ?_|(with_reducible apply And.intro)|((first|(refine hK _ ?_;clear hK K)|with_reducible intro K hK|refine Rs.p ?_|((with_reducible first|apply oP|apply oQ);exact rfl)|refine aa hX hC hP (gZ g hl) rfl rfl rfl (by simp only [go_sem,simprocAttr,ak]) rfl ?_);try simp only [go_sem,simprocAttr,ak])|((with_reducible refine oD ?_ ?_);kernel_rfl)|((with_reducible intro h);try simp only [go_sem,simprocAttr,ak] at h)|omega|intro h)
end Go.Ab
end
section
namespace Go.Ab
open Go.Proofs
attribute [local congr] ACall.congr gd.congr Nx.congr
set_option maxRecDepth 10000
set_option maxHeartbeats 8000000
def zH:Gr:=⟨3, [(0,1),(0,2)]⟩
def C3:Pl:=⟨[0,1,2], [[0,1], [], []]⟩
def BC:Gr:=⟨4, [(0,1),(0,2),(1,3),(2,3)]⟩
def FX:Pl:=⟨[0,1,2,3], [[0,1], [2], [3], []]⟩
theorem FY:(true=true)↔(cK zH).1=0∧bE zH C3:=⟨fun _=>⟨by decide,⟨rfl,by decide,by decide⟩⟩,fun _=>rfl⟩
theorem C4:lB true zH C3=(BC,FX,0):=rfl
theorem FZ:Ba BC=true:=by decide
theorem C5:Ba zH=false:=by decide
theorem cl:Spec Try.prog 9 (Args []) [] (eB true) []:=by
 have F0:=kK zH (by decide) C3 ⟨by decide,by decide,by decide⟩ (by decide) (by decide) (by decide) true FY
 rw [C4] at F0
 simp only at F0
 have h1:=FZ
 have h2:=C5
 have e1:zH.es.map rE= [[.sc (.int .i64 0), .sc (.int .i64 1)], [.sc (.int .i64 0), .sc (.int .i64 2)]]:=rfl
 have e2:C3.ord.map rI= [[.sc (.int .i64 0)], [.sc (.int .i64 1)], [.sc (.int .i64 2)]]:=rfl
 have e3:vI C3.outs= [[.sl 1 [[.sc (.int .i64 0)], [.sc (.int .i64 1)]]], [.sl 1 []], [.sl 1 []]]:=rfl
 have e4:zH.n=3:=rfl
 have e5:BC.n=4:=rfl
 have e6:BC.es.map rE= [[.sc (.int .i64 0), .sc (.int .i64 1)], [.sc (.int .i64 0), .sc (.int .i64 2)], [.sc (.int .i64 1), .sc (.int .i64 3)], [.sc (.int .i64 2), .sc (.int .i64 3)]]:=rfl
 have e7:FX.ord.map rI= [[.sc (.int .i64 0)], [.sc (.int .i64 1)], [.sc (.int .i64 2)], [.sc (.int .i64 3)]]:=rfl
 have e8:vI FX.outs= [[.sl 1 [[.sc (.int .i64 0)], [.sc (.int .i64 1)]]], [.sl 1 [[.sc (.int .i64 2)]]], [.sl 1 [[.sc (.int .i64 3)]]], [.sl 1 []]]:=rfl
 have e9:∀d, [[D.sc (.int .i64 0),D.sc (.int .i64 1)], [D.sc (.int .i64 0),D.sc (.int .i64 2)], [D.sc (.int .i64 1),D.sc (.int .i64 3)], [D.sc (.int .i64 2),D.sc (.int .i64 3)]].getD 3 d= [D.sc (.int .i64 2),D.sc (.int .i64 3)]:=fun d=>rfl
 (refine Spec.hd (C:=T.cfg [] []) (rs:= [.t 0]) (T.aj _ _) Try.func9 rfl rfl Try.ntmps9 Try.results9 (by simp [AObj.isNest]) (by simp [AObj.isNest]) (by kernel_rfl) T.mixed fun X hX hP hC aR cL=> ?_)
 repeat' (first|refine Rn.p ?_|(with_reducible apply And.intro)|((first|(refine hK _ ?_;clear hK K)|with_reducible intro K hK|refine Rs.p ?_|((with_reducible first|apply oP|apply oQ);exact rfl)|(refine bD hX hC hP (F0) rfl rfl rfl ?_ ?_ rfl ?_;iterate 2 (focus (simp only [go_sem,simprocAttr,h1,h2,e1,e2,e3,e4,e5,e6,e7,e8,e9];done)))|refine aa hX hC hP (ig BC (by decide)) rfl rfl rfl (by simp only [go_sem,simprocAttr,h1,h2,e1,e2,e3,e4,e5,e6,e7,e8,e9]) rfl ?_|refine aa hX hC hP (ig zH (by decide)) rfl rfl rfl (by simp only [go_sem,simprocAttr,h1,h2,e1,e2,e3,e4,e5,e6,e7,e8,e9]) rfl ?_|(refine bD hX hC hP (ig BC (by decide)) rfl rfl rfl ?_ ?_ rfl ?_;iterate 2 (focus (simp only [go_sem,simprocAttr,h1,h2,e1,e2,e3,e4,e5,e6,e7,e8,e9];done)))|(refine bD hX hC hP (ig zH (by decide)) rfl rfl rfl ?_ ?_ rfl ?_;iterate 2 (focus (simp only [go_sem,simprocAttr,h1,h2,e1,e2,e3,e4,e5,e6,e7,e8,e9];done))));try simp only [go_sem,simprocAttr,h1,h2,e1,e2,e3,e4,e5,e6,e7,e8,e9])|((with_reducible refine oD ?_ ?_);kernel_rfl)|((with_reducible intro h);try simp only [go_sem,simprocAttr,h1,h2,e1,e2,e3,e4,e5,e6,e7,e8,e9] at h)|omega|intro h)
end Go.Ab
end
section
namespace Go.Ab
open Go.Proofs
attribute [local congr] ACall.congr gd.congr Nx.congr
set_option maxRecDepth 10000
def Jb (l:List Int) (k:Nat):Bool:=(List.range k).all fun i=>decide (l.getD i 0=(i:Int))
def zI (g:Gr) (names order:List Int) (k:Nat):List Edge:=(List.range k).map fun i=>(names.getD (g.es.getD (order.getD i 0).toNat (0,0)).1.toNat 0,names.getD (g.es.getD (order.getD i 0).toNat (0,0)).2.toNat 0)
def eM (g:Gr) (names order:List Int):Gr:=⟨g.n,zI g names order order.length⟩
theorem rO {g:Gr} {names order:List Int} {k:Nat} :(zI g names order k).length=k:=by simp [zI]
def C6 (g:Gr) (names order:List Int):Bool:=aZ g&&iT names g.n&&iT order g.es.length
def Ie (g:Gr) (names order:List Int):Gr:=if C6 g names order then eM g names order else ⟨0, []⟩
end Go.Ab
end
section
namespace Go.Ab
def Ed (g:Gr) (a b:Int):Prop:=∃i,i<g.es.length∧tl g i=a∧hd g i=b
def DG (g:Gr) (l:List Int):Prop:=∀i,i<l.length→Ed g (l.getD i 0) (l.getD ((i+1) % l.length) 0)
def ym (g:Gr) (way:List Int) (at_:Int):Prop:=∀p,p<way.length→Ed g ((way++ [at_]).getD (p+1) 0) (way.getD p 0)
theorem lC {l:List Int} {a:Int} :(l++ [a]).getD l.length 0=a:=by
 rw [List.getD_eq_getElem?_getD,List.getElem?_append_right (Nat.le_refl _)];simp
theorem nV {g:Gr} (hm:aZ g=true):∀(f:Nat) (way:List Int) (a:Nat),a<g.n.toNat→(a:Int)∉aH g→ym g way a→left g way≤f→
 ym g (jM g (bW g (aH g)) f way a).1 (jM g (bW g (aH g)) f way a).2∧0≤(jM g (bW g (aH g)) f way a).2∧(jM g (bW g (aH g)) f way a).2∈(jM g (bW g (aH g)) f way a).1
 |f,way,a,ha,hn,hc,hl=>by
  by_cases hmem:(a:Int)∈way
  ·rw [kB (.inr hmem)]
   exact ⟨hc,by simp only;omega,hmem⟩
  ·have hla:=kA ha hmem
   cases f with
   |zero=>omega
   |succ f=>
    obtain ⟨⟨i,hi,Ig,oI,DE⟩,_⟩:=sU hm (CP hm ha hn)
    have htr:=cQ hm hi
    rw [oI] at htr
    obtain ⟨b,GH⟩:∃b:Nat,iQ g (bW g (aH g)) a=b:=⟨(iQ g (bW g (aH g)) a).toNat,by omega⟩
    rw [GH] at DE htr oI
    have e1:jM g (bW g (aH g)) (f+1) way a=jM g (bW g (aH g)) f (way++ [(a:Int)]) b:=by
     simp only [jM];rw [if_neg (by intro h;rcases h with h|h;omega;exact hmem h),GH]
    rw [e1]
    refine nV hm f (way++ [(a:Int)]) b (by omega) DE ?_ (by omega)
    intro p hp
    rw [List.length_append,List.length_singleton] at hp
    by_cases fS:p<way.length
    ·have:=hc p fS
     rw [kD (by simp;omega),kD fS]
     exact this
    ·have:p=way.length:=by omega
     subst this
     have e2:=lC (l:=way++ [(a:Int)]) (a:=(b:Int))
     rw [List.length_append,List.length_singleton] at e2
     rw [e2,lC]
     exact ⟨i,hi,oI,Ig⟩
theorem lD {l:List Int} {k p:Nat} :(l.drop k).getD p 0=l.getD (k+p) 0:=by
 rw [List.getD_eq_getElem?_getD,List.getElem?_drop, ← List.getD_eq_getElem?_getD]
theorem DG.zo {g:Gr} {l:List Int} (h:∀p,p<l.length→Ed g (l.getD ((p+1) % l.length) 0) (l.getD p 0)) (h0:0<l.length):DG g (kz l.reverse):=by
 have Ih:0<l.reverse.length:=by simpa using h0
 obtain ⟨k,vV,hk2,_⟩:=fF (ry Ih)
 rw [List.length_reverse] at hk2
 have e1:kz l.reverse=l.reverse.drop k++l.reverse.take k:=by simp only [kz,vV,Int.toNat_natCast]
 have hlen:(kz l.reverse).length=l.length:=by rw [e1];simp;omega
 have hg:∀i,i<l.length→(kz l.reverse).getD i 0=l.getD (l.length - 1 - (i+k) % l.length) 0:=by
  intro i hi
  rw [e1,List.getD_eq_getElem?_getD]
  by_cases hik:i<l.length - k
  ·rw [List.getElem?_append_left (by simp;omega),List.getElem?_drop,List.getElem?_reverse (by omega),Nat.mod_eq_of_lt (by omega), ← List.getD_eq_getElem?_getD]
   congr 1;omega
  ·rw [List.getElem?_append_right (by simp;omega),List.length_drop,List.length_reverse,List.getElem?_take,if_pos (by omega),List.getElem?_reverse (by omega), ← List.getD_eq_getElem?_getD]
   have:(i+k) % l.length=i+k - l.length:=by rw [Nat.mod_eq_sub_mod (by omega),Nat.mod_eq_of_lt (by omega)]
   rw [this];congr 1;omega
 intro i hi
 rw [hlen] at hi ⊢
 rw [hg i hi,hg _ (Nat.mod_lt _ h0)]
 have hmm:((i+1) % l.length+k) % l.length=((i+k) % l.length+1) % l.length:=by
  rw [Nat.mod_add_mod,Nat.mod_add_mod];congr 1;omega
 rw [hmm]
 have hj:=Nat.mod_lt (i+k) h0
 generalize (i+k) % l.length=j at hj ⊢
 by_cases yo:j+1<l.length
 ·rw [Nat.mod_eq_of_lt yo]
  have:=h (l.length - 1 - (j+1)) (by omega)
  rw [Nat.mod_eq_of_lt (by omega),show l.length - 1 - (j+1)+1=l.length - 1 - j from by omega] at this
  exact this
 ·have:j+1=l.length:=by omega
  rw [this,Nat.mod_self]
  have:=h (l.length - 1) (by omega)
  rw [show l.length - 1+1=l.length from by omega,Nat.mod_self] at this
  rw [show l.length - 1 - j=0 from by omega]
  exact this
def F3 (g:Gr):Prop:=∃r:Int→Nat,∀i,i<g.es.length→r (tl g i)<r (hd g i)
theorem qj {g:Gr} (hm:aZ g=true):vb g=true↔F3 g:=by
 constructor
 ·intro h
  refine ⟨fun v=>((sV g.n.toNat (aH g) (aH g).length).getD v.toNat 0).toNat,fun i hi=> ?_⟩
  have h1:=xZ (ve hm h) hi
  have h2:=nJ (n:=g.n.toNat) (l:=aH g) (k:=(aH g).length) (y:=(tl g i).toNat)
  simp only;omega
 ·rintro ⟨r,hr⟩
  cases h:vb g with
  |true=>rfl
  |false=>
   exfalso
   obtain ⟨y,hy,hn⟩:=tZ hm h
   have key:∀(p:Nat) (y:Nat),y<g.n.toNat→(y:Int)∉aH g→r y=p→False:=by
    intro p
    induction p using Nat.strongRecOn with
    |_ p ih=>
     intro y hy hn hp
     obtain ⟨t,i,hi,h1,rfl,h2⟩:=CP hm hy hn
     have htr:=cQ hm hi
     have hlt:=hr i hi
     rw [h1,hp] at hlt
     have e:((tl g i).toNat:Int)=tl g i:=by omega
     exact ih (r (tl g i)) hlt (tl g i).toNat (by omega) (by rw [e];exact h2) (by rw [e])
   exact key _ y hy hn rfl
theorem uk {g:Gr} (hm:aZ g=true) (h:vb g=true):iR g= []:=by
 have hall:=(bP.1 (tY hm h)).2
 have hn:=bf hm
 rcases start_eq hm with ⟨h1,h2⟩|⟨a,ha,h1,h2,h3⟩
 ·have:js g=([], -1):=by
   unfold js;rw [h1];exact kB (.inl (by omega)) _
  simp only [iR,this]
  rw [if_pos (by omega)]
 ·exact absurd (hall a (cI.2 (by omega))) h3
theorem yp {g:Gr} (hm:aZ g=true) (h:vb g=false):0<(iR g).length∧DG g (iR g):=by
 obtain ⟨y,hy,Ii⟩:=tZ hm h
 have hn:=bf hm
 rcases start_eq hm with ⟨h1,h2⟩|⟨a,ha,h1,h2,h3⟩
 ·exfalso
  rcases fE (f:=fun n:Int=>decide (0<n)) (l:=bW g (aH g)) 0 with ⟨_,h4⟩|⟨k,h4,_⟩
  ·have h5:=(ld hm hy).2 Ii
   have h6:=h4 ((bW g (aH g)).getD y 0) (by rw [List.getD_eq_getElem?_getD,gW hy];exact List.mem_of_getElem? (gW hy))
   rw [iO hy] at h6
   exact absurd h5 (of_decide_eq_false h6)
  ·omega
 ·obtain ⟨h4,h5,h6⟩:=nV hm g.n.toNat [] a ha h3 (fun p hp=>by simp at hp) zy
  have hw:js g=jM g (bW g (aH g)) g.n.toNat [] a:=by unfold js;rw [h1]
  rw [← hw] at h4 h5 h6
  obtain ⟨k,vV,hk2,Fx⟩:=fF h6
  have hc:iR g=kz ((js g).1.drop k).reverse:=by
   simp only [iR]
   rw [if_neg (by omega),vV,Int.toNat_natCast]
  have hlen:((js g).1.drop k).length=(js g).1.length - k:=by simp
  have h0:0<((js g).1.drop k).length:=by omega
  refine ⟨?_, ?_⟩
  ·rw [hc]
   simp only [kz,List.length_append,List.length_drop,List.length_take,List.length_reverse]
   omega
  ·rw [hc]
   refine DG.zo (fun p hp=> ?_) h0
   rw [hlen] at hp ⊢
   have h7:=h4 (k+p) (by omega)
   rw [lD (p:=p)]
   by_cases yo:p+1<(js g).1.length - k
   ·rw [Nat.mod_eq_of_lt yo,lD]
    rw [kD (by omega)] at h7
    exact h7
   ·have:p+1=(js g).1.length - k:=by omega
    rw [this,Nat.mod_self,lD,Nat.add_zero,Fx]
    rw [show k+p+1=(js g).1.length from by omega,lC] at h7
    exact h7
end Go.Ab
end
section
namespace Go.Ab
def nm (names:List Int) (v:Int):Int:=names.getD v.toNat 0
structure fX (g:Gr) (names order:List Int):Prop where
 may:aZ g=true
 Bb:iT names g.n=true
 ord:iT order (g.es.length:Int)=true
section
variable {g:Gr} {names order:List Int} (h:fX g names order)
include h
theorem fX.len:(eM g names order).es.length=g.es.length:=by
 have:=(bP.1 h.ord).1
 simp only [eM,rO];omega
theorem fX.ga {i:Nat} (hi:i<g.es.length):∃j,j<g.es.length∧order.getD i 0=(j:Int)∧(eM g names order).es.getD i (0,0)=(nm names (tl g j),nm names (hd g j)):=by
 have vM:=(bP.1 h.ord).1
 have:=nI h.ord _ (gC (l:=order) (m:=i) (by omega))
 refine ⟨(order.getD i 0).toNat,by omega,by omega, ?_⟩
 simp only [eM,zI,nm,tl,hd]
 rw [List.getD_eq_getElem?_getD,List.getElem?_map,List.getElem?_range (by omega)]
 rfl
theorem fX.back {j:Nat} (hj:j<g.es.length):∃i,i<g.es.length∧order.getD i 0=(j:Int)∧(eM g names order).es.getD i (0,0)=(nm names (tl g j),nm names (hd g j)):=by
 obtain ⟨vM,hall⟩:=bP.1 h.ord
 obtain ⟨i,hi,hil,he⟩:=fF (hall (j:Int) (cI.2 (by omega)))
 obtain ⟨j',_,h2,h3⟩:=h.ga (i:=i) (by omega)
 have:j'=j:=by omega
 subst this
 exact ⟨i,by omega,he,h3⟩
theorem fX.inj {a b:Int} (ha:0≤a∧a<g.n) (hb:0≤b∧b<g.n) (e:nm names a=nm names b):a=b:=by
 have hnl:=(bP.1 h.Bb).1
 have:=hU h.Bb (i:=a.toNat) (j:=b.toNat) (by omega) (by omega) e
 omega
theorem fX.range {a:Int} (ha:0≤a∧a<g.n):0≤nm names a∧nm names a<g.n:=by
 have hnl:=(bP.1 h.Bb).1
 exact nI h.Bb _ (gC (by omega))
theorem fX.inv {a:Int} (ha:0≤a∧a<g.n):fP names (nm names a)=a:=by
 have hnl:=(bP.1 h.Bb).1
 obtain ⟨k,hk,bT,he⟩:=fF (gC (l:=names) (m:=a.toNat) (by omega))
 have h2:=hU h.Bb bT (j:=a.toNat) (by omega) he
 have h3:fP names (nm names a)=k:=hk
 omega
theorem fX.of {v:Int} (hv:0≤v∧v<g.n):∃a,(0≤a∧a<g.n)∧nm names a=v:=by
 obtain ⟨hnl,hall⟩:=bP.1 h.Bb
 obtain ⟨k,hk,bT,he⟩:=fF (hall v (cI.2 (by omega)))
 exact ⟨k,by omega,he⟩
theorem fX.may':aZ (eM g names order)=true:=by
 have hn:=bf h.may
 have hlen:=h.len
 have hall:(eM g names order).es.any (nj (eM g names order))=false:=by
  rw [List.any_eq_false]
  intro e he
  obtain ⟨i,hi,rfl⟩:=List.getElem_of_mem he
  obtain ⟨j,hj,_,h3⟩:=h.ga (i:=i) (by omega)
  rw [List.getD_eq_getElem?_getD,List.getElem?_eq_getElem hi,Option.getD_some] at h3
  rw [h3]
  have h4:=h.range (cQ h.may hj)
  have h5:=h.range (fH h.may hj)
  have e1:(eM g names order).n=g.n:=rfl
  simp only [nj,q8,e1,Bool.or_eq_true,decide_eq_true_eq]
  omega
 have e1:(eM g names order).n=g.n:=rfl
 simp only [aZ,hall,e1,Bool.not_false,Bool.and_true,Bool.and_eq_true,decide_eq_true_eq]
 omega
omit h in
theorem lE {i j:Nat} (e:(eM g names order).es.getD i (0,0)=(nm names (tl g j),nm names (hd g j))):tl (eM g names order) i=nm names (tl g j)∧hd (eM g names order) i=nm names (hd g j):=⟨congrArg Prod.fst e,congrArg Prod.snd e⟩
theorem fX.loop:(0≤jz (eM g names order))↔0≤jz g:=by
 have key:∀g:Gr,(0≤jz g)↔∃i,i<g.es.length∧tl g i=hd g i:=by
  intro g
  have:=dX (fun e:Edge=>decide (e.1=e.2)) g.es
  rw [show (0≤jz g)↔g.es.any (fun e:Edge=>decide (e.1=e.2))=true from by rw [← this];simp [jz],List.any_eq_true]
  constructor
  ·rintro ⟨e,he,h2⟩
   obtain ⟨i,hi,rfl⟩:=List.getElem_of_mem he
   refine ⟨i,hi, ?_⟩
   simpa [tl,hd,List.getD_eq_getElem?_getD,List.getElem?_eq_getElem hi] using h2
  ·rintro ⟨i,hi,h2⟩
   refine ⟨_,List.getElem_mem hi, ?_⟩
   simpa [tl,hd,List.getD_eq_getElem?_getD,List.getElem?_eq_getElem hi] using h2
 rw [key,key,h.len]
 constructor
 ·rintro ⟨i,hi,e⟩
  obtain ⟨j,hj,_,h3⟩:=h.ga hi
  obtain ⟨e1,e2⟩:=lE h3
  exact ⟨j,hj,h.inj (cQ h.may hj) (fH h.may hj) (by rw [← e1, ← e2,e])⟩
 ·rintro ⟨j,hj,e⟩
  obtain ⟨i,hi,_,h3⟩:=h.back hj
  obtain ⟨e1,e2⟩:=lE h3
  exact ⟨i,hi,by rw [e1,e2,e]⟩
omit h in
theorem jo (g:Gr):(0≤dY g)↔∃i k,i<g.es.length∧k<g.es.length∧i≠k∧g.es.getD i (0,0)=g.es.getD k (0,0):=by
 have:=dX (nB g) (List.range g.es.length)
 rw [show (0≤dY g)↔(List.range g.es.length).any (nB g)=true from by rw [← this];simp [dY],List.any_eq_true]
 constructor
 ·rintro ⟨i,hi,h2⟩
  have hil:=List.mem_range.1 hi
  have h3:=of_decide_eq_true h2
  rw [List.mem_iff_getElem?] at h3
  obtain ⟨k,hk⟩:=h3
  rw [List.getElem?_take] at hk
  split at hk
  ·rename_i hki
   exact ⟨i,k,hil,by omega,by omega,by rw [List.getD_eq_getElem?_getD (i:=k),hk];rfl⟩
  ·cases hk
 ·rintro ⟨i,k,hi,hk,hne,e⟩
  have main:∀i k,k<i→i<g.es.length→g.es.getD i (0,0)=g.es.getD k (0,0)→nB g i=true:=by
   intro i k hki hi e
   refine decide_eq_true ?_
   rw [e,List.mem_iff_getElem?]
   refine ⟨k, ?_⟩
   rw [List.getElem?_take,if_pos hki,List.getD_eq_getElem?_getD,List.getElem?_eq_getElem (by omega)];rfl
  rcases Nat.lt_or_gt_of_ne hne with hlt|hgt
  ·exact ⟨k,List.mem_range.2 hk,main k i hlt hk e.symm⟩
  ·exact ⟨i,List.mem_range.2 hi,main i k hgt hi e⟩
theorem fX.C7:(0≤dY (eM g names order))↔0≤dY g:=by
 have vM:=(bP.1 h.ord).1
 rw [jo,jo,h.len]
 constructor
 ·rintro ⟨i,k,hi,hk,hne,e⟩
  obtain ⟨j,hj,ho,h3⟩:=h.ga hi
  obtain ⟨j',hj',ho',wO⟩:=h.ga hk
  refine ⟨j,j',hj,hj',fun e'=> ?_, ?_⟩
  ·subst e'
   exact hne (hU h.ord (by omega) (by omega) (by rw [ho,ho']))
  ·rw [h3,wO,Prod.mk.injEq] at e
   have e1:=h.inj (cQ h.may hj) (cQ h.may hj') e.1
   have e2:=h.inj (fH h.may hj) (fH h.may hj') e.2
   exact Prod.ext e1 e2
 ·rintro ⟨j,j',hj,hj',hne,e⟩
  obtain ⟨i,hi,ho,h3⟩:=h.back hj
  obtain ⟨k,hk,ho',wO⟩:=h.back hj'
  refine ⟨i,k,hi,hk,fun e'=> ?_, ?_⟩
  ·subst e';omega
  ·have e1:tl g j=tl g j':=congrArg Prod.fst e
   have e2:hd g j=hd g j':=congrArg Prod.snd e
   rw [h3,wO,e1,e2]
theorem fX.F4:vb (eM g names order)=vb g:=by
 rw [Bool.eq_iff_iff,qj h.may',qj h.may]
 constructor
 ·rintro ⟨r,hr⟩
  refine ⟨fun v=>r (nm names v),fun j hj=> ?_⟩
  obtain ⟨i,hi,_,h3⟩:=h.back hj
  obtain ⟨e1,e2⟩:=lE h3
  have:=hr i (by rw [h.len];exact hi)
  rwa [e1,e2] at this
 ·rintro ⟨r,hr⟩
  refine ⟨fun v=>r (fP names v),fun i hi=> ?_⟩
  rw [h.len] at hi
  obtain ⟨j,hj,_,h3⟩:=h.ga hi
  obtain ⟨e1,e2⟩:=lE h3
  have:=hr j hj
  rw [e1,e2];simp only;rw [h.inv (cQ h.may hj),h.inv (fH h.may hj)]
  exact this
omit h in
theorem fL {g:Gr} {y:Int} :y∈cm (·.2) g↔(0≤y∧y<g.n)∧∀i,i<g.es.length→hd g i≠y:=by
 simp only [cm,iu,List.mem_map,List.mem_filter,List.mem_range,decide_eq_true_eq]
 have he:∀x:Nat,x<g.n.toNat→(((dy (·.2) g).getD x []).length=0↔∀i,i<g.es.length→hd g i≠(x:Int)):=by
  intro x hx
  have e:(dy (·.2) g).getD x []=aS (·.2) g.es g.es.length (x:Int):=by
   simp [dy,List.getD_eq_getElem?_getD,List.getElem?_range hx,nD]
  rw [e,List.length_eq_zero_iff]
  simp only [aS,List.map_eq_nil_iff,List.filter_eq_nil_iff,List.mem_range,decide_eq_true_eq]
  rfl
 constructor
 ·rintro ⟨x,⟨hx,h0⟩,rfl⟩
  refine ⟨by simp;omega,(he x hx).1 h0⟩
 ·rintro ⟨⟨h1,h2⟩,h3⟩
  have e:((y.toNat:Nat):Int)=y:=by omega
  exact ⟨y.toNat,⟨by omega,(he _ (by omega)).2 (by rw [e];exact h3)⟩,e⟩
omit h in
theorem jU {f:Edge→Int} {g:Gr} :(cm f g).Nodup:=by
 unfold cm iu
 refine List.Pairwise.map _ (fun a b h e=>h (Int.ofNat.inj e)) (List.Pairwise.filter _ List.nodup_range)
theorem fX.bare:(cm (·.2) (eM g names order)).length=(cm (·.2) g).length:=by
 have e1:(eM g names order).n=g.n:=rfl
 have h1:((cm (·.2) g).map (nm names)).length≤(cm (·.2) (eM g names order)).length:=by
  refine Nat.le_trans (count_le _ (cm (·.2) (eM g names order)) ?_ ?_) List.countP_le_length
  ·rw [List.nodup_iff_pairwise_ne]
   refine List.Pairwise.map _ (fun a b h=>h) ?_
   refine List.Pairwise.imp_of_mem ?_ jU
   intro a b ha hb hab e
   exact hab (h.inj (fL.1 ha).1 (fL.1 hb).1 e)
  ·intro v hv
   obtain ⟨y,hy,rfl⟩:=List.mem_map.1 hv
   obtain ⟨hy1,hy2⟩:=fL.1 hy
   refine fL.2 ⟨h.range hy1,fun i hi e=> ?_⟩
   rw [h.len] at hi
   obtain ⟨j,hj,_,h3⟩:=h.ga hi
   rw [(lE h3).2] at e
   exact hy2 j hj (h.inj (fH h.may hj) hy1 e)
 have h2:((cm (·.2) (eM g names order)).map (fP names)).length≤(cm (·.2) g).length:=by
  have hsplit:∀v∈cm (·.2) (eM g names order),∃a,(0≤a∧a<g.n)∧nm names a=v:=fun v hv=>h.of (fL.1 hv).1
  refine Nat.le_trans (count_le _ (cm (·.2) g) ?_ ?_) List.countP_le_length
  ·rw [List.nodup_iff_pairwise_ne]
   refine List.Pairwise.map _ (fun a b h=>h) ?_
   refine List.Pairwise.imp_of_mem ?_ jU
   intro a b ha hb hab e
   obtain ⟨a',Ds,rfl⟩:=hsplit a ha
   obtain ⟨b',hb',rfl⟩:=hsplit b hb
   rw [h.inv Ds,h.inv hb'] at e
   exact hab (by rw [e])
  ·intro v hv
   obtain ⟨y,hy,rfl⟩:=List.mem_map.1 hv
   obtain ⟨a,ha,rfl⟩:=hsplit y hy
   rw [h.inv ha]
   refine fL.2 ⟨ha,fun j hj e=> ?_⟩
   obtain ⟨i,hi,_,h3⟩:=h.back hj
   refine (fL.1 hy).2 i (by rw [h.len];exact hi) ?_
   rw [(lE h3).2,e]
 simp only [List.length_map] at h1 h2
 omega
theorem fX.kind:(cK (eM g names order)).1=(cK g).1:=by
 have hm:=h.may'
 have hc:(0<(iR (eM g names order)).length)↔0<(iR g).length:=by
  have key:∀g:Gr,aZ g=true→((0<(iR g).length)↔vb g=false):=by
   intro g hm
   cases ho:vb g with
   |true=>rw [uk hm ho];simp
   |false=>simp [(yp hm ho).1]
  rw [key _ hm,key _ h.may,h.F4]
 have h1:=h.loop
 have h2:=h.C7
 have h3:=h.bare
 simp only [cK,iS,hm,h.may]
 simp only [Bool.true_eq_false,if_false,h1,h2,hc,h3]
 split
 ·rfl
 split
 ·rfl
 split
 ·rfl
 split<;>rfl
end
end Go.Ab
end
section
namespace Go.Ab
open Go.Proofs
set_option maxRecDepth 10000
def tc:Nat→List Edge→Int→Option (Int × Int)
 |_, [],_=>none
 |m,e::N,v=>if e.1=v then some ((m:Int),e.2) else tc (m+1) N v
theorem rP {v:Int} :∀ {m:Nat} {N:List Edge},(∀e∈N,e.1≠v)→tc m N v=none
 |_, [],_=>rfl
 |m,e::N,h=>by rw [tc,if_neg (h e (List.mem_cons_self ..)),rP fun e' he=>h e' (List.mem_cons_of_mem _ he)]
theorem rQ:∀ {m:Nat} {N:List Edge},(N.map (·.1)).Nodup→∀ {j:Nat},j<N.length→tc m N (N.getD j (0,0)).1=some (((m+j:Nat):Int),(N.getD j (0,0)).2)
 |m,e::N,hd,0,_=>by rw [List.getD_cons_zero,tc,if_pos rfl];rfl
 |m,e::N,hd,j+1,hj=>by
  rw [List.map_cons,List.nodup_cons] at hd
  have hj':j<N.length:=by simpa using hj
  rw [List.getD_cons_succ,tc,if_neg (fun h=>hd.1 (List.mem_map.2 ⟨_,bq hj',h.symm⟩)),rQ hd.2 hj']
  congr 2
  omega
theorem fY {m:Nat} {N:List Edge} (hd:(N.map (·.1)).Nodup) {v h:Int} (he:(v,h)∈N):∃j:Nat,j<N.length∧tc m N v=some (((m+j:Nat):Int),h)∧N.getD j (0,0)=(v,h):=by
 obtain ⟨j,hj,e⟩:=List.mem_iff_getElem.1 he
 have e2:N.getD j (0,0)=(v,h):=by rw [List.getD_eq_getElem?_getD,List.getElem?_eq_getElem hj,Option.getD_some,e]
 have:=rQ (m:=m) hd hj
 rw [e2] at this
 exact ⟨j,hj,this,e2⟩
theorem gI {m:Nat} {N:List Edge} (hd:(N.map (·.1)).Nodup) (v:Int):(tc m N v=none∧∀e∈N,e.1≠v)∨∃h,(v,h)∈N:=by
 by_cases h:∃e∈N,e.1=v
 ·obtain ⟨e,he,rfl⟩:=h
  exact .inr ⟨e.2,he⟩
 ·have h':∀e∈N,e.1≠v:=fun e he h2=>h ⟨e,he,h2⟩
  exact .inl ⟨rP h',h'⟩
def fe (m:Nat) (N:List Edge) (t:It):It:=if 0≤t.1 then t else match tc m N t.2.1 with
 |some (i,h)=>(i,t.2.1,h)
 |none=>t
theorem eC {m:Nat} {N:List Edge} {t:It} (h:0≤t.1):fe m N t=t:=if_pos h
theorem cZ {m:Nat} {N:List Edge} {t:It} (h:t.1<0) {i x:Int} (hn:tc m N t.2.1=some (i,x)):fe m N t=(i,t.2.1,x):=by
 unfold fe
 rw [if_neg (by omega),hn]
theorem gJ {m:Nat} {N:List Edge} {t:It} (hn:tc m N t.2.1=none):fe m N t=t:=by
 unfold fe
 split
 ·rfl
 ·rw [hn]
structure kL (g:Gr) (p:Pl):Prop where
 run:cJ g p
 n:(aA g p).n≤64
 es:(aA g p).es.length≤128
variable {g:Gr} {p:Pl}
theorem nW {v x:Int} :∀ {k:Nat},(v,x)∈bQ g p k→∃i,i<k∧x=bz p i∧v∈loose (bL g p i)
 |k+1,h=>by
  rw [bQ,List.mem_append] at h
  rcases h with h|h
  ·obtain ⟨i,h1,h2⟩:=nW h
   exact ⟨i,by omega,h2⟩
  ·obtain ⟨w,hw,e⟩:=List.mem_map.1 h
   cases e
   exact ⟨k,by omega,rfl,hw⟩
theorem nZ {v:Int} :∀ {k i:Nat},i<k→v∈loose (bL g p i)→(v,bz p i)∈bQ g p k
 |k+1,i,hi,h=>by
  rw [bQ,List.mem_append]
  by_cases e:i=k
  ·subst e;exact .inr (List.mem_map.2 ⟨v,h,rfl⟩)
  ·exact .inl (nZ (by omega) h)
theorem n0 {v x:Int} (h:(v,x)∈aD g p):(∃i,i<g.n.toNat∧x=bz p i∧v∈loose (bL g p i))∨(1<(aN g p).length∧x=g.n∧v∈loose (aN g p)):=by
 rw [aD,List.mem_append] at h
 rcases h with h|h
 ·exact .inl (nW h)
 ·unfold newL at h
  split at h
  ·obtain ⟨w,hw,e⟩:=List.mem_map.1 h
   cases e
   exact .inr ⟨by assumption,rfl,hw⟩
  ·cases h
theorem eo {l:List It} {t:It} (h:t∈l) (h0:t.1<0):t.2.1∈loose l:=List.mem_map.2 ⟨t,List.mem_filter.2 ⟨h,decide_eq_true h0⟩,rfl⟩
theorem kM (h:kL g p):aZ (aA g p)=true:=by
 have hm:=aW h.run.1
 have hn:=bf hm
 have Jc:g.n≤(aA g p).n:=by unfold aA;split<;>simp only<;>omega
 have h1:=h.n
 have h2:=h.es
 simp only [aZ,Bool.and_eq_true,decide_eq_true_eq,Bool.not_eq_true',List.any_eq_false]
 refine ⟨⟨⟨by omega,h1⟩,by omega⟩,fun e he=> ?_⟩
 have he:e∈g.es++aD g p:=he
 simp only [nj,q8,Bool.or_eq_true,decide_eq_true_eq,not_or]
 rcases List.mem_append.1 he with he|he
 ·obtain ⟨i,hi,rfl⟩:=List.mem_iff_getElem.1 he
  have:=dM hm hi
  rw [List.getD_eq_getElem?_getD,List.getElem?_eq_getElem hi,Option.getD_some] at this
  omega
 ·have q1:=((dP h.run).2 e he).1
  rcases n0 (v:=e.1) (x:=e.2) he with ⟨i,hi,hx,_⟩|⟨hl,hx,_⟩
  ·have:=b9 h.run.2.1 hi
   omega
  ·have:(aA g p).n=g.n+1:=if_pos hl
   omega
theorem kN {v:Int} :cn (aA g p) v=cn g v++(aS (·.1) (aD g p) (aD g p).length v).map (· +(g.es.length:Int)):=jm
theorem n4 (i:Nat) (hi:i<g.es.length):(aA g p).es.getD i (0,0)=g.es.getD i (0,0):=by
 show (g.es++aD g p).getD i (0,0)=_
 rw [List.getD_eq_getElem?_getD,List.getElem?_append_left hi, ← List.getD_eq_getElem?_getD]
theorem kO (j:Nat):(aA g p).es.getD (g.es.length+j) (0,0)=(aD g p).getD j (0,0):=by
 show (g.es++aD g p).getD _ (0,0)=_
 rw [List.getD_eq_getElem?_getD,List.getElem?_append_right (by omega),Nat.add_sub_cancel_left, ← List.getD_eq_getElem?_getD]
theorem vD (hr:cJ g p) {v:Int} (h0:0≤v∧v<g.n) (hs:eL p v= []):(∀h,(v,h)∈aD g p→∃j:Nat,tc g.es.length (aD g p) v=some (((g.es.length+j:Nat):Int),h)∧cn (aA g p) v= [((g.es.length+j:Nat):Int)]∧(aA g p).es.getD (g.es.length+j) (0,0)=(v,h))∧
 ((∀e∈aD g p,e.1≠v)→cn (aA g p) v= []):=by
 obtain ⟨kR,ug⟩:=dP hr
 have hz:cn g v= []:=(iZ hr.2.1 h0.1 h0.2).2 hs
 constructor
 ·intro h hm
  obtain ⟨j,hj,h1,h2⟩:=fY (m:=g.es.length) kR hm
  refine ⟨j,h1, ?_,by rw [kO,h2]⟩
  have e1:=rH kR hj
  rw [h2] at e1
  rw [kN,hz,e1]
  simp;omega
 ·intro h
  rw [kN,hz,fu h];rfl
theorem td (hr:cJ g p) {v:Int} (h0:0≤v∧v<g.n) (hs:eL p v≠ []):cn (aA g p) v=cn g v:=by
 obtain ⟨kR,ug⟩:=dP hr
 rw [kN,fu fun e he h=>hs (by rw [← h];exact (ug e he).2)]
 simp
theorem fM:g.n≤(aA g p).n∧(aA g p).n≤g.n+1:=by
 unfold aA;split<;>simp only<;>omega
theorem qk (hr:cJ g p) {v:Int} (h0:0≤v∧v<g.n):eL (bg g p) v=if eL p v≠ [] then eL p v else cn (aA g p) v:=by
 have hn:=fM (g:=g) (p:=p)
 unfold eL
 rw [nS hr,s9,List.getD_eq_getElem?_getD,List.getElem?_map,List.getElem?_range (by omega)]
 simp only [Option.map_some,Option.getD_some]
 rw [show ((v.toNat:Nat):Int)=v by omega]
 by_cases h:p.outs.getD v.toNat []= []
 ·rw [h];simp
 ·rw [if_pos (List.length_pos_iff.2 h),if_pos h]
theorem ql (hr:cJ g p) (hl:1<(aN g p).length):eL (bg g p) g.n= []∧cn (aA g p) g.n= []:=by
 have hm:=aW hr.1
 have hn:=bf hm
 have hG:(aA g p).n=g.n+1:=if_pos hl
 have hz:cn (aA g p) g.n= []:=by
  rw [kN,fu fun e he h=>by have:=((dP hr).2 e he).1;omega]
  simp only [List.map_nil,List.append_nil]
  refine fu fun e he h=> ?_
  obtain ⟨i,hi,rfl⟩:=List.mem_iff_getElem.1 he
  have:=(dM hm hi).1
  rw [List.getD_eq_getElem?_getD,List.getElem?_eq_getElem hi,Option.getD_some] at this
  omega
 refine ⟨?_,hz⟩
 unfold eL
 rw [nS hr,s9,List.getD_eq_getElem?_getD,List.getElem?_map,List.getElem?_range (by omega)]
 simp only [Option.map_some,Option.getD_some]
 rw [show ((g.n.toNat:Nat):Int)=g.n by omega,hz]
 have:p.outs.getD g.n.toNat []= []:=by rw [List.getD_eq_getElem?_getD,List.getElem?_eq_none (by rw [hr.2.1.1];exact Nat.le_refl _)];rfl
 rw [this];rfl
theorem gK (hr:cJ g p):bE (aA g p) (bg g p):=by
 have h:=hr.2.1
 have hm:=aW hr.1
 have hn:=bf hm
 have ha:=fM (g:=g) (p:=p)
 refine ⟨by rw [nS hr];simp [s9], ?_,fun x hx=> ?_⟩
 ·unfold bg aA
  split
  ·have e:(g.n+1).toNat=g.n.toNat+1:=by omega
   have e2:ec (g.n.toNat+1)=ec g.n.toNat++ [g.n]:=by
    simp only [ec,List.range_succ,List.map_append,List.map_cons,List.map_nil]
    congr 2
    show ((g.n.toNat:Nat):Int)=g.n
    omega
   show (p.ord++ [g.n]).Perm (ec (g.n+1).toNat)
   rw [e,e2]
   exact h.2.1.append_right _
  ·exact h.2.1
 ·have hl:(bg g p).outs.getD x []=eL (bg g p) (x:Int):=by unfold eL;rw [Int.toNat_natCast]
  rw [hl]
  by_cases xO:(x:Int)<g.n
  ·rw [qk hr ⟨by omega,xO⟩]
   split
   ·rename_i h2
    rw [td hr ⟨by omega,xO⟩ h2]
    exact c9 h (by omega) xO
   ·exact List.Perm.refl _
  ·have uW:1<(aN g p).length:=Decidable.byContradiction fun hl=>by
    have:(aA g p).n=g.n:=if_neg hl
    omega
   have e:(x:Int)=g.n:=by omega
   rw [e,(ql hr uW).1,(ql hr uW).2]
theorem qm (hr:cJ g p) {k:Nat} (hk:k<g.n.toNat):bz (bg g p) k=bz p k:=by
 have:=bB hr.2.1
 unfold bz bg
 simp only
 split
 ·rw [List.getD_eq_getElem?_getD,List.getElem?_append_left (by omega), ← List.getD_eq_getElem?_getD]
 ·rfl
theorem zJ (hr:cJ g p) (hl:1<(aN g p).length):bz (bg g p) g.n.toNat=g.n:=by
 have:=bB hr.2.1
 unfold bz bg
 simp only
 rw [if_pos hl,List.getD_eq_getElem?_getD,List.getElem?_append_right (by omega),this]
 simp
theorem o7 (hr:cJ g p) {x:Int} (h0:0≤x∧x<g.n):aV (aA g p) x (eL (bg g p) x)=(aV g x (eL p x)).map (fe g.es.length (aD g p)):=by
 obtain ⟨kR,ug⟩:=dP hr
 rw [qk hr h0]
 by_cases hs:eL p x= []
 ·obtain ⟨s1,s2⟩:=vD hr h0 hs
  have ha:aV g x (eL p x)= [(-1,x, -1)]:=if_pos hs
  rw [if_neg (by simp [hs]),ha]
  rcases gI (m:=g.es.length) kR x with ⟨h1,h2⟩|⟨h,hm⟩
  ·rw [s2 h2,List.map_cons,List.map_nil,gJ h1]
   rfl
  ·obtain ⟨j,h1,h2,h3⟩:=s1 h hm
   rw [h2,List.map_cons,List.map_nil,cZ (t:=(-1,x, -1)) (by simp) h1]
   have wO:((aA g p).es.getD (((g.es.length+j:Nat):Int)).toNat (0,0))=(x,h):=by rw [Int.toNat_natCast];exact h3
   simp only [aV,fV,List.cons_ne_nil,if_false,List.map_cons,List.map_nil,wO]
 ·rw [if_pos hs]
  unfold aV
  rw [if_neg hs,if_neg hs,List.map_map]
  refine List.map_congr_left fun i hi=> ?_
  obtain ⟨k,rfl,hk,ht⟩:=kG ((c9 hr.2.1 h0.1 h0.2).mem_iff.1 hi)
  simp only [Function.comp]
  rw [eC (t:=fV g x (k:Int)) (by simp [fV])]
  simp only [fV,Int.toNat_natCast,n4 k hk]
theorem kP {x:Int} :bJ (aA g p) x=bJ g x+((aD g p).filter fun e=>decide (e.2=x)).length:=by
 unfold bJ
 have:aS (·.2) (aA g p).es (aA g p).es.length x=aS (·.2) g.es g.es.length x++(aS (·.2) (aD g p) (aD g p).length x).map (· +(g.es.length:Int)):=jm
 rw [this,List.length_append,List.length_map]
 congr 1
 generalize aD g p=N
 unfold aS
 rw [List.length_map, ← List.countP_eq_length_filter, ← List.countP_eq_length_filter]
 have e:N=(List.range N.length).map fun i=>N.getD i (0,0):=by
  refine List.ext_getElem (by simp) fun i h1 h2=> ?_
  simp [List.getD_eq_getElem?_getD,List.getElem?_eq_getElem h1]
 conv=>rhs;rw [e]
 rw [List.countP_map]
 rfl
end Go.Ab
end
