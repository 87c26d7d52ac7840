/- A part of the proof. -/
import Derived.Test.YtameldglfobjkaaGreatL2P18
set_option linter.unusedSimpArgs false
set_option linter.unusedVariables false
section
namespace Go.Ab
open Go.Proofs
attribute [local congr] ACall.congr gd.congr Nx.congr
set_option maxRecDepth 10000
set_option maxHeartbeats 2000000
theorem cz (l:List Int):Spec Tryz.prog 137 (Args [.d (sI l)]) [] (.fn 189 [] [.ptr 10000 0]) [(10000, .box [.d (sI l)])]:=by
 (refine Spec.sM (C:=T.cfg [] []) (rs:= [.t 2]) [(10000,1)] (T.ai _ _) Tryz.func137 rfl rfl Tryz.ntmps137 Tryz.results137 (by simp [AObj.isNest]) (by simp [AObj.isNest]) (by first|(simp [look];done)|(simp [asN];done)|(intro l hl;simp only [asN];repeat (rw [if_neg (fun e=>by subst e;simp [look] at hl)]))) (by first|(simp [look];done)|(simp [asN];done)|(intro l hl;simp only [asN];repeat (rw [if_neg (fun e=>by subst e;simp [look] at hl)]))) (by kernel_rfl) T.mixed fun X hX hP hC aQ cy=> ?_)
 repeat' (first|refine Rn.p ?_|(with_reducible apply And.intro)|((first|(refine hK _ ?_;clear hK K)|with_reducible intro K hK|refine Rs.p ?_|((with_reducible first|apply oP|apply oQ);exact rfl));try simp only [go_sem,simprocAttr])|((with_reducible refine oD ?_ ?_);kernel_rfl)|((with_reducible intro h);try simp only [go_sem,simprocAttr] at h)|omega|intro h)
theorem ff (xs ys:List Int) (hlen:xs.length≤9223372036854775807):Spec Tryz.prog 133 (Args [.d (sI xs), .d (sI ys)]) [] (eB (decide (xs=ys))) []:=by
 (refine Spec.hd (C:=T.cfg [] []) (rs:= [.t 4]) (T.ai _ _) Tryz.func133 rfl rfl Tryz.ntmps133 Tryz.results133 (by simp [AObj.isNest]) (by simp [AObj.isNest]) (by kernel_rfl) T.mixed fun X hX hP hC aQ cy=> ?_)
 repeat' (first|refine Rn.p ?_|(with_reducible apply And.intro)|((first|(refine hK _ ?_;clear hK K)|with_reducible intro K hK|refine Rs.p ?_|((with_reducible first|apply oP|apply oQ);exact rfl));try simp only [go_sem,simprocAttr])|((with_reducible refine oD ?_ ?_);kernel_rfl)|((with_reducible intro h);try simp only [go_sem,simprocAttr] at h)|omega|intro h)
 ·have:xs≠ys:=fun e=>h (by rw [e])
  simp [this]
 refine ak (fun k:Nat=>k≤xs.length∧xs.take k=ys.take k) (fun k=>⟨[(0, .d (sI xs)),(1, .d (sI ys)),(12,eN xs.length),(13,eN k)], []⟩) (fun k=>xs.length - k) 0 (by simp) ?_ ?_
 ·(refine ⟨dr ?_,fun _ _ h=>h⟩;simp [go_sem,simprocAttr])
 rintro k ⟨hk,hp⟩
 have Cs:xs.length=ys.length:=by omega
 repeat' (first|refine Rn.p ?_|(with_reducible apply And.intro)|((first|(refine hK _ ?_;clear hK K)|with_reducible intro K hK|refine Rs.p ?_|((with_reducible first|apply oP|apply oQ);exact rfl));try simp only [go_sem,simprocAttr])|((with_reducible refine oD ?_ ?_);kernel_rfl)|((with_reducible intro h);try simp only [go_sem,simprocAttr] at h)|omega|intro h)
 ·have:xs≠ys:=fun e=>h (by rw [e])
  simp [this]
 ·refine ⟨k+1,⟨by omega,CM 0 (by omega) (by omega) hp h⟩, ?_,by omega⟩
  (refine ⟨dr ?_,fun _ _ h=>h⟩;simp [go_sem,simprocAttr])
 ·have:k=xs.length:=by omega
  subst this
  rw [List.take_of_length_le (Nat.le_refl _),List.take_of_length_le (by omega)] at hp
  simp [hp]
def fQ (g:Gr) (x:Int) (i:Int):It:=(i,x,(g.es.getD i.toNat (0,0)).2)
def aJ (g:Gr) (x:Int) (outs:List Int):List It:=if outs= [] then [(-1,x, -1)] else outs.map (fQ g x)
theorem tH {α β:Type} {f:α→β} {l:List α} {d:α} {k:Nat} (h:k<l.length):(l.take (k+1)).map f=(l.take k).map f++ [f (l.getD k d)]:=by
 rw [List.take_add_one,List.map_append,List.getElem?_eq_getElem h,List.getD_eq_getElem?_getD,List.getElem?_eq_getElem h]
 rfl
theorem AI (g:Gr) (f:Fr) (x:Int) (outs:List Int) (hl:outs.length≤1000000) (ho:∀i∈outs,0≤i∧i<g.es.length):Spec Tryz.prog 141 (Args [.d (fM g f),eN x, .d (sI outs)]) [] (.ref 10000) [(10000, .tip 92 3 ((aJ g x outs).map rT))]:=by
 unfold fM
 by_cases h0:outs= []
 ·subst h0
  have hA:aJ g x []= [(-1,x, -1)]:=if_pos rfl
  rw [hA]
  (refine Spec.sM (C:=T.cfg [] []) (rs:= [.t 6]) [(10000,14)] (T.ai _ _) Tryz.func141 rfl rfl Tryz.ntmps141 Tryz.results141 (by simp [AObj.isNest]) (by simp [AObj.isNest]) (by first|(simp [look];done)|(simp [asN];done)|(intro l hl;simp only [asN];repeat (rw [if_neg (fun e=>by subst e;simp [look] at hl)]))) (by first|(simp [look];done)|(simp [asN];done)|(intro l hl;simp only [asN];repeat (rw [if_neg (fun e=>by subst e;simp [look] at hl)]))) (by kernel_rfl) T.mixed fun X hX hP hC aQ cy=> ?_)
  repeat' (first|refine Rn.p ?_|(with_reducible apply And.intro)|((first|(refine hK _ ?_;clear hK K)|with_reducible intro K hK|refine Rs.p ?_|((with_reducible first|apply oP|apply oQ);exact rfl));try simp only [go_sem,simprocAttr,aq])|((with_reducible refine oD ?_ ?_);kernel_rfl)|((with_reducible intro h);try simp only [go_sem,simprocAttr,aq] at h)|omega|intro h)
 ·have hA:aJ g x outs=outs.map (fQ g x):=if_neg h0
  rw [hA]
  have hb0:decide ((outs.length:Int)=0)=false:=decide_eq_false fun h=>h0 (List.eq_nil_of_length_eq_zero (by omega))
  (refine Spec.sM (C:=T.cfg [] []) (rs:= [.t 6]) [(10000,38)] (T.ai _ _) Tryz.func141 rfl rfl Tryz.ntmps141 Tryz.results141 (by simp [AObj.isNest]) (by simp [AObj.isNest]) (by first|(simp [look];done)|(simp [asN];done)|(intro l hl;simp only [asN];repeat (rw [if_neg (fun e=>by subst e;simp [look] at hl)]))) (by first|(simp [look];done)|(simp [asN];done)|(intro l hl;simp only [asN];repeat (rw [if_neg (fun e=>by subst e;simp [look] at hl)]))) (by kernel_rfl) T.mixed fun X hX hP hC aQ cy=> ?_)
  repeat' (first|refine Rn.p ?_|(with_reducible apply And.intro)|((first|(refine hK _ ?_;clear hK K)|with_reducible intro K hK|refine Rs.p ?_|((with_reducible first|apply oP|apply oQ);exact rfl));try simp only [go_sem,simprocAttr,aq,hb0])|((with_reducible refine oD ?_ ?_);kernel_rfl)|((with_reducible intro h);try simp only [go_sem,simprocAttr,aq,hb0] at h)|omega|intro h)
  (refine dn hX 6 38 (.tip 92 3 []) (by simp only [go_sem,simprocAttr,aq,hb0]) (by simp only [go_sem,simprocAttr,aq,hb0]) (by decide) ⟨92,3,by decide, .inr rfl⟩ ?_;simp only [go_sem,simprocAttr,aq,hb0])
  refine ak (fun k:Nat=>k≤outs.length) (fun k=>⟨[(0, .d (fM g f)),(1,eN x),(15, .d (sI outs)),(16,eN outs.length),(17,eN k),(6, .ref 38)], [(38, .tip 92 3 (((outs.take k).map (fQ g x)).map rT))]⟩) (fun k=>outs.length - k) 0 (by omega) ?_ ?_
  ·refine Le.of ?_ ?_<;>simp [go_sem,simprocAttr,aq,hb0,fM]
  unfold fM
  rintro k hk
  rcases Nat.lt_or_ge k outs.length with hlt|hge
  ·have hb:decide ((k:Int)<(outs.length:Int))=true:=decide_eq_true (by omega)
   have dS:=tH (f:=fQ g x) (d:=0) hlt
   have M8:=ho _ (aU (d:=0) hlt)
   have hlk:(outs.take k).length=k:=by simp;omega
   repeat' (first|refine Rn.p ?_|(with_reducible apply And.intro)|((first|(refine hK _ ?_;clear hK K)|with_reducible intro K hK|refine Rs.p ?_|((with_reducible first|apply oP|apply oQ);exact rfl));try simp only [go_sem,simprocAttr,aq,hb,hlk])|((with_reducible refine oD ?_ ?_);kernel_rfl)|((with_reducible intro h);try simp only [go_sem,simprocAttr,aq,hb,hlk] at h)|omega|intro h)
   refine ⟨k+1,by omega, ?_,by omega⟩
   refine Le.of ?_ ?_<;>simp [go_sem,simprocAttr,aq,hb,hlk,dS,fQ]
  ·have hb:decide ((k:Int)<(outs.length:Int))=false:=decide_eq_false (by omega)
   obtain rfl:k=outs.length:=by omega
   have ht:outs.take outs.length=outs:=List.take_of_length_le (by omega)
   repeat' (first|refine Rn.p ?_|(with_reducible apply And.intro)|((first|(refine hK _ ?_;clear hK K)|with_reducible intro K hK|refine Rs.p ?_|((with_reducible first|apply oP|apply oQ);exact rfl));try simp only [go_sem,simprocAttr,aq,hb,ht])|((with_reducible refine oD ?_ ?_);kernel_rfl)|((with_reducible intro h);try simp only [go_sem,simprocAttr,aq,hb,ht] at h)|omega|intro h)
def iU (g:Gr) (f:Fr):List (Nat × AObj):= [(10000, .box [.d (sT f.row), .d (vw g), .ref 10001]),(10001, .tip 3 1 (f.pl.map rI))]
theorem xd (row items:List It) (a b:Nat) (h0:0<items.length) (hr:row.length≤400000) (hi:items.length≤100000):Spec Tryz.prog 191 (Args [.d (.sl 1 [[.sl 3 (List.take a (row.map rT))], [.sl 3 (items.map rT)], [.sl 3 (List.drop b (row.map rT))]])]) [] (.d (sT (row.take a++items++row.drop b))) []:=by
 have hf: [row.take a,items,row.drop b].flatten=row.take a++items++row.drop b:=by simp
 have hlen: [row.take a,items,row.drop b].flatten.length=min a row.length+items.length+(row.length - b):=by simp;omega
 have:=xb [row.take a,items,row.drop b] (by simp) (by omega) (by omega)
 rw [hf] at this
 simpa only [vT,List.map_cons,List.map_nil,sT,List.map_take,List.map_drop] using this
theorem C9 (g:Gr) (row items:List It) (pl:List Int) (a b:Nat) (hab:a≤b) (hb:b≤row.length) (h0:0<items.length) (hr:row.length≤400000) (hi:items.length≤100000):
 Spec Tryz.prog 140 (Args [.ptr 10000 0,eN a,eN b, .ref 10003]) (iU g ⟨row,pl⟩++ [(10003, .tip 92 3 (items.map rT))]) (.d (sT ((row.take b).drop a))) (iU g ⟨row.take a++items++row.drop b,pl⟩):=by
 have hcl:((row.take b).drop a).length≤1000000:=by simp;omega
 have zS:List.take row.length (row.map rT)=row.map rT:=List.take_of_length_le (by simp)
 unfold iU
 simp only [List.cons_append,List.nil_append]
 (refine Spec.hd (C:=T.cfg [] []) (rs:= [.t 8]) (T.ai _ _) Tryz.func140 rfl rfl Tryz.ntmps140 Tryz.results140 (by simp [AObj.isNest]) (by simp [AObj.isNest]) (by kernel_rfl) T.mixed fun X hX hP hC aQ cy=> ?_)
 repeat' (first|refine Rn.p ?_|(with_reducible apply And.intro)|((first|(refine hK _ ?_;clear hK K)|with_reducible intro K hK|refine Rs.p ?_|((with_reducible first|apply oP|apply oQ);exact rfl)|(refine an hX hC hP [(10000,17)] (qt ((row.take b).drop a) hcl) rfl rfl rfl ?_ ?_ ?_ ?_ ?_ ?_ ?_ ?_ ?_ ?_ ?_ ?_ ?_ ?_;(focus (simp only [go_sem,simprocAttr,List.map_take,List.map_drop,zS];done));(iterate 12 (focus (simp [go_sem,simprocAttr,List.map_take,List.map_drop,zS];done)));try simp only [List.map_cons,List.map_nil])|(refine cD hX hC hP (xd row items a b h0 hr hi) rfl rfl rfl ?_ ?_ rfl ?_;iterate 2 (focus (simp only [go_sem,simprocAttr,List.map_take,List.map_drop,zS];done))));try simp only [go_sem,simprocAttr,List.map_take,List.map_drop,zS])|((with_reducible refine oD ?_ ?_);kernel_rfl)|((with_reducible intro h);try simp only [go_sem,simprocAttr,List.map_take,List.map_drop,zS] at h)|omega|intro h)
end Go.Ab
end
section
namespace Go.Ab
open Go.Proofs
attribute [local congr] ACall.congr gd.congr Nx.congr
set_option maxRecDepth 10000
set_option maxHeartbeats 4000000
def pg (g:Gr) (f:Fr):List (Nat × AObj):= [(10000, .box [.d (sT f.row), .d (vw g), .ref 10002]),(10002, .tip 3 1 (f.pl.map rI))]
def jq (g:Gr) (f:Fr) (x:Int) (outs:List Int):(List It × Int) × Fr:=
 if eL g f x=false then (([],3),f) else if gL outs≠bt (·.1) g x then (([],1),f) else
 (((f.row.take (bp f.row x).2.1.toNat).drop (max (bp f.row x).1 0).toNat,0),⟨f.row.take (max (bp f.row x).1 0).toNat++aJ g x outs++f.row.drop (bp f.row x).2.1.toNat,f.pl++ [x]⟩)
theorem ij {f:Edge→Int} {es:List Edge} {k:Nat} {x i:Int} (h:i∈aO f es k x):(0≤i∧i<k)∧f (es.getD i.toNat (0,0))=x:=by
 simp only [aO,List.mem_map,List.mem_filter,List.mem_range,decide_eq_true_eq] at h
 obtain ⟨j,⟨h1,h2⟩,rfl⟩:=h
 exact ⟨⟨Int.natCast_nonneg j,by simp;omega⟩,h2⟩
theorem AJ {f:Edge→Int} {g:Gr} {x i:Int} (h:i∈bt f g x):(0≤i∧i<g.es.length)∧f (g.es.getD i.toNat (0,0))=x:=by
 unfold bt at h
 split at h
 ·exact ij h
 ·cases h
theorem yF {l:List Int} {x:Int} :x∈gL l↔x∈l:=by simp [gL]
theorem vh (row:List It) (x:Int):∃a b:Nat,max (bp row x).1 0=(a:Int)∧(bp row x).2.1=(b:Int)∧a≤b∧b≤row.length:=by
 rcases dZ (row:=row) (x:=x) row.length with ⟨h,_⟩|⟨a,b,c,h,h1,h2,_⟩
 ·exact ⟨0,0,by unfold bp;rw [h];rfl,by unfold bp;rw [h];rfl,by omega,by omega⟩
 ·exact ⟨a,b,by unfold bp;rw [h];simp only;omega,by unfold bp;rw [h],by omega,by omega⟩
theorem nk {g:Gr} {x:Int} {outs:List Int} :0<(aJ g x outs).length∧(aJ g x outs).length≤outs.length+1:=by
 unfold aJ
 split
 ·simp
 ·rename_i h
  have:=List.length_pos_iff.2 h
  simp;omega
theorem AK (g:Gr) (hm:aL g=true) (f:Fr) (x:Int) (outs:List Int) (hr:f.row.length≤300000) (hp:f.pl.length≤100000) (ho:outs.length≤17592186043904):
 Spec Tryz.prog 89 (Args [.ptr 10000 0,eN x, .d (sI outs)]) (iU g f) (.tup [.d (sT (jq g f x outs).1.1),eN (jq g f x outs).1.2]) (pg g (jq g f x outs).2):=by
 have nL:f.row.length≤1000000:=by omega
 have hp1:f.pl.length≤1000000:=by omega
 have hs:(gL outs).length≤9223372036854775807:=by rw [eD];omega
 have hn:=aG hm
 cases hR:eL g f x with
 |false=>
  have hP:jq g f x outs=(([],3),f):=if_pos hR
  rw [hP]
  unfold iU pg
  (refine Spec.sM (C:=T.cfg [] []) (rs:= [.t 6, .t 7]) [(10002,10001)] (T.ai _ _) Tryz.func89 rfl rfl Tryz.ntmps89 Tryz.results89 (by simp [AObj.isNest]) (by simp [AObj.isNest]) (by first|(simp [look];done)|(simp [asN];done)|(intro l hl;simp only [asN];repeat (rw [if_neg (fun e=>by subst e;simp [look] at hl)]))) (by first|(simp [look];done)|(simp [asN];done)|(intro l hl;simp only [asN];repeat (rw [if_neg (fun e=>by subst e;simp [look] at hl)]))) (by kernel_rfl) T.mixed fun X hX hP hC aQ cy=> ?_)
  repeat' (first|refine Rn.p ?_|(with_reducible apply And.intro)|((first|(refine hK _ ?_;clear hK K)|with_reducible intro K hK|refine Rs.p ?_|((with_reducible first|apply oP|apply oQ);exact rfl)|(refine au hX hC hP (fZ g hm f x nL hp1) rfl rfl rfl ?_ ?_ ?_ ?_;iterate 3 (focus (simp only [go_sem,simprocAttr,hR,fM];done)))|(refine an hX hC hP [(10000,16)] (cz outs) rfl rfl rfl ?_ ?_ ?_ ?_ ?_ ?_ ?_ ?_ ?_ ?_ ?_ ?_ ?_ ?_;(focus (simp only [go_sem,simprocAttr,hR,fM];done));(iterate 12 (focus (simp [go_sem,simprocAttr,hR,fM];done)));try simp only [List.map_cons,List.map_nil])|(refine bu hX hC hP [(10000,16)] (b7 outs ho) rfl rfl rfl ?_ ?_ ?_ ?_ ?_ ?_ rfl rfl ?_ ?_;(focus (simp only [go_sem,simprocAttr,hR,fM];done));(iterate 6 (focus (simp [go_sem,simprocAttr,hR,fM];done)));try simp only [List.map_cons,List.map_nil])|refine aa hX hC hP (ig g hm x) rfl rfl rfl (by simp only [go_sem,simprocAttr,hR,fM]) rfl ?_|refine aa hX hC hP (ff (gL outs) (bt (·.1) g x) hs) rfl rfl rfl (by simp only [go_sem,simprocAttr,hR,fM]) rfl ?_|(refine au hX hC hP (dM [vw g,sI f.pl] f.row x nL) rfl rfl rfl ?_ ?_ ?_ ?_;iterate 3 (focus (simp only [go_sem,simprocAttr,hR,fM];done))));try simp only [go_sem,simprocAttr,hR,fM])|((with_reducible refine oD ?_ ?_);kernel_rfl)|((with_reducible intro h);try simp only [go_sem,simprocAttr,hR,fM] at h)|omega|intro h)
 |true=>
 have Nh:¬eL g f x=false:=by rw [hR];simp
 by_cases hE:¬gL outs=bt (·.1) g x
 ·have hb1:decide (gL outs=bt (·.1) g x)=false:=decide_eq_false hE
  have hP:jq g f x outs=(([],1),f):=by unfold jq;rw [if_neg Nh,if_pos hE]
  rw [hP]
  unfold iU pg
  (refine Spec.sM (C:=T.cfg [] []) (rs:= [.t 6, .t 7]) [(10002,10001)] (T.ai _ _) Tryz.func89 rfl rfl Tryz.ntmps89 Tryz.results89 (by simp [AObj.isNest]) (by simp [AObj.isNest]) (by first|(simp [look];done)|(simp [asN];done)|(intro l hl;simp only [asN];repeat (rw [if_neg (fun e=>by subst e;simp [look] at hl)]))) (by first|(simp [look];done)|(simp [asN];done)|(intro l hl;simp only [asN];repeat (rw [if_neg (fun e=>by subst e;simp [look] at hl)]))) (by kernel_rfl) T.mixed fun X hX hP hC aQ cy=> ?_)
  repeat' (first|refine Rn.p ?_|(with_reducible apply And.intro)|((first|(refine hK _ ?_;clear hK K)|with_reducible intro K hK|refine Rs.p ?_|((with_reducible first|apply oP|apply oQ);exact rfl)|(refine au hX hC hP (fZ g hm f x nL hp1) rfl rfl rfl ?_ ?_ ?_ ?_;iterate 3 (focus (simp only [go_sem,simprocAttr,hR,hb1,fM];done)))|(refine an hX hC hP [(10000,16)] (cz outs) rfl rfl rfl ?_ ?_ ?_ ?_ ?_ ?_ ?_ ?_ ?_ ?_ ?_ ?_ ?_ ?_;(focus (simp only [go_sem,simprocAttr,hR,hb1,fM];done));(iterate 12 (focus (simp [go_sem,simprocAttr,hR,hb1,fM];done)));try simp only [List.map_cons,List.map_nil])|(refine bu hX hC hP [(10000,16)] (b7 outs ho) rfl rfl rfl ?_ ?_ ?_ ?_ ?_ ?_ rfl rfl ?_ ?_;(focus (simp only [go_sem,simprocAttr,hR,hb1,fM];done));(iterate 6 (focus (simp [go_sem,simprocAttr,hR,hb1,fM];done)));try simp only [List.map_cons,List.map_nil])|refine aa hX hC hP (ig g hm x) rfl rfl rfl (by simp only [go_sem,simprocAttr,hR,hb1,fM]) rfl ?_|refine aa hX hC hP (ff (gL outs) (bt (·.1) g x) hs) rfl rfl rfl (by simp only [go_sem,simprocAttr,hR,hb1,fM]) rfl ?_|(refine au hX hC hP (dM [vw g,sI f.pl] f.row x nL) rfl rfl rfl ?_ ?_ ?_ ?_;iterate 3 (focus (simp only [go_sem,simprocAttr,hR,hb1,fM];done))));try simp only [go_sem,simprocAttr,hR,hb1,fM])|((with_reducible refine oD ?_ ?_);kernel_rfl)|((with_reducible intro h);try simp only [go_sem,simprocAttr,hR,hb1,fM] at h)|omega|intro h)
 rw [Decidable.not_not] at hE
 have hb1:decide (gL outs=bt (·.1) g x)=true:=decide_eq_true hE
 have hP:jq g f x outs=(((f.row.take (bp f.row x).2.1.toNat).drop (max (bp f.row x).1 0).toNat,0),⟨f.row.take (max (bp f.row x).1 0).toNat++aJ g x outs++f.row.drop (bp f.row x).2.1.toNat,f.pl++ [x]⟩):=by
  unfold jq;rw [if_neg Nh,if_neg (by rw [hE];simp)]
 rw [hP]
 obtain ⟨a,b,ha,hb,hab,nK⟩:=vh f.row x
 rw [ha,hb]
 simp only [Int.toNat_natCast]
 have qP:outs.length≤128:=by
  have h1:=congrArg List.length hE
  rw [eD] at h1
  have h2:=AH (f:=(·.1)) (g:=g) (x:=x)
  omega
 have JL:∀i∈outs,0≤i∧i<g.es.length:=fun i hi=>(AJ (f:=(·.1)) (g:=g) (x:=x) (by rw [← hE];exact yF.2 hi)).1
 obtain ⟨h0,h1⟩:=nk (g:=g) (x:=x) (outs:=outs)
 have yz:(aJ g x outs).length≤100000:=by omega
 have uF:f.row.length≤400000:=by omega
 have Py:outs.length≤1000000:=by omega
 unfold iU pg
 (refine Spec.sM (C:=T.cfg [] []) (rs:= [.t 6, .t 7]) [(10002,42)] (T.ai _ _) Tryz.func89 rfl rfl Tryz.ntmps89 Tryz.results89 (by simp [AObj.isNest]) (by simp [AObj.isNest]) (by first|(simp [look];done)|(simp [asN];done)|(intro l hl;simp only [asN];repeat (rw [if_neg (fun e=>by subst e;simp [look] at hl)]))) (by first|(simp [look];done)|(simp [asN];done)|(intro l hl;simp only [asN];repeat (rw [if_neg (fun e=>by subst e;simp [look] at hl)]))) (by kernel_rfl) T.mixed fun X hX hP hC aQ cy=> ?_)
 repeat' (first|refine Rn.p ?_|(with_reducible apply And.intro)|((first|(refine hK _ ?_;clear hK K)|with_reducible intro K hK|refine Rs.p ?_|((with_reducible first|apply oP|apply oQ);exact rfl)|(refine au hX hC hP (fZ g hm f x nL hp1) rfl rfl rfl ?_ ?_ ?_ ?_;iterate 3 (focus (simp only [go_sem,simprocAttr,hR,hb1,ha,hb,fM,List.length_map,List.map_append,List.map_cons,List.map_nil,rI,iU,List.cons_append,List.nil_append,List.map_take,List.map_drop];done)))|(refine an hX hC hP [(10000,16)] (cz outs) rfl rfl rfl ?_ ?_ ?_ ?_ ?_ ?_ ?_ ?_ ?_ ?_ ?_ ?_ ?_ ?_;(focus (simp only [go_sem,simprocAttr,hR,hb1,ha,hb,fM,List.length_map,List.map_append,List.map_cons,List.map_nil,rI,iU,List.cons_append,List.nil_append,List.map_take,List.map_drop];done));(iterate 12 (focus (simp [go_sem,simprocAttr,hR,hb1,ha,hb,fM,List.length_map,List.map_append,List.map_cons,List.map_nil,rI,iU,List.cons_append,List.nil_append,List.map_take,List.map_drop];done)));try simp only [List.map_cons,List.map_nil])|(refine bu hX hC hP [(10000,16)] (b7 outs ho) rfl rfl rfl ?_ ?_ ?_ ?_ ?_ ?_ rfl rfl ?_ ?_;(focus (simp only [go_sem,simprocAttr,hR,hb1,ha,hb,fM,List.length_map,List.map_append,List.map_cons,List.map_nil,rI,iU,List.cons_append,List.nil_append,List.map_take,List.map_drop];done));(iterate 6 (focus (simp [go_sem,simprocAttr,hR,hb1,ha,hb,fM,List.length_map,List.map_append,List.map_cons,List.map_nil,rI,iU,List.cons_append,List.nil_append,List.map_take,List.map_drop];done)));try simp only [List.map_cons,List.map_nil])|refine aa hX hC hP (ig g hm x) rfl rfl rfl (by simp only [go_sem,simprocAttr,hR,hb1,ha,hb,fM,List.length_map,List.map_append,List.map_cons,List.map_nil,rI,iU,List.cons_append,List.nil_append,List.map_take,List.map_drop]) rfl ?_|refine aa hX hC hP (ff (gL outs) (bt (·.1) g x) hs) rfl rfl rfl (by simp only [go_sem,simprocAttr,hR,hb1,ha,hb,fM,List.length_map,List.map_append,List.map_cons,List.map_nil,rI,iU,List.cons_append,List.nil_append,List.map_take,List.map_drop]) rfl ?_|(refine au hX hC hP (dM [vw g,sI f.pl] f.row x nL) rfl rfl rfl ?_ ?_ ?_ ?_;iterate 3 (focus (simp only [go_sem,simprocAttr,hR,hb1,ha,hb,fM,List.length_map,List.map_append,List.map_cons,List.map_nil,rI,iU,List.cons_append,List.nil_append,List.map_take,List.map_drop];done)))|(refine lz hX hC hP 54 (AI g ⟨f.row,f.pl++ [x]⟩ x outs Py JL) rfl rfl rfl ?_ ?_ (by first|exact ⟨_,_,_,rfl,tE⟩|exact ⟨_,_,_,rfl,tF⟩|exact ⟨_,_,_,rfl,tI⟩) rfl (by decide) ?_;(iterate 2 (focus (simp only [go_sem,simprocAttr,hR,hb1,ha,hb,fM,List.length_map,List.map_append,List.map_cons,List.map_nil,rI,iU,List.cons_append,List.nil_append,List.map_take,List.map_drop];done)));simp only [go_sem,simprocAttr,hR,hb1,ha,hb,fM,List.length_map,List.map_append,List.map_cons,List.map_nil,rI,iU,List.cons_append,List.nil_append,List.map_take,List.map_drop])|(refine an hX hC hP [(10001,42),(10003,54)] (C9 g f.row (aJ g x outs) (f.pl++ [x]) a b hab nK h0 uF yz) rfl rfl rfl ?_ ?_ ?_ ?_ ?_ ?_ ?_ ?_ ?_ ?_ ?_ ?_ ?_ ?_;(focus (simp only [go_sem,simprocAttr,hR,hb1,ha,hb,fM,List.length_map,List.map_append,List.map_cons,List.map_nil,rI,iU,List.cons_append,List.nil_append,List.map_take,List.map_drop];done));(iterate 12 (focus (simp [go_sem,simprocAttr,hR,hb1,ha,hb,fM,List.length_map,List.map_append,List.map_cons,List.map_nil,rI,iU,List.cons_append,List.nil_append,List.map_take,List.map_drop];done)));try simp only [List.map_cons,List.map_nil]));try simp only [go_sem,simprocAttr,hR,hb1,ha,hb,fM,List.length_map,List.map_append,List.map_cons,List.map_nil,rI,iU,List.cons_append,List.nil_append,List.map_take,List.map_drop])|((with_reducible refine oD ?_ ?_);kernel_rfl)|((with_reducible intro h);try simp only [go_sem,simprocAttr,hR,hb1,ha,hb,fM,List.length_map,List.map_append,List.map_cons,List.map_nil,rI,iU,List.cons_append,List.nil_append,List.map_take,List.map_drop] at h)|omega|intro h)
end Go.Ab
end
section
namespace Go.Ab
open Go.Proofs
attribute [local congr] ACall.congr gd.congr Nx.congr
set_option maxRecDepth 10000
set_option maxHeartbeats 4000000
def kJ (g:Gr) (f:Fr) (k:Nat):List Int:=((List.range k).filter fun x:Nat=>eL g f (x:Int)).map Int.ofNat
def eM (g:Gr) (f:Fr):List Int:=kJ g f g.n.toNat
theorem yG {g:Gr} {f:Fr} {k:Nat} :kJ g f (k+1)=kJ g f k++if eL g f (k:Int)=true then [(k:Int)] else []:=by
 simp only [kJ,List.range_succ,List.filter_append,List.map_append,List.filter_cons,List.filter_nil]
 split<;>simp_all
theorem tJ {g:Gr} {f:Fr} {k:Nat} :(kJ g f k).length≤k:=by
 simpa [kJ] using List.length_filter_le (fun x:Nat=>eL g f (x:Int)) (List.range k)
theorem yH (g:Gr) (hm:aL g=true) (f:Fr) (hr:f.row.length≤1000000) (hp:f.pl.length≤1000000):Spec Tryz.prog 155 (Args [.d (fM g f)]) [] (.ref 10000) [(10000, .tip 3 1 ((eM g f).map rI))]:=by
 have hn:=aG hm
 unfold fM
 (refine Spec.sM (C:=T.cfg [] []) (rs:= [.t 2]) [(10000,21)] (T.ai _ _) Tryz.func155 rfl rfl Tryz.ntmps155 Tryz.results155 (by simp [AObj.isNest]) (by simp [AObj.isNest]) (by first|(simp [look];done)|(simp [asN];done)|(intro l hl;simp only [asN];repeat (rw [if_neg (fun e=>by subst e;simp [look] at hl)]))) (by first|(simp [look];done)|(simp [asN];done)|(intro l hl;simp only [asN];repeat (rw [if_neg (fun e=>by subst e;simp [look] at hl)]))) (by kernel_rfl) T.mixed fun X hX hP hC aQ cy=> ?_)
 repeat' (first|refine Rn.p ?_|(with_reducible apply And.intro)|((first|(refine hK _ ?_;clear hK K)|with_reducible intro K hK|refine Rs.p ?_|((with_reducible first|apply oP|apply oQ);exact rfl)|refine aa hX hC hP (fZ g hm f (k:Int) hr hp) rfl rfl rfl (by simp only [go_sem,simprocAttr,aq]) rfl ?_);try simp only [go_sem,simprocAttr,aq])|((with_reducible refine oD ?_ ?_);kernel_rfl)|((with_reducible intro h);try simp only [go_sem,simprocAttr,aq] at h)|omega|intro h)
 (refine dn hX 2 21 (.tip 3 1 []) (by simp only [go_sem,simprocAttr,aq]) (by simp only [go_sem,simprocAttr,aq]) (by decide) ⟨3,1,by decide, .inr rfl⟩ ?_;simp only [go_sem,simprocAttr,aq])
 refine ak (fun k:Nat=>k≤g.n.toNat) (fun k=>⟨[(0, .d (fM g f)),(11,eN g.n),(12,eN k),(2, .ref 21)], [(21, .tip 3 1 ((kJ g f k).map rI))]⟩) (fun k=>g.n.toNat - k) 0 (by omega) ?_ ?_
 ·refine Le.of ?_ ?_<;>simp [go_sem,simprocAttr,aq,fM,kJ]
 rintro k hk
 rcases Nat.lt_or_ge k g.n.toNat with hlt|hge
 ·have hb:decide ((k:Int)<g.n)=true:=decide_eq_true (by omega)
  have dS:=yG (g:=g) (f:=f) (k:=k)
  have hlk:=tJ (g:=g) (f:=f) (k:=k)
  repeat' (first|refine Rn.p ?_|(with_reducible apply And.intro)|((first|(refine hK _ ?_;clear hK K)|with_reducible intro K hK|refine Rs.p ?_|((with_reducible first|apply oP|apply oQ);exact rfl)|refine aa hX hC hP (fZ g hm f (k:Int) hr hp) rfl rfl rfl (by simp only [go_sem,simprocAttr,hb]) rfl ?_);try simp only [go_sem,simprocAttr,hb])|((with_reducible refine oD ?_ ?_);kernel_rfl)|((with_reducible intro h);try simp only [go_sem,simprocAttr,hb] at h)|omega|intro h)
  ·rw [if_pos (by assumption)] at dS
   refine ⟨k+1,by omega, ?_,by omega⟩
   refine Le.of ?_ ?_<;>simp [go_sem,simprocAttr,hb,dS,rI]
  ·rw [if_neg (by simp [*]),List.append_nil] at dS
   refine ⟨k+1,by omega, ?_,by omega⟩
   refine Le.of ?_ ?_<;>simp [go_sem,simprocAttr,hb,dS,rI]
 ·have hb:decide ((k:Int)<g.n)=false:=decide_eq_false (by omega)
  obtain rfl:k=g.n.toNat:=by omega
  repeat' (first|refine Rn.p ?_|(with_reducible apply And.intro)|((first|(refine hK _ ?_;clear hK K)|with_reducible intro K hK|refine Rs.p ?_|((with_reducible first|apply oP|apply oQ);exact rfl)|refine aa hX hC hP (fZ g hm f (k:Int) hr hp) rfl rfl rfl (by simp only [go_sem,simprocAttr,hb,eM]) rfl ?_);try simp only [go_sem,simprocAttr,hb,eM])|((with_reducible refine oD ?_ ?_);kernel_rfl)|((with_reducible intro h);try simp only [go_sem,simprocAttr,hb,eM] at h)|omega|intro h)
theorem pQ (g:Gr) (hl:g.es.length≤1000) (h0:(cg g).1=0) (hm:aL g=true):Spec Tryz.prog 87 (Args [eG g]) [] (.tup [.ptr 10000 0,eN 0]) [(10000, .box [.nil 92, .d (vw g), .nil 3])]:=by
 (refine Spec.sM (C:=T.cfg [] []) (rs:= [.t 2, .t 3]) [(10000,11)] (T.ai _ _) Tryz.func87 rfl rfl Tryz.ntmps87 Tryz.results87 (by simp [AObj.isNest]) (by simp [AObj.isNest]) (by first|(simp [look];done)|(simp [asN];done)|(intro l hl;simp only [asN];repeat (rw [if_neg (fun e=>by subst e;simp [look] at hl)]))) (by first|(simp [look];done)|(simp [asN];done)|(intro l hl;simp only [asN];repeat (rw [if_neg (fun e=>by subst e;simp [look] at hl)]))) (by kernel_rfl) T.mixed fun X hX hP hC aQ cy=> ?_)
 repeat' (first|refine Rn.p ?_|(with_reducible apply And.intro)|((first|(refine hK _ ?_;clear hK K)|with_reducible intro K hK|refine Rs.p ?_|((with_reducible first|apply oP|apply oQ);exact rfl)|refine aa hX hC hP (kF g hl) rfl rfl rfl (by simp only [go_sem,simprocAttr,h0]) rfl ?_|refine aa hX hC hP (gP g hm) rfl rfl rfl (by simp only [go_sem,simprocAttr,h0]) rfl ?_);try simp only [go_sem,simprocAttr,h0])|((with_reducible refine oD ?_ ?_);kernel_rfl)|((with_reducible intro h);try simp only [go_sem,simprocAttr,h0] at h)|omega|intro h)
theorem Da (g:Gr) (hl:g.es.length≤1000) (h0:(cg g).1≠0):Spec Tryz.prog 87 (Args [eG g]) [] (.tup [.d (.sc (.pointer none)),eN 1]) []:=by
 have hb:decide ((cg g).1=0)=false:=decide_eq_false h0
 (refine Spec.hd (C:=T.cfg [] []) (rs:= [.t 2, .t 3]) (T.ai _ _) Tryz.func87 rfl rfl Tryz.ntmps87 Tryz.results87 (by simp [AObj.isNest]) (by simp [AObj.isNest]) (by kernel_rfl) T.mixed fun X hX hP hC aQ cy=> ?_)
 repeat' (first|refine Rn.p ?_|(with_reducible apply And.intro)|((first|(refine hK _ ?_;clear hK K)|with_reducible intro K hK|refine Rs.p ?_|((with_reducible first|apply oP|apply oQ);exact rfl)|refine aa hX hC hP (kF g hl) rfl rfl rfl (by simp only [go_sem,simprocAttr,hb]) rfl ?_);try simp only [go_sem,simprocAttr,hb])|((with_reducible refine oD ?_ ?_);kernel_rfl)|((with_reducible intro h);try simp only [go_sem,simprocAttr,hb] at h)|omega|intro h)
end Go.Ab
end
section
namespace Go.Ab
open Go.Proofs
attribute [local congr] ACall.congr gd.congr Nx.congr
set_option maxRecDepth 10000
set_option maxHeartbeats 4000000
def SP (g:Gr) (f:Fr):List AV:= [eN g.n, .d (sE g.es), .d (sT f.row), .d (sI f.pl)]
def gR (row:List It) (x:Int):Nat→Int
 |0=>0
 |k+1=>if (row.getD k (0,0,0)).2.2=x then gR row x k+1 else gR row x k
theorem ga {row:List It} {x:Int} {k:Nat} :gR row x (k+1)=if (row.getD k (0,0,0)).2.2=x then gR row x k+1 else gR row x k:=rfl
def FA (row:List It) (x:Int) (need:Nat) (j:Nat):Bool:=decide ((row.getD j (0,0,0)).2.2≠x)&&decide (0≤(row.getD j (0,0,0)).1)&&decide (0<gR row x j)&&decide (gR row x j<need)
theorem vi {row:List It} {x:Int} {need j:Nat} :FA row x need j=true↔((row.getD j (0,0,0)).2.2≠x∧0≤(row.getD j (0,0,0)).1)∧0<gR row x j∧gR row x j<need:=by
 simp only [FA,Bool.and_eq_true,decide_eq_true_eq,and_assoc]
def aY (g:Gr) (x:Int):Nat:=(aO (·.2) g.es g.es.length x).length
def az (g:Gr) (f:Fr) (x:Int):Bool:=
 if x<0∨g.n≤x∨x∈f.pl then false else if aY g x=0 then true else
 !(List.range f.row.length).any (FA f.row x (aY g x))&&decide (gR f.row x f.row.length=aY g x)
end Go.Ab
end
section
namespace Go.Ab
open Go.Proofs
attribute [local congr] ACall.congr gd.congr Nx.congr
set_option maxRecDepth 10000
set_option maxHeartbeats 4000000
end Go.Ab
end
section
namespace Go.Ab
open Go.Proofs
attribute [local congr] ACall.congr gd.congr Nx.congr
set_option maxRecDepth 10000
set_option maxHeartbeats 8000000
def cu (g:Gr) (x:Int):List Int:=aO (·.1) g.es g.es.length x
def aA (g:Gr) (f:Fr) (x:Int) (outs:List Int):(List It × Int) × Fr:=
 (((f.row.take (bp f.row x).2.1.toNat).drop (max (bp f.row x).1 0).toNat,0),⟨f.row.take (max (bp f.row x).1 0).toNat++aJ g x outs++f.row.drop (bp f.row x).2.1.toNat,f.pl++ [x]⟩)
def fE (g:Gr) (f:Fr) (x:Int) (outs:List Int):(List It × Int) × Fr:=
 if az g f x=false then (([],3),f) else
 if outs.length≠(cu g x).length∨∃i∈cu g x,i∉outs then (([],1),f) else aA g f x outs
theorem dG {f:Edge→Int} {es:List Edge} {k:Nat} {x:Int} :(aO f es k x).Nodup:=by
 unfold aO
 exact List.Pairwise.map _ (fun a b h e=>h (Int.ofNat.inj e)) (List.Pairwise.filter _ List.nodup_range)
theorem AL:∀ {ms os:List Int},ms.Nodup→(∀i∈ms,i∈os)→os.length=ms.length→∀i∈os,i∈ms
 | [],os,_,_,hl,i,hi=>by
   have:os= []:=List.eq_nil_of_length_eq_zero (by simpa using hl)
   rw [this] at hi;exact hi
 |m::ms,os,hn,hs,hl,i,hi=>by
  rw [List.nodup_cons] at hn
  have hm:=hs m (List.mem_cons_self ..)
  by_cases h:i=m
  ·rw [h];exact List.mem_cons_self ..
  ·refine List.mem_cons_of_mem _ (AL hn.2 (os:=os.erase m) (fun j hj=> ?_) ?_ i ?_)
   ·have:j≠m:=fun e=>hn.1 (e ▸ hj)
    exact (List.mem_erase_of_ne this).2 (hs j (List.mem_cons_of_mem _ hj))
   ·rw [List.length_erase_of_mem hm,hl];simp
   ·exact (List.mem_erase_of_ne h).2 hi
theorem FB {g:Gr} {x:Int} :(cu g x).length≤g.es.length:=jJ
end Go.Ab
end
section
namespace Go.Ab
open Go.Proofs
attribute [local congr] ACall.congr gd.congr Nx.congr
set_option maxRecDepth 10000
set_option maxHeartbeats 4000000
def vI (ls:List (List Int)):List (List D):=ls.map fun l=> [sI l]
theorem vI_length {ls:List (List Int)} :(vI ls).length=ls.length:=by simp [vI]
theorem fF {ls:List (List Int)} {k:Nat} (h:k<ls.length) (d:List D):(vI ls).getD k d= [sI (ls.getD k [])]:=by
 simp [vI,List.getD_eq_getElem?_getD,List.getElem?_eq_getElem h]
attribute [go_sem] vI_length
def BM (l:List Int) (i:Nat):List Int:=l.take i++l.drop (i+1)
def HC:Nat→List Int→List (List Int)
 |0,_=> [[]]
 |n+1,l=>(List.range l.length).flatMap fun i=>(HC n (BM l i)).map fun t=>l.getD i 0::t
def SQ (n:Nat) (l:List Int) (k:Nat):List (List Int):=(List.range k).flatMap fun i=>(HC n (BM l i)).map fun t=>l.getD i 0::t
def SR:Nat→Nat
 |0=>1
 |n+1=>(n+1)*SR n
end Go.Ab
end
section
namespace Go.Ab
open Go.Proofs
attribute [local congr] ACall.congr gd.congr Nx.congr
set_option maxRecDepth 10000
set_option maxHeartbeats 8000000
def Mh (g:Gr):Nat→Fr→Bool
 |0,f=>decide ((f.pl.length:Int)=g.n)
 |m+1,f=>decide ((f.pl.length:Int)=g.n)||(List.range g.n.toNat).any fun x=>az g f (x:Int)&&(HC (cu g (x:Int)).length (cu g (x:Int))).any fun o=>Mh g m (aA g f (x:Int) o).2
def SS (g:Gr) (m:Nat) (f:Fr) (x:Nat):Bool:=az g f (x:Int)&&(HC (cu g (x:Int)).length (cu g (x:Int))).any fun o=>Mh g m (aA g f (x:Int) o).2
theorem vj {g:Gr} {f:Fr} {x:Int} {o:List Int} :(aA g f x o).2.row.length≤f.row.length+o.length+1∧(aA g f x o).2.pl.length=f.pl.length+1:=by
 obtain ⟨a,b,ha,hb,hab,nK⟩:=vh f.row x
 have:=nk (g:=g) (x:=x) (outs:=o)
 have e:aA g f x o=(((f.row.take b).drop a,0),⟨f.row.take a++aJ g x o++f.row.drop b,f.pl++ [x]⟩):=by
  simp only [aA,ha,hb,Int.toNat_natCast]
 rw [e]
 refine ⟨?_,by simp⟩
 show (f.row.take a++aJ g x o++f.row.drop b).length≤_
 rw [List.length_append,List.length_append,List.length_take,List.length_drop]
 omega
end Go.Ab
end
section
namespace Go.Ab
open Go.Proofs
attribute [local congr] ACall.congr gd.congr Nx.congr
set_option maxRecDepth 10000
set_option maxHeartbeats 4000000
end Go.Ab
end
section
namespace Go.Ab
open Go.Proofs
attribute [local congr] ACall.congr gd.congr Nx.congr
set_option maxRecDepth 10000
set_option maxHeartbeats 4000000
def g9:Gr:=⟨3, [(0,1),(0,2),(1,2)]⟩
def UI:Fr:=⟨[], []⟩
def UJ:Fr:=⟨[(0,0,1),(1,0,2)], [0]⟩
def UK:Fr:=⟨[(2,1,2),(1,0,2)], [0,1]⟩
def UL:Fr:=⟨[(-1,2, -1)], [0,1,2]⟩
end Go.Ab
end
section
namespace Go.Ab
open Go.Proofs
set_option maxRecDepth 10000
def Db (g:Gr) (t:It):Prop:=(t.1= -1∧t.2.2= -1)∨(0≤t.1∧t.1<g.es.length∧t.2.1=(g.es.getD t.1.toNat (0,0)).1∧t.2.2=(g.es.getD t.1.toNat (0,0)).2)
structure fG (g:Gr) (f:Fr):Prop where
 it:∀t∈f.row,Db g t
 pl:f.pl.Nodup
 mM:∀x∈f.pl,0≤x∧x<g.n
theorem jM {row:List It} {x:Int} :∀k:Nat,(fe row x k).2.2=gR row x k
 |0=>rfl
 |k+1=>by
  rw [nj,ga]
  split
  ·show (fe row x k).2.2+1=_
   rw [jM k]
  ·exact jM k
theorem pR {row:List It} {x:Int} {j:Nat} :∀d:Nat,gR row x j≤gR row x (j+d)
 |0=>Int.le_refl _
 |d+1=>by
  have:=pR (row:=row) (x:=x) (j:=j) d
  rw [← Nat.add_assoc,ga]
  split<;>omega
theorem jN {row:List It} {x:Int} :∀ {k:Nat},(∀j,j<k→(row.getD j (0,0,0)).2.2≠x)→gR row x k=0
 |0,_=>rfl
 |k+1,h=>by
  rw [ga,if_neg (h k (by omega))]
  exact jN fun j hj=>h j (by omega)
theorem pS {row:List It} {x:Int} {b:Nat} :∀ {d:Nat},(∀j,b≤j→j<b+d→(row.getD j (0,0,0)).2.2≠x)→gR row x (b+d)=gR row x b
 |0,_=>rfl
 |d+1,h=>by
  rw [← Nat.add_assoc,ga,if_neg (h (b+d) (by omega) (by omega))]
  exact pS fun j h1 h2=>h j h1 (by omega)
theorem gh {f:Edge→Int} {g:Gr} {x:Int} (h0:0≤x) (h1:x<g.n):bt f g x=aO f g.es g.es.length x:=if_pos ⟨h0,h1⟩
theorem mg {g:Gr} {e:Int} (h0:0≤e) (h1:e<g.es.length):0<aY g (g.es.getD e.toNat (0,0)).2:=by
 refine List.length_pos_iff.2 fun h=> ?_
 have hm:e∈aO (·.2) g.es g.es.length (g.es.getD e.toNat (0,0)).2:=by
  simp only [aO,List.mem_map,List.mem_filter,List.mem_range,decide_eq_true_eq]
  exact ⟨e.toNat,⟨by omega,rfl⟩,by simp;omega⟩
 rw [h] at hm;cases hm
theorem vk {row:List It} {p:It→Bool} {a b:Nat} (hb:b≤row.length):((row.take b).drop a).any p=true↔∃j,a≤j∧j<b∧p (row.getD j (0,0,0))=true:=by
 rw [List.any_eq_true]
 constructor
 ·rintro ⟨t,ht,hp⟩
  obtain ⟨k,hk,rfl⟩:=List.mem_iff_getElem.1 ht
  simp only [List.length_drop,List.length_take] at hk
  refine ⟨a+k,by omega,by omega, ?_⟩
  rw [List.getD_eq_getElem?_getD,List.getElem?_eq_getElem (show a+k<row.length by omega)]
  simpa using hp
 ·rintro ⟨j,h1,h2,hp⟩
  rw [List.getD_eq_getElem?_getD,List.getElem?_eq_getElem (show j<row.length by omega)] at hp
  refine ⟨row[j], ?_,hp⟩
  refine List.mem_iff_getElem.2 ⟨j - a,by simp;omega, ?_⟩
  simp only [List.getElem_drop,List.getElem_take]
  congr 1;omega
theorem Db.head {g:Gr} (hm:aL g=true) {t:It} (h:Db g t):(0≤t.1↔t.2.2≠ -1)∧ -1≤t.2.2:=by
 rcases h with ⟨h1,h2⟩|⟨h1,h2,_,h4⟩
 ·omega
 ·obtain ⟨_,h5,_⟩:=dw hm (k:=t.1.toNat) (by omega)
  omega
theorem jO {g:Gr} (hm:aL g=true) {f:Fr} (hi:fG g f) (x:Int):eL g f x=az g f x:=by
 by_cases hx:x<0∨g.n≤x∨x∈f.pl
 ·rw [eL,az,if_pos hx,if_pos hx]
 rw [eL,az,if_neg hx,if_neg hx]
 have hx0:0≤x∧x<g.n:=by
  constructor
  ·exact Int.not_lt.1 fun h=>hx (.inl h)
  ·exact Int.not_le.1 fun h=>hx (.inr (.inl h))
 have hmem:∀j,j<f.row.length→Db g (f.row.getD j (0,0,0)):=fun j hj=>hi.it _ (aU hj)
 rw [gh hx0.1 hx0.2]
 have hN:(aO (fun e=>e.2) g.es g.es.length x).length=aY g x:=rfl
 rw [hN]
 have JM:(bp f.row x).2.2=gR f.row x f.row.length:=jM _
 by_cases h0:aY g x=0
 ·rw [if_pos h0,h0,decide_eq_true rfl,Bool.true_or,Bool.and_true,decide_eq_true_eq,JM,jN]
  ·rfl
  ·intro j hj he
   rcases hmem j hj with ⟨_,h2⟩|⟨h1,h2,_,h4⟩
   ·omega
   ·have:=mg h1 h2
    rw [← h4,he] at this
    omega
 ·rw [if_neg h0,decide_eq_false h0,Bool.false_or,JM]
  generalize aY g x=need at h0
  rcases dZ (row:=f.row) (x:=x) f.row.length with ⟨hs,hno⟩|⟨a,b,c,hs,hab,nK,hc0,hcl,ha,hb,hlo,hhi⟩
  ·rw [jN hno]
   have e1:decide ((0:Int)=(need:Int))=false:=decide_eq_false (by omega)
   rw [e1,Bool.false_and,Bool.and_false]
  ·have hs':bp f.row x=((a:Int),(b:Int),(c:Int)):=hs
   have IE:gR f.row x f.row.length=c:=by rw [← JM,hs']
   rw [hs',IE]
   simp only [Int.toNat_natCast]
   rw [Bool.and_comm]
   by_cases M4:¬(c:Int)=need
   ·rw [decide_eq_false M4,Bool.and_false,Bool.and_false]
   rw [Decidable.not_not] at M4
   rw [decide_eq_true M4,Bool.and_true,Bool.and_true,qu]
   congr 1
   rw [Bool.eq_iff_iff,vk nK,List.any_eq_true]
   have ma:gR f.row x a=0:=jN hlo
   have UM:gR f.row x (a+1)=1:=by rw [ga,if_pos ha,ma];rfl
   have mb:gR f.row x b=need:=by
    have h:=pS (row:=f.row) (x:=x) (b:=b) (d:=f.row.length - b) fun j h1 h2=>hhi j h1 (by omega)
    rw [show b+(f.row.length - b)=f.row.length by omega,IE] at h
    omega
   have UN:gR f.row x (b - 1)+1=need:=by
    have h:=ga (row:=f.row) (x:=x) (k:=b - 1)
    rw [if_pos hb,show b - 1+1=b by omega,mb] at h
    omega
   constructor
   ·rintro ⟨j,h1,h2,hp⟩
    simp only [kI,Bool.and_eq_true,decide_eq_true_eq] at hp
    have hja:j≠a:=fun e=>hp.1 (by rw [e];exact ha)
    have hjb:j≠b - 1:=fun e=>hp.1 (by rw [e];exact hb)
    have g1:=pR (row:=f.row) (x:=x) (j:=a+1) (j - (a+1))
    rw [show a+1+(j - (a+1))=j by omega] at g1
    have g2:=pR (row:=f.row) (x:=x) (j:=j) (b - 1 - j)
    rw [show j+(b - 1 - j)=b - 1 by omega] at g2
    exact ⟨j,List.mem_range.2 (by omega),vi.2 ⟨⟨hp.1,((hmem j (by omega)).head hm).1.2 hp.2⟩,by omega,by omega⟩⟩
   ·rintro ⟨j,hj,hl⟩
    have hj:=List.mem_range.1 hj
    obtain ⟨⟨h1,h2⟩,h3,h4⟩:=vi.1 hl
    refine ⟨j, ?_, ?_, ?_⟩
    ·refine Nat.not_lt.1 fun h=> ?_
     have:=jN (row:=f.row) (x:=x) (k:=j) fun i hi=>hlo i (by omega)
     omega
    ·refine Nat.not_le.1 fun h=> ?_
     have:=pS (row:=f.row) (x:=x) (b:=b) (d:=j - b) fun i h1 h2=>hhi i h1 (by omega)
     rw [show b+(j - b)=j by omega] at this
     omega
    ·simp only [kI,Bool.and_eq_true,decide_eq_true_eq]
     exact ⟨h1,((hmem j hj).head hm).1.1 h2⟩
theorem rq:∀ {ms os:List Int},ms.Nodup→(∀i∈ms,i∈os)→os.length=ms.length→os.Perm ms
 | [],os,_,_,hl=>by
   have h:os= []:=List.eq_nil_of_length_eq_zero (by simpa using hl)
   rw [h]
 |m::ms,os,hn,hs,hl=>by
  rw [List.nodup_cons] at hn
  have hm:=hs m (List.mem_cons_self ..)
  refine (List.perm_cons_erase hm).trans (List.Perm.cons m (rq hn.2 (fun j hj=> ?_) ?_))
  ·have:j≠m:=fun e=>hn.1 (e ▸ hj)
   exact (List.mem_erase_of_ne this).2 (hs j (List.mem_cons_of_mem _ hj))
  ·rw [List.length_erase_of_mem hm,hl];simp
theorem qv {g:Gr} {x:Int} :(cu g x).Pairwise (· ≤ ·):=by
 unfold cu aO
 refine List.Pairwise.map _ (fun a b (h:a<b)=> ?_) (List.Pairwise.filter _ List.pairwise_lt_range)
 show (a:Int)≤b
 omega
theorem tK {l m:List Int} (h:l.Perm m) (hm:m.Pairwise (· ≤ ·)):gL l=m:=by
 have h1:(gL l).Pairwise (· ≤ ·):=by
  have:=List.pairwise_mergeSort (le:=fun a b:Int=>decide (a≤b)) (by simp;omega) (by simp;omega) l
  simpa [gL] using this
 have h2:(gL l).Perm m:=(by unfold gL;exact (List.mergeSort_perm l _).trans h)
 exact h2.eq_of_pairwise (fun a b _ _ h1 h2=>Int.le_antisymm h1 h2) h1 hm
theorem aD {g:Gr} {f:Fr} {x:Int} (h:az g f x=true):0≤x∧x<g.n∧x∉f.pl:=by
 unfold az at h
 by_cases hx:x<0∨g.n≤x∨x∈f.pl
 ·rw [if_pos hx] at h;cases h
 ·exact ⟨Int.not_lt.1 fun h=>hx (.inl h),Int.not_le.1 fun h=>hx (.inr (.inl h)),fun h=>hx (.inr (.inr h))⟩
theorem FC {g:Gr} (hm:aL g=true) {f:Fr} (hi:fG g f) (x:Int) (outs:List Int):jq g f x outs=fE g f x outs:=by
 rw [jq,fE,jO hm hi]
 cases hR:az g f x with
 |false=>rw [if_pos rfl,if_pos rfl]
 |true=>
  obtain ⟨h0,h1,h2⟩:=aD hR
  have ht:¬(true=false):=by simp
  rw [if_neg ht,if_neg ht,gh h0 h1]
  show (if gL outs≠cu g x then _ else aA g f x outs)=_
  by_cases hs:gL outs=cu g x
  ·rw [if_neg (fun h=>h hs),if_neg]
   rintro (h|⟨i,h3,h4⟩)
   ·exact h (by rw [← hs,eD])
   ·exact h4 (yF.1 (hs ▸ h3))
  ·rw [if_pos hs,if_pos]
   refine Decidable.byContradiction fun h=>hs ?_
   have hl:outs.length=(cu g x).length:=Decidable.byContradiction fun e=>h (.inl e)
   exact tK (rq dG (fun i hi=>Decidable.byContradiction fun e=>h (.inr ⟨i,hi,e⟩)) hl) qv
theorem FD {g:Gr} {x:Int} {outs:List Int} (ho:∀i∈outs,i∈cu g x):∀t∈aJ g x outs,Db g t:=by
 intro t ht
 unfold aJ at ht
 split at ht
 ·rw [List.mem_singleton] at ht
  rw [ht];exact .inl ⟨rfl,rfl⟩
 ·obtain ⟨i,hi,rfl⟩:=List.mem_map.1 ht
  obtain ⟨⟨h1,h2⟩,h3⟩:=ij (ho i hi)
  exact .inr ⟨h1,h2,h3.symm,rfl⟩
theorem FE {g:Gr} {f:Fr} (hi:fG g f) {x:Int} (hR:az g f x=true) {outs:List Int} (ho:∀i∈outs,i∈cu g x):fG g (aA g f x outs).2:=by
 obtain ⟨h0,h1,h2⟩:=aD hR
 refine ⟨fun t ht=> ?_, ?_,fun y hy=> ?_⟩
 ·simp only [aA,List.mem_append] at ht
  rcases ht with (ht|ht)|ht
  ·exact hi.it t (List.mem_of_mem_take ht)
  ·exact FD ho t ht
  ·exact hi.it t (List.mem_of_mem_drop ht)
 ·show (f.pl++ [x]).Nodup
  rw [List.nodup_append]
  refine ⟨hi.pl,by simp,fun a ha b hb e=>h2 ?_⟩
  rw [List.mem_singleton] at hb
  rw [← hb, ← e];exact ha
 ·have hy:y∈f.pl++ [x]:=hy
  rcases List.mem_append.1 hy with h|h
  ·exact hi.mM y h
  ·rw [List.mem_singleton] at h
   rw [h];exact ⟨h0,h1⟩
end Go.Ab
end
section
namespace Go.Ab
open Go.Proofs
set_option maxRecDepth 10000
def iW (x:Int) (t:It):Bool:=decide (t.2.2=x)
structure Mid (x:Int) (X:List It):Prop where
 fst:∃p X',X=p::X'∧p.2.2=x
 JC:∃X' q,X=X'++ [q]∧q.2.2=x
 al:∀t∈X,t.2.2=x∨t.2.2= -1
def fq (x:Int) (l:List It):Prop:=∀t∈l,t.2.2≠x
theorem fq.app {x:Int} {l m:List It} (h:fq x l) (h':fq x m):fq x (l++m):=fun t ht=>(List.mem_append.1 ht).elim (h t) (h' t)
theorem fq.left {x:Int} {l m:List It} (h:fq x (l++m)):fq x l:=fun t ht=>h t (List.mem_append.2 (.inl ht))
theorem fq.right {x:Int} {l m:List It} (h:fq x (l++m)):fq x m:=fun t ht=>h t (List.mem_append.2 (.inr ht))
theorem Mid.QT {x y:Int} {X:List It} (h:Mid x X) (hxy:x≠y) (hy:0≤y):fq y X:=fun t ht e=>by
 rcases h.al t ht with h1|h1<;>omega
theorem kK {row:List It} {x:Int} :∀ {k:Nat},k≤row.length→gR row x k=((row.take k).countP (iW x):Nat)
 |0,_=>by simp [gR]
 |k+1,h=>by
  rw [ga,kK (k:=k) (by omega),List.take_add_one,List.getElem?_eq_getElem (show k<row.length by omega),List.countP_append]
  simp only [Option.toList,List.countP_cons,List.countP_nil,iW,decide_eq_true_eq,List.getD_eq_getElem?_getD,List.getElem?_eq_getElem (show k<row.length by omega),Option.getD_some]
  split<;>simp
theorem Dc {A X C:List It} {p:It} {X':List It} (h:X=p::X'):(A++X++C).getD A.length (0,0,0)=p:=by
 subst h;simp [List.getD_eq_getElem?_getD]
theorem Dd {A X C:List It} {q:It} {X':List It} (h:X=X'++ [q]):(A++X++C).getD (A.length+X.length - 1) (0,0,0)=q:=by
 subst h
 have e:A.length+(X'++ [q]).length - 1=(A++X').length:=by simp
 rw [e,show A++(X'++ [q])++C=(A++X')++([q]++C) by simp]
 simp [List.getD_eq_getElem?_getD]
theorem De {A L:List It} {j:Nat} (h:j<A.length):(A++L).getD j (0,0,0)∈A:=by
 rw [List.getD_eq_getElem?_getD,List.getElem?_append_left h,List.getElem?_eq_getElem h]
 exact List.getElem_mem h
theorem Df {A L:List It} {j:Nat} (h:A.length≤j) (h':j<(A++L).length):(A++L).getD j (0,0,0)∈L:=by
 rw [List.length_append] at h'
 rw [List.getD_eq_getElem?_getD,List.getElem?_append_right h,List.getElem?_eq_getElem (by omega)]
 exact List.getElem_mem _
theorem BN {A X C:List It} {x:Int} (hA:fq x A) (hC:fq x C) (hX:Mid x X):
 (bp (A++X++C) x).1=(A.length:Int)∧(bp (A++X++C) x).2.1=((A.length+X.length:Nat):Int)∧(bp (A++X++C) x).2.2=(X.countP (iW x):Nat):=by
 have uL:(bp (A++X++C) x).2.2=(X.countP (iW x):Nat):=by
  unfold bp
  rw [jM,kK (Nat.le_refl _),List.take_length,List.countP_append,List.countP_append]
  have h1:A.countP (iW x)=0:=List.countP_eq_zero.2 fun t ht=>by simp [iW,hA t ht]
  have h2:C.countP (iW x)=0:=List.countP_eq_zero.2 fun t ht=>by simp [iW,hC t ht]
  rw [h1,h2];simp
 obtain ⟨p,X',e1,hp⟩:=hX.fst
 obtain ⟨UO,q,e2,hq⟩:=hX.JC
 have g1:=Dc (A:=A) (C:=C) e1
 have g2:=Dd (A:=A) (C:=C) e2
 have Pz:0<X.length:=by rw [e1];simp
 have hlen:(A++X++C).length=A.length+X.length+C.length:=by simp;omega
 rcases dZ (row:=A++X++C) (x:=x) (A++X++C).length with ⟨_,hno⟩|⟨a,b,c,hs,hab,nK,hc0,hcl,ha,hb,hlo,hhi⟩
 ·exact absurd (by rw [g1];exact hp) (hno A.length (by omega))
 ·have hs':bp (A++X++C) x=((a:Int),(b:Int),(c:Int)):=hs
  refine ⟨?_, ?_,uL⟩
  ·rw [hs']
   have h1:¬A.length<a:=fun h=>hlo _ h (by rw [g1];exact hp)
   have h2:¬a<A.length:=fun h=>hA _ (by have:=De (L:=X++C) h;rw [← List.append_assoc] at this;exact this) ha
   simp only;omega
  ·rw [hs']
   have h1:¬b<A.length+X.length:=fun h=>hhi (A.length+X.length - 1) (by omega) (by omega) (by rw [g2];exact hq)
   have h2:¬A.length+X.length<b:=fun h=>hC _ (Df (A:=A++X) (j:=b - 1) (by simp;omega) (by omega)) hb
   simp only;omega
theorem kL {g:Gr} (hm:aL g=true) {f:Fr} (hi:fG g f) {A X C:List It} {x:Int} (h0:0≤x) (h1:x<g.n) (hp:x∉f.pl) (hr:f.row=A++X++C) (hA:fq x A) (hC:fq x C) (hX:Mid x X)
 (hc:X.countP (iW x)=aY g x):az g f x=true:=by
 rw [← jO hm hi,eL,if_neg (by rintro (h|h|h);omega;omega;exact hp h)]
 obtain ⟨e1,e2,e3⟩:=BN hA hC hX
 rw [hr,e1,e2,e3,gh h0 h1,Bool.and_eq_true,decide_eq_true_eq]
 refine ⟨by rw [hc];rfl, ?_⟩
 rw [Bool.or_eq_true];right
 simp only [qu,Int.toNat_natCast]
 rw [List.take_append_of_le_length (by simp),List.take_of_length_le (by simp),List.drop_left,Bool.not_eq_true',List.any_eq_false]
 intro t ht
 simp only [kI,Bool.and_eq_true,decide_eq_true_eq]
 rcases hX.al t ht with h|h<;>simp [h]
theorem bU {g:Gr} (hm:aL g=true) {f:Fr} (hi:fG g f) {x:Int} (hR:az g f x=true) (hn:aY g x≠0):
 ∃A X C,f.row=A++X++C∧fq x A∧fq x C∧Mid x X∧X.countP (iW x)=aY g x:=by
 obtain ⟨h0,h1,h2⟩:=aD hR
 rw [← jO hm hi,eL,if_neg (by rintro (h|h|h);omega;omega;exact h2 h),gh h0 h1,Bool.and_eq_true,decide_eq_true_eq] at hR
 have hN:(aO (fun e=>e.2) g.es g.es.length x).length=aY g x:=rfl
 rw [hN,decide_eq_false hn,Bool.false_or] at hR
 obtain ⟨hc,hb⟩:=hR
 have uL:(f.row.countP (iW x):Int)=aY g x:=by
  rw [← hc];unfold bp
  rw [jM,kK (Nat.le_refl _),List.take_length]
 rcases dZ (row:=f.row) (x:=x) f.row.length with ⟨hs,hno⟩|⟨a,b,c,hs,hab,nK,hc0,hcl,ha,hb',hlo,hhi⟩
 ·have:bp f.row x=(-1,0,0):=hs
  rw [this] at hc
  exfalso;simp only at hc;omega
 ·have hs':bp f.row x=((a:Int),(b:Int),(c:Int)):=hs
  rw [hs'] at hb
  simp only [Int.toNat_natCast] at hb
  have hA:fq x (f.row.take a):=fun t ht=>by
   obtain ⟨j,hj,rfl⟩:=List.mem_iff_getElem.1 ht
   simp only [List.length_take] at hj
   have:=hlo j (by omega)
   rw [List.getD_eq_getElem?_getD,List.getElem?_eq_getElem (show j<f.row.length by omega)] at this
   simpa using this
  have hC:fq x (f.row.drop b):=fun t ht=>by
   obtain ⟨j,hj,rfl⟩:=List.mem_iff_getElem.1 ht
   simp only [List.length_drop] at hj
   have:=hhi (b+j) (by omega) (by omega)
   rw [List.getD_eq_getElem?_getD,List.getElem?_eq_getElem (show b+j<f.row.length by omega)] at this
   simpa using this
  have hrow:f.row=f.row.take a++(f.row.take b).drop a++f.row.drop b:=by
   have e1:f.row.take a=(f.row.take b).take a:=by rw [List.take_take,Nat.min_eq_left (by omega)]
   rw [e1,List.take_append_drop,List.take_append_drop]
  refine ⟨f.row.take a,(f.row.take b).drop a,f.row.drop b,hrow,hA,hC,⟨?_, ?_, ?_⟩, ?_⟩
  ·refine ⟨f.row.getD a (0,0,0),(f.row.take b).drop (a+1), ?_,ha⟩
   rw [List.drop_eq_getElem_cons (by simp;omega)]
   congr 1
   rw [List.getD_eq_getElem?_getD,List.getElem?_eq_getElem (show a<f.row.length by omega)]
   simp
  ·refine ⟨(f.row.take (b - 1)).drop a,f.row.getD (b - 1) (0,0,0), ?_,hb'⟩
   have e:f.row.take b=f.row.take (b - 1)++ [f.row.getD (b - 1) (0,0,0)]:=by
    conv=>lhs;rw [show b=b - 1+1 by omega]
    rw [List.take_add_one,List.getD_eq_getElem?_getD,List.getElem?_eq_getElem (show b - 1<f.row.length by omega)]
    rfl
   rw [e,List.drop_append_of_le_length (by simp;omega)]
  ·intro t ht
   rw [qu,Bool.not_eq_true',List.any_eq_false] at hb
   have:=hb t ht
   simp only [kI,Bool.and_eq_true,decide_eq_true_eq,not_and] at this
   by_cases h:t.2.2=x
   ·exact .inl h
   ·exact .inr (Decidable.byContradiction fun h'=>this h h')
  ·have h1:(f.row.take a).countP (iW x)=0:=List.countP_eq_zero.2 fun t ht=>by simp [iW,hA t ht]
   have h2:(f.row.drop b).countP (iW x)=0:=List.countP_eq_zero.2 fun t ht=>by simp [iW,hC t ht]
   rw [hrow,List.countP_append,List.countP_append,h1,h2] at uL
   omega
theorem fH {g:Gr} {f:Fr} {A X C:List It} {x:Int} (o:List Int) (hr:f.row=A++X++C) (hA:fq x A) (hC:fq x C) (hX:Mid x X):
 aA g f x o=((X,0),⟨A++aJ g x o++C,f.pl++ [x]⟩):=by
 obtain ⟨e1,e2,e3⟩:=BN hA hC hX
 have e4:max (A.length:Int) 0=(A.length:Int):=by omega
 unfold aA
 rw [hr,e1,e2,e4,Int.toNat_natCast,Int.toNat_natCast]
 rw [List.take_append_of_le_length (show A.length+X.length≤(A++X).length by simp),List.take_of_length_le (show (A++X).length≤A.length+X.length by simp),List.drop_left]
 rw [show (A++X++C).take A.length=A by rw [List.append_assoc,List.take_left]]
 rw [show (A++X++C).drop (A.length+X.length)=C by rw [← List.length_append,List.drop_left]]
theorem gi {g:Gr} {f:Fr} {x:Int} (o:List Int) (hr:fq x f.row):aA g f x o=(([],0),⟨aJ g x o++f.row,f.pl++ [x]⟩):=by
 have hs:bp f.row x=(-1,0,0):=by
  rcases dZ (row:=f.row) (x:=x) f.row.length with ⟨hs,_⟩|⟨a,b,c,hs,hab,nK,hc0,hcl,ha,hb',hlo,hhi⟩
  ·exact hs
  ·exact absurd ha (hr _ (aU (by omega)))
 have e4:max (-1:Int) 0=0:=by omega
 unfold aA
 rw [hs]
 simp [e4]
end Go.Ab
end
section
namespace Go.Ab
open Go.Proofs
set_option maxRecDepth 10000
structure xe (g:Gr) (f:Fr):Prop extends fG g f where
 tail:∀t∈f.row,0≤t.1→t.2.1∈f.pl
 head:∀t∈f.row,0≤t.1→t.2.2∉f.pl
 once:f.row.Pairwise fun s t=>0≤s.1→s.1≠t.1
 low:∀i,i<g.es.length→hd g i∈f.pl→tl g i∈f.pl
 src:(f.pl= []∧f.row= [])∨∃s∈f.pl,aY g s=0
theorem oJ (g:Gr):xe g ⟨[], []⟩:=
 {it:=by simp,pl:=by simp,mM:=by simp,tail:=by simp,head:=by simp,once:=by simp,low:=by simp,src:= .inl ⟨rfl,rfl⟩}
theorem tL {g:Gr} (hm:aL g=true) {f:Fr} (hi:xe g f) {x:Int} (hR:az g f x=true) {i:Nat} (hl:i<g.es.length) (hx:hd g i=x):∃t∈f.row,t.1=i∧t.2.1=tl g i∧t.2.2=x:=by
 have hn:aY g x≠0:=by
  have:=mg (g:=g) (e:=(i:Int)) (by omega) (by omega)
  rw [Int.toNat_natCast,show (g.es.getD i (0,0)).2=x from hx] at this
  omega
 obtain ⟨A,X,C,hr,hA,hC,hX,hc⟩:=bU hm hi.tofG hR hn
 have hN:(aO (fun e=>e.2) g.es g.es.length x).length=aY g x:=rfl
 have hok:∀t∈f.row,t.2.2=x→0≤t.1∧t.1<g.es.length∧t.2.1=(g.es.getD t.1.toNat (0,0)).1∧t.2.2=(g.es.getD t.1.toNat (0,0)).2:=fun t ht he=>by
  rcases hi.it t ht with ⟨_,h2⟩|h
  ·have:=(aD hR).1;omega
  ·exact h
 have hmem:∀t∈X,t∈f.row:=fun t ht=>by rw [hr];simp [ht]
 have BO:=rq (ms:=(X.filter (iW x)).map (·.1)) (os:=aO (fun e=>e.2) g.es g.es.length x)
 have key:∀i∈aO (fun e=>e.2) g.es g.es.length x,i∈(X.filter (iW x)).map (·.1):=by
  refine AL (ms:=(X.filter (iW x)).map (·.1)) (os:=aO (fun e=>e.2) g.es g.es.length x) ?_ ?_ ?_
  ·have h1:X.Pairwise fun s t=>0≤s.1→s.1≠t.1:=by
    have:=hi.once
    rw [hr,List.pairwise_append,List.pairwise_append] at this
    exact this.1.2.1
   have h2:=h1.filter (iW x)
   rw [List.Nodup,List.pairwise_map]
   refine h2.imp_of_mem fun {a b} ha hb h=>h ?_
   obtain ⟨OH,PA⟩:=List.mem_filter.1 ha
   exact (hok a (hmem a OH) (by simpa [iW] using PA)).1
  ·intro e he
   obtain ⟨t,ht,rfl⟩:=List.mem_map.1 he
   obtain ⟨ht1,ht2⟩:=List.mem_filter.1 ht
   have ht2:t.2.2=x:=by simpa [iW] using ht2
   obtain ⟨h1,h2,h3,h4⟩:=hok t (hmem t ht1) ht2
   simp only [aO,List.mem_map,List.mem_filter,List.mem_range,decide_eq_true_eq]
   exact ⟨t.1.toNat,⟨by omega,by rw [← h4];exact ht2⟩,by simp;omega⟩
  ·rw [hN, ← hc,List.length_map,List.countP_eq_length_filter]
 have hie:(i:Int)∈aO (fun e=>e.2) g.es g.es.length x:=by
  simp only [aO,List.mem_map,List.mem_filter,List.mem_range,decide_eq_true_eq]
  exact ⟨i,⟨hl,hx⟩,rfl⟩
 obtain ⟨t,ht,he⟩:=List.mem_map.1 (key _ hie)
 obtain ⟨ht1,ht2⟩:=List.mem_filter.1 ht
 have ht2:t.2.2=x:=by simpa [iW] using ht2
 obtain ⟨h1,h2,h3,h4⟩:=hok t (hmem t ht1) ht2
 refine ⟨t,hmem t ht1,he, ?_,ht2⟩
 rw [h3,he,Int.toNat_natCast];rfl
theorem gj {g:Gr} (hm:aL g=true) {f:Fr} (hi:fG g f) {x:Int} (h0:0≤x) (hn:aY g x=0):fq x f.row:=by
 intro t ht he
 rcases hi.it t ht with ⟨_,h2⟩|⟨h1,h2,_,h4⟩
 ·omega
 ·have:=mg h1 h2
  rw [← h4,he] at this
  omega
theorem eO {g:Gr} (hm:aL g=true) {f:Fr} (hi:fG g f) {x:Int} (hR:az g f x=true):
 ∃A X C,f.row=A++X++C∧fq x A∧fq x C∧(∀t∈X,t.2.2=x∨t.2.2= -1)∧∀o,aA g f x o=((X,0),⟨A++aJ g x o++C,f.pl++ [x]⟩):=by
 by_cases hn:aY g x=0
 ·have h:=gj hm hi (aD hR).1 hn
  exact ⟨[], [],f.row,by simp,fun t ht=>(by cases ht),h,fun t ht=>(by cases ht),fun o=>by rw [gi o h];simp⟩
 ·obtain ⟨A,X,C,hr,hA,hC,hX,_⟩:=bU hm hi hR hn
  exact ⟨A,X,C,hr,hA,hC,hX.al,fun o=>fH o hr hA hC hX⟩
theorem oK {g:Gr} {x i:Int} (h:i∈cu g x):∃k:Nat,i=k∧k<g.es.length∧tl g k=x:=by
 obtain ⟨⟨h1,h2⟩,h3⟩:=ij h
 exact ⟨i.toNat,by omega,by omega,h3⟩
theorem jP {g:Gr} {x:Int} {o:List Int} (ho:∀i∈o,i∈cu g x) {t:It} (h:t∈aJ g x o):(t.1= -1∧t.2.2= -1)∨∃k:Nat,k<g.es.length∧t.1=k∧t.2.1=x∧t.2.2=hd g k∧tl g k=x∧t.1∈o:=by
 unfold aJ at h
 split at h
 ·rw [List.mem_singleton] at h
  rw [h];exact .inl ⟨rfl,rfl⟩
 ·obtain ⟨i,QU,rfl⟩:=List.mem_map.1 h
  obtain ⟨k,rfl,h1,h2⟩:=oK (ho i QU)
  exact .inr ⟨k,h1,rfl,rfl,by simp [fQ];rfl,h2,QU⟩
theorem pT {g:Gr} (hm:aL g=true) {f:Fr} (hi:xe g f) {x y:Int} (hx:x∉f.pl) (hR:az g f y=true) {o:List Int} (ho:∀i∈o,i∈cu g x):fq y (aJ g x o):=by
 intro t ht he
 rcases jP ho ht with ⟨_,h⟩|⟨k,h1,h2,h3,h4,h5,_⟩
 ·have:=(aD hR).1;omega
 ·obtain ⟨s,hs,e1,e2,e3⟩:=tL hm hi hR h1 (by rw [← h4];exact he)
  refine hx ?_
  rw [← h5, ← e2]
  exact hi.tail s hs (by omega)
theorem gB {g:Gr} (hm:aL g=true) {f:Fr} (hi:xe g f) {x:Int} (hR:az g f x=true) {o:List Int} (ho:o.Perm (cu g x)):xe g (aA g f x o).2:=by
 have JL:∀i∈o,i∈cu g x:=fun i h=>ho.mem_iff.1 h
 have hx:=(aD hR).2.2
 have h0:=FE hi.tofG hR JL
 obtain ⟨A,X,C,hr,hA,hC,hX,hs⟩:=eO hm hi.tofG hR
 have cx:(aA g f x o).2.pl=f.pl++ [x]:=rfl
 have hrow:(aA g f x o).2.row=A++aJ g x o++C:=by rw [hs o]
 have PB:∀t∈A,t∈f.row:=fun t ht=>by rw [hr];simp [ht]
 have PC:∀t∈C,t∈f.row:=fun t ht=>by rw [hr];simp [ht]
 have Mi:=pT hm hi hx hR JL
 refine {tofG:=h0,tail:= ?_,head:= ?_,once:= ?_,low:= ?_,src:= .inr ?_}
 ·intro t ht h1
  rw [cx]
  rw [hrow,List.mem_append,List.mem_append] at ht
  rcases ht with (ht|ht)|ht
  ·exact List.mem_append_left _ (hi.tail t (PB t ht) h1)
  ·rcases jP JL ht with ⟨h,_⟩|⟨k,_,_,h3,_⟩
   ·omega
   ·rw [h3];simp
  ·exact List.mem_append_left _ (hi.tail t (PC t ht) h1)
 ·intro t ht h1
  rw [cx,List.mem_append,List.mem_singleton]
  rw [hrow,List.mem_append,List.mem_append] at ht
  rcases ht with (ht|ht)|ht
  ·rintro (h|h)
   ·exact hi.head t (PB t ht) h1 h
   ·exact hA t ht h
  ·rintro (h|h)
   ·rcases jP JL ht with ⟨h',_⟩|⟨k,hk,_,_,h4,h5,_⟩
    ·omega
    ·rw [h4] at h
     have:=hi.low k hk h
     rw [h5] at this;exact hx this
   ·exact Mi t ht h
  ·rintro (h|h)
   ·exact hi.head t (PC t ht) h1 h
   ·exact hC t ht h
 ·have xN:=hi.once
  rw [hr,List.pairwise_append,List.pairwise_append] at xN
  obtain ⟨⟨SU,_,_⟩,SV,PD⟩:=xN
  have old:∀s∈f.row,0≤s.1→∀t∈aJ g x o,s.1≠t.1:=fun s hs h1 t ht e=>by
   rcases jP JL ht with ⟨h,_⟩|⟨k,hk,h2,h3,h4,h5,_⟩
   ·omega
   ·rcases hi.it s hs with ⟨h,_⟩|⟨_,_,h6,_⟩
    ·omega
    ·have:=hi.tail s hs h1
     rw [h6,e,h2,Int.toNat_natCast] at this
     exact hx (h5 ▸ this)
  rw [hrow,List.pairwise_append,List.pairwise_append]
  refine ⟨⟨SU, ?_,fun s hs t ht h1=>old s (PB s hs) h1 t ht⟩,SV, ?_⟩
  ·unfold aJ
   split
   ·simp
   ·refine List.pairwise_map.2 ((ho.nodup_iff.2 dG).imp fun {i j} (h:i≠j) _=> ?_)
    exact h
  ·intro s hs t ht h1
   rcases List.mem_append.1 hs with hs|hs
   ·exact PD s (List.mem_append_left _ hs) t ht h1
   ·intro e
    exact old t (PC t ht) (by omega) s hs e.symm
 ·intro i hl h
  rw [cx,List.mem_append,List.mem_singleton] at h ⊢
  left
  rcases h with h|h
  ·exact hi.low i hl h
  ·obtain ⟨t,ht,e1,e2,_⟩:=tL hm hi hR hl h
   rw [← e2]
   exact hi.tail t ht (by omega)
 ·rcases hi.src with ⟨h1,h2⟩|⟨s,hs,h⟩
  ·refine ⟨x,by rw [cx];simp, ?_⟩
   refine Decidable.byContradiction fun hn=> ?_
   obtain ⟨A,X,C,hr,_,_,hX,_⟩:=bU hm hi.tofG hR hn
   obtain ⟨p,X',e,_⟩:=hX.fst
   rw [h2,e] at hr
   simp at hr
  ·exact ⟨s,by rw [cx];simp [hs],h⟩
theorem apart {x y:Int} (hx:0≤x) (hy:0≤y) (hxy:x≠y) {A X C B Y D:List It} (h:A++X++C=B++Y++D) (hX:Mid x X) (hY:Mid y Y):
 (∃M,B=A++X++M∧C=M++Y++D)∨(∃M,A=B++Y++M∧D=M++X++C):=by
 obtain ⟨p,X',FF,hp⟩:=hX.fst
 obtain ⟨q,Y',SW,hq⟩:=hY.fst
 have nX:q∉X:=fun h=>hX.QT hxy hy q h hq
 have nY:p∉Y:=fun h=>hY.QT (Ne.symm hxy) hx p h hp
 rw [show B++Y++D=B++(Y++D) by simp,List.append_eq_append_iff] at h
 rcases h with ⟨es,h1,h2⟩|⟨cs,h1,h2⟩
 ·exact .inl ⟨es,h1,by rw [h2];simp⟩
 ·match cs,h1,h2 with
  | [],h1,h2=>exact .inl ⟨[],by simpa using h1.symm,by simpa using h2.symm⟩
  |c::cs,h1,h2=>
   have SX:c=q:=by rw [SW] at h2;simp at h2;exact h2.1.symm
   rw [List.append_eq_append_iff] at h1
   rcases h1 with ⟨es,h3,h4⟩|⟨ds,h3,h4⟩
   ·exfalso;refine nX ?_
    rw [h4, ← SX];simp
   ·rw [h4,List.append_assoc,List.append_eq_append_iff] at h2
    rcases h2 with ⟨es,h5,h6⟩|⟨bs,h5,h6⟩
    ·exact .inr ⟨es,by rw [h3,h5];simp,by rw [h6];simp⟩
    ·match bs,h5,h6 with
     | [],h5,h6=>exact .inr ⟨[],by rw [h3,h5];simp,by simpa using h6.symm⟩
     |b::bs,h5,h6=>
      exfalso;refine nY ?_
      have SY:b=p:=by rw [FF] at h6;simp at h6;exact h6.1.symm
      rw [h5, ← SY];simp
theorem yI {g:Gr} (hm:aL g=true) {f:Fr} (hi:xe g f) {x y:Int} (hxy:x≠y) (BP:az g f x=true) (qJ:az g f y=true)
 {a b:List Int} (ha:a.Perm (cu g x)) (hb:b.Perm (cu g y)) {A X M Y D:List It} (hr:f.row=A++X++M++Y++D) (hX:Mid x X) (hY:Mid y Y)
 (cX:X.countP (iW x)=aY g x) (cY:Y.countP (iW y)=aY g y)
 (nA:fq x A) (nC:fq x (M++Y++D)) (nB:fq y (A++X++M)) (nD:fq y D):
 az g (aA g f x a).2 y=true∧az g (aA g f y b).2 x=true∧(aA g (aA g f x a).2 y b).2.row=(aA g (aA g f y b).2 x a).2.row∧
 (aA g f x a).1=(aA g (aA g f y b).2 x a).1∧(aA g f y b).1=(aA g (aA g f x a).2 y b).1:=by
 obtain ⟨x0,x1,x2⟩:=aD BP
 obtain ⟨y0,y1,y2⟩:=aD qJ
 have i1:=(gB hm hi BP ha).tofG
 have i2:=(gB hm hi qJ hb).tofG
 have ux:=pT hm hi x2 qJ (fun i h=>ha.mem_iff.1 h)
 have uy:=pT hm hi y2 BP (fun i h=>hb.mem_iff.1 h)
 have r1:f.row=A++X++(M++Y++D):=by rw [hr];simp
 have r2:f.row=(A++X++M)++Y++D:=by rw [hr]
 have e1:=fH (g:=g) a r1 nA nC hX
 have e2:=fH (g:=g) b r2 nB nD hY
 rw [e1] at i1 ⊢;rw [e2] at i2 ⊢
 have r3:A++aJ g x a++(M++Y++D)=(A++aJ g x a++M)++Y++D:=by simp
 have r4:A++X++M++aJ g y b++D=A++X++(M++aJ g y b++D):=by simp
 have n3:fq y (A++aJ g x a++M):=((nB.left.left).app ux).app nB.right
 have n4:fq x (M++aJ g y b++D):=(nC.left.left.app uy).app nC.right
 have e3:=fH (g:=g) (f:=⟨A++aJ g x a++(M++Y++D),f.pl++ [x]⟩) b r3 n3 nD hY
 have e4:=fH (g:=g) (f:=⟨A++X++M++aJ g y b++D,f.pl++ [y]⟩) a r4 nA n4 hX
 refine ⟨kL hm i1 y0 y1 ?_ r3 n3 nD hY cY,kL hm i2 x0 x1 ?_ r4 nA n4 hX cX, ?_, ?_, ?_⟩
 ·simp [y2,Ne.symm hxy]
 ·simp [x2,hxy]
 ·simp only [e3,e4];simp
 ·simp only [e4]
 ·simp only [e3]
theorem Dg {g:Gr} (hm:aL g=true) {f:Fr} (hi:xe g f) {x y:Int} (hxy:x≠y) (BP:az g f x=true) (qJ:az g f y=true)
 {a b:List Int} (ha:a.Perm (cu g x)) (hb:b.Perm (cu g y)) (nx:aY g x≠0) (ny:aY g y≠0):
 az g (aA g f x a).2 y=true∧az g (aA g f y b).2 x=true∧(aA g (aA g f x a).2 y b).2.row=(aA g (aA g f y b).2 x a).2.row∧
 (aA g f x a).1=(aA g (aA g f y b).2 x a).1∧(aA g f y b).1=(aA g (aA g f x a).2 y b).1:=by
 obtain ⟨A,X,C,hr,hA,hC,hX,cX⟩:=bU hm hi.tofG BP nx
 obtain ⟨B,Y,D,hr',hB,hD,hY,cY⟩:=bU hm hi.tofG qJ ny
 rcases apart (aD BP).1 (aD qJ).1 hxy (hr.symm.trans hr') hX hY with ⟨M,rfl,rfl⟩|⟨M,rfl,rfl⟩
 ·exact yI hm hi hxy BP qJ ha hb (by rw [hr];simp) hX hY cX cY hA hC hB hD
 ·obtain ⟨h1,h2,h3,h4,h5⟩:=yI hm hi (Ne.symm hxy) qJ BP hb ha (by rw [hr'];simp) hY hX cY cX hB hD hA hC
  exact ⟨h2,h1,h3.symm,h5,h4⟩
theorem mh {g:Gr} {y:Int} :y∈bQ (·.2) g↔(0≤y∧y<g.n)∧aY g y=0:=by
 simp only [bQ,jG,List.mem_map,List.mem_filter,List.mem_range,decide_eq_true_eq]
 have he:∀x:Nat,x<g.n.toNat→(((dF (·.2) g).getD x []).length=aY g (x:Int)):=by
  intro x hx
  have e:(dF (·.2) g).getD x []=aO (·.2) g.es g.es.length (x:Int):=by
   simp [dF,List.getD_eq_getElem?_getD,List.getElem?_range hx,ox]
  rw [e];rfl
 constructor
 ·rintro ⟨x,⟨hx,h0⟩,rfl⟩
  refine ⟨by simp;omega,by rw [he x hx] at h0;exact h0⟩
 ·rintro ⟨⟨h1,h2⟩,h3⟩
  have e:((y.toNat:Nat):Int)=y:=by omega
  exact ⟨y.toNat,⟨by omega,by rw [he _ (by omega),e];exact h3⟩,e⟩
theorem kM {g:Gr} (hc:(cg g).1=0) {x y:Int} (hx:0≤x∧x<g.n) (hy:0≤y∧y<g.n) (nx:aY g x=0) (ny:aY g y=0):x=y:=by
 have h1:(bQ (·.2) g).length≤1:=by
  unfold cg jH at hc
  refine Nat.not_lt.1 fun h=> ?_
  split at hc
  ·cases hc
  split at hc
  ·cases hc
  split at hc
  ·cases hc
  split at hc
  ·cases hc
  cases hc
 have h2:=mh.2 ⟨hx,nx⟩
 have h3:=mh.2 ⟨hy,ny⟩
 match hb:bQ (·.2) g with
 | []=>rw [hb] at h2;cases h2
 | [z]=>rw [hb,List.mem_singleton] at h2 h3;rw [h2,h3]
 |_::_::_=>rw [hb] at h1;simp at h1
theorem aj {g:Gr} (hc:(cg g).1=0):aL g=true:=by
 unfold cg jH at hc
 split at hc
 ·cases hc
 ·rename_i h;simpa using h
theorem yJ {g:Gr} (hc:(cg g).1=0) {f:Fr} (hi:xe g f) {x y:Int} (hxy:x≠y) (BP:az g f x=true) (qJ:az g f y=true):aY g x≠0:=by
 intro nx
 have hm:=aj hc
 obtain ⟨x0,x1,x2⟩:=aD BP
 obtain ⟨y0,y1,y2⟩:=aD qJ
 rcases hi.src with ⟨h1,h2⟩|⟨s,hs,h⟩
 ·have ny:aY g y≠0:=fun ny=>hxy (kM hc ⟨x0,x1⟩ ⟨y0,y1⟩ nx ny)
  obtain ⟨A,X,C,hr,_,_,hX,_⟩:=bU hm hi.tofG qJ ny
  obtain ⟨p,X',e,_⟩:=hX.fst
  rw [h2,e] at hr
  simp at hr
 ·exact x2 (kM hc (hi.mM s hs) ⟨x0,x1⟩ h nx ▸ hs)
theorem vl {g:Gr} (hc:(cg g).1=0) {f:Fr} (hi:xe g f) {x y:Int} (hxy:x≠y) (BP:az g f x=true) (qJ:az g f y=true)
 {a b:List Int} (ha:a.Perm (cu g x)) (hb:b.Perm (cu g y)):
 az g (aA g f x a).2 y=true∧az g (aA g f y b).2 x=true∧(aA g (aA g f x a).2 y b).2.row=(aA g (aA g f y b).2 x a).2.row∧
 (aA g f x a).1=(aA g (aA g f y b).2 x a).1∧(aA g f y b).1=(aA g (aA g f x a).2 y b).1:=
 Dg (aj hc) hi hxy BP qJ ha hb (yJ hc hi hxy BP qJ) (yJ hc hi (Ne.symm hxy) qJ BP)
end Go.Ab
end
section
namespace Go.Ab
open Go.Proofs
attribute [local congr] ACall.congr gd.congr Nx.congr
set_option maxRecDepth 10000
set_option maxHeartbeats 4000000
def BQ (row:List It) (a b:Int):Nat→Int × Int
 |0=>(-1,0)
 |k+1=>if ((row.getD k (0,0,0)).2.2=a∨(row.getD k (0,0,0)).2.2=b)∧(row.getD k (0,0,0)).2.2≠(BQ row a b k).1 then ((row.getD k (0,0,0)).2.2,(BQ row a b k).2+1) else BQ row a b k
end Go.Ab
end
section
namespace Go.Ab
open Go.Proofs
attribute [local congr] ACall.congr gd.congr Nx.congr
set_option maxRecDepth 10000
set_option maxHeartbeats 4000000
def Kv (row:List It) (i:Nat):Int:=(row.getD i (0,0,0)).2.2
def PE (row:List It) (i j:Nat):Bool:=decide (Kv row i≠ -1)&&decide (Kv row j≠ -1)&&decide (Kv row i≠Kv row j)&&decide (4≤(BQ row (Kv row i) (Kv row j) row.length).2)
def QV (row:List It):Bool:=(List.range row.length).any fun i=>(List.range row.length).any (PE row i)
end Go.Ab
end
section
namespace Go.Ab
open Go.Proofs
attribute [local congr] ACall.congr gd.congr Nx.congr
set_option maxRecDepth 10000
set_option maxHeartbeats 8000000
def T4 (row:List It) (a b c d:Nat):Prop:=0≤(row.getD a (0,0,0)).2.2∧0≤(row.getD b (0,0,0)).2.2∧(row.getD a (0,0,0)).2.2≠(row.getD b (0,0,0)).2.2∧(row.getD a (0,0,0)).2.2=(row.getD c (0,0,0)).2.2∧(row.getD b (0,0,0)).2.2=(row.getD d (0,0,0)).2.2
def SZ (row:List It):Prop:=∃a b c d,a<b∧b<c∧c<d∧d<row.length∧T4 row a b c d
end Go.Ab
end
section
namespace Go.Ab
open Go.Proofs
set_option maxRecDepth 10000
theorem qw {g:Gr} {f f':Fr} (hr:f.row=f'.row) (hp:f.pl.Perm f'.pl) (x:Int):az g f x=az g f' x:=by
 unfold az
 rw [hr]
 by_cases h:x<0∨g.n≤x∨x∈f.pl
 ·rw [if_pos h,if_pos (by rw [← hp.mem_iff];exact h)]
 ·have h':¬(x<0∨g.n≤x∨x∈f'.pl):=by rw [← hp.mem_iff];exact h
  rw [if_neg h,if_neg h']
theorem iM:∀ {l m:List Int},l.Nodup→(∀i∈l,i∈m)→l.length≤m.length
 | [],_,_,_=>by simp
 |a::l,m,hn,hs=>by
  rw [List.nodup_cons] at hn
  have ha:=hs a (List.mem_cons_self ..)
  have:=iM hn.2 (m:=m.erase a) fun i hi=>(List.mem_erase_of_ne (fun e:i=a=>hn.1 (e ▸ hi))).2 (hs i (List.mem_cons_of_mem _ hi))
  rw [List.length_erase_of_mem ha] at this
  have:=List.length_pos_of_mem ha
  rw [List.length_cons];omega
theorem jQ {g:Gr} {f:Fr} (hi:fG g f) (hf:(f.pl.length:Int)=g.n) {x:Int} (hx:0≤x∧x<g.n):x∈f.pl:=by
 refine Decidable.byContradiction fun h=> ?_
 have h1:(x::f.pl).Nodup:=List.nodup_cons.2 ⟨h,hi.pl⟩
 have h2:((List.range g.n.toNat).map Int.ofNat).length=g.n.toNat:=by simp
 have h3:=iM h1 (m:=(List.range g.n.toNat).map Int.ofNat) (fun y hy=>by
  rw [List.mem_map]
  have:0≤y∧y<g.n:=by
   rcases List.mem_cons.1 hy with h|h
   ·rw [h];exact hx
   ·exact hi.mM y h
  exact ⟨y.toNat,List.mem_range.2 (by omega),by simp;omega⟩)
 rw [h2,List.length_cons] at h3
 omega
def Tg (a b:Int) (row:List It):Prop:=∃l:List It,l.Sublist row∧l.map (fun t=>t.2.2)= [a,b,a,b]
def FG (a b:Int) (t:It):Bool:=decide (t.2.2=a)||decide (t.2.2=b)
theorem Tg.PF {a b:Int} {row:List It} :Tg a b row↔Tg a b (row.filter (FG a b)):=by
 constructor
 ·rintro ⟨l,h,e⟩
  refine ⟨l, ?_,e⟩
  have h1:=h.filter (FG a b)
  rw [List.filter_eq_self.2] at h1
  ·exact h1
  ·intro t ht
   have:t.2.2∈l.map (fun t=>t.2.2):=List.mem_map.2 ⟨t,ht,rfl⟩
   rw [e] at this
   simp only [FG,Bool.or_eq_true,decide_eq_true_eq]
   simp only [List.mem_cons,List.not_mem_nil,or_false] at this
   omega
 ·rintro ⟨l,h,e⟩
  exact ⟨l,h.trans List.filter_sublist,e⟩
theorem Tg.keep {a b x:Int} (ha:0≤a) (hb:0≤b) (GD:a≠x) (wO:b≠x) {A X C u:List It} (hX:∀t∈X,t.2.2=x∨t.2.2= -1) (h:Tg a b (A++X++C)):Tg a b (A++u++C):=by
 rw [Tg.PF] at h ⊢
 obtain ⟨l,h,e⟩:=h
 refine ⟨l,h.trans ?_,e⟩
 rw [List.filter_append,List.filter_append,List.filter_append,List.filter_append]
 have:X.filter (FG a b)= []:=List.filter_eq_nil_iff.2 fun t ht=>by
  simp only [FG,Bool.or_eq_true,decide_eq_true_eq]
  rcases hX t ht with h|h<;>omega
 rw [this,List.append_nil]
 exact List.Sublist.append_right (List.sublist_append_left _ _) _
theorem Tg.not {a b x:Int} (hab:a≠b) (hb0:0≤b) (ha0:0≤a) (hx:x=a∨x=b) {A X C:List It} (hA:fq x A) (hC:fq x C) (hX:∀t∈X,t.2.2=x∨t.2.2= -1):¬Tg a b (A++X++C):=by
 rintro ⟨l,h,e⟩
 rw [List.append_assoc,List.sublist_append_iff] at h
 obtain ⟨l1,l',rfl,h1,h'⟩:=h
 rw [List.sublist_append_iff] at h'
 obtain ⟨l2,l3,rfl,h2,h3⟩:=h'
 have k1:∀t∈l1,t.2.2≠x:=fun t ht=>hA t (h1.subset ht)
 have k2:∀t∈l2,t.2.2=x∨t.2.2= -1:=fun t ht=>hX t (h2.subset ht)
 have k3:∀t∈l3,t.2.2≠x:=fun t ht=>hC t (h3.subset ht)
 clear h1 h2 h3
 match l1,k1,e with
 |t1::t2::_,k1,e=>
  simp only [List.cons_append,List.map_cons,List.cons.injEq] at e
  rcases hx with h|h
  ·exact k1 t1 (by simp) (by omega)
  ·exact k1 t2 (by simp) (by omega)
 | [t1],k1,e=>
   simp only [List.cons_append,List.nil_append,List.map_cons,List.cons.injEq] at e
   rcases hx with h|h
   ·exact k1 t1 (by simp) (by omega)
   ·match l2,k2,e with
    | [],_,e=>
      match l3,k3,e with
      | [s1,s2,s3],k3,e=>
        simp only [List.nil_append,List.map_cons,List.map_nil,List.cons.injEq,and_true] at e
        exact k3 s1 (by simp) (by omega)
      | [],_,e=>simp at e
      | [_],_,e=>simp at e
      | [_,_],_,e=>simp at e
      |_::_::_::_::_,_,e=>simp at e
    |s1::s2::_,k2,e=>
     simp only [List.cons_append,List.map_cons,List.cons.injEq] at e
     rcases k2 s2 (by simp) with h|h<;>omega
    | [s1],k2,e=>
      match l3,k3,e with
      | [u1,u2],k3,e=>
        simp only [List.cons_append,List.nil_append,List.map_cons,List.map_nil,List.cons.injEq,and_true] at e
        exact k3 u2 (by simp) (by omega)
      | [],_,e=>simp at e
      | [_],_,e=>simp at e
      |_::_::_::_,_,e=>simp at e
 | [],_,e=>
   simp only [List.nil_append] at e
   match l2,k2,e with
   | [],_,e=>
     match l3,k3,e with
     | [],_,e=>simp at e
     | [_],_,e=>simp at e
     |s1::s2::_,k3,e=>
      simp only [List.nil_append,List.map_cons,List.cons.injEq] at e
      rcases hx with h|h
      ·exact k3 s1 (by simp) (by omega)
      ·exact k3 s2 (by simp) (by omega)
   |s1::s2::_,k2,e=>
    simp only [List.cons_append,List.map_cons,List.cons.injEq] at e
    have q1:=k2 s1 (by simp)
    have q2:=k2 s2 (by simp)
    omega
   | [s1],k2,e=>
     match l3,k3,e with
     | [],_,e=>simp at e
     | [_],_,e=>simp at e
     | [_,_],_,e=>simp at e
     |u1::u2::u3::_,k3,e=>
      simp only [List.cons_append,List.nil_append,List.map_cons,List.cons.injEq] at e
      have q1:=k2 s1 (by simp)
      exact k3 u2 (by simp) (by omega)
end Go.Ab
end
section
namespace Go.Ab
open Go.Proofs
set_option maxRecDepth 10000
theorem vm {row:List It} {k:Nat} (h:k<row.length):row.take (k+1)=row.take k++ [row.getD k (0,0,0)]:=by
 rw [List.take_add_one,List.getD_eq_getElem?_getD,List.getElem?_eq_getElem h];rfl
theorem FH {row:List It} {i j:Nat} (h:i≤j):(row.take i).Sublist (row.take j):=by
 rw [show row.take i=(row.take j).take i by rw [List.take_take,Nat.min_eq_left h]]
 exact List.take_sublist _ _
theorem tM {row l:List It} {i j:Nat} (h:l.Sublist (row.take i)) (hij:i≤j) (hj:j<row.length):(l++ [row.getD j (0,0,0)]).Sublist (row.take (j+1)):=by
 rw [vm hj]
 exact List.Sublist.append (h.trans (FH hij)) (List.Sublist.refl _)
def PG (a b:Int):List It→Prop
 | []=>True
 | [t]=>t.2.2=a∨t.2.2=b
 |s::t::l=>(s.2.2=a∨s.2.2=b)∧s.2.2≠t.2.2∧PG a b (t::l)
end Go.Ab
end
section
namespace Go.Ab
open Go.Proofs
attribute [local congr] ACall.congr gd.congr Nx.congr
set_option maxRecDepth 10000
end Go.Ab
end
section
namespace Go.Ab
open Go.Proofs
attribute [local congr] ACall.congr gd.congr Nx.congr
set_option maxRecDepth 10000
def PI (g:Gr) (out:List Int) (x:Nat) (i:Nat):Bool:=(List.range i).all fun j=> !decide (hd g j=(x:Int))||decide (tl g j∈out)
def S0 (g:Gr) (out:List Int) (k:Nat) (f:Bool):Prop:=k≤g.n.toNat∧(if f then 0<k∧wt g out (k - 1)=0∧∀j,j<k - 1→wt g out j≠0 else ∀j,j<k→wt g out j≠0)
def S1 (out:List Int) (k:Nat) (f:Bool):List Int:=if f then out++ [((k - 1:Nat):Int)] else out
end Go.Ab
end
section
namespace Go.Ab
open Go.Proofs
attribute [local congr] ACall.congr gd.congr Nx.congr
set_option maxRecDepth 10000
end Go.Ab
end
section
namespace Go.Ab
open Go.Proofs
set_option maxRecDepth 10000
structure Pl where
 ord:List Int
 outs:List (List Int)
def aE (p:Pl) (k:Nat):Int:=p.ord.getD k 0
def cj (p:Pl) (x:Int):List Int:=p.outs.getD x.toNat []
def bg (g:Gr) (p:Pl):Prop:=p.outs.length=g.n.toNat∧p.ord.Perm (dx g.n.toNat)∧∀x:Nat,x<g.n.toNat→(p.outs.getD x []).Perm (cu g x)
def fK (g:Gr) (p:Pl):Nat→Fr
 |0=>⟨[], []⟩
 |k+1=>(aA g (fK g p k) (aE p k) (cj p (aE p k))).2
def dg (g:Gr) (p:Pl) (k:Nat):List It:=(aA g (fK g p k) (aE p k) (cj p (aE p k))).1.1
def qx (g:Gr) (p:Pl) (k:Nat):Bool:=az g (fK g p k) (aE p k)
def gl (g:Gr) (p:Pl):Nat→List (List It)
 |0=>List.replicate g.n.toNat []
 |k+1=>(gl g p k).set (aE p k).toNat (dg g p k)
def jR (g:Gr) (p:Pl):Nat→Option Nat
 |0=>none
 |k+1=>match jR g p k with
  |some i=>some i
  |none=>if qx g p k=true then none else some k
def aX (g:Gr) (p:Pl):Prop:=(cg g).1=0∧bg g p∧∀k,k<g.n.toNat→qx g p k=true
theorem gm {g:Gr} {p:Pl} :∀ {k:Nat},jR g p k=none↔∀j,j<k→qx g p j=true
 |0=>by simp [jR]
 |k+1=>by
  rw [jR]
  cases h:jR g p k with
  |some i=>
   simp only [reduceCtorEq,false_iff]
   intro h2
   rw [gm.2 fun j hj=>h2 j (by omega)] at h
   cases h
  |none=>
   have ih:=gm.1 h
   simp only
   constructor
   ·intro h2 j hj
    by_cases hjk:j=k
    ·subst hjk
     refine Decidable.byContradiction fun hn=> ?_
     rw [if_neg hn] at h2;cases h2
    ·exact ih j (by omega)
   ·intro h2
    rw [if_pos (h2 k (by omega))]
theorem tN {g:Gr} {p:Pl} {i:Nat} :∀ {k:Nat},jR g p k=some i↔i<k∧qx g p i=false∧∀j,j<i→qx g p j=true
 |0=>by simp [jR]
 |k+1=>by
  rw [jR]
  cases h:jR g p k with
  |some i'=>
   have ih:=(tN (g:=g) (p:=p)).1 h
   simp only [Option.some.injEq]
   constructor
   ·rintro rfl
    exact ⟨by omega,ih.2⟩
   ·rintro ⟨h1,h2,h3⟩
    rcases Nat.lt_trichotomy i' i with h4|h4|h4
    ·rw [h3 i' h4] at ih;simp at ih
    ·exact h4
    ·rw [ih.2.2 i h4] at h2;cases h2
  |none=>
   have ih:=gm.1 h
   simp only
   constructor
   ·intro h2
    by_cases hk:qx g p k=true
    ·rw [if_pos hk] at h2;cases h2
    ·rw [if_neg hk] at h2
     cases h2
     exact ⟨by omega,by simpa using hk,ih⟩
   ·rintro ⟨h1,h2,h3⟩
    have:i=k:=by
     by_cases h4:i<k
     ·rw [ih i h4] at h2;cases h2
     ·omega
    subst this
    rw [if_neg (by rw [h2];simp)]
theorem jS {n:Nat} :(dx n).length=n:=by simp [dx]
theorem aP {g:Gr} {p:Pl} (h:bg g p):p.ord.length=g.n.toNat:=by rw [h.2.1.length_eq,jS]
theorem cn {g:Gr} {p:Pl} (h:bg g p):p.ord.Nodup:=h.2.1.nodup_iff.2 nh
theorem bB {g:Gr} {p:Pl} (h:bg g p) {k:Nat} (hk:k<g.n.toNat):0≤aE p k∧aE p k<g.n:=by
 have h1:aE p k∈p.ord:=aU (by rw [aP h];exact hk)
 have:=cE.1 (h.2.1.mem_iff.1 h1)
 omega
theorem kN {g:Gr} {p:Pl} (h:bg g p) {i j:Nat} (hi:i<g.n.toNat) (hj:j<g.n.toNat) (e:aE p i=aE p j):i=j:=
 kG (cn h) (by rw [aP h];exact hi) (by rw [aP h];exact hj) e
theorem fI {g:Gr} {p:Pl} (h:bg g p) {x:Int} (h0:0≤x) (h1:x<g.n):∃k,k<g.n.toNat∧aE p k=x:=by
 have:x∈p.ord:=h.2.1.mem_iff.2 (cE.2 (by omega))
 obtain ⟨k,hk,e⟩:=List.mem_iff_getElem.1 this
 refine ⟨k,by rw [← aP h];exact hk, ?_⟩
 rw [aE,List.getD_eq_getElem?_getD,List.getElem?_eq_getElem hk,Option.getD_some,e]
theorem bK {g:Gr} {p:Pl} (h:bg g p) {x:Int} (h0:0≤x) (h1:x<g.n):(cj p x).Perm (cu g x):=by
 have:=h.2.2 x.toNat (by omega)
 rwa [show ((x.toNat:Nat):Int)=x by omega] at this
theorem ru {g:Gr} {p:Pl} (h:bg g p) {x:Int} (h0:0≤x) (h1:x<g.n):(cj p x).length≤g.es.length:=by
 rw [(bK h h0 h1).length_eq];exact FB
theorem bX {g:Gr} (hm:aL g=true) {p:Pl} (h:bg g p):∀ {k:Nat},k≤g.n.toNat→(∀j,j<k→qx g p j=true)→xe g (fK g p k)∧(fK g p k).pl=p.ord.take k∧(fK g p k).row.length≤k*(g.es.length+1)
 |0,_,_=>⟨oJ g,by simp [fK],by simp [fK]⟩
 |k+1,hk,hok=>by
  obtain ⟨h1,h2,h3⟩:=bX hm h (k:=k) (by omega) fun j hj=>hok j (by omega)
  obtain ⟨x0,x1⟩:=bB h (k:=k) (by omega)
  have hl:=vj (g:=g) (f:=fK g p k) (x:=aE p k) (o:=cj p (aE p k))
  have Fl:=ru h x0 x1
  refine ⟨gB hm h1 (hok k (by omega)) (bK h x0 x1), ?_, ?_⟩
  ·show (fK g p k).pl++ [aE p k]=_
   rw [h2,List.take_add_one,List.getElem?_eq_getElem (by rw [aP h];omega),aE,List.getD_eq_getElem?_getD,List.getElem?_eq_getElem (by rw [aP h];omega)]
   rfl
  ·show (aA _ _ _ _).2.row.length≤_
   rw [Nat.add_mul];omega
theorem FI {g:Gr} {p:Pl} (h:bg g p) {k:Nat} (hk:k<g.n.toNat) (hR:qx g p k=true):fE g (fK g p k) (aE p k) (cj p (aE p k))=aA g (fK g p k) (aE p k) (cj p (aE p k)):=by
 have hp:=bK h (bB h hk).1 (bB h hk).2
 unfold fE
 have Nh:az g (fK g p k) (aE p k)=true:=hR
 rw [if_neg (by rw [Nh];simp),if_neg]
 rintro (h|⟨i,h1,h2⟩)
 ·exact h hp.length_eq
 ·exact h2 (hp.mem_iff.2 h1)
theorem FJ {g:Gr} {p:Pl} {k:Nat} (hR:qx g p k=false):fE g (fK g p k) (aE p k) (cj p (aE p k))=(([],3),fK g p k):=if_pos hR
theorem oL {g:Gr} {p:Pl} :∀ {k:Nat},(gl g p k).length=g.n.toNat
 |0=>by simp [gl]
 |k+1=>by rw [gl,List.length_set,oL]
theorem mj {α:Type} {l:List α} {i j:Nat} {a d:α} (hi:i<l.length):(l.set i a).getD j d=if j=i then a else l.getD j d:=by
 rw [List.getD_eq_getElem?_getD,List.getElem?_set,List.getD_eq_getElem?_getD]
 by_cases h:i=j
 ·subst h;simp [hi]
 ·rw [if_neg h,if_neg (Ne.symm h)]
theorem xg {g:Gr} {p:Pl} (h:bg g p):∀ {k:Nat},k≤g.n.toNat→∀ {i:Nat},i<k→(gl g p k).getD (aE p i).toNat []=dg g p i
 |0,_,i,hi=>by omega
 |k+1,hk,i,hi=>by
  have hm:=bB h (k:=k) (by omega)
  rw [gl,mj (by rw [oL];omega)]
  by_cases e:i=k
  ·subst e;rw [if_pos rfl]
  ·have Ja:=bB h (k:=i) (by omega)
   rw [if_neg (fun h2=>e (kN h (by omega) (by omega) (by omega)))]
   exact xg h (by omega) (by omega)
theorem oM {l m:List Int} (h:gL l=m):l.Perm m:=by
 rw [← h];exact (List.mergeSort_perm l _).symm
theorem yK {n:Nat} :(dx n).Pairwise (· ≤ ·):=by
 unfold dx
 refine List.Pairwise.map _ (fun a b (h:a<b)=> ?_) List.pairwise_lt_range
 show (a:Int)≤b
 omega
theorem HD {g:Gr} (hm:aL g=true) {p:Pl} :(p.outs.length=g.n.toNat∧p.ord.length=g.n.toNat∧(∀i:Nat,i<(gL p.ord).length→(gL p.ord).getD i 0=i)∧∀x:Nat,x<p.outs.length→gL (p.outs.getD x [])=bt (·.1) g x)↔bg g p:=by
 constructor
 ·rintro ⟨h1,h2,h3,h4⟩
  refine ⟨h1,oM ?_,fun x hx=> ?_⟩
  ·refine List.ext_getElem (by rw [eD,h2,jS]) fun i h5 h6=> ?_
   have:=h3 i h5
   rw [List.getD_eq_getElem?_getD,List.getElem?_eq_getElem h5,Option.getD_some] at this
   rw [this];simp [dx]
  ·have:=h4 x (by omega)
   rw [gh (by omega) (by omega)] at this
   exact oM this
 ·intro h
  refine ⟨h.1,aP h, ?_,fun x hx=> ?_⟩
  ·rw [tK h.2.1 yK]
   intro i hi
   rw [jS] at hi
   simp [dx,List.getD_eq_getElem?_getD,List.getElem?_range hi]
  ·rw [gh (by omega) (by have:=h.1;omega)]
   exact tK (h.2.2 x (by rw [← h.1];exact hx)) qv
end Go.Ab
end
section
namespace Go.Ab
open Go.Proofs
set_option maxRecDepth 10000
def qy (g:Gr) (p:Pl) (f:Fr) (x:Int):Fr:=(aA g f x (cj p x)).2
def tO (g:Gr) (p:Pl):Nat→Fr→Prop
 |0,f=>(f.pl.length:Int)=g.n
 |m+1,f=>∃x,az g f x=true∧tO g p m (qy g p f x)
theorem tP {g:Gr} {p:Pl} :∀ {m:Nat} {f f':Fr},f.row=f'.row→f.pl.Perm f'.pl→tO g p m f→tO g p m f'
 |0,f,f',_,hp,h=>by
  have h:(f.pl.length:Int)=g.n:=h
  show (f'.pl.length:Int)=g.n
  rw [← hp.length_eq];exact h
 |m+1,f,f',hr,hp,⟨x,h1,h2⟩=>by
  refine ⟨x,by rw [← qw hr hp];exact h1,tP ?_ ?_ h2⟩
  ·simp only [qy,aA,hr]
  ·exact hp.append_right _
theorem yL {g:Gr} (hc:(cg g).1=0) {p:Pl} (hp:bg g p):∀ {m:Nat} {f:Fr},xe g f→(f.pl.length:Int)+(m+1:Nat)=g.n→tO g p (m+1) f→∀ {x:Int},az g f x=true→tO g p m (qy g p f x)
 |m,f,hi,hl,⟨y,qJ,hcan⟩,x,hR=>by
  have hm:=aj hc
  by_cases hxy:x=y
  ·subst hxy;exact hcan
  have py:=bK hp (aD qJ).1 (aD qJ).2.1
  have px:=bK hp (aD hR).1 (aD hR).2.1
  have i2:=gB hm hi qJ py
  match m,hl,hcan with
  |0,hl,hcan=>
   exfalso
   have h1:=jQ i2.tofG (by show ((f.pl++ [y]).length:Int)=g.n;simp;omega) (x:=x) ⟨(aD hR).1,(aD hR).2.1⟩
   have h2:x∈f.pl++ [y]:=h1
   simp [(aD hR).2.2,hxy] at h2
  |m+1,hl,hcan=>
   obtain ⟨h4,h5,h6,_⟩:=vl hc hi hxy hR qJ px py
   have h3:=yL hc hp i2 (by show (((f.pl++ [y]).length:Nat):Int)+_=_;simp;omega) hcan h5
   refine ⟨y,h4,tP h6.symm ?_ h3⟩
   show (f.pl++ [y]++ [x]).Perm (f.pl++ [x]++ [y])
   rw [List.append_assoc,List.append_assoc]
   exact List.Perm.append_left _ (List.Perm.swap ..)
theorem yM {g:Gr} {p:Pl} (h:aX g p):∀ {d k:Nat},k+d=g.n.toNat→tO g p d (fK g p k)
 |0,k,hk=>by
  have hn:=aG (aj h.1)
  obtain ⟨_,cx,_⟩:=bX (aj h.1) h.2.1 (k:=k) (by omega) fun j hj=>h.2.2 j (by omega)
  show ((fK g p k).pl.length:Int)=g.n
  rw [cx,List.length_take,aP h.2.1];omega
 |d+1,k,hk=>⟨aE p k,h.2.2 k (by omega),yM h (k:=k+1) (by omega)⟩
def jf (rev:Bool) (l:List It):List It:=if rev=true then l.reverse else l
def gC (g:Gr) (f:Fr) (rev:Bool):Int:=match (jf rev f.row).find? (fun t=>az g f t.2.2) with
 |some t=>t.2.2
 |none=>(eM g f).headD (-1)
def bz (g:Gr) (p:Pl) (rev:Bool):Nat→Fr
 |0=>⟨[], []⟩
 |k+1=>qy g p (bz g p rev k) (gC g (bz g p rev k) rev)
def ee (g:Gr) (p:Pl) (rev:Bool):Nat→List Int
 |0=>List.replicate g.n.toNat 0
 |k+1=>(ee g p rev k).set (gC g (bz g p rev k) rev).toNat (k:Int)
theorem mo {g:Gr} {p:Pl} {rev:Bool} :∀ {k:Nat},(ee g p rev k).length=g.n.toNat
 |0=>by simp [ee]
 |k+1=>by rw [ee,List.length_set,mo]
theorem gD {g:Gr} (hm:aL g=true) {f:Fr} (hi:fG g f) {x:Int} :x∈eM g f↔az g f x=true:=by
 simp only [eM,kJ,List.mem_map,List.mem_filter,List.mem_range]
 constructor
 ·rintro ⟨k,⟨h1,h2⟩,rfl⟩
  rw [← jO hm hi];exact h2
 ·intro h
  obtain ⟨h1,h2,_⟩:=aD h
  have e:((x.toNat:Nat):Int)=x:=by omega
  refine ⟨x.toNat,⟨by omega, ?_⟩,e⟩
  rw [e,jO hm hi];exact h
theorem tQ {g:Gr} (hm:aL g=true) {f:Fr} (hi:fG g f) (h:∃x,az g f x=true) (rev:Bool):az g f (gC g f rev)=true:=by
 unfold gC
 cases hf:(jf rev f.row).find? (fun t=>az g f t.2.2) with
 |some t=>
  have h2:=List.find?_some (p:=fun t:It=>az g f t.2.2) hf
  exact h2
 |none=>
  obtain ⟨x,hx⟩:=h
  have hx:=(gD hm hi).2 hx
  match hL:eM g f with
  | []=>rw [hL] at hx;cases hx
  |y::l=>exact (gD hm hi).1 (by rw [hL];simp)
theorem oN {g:Gr} {p:Pl} (h:aX g p) (rev:Bool):∀ {k:Nat},k≤g.n.toNat→xe g (bz g p rev k)∧(bz g p rev k).pl.length=k∧tO g p (g.n.toNat - k) (bz g p rev k)∧(bz g p rev k).row.length≤k*(g.es.length+1)
 |0,_=>⟨oJ g,rfl,yM h (k:=0) (by omega),by simp [bz]⟩
 |k+1,hk=>by
  have hm:=aj h.1
  have hn:=aG hm
  obtain ⟨h1,h2,h3,h4⟩:=oN h rev (k:=k) (by omega)
  obtain ⟨m,hmm⟩:∃m,g.n.toNat - k=m+1:=⟨g.n.toNat - k - 1,by omega⟩
  rw [hmm] at h3
  have hR:=tQ hm h1.tofG (by obtain ⟨x,hx,_⟩:=h3;exact ⟨x,hx⟩) rev
  have hx:=aD hR
  have hp:=bK h.2.1 hx.1 hx.2.1
  have hl:=vj (g:=g) (f:=bz g p rev k) (x:=gC g (bz g p rev k) rev) (o:=cj p (gC g (bz g p rev k) rev))
  have Fl:=ru h.2.1 hx.1 hx.2.1
  refine ⟨gB hm h1 hR hp,hl.2.trans (by rw [h2]), ?_, ?_⟩
  ·rw [show g.n.toNat - (k+1)=m by omega]
   exact yL h.1 h.2.1 h1 (by omega) h3 hR
  ·show (aA _ _ _ _).2.row.length≤_
   rw [Nat.add_mul];omega
theorem tT {g:Gr} {p:Pl} (h:aX g p) (rev:Bool) {k:Nat} (hk:k<g.n.toNat):az g (bz g p rev k) (gC g (bz g p rev k) rev)=true∧eM g (bz g p rev k)≠ []:=by
 have hm:=aj h.1
 obtain ⟨h1,h2,h3,_⟩:=oN h rev (k:=k) (by omega)
 obtain ⟨m,hmm⟩:∃m,g.n.toNat - k=m+1:=⟨g.n.toNat - k - 1,by omega⟩
 rw [hmm] at h3
 have hR:=tQ hm h1.tofG (by obtain ⟨x,hx,_⟩:=h3;exact ⟨x,hx⟩) rev
 exact ⟨hR,fun e=>by
  have:=(gD hm h1.tofG).2 hR
  rw [e] at this;cases this⟩
def iN (g:Gr) (p:Pl) (rev:Bool):List Int:=(List.range g.n.toNat).map fun k=>gC g (bz g p rev k) rev
theorem BR {g:Gr} {p:Pl} (rev:Bool):∀ {k:Nat},(bz g p rev k).pl=(List.range k).map fun j=>gC g (bz g p rev j) rev
 |0=>rfl
 |k+1=>by
  rw [List.range_succ,List.map_append, ← BR rev (k:=k)]
  rfl
theorem vo {g:Gr} {p:Pl} (h:aX g p) (rev:Bool):aX g ⟨iN g p rev,p.outs⟩:=by
 have hm:=aj h.1
 have hn:=aG hm
 obtain ⟨h1,h2,_,_⟩:=oN h rev (k:=g.n.toNat) (Nat.le_refl _)
 have cx:(bz g p rev g.n.toNat).pl=iN g p rev:=BR rev
 have hQ:bg g ⟨iN g p rev,p.outs⟩:=by
  refine ⟨h.2.1.1, ?_,h.2.1.2.2⟩
  show (iN g p rev).Perm (dx g.n.toNat)
  rw [← cx]
  refine (rq (ms:=(bz g p rev g.n.toNat).pl) (os:=dx g.n.toNat) h1.pl (fun x hx=>cE.2 (by have:=h1.mM x hx;omega)) (by rw [jS,h2])).symm
 have mE:∀k,k<g.n.toNat→aE ⟨iN g p rev,p.outs⟩ k=gC g (bz g p rev k) rev:=fun k hk=>by
  simp [aE,iN,List.getD_eq_getElem?_getD,List.getElem?_range hk]
 have S2:∀k,k≤g.n.toNat→fK g ⟨iN g p rev,p.outs⟩ k=bz g p rev k:=by
  intro k
  induction k with
  |zero=>intro _;rfl
  |succ k ih=>
   intro hk
   show (aA g (fK g ⟨iN g p rev,p.outs⟩ k) _ _).2=_
   rw [mE k (by omega),ih (by omega)]
   rfl
 refine ⟨h.1,hQ,fun k hk=> ?_⟩
 unfold qx
 rw [S2 k (by omega),mE k hk]
 exact (tT h rev hk).1
end Go.Ab
end
section
namespace Go.Ab
open Go.Proofs
set_option maxRecDepth 10000
def S3 (f:Fr):Fr:=⟨f.row.reverse,f.pl⟩
def S4 (p:Pl):Pl:=⟨p.ord,p.outs.map List.reverse⟩
theorem fq.rev {x:Int} {l:List It} (h:fq x l):fq x l.reverse:=fun t ht=>h t (List.mem_reverse.1 ht)
theorem Mid.rev {x:Int} {X:List It} (h:Mid x X):Mid x X.reverse:=
 ⟨by obtain ⟨X',q,h1,h2⟩:=h.JC;exact ⟨q,X'.reverse,by simp [h1],h2⟩,by obtain ⟨p,X',h1,h2⟩:=h.fst;exact ⟨X'.reverse,p,by simp [h1],h2⟩,fun t ht=>h.al t (List.mem_reverse.1 ht)⟩
theorem HE {g:Gr} {p:Pl} {rev:Bool} {k:Nat} (hk:k<g.n.toNat):(iN g p rev).getD k 0=gC g (bz g p rev k) rev:=by
 simp [iN,List.getD_eq_getElem?_getD,List.getElem?_range hk]
theorem BS {g:Gr} {p:Pl} (h:aX g p) (rev:Bool):∀ {k:Nat},k≤g.n.toNat→∀j,j<k→(ee g p rev k).getD ((iN g p rev).getD j 0).toNat 0=(j:Int)
 |0,_,j,hj=>by omega
 |k+1,hk,j,hj=>by
  have hQ:=(vo h rev).2.1
  have zW:=bB hQ (k:=k) (by omega)
  have PJ:=bB hQ (k:=j) (by omega)
  have ek:aE ⟨iN g p rev,p.outs⟩ k=(iN g p rev).getD k 0:=rfl
  have ej:aE ⟨iN g p rev,p.outs⟩ j=(iN g p rev).getD j 0:=rfl
  rw [ee, ← HE (by omega),mj (by rw [mo];omega)]
  by_cases e:j=k
  ·subst e;rw [if_pos rfl]
  ·rw [if_neg,BS h rev (by omega) j (by omega)]
   intro e2
   exact e (kN hQ (by omega) (by omega) (by omega))
end Go.Ab
end
section
namespace Go.Ab
open Go.Proofs
set_option maxRecDepth 10000
def loose (l:List It):List Int:=(l.filter fun t=>decide (t.1<0)).map fun t=>t.2.1
theorem bM {a b:List It} :loose (a++b)=loose a++loose b:=by simp [loose]
def cB (g:Gr) (p:Pl):Nat→List Edge
 |0=> []
 |k+1=>cB g p k++(loose (dg g p k)).map fun v=>(v,aE p k)
def aV (g:Gr) (p:Pl):List It:=(fK g p g.n.toNat).row
def newL (g:Gr) (p:Pl):List Edge:=if 1<(aV g p).length then (loose (aV g p)).map fun v=>(v,g.n) else []
def aZ (g:Gr) (p:Pl):List Edge:=cB g p g.n.toNat++newL g p
def ah (g:Gr) (p:Pl):Gr:=⟨if 1<(aV g p).length then g.n+1 else g.n,g.es++aZ g p⟩
def cP:Nat→List Edge→List (List Int)→List (List Int)
 |_, [],O=>O
 |m,e::N,O=>cP (m+1) N (O.set e.1.toNat [(m:Int)])
def bH (g:Gr) (p:Pl):Pl:=⟨if 1<(aV g p).length then p.ord++ [g.n] else p.ord,cP g.es.length (aZ g p) (if 1<(aV g p).length then p.outs++ [[]] else p.outs)⟩
def AM (g:Gr) (p:Pl) (x:Gr):List (List Int):=(List.range x.n.toNat).map fun v=>if 0<(p.outs.getD v []).length then p.outs.getD v [] else cu x (v:Int)
theorem gE:∀ {m:Nat} {N:List Edge} {O:List (List Int)},(cP m N O).length=O.length
 |_, [],_=>rfl
 |m,e::N,O=>by rw [cP,gE,List.length_set]
theorem oO:∀ {m:Nat} {N M:List Edge} {O:List (List Int)},cP m (N++M) O=cP (m+N.length) M (cP m N O)
 |_, [],_,_=>rfl
 |m,e::N,M,O=>by
  rw [List.cons_append,cP,cP,oO,List.length_cons]
  congr 1
  omega
theorem vp:∀ {m:Nat} {N:List Edge} {O:List (List Int)},(∀e∈N,e.1.toNat<O.length)→cP m N (O++ [[]])=cP m N O++ [[]]
 |_, [],_,_=>rfl
 |m,e::N,O,h=>by
  rw [cP,cP,List.set_append_left _ _ (h e (List.mem_cons_self ..))]
  exact vp fun e' he=>by rw [List.length_set];exact h e' (List.mem_cons_of_mem _ he)
theorem tU {v:Nat} :∀ {m:Nat} {N:List Edge} {O:List (List Int)},(∀e∈N,e.1.toNat<O.length)→(∀e∈N,e.1.toNat≠v)→(cP m N O).getD v []=O.getD v []
 |_, [],_,_,_=>rfl
 |m,e::N,O,h,hv=>by
  rw [cP,tU (fun e' he=>by rw [List.length_set];exact h e' (List.mem_cons_of_mem _ he)) fun e' he=>hv e' (List.mem_cons_of_mem _ he),mj (h e (List.mem_cons_self ..)),if_neg (Ne.symm (hv e (List.mem_cons_self ..)))]
theorem BT:∀ {m:Nat} {N:List Edge} {O:List (List Int)},(∀e∈N,0≤e.1∧e.1.toNat<O.length)→(N.map (·.1)).Nodup→∀ {j:Nat},j<N.length→(cP m N O).getD (N.getD j (0,0)).1.toNat []= [((m+j:Nat):Int)]
 |m,e::N,O,h,hd,0,_=>by
  rw [List.map_cons,List.nodup_cons] at hd
  rw [cP,List.getD_cons_zero,tU (fun e' he=>by rw [List.length_set];exact (h e' (List.mem_cons_of_mem _ he)).2) (fun e' he h2=>hd.1 ?_),mj (h e (List.mem_cons_self ..)).2,if_pos rfl]
  ·rfl
  ·have h3:=(h e (List.mem_cons_self ..)).1
   have h4:=(h e' (List.mem_cons_of_mem _ he)).1
   exact List.mem_map.2 ⟨e',he,by omega⟩
 |m,e::N,O,h,hd,j+1,hj=>by
  rw [List.map_cons,List.nodup_cons] at hd
  rw [cP,List.getD_cons_succ,BT (fun e' he=>by rw [List.length_set];exact h e' (List.mem_cons_of_mem _ he)) hd.2 (by simpa using hj)]
  congr 2
  omega
theorem pU {f:Edge→Int} {es N:List Edge} {x:Int} :aO f (es++N) (es++N).length x=aO f es es.length x++(aO f N N.length x).map (· +(es.length:Int)):=by
 unfold aO
 rw [List.length_append,List.range_add,List.filter_append,List.map_append,List.filter_map,List.map_map,List.map_map]
 congr 1
 ·congr 1
  refine List.filter_congr fun i hi=> ?_
  have:=List.mem_range.1 hi
  rw [List.getD_eq_getElem?_getD,List.getElem?_append_left this, ← List.getD_eq_getElem?_getD]
 ·have e1:(List.range N.length).filter ((fun i=>decide (f ((es++N).getD i (0,0))=x)) ∘ fun x=>es.length+x)=(List.range N.length).filter fun i=>decide (f (N.getD i (0,0))=x):=by
   refine List.filter_congr fun i hi=> ?_
   simp only [Function.comp]
   rw [List.getD_eq_getElem?_getD,List.getElem?_append_right (by omega),Nat.add_sub_cancel_left, ← List.getD_eq_getElem?_getD]
  rw [e1]
  refine List.map_congr_left fun i _=> ?_
  simp only [Function.comp]
  show ((es.length+i:Nat):Int)=(i:Int)+(es.length:Int)
  omega
theorem filter_one {j:Nat} :∀ {n:Nat},j<n→(List.range n).filter (fun i=>decide (i=j))= [j]
 |n+1,h=>by
  rw [List.range_succ,List.filter_append]
  by_cases e:j=n
  ·subst e
   have:(List.range j).filter (fun i=>decide (i=j))= []:=List.filter_eq_nil_iff.2 fun i hi=>by
    have:=List.mem_range.1 hi
    simp;omega
   rw [this];simp
  ·rw [filter_one (by omega)]
   have: [n].filter (fun i=>decide (i=j))= []:=List.filter_eq_nil_iff.2 fun i hi=>by
    rw [List.mem_singleton] at hi
    simp;omega
   rw [this];simp
theorem yN {N:List Edge} (hd:(N.map (·.1)).Nodup) {j:Nat} (hj:j<N.length):aO (·.1) N N.length (N.getD j (0,0)).1= [(j:Int)]:=by
 unfold aO
 have:(List.range N.length).filter (fun i=>decide ((N.getD i (0,0)).1=(N.getD j (0,0)).1))=(List.range N.length).filter (fun i=>decide (i=j)):=by
  refine List.filter_congr fun i hi=> ?_
  have hi:=List.mem_range.1 hi
  rw [decide_eq_decide]
  constructor
  ·intro h
   have e1:∀k,k<N.length→(N.map (·.1)).getD k 0=(N.getD k (0,0)).1:=fun k hk=>by
    simp [List.getD_eq_getElem?_getD,List.getElem?_eq_getElem hk]
   refine kG hd (by simpa using hi) (by simpa using hj) ?_
   rw [e1 i hi,e1 j hj,h]
  ·rintro rfl;rfl
 rw [this,filter_one hj]
 rfl
theorem iq {f:Edge→Int} {N:List Edge} {v:Int} (h:∀e∈N,f e≠v):aO f N N.length v= []:=by
 unfold aO
 rw [List.map_eq_nil_iff,List.filter_eq_nil_iff]
 intro i hi
 have:=h _ (aU (d:=(0,0)) (List.mem_range.1 hi))
 simpa using this
theorem yO {g:Gr} {x:Int} {o:List Int} (ho:∀i∈o,i∈cu g x):loose (aJ g x o)=if o= [] then [x] else []:=by
 unfold aJ
 split
 ·rfl
 ·simp only [loose,List.map_eq_nil_iff,List.filter_eq_nil_iff,List.mem_map]
  rintro t ⟨i,hi,rfl⟩
  obtain ⟨k,rfl,_⟩:=oK (ho i hi)
  simp [fQ]
theorem jT {g:Gr} (hm:aL g=true) {p:Pl} (h:bg g p):∀ {k:Nat},k≤g.n.toNat→(∀j,j<k→qx g p j=true)→
 ((cB g p k).map (·.1)++loose (fK g p k).row).Nodup∧∀v∈(cB g p k).map (·.1)++loose (fK g p k).row,v∈(fK g p k).pl∧cj p v= []
 |0,_,_=>by simp [cB,fK,loose]
 |k+1,hk,hok=>by
  obtain ⟨h1,h2⟩:=jT hm h (k:=k) (by omega) fun j hj=>hok j (by omega)
  obtain ⟨hi,cx,_⟩:=bX hm h (k:=k) (by omega) fun j hj=>hok j (by omega)
  have hR:az g (fK g p k) (aE p k)=true:=hok k (by omega)
  obtain ⟨x0,x1⟩:=bB h (k:=k) (by omega)
  have hx:=(aD hR).2.2
  have BO:=bK h x0 x1
  obtain ⟨A,X,C,hr,_,_,_,hs⟩:=eO hm hi.tofG hR
  have Mj:dg g p k=X:=by unfold dg;rw [hs]
  have hrow:(fK g p (k+1)).row=A++aJ g (aE p k) (cj p (aE p k))++C:=by show (aA _ _ _ _).2.row=_;rw [hs]
  have mU:(fK g p (k+1)).pl=(fK g p k).pl++ [aE p k]:=rfl
  have hla:=yO (g:=g) (x:=aE p k) (o:=cj p (aE p k)) fun i hi=>BO.mem_iff.1 hi
  have e1:(cB g p (k+1)).map (·.1)=(cB g p k).map (·.1)++loose X:=by
   rw [cB,Mj,List.map_append,List.map_map]
   congr 1
   simp [Function.comp_def]
  have e2:loose (fK g p (k+1)).row=loose A++(if cj p (aE p k)= [] then [aE p k] else [])++loose C:=by rw [hrow,bM,bM,hla]
  have e3:loose (fK g p k).row=loose A++loose X++loose C:=by rw [hr,bM,bM]
  rw [e3] at h1 h2
  have hP:((cB g p (k+1)).map (·.1)++loose (fK g p (k+1)).row).Perm (((cB g p k).map (·.1)++(loose A++loose X++loose C))++(if cj p (aE p k)= [] then [aE p k] else [])):=by
   rw [e1,e2,List.perm_iff_count]
   intro a
   simp only [List.count_append]
   omega
  constructor
  ·rw [hP.nodup_iff,List.nodup_append]
   refine ⟨h1,by split<;>simp,fun a ha b hb e=>hx ?_⟩
   split at hb
   ·rw [List.mem_singleton] at hb
    rw [← hb, ← e]
    exact (h2 a ha).1
   ·cases hb
  ·intro v hv
   rw [hP.mem_iff,List.mem_append] at hv
   rw [mU,List.mem_append,List.mem_singleton]
   rcases hv with hv|hv
   ·exact ⟨.inl (h2 v hv).1,(h2 v hv).2⟩
   ·split at hv
    ·rw [List.mem_singleton] at hv
     subst hv
     exact ⟨.inr rfl,by assumption⟩
    ·cases hv
theorem fJ {g:Gr} {p:Pl} (hr:aX g p):((aZ g p).map (·.1)).Nodup∧∀e∈aZ g p,(0≤e.1∧e.1<g.n)∧cj p e.1= []:=by
 obtain ⟨hc,h,hok⟩:=hr
 have hm:=aj hc
 obtain ⟨h1,h2⟩:=jT hm h (k:=g.n.toNat) (Nat.le_refl _) hok
 obtain ⟨hi,_⟩:=bX hm h (k:=g.n.toNat) (Nat.le_refl _) hok
 have e1:(aZ g p).map (·.1)=(cB g p g.n.toNat).map (·.1)++if 1<(aV g p).length then loose (aV g p) else []:=by
  rw [aZ,newL,List.map_append]
  congr 1
  split
  ·rw [List.map_map];simp [Function.comp_def]
  ·rfl
 have hsub:∀v∈(aZ g p).map (·.1),v∈(cB g p g.n.toNat).map (·.1)++loose (aV g p):=by
  intro v hv
  rw [e1,List.mem_append] at hv
  rw [List.mem_append]
  rcases hv with hv|hv
  ·exact .inl hv
  ·split at hv
   ·exact .inr hv
   ·cases hv
 constructor
 ·rw [e1]
  split
  ·exact h1
  ·rw [List.append_nil]
   exact (List.nodup_append.1 h1).1
 ·intro e he
  have:=h2 e.1 (hsub _ (List.mem_map.2 ⟨e,he,rfl⟩))
  exact ⟨hi.mM _ this.1,this.2⟩
theorem lJ {g:Gr} {p:Pl} (h:bg g p) {v:Int} (h0:0≤v) (h1:v<g.n):cu g v= []↔cj p v= []:=by
 have hp:=bK h h0 h1
 constructor
 ·intro e;rw [e] at hp;exact hp.eq_nil
 ·intro e;rw [e] at hp;exact hp.symm.eq_nil
theorem tV {g:Gr} {p:Pl} (hr:aX g p):(bH g p).outs=AM g p (ah g p):=by
 obtain ⟨r8,BU⟩:=fJ hr
 have h:=hr.2.1
 have hm:=aj hr.1
 have hn:=aG hm
 generalize hO:(if 1<(aV g p).length then p.outs++ [[]] else p.outs)=O
 have Ni:O.length=(ah g p).n.toNat:=by
  rw [← hO]
  unfold ah
  split
  ·rw [List.length_append,h.1];simp;omega
  ·rw [h.1]
 have S5:∀v,O.getD v []=p.outs.getD v []:=by
  intro v
  rw [← hO]
  split
  ·rw [List.getD_eq_getElem?_getD,List.getD_eq_getElem?_getD,List.getElem?_append]
   split
   ·rfl
   ·rename_i hv
    rw [List.getElem?_eq_none (by omega:p.outs.length≤v)]
    cases QW:v - p.outs.length<;>simp
  ·rfl
 have UP:g.n.toNat≤O.length:=by rw [← hO];split<;>simp [h.1]
 have nr:∀e∈aZ g p,0≤e.1∧e.1.toNat<O.length:=fun e he=>by
  have:=(BU e he).1;omega
 have Pr:∀e∈aZ g p,e.1.toNat<O.length:=fun e he=>(nr e he).2
 show cP g.es.length (aZ g p) (if 1<(aV g p).length then p.outs++ [[]] else p.outs)=_
 rw [hO]
 refine List.ext_getElem (by rw [gE,Ni];simp [AM]) fun v CF ER=> ?_
 rw [gE] at CF
 have hL:(cP g.es.length (aZ g p) O).getD v []=(cP g.es.length (aZ g p) O)[v]'(by rw [gE];exact CF):=by
  rw [List.getD_eq_getElem?_getD,List.getElem?_eq_getElem (by rw [gE];exact CF)];rfl
 rw [← hL]
 have hD:(AM g p (ah g p))[v]=if 0<(p.outs.getD v []).length then p.outs.getD v [] else cu (ah g p) (v:Int):=by simp [AM]
 rw [hD]
 have hlv:cj p (v:Int)=p.outs.getD v []:=by unfold cj;rw [Int.toNat_natCast]
 have hout:cu (ah g p) (v:Int)=cu g (v:Int)++(aO (·.1) (aZ g p) (aZ g p).length (v:Int)).map (· +(g.es.length:Int)):=pU
 by_cases hin:∃j,j<(aZ g p).length∧((aZ g p).getD j (0,0)).1=v
 ·obtain ⟨j,hj,e⟩:=hin
  have hmem:=aU (d:=(0,0)) hj
  obtain ⟨⟨q0,q1⟩,q2⟩:=BU _ hmem
  rw [e] at q0 q1 q2
  rw [hlv] at q2
  rw [q2,if_neg (by simp),hout,(lJ h q0 q1).2 (by rw [hlv];exact q2), ← e,yN r8 hj]
  have:=BT (m:=g.es.length) nr r8 hj
  rw [e,Int.toNat_natCast] at this
  rw [this]
  simp
  omega
 ·have hno:∀e∈aZ g p,e.1≠(v:Int):=fun e he h2=>hin (by
   obtain ⟨j,hj,e1⟩:=List.mem_iff_getElem.1 he
   exact ⟨j,hj,by rw [List.getD_eq_getElem?_getD,List.getElem?_eq_getElem hj,Option.getD_some,e1,h2]⟩)
  rw [tU Pr (fun e he h2=>hno e he (by have:=(nr e he).1;omega)),S5,hout,iq hno]
  simp only [List.map_nil,List.append_nil]
  split
  ·rfl
  ·rename_i hl
   have hl:p.outs.getD v []= []:=List.eq_nil_of_length_eq_zero (by omega)
   rw [hl]
   by_cases JN:v<g.n.toNat
   ·exact ((lJ h (v:=(v:Int)) (by omega) (by omega)).2 (by rw [hlv];exact hl)).symm
   ·symm
    refine iq fun e he h2=> ?_
    obtain ⟨i,hi,rfl⟩:=List.mem_iff_getElem.1 he
    have:=(dw hm hi).1
    rw [List.getD_eq_getElem?_getD,List.getElem?_eq_getElem hi,Option.getD_some] at this
    omega
end Go.Ab
end
section
namespace Go.Ab
open Go.Proofs
set_option maxRecDepth 10000
abbrev Act:=Int × List Int
def rA (a:Act):List D:= [.sc (.int .i64 a.1),sI a.2]
def sA (as':List Act):D:= .sl 2 (as'.map rA)
attribute [go_sem] sA
def Mk (g:Gr) (JO:List Act):Nat→Fr
 |0=>⟨[], []⟩
 |k+1=>(fE g (Mk g JO k) (JO.getD k (0, [])).1 (JO.getD k (0, [])).2).2
theorem Ml {g:Gr} {f:Fr} (hi:fG g f):(f.pl.length:Int)≤g.n∨f.pl= []:=by
 by_cases h:f.pl= []
 ·exact .inr h
 ·left
  obtain ⟨y,hy⟩:=List.exists_mem_of_ne_nil _ h
  have:=hi.mM y hy
  have h3:=iM hi.pl (m:=(List.range g.n.toNat).map Int.ofNat) (fun y hy=>by
   rw [List.mem_map]
   have:=hi.mM y hy
   exact ⟨y.toNat,List.mem_range.2 (by omega),by simp;omega⟩)
  simp at h3
  omega
theorem qz (g:Gr) (hm:aL g=true) (f:Fr) (hi:xe g f) (x:Int) (outs:List Int) (hr:f.row.length≤300000) (hp:f.pl.length≤100000) (ho:outs.length≤17592186043904):
 Spec Tryz.prog 89 (Args [.ptr 10000 0,eN x, .d (sI outs)]) (iU g f) (.tup [.d (sT (fE g f x outs).1.1),eN (fE g f x outs).1.2]) (pg g (fE g f x outs).2):=by
 rw [← FC hm hi.tofG]
 exact AK g hm f x outs hr hp ho
end Go.Ab
end
section
namespace Go.Ab
open Go.Proofs
attribute [local congr] ACall.congr gd.congr Nx.congr
set_option maxRecDepth 10000
set_option maxHeartbeats 4000000
def ePl (p:Pl):AV:= .agg [.d (sI p.ord), .d (.sl 1 (vI p.outs))]
attribute [go_sem] ePl
structure oR (p:Pl):Prop where
 ord:p.ord.length≤17592186043904
 outs:p.outs.length≤9223372036854775807
 each:∀l∈p.outs,l.length≤17592186043904
theorem FK (g:Gr) (hm:aL g=true) (p:Pl) (hp:oR p) (res:Bool) (hr:res=true↔bg g p):Spec Tryz.prog 88 (Args [.d (vw g),ePl p]) [] (eB res) []:=by
 rw [← HD hm] at hr
 have hn:=aG hm
 have ho:=hp.ord
 have MZ:=hp.outs
 by_cases h1:p.outs.length=g.n.toNat∧p.ord.length=g.n.toNat
 rotate_left
 ·have hres:res=false:=by
   rw [← Bool.not_eq_true,hr]
   rintro ⟨h2,h3,_⟩
   exact h1 ⟨h2,h3⟩
  subst hres
  by_cases h2:(p.outs.length:Int)=g.n
  ·have hb1:decide ((p.outs.length:Int)=g.n)=true:=decide_eq_true h2
   have hb2:decide ((p.ord.length:Int)=g.n)=false:=decide_eq_false fun h3=>h1 ⟨by omega,by omega⟩
   (refine Spec.hd (C:=T.cfg [] []) (rs:= [.t 4]) (T.ai _ _) Tryz.func88 rfl rfl Tryz.ntmps88 Tryz.results88 (by simp [AObj.isNest]) (by simp [AObj.isNest]) (by kernel_rfl) T.mixed fun X hX hP hC aQ cy=> ?_)
   repeat' (first|refine Rn.p ?_|(with_reducible apply And.intro)|((first|(refine hK _ ?_;clear hK K)|with_reducible intro K hK|refine Rs.p ?_|((with_reducible first|apply oP|apply oQ);exact rfl));try simp only [go_sem,simprocAttr,aq,hb1,hb2])|((with_reducible refine oD ?_ ?_);kernel_rfl)|((with_reducible intro h);try simp only [go_sem,simprocAttr,aq,hb1,hb2] at h)|omega|intro h)
  ·have hb1:decide ((p.outs.length:Int)=g.n)=false:=decide_eq_false h2
   (refine Spec.hd (C:=T.cfg [] []) (rs:= [.t 4]) (T.ai _ _) Tryz.func88 rfl rfl Tryz.ntmps88 Tryz.results88 (by simp [AObj.isNest]) (by simp [AObj.isNest]) (by kernel_rfl) T.mixed fun X hX hP hC aQ cy=> ?_)
   repeat' (first|refine Rn.p ?_|(with_reducible apply And.intro)|((first|(refine hK _ ?_;clear hK K)|with_reducible intro K hK|refine Rs.p ?_|((with_reducible first|apply oP|apply oQ);exact rfl));try simp only [go_sem,simprocAttr,aq,hb1])|((with_reducible refine oD ?_ ?_);kernel_rfl)|((with_reducible intro h);try simp only [go_sem,simprocAttr,aq,hb1] at h)|omega|intro h)
 have hb1:decide ((p.outs.length:Int)=g.n)=true:=decide_eq_true (by omega)
 have hb2:decide ((p.ord.length:Int)=g.n)=true:=decide_eq_true (by omega)
 have Ec:=eD p.ord
 (refine Spec.hd (C:=T.cfg [] []) (rs:= [.t 4]) (T.ai _ _) Tryz.func88 rfl rfl Tryz.ntmps88 Tryz.results88 (by simp [AObj.isNest]) (by simp [AObj.isNest]) (by kernel_rfl) T.mixed fun X hX hP hC aQ cy=> ?_)
 repeat' (first|refine Rn.p ?_|(with_reducible apply And.intro)|((first|(refine hK _ ?_;clear hK K)|with_reducible intro K hK|refine Rs.p ?_|((with_reducible first|apply oP|apply oQ);exact rfl)|(refine an hX hC hP [(10000,31)] (cz p.ord) rfl rfl rfl ?_ ?_ ?_ ?_ ?_ ?_ ?_ ?_ ?_ ?_ ?_ ?_ ?_ ?_;(focus (simp only [go_sem,simprocAttr,aq,hb1,hb2];done));(iterate 12 (focus (simp [go_sem,simprocAttr,aq,hb1,hb2];done)));try simp only [List.map_cons,List.map_nil])|(refine bu hX hC hP [(10000,31)] (b7 p.ord ho) rfl rfl rfl ?_ ?_ ?_ ?_ ?_ ?_ rfl rfl ?_ ?_;(focus (simp only [go_sem,simprocAttr,aq,hb1,hb2];done));(iterate 6 (focus (simp [go_sem,simprocAttr,aq,hb1,hb2];done)));try simp only [List.map_cons,List.map_nil]));try simp only [go_sem,simprocAttr,aq,hb1,hb2])|((with_reducible refine oD ?_ ?_);kernel_rfl)|((with_reducible intro h);try simp only [go_sem,simprocAttr,aq,hb1,hb2] at h)|omega|intro h)
 clear hb1 hb2
 refine ak (fun k:Nat=>k≤(gL p.ord).length∧∀i:Nat,i<k→(gL p.ord).getD i 0=i) (fun k=>⟨[(0, .d (vw g)),(3, .ptr 3 0),(32, .d (sI (gL p.ord))),(33,eN (gL p.ord).length),(34,eN k)], [(3, .box [.d (sI p.ord), .d (.sl 1 (vI p.outs))])]⟩) (fun k=>(gL p.ord).length - k) 0 (by simp) ?_ ?_
 ·(refine Le.of ?_ ?_<;>simp [go_sem,simprocAttr,aq])
 rintro k ⟨hk,hg⟩
 rcases Nat.lt_or_ge k (gL p.ord).length with hlt|hge
 ·have hb:decide ((k:Int)<((gL p.ord).length:Int))=true:=decide_eq_true (by omega)
  by_cases he:(gL p.ord).getD k 0=k
  ·have hb2:decide ((gL p.ord).getD k 0=(k:Int))=true:=decide_eq_true he
   repeat' (first|refine Rn.p ?_|(with_reducible apply And.intro)|((first|(refine hK _ ?_;clear hK K)|with_reducible intro K hK|refine Rs.p ?_|((with_reducible first|apply oP|apply oQ);exact rfl)|(refine an hX hC hP [(10000,31)] (cz p.ord) rfl rfl rfl ?_ ?_ ?_ ?_ ?_ ?_ ?_ ?_ ?_ ?_ ?_ ?_ ?_ ?_;(focus (simp only [go_sem,simprocAttr,aq,hb,hb2];done));(iterate 12 (focus (simp [go_sem,simprocAttr,aq,hb,hb2];done)));try simp only [List.map_cons,List.map_nil])|(refine bu hX hC hP [(10000,31)] (b7 p.ord ho) rfl rfl rfl ?_ ?_ ?_ ?_ ?_ ?_ rfl rfl ?_ ?_;(focus (simp only [go_sem,simprocAttr,aq,hb,hb2];done));(iterate 6 (focus (simp [go_sem,simprocAttr,aq,hb,hb2];done)));try simp only [List.map_cons,List.map_nil]));try simp only [go_sem,simprocAttr,aq,hb,hb2])|((with_reducible refine oD ?_ ?_);kernel_rfl)|((with_reducible intro h);try simp only [go_sem,simprocAttr,aq,hb,hb2] at h)|omega|intro h)
   refine ⟨k+1,⟨by omega,fun i hi=> ?_⟩, ?_,by omega⟩
   ·by_cases hik:i=k
    ·subst hik;exact he
    ·exact hg i (by omega)
   ·(refine Le.of ?_ ?_<;>simp [go_sem,simprocAttr,aq,hb,hb2])
  ·have hb2:decide ((gL p.ord).getD k 0=(k:Int))=false:=decide_eq_false he
   have hres:res=false:=by
    rw [← Bool.not_eq_true,hr]
    rintro ⟨_,_,h3,_⟩
    exact he (h3 k hlt)
   subst hres
   repeat' (first|refine Rn.p ?_|(with_reducible apply And.intro)|((first|(refine hK _ ?_;clear hK K)|with_reducible intro K hK|refine Rs.p ?_|((with_reducible first|apply oP|apply oQ);exact rfl)|(refine an hX hC hP [(10000,31)] (cz p.ord) rfl rfl rfl ?_ ?_ ?_ ?_ ?_ ?_ ?_ ?_ ?_ ?_ ?_ ?_ ?_ ?_;(focus (simp only [go_sem,simprocAttr,aq,hb,hb2];done));(iterate 12 (focus (simp [go_sem,simprocAttr,aq,hb,hb2];done)));try simp only [List.map_cons,List.map_nil])|(refine bu hX hC hP [(10000,31)] (b7 p.ord ho) rfl rfl rfl ?_ ?_ ?_ ?_ ?_ ?_ rfl rfl ?_ ?_;(focus (simp only [go_sem,simprocAttr,aq,hb,hb2];done));(iterate 6 (focus (simp [go_sem,simprocAttr,aq,hb,hb2];done)));try simp only [List.map_cons,List.map_nil]));try simp only [go_sem,simprocAttr,aq,hb,hb2])|((with_reducible refine oD ?_ ?_);kernel_rfl)|((with_reducible intro h);try simp only [go_sem,simprocAttr,aq,hb,hb2] at h)|omega|intro h)
 have hb:decide ((k:Int)<((gL p.ord).length:Int))=false:=decide_eq_false (by omega)
 repeat' (first|refine Rn.p ?_|(with_reducible apply And.intro)|((first|(refine hK _ ?_;clear hK K)|with_reducible intro K hK|refine Rs.p ?_|((with_reducible first|apply oP|apply oQ);exact rfl)|(refine an hX hC hP [(10000,31)] (cz p.ord) rfl rfl rfl ?_ ?_ ?_ ?_ ?_ ?_ ?_ ?_ ?_ ?_ ?_ ?_ ?_ ?_;(focus (simp only [go_sem,simprocAttr,aq,hb];done));(iterate 12 (focus (simp [go_sem,simprocAttr,aq,hb];done)));try simp only [List.map_cons,List.map_nil])|(refine bu hX hC hP [(10000,31)] (b7 p.ord ho) rfl rfl rfl ?_ ?_ ?_ ?_ ?_ ?_ rfl rfl ?_ ?_;(focus (simp only [go_sem,simprocAttr,aq,hb];done));(iterate 6 (focus (simp [go_sem,simprocAttr,aq,hb];done)));try simp only [List.map_cons,List.map_nil]));try simp only [go_sem,simprocAttr,aq,hb])|((with_reducible refine oD ?_ ?_);kernel_rfl)|((with_reducible intro h);try simp only [go_sem,simprocAttr,aq,hb] at h)|omega|intro h)
 obtain rfl:k=(gL p.ord).length:=by omega
 clear hb hk
 refine ak (fun x:Nat=>x≤p.outs.length∧∀i:Nat,i<x→gL (p.outs.getD i [])=bt (·.1) g i) (fun x=>⟨[(0, .d (vw g)),(44, .d (.sl 1 (vI p.outs))),(45,eN p.outs.length),(46,eN x)], []⟩) (fun x=>p.outs.length - x) 0 (by simp) ?_ ?_
 ·refine Le.of ?_ ?_<;>simp [go_sem,simprocAttr,aq]
 rintro x ⟨hx,FL⟩
 rcases Nat.lt_or_ge x p.outs.length with hxl|S6
 ·have hb:decide ((x:Int)<(p.outs.length:Int))=true:=decide_eq_true (by omega)
  have hv:=fF hxl
  have hl:=hp.each _ (aU (d:= []) hxl)
  have hn2:∀h:gL (p.outs.getD x [])=bt (·.1) g x,∀i:Nat,i<x+1→gL (p.outs.getD i [])=bt (·.1) g i:=fun h i hi=>by
   by_cases Nj:i=x
   ·subst Nj;exact h
   ·exact FL i (by omega)
  have uF:¬gL (p.outs.getD x [])=bt (·.1) g x→res=false:=fun h=>by
   rw [← Bool.not_eq_true,hr]
   rintro ⟨_,_,_,h4⟩
   exact h (h4 x hxl)
  generalize p.outs.getD x []=l at hv hl hn2 uF
  have S7:=eD l
  by_cases he:gL l=bt (·.1) g x
  ·have hb2:decide (gL l=bt (·.1) g (x:Int))=true:=decide_eq_true he
   repeat' (first|refine Rn.p ?_|(with_reducible apply And.intro)|((first|(refine hK _ ?_;clear hK K)|with_reducible intro K hK|refine Rs.p ?_|((with_reducible first|apply oP|apply oQ);exact rfl)|(refine an hX hC hP [(10000,52)] (cz l) rfl rfl rfl ?_ ?_ ?_ ?_ ?_ ?_ ?_ ?_ ?_ ?_ ?_ ?_ ?_ ?_;(focus (simp only [go_sem,simprocAttr,hb,hv,hb2];done));(iterate 12 (focus (simp [go_sem,simprocAttr,hb,hv,hb2];done)));try simp only [List.map_cons,List.map_nil])|(refine bu hX hC hP [(10000,52)] (b7 l hl) rfl rfl rfl ?_ ?_ ?_ ?_ ?_ ?_ rfl rfl ?_ ?_;(focus (simp only [go_sem,simprocAttr,hb,hv,hb2];done));(iterate 6 (focus (simp [go_sem,simprocAttr,hb,hv,hb2];done)));try simp only [List.map_cons,List.map_nil])|refine aa hX hC hP (ig g hm (x:Int)) rfl rfl rfl (by simp only [go_sem,simprocAttr,hb,hv,hb2]) rfl ?_|refine aa hX hC hP (ff (gL l) (bt (·.1) g x) (by omega)) rfl rfl rfl (by simp only [go_sem,simprocAttr,hb,hv,hb2]) rfl ?_);try simp only [go_sem,simprocAttr,hb,hv,hb2])|((with_reducible refine oD ?_ ?_);kernel_rfl)|((with_reducible intro h);try simp only [go_sem,simprocAttr,hb,hv,hb2] at h)|omega|intro h)
   refine ⟨x+1,⟨by omega,hn2 he⟩, ?_,by omega⟩
   (refine Le.of ?_ ?_<;>simp [go_sem,simprocAttr,hb,hv,hb2])
  ·have hb2:decide (gL l=bt (·.1) g (x:Int))=false:=decide_eq_false he
   have hres:=uF he
   subst hres
   repeat' (first|refine Rn.p ?_|(with_reducible apply And.intro)|((first|(refine hK _ ?_;clear hK K)|with_reducible intro K hK|refine Rs.p ?_|((with_reducible first|apply oP|apply oQ);exact rfl)|(refine an hX hC hP [(10000,52)] (cz l) rfl rfl rfl ?_ ?_ ?_ ?_ ?_ ?_ ?_ ?_ ?_ ?_ ?_ ?_ ?_ ?_;(focus (simp only [go_sem,simprocAttr,hb,hv,hb2];done));(iterate 12 (focus (simp [go_sem,simprocAttr,hb,hv,hb2];done)));try simp only [List.map_cons,List.map_nil])|(refine bu hX hC hP [(10000,52)] (b7 l hl) rfl rfl rfl ?_ ?_ ?_ ?_ ?_ ?_ rfl rfl ?_ ?_;(focus (simp only [go_sem,simprocAttr,hb,hv,hb2];done));(iterate 6 (focus (simp [go_sem,simprocAttr,hb,hv,hb2];done)));try simp only [List.map_cons,List.map_nil])|refine aa hX hC hP (ig g hm (x:Int)) rfl rfl rfl (by simp only [go_sem,simprocAttr,hb,hv,hb2]) rfl ?_|refine aa hX hC hP (ff (gL l) (bt (·.1) g x) (by omega)) rfl rfl rfl (by simp only [go_sem,simprocAttr,hb,hv,hb2]) rfl ?_);try simp only [go_sem,simprocAttr,hb,hv,hb2])|((with_reducible refine oD ?_ ?_);kernel_rfl)|((with_reducible intro h);try simp only [go_sem,simprocAttr,hb,hv,hb2] at h)|omega|intro h)
 ·have hb:decide ((x:Int)<(p.outs.length:Int))=false:=decide_eq_false (by omega)
  obtain rfl:x=p.outs.length:=by omega
  have hres:res=true:=hr.2 ⟨h1.1,h1.2,fun i hi=>hg i (by omega),FL⟩
  subst hres
  repeat' (first|refine Rn.p ?_|(with_reducible apply And.intro)|((first|(refine hK _ ?_;clear hK K)|with_reducible intro K hK|refine Rs.p ?_|((with_reducible first|apply oP|apply oQ);exact rfl)|(refine an hX hC hP [(10000,52)] (cz l) rfl rfl rfl ?_ ?_ ?_ ?_ ?_ ?_ ?_ ?_ ?_ ?_ ?_ ?_ ?_ ?_;(focus (simp only [go_sem,simprocAttr,hb];done));(iterate 12 (focus (simp [go_sem,simprocAttr,hb];done)));try simp only [List.map_cons,List.map_nil])|(refine bu hX hC hP [(10000,52)] (b7 l hl) rfl rfl rfl ?_ ?_ ?_ ?_ ?_ ?_ rfl rfl ?_ ?_;(focus (simp only [go_sem,simprocAttr,hb];done));(iterate 6 (focus (simp [go_sem,simprocAttr,hb];done)));try simp only [List.map_cons,List.map_nil])|refine aa hX hC hP (ig g hm (x:Int)) rfl rfl rfl (by simp only [go_sem,simprocAttr,hb]) rfl ?_|refine aa hX hC hP (ff (gL l) (bt (·.1) g x) (by omega)) rfl rfl rfl (by simp only [go_sem,simprocAttr,hb]) rfl ?_);try simp only [go_sem,simprocAttr,hb])|((with_reducible refine oD ?_ ?_);kernel_rfl)|((with_reducible intro h);try simp only [go_sem,simprocAttr,hb] at h)|omega|intro h)
end Go.Ab
end
section
namespace Go.Ab
open Go.Proofs
attribute [local congr] ACall.congr gd.congr Nx.congr
set_option maxRecDepth 10000
set_option maxHeartbeats 8000000
def S8 (m:Nat) (fl:List Int):List Int:=(List.range m).map fun i:Nat=>if (i:Int)∈fl then (1:Int) else 0
theorem FM {g:Gr} {x i:Int} :i∈cu g x↔(0≤i∧i<g.es.length)∧(g.es.getD i.toNat (0,0)).1=x:=by
 constructor
 ·exact ij
 ·rintro ⟨⟨h1,h2⟩,h3⟩
  simp only [cu,aO,List.mem_map,List.mem_filter,List.mem_range,decide_eq_true_eq]
  exact ⟨i.toNat,⟨by omega,h3⟩,by simp;omega⟩
end Go.Ab
end
section
namespace Go.Ab
open Go.Proofs
attribute [local congr] ACall.congr gd.congr Nx.congr
set_option maxRecDepth 10000
set_option maxHeartbeats 8000000
def cq (b:Bool) (g:Gr) (p:Pl):(List (List It) × List It) × Int × Int:=
 if b=false then (([], []),(1,0)) else
 match jR g p g.n.toNat with
 |some i=>(([], []),(3,(i:Int)))
 |none=>((gl g p g.n.toNat,(fK g p g.n.toNat).row),(0,0))
theorem JP {n:Nat} :List.replicate n [D.sl 3 []]=vT (List.replicate n []):=by simp [vT,sT]
theorem JQ {ls:List (List It)} {k:Nat} {l:List It} :(vT ls).set k [sT l]=vT (ls.set k l):=by simp [vT,List.map_set]
theorem Dh {g:Gr} {p:Pl} {k:Nat} :gl g p (k+1)=(gl g p k).set (aE p k).toNat (dg g p k):=rfl
end Go.Ab
end
section
namespace Go.Ab
open Go.Proofs
attribute [local congr] ACall.congr gd.congr Nx.congr
set_option maxRecDepth 10000
set_option maxHeartbeats 8000000
theorem gq (g:Gr) (hl:g.es.length≤1000) (p:Pl) (hp:oR p) (b:Bool) (hr:b=true↔(cg g).1=0∧bg g p):
 Spec Tryz.prog 38 (Args [eG g,ePl p]) [] (.tup [.d (.sl 1 (vT (cq b g p).1.1)), .d (sT (cq b g p).1.2),eF ((cq b g p).2.1,(cq b g p).2.2, [])]) []:=by
 by_cases hc:(cg g).1=0
 rotate_left
 ·obtain rfl:b=false:=by
   rw [← Bool.not_eq_true,hr]
   exact fun h=>hc h.1
  have hR:cq false g p=(([], []),(1,0)):=rfl
  rw [hR]
  (refine Spec.hd (C:=T.cfg [] []) (rs:= [.t 4, .t 5, .c 6 64]) (T.ai _ _) Tryz.func38 rfl rfl Tryz.ntmps38 Tryz.results38 (by simp [AObj.isNest]) (by simp [AObj.isNest]) (by kernel_rfl) T.mixed fun X hX hP hC aQ cy=> ?_)
  repeat' (first|refine Rn.p ?_|(with_reducible apply And.intro)|((first|(refine hK _ ?_;clear hK K)|with_reducible intro K hK|refine Rs.p ?_|((with_reducible first|apply oP|apply oQ);exact rfl)|refine aa hX hC hP (Da g hl hc) rfl rfl rfl (by simp only [go_sem,simprocAttr,vT,List.map_nil]) rfl ?_);try simp only [go_sem,simprocAttr,vT,List.map_nil])|((with_reducible refine oD ?_ ?_);kernel_rfl)|((with_reducible intro h);try simp only [go_sem,simprocAttr,vT,List.map_nil] at h)|omega|intro h)
 have hm:=aj hc
 have hn:=aG hm
 have hr:b=true↔bg g p:=by rw [hr];exact ⟨fun h=>h.2,fun h=>⟨hc,h⟩⟩
 have hO:=FK g hm p hp b hr
 cases b with
 |false=>
  have hR:cq false g p=(([], []),(1,0)):=rfl
  rw [hR]
  (refine Spec.hd (C:=T.cfg [] []) (rs:= [.t 4, .t 5, .c 6 64]) (T.ai _ _) Tryz.func38 rfl rfl Tryz.ntmps38 Tryz.results38 (by simp [AObj.isNest]) (by simp [AObj.isNest]) (by kernel_rfl) T.mixed fun X hX hP hC aQ cy=> ?_)
  repeat' (first|refine Rn.p ?_|(with_reducible apply And.intro)|((first|(refine hK _ ?_;clear hK K)|with_reducible intro K hK|refine Rs.p ?_|((with_reducible first|apply oP|apply oQ);exact rfl)|(refine iG hX hC hP [(10000,13)] (pQ g hl hc hm) rfl rfl rfl ?_ ?_ ?_ ?_ ?_ ?_ ?_ ?_ ?_ ?_ ?_ ?_ ?_ ?_;(focus (simp only [go_sem,simprocAttr,vT,List.map_nil];done));(iterate 12 (focus (simp [go_sem,simprocAttr,vT,List.map_nil];done)));try simp only [List.map_cons,List.map_nil])|refine aa hX hC hP (gP g hm) rfl rfl rfl (by simp only [go_sem,simprocAttr,vT,List.map_nil]) rfl ?_|refine aa hX hC hP (hO) rfl rfl rfl (by simp only [go_sem,simprocAttr,vT,List.map_nil]) rfl ?_);try simp only [go_sem,simprocAttr,vT,List.map_nil])|((with_reducible refine oD ?_ ?_);kernel_rfl)|((with_reducible intro h);try simp only [go_sem,simprocAttr,vT,List.map_nil] at h)|omega|intro h)
 |true=>
 have uG:=hr.1 rfl
 have hle:=aP uG
 have hR:cq true g p=match jR g p g.n.toNat with
  |some i=>(([], []),(3,(i:Int)))
  |none=>((gl g p g.n.toNat,(fK g p g.n.toNat).row),(0,0)):=rfl
 generalize cq true g p=R at hR
 (refine Spec.hd (C:=T.cfg [] []) (rs:= [.t 4, .t 5, .c 6 64]) (T.ai _ _) Tryz.func38 rfl rfl Tryz.ntmps38 Tryz.results38 (by simp [AObj.isNest]) (by simp [AObj.isNest]) (by kernel_rfl) T.mixed fun X hX hP hC aQ cy=> ?_)
 repeat' (first|(show cr _ (.seq (.region 5 _ _) _) _ _;(refine yl 13 0 3 rfl rfl rfl ?_;simp only [List.set_cons_zero,List.set_cons_succ,go_sem,simprocAttr]);(refine jz hX 13 2 100 (.tip 3 1 []) rfl rfl rfl (by simp only [go_sem,simprocAttr]) (by decide) (by simp [go_sem,simprocAttr]) ⟨3,1,by decide, .inr rfl⟩ ?_;simp only [List.set_cons_zero,List.set_cons_succ,go_sem,simprocAttr]))|refine Rn.p ?_|(with_reducible apply And.intro)|((first|(refine hK _ ?_;clear hK K)|with_reducible intro K hK|refine Rs.p ?_|((with_reducible first|apply oP|apply oQ);exact rfl)|(refine iG hX hC hP [(10000,13)] (pQ g hl hc hm) rfl rfl rfl ?_ ?_ ?_ ?_ ?_ ?_ ?_ ?_ ?_ ?_ ?_ ?_ ?_ ?_;(focus (simp only [go_sem,simprocAttr];done));(iterate 12 (focus (simp [go_sem,simprocAttr];done)));try simp only [List.map_cons,List.map_nil])|refine aa hX hC hP (gP g hm) rfl rfl rfl (by simp only [go_sem,simprocAttr]) rfl ?_|refine aa hX hC hP (hO) rfl rfl rfl (by simp only [go_sem,simprocAttr]) rfl ?_);try simp only [go_sem,simprocAttr])|((with_reducible refine oD ?_ ?_);kernel_rfl)|((with_reducible intro h);try simp only [go_sem,simprocAttr] at h)|omega|intro h)
 rw [JP]
 refine ak (fun k:Nat=>k≤g.n.toNat∧∀j,j<k→qx g p j=true) (fun k=>⟨[(3, .ptr 3 0),(4, .ref 28),(6, .ptr 6 0),(7, .ptr 13 0),(30, .d (sI p.ord)),(31,eN p.ord.length),(32,eN k)], [(28, .own 78 1 (vT (gl g p k))),(13, .box [.d (sT (fK g p k).row), .d (vw g), .ref 100]),(100, .tip 3 1 ((fK g p k).pl.map rI)),(6, .box [eN 0,eN 0, .nil 3]),(3, .box [.d (sI p.ord), .d (.sl 1 (vI p.outs))])]⟩) (fun k=>g.n.toNat - k) 0 (by simp) ?_ ?_
 ·refine Le.of ?_ ?_<;>simp [go_sem,simprocAttr,SP,fK,gl]
 rintro k ⟨hk,hok⟩
 obtain ⟨hi,_,hrl⟩:=bX hm uG hk hok
 have hel:=oL (g:=g) (p:=p) (k:=k)
 have hmul:k*(g.es.length+1)≤64*129:=Nat.mul_le_mul (by omega) (by omega)
 rcases Nat.lt_or_ge k g.n.toNat with hlt|hge
 ·have hb:decide ((k:Int)<(p.ord.length:Int))=true:=decide_eq_true (by omega)
  have Mm:=bB uG hlt
  have dS:=Dh (g:=g) (p:=p) (k:=k)
  have Kw:fK g p (k+1)=(aA g (fK g p k) (aE p k) (cj p (aE p k))).2:=rfl
  have FL:dg g p k=(aA g (fK g p k) (aE p k) (cj p (aE p k))).1.1:=rfl
  have hpk:=FI uG hlt
  have Mn:=FJ (g:=g) (p:=p) (k:=k)
  have hsk:qx g p k=false→R=(([], []),(3,(k:Int))):=fun h=>by
   rw [hR,tN.2 ⟨hlt,h,hok⟩]
  have gy:=ru uG Mm.1 Mm.2
  have kY:p.ord.getD k 0=aE p k:=rfl
  have Mo:(fK g p k).pl.length≤64:=by
   rcases Ml hi.tofG with h|h
   ·omega
   ·rw [h];simp
  obtain ⟨x,hx⟩:∃x:Nat,aE p k=x:=⟨(aE p k).toNat,by omega⟩
  rw [hx] at kY Kw FL hpk Mn Mm gy dS
  have hxl:x<p.outs.length:=by have:=uG.1;omega
  have hv:=fF hxl
  have hla:cj p (x:Int)=p.outs.getD x []:=by unfold cj;rw [Int.toNat_natCast]
  rw [hla] at Kw FL hpk Mn gy
  rw [Int.toNat_natCast] at dS
  have Di:=qz g hm (fK g p k) hi (x:Int) (p.outs.getD x []) (by omega) (by omega) (by omega)
  have di:=JQ (ls:=gl g p k) (k:=x) (l:=dg g p k)
  generalize p.outs.getD x []=o at hv Kw FL hpk Mn Di
  rw [← dS] at di
  generalize fK g p k=f at Kw FL hpk Mn Di hi hrl Mo
  have Nk:x<(gl g p k).length:=by omega
  have hvl:(vT (gl g p k)).length=(gl g p k).length:=vT_length
  cases HF:qx g p k with
  |false=>
   rw [Mn HF] at Di
   simp only at Di
   have S9:=hsk HF
   subst S9
   repeat' (first|refine Rn.p ?_|(with_reducible apply And.intro)|((first|(refine hK _ ?_;clear hK K)|with_reducible intro K hK|refine Rs.p ?_|((with_reducible first|apply oP|apply oQ);exact rfl)|(refine an hX hC hP [(10000,13),(10001,100),(10002,101)] (Di) rfl rfl rfl ?_ ?_ ?_ ?_ ?_ ?_ ?_ ?_ ?_ ?_ ?_ ?_ ?_ ?_;(focus (simp only [go_sem,simprocAttr,hb,kY,hv,iU,pg,List.map_nil];done));(iterate 12 (focus (simp [go_sem,simprocAttr,hb,kY,hv,iU,pg,List.map_nil];done)));try simp only [List.map_cons,List.map_nil]));try simp only [go_sem,simprocAttr,hb,kY,hv,iU,pg,List.map_nil])|((with_reducible refine oD ?_ ?_);kernel_rfl)|((with_reducible intro h);try simp only [go_sem,simprocAttr,hb,kY,hv,iU,pg,List.map_nil] at h)|omega|intro h)
   all_goals rfl
  |true=>
   rw [hpk HF] at Di
   have tW:(aA g f (x:Int) o).1.2=0:=rfl
   rw [FL] at di
   generalize aA g f (x:Int) o=su at Kw FL Di tW di
   generalize UQ:gl g p k=E at di Nk hel hvl
   have FN:=fun d=>q9 Nk d
   repeat' (first|(show cr _ (.region 11 _ _) _ _;(refine dy hX 13 2 101 100 rfl rfl rfl (by first|exact .inl rfl|exact .inr rfl) (by decide) (by decide) ?_;simp only [List.set_cons_zero,List.set_cons_succ,go_sem,simprocAttr,hb,kY,hv,iU,pg,tW,di,FN,List.drop_succ_cons,List.drop_zero]))|refine Rn.p ?_|(with_reducible apply And.intro)|((first|(refine hK _ ?_;clear hK K)|with_reducible intro K hK|refine Rs.p ?_|((with_reducible first|apply oP|apply oQ);exact rfl)|(refine an hX hC hP [(10000,13),(10001,100),(10002,101)] (Di) rfl rfl rfl ?_ ?_ ?_ ?_ ?_ ?_ ?_ ?_ ?_ ?_ ?_ ?_ ?_ ?_;(focus (simp only [go_sem,simprocAttr,hb,kY,hv,iU,pg,tW,di,FN,List.drop_succ_cons,List.drop_zero];done));(iterate 12 (focus (simp [go_sem,simprocAttr,hb,kY,hv,iU,pg,tW,di,FN,List.drop_succ_cons,List.drop_zero];done)));try simp only [List.map_cons,List.map_nil]));try simp only [go_sem,simprocAttr,hb,kY,hv,iU,pg,tW,di,FN,List.drop_succ_cons,List.drop_zero])|((with_reducible refine oD ?_ ?_);kernel_rfl)|((with_reducible intro h);try simp only [go_sem,simprocAttr,hb,kY,hv,iU,pg,tW,di,FN,List.drop_succ_cons,List.drop_zero] at h)|omega|intro h)
   refine ⟨k+1,⟨by omega,fun j hj=> ?_⟩, ?_,by omega⟩
   ·by_cases e:j=k
    ·subst e;exact HF
    ·exact hok j (by omega)
   ·rw [Kw]
    have Mp:(vT E).set x [D.sl 3 (List.map rT su.1.1)]=vT (gl g p (k+1)):=di
    refine Le.of ?_ ?_<;>simp [go_sem,simprocAttr,hb,kY,hv,iU,pg,tW,di,FN,List.drop_succ_cons,List.drop_zero,Mp]
 have hb:decide ((k:Int)<(p.ord.length:Int))=false:=decide_eq_false (by omega)
 obtain rfl:k=g.n.toNat:=by omega
 rw [gm.2 hok] at hR
 subst hR
 repeat' (first|refine Rn.p ?_|(with_reducible apply And.intro)|((first|(refine hK _ ?_;clear hK K)|with_reducible intro K hK|refine Rs.p ?_|((with_reducible first|apply oP|apply oQ);exact rfl)|(refine lz hX hC hP 60 (C8 [vw g,sI (fK g p g.n.toNat).pl] (fK g p g.n.toNat).row (by omega)) rfl rfl rfl ?_ ?_ (by first|exact ⟨_,_,_,rfl,tE⟩|exact ⟨_,_,_,rfl,tF⟩|exact ⟨_,_,_,rfl,tI⟩) rfl (by decide) ?_;(iterate 2 (focus (simp only [go_sem,simprocAttr,hb];done)));simp only [go_sem,simprocAttr,hb]));try simp only [go_sem,simprocAttr,hb])|((with_reducible refine oD ?_ ?_);kernel_rfl)|((with_reducible intro h);try simp only [go_sem,simprocAttr,hb] at h)|omega|intro h)
end Go.Ab
end
section
namespace Go.Ab
open Go.Proofs
attribute [local congr] ACall.congr gd.congr Nx.congr
set_option maxRecDepth 10000
set_option maxHeartbeats 8000000
def vq (n:Int) (es:List Edge) (ord:List Int) (O:List (List Int)):List (Nat × AObj):= [(10000, .box [eN n, .ref 10001, .ref 10002, .ref 10003]),(10001, .tip 56 2 (es.map rE)),(10002, .tip 3 1 (ord.map rI)),(10003, .own 25 1 (vI O))]
def vr (n:Int) (es:List Edge) (ord:List Int) (O:List (List Int)):List (Nat × AObj):= [(10000, .box [eN n, .ref 10004, .ref 10002, .ref 10003]),(10004, .tip 56 2 (es.map rE)),(10002, .tip 3 1 (ord.map rI)),(10003, .own 25 1 (vI O))]
def eR (x:Int) (items:List It):List Edge:=(loose items).map fun v=>(v,x)
theorem FO {x:Int} {a b:List It} :eR x (a++b)=eR x a++eR x b:=by simp [eR,bM]
theorem JR {ls:List (List Int)} {k:Nat} {l:List Int} :(vI ls).set k [sI l]=vI (ls.set k l):=by simp [vI,List.map_set]
theorem vt {items:List It} :(loose items).length≤items.length:=by
 unfold loose
 rw [List.length_map]
 exact List.length_filter_le _ _
theorem yP (n:Int) (es:List Edge) (ord:List Int) (O:List (List Int)) (x:Int) (items:List It) (hl:es.length+items.length≤100000) (hO:∀v∈loose items,0≤v∧v<O.length):
 Spec Tryz.prog 101 (Args [.ptr 10000 0,eN x, .d (sT items)]) (vq n es ord O) (.tup []) (vr n (es++eR x items) ord (cP es.length (eR x items) O)):=by
 unfold vq vr
 (refine Spec.sM (C:=T.cfg [] []) (rs:= []) [(10004,50)] (T.ai _ _) Tryz.func101 rfl rfl Tryz.ntmps101 Tryz.results101 (by simp [AObj.isNest]) (by simp [AObj.isNest]) (by first|(simp [look];done)|(simp [asN];done)|(intro l hl;simp only [asN];repeat (rw [if_neg (fun e=>by subst e;simp [look] at hl)]))) (by first|(simp [look];done)|(simp [asN];done)|(intro l hl;simp only [asN];repeat (rw [if_neg (fun e=>by subst e;simp [look] at hl)]))) (by kernel_rfl) T.mixed fun X hX hP hC aQ cy=> ?_)
 repeat' (first|refine Rn.p ?_|(with_reducible apply And.intro)|((first|(refine hK _ ?_;clear hK K)|with_reducible intro K hK|refine Rs.p ?_|((with_reducible first|apply oP|apply oQ);exact rfl));try simp only [go_sem,simprocAttr])|((with_reducible refine oD ?_ ?_);kernel_rfl)|((with_reducible intro h);try simp only [go_sem,simprocAttr] at h)|omega|intro h)
 (refine dy hX 10000 1 10001 50 rfl rfl rfl (by first|exact .inl rfl|exact .inr rfl) (by decide) (by decide) ?_;simp only [List.set_cons_zero,List.set_cons_succ,go_sem,simprocAttr])
 refine ak (fun k:Nat=>k≤items.length) (fun k=>⟨[(0, .ptr 10000 0),(1,eN x),(8, .d (sT items)),(9,eN items.length),(10,eN k)], [(10000, .box [eN n, .ref 50, .ref 10002, .ref 10003]),(50, .tip 56 2 ((es++eR x (items.take k)).map rE)),(10002, .tip 3 1 (ord.map rI)),(10003, .own 25 1 (vI (cP es.length (eR x (items.take k)) O)))]⟩) (fun k=>items.length - k) 0 (by simp) ?_ ?_
 ·refine Le.of ?_ ?_<;>simp [go_sem,simprocAttr,eR,loose,cP]
 rintro k hk
 rcases Nat.lt_or_ge k items.length with hlt|hge
 ·have hb:decide ((k:Int)<(items.length:Int))=true:=decide_eq_true (by omega)
  have zS:items.take (k+1)=items.take k++ [items.getD k (0,0,0)]:=vm hlt
  have OB:=aU (d:=(0,0,0)) hlt
  have rY:eR x (items.take (k+1))=eR x (items.take k)++eR x [items.getD k (0,0,0)]:=by rw [zS,FO]
  have QX:(items.getD k (0,0,0)).1<0→0≤(items.getD k (0,0,0)).2.1∧(items.getD k (0,0,0)).2.1<O.length:=fun h=>hO _ (by
   unfold loose
   exact List.mem_map.2 ⟨_,List.mem_filter.2 ⟨OB,decide_eq_true h⟩,rfl⟩)
  have gy:(eR x (items.take k)).length≤k:=by
   unfold eR
   rw [List.length_map]
   refine Nat.le_trans vt ?_
   rw [List.length_take];omega
  have GI:=oO (m:=es.length) (N:=eR x (items.take k)) (M:=eR x [items.getD k (0,0,0)]) (O:=O)
  have Ni:(cP es.length (eR x (items.take k)) O).length=O.length:=gE
  rw [← rY] at GI
  generalize lS:items.getD k (0,0,0)=t at rY QX GI
  generalize cP es.length (eR x (items.take k)) O=O' at GI Ni
  generalize eR x (items.take k)=N at rY gy GI
  by_cases h0:0≤t.1
  ·have hb1:decide (0≤t.1)=true:=decide_eq_true h0
   have he:eR x [t]= []:=by
    have:¬t.1<0:=by omega
    simp [eR,loose,this]
   rw [he] at rY GI
   rw [List.append_nil] at rY
   repeat' (first|refine Rn.p ?_|(with_reducible apply And.intro)|((first|(refine hK _ ?_;clear hK K)|with_reducible intro K hK|refine Rs.p ?_|((with_reducible first|apply oP|apply oQ);exact rfl));try simp only [go_sem,simprocAttr,hb,hb1,lS])|((with_reducible refine oD ?_ ?_);kernel_rfl)|((with_reducible intro h);try simp only [go_sem,simprocAttr,hb,hb1,lS] at h)|omega|intro h)
   refine ⟨k+1,by omega, ?_,by omega⟩
   rw [GI,rY]
   refine Le.of ?_ ?_<;>simp [go_sem,simprocAttr,hb,hb1,lS,cP]
  ·have hb1:decide (0≤t.1)=false:=decide_eq_false h0
   have he:eR x [t]= [(t.2.1,x)]:=by
    have:t.1<0:=by omega
    simp [eR,loose,this]
   rw [he] at rY GI
   obtain ⟨KL,CF⟩:=QX (by omega)
   obtain ⟨vn,JN⟩:∃vn:Nat,t.2.1=vn:=⟨t.2.1.toNat,by omega⟩
   have hvl:vn<O'.length:=by omega
   have FN:=fun d=>fF hvl d
   have PK:cP es.length (eR x (items.take (k+1))) O=O'.set vn [((es.length+N.length:Nat):Int)]:=by
    rw [GI,JN]
    show O'.set ((vn:Int).toNat) _=_
    rw [Int.toNat_natCast]
   rw [JN] at rY
   have hrow:rI ((es.length:Int)+(N.length:Int))= [D.sc (.int .i64 ((es.length:Int)+(N.length:Int)))]:=rfl
   have di:=JR (ls:=O') (k:=vn) (l:= [((es.length+N.length:Nat):Int)])
   repeat' (first|(show cr _ (.region 6 _ _) _ _;(refine dy hX 10000 1 43 50 rfl rfl rfl (by first|exact .inl rfl|exact .inr rfl) (by decide) (by decide) ?_;simp only [List.set_cons_zero,List.set_cons_succ,go_sem,simprocAttr,hb,hb1,lS,JN,FN,List.drop_succ_cons,List.drop_zero,List.length_append]))|refine Rn.p ?_|(with_reducible apply And.intro)|((first|(refine hK _ ?_;clear hK K)|with_reducible intro K hK|refine Rs.p ?_|((with_reducible first|apply oP|apply oQ);exact rfl));try simp only [go_sem,simprocAttr,hb,hb1,lS,JN,FN,List.drop_succ_cons,List.drop_zero,List.length_append])|((with_reducible refine oD ?_ ?_);kernel_rfl)|((with_reducible intro h);try simp only [go_sem,simprocAttr,hb,hb1,lS,JN,FN,List.drop_succ_cons,List.drop_zero,List.length_append] at h)|omega|intro h)
   refine ⟨k+1,by omega, ?_,by omega⟩
   rw [PK,rY]
   refine Le.of ?_ ?_<;>simp [go_sem,simprocAttr,hb,hb1,lS,JN,FN,List.drop_succ_cons,List.drop_zero,List.length_append]
   refine ⟨rfl, ?_⟩
   simp only [Int.natCast_add] at di
   exact di
 ·have hb:decide ((k:Int)<(items.length:Int))=false:=decide_eq_false (by omega)
  obtain rfl:k=items.length:=by omega
  have ht:items.take items.length=items:=List.take_length
  repeat' (first|refine Rn.p ?_|(with_reducible apply And.intro)|((first|(refine hK _ ?_;clear hK K)|with_reducible intro K hK|refine Rs.p ?_|((with_reducible first|apply oP|apply oQ);exact rfl));try simp only [go_sem,simprocAttr,hb,ht])|((with_reducible refine oD ?_ ?_);kernel_rfl)|((with_reducible intro h);try simp only [go_sem,simprocAttr,hb,ht] at h)|omega|intro h)
end Go.Ab
end
section
namespace Go.Ab
open Go.Proofs
attribute [local congr] ACall.congr gd.congr Nx.congr
set_option maxRecDepth 10000
set_option maxHeartbeats 16000000
theorem xh (ps:List Edge) (hl:ps.length≤1000000):
 Spec Tryz.prog 92 (Args [.d (sE ps)]) [] (.ref 10000) [(10000, .tip 56 2 (ps.map rE))]:=by
 (refine Spec.sM (C:=T.cfg [] []) (rs:= [.t 2]) [(10000,7)] (T.ai _ _) Tryz.func92 rfl rfl Tryz.ntmps92 Tryz.results92 (by simp [AObj.isNest]) (by simp [AObj.isNest]) (by first|(simp [look];done)|(simp [asN];done)|(intro l hl;simp only [asN];repeat (rw [if_neg (fun e=>by subst e;simp [look] at hl)]))) (by first|(simp [look];done)|(simp [asN];done)|(intro l hl;simp only [asN];repeat (rw [if_neg (fun e=>by subst e;simp [look] at hl)]))) (by kernel_rfl) T.mixed fun X hX hP hC aQ cy=> ?_)
 repeat' (first|(show cr _ .ret _ _;(try simp only [go_sem,simprocAttr]);refine dn hX 2 7 (.tip 56 2 []) ?_ ?_ (by decide) ⟨56,2,by decide, .inr rfl⟩ ?_;(iterate 2 (focus (simp only [go_sem,simprocAttr];done)));simp only [go_sem,simprocAttr])|refine Rn.p ?_|(with_reducible apply And.intro)|((first|(refine hK _ ?_;clear hK K)|with_reducible intro K hK|refine Rs.p ?_|((with_reducible first|apply oP|apply oQ);exact rfl));try simp only [go_sem,simprocAttr])|((with_reducible refine oD ?_ ?_);kernel_rfl)|((with_reducible intro h);try simp only [go_sem,simprocAttr] at h)|omega|intro h)
 exact h.symm
def pz:Pl:=⟨[], []⟩
def lK (b:Bool) (g:Gr) (p:Pl):Gr × Pl × Int:=
 if (cq b g p).2.1≠0 then (gz,pz,1) else if 64<(ah g p).n∨128<(ah g p).es.length then (gz,pz,10) else (ah g p,bH g p,0)
theorem mq {b:Bool} {g:Gr} {p:Pl} (hr:b=true↔(cg g).1=0∧bg g p) (h:(cq b g p).2.1=0):aX g p∧cq b g p=((gl g p g.n.toNat,aV g p),(0,0)):=by
 cases b with
 |false=>simp [cq] at h
 |true=>
  have hR:cq true g p=match jR g p g.n.toNat with
   |some i=>(([], []),(3,(i:Int)))
   |none=>((gl g p g.n.toNat,(fK g p g.n.toNat).row),(0,0)):=rfl
  cases hs:jR g p g.n.toNat with
  |some i=>rw [hR,hs] at h;simp at h
  |none=>
   obtain ⟨h1,h2⟩:=hr.1 rfl
   exact ⟨⟨h1,h2,gm.1 hs⟩,by rw [hR,hs];rfl⟩
theorem Dj {g:Gr} {p:Pl} {k:Nat} :cB g p (k+1)=cB g p k++eR (aE p k) (dg g p k):=rfl
theorem BW {g:Gr} {p:Pl} (hr:aX g p) {k:Nat} (hk:k≤g.n.toNat):(cB g p k).length≤g.n.toNat∧∀e∈cB g p k,0≤e.1∧e.1<g.n:=by
 obtain ⟨hc,h,hok⟩:=hr
 have hm:=aj hc
 obtain ⟨h1,h2⟩:=jT hm h hk fun j hj=>hok j (by omega)
 obtain ⟨hi,_⟩:=bX hm h hk fun j hj=>hok j (by omega)
 have hv:∀v∈(cB g p k).map (·.1),0≤v∧v<g.n:=fun v hv=>hi.mM v (h2 v (List.mem_append_left _ hv)).1
 refine ⟨?_,fun e he=>hv _ (List.mem_map.2 ⟨e,he,rfl⟩)⟩
 have:=iM (List.nodup_append.1 h1).1 (m:=dx g.n.toNat) fun v G0=>cE.2 (by have:=hv v G0;omega)
 rw [jS,List.length_map] at this
 exact this
theorem xj (g:Gr) (hl:g.es.length≤1000) (p:Pl) (hp:oR p) (hp1:p.ord.length≤1000) (hp2:p.outs.length≤1000) (PL:∀l∈p.outs,l.length≤1000) (b:Bool) (hr:b=true↔(cg g).1=0∧bg g p):
 Spec Tryz.prog 57 (Args [eG g,ePl p]) [] (.tup [eG (lK b g p).1,ePl (lK b g p).2.1,eN (lK b g p).2.2]) []:=by
 have hO:=gq g hl p hp b hr
 by_cases h0:(cq b g p).2.1=0
 rotate_left
 ·have FP:lK b g p=(gz,pz,1):=if_pos h0
  rw [FP]
  have hb1:decide ((cq b g p).2.1=0)=false:=decide_eq_false h0
  (refine Spec.hd (C:=T.cfg [] []) (rs:= [.c 4 24, .c 5 28, .t 6]) (T.ai _ _) Tryz.func57 rfl rfl Tryz.ntmps57 Tryz.results57 (by simp [AObj.isNest]) (by simp [AObj.isNest]) (by kernel_rfl) T.mixed fun X hX hP hC aQ cy=> ?_)
  repeat' (first|refine Rn.p ?_|(with_reducible apply And.intro)|((first|(refine hK _ ?_;clear hK K)|with_reducible intro K hK|refine Rs.p ?_|((with_reducible first|apply oP|apply oQ);exact rfl)|refine aa hX hC hP (hO) rfl rfl rfl (by simp only [go_sem,simprocAttr,hb1,gz,pz,vI,List.map_nil]) rfl ?_);try simp only [go_sem,simprocAttr,hb1,gz,pz,vI,List.map_nil])|((with_reducible refine oD ?_ ?_);kernel_rfl)|((with_reducible intro h);try simp only [go_sem,simprocAttr,hb1,gz,pz,vI,List.map_nil] at h)|omega|intro h)
 obtain ⟨hrun,hR⟩:=mq hr h0
 rw [hR] at hO
 simp only at hO
 have FP:lK b g p=if 64<(ah g p).n∨128<(ah g p).es.length then (gz,pz,10) else (ah g p,bH g p,0):=by
  unfold lK;rw [if_neg (by rw [h0];simp)]
 generalize lK b g p=AR at FP
 have hm:=aj hrun.1
 have hn:=aG hm
 have uG:=hrun.2.1
 have hle:=aP uG
 have qP:=uG.1
 (refine Spec.hd (C:=T.cfg [55,98] []) (rs:= [.c 4 24, .c 5 28, .t 6]) (T.ai _ _) Tryz.func57 rfl rfl Tryz.ntmps57 Tryz.results57 (by simp [AObj.isNest]) (by simp [AObj.isNest]) (by kernel_rfl) T.mixed fun X hX hP hC aQ cy=> ?_)
 repeat' (first|(show cr _ (.seq (.region 5 _ _) _) _ _;(refine dy hX 38 1 31 200 rfl rfl rfl (by first|exact .inl rfl|exact .inr rfl) (by decide) (by decide) ?_;simp only [List.set_cons_zero,List.set_cons_succ,go_sem,simprocAttr]);(refine jz hX 38 3 201 (.own 25 1 []) rfl rfl rfl (by simp only [go_sem,simprocAttr]) (by decide) (by simp [go_sem,simprocAttr]) ⟨25,1,by decide, .inl rfl⟩ ?_;simp only [List.set_cons_zero,List.set_cons_succ,go_sem,simprocAttr]))|refine Rn.p ?_|(with_reducible apply And.intro)|((first|(refine hK _ ?_;clear hK K)|with_reducible intro K hK|refine Rs.p ?_|((with_reducible first|apply oP|apply oQ);exact rfl)|refine aa hX hC hP (hO) rfl rfl rfl (by simp only [go_sem,simprocAttr]) rfl ?_|(refine iG hX hC hP [(10000,31)] (xh g.es (by omega)) rfl rfl rfl ?_ ?_ ?_ ?_ ?_ ?_ ?_ ?_ ?_ ?_ ?_ ?_ ?_ ?_;(focus (simp only [go_sem,simprocAttr];done));(iterate 12 (focus (simp [go_sem,simprocAttr];done)));try simp only [List.map_cons,List.map_nil])|(refine iG hX hC hP [(10000,35)] (w9 p.ord (by omega)) rfl rfl rfl ?_ ?_ ?_ ?_ ?_ ?_ ?_ ?_ ?_ ?_ ?_ ?_ ?_ ?_;(focus (simp only [go_sem,simprocAttr];done));(iterate 12 (focus (simp [go_sem,simprocAttr];done)));try simp only [List.map_cons,List.map_nil]));try simp only [go_sem,simprocAttr])|((with_reducible refine oD ?_ ?_);kernel_rfl)|((with_reducible intro h);try simp only [go_sem,simprocAttr] at h)|omega|intro h)
 refine ak (fun x:Nat=>x≤p.outs.length) (fun x=>⟨[(2, .ptr 2 0),(3, .ptr 3 0),(4, .ptr 4 0),(5, .ptr 5 0),(7, .d (.sl 1 (vT (gl g p g.n.toNat)))),(8, .d (sT (aV g p))),(10, .ptr 38 0),(40, .d (.sl 1 (vI p.outs))),(41,eN p.outs.length),(42,eN x)], [(2, .box [eN g.n, .d (sE g.es)]),(3, .box [.d (sI p.ord), .d (.sl 1 (vI p.outs))]),(4, .box [eN 0, .nil 56]),(5, .box [.nil 3, .nil 25]),(38, .box [eN g.n, .ref 200, .ref 35, .ref 201]),(200, .tip 56 2 (g.es.map rE)),(35, .tip 3 1 (p.ord.map rI)),(201, .own 25 1 (vI (p.outs.take x)))]⟩) (fun x=>p.outs.length - x) 0 (by simp) ?_ ?_
 ·refine Le.of ?_ ?_<;>simp [go_sem,simprocAttr,vI]
 rintro x hx
 rcases Nat.lt_or_ge x p.outs.length with hxl|S6
 ·have hb:decide ((x:Int)<(p.outs.length:Int))=true:=decide_eq_true (by omega)
  have hv:=fF hxl
  have gy:=PL _ (aU (d:= []) hxl)
  have zS:vI (p.outs.take (x+1))=vI (p.outs.take x)++ [[sI (p.outs.getD x [])]]:=by
   unfold vI
   rw [tH (d:= []) hxl]
  have htl:(p.outs.take x).length=x:=by rw [List.length_take];omega
  have PM:=jd (p.outs.getD x []) (by omega)
  generalize p.outs.getD x []=l at hv gy zS PM
  repeat' (first|(show cr _ (.region 9 _ _) _ _;(refine dy hX 38 3 55 201 rfl rfl rfl (by first|exact .inl rfl|exact .inr rfl) (by decide) (by decide) ?_;simp only [List.set_cons_zero,List.set_cons_succ,go_sem,simprocAttr,hb,hv,htl]))|refine Rn.p ?_|(with_reducible apply And.intro)|((first|(refine hK _ ?_;clear hK K)|with_reducible intro K hK|refine Rs.p ?_|((with_reducible first|apply oP|apply oQ);exact rfl)|refine aa hX hC hP (PM) rfl rfl rfl (by simp only [go_sem,simprocAttr,hb,hv,htl]) rfl ?_);try simp only [go_sem,simprocAttr,hb,hv,htl])|((with_reducible refine oD ?_ ?_);kernel_rfl)|((with_reducible intro h);try simp only [go_sem,simprocAttr,hb,hv,htl] at h)|omega|intro h)
  refine ⟨x+1,by omega, ?_,by omega⟩
  rw [zS]
  refine Le.of ?_ ?_<;>simp [go_sem,simprocAttr,hb,hv,htl]
 have hb:decide ((x:Int)<(p.outs.length:Int))=false:=decide_eq_false (by omega)
 obtain rfl:x=p.outs.length:=by omega
 repeat' (first|refine Rn.p ?_|(with_reducible apply And.intro)|((first|(refine hK _ ?_;clear hK K)|with_reducible intro K hK|refine Rs.p ?_|((with_reducible first|apply oP|apply oQ);exact rfl)|refine aa hX hC hP (PM) rfl rfl rfl (by simp only [go_sem,simprocAttr,hb,List.take_length]) rfl ?_);try simp only [go_sem,simprocAttr,hb,List.take_length])|((with_reducible refine oD ?_ ?_);kernel_rfl)|((with_reducible intro h);try simp only [go_sem,simprocAttr,hb,List.take_length] at h)|omega|intro h)
 clear hb hx
 refine ak (fun k:Nat=>k≤g.n.toNat) (fun k=>⟨[(2, .ptr 2 0),(4, .ptr 4 0),(5, .ptr 5 0),(7, .d (.sl 1 (vT (gl g p g.n.toNat)))),(8, .d (sT (aV g p))),(10, .ptr 38 0),(61, .d (sI p.ord)),(62,eN p.ord.length),(63,eN k)], [(2, .box [eN g.n, .d (sE g.es)]),(4, .box [eN 0, .nil 56]),(5, .box [.nil 3, .nil 25]),(38, .box [eN g.n, .ref 200, .ref 35, .ref 201]),(200, .tip 56 2 ((g.es++cB g p k).map rE)),(35, .tip 3 1 (p.ord.map rI)),(201, .own 25 1 (vI (cP g.es.length (cB g p k) p.outs)))]⟩) (fun k=>g.n.toNat - k) 0 (by simp) ?_ ?_
 ·refine Le.of ?_ ?_<;>simp [go_sem,simprocAttr,cB,cP]
 rintro k hk
 obtain ⟨hnl,Nl⟩:=BW hrun hk
 have Ni:(cP g.es.length (cB g p k) p.outs).length=p.outs.length:=gE
 rcases Nat.lt_or_ge k g.n.toNat with cw|Im
 ·have hb:decide ((k:Int)<(p.ord.length:Int))=true:=decide_eq_true (by omega)
  have Mm:=bB uG cw
  have Kq:=xg uG (k:=g.n.toNat) (Nat.le_refl _) cw
  have kY:p.ord.getD k 0=aE p k:=rfl
  have dS:=Dj (g:=g) (p:=p) (k:=k)
  obtain ⟨yQ,PN⟩:=BW hrun (k:=k+1) (by omega)
  have zL:(dg g p k).length≤(fK g p k).row.length:=by unfold dg aA;simp;omega
  obtain ⟨_,_,hrl⟩:=bX hm uG (k:=k) (by omega) fun j hj=>hrun.2.2 j (by omega)
  have hmul:k*(g.es.length+1)≤64*129:=Nat.mul_le_mul (by omega) (by omega)
  have GI:cP g.es.length (cB g p (k+1)) p.outs=cP (g.es++cB g p k).length (eR (aE p k) (dg g p k)) (cP g.es.length (cB g p k) p.outs):=by
   rw [dS,oO,List.length_append]
  have DQ:=yP g.n (g.es++cB g p k) p.ord (cP g.es.length (cB g p k) p.outs) (aE p k) (dg g p k) (by rw [List.length_append];omega) (fun v hv=>by
   have:=PN (v,aE p k) (by rw [dS];exact List.mem_append_right _ (List.mem_map.2 ⟨v,hv,rfl⟩))
   simp only at this
   omega)
  rw [← GI] at DQ
  have zO:g.es++cB g p k++eR (aE p k) (dg g p k)=g.es++cB g p (k+1):=by rw [dS,List.append_assoc]
  rw [zO] at DQ
  obtain ⟨x,hx⟩:∃x:Nat,aE p k=x:=⟨(aE p k).toNat,by omega⟩
  rw [hx] at kY Kq DQ Mm
  rw [Int.toNat_natCast] at Kq
  have hel:=oL (g:=g) (p:=p) (k:=g.n.toNat)
  have Nk:x<(gl g p g.n.toNat).length:=by omega
  have JS:=q9 Nk
  rw [Kq] at JS
  have hvl:(vT (gl g p g.n.toNat)).length=(gl g p g.n.toNat).length:=vT_length
  repeat' (first|(show cr _ (.region 14 _ _) _ _;(refine dy hX 38 1 202 200 rfl rfl rfl (by first|exact .inl rfl|exact .inr rfl) (by decide) (by decide) ?_;simp only [List.set_cons_zero,List.set_cons_succ,go_sem,simprocAttr,hb,kY,JS,hvl,vq,vr]))|refine Rn.p ?_|(with_reducible apply And.intro)|((first|(refine hK _ ?_;clear hK K)|with_reducible intro K hK|refine Rs.p ?_|((with_reducible first|apply oP|apply oQ);exact rfl)|(refine an hX hC hP [(10000,38),(10001,200),(10002,35),(10003,201),(10004,202)] (DQ) rfl rfl rfl ?_ ?_ ?_ ?_ ?_ ?_ ?_ ?_ ?_ ?_ ?_ ?_ ?_ ?_;(focus (simp only [go_sem,simprocAttr,hb,kY,JS,hvl,vq,vr];done));(iterate 12 (focus (simp [go_sem,simprocAttr,hb,kY,JS,hvl,vq,vr];done)));try simp only [List.map_cons,List.map_nil]));try simp only [go_sem,simprocAttr,hb,kY,JS,hvl,vq,vr])|((with_reducible refine oD ?_ ?_);kernel_rfl)|((with_reducible intro h);try simp only [go_sem,simprocAttr,hb,kY,JS,hvl,vq,vr] at h)|omega|intro h)
  refine ⟨k+1,by omega, ?_,by omega⟩
  refine Le.of ?_ ?_<;>simp [go_sem,simprocAttr,hb,kY,JS,hvl,vq,vr]
 have hb:decide ((k:Int)<(p.ord.length:Int))=false:=decide_eq_false (by omega)
 obtain rfl:k=g.n.toNat:=by omega
 by_cases h1:1<(aV g p).length
 ·have hb1:decide ((1:Int)<((aV g p).length:Int))=true:=decide_eq_true (by omega)
  obtain ⟨_,_,hrl⟩:=bX hm uG (k:=g.n.toNat) (Nat.le_refl _) hrun.2.2
  have hmul:g.n.toNat*(g.es.length+1)≤64*129:=Nat.mul_le_mul (by omega) (by omega)
  have hrl:(aV g p).length≤g.n.toNat*(g.es.length+1):=hrl
  obtain ⟨r8,BU⟩:=fJ hrun
  have yQ:newL g p=eR g.n (aV g p):=if_pos h1
  have DQ:=yP (g.n+1) (g.es++cB g p g.n.toNat) (p.ord++ [g.n]) (cP g.es.length (cB g p g.n.toNat) p.outs++ [[]]) g.n (aV g p) (by rw [List.length_append];omega) (fun v hv=>by
   have:=(BU (v,g.n) (by unfold aZ;rw [yQ];exact List.mem_append_right _ (List.mem_map.2 ⟨v,hv,rfl⟩))).1
   simp only at this
   rw [List.length_append,gE];omega)
  have hq:cP (g.es++cB g p g.n.toNat).length (eR g.n (aV g p)) (cP g.es.length (cB g p g.n.toNat) p.outs++ [[]])=(bH g p).outs:=by
   show _=cP g.es.length (aZ g p) (if 1<(aV g p).length then p.outs++ [[]] else p.outs)
   have rY:=vp (m:=g.es.length) (N:=cB g p g.n.toNat) (O:=p.outs) (fun e he=>by
    have:=Nl e he
    omega)
   rw [if_pos h1,aZ,yQ,oO,List.length_append,rY]
  have he:g.es++cB g p g.n.toNat++eR g.n (aV g p)=(ah g p).es:=by
   show _=g.es++aZ g p
   rw [aZ,yQ,List.append_assoc]
  have ho:p.ord++ [g.n]=(bH g p).ord:=(if_pos h1).symm
  have hg:g.n+1=(ah g p).n:=(if_pos h1).symm
  have hvs:vI (cP g.es.length (cB g p g.n.toNat) p.outs)++ [[D.sl 1 []]]=vI (cP g.es.length (cB g p g.n.toNat) p.outs++ [[]]):=by simp [vI,sI]
  have hos:p.ord.map rI++ [[D.sc (.int .i64 g.n)]]=(p.ord++ [g.n]).map rI:=by simp [rI]
  rw [hq,he] at DQ
  have yz:(ah g p).es.length≤1000:=by
   rw [← he,List.length_append,List.length_append]
   have:(eR g.n (aV g p)).length≤g.n.toNat:=by
    have:=iM (List.nodup_append.1 (by rw [aZ,List.map_append] at r8;exact r8)).2.1 (m:=dx g.n.toNat) fun v G0=>cE.2 (by
     obtain ⟨e,he,rfl⟩:=List.mem_map.1 G0
     have:=(BU e (List.mem_append_right _ he)).1
     omega)
    rw [jS,List.length_map,yQ] at this
    exact this
   omega
  have HG:AR=if 64<(ah g p).n∨128<(ah g p).es.length then (gz,pz,10) else (ah g p,bH g p,0):=FP
  clear FP
  have Qz:(bH g p).outs.length=(bH g p).outs.length:=rfl
  have Qu:bH g p=⟨(bH g p).ord,(bH g p).outs⟩:=rfl
  generalize ah g p=G at he hg DQ HG yz
  rw [ho] at DQ hos
  generalize bH g p=Q at hq ho DQ HG hos
  by_cases h2:64<G.n
  ·have hb2:decide (64<G.n)=true:=decide_eq_true h2
   rw [if_pos (.inl h2)] at HG
   subst HG
   repeat' (first|refine Rn.p ?_|(with_reducible apply And.intro)|((first|(refine hK _ ?_;clear hK K)|with_reducible intro K hK|refine Rs.p ?_|((with_reducible first|apply oP|apply oQ);exact rfl)|(refine an hX hC hP [(10000,38),(10001,200),(10002,87),(10003,98),(10004,203)] (DQ) rfl rfl rfl ?_ ?_ ?_ ?_ ?_ ?_ ?_ ?_ ?_ ?_ ?_ ?_ ?_ ?_;(focus (simp only [go_sem,simprocAttr,hb,hb1,hb2,vq,vr,hvs,hos,hg,gz,pz,vI,List.map_nil];done));(iterate 12 (focus (simp [go_sem,simprocAttr,hb,hb1,hb2,vq,vr,hvs,hos,hg,gz,pz,vI,List.map_nil];done)));try simp only [List.map_cons,List.map_nil]));try simp only [go_sem,simprocAttr,hb,hb1,hb2,vq,vr,hvs,hos,hg,gz,pz,vI,List.map_nil])|((with_reducible refine oD ?_ ?_);kernel_rfl)|((with_reducible intro h);try simp only [go_sem,simprocAttr,hb,hb1,hb2,vq,vr,hvs,hos,hg,gz,pz,vI,List.map_nil] at h)|omega|intro h)
  ·have hb2:decide (64<G.n)=false:=decide_eq_false h2
   by_cases h3:128<G.es.length
   ·have hb3:decide (128<(G.es.length:Int))=true:=decide_eq_true (by omega)
    rw [if_pos (.inr h3)] at HG
    subst HG
    repeat' (first|refine Rn.p ?_|(with_reducible apply And.intro)|((first|(refine hK _ ?_;clear hK K)|with_reducible intro K hK|refine Rs.p ?_|((with_reducible first|apply oP|apply oQ);exact rfl)|(refine an hX hC hP [(10000,38),(10001,200),(10002,87),(10003,98),(10004,203)] (DQ) rfl rfl rfl ?_ ?_ ?_ ?_ ?_ ?_ ?_ ?_ ?_ ?_ ?_ ?_ ?_ ?_;(focus (simp only [go_sem,simprocAttr,hb,hb1,hb2,hb3,vq,vr,hvs,hos,hg,gz,pz];done));(iterate 12 (focus (simp [go_sem,simprocAttr,hb,hb1,hb2,hb3,vq,vr,hvs,hos,hg,gz,pz];done)));try simp only [List.map_cons,List.map_nil]));try simp only [go_sem,simprocAttr,hb,hb1,hb2,hb3,vq,vr,hvs,hos,hg,gz,pz])|((with_reducible refine oD ?_ ?_);kernel_rfl)|((with_reducible intro h);try simp only [go_sem,simprocAttr,hb,hb1,hb2,hb3,vq,vr,hvs,hos,hg,gz,pz] at h)|omega|intro h)
    all_goals rfl
   ·have hb3:decide (128<(G.es.length:Int))=false:=decide_eq_false (by omega)
    rw [if_neg (by rintro (h|h);exact h2 h;exact h3 h)] at HG
    subst HG
    repeat' (first|refine Rn.p ?_|(with_reducible apply And.intro)|((first|(refine hK _ ?_;clear hK K)|with_reducible intro K hK|refine Rs.p ?_|((with_reducible first|apply oP|apply oQ);exact rfl)|(refine an hX hC hP [(10000,38),(10001,200),(10002,87),(10003,98),(10004,203)] (DQ) rfl rfl rfl ?_ ?_ ?_ ?_ ?_ ?_ ?_ ?_ ?_ ?_ ?_ ?_ ?_ ?_;(focus (simp only [go_sem,simprocAttr,hb,hb1,hb2,hb3,vq,vr,hvs,hos,hg];done));(iterate 12 (focus (simp [go_sem,simprocAttr,hb,hb1,hb2,hb3,vq,vr,hvs,hos,hg];done)));try simp only [List.map_cons,List.map_nil]));try simp only [go_sem,simprocAttr,hb,hb1,hb2,hb3,vq,vr,hvs,hos,hg])|((with_reducible refine oD ?_ ?_);kernel_rfl)|((with_reducible intro h);try simp only [go_sem,simprocAttr,hb,hb1,hb2,hb3,vq,vr,hvs,hos,hg] at h)|omega|intro h)
 ·have hb1:decide ((1:Int)<((aV g p).length:Int))=false:=decide_eq_false (by omega)
  have yQ:newL g p= []:=if_neg h1
  have he:g.es++cB g p g.n.toNat=(ah g p).es:=by
   show _=g.es++aZ g p
   rw [aZ,yQ,List.append_nil]
  have hq:cP g.es.length (cB g p g.n.toNat) p.outs=(bH g p).outs:=by
   show _=cP g.es.length (aZ g p) (if 1<(aV g p).length then p.outs++ [[]] else p.outs)
   rw [if_neg h1,aZ,yQ,List.append_nil]
  have ho:p.ord=(bH g p).ord:=(if_neg h1).symm
  have hg:g.n=(ah g p).n:=(if_neg h1).symm
  have hml:(g.es++cB g p g.n.toNat).map rE=(ah g p).es.map rE:=by rw [he]
  have PO:(ah g p).es.length=g.es.length+(cB g p g.n.toNat).length:=by rw [← he,List.length_append]
  have M0:p.ord.map rI=(bH g p).ord.map rI:=by rw [← ho]
  generalize ah g p=G at he hg FP hml PO
  generalize bH g p=Q at hq ho FP M0
  by_cases h2:64<G.n
  ·omega
  ·have hb2:decide (64<G.n)=false:=decide_eq_false h2
   by_cases h3:128<G.es.length
   ·have hb3:decide (128<(G.es.length:Int))=true:=decide_eq_true (by omega)
    rw [if_pos (.inr h3)] at FP
    subst FP
    rw [he]
    repeat' (first|refine Rn.p ?_|(with_reducible apply And.intro)|((first|(refine hK _ ?_;clear hK K)|with_reducible intro K hK|refine Rs.p ?_|((with_reducible first|apply oP|apply oQ);exact rfl));try simp only [go_sem,simprocAttr,hb,hb1,hb2,hb3,hg,gz,pz])|((with_reducible refine oD ?_ ?_);kernel_rfl)|((with_reducible intro h);try simp only [go_sem,simprocAttr,hb,hb1,hb2,hb3,hg,gz,pz] at h)|omega|intro h)
    all_goals rfl
   ·have hb3:decide (128<(G.es.length:Int))=false:=decide_eq_false (by omega)
    rw [if_neg (by rintro (h|h);exact h2 h;exact h3 h)] at FP
    subst FP
    rw [he,hq]
    have Mq:=M0.symm
    have GG:=hg.symm
    rw [GG] at hb2
    repeat' (first|refine Rn.p ?_|(with_reducible apply And.intro)|((first|(refine hK _ ?_;clear hK K)|with_reducible intro K hK|refine Rs.p ?_|((with_reducible first|apply oP|apply oQ);exact rfl));try simp only [go_sem,simprocAttr,hb,hb1,hb2,hb3,GG,Mq])|((with_reducible refine oD ?_ ?_);kernel_rfl)|((with_reducible intro h);try simp only [go_sem,simprocAttr,hb,hb1,hb2,hb3,GG,Mq] at h)|omega|intro h)
end Go.Ab
end
section
namespace Go.Ab
open Go.Proofs
attribute [local congr] ACall.congr gd.congr Nx.congr
set_option maxRecDepth 10000
set_option maxHeartbeats 16000000
def Ta (p:Pl) (x:Gr) (k:Nat):List (List Int):=(List.range k).map fun v=>if 0<(p.outs.getD v []).length then p.outs.getD v [] else cu x (v:Int)
theorem tX {g:Gr} {p:Pl} (hr:aX g p):∀t∈aV g p,t.1<0:=by
 obtain ⟨hc,h,hok⟩:=hr
 have hm:=aj hc
 have hn:=aG hm
 obtain ⟨hi,cx,_⟩:=bX hm h (k:=g.n.toNat) (Nat.le_refl _) hok
 intro t ht
 refine Decidable.byContradiction fun h0=> ?_
 rcases hi.it t ht with ⟨h1,_⟩|⟨h1,h2,_,h4⟩
 ·omega
 ·have Lu:=(dw hm (k:=t.1.toNat) (by omega)).2
  rw [← h4] at Lu
  refine hi.head t ht h1 (jQ hi.tofG ?_ Lu)
  rw [cx,List.length_take,aP h];omega
end Go.Ab
end
section
namespace Go.Ab
open Go.Proofs
attribute [local congr] ACall.congr gd.congr Nx.congr
set_option maxRecDepth 10000
set_option maxHeartbeats 8000000
def tY (g:Gr) (p:Pl):Bool:=decide (200<g.es.length)||decide (100<p.ord.length)||decide (100<p.outs.length)||p.outs.any fun l=>decide (200<l.length)
theorem BX {g:Gr} {p:Pl} (h:tY g p=false):g.es.length≤200∧p.ord.length≤100∧p.outs.length≤100∧∀l∈p.outs,l.length≤200:=by
 simp only [tY,Bool.or_eq_false_iff,decide_eq_false_iff_not,List.any_eq_false,decide_eq_true_eq] at h
 obtain ⟨⟨⟨h1,h2⟩,h3⟩,h4⟩:=h
 exact ⟨by omega,by omega,by omega,fun l hl=>by have:=h4 l hl;omega⟩
theorem FQ {g:Gr} {p:Pl} (h:tY g p=false):oR p:=by
 obtain ⟨_,h1,h2,h3⟩:=BX h
 exact ⟨by omega,by omega,fun l hl=>by have:=h3 l hl;omega⟩
structure FR (p:Pl):Prop where
 ord:p.ord.length≤9223372036854775807
 outs:p.outs.length≤9223372036854775807
 each:∀l∈p.outs,l.length≤9223372036854775807
theorem xk (g:Gr) (p:Pl) (hl:g.es.length≤9223372036854775807) (hp:FR p):Spec Tryz.prog 19 (Args [eG g,ePl p]) [] (eB (tY g p)) []:=by
 have ho:=hp.ord
 have hu:=hp.outs
 (refine Spec.hd (C:=T.cfg [] []) (rs:= [.t 4]) (T.ai _ _) Tryz.func19 rfl rfl Tryz.ntmps19 Tryz.results19 (by simp [AObj.isNest]) (by simp [AObj.isNest]) (by kernel_rfl) T.mixed fun X hX hP hC aQ cy=> ?_)
 generalize hB:tY g p=B
 by_cases h1:200<g.es.length
 ·have hb1:decide (200<(g.es.length:Int))=true:=decide_eq_true (by omega)
  have:B=true:=by rw [← hB,tY,decide_eq_true h1];rfl
  subst this
  repeat' (first|refine Rn.p ?_|(with_reducible apply And.intro)|((first|(refine hK _ ?_;clear hK K)|with_reducible intro K hK|refine Rs.p ?_|((with_reducible first|apply oP|apply oQ);exact rfl));try simp only [go_sem,simprocAttr,hb1])|((with_reducible refine oD ?_ ?_);kernel_rfl)|((with_reducible intro h);try simp only [go_sem,simprocAttr,hb1] at h)|omega|intro h)
 have hb1:decide (200<(g.es.length:Int))=false:=decide_eq_false (by omega)
 by_cases h2:100<p.ord.length
 ·have hb2:decide (100<(p.ord.length:Int))=true:=decide_eq_true (by omega)
  have:B=true:=by rw [← hB,tY,decide_eq_true h2];simp
  subst this
  repeat' (first|refine Rn.p ?_|(with_reducible apply And.intro)|((first|(refine hK _ ?_;clear hK K)|with_reducible intro K hK|refine Rs.p ?_|((with_reducible first|apply oP|apply oQ);exact rfl));try simp only [go_sem,simprocAttr,hb1,hb2])|((with_reducible refine oD ?_ ?_);kernel_rfl)|((with_reducible intro h);try simp only [go_sem,simprocAttr,hb1,hb2] at h)|omega|intro h)
 have hb2:decide (100<(p.ord.length:Int))=false:=decide_eq_false (by omega)
 by_cases h3:100<p.outs.length
 ·have hb3:decide (100<(p.outs.length:Int))=true:=decide_eq_true (by omega)
  have:B=true:=by rw [← hB,tY,decide_eq_true h3];simp
  subst this
  repeat' (first|refine Rn.p ?_|(with_reducible apply And.intro)|((first|(refine hK _ ?_;clear hK K)|with_reducible intro K hK|refine Rs.p ?_|((with_reducible first|apply oP|apply oQ);exact rfl));try simp only [go_sem,simprocAttr,hb1,hb2,hb3])|((with_reducible refine oD ?_ ?_);kernel_rfl)|((with_reducible intro h);try simp only [go_sem,simprocAttr,hb1,hb2,hb3] at h)|omega|intro h)
 have hb3:decide (100<(p.outs.length:Int))=false:=decide_eq_false (by omega)
 have QY:B=p.outs.any fun l=>decide (200<l.length):=by rw [← hB,tY,decide_eq_false h1,decide_eq_false h2,decide_eq_false h3];simp
 clear hB
 repeat' (first|refine Rn.p ?_|(with_reducible apply And.intro)|((first|(refine hK _ ?_;clear hK K)|with_reducible intro K hK|refine Rs.p ?_|((with_reducible first|apply oP|apply oQ);exact rfl));try simp only [go_sem,simprocAttr,hb1,hb2,hb3])|((with_reducible refine oD ?_ ?_);kernel_rfl)|((with_reducible intro h);try simp only [go_sem,simprocAttr,hb1,hb2,hb3] at h)|omega|intro h)
 refine ak (fun k:Nat=>k≤p.outs.length∧∀j,j<k→(p.outs.getD j []).length≤200) (fun k=>⟨[(24, .d (.sl 1 (vI p.outs))),(25,eN p.outs.length),(26,eN k)], []⟩) (fun k=>p.outs.length - k) 0 (by simp) ?_ ?_
 ·(refine Le.of ?_ ?_<;>simp [go_sem,simprocAttr])
 rintro k ⟨hk,hg⟩
 rcases Nat.lt_or_ge k p.outs.length with cw|Im
 ·have hb:decide ((k:Int)<(p.outs.length:Int))=true:=decide_eq_true (by omega)
  have hv:=fF cw
  have hm:=aU (d:= []) cw
  have gy:=hp.each _ hm
  by_cases h4:200<(p.outs.getD k []).length
  ·have hb4:decide (200<((p.outs.getD k []).length:Int))=true:=decide_eq_true (by omega)
   have:B=true:=by rw [QY,List.any_eq_true];exact ⟨_,hm,decide_eq_true h4⟩
   subst this
   repeat' (first|refine Rn.p ?_|(with_reducible apply And.intro)|((first|(refine hK _ ?_;clear hK K)|with_reducible intro K hK|refine Rs.p ?_|((with_reducible first|apply oP|apply oQ);exact rfl));try simp only [go_sem,simprocAttr,hb,hv,hb4])|((with_reducible refine oD ?_ ?_);kernel_rfl)|((with_reducible intro h);try simp only [go_sem,simprocAttr,hb,hv,hb4] at h)|omega|intro h)
  ·have hb4:decide (200<((p.outs.getD k []).length:Int))=false:=decide_eq_false (by omega)
   repeat' (first|refine Rn.p ?_|(with_reducible apply And.intro)|((first|(refine hK _ ?_;clear hK K)|with_reducible intro K hK|refine Rs.p ?_|((with_reducible first|apply oP|apply oQ);exact rfl));try simp only [go_sem,simprocAttr,hb,hv,hb4])|((with_reducible refine oD ?_ ?_);kernel_rfl)|((with_reducible intro h);try simp only [go_sem,simprocAttr,hb,hv,hb4] at h)|omega|intro h)
   refine ⟨k+1,⟨by omega,fun j hj=> ?_⟩, ?_,by omega⟩
   ·by_cases e:j=k
    ·subst e;omega
    ·exact hg j (by omega)
   ·(refine Le.of ?_ ?_<;>simp [go_sem,simprocAttr,hb,hv,hb4])
 ·have hb:decide ((k:Int)<(p.outs.length:Int))=false:=decide_eq_false (by omega)
  have:B=false:=by
   rw [QY,List.any_eq_false]
   intro l hl
   obtain ⟨j,hj,rfl⟩:=List.mem_iff_getElem.1 hl
   have:=hg j (by omega)
   rw [List.getD_eq_getElem?_getD,List.getElem?_eq_getElem hj,Option.getD_some] at this
   simp;omega
  subst this
  repeat' (first|refine Rn.p ?_|(with_reducible apply And.intro)|((first|(refine hK _ ?_;clear hK K)|with_reducible intro K hK|refine Rs.p ?_|((with_reducible first|apply oP|apply oQ);exact rfl));try simp only [go_sem,simprocAttr,hb])|((with_reducible refine oD ?_ ?_);kernel_rfl)|((with_reducible intro h);try simp only [go_sem,simprocAttr,hb] at h)|omega|intro h)
def vu (g:Gr):Bool:=decide ((cg g).1=0)&&decide ((bQ (·.1) g).length=1)
theorem nt (g:Gr) (hl:g.es.length≤1000):Spec Tryz.prog 39 (Args [eG g]) [] (eB (vu g)) []:=by
 by_cases hc:(cg g).1=0
 ·have hm:=aj hc
  have hb1:decide ((cg g).1=0)=true:=decide_eq_true hc
  have hI:vu g=decide (((bQ (·.1) g).length:Int)=1):=by
   unfold vu;rw [hb1,Bool.true_and,decide_eq_decide];omega
  rw [hI]
  generalize nK:bQ (·.1) g=bl
  have hS:=AD g hm
  rw [nK] at hS
  (refine Spec.hd (C:=T.cfg [] []) (rs:= [.t 2]) (T.ai _ _) Tryz.func39 rfl rfl Tryz.ntmps39 Tryz.results39 (by simp [AObj.isNest]) (by simp [AObj.isNest]) (by kernel_rfl) T.mixed fun X hX hP hC aQ cy=> ?_)
  repeat' (first|refine Rn.p ?_|(with_reducible apply And.intro)|((first|(refine hK _ ?_;clear hK K)|with_reducible intro K hK|refine Rs.p ?_|((with_reducible first|apply oP|apply oQ);exact rfl)|refine aa hX hC hP (kF g hl) rfl rfl rfl (by simp only [go_sem,simprocAttr,hb1]) rfl ?_|refine aa hX hC hP (gP g hm) rfl rfl rfl (by simp only [go_sem,simprocAttr,hb1]) rfl ?_|refine aa hX hC hP (hS) rfl rfl rfl (by simp only [go_sem,simprocAttr,hb1]) rfl ?_);try simp only [go_sem,simprocAttr,hb1])|((with_reducible refine oD ?_ ?_);kernel_rfl)|((with_reducible intro h);try simp only [go_sem,simprocAttr,hb1] at h)|omega|intro h)
 ·have hb1:decide ((cg g).1=0)=false:=decide_eq_false hc
  have hI:vu g=false:=by unfold vu;rw [hb1];rfl
  rw [hI]
  (refine Spec.hd (C:=T.cfg [] []) (rs:= [.t 2]) (T.ai _ _) Tryz.func39 rfl rfl Tryz.ntmps39 Tryz.results39 (by simp [AObj.isNest]) (by simp [AObj.isNest]) (by kernel_rfl) T.mixed fun X hX hP hC aQ cy=> ?_)
  repeat' (first|refine Rn.p ?_|(with_reducible apply And.intro)|((first|(refine hK _ ?_;clear hK K)|with_reducible intro K hK|refine Rs.p ?_|((with_reducible first|apply oP|apply oQ);exact rfl)|refine aa hX hC hP (kF g hl) rfl rfl rfl (by simp only [go_sem,simprocAttr,hb1]) rfl ?_);try simp only [go_sem,simprocAttr,hb1])|((with_reducible refine oD ?_ ?_);kernel_rfl)|((with_reducible intro h);try simp only [go_sem,simprocAttr,hb1] at h)|omega|intro h)
end Go.Ab
end
section
namespace Go.Ab
open Go.Proofs
attribute [local congr] ACall.congr gd.congr Nx.congr
set_option maxRecDepth 10000
set_option maxHeartbeats 8000000
def UR:Gr:=⟨3, [(0,1),(0,2)]⟩
def US:Pl:=⟨[0,1,2], [[0,1], [], []]⟩
def UT:Gr:=⟨4, [(0,1),(0,2),(1,3),(2,3)]⟩
def UU:Pl:=⟨[0,1,2,3], [[0,1], [2], [3], []]⟩
end Go.Ab
end
section
namespace Go.Ab
open Go.Proofs
attribute [local congr] ACall.congr gd.congr Nx.congr
set_option maxRecDepth 10000
def UW (l:List Int) (k:Nat):Bool:=(List.range k).all fun i=>decide (l.getD i 0=(i:Int))
def HH (g:Gr) (names order:List Int) (k:Nat):List Edge:=(List.range k).map fun i=>(names.getD (g.es.getD (order.getD i 0).toNat (0,0)).1.toNat 0,names.getD (g.es.getD (order.getD i 0).toNat (0,0)).2.toNat 0)
def gH (g:Gr) (names order:List Int):Gr:=⟨g.n,HH g names order order.length⟩
theorem yR {g:Gr} {names order:List Int} {k:Nat} :(HH g names order k).length=k:=by simp [HH]
def Mr (g:Gr) (names order:List Int):Bool:=aL g&&lI names g.n&&lI order g.es.length
def Tb (g:Gr) (names order:List Int):Gr:=if Mr g names order then gH g names order else ⟨0, []⟩
end Go.Ab
end
section
namespace Go.Ab
def Ed (g:Gr) (a b:Int):Prop:=∃i,i<g.es.length∧tl g i=a∧hd g i=b
def Nm (g:Gr) (l:List Int):Prop:=∀i,i<l.length→Ed g (l.getD i 0) (l.getD ((i+1) % l.length) 0)
def FT (g:Gr) (way:List Int) (at_:Int):Prop:=∀p,p<way.length→Ed g ((way++ [at_]).getD (p+1) 0) (way.getD p 0)
theorem pV {l:List Int} {a:Int} :(l++ [a]).getD l.length 0=a:=by
 rw [List.getD_eq_getElem?_getD,List.getElem?_append_right (Nat.le_refl _)];simp
theorem tZ {g:Gr} (hm:aL g=true):∀(f:Nat) (way:List Int) (a:Nat),a<g.n.toNat→(a:Int)∉aT g→FT g way a→left g way≤f→
 FT g (nc g (cH g (aT g)) f way a).1 (nc g (cH g (aT g)) f way a).2∧0≤(nc g (cH g (aT g)) f way a).2∧(nc g (cH g (aT g)) f way a).2∈(nc g (cH g (aT g)) f way a).1
 |f,way,a,ha,hn,hc,hl=>by
  by_cases hmem:(a:Int)∈way
  ·rw [ow (.inr hmem)]
   exact ⟨hc,by simp only;omega,hmem⟩
  ·have hla:=ou ha hmem
   cases f with
   |zero=>omega
   |succ f=>
    obtain ⟨⟨i,hi,JT,htl,Nl⟩,_⟩:=AE hm (Mg hm ha hn)
    have htr:=bn hm hi
    rw [htl] at htr
    obtain ⟨b,qI⟩:∃b:Nat,lF g (cH g (aT g)) a=b:=⟨(lF g (cH g (aT g)) a).toNat,by omega⟩
    rw [qI] at Nl htr htl
    have e1:nc g (cH g (aT g)) (f+1) way a=nc g (cH g (aT g)) f (way++ [(a:Int)]) b:=by
     simp only [nc];rw [if_neg (by intro h;rcases h with h|h;omega;exact hmem h),qI]
    rw [e1]
    refine tZ hm f (way++ [(a:Int)]) b (by omega) Nl ?_ (by omega)
    intro p hp
    rw [List.length_append,List.length_singleton] at hp
    by_cases cx:p<way.length
    ·have:=hc p cx
     rw [oz (by simp;omega),oz cx]
     exact this
    ·have:p=way.length:=by omega
     subst this
     have e2:=pV (l:=way++ [(a:Int)]) (a:=(b:Int))
     rw [List.length_append,List.length_singleton] at e2
     rw [e2,pV]
     exact ⟨i,hi,htl,JT⟩
theorem getD_drop {l:List Int} {k p:Nat} :(l.drop k).getD p 0=l.getD (k+p) 0:=by
 rw [List.getD_eq_getElem?_getD,List.getElem?_drop, ← List.getD_eq_getElem?_getD]
theorem Nm.Jn {g:Gr} {l:List Int} (h:∀p,p<l.length→Ed g (l.getD ((p+1) % l.length) 0) (l.getD p 0)) (h0:0<l.length):Nm g (ot l.reverse):=by
 have Tc:0<l.reverse.length:=by simpa using h0
 obtain ⟨k,zW,hk2,_⟩:=iJ (yE Tc)
 rw [List.length_reverse] at hk2
 have e1:ot l.reverse=l.reverse.drop k++l.reverse.take k:=by simp only [ot,zW,Int.toNat_natCast]
 have hlen:(ot l.reverse).length=l.length:=by rw [e1];simp;omega
 have hg:∀i,i<l.length→(ot l.reverse).getD i 0=l.getD (l.length - 1 - (i+k) % l.length) 0:=by
  intro i hi
  rw [e1,List.getD_eq_getElem?_getD]
  by_cases hik:i<l.length - k
  ·rw [List.getElem?_append_left (by simp;omega),List.getElem?_drop,List.getElem?_reverse (by omega),Nat.mod_eq_of_lt (by omega), ← List.getD_eq_getElem?_getD]
   congr 1;omega
  ·rw [List.getElem?_append_right (by simp;omega),List.length_drop,List.length_reverse,List.getElem?_take,if_pos (by omega),List.getElem?_reverse (by omega), ← List.getD_eq_getElem?_getD]
   have:(i+k) % l.length=i+k - l.length:=by rw [Nat.mod_eq_sub_mod (by omega),Nat.mod_eq_of_lt (by omega)]
   rw [this];congr 1;omega
 intro i hi
 rw [hlen] at hi ⊢
 rw [hg i hi,hg _ (Nat.mod_lt _ h0)]
 have hmm:((i+1) % l.length+k) % l.length=((i+k) % l.length+1) % l.length:=by
  rw [Nat.mod_add_mod,Nat.mod_add_mod];congr 1;omega
 rw [hmm]
 have hj:=Nat.mod_lt (i+k) h0
 generalize (i+k) % l.length=j at hj ⊢
 by_cases FU:j+1<l.length
 ·rw [Nat.mod_eq_of_lt FU]
  have:=h (l.length - 1 - (j+1)) (by omega)
  rw [Nat.mod_eq_of_lt (by omega),show l.length - 1 - (j+1)+1=l.length - 1 - j from by omega] at this
  exact this
 ·have:j+1=l.length:=by omega
  rw [this,Nat.mod_self]
  have:=h (l.length - 1) (by omega)
  rw [show l.length - 1+1=l.length from by omega,Nat.mod_self] at this
  rw [show l.length - 1 - j=0 from by omega]
  exact this
def PR (g:Gr):Prop:=∃r:Int→Nat,∀i,i<g.es.length→r (tl g i)<r (hd g i)
theorem ry {g:Gr} (hm:aL g=true):BJ g=true↔PR g:=by
 constructor
 ·intro h
  refine ⟨fun v=>((zR g.n.toNat (aT g) (aT g).length).getD v.toNat 0).toNat,fun i hi=> ?_⟩
  have h1:=Fz (C5 hm h) hi
  have h2:=tC (n:=g.n.toNat) (l:=aT g) (k:=(aT g).length) (y:=(tl g i).toNat)
  simp only;omega
 ·rintro ⟨r,hr⟩
  cases h:BJ g with
  |true=>rfl
  |false=>
   exfalso
   obtain ⟨y,hy,hn⟩:=BL hm h
   have key:∀(p:Nat) (y:Nat),y<g.n.toNat→(y:Int)∉aT g→r y=p→False:=by
    intro p
    induction p using Nat.strongRecOn with
    |_ p ih=>
     intro y hy hn hp
     obtain ⟨t,i,hi,h1,rfl,h2⟩:=Mg hm hy hn
     have htr:=bn hm hi
     have hlt:=hr i hi
     rw [h1,hp] at hlt
     have e:((tl g i).toNat:Int)=tl g i:=by omega
     exact ih (r (tl g i)) hlt (tl g i).toNat (by omega) (by rw [e];exact h2) (by rw [e])
   exact key _ y hy hn rfl
theorem xm {g:Gr} (hm:aL g=true) (h:BJ g=true):lG g= []:=by
 have hall:=(cA.1 (BK hm h)).2
 have hn:=aG hm
 rcases start_eq hm with ⟨h1,h2⟩|⟨a,ha,h1,h2,h3⟩
 ·have:mD g=([], -1):=by
   unfold mD;rw [h1];exact ow (.inl (by omega)) _
  simp only [lG,this]
  rw [if_pos (by omega)]
 ·exact absurd (hall a (cE.2 (by omega))) h3
theorem FV {g:Gr} (hm:aL g=true) (h:BJ g=false):0<(lG g).length∧Nm g (lG g):=by
 obtain ⟨y,hy,Td⟩:=BL hm h
 have hn:=aG hm
 rcases start_eq hm with ⟨h1,h2⟩|⟨a,ha,h1,h2,h3⟩
 ·exfalso
  rcases iI (f:=fun n:Int=>decide (0<n)) (l:=cH g (aT g)) 0 with ⟨_,h4⟩|⟨k,h4,_⟩
  ·have h5:=(pP hm hy).2 Td
   have h6:=h4 ((cH g (aT g)).getD y 0) (by rw [List.getD_eq_getElem?_getD,kC hy];exact List.mem_of_getElem? (kC hy))
   rw [lD hy] at h6
   exact absurd h5 (of_decide_eq_false h6)
  ·omega
 ·obtain ⟨h4,h5,h6⟩:=tZ hm g.n.toNat [] a ha h3 (fun p hp=>by simp at hp) HB
  have hw:mD g=nc g (cH g (aT g)) g.n.toNat [] a:=by unfold mD;rw [h1]
  rw [← hw] at h4 h5 h6
  obtain ⟨k,zW,hk2,Pk⟩:=iJ h6
  have hc:lG g=ot ((mD g).1.drop k).reverse:=by
   simp only [lG]
   rw [if_neg (by omega),zW,Int.toNat_natCast]
  have hlen:((mD g).1.drop k).length=(mD g).1.length - k:=by simp
  have h0:0<((mD g).1.drop k).length:=by omega
  refine ⟨?_, ?_⟩
  ·rw [hc]
   simp only [ot,List.length_append,List.length_drop,List.length_take,List.length_reverse]
   omega
  ·rw [hc]
   refine Nm.Jn (fun p hp=> ?_) h0
   rw [hlen] at hp ⊢
   have h7:=h4 (k+p) (by omega)
   rw [getD_drop (p:=p)]
   by_cases FU:p+1<(mD g).1.length - k
   ·rw [Nat.mod_eq_of_lt FU,getD_drop]
    rw [oz (by omega)] at h7
    exact h7
   ·have:p+1=(mD g).1.length - k:=by omega
    rw [this,Nat.mod_self,getD_drop,Nat.add_zero,Pk]
    rw [show k+p+1=(mD g).1.length from by omega,pV] at h7
    exact h7
end Go.Ab
end
