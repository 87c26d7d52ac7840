/- A part of the proof. -/
import Derived.Test.YtchjjbfhlchpfaaGreatL5P15
set_option linter.unusedSimpArgs false
set_option linter.unusedVariables false
section
namespace Go.Ab
open Go.Proofs
attribute [local congr] ACall.congr gd.congr Nx.congr
set_option maxRecDepth 10000
set_option maxHeartbeats 2000000
theorem cl (l:List Int):Spec Tryz.prog 121 (Args [.d (sI l)]) [] (.fn 171 [] [.ptr 10000 0]) [(10000, .box [.d (sI l)])]:=by
 (refine Spec.rH (C:=T.cfg [] []) (rs:= [.t 2]) [(10000,1)] (T.ah _ _) Tryz.func121 rfl rfl Tryz.ntmps121 Tryz.results121 (by simp [AObj.isNest]) (by simp [AObj.isNest]) (by first|(simp [look];done)|(simp [asN];done)|(intro l hl;simp only [asN];repeat (rw [if_neg (fun e=>by subst e;simp [look] at hl)]))) (by first|(simp [look];done)|(simp [asN];done)|(intro l hl;simp only [asN];repeat (rw [if_neg (fun e=>by subst e;simp [look] at hl)]))) (by kernel_rfl) T.mixed fun X hX hP hC aP ck=> ?_)
 repeat' (first|refine Rn.p ?_|(with_reducible apply And.intro)|((first|(refine hK _ ?_;clear hK K)|with_reducible intro K hK|refine Rs.p ?_|((with_reducible first|apply oP|apply oQ);exact rfl));try simp only [go_sem,simprocAttr])|((with_reducible refine oD ?_ ?_);kernel_rfl)|((with_reducible intro h);try simp only [go_sem,simprocAttr] at h)|omega|intro h)
theorem eO (xs ys:List Int) (hlen:xs.length≤9223372036854775807):Spec Tryz.prog 122 (Args [.d (sI xs), .d (sI ys)]) [] (eB (decide (xs=ys))) []:=by
 (refine Spec.hd (C:=T.cfg [] []) (rs:= [.t 4]) (T.ah _ _) Tryz.func122 rfl rfl Tryz.ntmps122 Tryz.results122 (by simp [AObj.isNest]) (by simp [AObj.isNest]) (by kernel_rfl) T.mixed fun X hX hP hC aP ck=> ?_)
 repeat' (first|refine Rn.p ?_|(with_reducible apply And.intro)|((first|(refine hK _ ?_;clear hK K)|with_reducible intro K hK|refine Rs.p ?_|((with_reducible first|apply oP|apply oQ);exact rfl));try simp only [go_sem,simprocAttr])|((with_reducible refine oD ?_ ?_);kernel_rfl)|((with_reducible intro h);try simp only [go_sem,simprocAttr] at h)|omega|intro h)
 ·have:xs≠ys:=fun e=>h (by rw [e])
  simp [this]
 refine an (fun k:Nat=>k≤xs.length∧xs.take k=ys.take k) (fun k=>⟨[(0, .d (sI xs)),(1, .d (sI ys)),(12,eN xs.length),(13,eN k)], []⟩) (fun k=>xs.length - k) 0 (by simp) ?_ ?_
 ·(refine ⟨c9 ?_,fun _ _ h=>h⟩;simp [go_sem,simprocAttr])
 rintro k ⟨hk,hp⟩
 have Br:xs.length=ys.length:=by omega
 repeat' (first|refine Rn.p ?_|(with_reducible apply And.intro)|((first|(refine hK _ ?_;clear hK K)|with_reducible intro K hK|refine Rs.p ?_|((with_reducible first|apply oP|apply oQ);exact rfl));try simp only [go_sem,simprocAttr])|((with_reducible refine oD ?_ ?_);kernel_rfl)|((with_reducible intro h);try simp only [go_sem,simprocAttr] at h)|omega|intro h)
 ·have:xs≠ys:=fun e=>h (by rw [e])
  simp [this]
 ·refine ⟨k+1,⟨by omega,BM 0 (by omega) (by omega) hp h⟩, ?_,by omega⟩
  (refine ⟨c9 ?_,fun _ _ h=>h⟩;simp [go_sem,simprocAttr])
 ·have:k=xs.length:=by omega
  subst this
  rw [List.take_of_length_le (Nat.le_refl _),List.take_of_length_le (by omega)] at hp
  simp [hp]
def fu (g:Gr) (x:Int) (i:Int):It:=(i,x,(g.es.getD i.toNat (0,0)).2)
def aJ (g:Gr) (x:Int) (outs:List Int):List It:=if outs= [] then [(-1,x, -1)] else outs.map (fu g x)
theorem sF {α β:Type} {f:α→β} {l:List α} {d:α} {k:Nat} (h:k<l.length):(l.take (k+1)).map f=(l.take k).map f++ [f (l.getD k d)]:=by
 rw [List.take_add_one,List.map_append,List.getElem?_eq_getElem h,List.getD_eq_getElem?_getD,List.getElem?_eq_getElem h]
 rfl
theorem zO (g:Gr) (f:Fr) (x:Int) (outs:List Int) (hl:outs.length≤1000000) (ho:∀i∈outs,0≤i∧i<g.es.length):Spec Tryz.prog 126 (Args [.d (fm g f),eN x, .d (sI outs)]) [] (.ref 10000) [(10000, .tip 100 3 ((aJ g x outs).map rT))]:=by
 unfold fm
 by_cases h0:outs= []
 ·subst h0
  have hA:aJ g x []= [(-1,x, -1)]:=if_pos rfl
  rw [hA]
  (refine Spec.rH (C:=T.cfg [] []) (rs:= [.t 6]) [(10000,14)] (T.ah _ _) Tryz.func126 rfl rfl Tryz.ntmps126 Tryz.results126 (by simp [AObj.isNest]) (by simp [AObj.isNest]) (by first|(simp [look];done)|(simp [asN];done)|(intro l hl;simp only [asN];repeat (rw [if_neg (fun e=>by subst e;simp [look] at hl)]))) (by first|(simp [look];done)|(simp [asN];done)|(intro l hl;simp only [asN];repeat (rw [if_neg (fun e=>by subst e;simp [look] at hl)]))) (by kernel_rfl) T.mixed fun X hX hP hC aP ck=> ?_)
  repeat' (first|refine Rn.p ?_|(with_reducible apply And.intro)|((first|(refine hK _ ?_;clear hK K)|with_reducible intro K hK|refine Rs.p ?_|((with_reducible first|apply oP|apply oQ);exact rfl));try simp only [go_sem,simprocAttr,aq])|((with_reducible refine oD ?_ ?_);kernel_rfl)|((with_reducible intro h);try simp only [go_sem,simprocAttr,aq] at h)|omega|intro h)
 ·have hA:aJ g x outs=outs.map (fu g x):=if_neg h0
  rw [hA]
  have hb0:decide ((outs.length:Int)=0)=false:=decide_eq_false fun h=>h0 (List.eq_nil_of_length_eq_zero (by omega))
  (refine Spec.rH (C:=T.cfg [] []) (rs:= [.t 6]) [(10000,38)] (T.ah _ _) Tryz.func126 rfl rfl Tryz.ntmps126 Tryz.results126 (by simp [AObj.isNest]) (by simp [AObj.isNest]) (by first|(simp [look];done)|(simp [asN];done)|(intro l hl;simp only [asN];repeat (rw [if_neg (fun e=>by subst e;simp [look] at hl)]))) (by first|(simp [look];done)|(simp [asN];done)|(intro l hl;simp only [asN];repeat (rw [if_neg (fun e=>by subst e;simp [look] at hl)]))) (by kernel_rfl) T.mixed fun X hX hP hC aP ck=> ?_)
  repeat' (first|refine Rn.p ?_|(with_reducible apply And.intro)|((first|(refine hK _ ?_;clear hK K)|with_reducible intro K hK|refine Rs.p ?_|((with_reducible first|apply oP|apply oQ);exact rfl));try simp only [go_sem,simprocAttr,aq,hb0])|((with_reducible refine oD ?_ ?_);kernel_rfl)|((with_reducible intro h);try simp only [go_sem,simprocAttr,aq,hb0] at h)|omega|intro h)
  (refine c8 hX 6 38 (.tip 100 3 []) (by simp only [go_sem,simprocAttr,aq,hb0]) (by simp only [go_sem,simprocAttr,aq,hb0]) (by decide) ⟨100,3,by decide, .inr rfl⟩ ?_;simp only [go_sem,simprocAttr,aq,hb0])
  refine an (fun k:Nat=>k≤outs.length) (fun k=>⟨[(0, .d (fm g f)),(1,eN x),(15, .d (sI outs)),(16,eN outs.length),(17,eN k),(6, .ref 38)], [(38, .tip 100 3 (((outs.take k).map (fu g x)).map rT))]⟩) (fun k=>outs.length - k) 0 (by omega) ?_ ?_
  ·refine Le.of ?_ ?_<;>simp [go_sem,simprocAttr,aq,hb0,fm]
  unfold fm
  rintro k hk
  rcases Nat.lt_or_ge k outs.length with hlt|hge
  ·have hb:decide ((k:Int)<(outs.length:Int))=true:=decide_eq_true (by omega)
   have dN:=sF (f:=fu g x) (d:=0) hlt
   have Ln:=ho _ (aS (d:=0) hlt)
   have hlk:(outs.take k).length=k:=by simp;omega
   repeat' (first|refine Rn.p ?_|(with_reducible apply And.intro)|((first|(refine hK _ ?_;clear hK K)|with_reducible intro K hK|refine Rs.p ?_|((with_reducible first|apply oP|apply oQ);exact rfl));try simp only [go_sem,simprocAttr,aq,hb,hlk])|((with_reducible refine oD ?_ ?_);kernel_rfl)|((with_reducible intro h);try simp only [go_sem,simprocAttr,aq,hb,hlk] at h)|omega|intro h)
   refine ⟨k+1,by omega, ?_,by omega⟩
   refine Le.of ?_ ?_<;>simp [go_sem,simprocAttr,aq,hb,hlk,dN,fu]
  ·have hb:decide ((k:Int)<(outs.length:Int))=false:=decide_eq_false (by omega)
   obtain rfl:k=outs.length:=by omega
   have ht:outs.take outs.length=outs:=List.take_of_length_le (by omega)
   repeat' (first|refine Rn.p ?_|(with_reducible apply And.intro)|((first|(refine hK _ ?_;clear hK K)|with_reducible intro K hK|refine Rs.p ?_|((with_reducible first|apply oP|apply oQ);exact rfl));try simp only [go_sem,simprocAttr,aq,hb,ht])|((with_reducible refine oD ?_ ?_);kernel_rfl)|((with_reducible intro h);try simp only [go_sem,simprocAttr,aq,hb,ht] at h)|omega|intro h)
def iB (g:Gr) (f:Fr):List (Nat × AObj):= [(10000, .box [.d (sT f.row), .d (vw g), .ref 10001]),(10001, .tip 3 1 (f.pl.map rI))]
theorem vZ (row items:List It) (a b:Nat) (h0:0<items.length) (hr:row.length≤400000) (hi:items.length≤100000):Spec Tryz.prog 174 (Args [.d (.sl 1 [[.sl 3 (List.take a (row.map rT))], [.sl 3 (items.map rT)], [.sl 3 (List.drop b (row.map rT))]])]) [] (.d (sT (row.take a++items++row.drop b))) []:=by
 have hf: [row.take a,items,row.drop b].flatten=row.take a++items++row.drop b:=by simp
 have hlen: [row.take a,items,row.drop b].flatten.length=min a row.length+items.length+(row.length - b):=by simp;omega
 have:=vY [row.take a,items,row.drop b] (by simp) (by omega) (by omega)
 rw [hf] at this
 simpa only [vT,List.map_cons,List.map_nil,sT,List.map_take,List.map_drop] using this
theorem Ca (g:Gr) (row items:List It) (pl:List Int) (a b:Nat) (hab:a≤b) (hb:b≤row.length) (h0:0<items.length) (hr:row.length≤400000) (hi:items.length≤100000):
 Spec Tryz.prog 125 (Args [.ptr 10000 0,eN a,eN b, .ref 10003]) (iB g ⟨row,pl⟩++ [(10003, .tip 100 3 (items.map rT))]) (.d (sT ((row.take b).drop a))) (iB g ⟨row.take a++items++row.drop b,pl⟩):=by
 have hcl:((row.take b).drop a).length≤1000000:=by simp;omega
 have y5:List.take row.length (row.map rT)=row.map rT:=List.take_of_length_le (by simp)
 unfold iB
 simp only [List.cons_append,List.nil_append]
 (refine Spec.hd (C:=T.cfg [] []) (rs:= [.t 8]) (T.ah _ _) Tryz.func125 rfl rfl Tryz.ntmps125 Tryz.results125 (by simp [AObj.isNest]) (by simp [AObj.isNest]) (by kernel_rfl) T.mixed fun X hX hP hC aP ck=> ?_)
 repeat' (first|refine Rn.p ?_|(with_reducible apply And.intro)|((first|(refine hK _ ?_;clear hK K)|with_reducible intro K hK|refine Rs.p ?_|((with_reducible first|apply oP|apply oQ);exact rfl)|(refine aj hX hC hP [(10000,17)] (pG ((row.take b).drop a) hcl) rfl rfl rfl ?_ ?_ ?_ ?_ ?_ ?_ ?_ ?_ ?_ ?_ ?_ ?_ ?_ ?_;(focus (simp only [go_sem,simprocAttr,List.map_take,List.map_drop,y5];done));(iterate 12 (focus (simp [go_sem,simprocAttr,List.map_take,List.map_drop,y5];done)));try simp only [List.map_cons,List.map_nil])|(refine cr hX hC hP (vZ row items a b h0 hr hi) rfl rfl rfl ?_ ?_ rfl ?_;iterate 2 (focus (simp only [go_sem,simprocAttr,List.map_take,List.map_drop,y5];done))));try simp only [go_sem,simprocAttr,List.map_take,List.map_drop,y5])|((with_reducible refine oD ?_ ?_);kernel_rfl)|((with_reducible intro h);try simp only [go_sem,simprocAttr,List.map_take,List.map_drop,y5] at h)|omega|intro h)
end Go.Ab
end
section
namespace Go.Ab
open Go.Proofs
attribute [local congr] ACall.congr gd.congr Nx.congr
set_option maxRecDepth 10000
set_option maxHeartbeats 4000000
def oe (g:Gr) (f:Fr):List (Nat × AObj):= [(10000, .box [.d (sT f.row), .d (vw g), .ref 10002]),(10002, .tip 3 1 (f.pl.map rI))]
def iW (g:Gr) (f:Fr) (x:Int) (outs:List Int):(List It × Int) × Fr:=
 if ee g f x=false then (([],3),f) else if gq outs≠bp (·.1) g x then (([],1),f) else
 (((f.row.take (bg f.row x).2.1.toNat).drop (max (bg f.row x).1 0).toNat,0),⟨f.row.take (max (bg f.row x).1 0).toNat++aJ g x outs++f.row.drop (bg f.row x).2.1.toNat,f.pl++ [x]⟩)
theorem gO {f:Edge→Int} {es:List Edge} {k:Nat} {x i:Int} (h:i∈aL f es k x):(0≤i∧i<k)∧f (es.getD i.toNat (0,0))=x:=by
 simp only [aL,List.mem_map,List.mem_filter,List.mem_range,decide_eq_true_eq] at h
 obtain ⟨j,⟨h1,h2⟩,rfl⟩:=h
 exact ⟨⟨Int.natCast_nonneg j,by simp;omega⟩,h2⟩
theorem zP {f:Edge→Int} {g:Gr} {x i:Int} (h:i∈bp f g x):(0≤i∧i<g.es.length)∧f (g.es.getD i.toNat (0,0))=x:=by
 unfold bp at h
 split at h
 ·exact gO h
 ·cases h
theorem x3 {l:List Int} {x:Int} :x∈gq l↔x∈l:=by simp [gq]
theorem uC (row:List It) (x:Int):∃a b:Nat,max (bg row x).1 0=(a:Int)∧(bg row x).2.1=(b:Int)∧a≤b∧b≤row.length:=by
 rcases dP (row:=row) (x:=x) row.length with ⟨h,_⟩|⟨a,b,c,h,h1,h2,_⟩
 ·exact ⟨0,0,by unfold bg;rw [h];rfl,by unfold bg;rw [h];rfl,by omega,by omega⟩
 ·exact ⟨a,b,by unfold bg;rw [h];simp only;omega,by unfold bg;rw [h],by omega,by omega⟩
theorem mF {g:Gr} {x:Int} {outs:List Int} :0<(aJ g x outs).length∧(aJ g x outs).length≤outs.length+1:=by
 unfold aJ
 split
 ·simp
 ·rename_i h
  have:=List.length_pos_iff.2 h
  simp;omega
theorem zQ (g:Gr) (hm:aK g=true) (f:Fr) (x:Int) (outs:List Int) (hr:f.row.length≤300000) (hp:f.pl.length≤100000) (ho:outs.length≤17592186043904):
 Spec Tryz.prog 83 (Args [.ptr 10000 0,eN x, .d (sI outs)]) (iB g f) (.tup [.d (sT (iW g f x outs).1.1),eN (iW g f x outs).1.2]) (oe g (iW g f x outs).2):=by
 have mR:f.row.length≤1000000:=by omega
 have hp1:f.pl.length≤1000000:=by omega
 have hs:(gq outs).length≤9223372036854775807:=by rw [dY];omega
 have hn:=aH hm
 cases hR:ee g f x with
 |false=>
  have hP:iW g f x outs=(([],3),f):=if_pos hR
  rw [hP]
  unfold iB oe
  (refine Spec.rH (C:=T.cfg [] []) (rs:= [.t 6, .t 7]) [(10002,10001)] (T.ah _ _) Tryz.func83 rfl rfl Tryz.ntmps83 Tryz.results83 (by simp [AObj.isNest]) (by simp [AObj.isNest]) (by first|(simp [look];done)|(simp [asN];done)|(intro l hl;simp only [asN];repeat (rw [if_neg (fun e=>by subst e;simp [look] at hl)]))) (by first|(simp [look];done)|(simp [asN];done)|(intro l hl;simp only [asN];repeat (rw [if_neg (fun e=>by subst e;simp [look] at hl)]))) (by kernel_rfl) T.mixed fun X hX hP hC aP ck=> ?_)
  repeat' (first|refine Rn.p ?_|(with_reducible apply And.intro)|((first|(refine hK _ ?_;clear hK K)|with_reducible intro K hK|refine Rs.p ?_|((with_reducible first|apply oP|apply oQ);exact rfl)|(refine au hX hC hP (fH g hm f x mR hp1) rfl rfl rfl ?_ ?_ ?_ ?_;iterate 3 (focus (simp only [go_sem,simprocAttr,hR,fm];done)))|(refine aj hX hC hP [(10000,16)] (cl outs) rfl rfl rfl ?_ ?_ ?_ ?_ ?_ ?_ ?_ ?_ ?_ ?_ ?_ ?_ ?_ ?_;(focus (simp only [go_sem,simprocAttr,hR,fm];done));(iterate 12 (focus (simp [go_sem,simprocAttr,hR,fm];done)));try simp only [List.map_cons,List.map_nil])|(refine bt hX hC hP [(10000,16)] (bT outs ho) rfl rfl rfl ?_ ?_ ?_ ?_ ?_ ?_ rfl rfl ?_ ?_;(focus (simp only [go_sem,simprocAttr,hR,fm];done));(iterate 6 (focus (simp [go_sem,simprocAttr,hR,fm];done)));try simp only [List.map_cons,List.map_nil])|refine aa hX hC hP (gN g hm x) rfl rfl rfl (by simp only [go_sem,simprocAttr,hR,fm]) rfl ?_|refine aa hX hC hP (eO (gq outs) (bp (·.1) g x) hs) rfl rfl rfl (by simp only [go_sem,simprocAttr,hR,fm]) rfl ?_|(refine au hX hC hP (dF [vw g,sI f.pl] f.row x mR) rfl rfl rfl ?_ ?_ ?_ ?_;iterate 3 (focus (simp only [go_sem,simprocAttr,hR,fm];done))));try simp only [go_sem,simprocAttr,hR,fm])|((with_reducible refine oD ?_ ?_);kernel_rfl)|((with_reducible intro h);try simp only [go_sem,simprocAttr,hR,fm] at h)|omega|intro h)
 |true=>
 have IZ:¬ee g f x=false:=by rw [hR];simp
 by_cases hE:¬gq outs=bp (·.1) g x
 ·have hb1:decide (gq outs=bp (·.1) g x)=false:=decide_eq_false hE
  have hP:iW g f x outs=(([],1),f):=by unfold iW;rw [if_neg IZ,if_pos hE]
  rw [hP]
  unfold iB oe
  (refine Spec.rH (C:=T.cfg [] []) (rs:= [.t 6, .t 7]) [(10002,10001)] (T.ah _ _) Tryz.func83 rfl rfl Tryz.ntmps83 Tryz.results83 (by simp [AObj.isNest]) (by simp [AObj.isNest]) (by first|(simp [look];done)|(simp [asN];done)|(intro l hl;simp only [asN];repeat (rw [if_neg (fun e=>by subst e;simp [look] at hl)]))) (by first|(simp [look];done)|(simp [asN];done)|(intro l hl;simp only [asN];repeat (rw [if_neg (fun e=>by subst e;simp [look] at hl)]))) (by kernel_rfl) T.mixed fun X hX hP hC aP ck=> ?_)
  repeat' (first|refine Rn.p ?_|(with_reducible apply And.intro)|((first|(refine hK _ ?_;clear hK K)|with_reducible intro K hK|refine Rs.p ?_|((with_reducible first|apply oP|apply oQ);exact rfl)|(refine au hX hC hP (fH g hm f x mR hp1) rfl rfl rfl ?_ ?_ ?_ ?_;iterate 3 (focus (simp only [go_sem,simprocAttr,hR,hb1,fm];done)))|(refine aj hX hC hP [(10000,16)] (cl outs) rfl rfl rfl ?_ ?_ ?_ ?_ ?_ ?_ ?_ ?_ ?_ ?_ ?_ ?_ ?_ ?_;(focus (simp only [go_sem,simprocAttr,hR,hb1,fm];done));(iterate 12 (focus (simp [go_sem,simprocAttr,hR,hb1,fm];done)));try simp only [List.map_cons,List.map_nil])|(refine bt hX hC hP [(10000,16)] (bT outs ho) rfl rfl rfl ?_ ?_ ?_ ?_ ?_ ?_ rfl rfl ?_ ?_;(focus (simp only [go_sem,simprocAttr,hR,hb1,fm];done));(iterate 6 (focus (simp [go_sem,simprocAttr,hR,hb1,fm];done)));try simp only [List.map_cons,List.map_nil])|refine aa hX hC hP (gN g hm x) rfl rfl rfl (by simp only [go_sem,simprocAttr,hR,hb1,fm]) rfl ?_|refine aa hX hC hP (eO (gq outs) (bp (·.1) g x) hs) rfl rfl rfl (by simp only [go_sem,simprocAttr,hR,hb1,fm]) rfl ?_|(refine au hX hC hP (dF [vw g,sI f.pl] f.row x mR) rfl rfl rfl ?_ ?_ ?_ ?_;iterate 3 (focus (simp only [go_sem,simprocAttr,hR,hb1,fm];done))));try simp only [go_sem,simprocAttr,hR,hb1,fm])|((with_reducible refine oD ?_ ?_);kernel_rfl)|((with_reducible intro h);try simp only [go_sem,simprocAttr,hR,hb1,fm] at h)|omega|intro h)
 rw [Decidable.not_not] at hE
 have hb1:decide (gq outs=bp (·.1) g x)=true:=decide_eq_true hE
 have hP:iW g f x outs=(((f.row.take (bg f.row x).2.1.toNat).drop (max (bg f.row x).1 0).toNat,0),⟨f.row.take (max (bg f.row x).1 0).toNat++aJ g x outs++f.row.drop (bg f.row x).2.1.toNat,f.pl++ [x]⟩):=by
  unfold iW;rw [if_neg IZ,if_neg (by rw [hE];simp)]
 rw [hP]
 obtain ⟨a,b,ha,hb,hab,qf⟩:=uC f.row x
 rw [ha,hb]
 simp only [Int.toNat_natCast]
 have qg:outs.length≤128:=by
  have h1:=congrArg List.length hE
  rw [dY] at h1
  have h2:=zN (f:=(·.1)) (g:=g) (x:=x)
  omega
 have Ih:∀i∈outs,0≤i∧i<g.es.length:=fun i hi=>(zP (f:=(·.1)) (g:=g) (x:=x) (by rw [← hE];exact x3.2 hi)).1
 obtain ⟨h0,h1⟩:=mF (g:=g) (x:=x) (outs:=outs)
 have uq:(aJ g x outs).length≤100000:=by omega
 have tN:f.row.length≤400000:=by omega
 have Ng:outs.length≤1000000:=by omega
 unfold iB oe
 (refine Spec.rH (C:=T.cfg [] []) (rs:= [.t 6, .t 7]) [(10002,42)] (T.ah _ _) Tryz.func83 rfl rfl Tryz.ntmps83 Tryz.results83 (by simp [AObj.isNest]) (by simp [AObj.isNest]) (by first|(simp [look];done)|(simp [asN];done)|(intro l hl;simp only [asN];repeat (rw [if_neg (fun e=>by subst e;simp [look] at hl)]))) (by first|(simp [look];done)|(simp [asN];done)|(intro l hl;simp only [asN];repeat (rw [if_neg (fun e=>by subst e;simp [look] at hl)]))) (by kernel_rfl) T.mixed fun X hX hP hC aP ck=> ?_)
 repeat' (first|refine Rn.p ?_|(with_reducible apply And.intro)|((first|(refine hK _ ?_;clear hK K)|with_reducible intro K hK|refine Rs.p ?_|((with_reducible first|apply oP|apply oQ);exact rfl)|(refine au hX hC hP (fH g hm f x mR hp1) rfl rfl rfl ?_ ?_ ?_ ?_;iterate 3 (focus (simp only [go_sem,simprocAttr,hR,hb1,ha,hb,fm,List.length_map,List.map_append,List.map_cons,List.map_nil,rI,iB,List.cons_append,List.nil_append,List.map_take,List.map_drop];done)))|(refine aj hX hC hP [(10000,16)] (cl outs) rfl rfl rfl ?_ ?_ ?_ ?_ ?_ ?_ ?_ ?_ ?_ ?_ ?_ ?_ ?_ ?_;(focus (simp only [go_sem,simprocAttr,hR,hb1,ha,hb,fm,List.length_map,List.map_append,List.map_cons,List.map_nil,rI,iB,List.cons_append,List.nil_append,List.map_take,List.map_drop];done));(iterate 12 (focus (simp [go_sem,simprocAttr,hR,hb1,ha,hb,fm,List.length_map,List.map_append,List.map_cons,List.map_nil,rI,iB,List.cons_append,List.nil_append,List.map_take,List.map_drop];done)));try simp only [List.map_cons,List.map_nil])|(refine bt hX hC hP [(10000,16)] (bT outs ho) rfl rfl rfl ?_ ?_ ?_ ?_ ?_ ?_ rfl rfl ?_ ?_;(focus (simp only [go_sem,simprocAttr,hR,hb1,ha,hb,fm,List.length_map,List.map_append,List.map_cons,List.map_nil,rI,iB,List.cons_append,List.nil_append,List.map_take,List.map_drop];done));(iterate 6 (focus (simp [go_sem,simprocAttr,hR,hb1,ha,hb,fm,List.length_map,List.map_append,List.map_cons,List.map_nil,rI,iB,List.cons_append,List.nil_append,List.map_take,List.map_drop];done)));try simp only [List.map_cons,List.map_nil])|refine aa hX hC hP (gN g hm x) rfl rfl rfl (by simp only [go_sem,simprocAttr,hR,hb1,ha,hb,fm,List.length_map,List.map_append,List.map_cons,List.map_nil,rI,iB,List.cons_append,List.nil_append,List.map_take,List.map_drop]) rfl ?_|refine aa hX hC hP (eO (gq outs) (bp (·.1) g x) hs) rfl rfl rfl (by simp only [go_sem,simprocAttr,hR,hb1,ha,hb,fm,List.length_map,List.map_append,List.map_cons,List.map_nil,rI,iB,List.cons_append,List.nil_append,List.map_take,List.map_drop]) rfl ?_|(refine au hX hC hP (dF [vw g,sI f.pl] f.row x mR) rfl rfl rfl ?_ ?_ ?_ ?_;iterate 3 (focus (simp only [go_sem,simprocAttr,hR,hb1,ha,hb,fm,List.length_map,List.map_append,List.map_cons,List.map_nil,rI,iB,List.cons_append,List.nil_append,List.map_take,List.map_drop];done)))|(refine kO hX hC hP 54 (zO g ⟨f.row,f.pl++ [x]⟩ x outs Ng Ih) rfl rfl rfl ?_ ?_ (by first|exact ⟨_,_,_,rfl,sy⟩|exact ⟨_,_,_,rfl,sC⟩|exact ⟨_,_,_,rfl,sG⟩) rfl (by decide) ?_;(iterate 2 (focus (simp only [go_sem,simprocAttr,hR,hb1,ha,hb,fm,List.length_map,List.map_append,List.map_cons,List.map_nil,rI,iB,List.cons_append,List.nil_append,List.map_take,List.map_drop];done)));simp only [go_sem,simprocAttr,hR,hb1,ha,hb,fm,List.length_map,List.map_append,List.map_cons,List.map_nil,rI,iB,List.cons_append,List.nil_append,List.map_take,List.map_drop])|(refine aj hX hC hP [(10001,42),(10003,54)] (Ca g f.row (aJ g x outs) (f.pl++ [x]) a b hab qf h0 tN uq) rfl rfl rfl ?_ ?_ ?_ ?_ ?_ ?_ ?_ ?_ ?_ ?_ ?_ ?_ ?_ ?_;(focus (simp only [go_sem,simprocAttr,hR,hb1,ha,hb,fm,List.length_map,List.map_append,List.map_cons,List.map_nil,rI,iB,List.cons_append,List.nil_append,List.map_take,List.map_drop];done));(iterate 12 (focus (simp [go_sem,simprocAttr,hR,hb1,ha,hb,fm,List.length_map,List.map_append,List.map_cons,List.map_nil,rI,iB,List.cons_append,List.nil_append,List.map_take,List.map_drop];done)));try simp only [List.map_cons,List.map_nil]));try simp only [go_sem,simprocAttr,hR,hb1,ha,hb,fm,List.length_map,List.map_append,List.map_cons,List.map_nil,rI,iB,List.cons_append,List.nil_append,List.map_take,List.map_drop])|((with_reducible refine oD ?_ ?_);kernel_rfl)|((with_reducible intro h);try simp only [go_sem,simprocAttr,hR,hb1,ha,hb,fm,List.length_map,List.map_append,List.map_cons,List.map_nil,rI,iB,List.cons_append,List.nil_append,List.map_take,List.map_drop] at h)|omega|intro h)
end Go.Ab
end
section
namespace Go.Ab
open Go.Proofs
attribute [local congr] ACall.congr gd.congr Nx.congr
set_option maxRecDepth 10000
set_option maxHeartbeats 4000000
def j5 (g:Gr) (f:Fr) (k:Nat):List Int:=((List.range k).filter fun x:Nat=>ee g f (x:Int)).map Int.ofNat
def ef (g:Gr) (f:Fr):List Int:=j5 g f g.n.toNat
theorem x4 {g:Gr} {f:Fr} {k:Nat} :j5 g f (k+1)=j5 g f k++if ee g f (k:Int)=true then [(k:Int)] else []:=by
 simp only [j5,List.range_succ,List.filter_append,List.map_append,List.filter_cons,List.filter_nil]
 split<;>simp_all
theorem sH {g:Gr} {f:Fr} {k:Nat} :(j5 g f k).length≤k:=by
 simpa [j5] using List.length_filter_le (fun x:Nat=>ee g f (x:Int)) (List.range k)
theorem x5 (g:Gr) (hm:aK g=true) (f:Fr) (hr:f.row.length≤1000000) (hp:f.pl.length≤1000000):Spec Tryz.prog 113 (Args [.d (fm g f)]) [] (.ref 10000) [(10000, .tip 3 1 ((ef g f).map rI))]:=by
 have hn:=aH hm
 unfold fm
 (refine Spec.rH (C:=T.cfg [] []) (rs:= [.t 2]) [(10000,21)] (T.ah _ _) Tryz.func113 rfl rfl Tryz.ntmps113 Tryz.results113 (by simp [AObj.isNest]) (by simp [AObj.isNest]) (by first|(simp [look];done)|(simp [asN];done)|(intro l hl;simp only [asN];repeat (rw [if_neg (fun e=>by subst e;simp [look] at hl)]))) (by first|(simp [look];done)|(simp [asN];done)|(intro l hl;simp only [asN];repeat (rw [if_neg (fun e=>by subst e;simp [look] at hl)]))) (by kernel_rfl) T.mixed fun X hX hP hC aP ck=> ?_)
 repeat' (first|refine Rn.p ?_|(with_reducible apply And.intro)|((first|(refine hK _ ?_;clear hK K)|with_reducible intro K hK|refine Rs.p ?_|((with_reducible first|apply oP|apply oQ);exact rfl)|refine aa hX hC hP (fH g hm f (k:Int) hr hp) rfl rfl rfl (by simp only [go_sem,simprocAttr,aq]) rfl ?_);try simp only [go_sem,simprocAttr,aq])|((with_reducible refine oD ?_ ?_);kernel_rfl)|((with_reducible intro h);try simp only [go_sem,simprocAttr,aq] at h)|omega|intro h)
 (refine c8 hX 2 21 (.tip 3 1 []) (by simp only [go_sem,simprocAttr,aq]) (by simp only [go_sem,simprocAttr,aq]) (by decide) ⟨3,1,by decide, .inr rfl⟩ ?_;simp only [go_sem,simprocAttr,aq])
 refine an (fun k:Nat=>k≤g.n.toNat) (fun k=>⟨[(0, .d (fm g f)),(11,eN g.n),(12,eN k),(2, .ref 21)], [(21, .tip 3 1 ((j5 g f k).map rI))]⟩) (fun k=>g.n.toNat - k) 0 (by omega) ?_ ?_
 ·refine Le.of ?_ ?_<;>simp [go_sem,simprocAttr,aq,fm,j5]
 rintro k hk
 rcases Nat.lt_or_ge k g.n.toNat with hlt|hge
 ·have hb:decide ((k:Int)<g.n)=true:=decide_eq_true (by omega)
  have dN:=x4 (g:=g) (f:=f) (k:=k)
  have hlk:=sH (g:=g) (f:=f) (k:=k)
  repeat' (first|refine Rn.p ?_|(with_reducible apply And.intro)|((first|(refine hK _ ?_;clear hK K)|with_reducible intro K hK|refine Rs.p ?_|((with_reducible first|apply oP|apply oQ);exact rfl)|refine aa hX hC hP (fH g hm f (k:Int) hr hp) rfl rfl rfl (by simp only [go_sem,simprocAttr,hb]) rfl ?_);try simp only [go_sem,simprocAttr,hb])|((with_reducible refine oD ?_ ?_);kernel_rfl)|((with_reducible intro h);try simp only [go_sem,simprocAttr,hb] at h)|omega|intro h)
  ·rw [if_pos (by assumption)] at dN
   refine ⟨k+1,by omega, ?_,by omega⟩
   refine Le.of ?_ ?_<;>simp [go_sem,simprocAttr,hb,dN,rI]
  ·rw [if_neg (by simp [*]),List.append_nil] at dN
   refine ⟨k+1,by omega, ?_,by omega⟩
   refine Le.of ?_ ?_<;>simp [go_sem,simprocAttr,hb,dN,rI]
 ·have hb:decide ((k:Int)<g.n)=false:=decide_eq_false (by omega)
  obtain rfl:k=g.n.toNat:=by omega
  repeat' (first|refine Rn.p ?_|(with_reducible apply And.intro)|((first|(refine hK _ ?_;clear hK K)|with_reducible intro K hK|refine Rs.p ?_|((with_reducible first|apply oP|apply oQ);exact rfl)|refine aa hX hC hP (fH g hm f (k:Int) hr hp) rfl rfl rfl (by simp only [go_sem,simprocAttr,hb,ef]) rfl ?_);try simp only [go_sem,simprocAttr,hb,ef])|((with_reducible refine oD ?_ ?_);kernel_rfl)|((with_reducible intro h);try simp only [go_sem,simprocAttr,hb,ef] at h)|omega|intro h)
theorem oI (g:Gr) (hl:g.es.length≤1000) (h0:(bX g).1=0) (hm:aK g=true):Spec Tryz.prog 81 (Args [eG g]) [] (.tup [.ptr 10000 0,eN 0]) [(10000, .box [.nil 100, .d (vw g), .nil 3])]:=by
 (refine Spec.rH (C:=T.cfg [] []) (rs:= [.t 2, .t 3]) [(10000,11)] (T.ah _ _) Tryz.func81 rfl rfl Tryz.ntmps81 Tryz.results81 (by simp [AObj.isNest]) (by simp [AObj.isNest]) (by first|(simp [look];done)|(simp [asN];done)|(intro l hl;simp only [asN];repeat (rw [if_neg (fun e=>by subst e;simp [look] at hl)]))) (by first|(simp [look];done)|(simp [asN];done)|(intro l hl;simp only [asN];repeat (rw [if_neg (fun e=>by subst e;simp [look] at hl)]))) (by kernel_rfl) T.mixed fun X hX hP hC aP ck=> ?_)
 repeat' (first|refine Rn.p ?_|(with_reducible apply And.intro)|((first|(refine hK _ ?_;clear hK K)|with_reducible intro K hK|refine Rs.p ?_|((with_reducible first|apply oP|apply oQ);exact rfl)|refine aa hX hC hP (jX g hl) rfl rfl rfl (by simp only [go_sem,simprocAttr,h0]) rfl ?_|refine aa hX hC hP (gw g hm) rfl rfl rfl (by simp only [go_sem,simprocAttr,h0]) rfl ?_);try simp only [go_sem,simprocAttr,h0])|((with_reducible refine oD ?_ ?_);kernel_rfl)|((with_reducible intro h);try simp only [go_sem,simprocAttr,h0] at h)|omega|intro h)
theorem Cb (g:Gr) (hl:g.es.length≤1000) (h0:(bX g).1≠0):Spec Tryz.prog 81 (Args [eG g]) [] (.tup [.d (.sc (.pointer none)),eN 1]) []:=by
 have hb:decide ((bX g).1=0)=false:=decide_eq_false h0
 (refine Spec.hd (C:=T.cfg [] []) (rs:= [.t 2, .t 3]) (T.ah _ _) Tryz.func81 rfl rfl Tryz.ntmps81 Tryz.results81 (by simp [AObj.isNest]) (by simp [AObj.isNest]) (by kernel_rfl) T.mixed fun X hX hP hC aP ck=> ?_)
 repeat' (first|refine Rn.p ?_|(with_reducible apply And.intro)|((first|(refine hK _ ?_;clear hK K)|with_reducible intro K hK|refine Rs.p ?_|((with_reducible first|apply oP|apply oQ);exact rfl)|refine aa hX hC hP (jX g hl) rfl rfl rfl (by simp only [go_sem,simprocAttr,hb]) rfl ?_);try simp only [go_sem,simprocAttr,hb])|((with_reducible refine oD ?_ ?_);kernel_rfl)|((with_reducible intro h);try simp only [go_sem,simprocAttr,hb] at h)|omega|intro h)
end Go.Ab
end
section
namespace Go.Ab
open Go.Proofs
attribute [local congr] ACall.congr gd.congr Nx.congr
set_option maxRecDepth 10000
set_option maxHeartbeats 4000000
def Qa (g:Gr) (f:Fr):List AV:= [eN g.n, .d (sE g.es), .d (sT f.row), .d (sI f.pl)]
def gA (row:List It) (x:Int):Nat→Int
 |0=>0
 |k+1=>if (row.getD k (0,0,0)).2.2=x then gA row x k+1 else gA row x k
theorem fI {row:List It} {x:Int} {k:Nat} :gA row x (k+1)=if (row.getD k (0,0,0)).2.2=x then gA row x k+1 else gA row x k:=rfl
def Em (row:List It) (x:Int) (need:Nat) (j:Nat):Bool:=decide ((row.getD j (0,0,0)).2.2≠x)&&decide (0≤(row.getD j (0,0,0)).1)&&decide (0<gA row x j)&&decide (gA row x j<need)
theorem uD {row:List It} {x:Int} {need j:Nat} :Em row x need j=true↔((row.getD j (0,0,0)).2.2≠x∧0≤(row.getD j (0,0,0)).1)∧0<gA row x j∧gA row x j<need:=by
 simp only [Em,Bool.and_eq_true,decide_eq_true_eq,and_assoc]
def aY (g:Gr) (x:Int):Nat:=(aL (·.2) g.es g.es.length x).length
def az (g:Gr) (f:Fr) (x:Int):Bool:=
 if x<0∨g.n≤x∨x∈f.pl then false else if aY g x=0 then true else
 !(List.range f.row.length).any (Em f.row x (aY g x))&&decide (gA f.row x f.row.length=aY g x)
end Go.Ab
end
section
namespace Go.Ab
open Go.Proofs
attribute [local congr] ACall.congr gd.congr Nx.congr
set_option maxRecDepth 10000
set_option maxHeartbeats 4000000
end Go.Ab
end
section
namespace Go.Ab
open Go.Proofs
attribute [local congr] ACall.congr gd.congr Nx.congr
set_option maxRecDepth 10000
set_option maxHeartbeats 8000000
def cg (g:Gr) (x:Int):List Int:=aL (·.1) g.es g.es.length x
def aA (g:Gr) (f:Fr) (x:Int) (outs:List Int):(List It × Int) × Fr:=
 (((f.row.take (bg f.row x).2.1.toNat).drop (max (bg f.row x).1 0).toNat,0),⟨f.row.take (max (bg f.row x).1 0).toNat++aJ g x outs++f.row.drop (bg f.row x).2.1.toNat,f.pl++ [x]⟩)
def e9 (g:Gr) (f:Fr) (x:Int) (outs:List Int):(List It × Int) × Fr:=
 if az g f x=false then (([],3),f) else
 if outs.length≠(cg g x).length∨∃i∈cg g x,i∉outs then (([],1),f) else aA g f x outs
theorem dw {f:Edge→Int} {es:List Edge} {k:Nat} {x:Int} :(aL f es k x).Nodup:=by
 unfold aL
 exact List.Pairwise.map _ (fun a b h e=>h (Int.ofNat.inj e)) (List.Pairwise.filter _ List.nodup_range)
theorem zR:∀ {ms os:List Int},ms.Nodup→(∀i∈ms,i∈os)→os.length=ms.length→∀i∈os,i∈ms
 | [],os,_,_,hl,i,hi=>by
   have:os= []:=List.eq_nil_of_length_eq_zero (by simpa using hl)
   rw [this] at hi;exact hi
 |m::ms,os,hn,hs,hl,i,hi=>by
  rw [List.nodup_cons] at hn
  have hm:=hs m (List.mem_cons_self ..)
  by_cases h:i=m
  ·rw [h];exact List.mem_cons_self ..
  ·refine List.mem_cons_of_mem _ (zR hn.2 (os:=os.erase m) (fun j hj=> ?_) ?_ i ?_)
   ·have:j≠m:=fun e=>hn.1 (e ▸ hj)
    exact (List.mem_erase_of_ne this).2 (hs j (List.mem_cons_of_mem _ hj))
   ·rw [List.length_erase_of_mem hm,hl];simp
   ·exact (List.mem_erase_of_ne h).2 hi
theorem En {g:Gr} {x:Int} :(cg g x).length≤g.es.length:=jq
end Go.Ab
end
section
namespace Go.Ab
open Go.Proofs
attribute [local congr] ACall.congr gd.congr Nx.congr
set_option maxRecDepth 10000
set_option maxHeartbeats 4000000
def vI (ls:List (List Int)):List (List D):=ls.map fun l=> [sI l]
theorem vI_length {ls:List (List Int)} :(vI ls).length=ls.length:=by simp [vI]
theorem fc {ls:List (List Int)} {k:Nat} (h:k<ls.length) (d:List D):(vI ls).getD k d= [sI (ls.getD k [])]:=by
 simp [vI,List.getD_eq_getElem?_getD,List.getElem?_eq_getElem h]
attribute [go_sem] vI_length
def AT (l:List Int) (i:Nat):List Int:=l.take i++l.drop (i+1)
def Ga:Nat→List Int→List (List Int)
 |0,_=> [[]]
 |n+1,l=>(List.range l.length).flatMap fun i=>(Ga n (AT l i)).map fun t=>l.getD i 0::t
def Qb (n:Nat) (l:List Int) (k:Nat):List (List Int):=(List.range k).flatMap fun i=>(Ga n (AT l i)).map fun t=>l.getD i 0::t
def Qc:Nat→Nat
 |0=>1
 |n+1=>(n+1)*Qc n
end Go.Ab
end
section
namespace Go.Ab
open Go.Proofs
attribute [local congr] ACall.congr gd.congr Nx.congr
set_option maxRecDepth 10000
set_option maxHeartbeats 8000000
def Ks (g:Gr):Nat→Fr→Bool
 |0,f=>decide ((f.pl.length:Int)=g.n)
 |m+1,f=>decide ((f.pl.length:Int)=g.n)||(List.range g.n.toNat).any fun x=>az g f (x:Int)&&(Ga (cg g (x:Int)).length (cg g (x:Int))).any fun o=>Ks g m (aA g f (x:Int) o).2
def Qd (g:Gr) (m:Nat) (f:Fr) (x:Nat):Bool:=az g f (x:Int)&&(Ga (cg g (x:Int)).length (cg g (x:Int))).any fun o=>Ks g m (aA g f (x:Int) o).2
theorem uE {g:Gr} {f:Fr} {x:Int} {o:List Int} :(aA g f x o).2.row.length≤f.row.length+o.length+1∧(aA g f x o).2.pl.length=f.pl.length+1:=by
 obtain ⟨a,b,ha,hb,hab,qf⟩:=uC f.row x
 have:=mF (g:=g) (x:=x) (outs:=o)
 have e:aA g f x o=(((f.row.take b).drop a,0),⟨f.row.take a++aJ g x o++f.row.drop b,f.pl++ [x]⟩):=by
  simp only [aA,ha,hb,Int.toNat_natCast]
 rw [e]
 refine ⟨?_,by simp⟩
 show (f.row.take a++aJ g x o++f.row.drop b).length≤_
 rw [List.length_append,List.length_append,List.length_take,List.length_drop]
 omega
end Go.Ab
end
section
namespace Go.Ab
open Go.Proofs
attribute [local congr] ACall.congr gd.congr Nx.congr
set_option maxRecDepth 10000
set_option maxHeartbeats 4000000
end Go.Ab
end
section
namespace Go.Ab
open Go.Proofs
attribute [local congr] ACall.congr gd.congr Nx.congr
set_option maxRecDepth 10000
set_option maxHeartbeats 4000000
def g9:Gr:=⟨3, [(0,1),(0,2),(1,2)]⟩
def RX:Fr:=⟨[], []⟩
def RY:Fr:=⟨[(0,0,1),(1,0,2)], [0]⟩
def RZ:Fr:=⟨[(2,1,2),(1,0,2)], [0,1]⟩
def R2:Fr:=⟨[(-1,2, -1)], [0,1,2]⟩
end Go.Ab
end
section
namespace Go.Ab
open Go.Proofs
set_option maxRecDepth 10000
def Cc (g:Gr) (t:It):Prop:=(t.1= -1∧t.2.2= -1)∨(0≤t.1∧t.1<g.es.length∧t.2.1=(g.es.getD t.1.toNat (0,0)).1∧t.2.2=(g.es.getD t.1.toNat (0,0)).2)
structure fe (g:Gr) (f:Fr):Prop where
 it:∀t∈f.row,Cc g t
 pl:f.pl.Nodup
 pV:∀x∈f.pl,0≤x∧x<g.n
theorem jt {row:List It} {x:Int} :∀k:Nat,(eM row x k).2.2=gA row x k
 |0=>rfl
 |k+1=>by
  rw [mE,fI]
  split
  ·show (eM row x k).2.2+1=_
   rw [jt k]
  ·exact jt k
theorem oJ {row:List It} {x:Int} {j:Nat} :∀d:Nat,gA row x j≤gA row x (j+d)
 |0=>Int.le_refl _
 |d+1=>by
  have:=oJ (row:=row) (x:=x) (j:=j) d
  rw [← Nat.add_assoc,fI]
  split<;>omega
theorem ju {row:List It} {x:Int} :∀ {k:Nat},(∀j,j<k→(row.getD j (0,0,0)).2.2≠x)→gA row x k=0
 |0,_=>rfl
 |k+1,h=>by
  rw [fI,if_neg (h k (by omega))]
  exact ju fun j hj=>h j (by omega)
theorem oK {row:List It} {x:Int} {b:Nat} :∀ {d:Nat},(∀j,b≤j→j<b+d→(row.getD j (0,0,0)).2.2≠x)→gA row x (b+d)=gA row x b
 |0,_=>rfl
 |d+1,h=>by
  rw [← Nat.add_assoc,fI,if_neg (h (b+d) (by omega) (by omega))]
  exact oK fun j h1 h2=>h j h1 (by omega)
theorem fJ {f:Edge→Int} {g:Gr} {x:Int} (h0:0≤x) (h1:x<g.n):bp f g x=aL f g.es g.es.length x:=if_pos ⟨h0,h1⟩
theorem lG {g:Gr} {e:Int} (h0:0≤e) (h1:e<g.es.length):0<aY g (g.es.getD e.toNat (0,0)).2:=by
 refine List.length_pos_iff.2 fun h=> ?_
 have hm:e∈aL (·.2) g.es g.es.length (g.es.getD e.toNat (0,0)).2:=by
  simp only [aL,List.mem_map,List.mem_filter,List.mem_range,decide_eq_true_eq]
  exact ⟨e.toNat,⟨by omega,rfl⟩,by simp;omega⟩
 rw [h] at hm;cases hm
theorem uF {row:List It} {p:It→Bool} {a b:Nat} (hb:b≤row.length):((row.take b).drop a).any p=true↔∃j,a≤j∧j<b∧p (row.getD j (0,0,0))=true:=by
 rw [List.any_eq_true]
 constructor
 ·rintro ⟨t,ht,hp⟩
  obtain ⟨k,hk,rfl⟩:=List.mem_iff_getElem.1 ht
  simp only [List.length_drop,List.length_take] at hk
  refine ⟨a+k,by omega,by omega, ?_⟩
  rw [List.getD_eq_getElem?_getD,List.getElem?_eq_getElem (show a+k<row.length by omega)]
  simpa using hp
 ·rintro ⟨j,h1,h2,hp⟩
  rw [List.getD_eq_getElem?_getD,List.getElem?_eq_getElem (show j<row.length by omega)] at hp
  refine ⟨row[j], ?_,hp⟩
  refine List.mem_iff_getElem.2 ⟨j - a,by simp;omega, ?_⟩
  simp only [List.getElem_drop,List.getElem_take]
  congr 1;omega
theorem Cc.head {g:Gr} (hm:aK g=true) {t:It} (h:Cc g t):(0≤t.1↔t.2.2≠ -1)∧ -1≤t.2.2:=by
 rcases h with ⟨h1,h2⟩|⟨h1,h2,_,h4⟩
 ·omega
 ·obtain ⟨_,h5,_⟩:=dg hm (k:=t.1.toNat) (by omega)
  omega
theorem jv {g:Gr} (hm:aK g=true) {f:Fr} (hi:fe g f) (x:Int):ee g f x=az g f x:=by
 by_cases hx:x<0∨g.n≤x∨x∈f.pl
 ·rw [ee,az,if_pos hx,if_pos hx]
 rw [ee,az,if_neg hx,if_neg hx]
 have hx0:0≤x∧x<g.n:=by
  constructor
  ·exact Int.not_lt.1 fun h=>hx (.inl h)
  ·exact Int.not_le.1 fun h=>hx (.inr (.inl h))
 have hmem:∀j,j<f.row.length→Cc g (f.row.getD j (0,0,0)):=fun j hj=>hi.it _ (aS hj)
 rw [fJ hx0.1 hx0.2]
 have hN:(aL (fun e=>e.2) g.es g.es.length x).length=aY g x:=rfl
 rw [hN]
 have Ii:(bg f.row x).2.2=gA f.row x f.row.length:=jt _
 by_cases h0:aY g x=0
 ·rw [if_pos h0,h0,decide_eq_true rfl,Bool.true_or,Bool.and_true,decide_eq_true_eq,Ii,ju]
  ·rfl
  ·intro j hj he
   rcases hmem j hj with ⟨_,h2⟩|⟨h1,h2,_,h4⟩
   ·omega
   ·have:=lG h1 h2
    rw [← h4,he] at this
    omega
 ·rw [if_neg h0,decide_eq_false h0,Bool.false_or,Ii]
  generalize aY g x=need at h0
  rcases dP (row:=f.row) (x:=x) f.row.length with ⟨hs,hno⟩|⟨a,b,c,hs,hab,qf,hc0,hcl,ha,hb,hlo,hhi⟩
  ·rw [ju hno]
   have e1:decide ((0:Int)=(need:Int))=false:=decide_eq_false (by omega)
   rw [e1,Bool.false_and,Bool.and_false]
  ·have hs':bg f.row x=((a:Int),(b:Int),(c:Int)):=hs
   have G5:gA f.row x f.row.length=c:=by rw [← Ii,hs']
   rw [hs',G5]
   simp only [Int.toNat_natCast]
   rw [Bool.and_comm]
   by_cases Lg:¬(c:Int)=need
   ·rw [decide_eq_false Lg,Bool.and_false,Bool.and_false]
   rw [Decidable.not_not] at Lg
   rw [decide_eq_true Lg,Bool.and_true,Bool.and_true,pH]
   congr 1
   rw [Bool.eq_iff_iff,uF qf,List.any_eq_true]
   have ma:gA f.row x a=0:=ju hlo
   have R3:gA f.row x (a+1)=1:=by rw [fI,if_pos ha,ma];rfl
   have mb:gA f.row x b=need:=by
    have h:=oK (row:=f.row) (x:=x) (b:=b) (d:=f.row.length - b) fun j h1 h2=>hhi j h1 (by omega)
    rw [show b+(f.row.length - b)=f.row.length by omega,G5] at h
    omega
   have R4:gA f.row x (b - 1)+1=need:=by
    have h:=fI (row:=f.row) (x:=x) (k:=b - 1)
    rw [if_pos hb,show b - 1+1=b by omega,mb] at h
    omega
   constructor
   ·rintro ⟨j,h1,h2,hp⟩
    simp only [j0,Bool.and_eq_true,decide_eq_true_eq] at hp
    have hja:j≠a:=fun e=>hp.1 (by rw [e];exact ha)
    have hjb:j≠b - 1:=fun e=>hp.1 (by rw [e];exact hb)
    have g1:=oJ (row:=f.row) (x:=x) (j:=a+1) (j - (a+1))
    rw [show a+1+(j - (a+1))=j by omega] at g1
    have g2:=oJ (row:=f.row) (x:=x) (j:=j) (b - 1 - j)
    rw [show j+(b - 1 - j)=b - 1 by omega] at g2
    exact ⟨j,List.mem_range.2 (by omega),uD.2 ⟨⟨hp.1,((hmem j (by omega)).head hm).1.2 hp.2⟩,by omega,by omega⟩⟩
   ·rintro ⟨j,hj,hl⟩
    have hj:=List.mem_range.1 hj
    obtain ⟨⟨h1,h2⟩,h3,h4⟩:=uD.1 hl
    refine ⟨j, ?_, ?_, ?_⟩
    ·refine Nat.not_lt.1 fun h=> ?_
     have:=ju (row:=f.row) (x:=x) (k:=j) fun i hi=>hlo i (by omega)
     omega
    ·refine Nat.not_le.1 fun h=> ?_
     have:=oK (row:=f.row) (x:=x) (b:=b) (d:=j - b) fun i h1 h2=>hhi i h1 (by omega)
     rw [show b+(j - b)=j by omega] at this
     omega
    ·simp only [j0,Bool.and_eq_true,decide_eq_true_eq]
     exact ⟨h1,((hmem j hj).head hm).1.1 h2⟩
theorem v7:∀ {ms os:List Int},ms.Nodup→(∀i∈ms,i∈os)→os.length=ms.length→os.Perm ms
 | [],os,_,_,hl=>by
   have h:os= []:=List.eq_nil_of_length_eq_zero (by simpa using hl)
   rw [h]
 |m::ms,os,hn,hs,hl=>by
  rw [List.nodup_cons] at hn
  have hm:=hs m (List.mem_cons_self ..)
  refine (List.perm_cons_erase hm).trans (List.Perm.cons m (v7 hn.2 (fun j hj=> ?_) ?_))
  ·have:j≠m:=fun e=>hn.1 (e ▸ hj)
   exact (List.mem_erase_of_ne this).2 (hs j (List.mem_cons_of_mem _ hj))
  ·rw [List.length_erase_of_mem hm,hl];simp
theorem pI {g:Gr} {x:Int} :(cg g x).Pairwise (· ≤ ·):=by
 unfold cg aL
 refine List.Pairwise.map _ (fun a b (h:a<b)=> ?_) (List.Pairwise.filter _ List.pairwise_lt_range)
 show (a:Int)≤b
 omega
theorem sJ {l m:List Int} (h:l.Perm m) (hm:m.Pairwise (· ≤ ·)):gq l=m:=by
 have h1:(gq l).Pairwise (· ≤ ·):=by
  have:=List.pairwise_mergeSort (le:=fun a b:Int=>decide (a≤b)) (by simp;omega) (by simp;omega) l
  simpa [gq] using this
 have h2:(gq l).Perm m:=(by unfold gq;exact (List.mergeSort_perm l _).trans h)
 exact h2.eq_of_pairwise (fun a b _ _ h1 h2=>Int.le_antisymm h1 h2) h1 hm
theorem aC {g:Gr} {f:Fr} {x:Int} (h:az g f x=true):0≤x∧x<g.n∧x∉f.pl:=by
 unfold az at h
 by_cases hx:x<0∨g.n≤x∨x∈f.pl
 ·rw [if_pos hx] at h;cases h
 ·exact ⟨Int.not_lt.1 fun h=>hx (.inl h),Int.not_le.1 fun h=>hx (.inr (.inl h)),fun h=>hx (.inr (.inr h))⟩
theorem Eo {g:Gr} (hm:aK g=true) {f:Fr} (hi:fe g f) (x:Int) (outs:List Int):iW g f x outs=e9 g f x outs:=by
 rw [iW,e9,jv hm hi]
 cases hR:az g f x with
 |false=>rw [if_pos rfl,if_pos rfl]
 |true=>
  obtain ⟨h0,h1,h2⟩:=aC hR
  have ht:¬(true=false):=by simp
  rw [if_neg ht,if_neg ht,fJ h0 h1]
  show (if gq outs≠cg g x then _ else aA g f x outs)=_
  by_cases hs:gq outs=cg g x
  ·rw [if_neg (fun h=>h hs),if_neg]
   rintro (h|⟨i,h3,h4⟩)
   ·exact h (by rw [← hs,dY])
   ·exact h4 (x3.1 (hs ▸ h3))
  ·rw [if_pos hs,if_pos]
   refine Decidable.byContradiction fun h=>hs ?_
   have hl:outs.length=(cg g x).length:=Decidable.byContradiction fun e=>h (.inl e)
   exact sJ (v7 dw (fun i hi=>Decidable.byContradiction fun e=>h (.inr ⟨i,hi,e⟩)) hl) pI
theorem Ep {g:Gr} {x:Int} {outs:List Int} (ho:∀i∈outs,i∈cg g x):∀t∈aJ g x outs,Cc g t:=by
 intro t ht
 unfold aJ at ht
 split at ht
 ·rw [List.mem_singleton] at ht
  rw [ht];exact .inl ⟨rfl,rfl⟩
 ·obtain ⟨i,hi,rfl⟩:=List.mem_map.1 ht
  obtain ⟨⟨h1,h2⟩,h3⟩:=gO (ho i hi)
  exact .inr ⟨h1,h2,h3.symm,rfl⟩
theorem Er {g:Gr} {f:Fr} (hi:fe g f) {x:Int} (hR:az g f x=true) {outs:List Int} (ho:∀i∈outs,i∈cg g x):fe g (aA g f x outs).2:=by
 obtain ⟨h0,h1,h2⟩:=aC hR
 refine ⟨fun t ht=> ?_, ?_,fun y hy=> ?_⟩
 ·simp only [aA,List.mem_append] at ht
  rcases ht with (ht|ht)|ht
  ·exact hi.it t (List.mem_of_mem_take ht)
  ·exact Ep ho t ht
  ·exact hi.it t (List.mem_of_mem_drop ht)
 ·show (f.pl++ [x]).Nodup
  rw [List.nodup_append]
  refine ⟨hi.pl,by simp,fun a ha b hb e=>h2 ?_⟩
  rw [List.mem_singleton] at hb
  rw [← hb, ← e];exact ha
 ·have hy:y∈f.pl++ [x]:=hy
  rcases List.mem_append.1 hy with h|h
  ·exact hi.pV y h
  ·rw [List.mem_singleton] at h
   rw [h];exact ⟨h0,h1⟩
end Go.Ab
end
section
namespace Go.Ab
open Go.Proofs
set_option maxRecDepth 10000
def iC (x:Int) (t:It):Bool:=decide (t.2.2=x)
structure Mid (x:Int) (X:List It):Prop where
 fst:∃p X',X=p::X'∧p.2.2=x
 H6:∃X' q,X=X'++ [q]∧q.2.2=x
 al:∀t∈X,t.2.2=x∨t.2.2= -1
def eS (x:Int) (l:List It):Prop:=∀t∈l,t.2.2≠x
theorem eS.app {x:Int} {l m:List It} (h:eS x l) (h':eS x m):eS x (l++m):=fun t ht=>(List.mem_append.1 ht).elim (h t) (h' t)
theorem eS.left {x:Int} {l m:List It} (h:eS x (l++m)):eS x l:=fun t ht=>h t (List.mem_append.2 (.inl ht))
theorem eS.right {x:Int} {l m:List It} (h:eS x (l++m)):eS x m:=fun t ht=>h t (List.mem_append.2 (.inr ht))
theorem Mid.Oi {x y:Int} {X:List It} (h:Mid x X) (hxy:x≠y) (hy:0≤y):eS y X:=fun t ht e=>by
 rcases h.al t ht with h1|h1<;>omega
theorem j6 {row:List It} {x:Int} :∀ {k:Nat},k≤row.length→gA row x k=((row.take k).countP (iC x):Nat)
 |0,_=>by simp [gA]
 |k+1,h=>by
  rw [fI,j6 (k:=k) (by omega),List.take_add_one,List.getElem?_eq_getElem (show k<row.length by omega),List.countP_append]
  simp only [Option.toList,List.countP_cons,List.countP_nil,iC,decide_eq_true_eq,List.getD_eq_getElem?_getD,List.getElem?_eq_getElem (show k<row.length by omega),Option.getD_some]
  split<;>simp
theorem Cd {A X C:List It} {p:It} {X':List It} (h:X=p::X'):(A++X++C).getD A.length (0,0,0)=p:=by
 subst h;simp [List.getD_eq_getElem?_getD]
theorem Ce {A X C:List It} {q:It} {X':List It} (h:X=X'++ [q]):(A++X++C).getD (A.length+X.length - 1) (0,0,0)=q:=by
 subst h
 have e:A.length+(X'++ [q]).length - 1=(A++X').length:=by simp
 rw [e,show A++(X'++ [q])++C=(A++X')++([q]++C) by simp]
 simp [List.getD_eq_getElem?_getD]
theorem Cf {A L:List It} {j:Nat} (h:j<A.length):(A++L).getD j (0,0,0)∈A:=by
 rw [List.getD_eq_getElem?_getD,List.getElem?_append_left h,List.getElem?_eq_getElem h]
 exact List.getElem_mem h
theorem Cg {A L:List It} {j:Nat} (h:A.length≤j) (h':j<(A++L).length):(A++L).getD j (0,0,0)∈L:=by
 rw [List.length_append] at h'
 rw [List.getD_eq_getElem?_getD,List.getElem?_append_right h,List.getElem?_eq_getElem (by omega)]
 exact List.getElem_mem _
theorem AU {A X C:List It} {x:Int} (hA:eS x A) (hC:eS x C) (hX:Mid x X):
 (bg (A++X++C) x).1=(A.length:Int)∧(bg (A++X++C) x).2.1=((A.length+X.length:Nat):Int)∧(bg (A++X++C) x).2.2=(X.countP (iC x):Nat):=by
 have tU:(bg (A++X++C) x).2.2=(X.countP (iC x):Nat):=by
  unfold bg
  rw [jt,j6 (Nat.le_refl _),List.take_length,List.countP_append,List.countP_append]
  have h1:A.countP (iC x)=0:=List.countP_eq_zero.2 fun t ht=>by simp [iC,hA t ht]
  have h2:C.countP (iC x)=0:=List.countP_eq_zero.2 fun t ht=>by simp [iC,hC t ht]
  rw [h1,h2];simp
 obtain ⟨p,X',e1,hp⟩:=hX.fst
 obtain ⟨R5,q,e2,hq⟩:=hX.H6
 have g1:=Cd (A:=A) (C:=C) e1
 have g2:=Ce (A:=A) (C:=C) e2
 have Nh:0<X.length:=by rw [e1];simp
 have hlen:(A++X++C).length=A.length+X.length+C.length:=by simp;omega
 rcases dP (row:=A++X++C) (x:=x) (A++X++C).length with ⟨_,hno⟩|⟨a,b,c,hs,hab,qf,hc0,hcl,ha,hb,hlo,hhi⟩
 ·exact absurd (by rw [g1];exact hp) (hno A.length (by omega))
 ·have hs':bg (A++X++C) x=((a:Int),(b:Int),(c:Int)):=hs
  refine ⟨?_, ?_,tU⟩
  ·rw [hs']
   have h1:¬A.length<a:=fun h=>hlo _ h (by rw [g1];exact hp)
   have h2:¬a<A.length:=fun h=>hA _ (by have:=Cf (L:=X++C) h;rw [← List.append_assoc] at this;exact this) ha
   simp only;omega
  ·rw [hs']
   have h1:¬b<A.length+X.length:=fun h=>hhi (A.length+X.length - 1) (by omega) (by omega) (by rw [g2];exact hq)
   have h2:¬A.length+X.length<b:=fun h=>hC _ (Cg (A:=A++X) (j:=b - 1) (by simp;omega) (by omega)) hb
   simp only;omega
theorem j7 {g:Gr} (hm:aK g=true) {f:Fr} (hi:fe g f) {A X C:List It} {x:Int} (h0:0≤x) (h1:x<g.n) (hp:x∉f.pl) (hr:f.row=A++X++C) (hA:eS x A) (hC:eS x C) (hX:Mid x X)
 (hc:X.countP (iC x)=aY g x):az g f x=true:=by
 rw [← jv hm hi,ee,if_neg (by rintro (h|h|h);omega;omega;exact hp h)]
 obtain ⟨e1,e2,e3⟩:=AU hA hC hX
 rw [hr,e1,e2,e3,fJ h0 h1,Bool.and_eq_true,decide_eq_true_eq]
 refine ⟨by rw [hc];rfl, ?_⟩
 rw [Bool.or_eq_true];right
 simp only [pH,Int.toNat_natCast]
 rw [List.take_append_of_le_length (by simp),List.take_of_length_le (by simp),List.drop_left,Bool.not_eq_true',List.any_eq_false]
 intro t ht
 simp only [j0,Bool.and_eq_true,decide_eq_true_eq]
 rcases hX.al t ht with h|h<;>simp [h]
theorem bG {g:Gr} (hm:aK g=true) {f:Fr} (hi:fe g f) {x:Int} (hR:az g f x=true) (hn:aY g x≠0):
 ∃A X C,f.row=A++X++C∧eS x A∧eS x C∧Mid x X∧X.countP (iC x)=aY g x:=by
 obtain ⟨h0,h1,h2⟩:=aC hR
 rw [← jv hm hi,ee,if_neg (by rintro (h|h|h);omega;omega;exact h2 h),fJ h0 h1,Bool.and_eq_true,decide_eq_true_eq] at hR
 have hN:(aL (fun e=>e.2) g.es g.es.length x).length=aY g x:=rfl
 rw [hN,decide_eq_false hn,Bool.false_or] at hR
 obtain ⟨hc,hb⟩:=hR
 have tU:(f.row.countP (iC x):Int)=aY g x:=by
  rw [← hc];unfold bg
  rw [jt,j6 (Nat.le_refl _),List.take_length]
 rcases dP (row:=f.row) (x:=x) f.row.length with ⟨hs,hno⟩|⟨a,b,c,hs,hab,qf,hc0,hcl,ha,hb',hlo,hhi⟩
 ·have:bg f.row x=(-1,0,0):=hs
  rw [this] at hc
  exfalso;simp only at hc;omega
 ·have hs':bg f.row x=((a:Int),(b:Int),(c:Int)):=hs
  rw [hs'] at hb
  simp only [Int.toNat_natCast] at hb
  have hA:eS x (f.row.take a):=fun t ht=>by
   obtain ⟨j,hj,rfl⟩:=List.mem_iff_getElem.1 ht
   simp only [List.length_take] at hj
   have:=hlo j (by omega)
   rw [List.getD_eq_getElem?_getD,List.getElem?_eq_getElem (show j<f.row.length by omega)] at this
   simpa using this
  have hC:eS x (f.row.drop b):=fun t ht=>by
   obtain ⟨j,hj,rfl⟩:=List.mem_iff_getElem.1 ht
   simp only [List.length_drop] at hj
   have:=hhi (b+j) (by omega) (by omega)
   rw [List.getD_eq_getElem?_getD,List.getElem?_eq_getElem (show b+j<f.row.length by omega)] at this
   simpa using this
  have hrow:f.row=f.row.take a++(f.row.take b).drop a++f.row.drop b:=by
   have e1:f.row.take a=(f.row.take b).take a:=by rw [List.take_take,Nat.min_eq_left (by omega)]
   rw [e1,List.take_append_drop,List.take_append_drop]
  refine ⟨f.row.take a,(f.row.take b).drop a,f.row.drop b,hrow,hA,hC,⟨?_, ?_, ?_⟩, ?_⟩
  ·refine ⟨f.row.getD a (0,0,0),(f.row.take b).drop (a+1), ?_,ha⟩
   rw [List.drop_eq_getElem_cons (by simp;omega)]
   congr 1
   rw [List.getD_eq_getElem?_getD,List.getElem?_eq_getElem (show a<f.row.length by omega)]
   simp
  ·refine ⟨(f.row.take (b - 1)).drop a,f.row.getD (b - 1) (0,0,0), ?_,hb'⟩
   have e:f.row.take b=f.row.take (b - 1)++ [f.row.getD (b - 1) (0,0,0)]:=by
    conv=>lhs;rw [show b=b - 1+1 by omega]
    rw [List.take_add_one,List.getD_eq_getElem?_getD,List.getElem?_eq_getElem (show b - 1<f.row.length by omega)]
    rfl
   rw [e,List.drop_append_of_le_length (by simp;omega)]
  ·intro t ht
   rw [pH,Bool.not_eq_true',List.any_eq_false] at hb
   have:=hb t ht
   simp only [j0,Bool.and_eq_true,decide_eq_true_eq,not_and] at this
   by_cases h:t.2.2=x
   ·exact .inl h
   ·exact .inr (Decidable.byContradiction fun h'=>this h h')
  ·have h1:(f.row.take a).countP (iC x)=0:=List.countP_eq_zero.2 fun t ht=>by simp [iC,hA t ht]
   have h2:(f.row.drop b).countP (iC x)=0:=List.countP_eq_zero.2 fun t ht=>by simp [iC,hC t ht]
   rw [hrow,List.countP_append,List.countP_append,h1,h2] at tU
   omega
theorem ff {g:Gr} {f:Fr} {A X C:List It} {x:Int} (o:List Int) (hr:f.row=A++X++C) (hA:eS x A) (hC:eS x C) (hX:Mid x X):
 aA g f x o=((X,0),⟨A++aJ g x o++C,f.pl++ [x]⟩):=by
 obtain ⟨e1,e2,e3⟩:=AU hA hC hX
 have e4:max (A.length:Int) 0=(A.length:Int):=by omega
 unfold aA
 rw [hr,e1,e2,e4,Int.toNat_natCast,Int.toNat_natCast]
 rw [List.take_append_of_le_length (show A.length+X.length≤(A++X).length by simp),List.take_of_length_le (show (A++X).length≤A.length+X.length by simp),List.drop_left]
 rw [show (A++X++C).take A.length=A by rw [List.append_assoc,List.take_left]]
 rw [show (A++X++C).drop (A.length+X.length)=C by rw [← List.length_append,List.drop_left]]
theorem fL {g:Gr} {f:Fr} {x:Int} (o:List Int) (hr:eS x f.row):aA g f x o=(([],0),⟨aJ g x o++f.row,f.pl++ [x]⟩):=by
 have hs:bg f.row x=(-1,0,0):=by
  rcases dP (row:=f.row) (x:=x) f.row.length with ⟨hs,_⟩|⟨a,b,c,hs,hab,qf,hc0,hcl,ha,hb',hlo,hhi⟩
  ·exact hs
  ·exact absurd ha (hr _ (aS (by omega)))
 have e4:max (-1:Int) 0=0:=by omega
 unfold aA
 rw [hs]
 simp [e4]
end Go.Ab
end
section
namespace Go.Ab
open Go.Proofs
set_option maxRecDepth 10000
structure v8 (g:Gr) (f:Fr):Prop extends fe g f where
 tail:∀t∈f.row,0≤t.1→t.2.1∈f.pl
 head:∀t∈f.row,0≤t.1→t.2.2∉f.pl
 once:f.row.Pairwise fun s t=>0≤s.1→s.1≠t.1
 low:∀i,i<g.es.length→hd g i∈f.pl→tl g i∈f.pl
 src:(f.pl= []∧f.row= [])∨∃s∈f.pl,aY g s=0
theorem nI (g:Gr):v8 g ⟨[], []⟩:=
 {it:=by simp,pl:=by simp,pV:=by simp,tail:=by simp,head:=by simp,once:=by simp,low:=by simp,src:= .inl ⟨rfl,rfl⟩}
theorem sK {g:Gr} (hm:aK g=true) {f:Fr} (hi:v8 g f) {x:Int} (hR:az g f x=true) {i:Nat} (hl:i<g.es.length) (hx:hd g i=x):∃t∈f.row,t.1=i∧t.2.1=tl g i∧t.2.2=x:=by
 have hn:aY g x≠0:=by
  have:=lG (g:=g) (e:=(i:Int)) (by omega) (by omega)
  rw [Int.toNat_natCast,show (g.es.getD i (0,0)).2=x from hx] at this
  omega
 obtain ⟨A,X,C,hr,hA,hC,hX,hc⟩:=bG hm hi.tofe hR hn
 have hN:(aL (fun e=>e.2) g.es g.es.length x).length=aY g x:=rfl
 have hok:∀t∈f.row,t.2.2=x→0≤t.1∧t.1<g.es.length∧t.2.1=(g.es.getD t.1.toNat (0,0)).1∧t.2.2=(g.es.getD t.1.toNat (0,0)).2:=fun t ht he=>by
  rcases hi.it t ht with ⟨_,h2⟩|h
  ·have:=(aC hR).1;omega
  ·exact h
 have hmem:∀t∈X,t∈f.row:=fun t ht=>by rw [hr];simp [ht]
 have AW:=v7 (ms:=(X.filter (iC x)).map (·.1)) (os:=aL (fun e=>e.2) g.es g.es.length x)
 have key:∀i∈aL (fun e=>e.2) g.es g.es.length x,i∈(X.filter (iC x)).map (·.1):=by
  refine zR (ms:=(X.filter (iC x)).map (·.1)) (os:=aL (fun e=>e.2) g.es g.es.length x) ?_ ?_ ?_
  ·have h1:X.Pairwise fun s t=>0≤s.1→s.1≠t.1:=by
    have:=hi.once
    rw [hr,List.pairwise_append,List.pairwise_append] at this
    exact this.1.2.1
   have h2:=h1.filter (iC x)
   rw [List.Nodup,List.pairwise_map]
   refine h2.imp_of_mem fun {a b} ha hb h=>h ?_
   obtain ⟨Qe,Ni⟩:=List.mem_filter.1 ha
   exact (hok a (hmem a Qe) (by simpa [iC] using Ni)).1
  ·intro e he
   obtain ⟨t,ht,rfl⟩:=List.mem_map.1 he
   obtain ⟨ht1,ht2⟩:=List.mem_filter.1 ht
   have ht2:t.2.2=x:=by simpa [iC] using ht2
   obtain ⟨h1,h2,h3,h4⟩:=hok t (hmem t ht1) ht2
   simp only [aL,List.mem_map,List.mem_filter,List.mem_range,decide_eq_true_eq]
   exact ⟨t.1.toNat,⟨by omega,by rw [← h4];exact ht2⟩,by simp;omega⟩
  ·rw [hN, ← hc,List.length_map,List.countP_eq_length_filter]
 have hie:(i:Int)∈aL (fun e=>e.2) g.es g.es.length x:=by
  simp only [aL,List.mem_map,List.mem_filter,List.mem_range,decide_eq_true_eq]
  exact ⟨i,⟨hl,hx⟩,rfl⟩
 obtain ⟨t,ht,he⟩:=List.mem_map.1 (key _ hie)
 obtain ⟨ht1,ht2⟩:=List.mem_filter.1 ht
 have ht2:t.2.2=x:=by simpa [iC] using ht2
 obtain ⟨h1,h2,h3,h4⟩:=hok t (hmem t ht1) ht2
 refine ⟨t,hmem t ht1,he, ?_,ht2⟩
 rw [h3,he,Int.toNat_natCast];rfl
theorem fM {g:Gr} (hm:aK g=true) {f:Fr} (hi:fe g f) {x:Int} (h0:0≤x) (hn:aY g x=0):eS x f.row:=by
 intro t ht he
 rcases hi.it t ht with ⟨_,h2⟩|⟨h1,h2,_,h4⟩
 ·omega
 ·have:=lG h1 h2
  rw [← h4,he] at this
  omega
theorem ej {g:Gr} (hm:aK g=true) {f:Fr} (hi:fe g f) {x:Int} (hR:az g f x=true):
 ∃A X C,f.row=A++X++C∧eS x A∧eS x C∧(∀t∈X,t.2.2=x∨t.2.2= -1)∧∀o,aA g f x o=((X,0),⟨A++aJ g x o++C,f.pl++ [x]⟩):=by
 by_cases hn:aY g x=0
 ·have h:=fM hm hi (aC hR).1 hn
  exact ⟨[], [],f.row,by simp,fun t ht=>(by cases ht),h,fun t ht=>(by cases ht),fun o=>by rw [fL o h];simp⟩
 ·obtain ⟨A,X,C,hr,hA,hC,hX,_⟩:=bG hm hi hR hn
  exact ⟨A,X,C,hr,hA,hC,hX.al,fun o=>ff o hr hA hC hX⟩
theorem nJ {g:Gr} {x i:Int} (h:i∈cg g x):∃k:Nat,i=k∧k<g.es.length∧tl g k=x:=by
 obtain ⟨⟨h1,h2⟩,h3⟩:=gO h
 exact ⟨i.toNat,by omega,by omega,h3⟩
theorem jw {g:Gr} {x:Int} {o:List Int} (ho:∀i∈o,i∈cg g x) {t:It} (h:t∈aJ g x o):(t.1= -1∧t.2.2= -1)∨∃k:Nat,k<g.es.length∧t.1=k∧t.2.1=x∧t.2.2=hd g k∧tl g k=x∧t.1∈o:=by
 unfold aJ at h
 split at h
 ·rw [List.mem_singleton] at h
  rw [h];exact .inl ⟨rfl,rfl⟩
 ·obtain ⟨i,Oj,rfl⟩:=List.mem_map.1 h
  obtain ⟨k,rfl,h1,h2⟩:=nJ (ho i Oj)
  exact .inr ⟨k,h1,rfl,rfl,by simp [fu];rfl,h2,Oj⟩
theorem oL {g:Gr} (hm:aK g=true) {f:Fr} (hi:v8 g f) {x y:Int} (hx:x∉f.pl) (hR:az g f y=true) {o:List Int} (ho:∀i∈o,i∈cg g x):eS y (aJ g x o):=by
 intro t ht he
 rcases jw ho ht with ⟨_,h⟩|⟨k,h1,h2,h3,h4,h5,_⟩
 ·have:=(aC hR).1;omega
 ·obtain ⟨s,hs,e1,e2,e3⟩:=sK hm hi hR h1 (by rw [← h4];exact he)
  refine hx ?_
  rw [← h5, ← e2]
  exact hi.tail s hs (by omega)
theorem fY {g:Gr} (hm:aK g=true) {f:Fr} (hi:v8 g f) {x:Int} (hR:az g f x=true) {o:List Int} (ho:o.Perm (cg g x)):v8 g (aA g f x o).2:=by
 have Ih:∀i∈o,i∈cg g x:=fun i h=>ho.mem_iff.1 h
 have hx:=(aC hR).2.2
 have h0:=Er hi.tofe hR Ih
 obtain ⟨A,X,C,hr,hA,hC,hX,hs⟩:=ej hm hi.tofe hR
 have cT:(aA g f x o).2.pl=f.pl++ [x]:=rfl
 have hrow:(aA g f x o).2.row=A++aJ g x o++C:=by rw [hs o]
 have Nj:∀t∈A,t∈f.row:=fun t ht=>by rw [hr];simp [ht]
 have Nk:∀t∈C,t∈f.row:=fun t ht=>by rw [hr];simp [ht]
 have Kt:=oL hm hi hx hR Ih
 refine {tofe:=h0,tail:= ?_,head:= ?_,once:= ?_,low:= ?_,src:= .inr ?_}
 ·intro t ht h1
  rw [cT]
  rw [hrow,List.mem_append,List.mem_append] at ht
  rcases ht with (ht|ht)|ht
  ·exact List.mem_append_left _ (hi.tail t (Nj t ht) h1)
  ·rcases jw Ih ht with ⟨h,_⟩|⟨k,_,_,h3,_⟩
   ·omega
   ·rw [h3];simp
  ·exact List.mem_append_left _ (hi.tail t (Nk t ht) h1)
 ·intro t ht h1
  rw [cT,List.mem_append,List.mem_singleton]
  rw [hrow,List.mem_append,List.mem_append] at ht
  rcases ht with (ht|ht)|ht
  ·rintro (h|h)
   ·exact hi.head t (Nj t ht) h1 h
   ·exact hA t ht h
  ·rintro (h|h)
   ·rcases jw Ih ht with ⟨h',_⟩|⟨k,hk,_,_,h4,h5,_⟩
    ·omega
    ·rw [h4] at h
     have:=hi.low k hk h
     rw [h5] at this;exact hx this
   ·exact Kt t ht h
  ·rintro (h|h)
   ·exact hi.head t (Nk t ht) h1 h
   ·exact hC t ht h
 ·have xb:=hi.once
  rw [hr,List.pairwise_append,List.pairwise_append] at xb
  obtain ⟨⟨Qf,_,_⟩,Qg,Nl⟩:=xb
  have old:∀s∈f.row,0≤s.1→∀t∈aJ g x o,s.1≠t.1:=fun s hs h1 t ht e=>by
   rcases jw Ih ht with ⟨h,_⟩|⟨k,hk,h2,h3,h4,h5,_⟩
   ·omega
   ·rcases hi.it s hs with ⟨h,_⟩|⟨_,_,h6,_⟩
    ·omega
    ·have:=hi.tail s hs h1
     rw [h6,e,h2,Int.toNat_natCast] at this
     exact hx (h5 ▸ this)
  rw [hrow,List.pairwise_append,List.pairwise_append]
  refine ⟨⟨Qf, ?_,fun s hs t ht h1=>old s (Nj s hs) h1 t ht⟩,Qg, ?_⟩
  ·unfold aJ
   split
   ·simp
   ·refine List.pairwise_map.2 ((ho.nodup_iff.2 dw).imp fun {i j} (h:i≠j) _=> ?_)
    exact h
  ·intro s hs t ht h1
   rcases List.mem_append.1 hs with hs|hs
   ·exact Nl s (List.mem_append_left _ hs) t ht h1
   ·intro e
    exact old t (Nk t ht) (by omega) s hs e.symm
 ·intro i hl h
  rw [cT,List.mem_append,List.mem_singleton] at h ⊢
  left
  rcases h with h|h
  ·exact hi.low i hl h
  ·obtain ⟨t,ht,e1,e2,_⟩:=sK hm hi hR hl h
   rw [← e2]
   exact hi.tail t ht (by omega)
 ·rcases hi.src with ⟨h1,h2⟩|⟨s,hs,h⟩
  ·refine ⟨x,by rw [cT];simp, ?_⟩
   refine Decidable.byContradiction fun hn=> ?_
   obtain ⟨A,X,C,hr,_,_,hX,_⟩:=bG hm hi.tofe hR hn
   obtain ⟨p,X',e,_⟩:=hX.fst
   rw [h2,e] at hr
   simp at hr
  ·exact ⟨s,by rw [cT];simp [hs],h⟩
theorem apart {x y:Int} (hx:0≤x) (hy:0≤y) (hxy:x≠y) {A X C B Y D:List It} (h:A++X++C=B++Y++D) (hX:Mid x X) (hY:Mid y Y):
 (∃M,B=A++X++M∧C=M++Y++D)∨(∃M,A=B++Y++M∧D=M++X++C):=by
 obtain ⟨p,X',Ij,hp⟩:=hX.fst
 obtain ⟨q,Y',Qh,hq⟩:=hY.fst
 have nX:q∉X:=fun h=>hX.Oi hxy hy q h hq
 have nY:p∉Y:=fun h=>hY.Oi (Ne.symm hxy) hx p h hp
 rw [show B++Y++D=B++(Y++D) by simp,List.append_eq_append_iff] at h
 rcases h with ⟨es,h1,h2⟩|⟨cs,h1,h2⟩
 ·exact .inl ⟨es,h1,by rw [h2];simp⟩
 ·match cs,h1,h2 with
  | [],h1,h2=>exact .inl ⟨[],by simpa using h1.symm,by simpa using h2.symm⟩
  |c::cs,h1,h2=>
   have Qi:c=q:=by rw [Qh] at h2;simp at h2;exact h2.1.symm
   rw [List.append_eq_append_iff] at h1
   rcases h1 with ⟨es,h3,h4⟩|⟨ds,h3,h4⟩
   ·exfalso;refine nX ?_
    rw [h4, ← Qi];simp
   ·rw [h4,List.append_assoc,List.append_eq_append_iff] at h2
    rcases h2 with ⟨es,h5,h6⟩|⟨bs,h5,h6⟩
    ·exact .inr ⟨es,by rw [h3,h5];simp,by rw [h6];simp⟩
    ·match bs,h5,h6 with
     | [],h5,h6=>exact .inr ⟨[],by rw [h3,h5];simp,by simpa using h6.symm⟩
     |b::bs,h5,h6=>
      exfalso;refine nY ?_
      have Qj:b=p:=by rw [Ij] at h6;simp at h6;exact h6.1.symm
      rw [h5, ← Qj];simp
theorem x6 {g:Gr} (hm:aK g=true) {f:Fr} (hi:v8 g f) {x y:Int} (hxy:x≠y) (AX:az g f x=true) (pW:az g f y=true)
 {a b:List Int} (ha:a.Perm (cg g x)) (hb:b.Perm (cg g y)) {A X M Y D:List It} (hr:f.row=A++X++M++Y++D) (hX:Mid x X) (hY:Mid y Y)
 (cX:X.countP (iC x)=aY g x) (cY:Y.countP (iC y)=aY g y)
 (nA:eS x A) (nC:eS x (M++Y++D)) (nB:eS y (A++X++M)) (nD:eS y D):
 az g (aA g f x a).2 y=true∧az g (aA g f y b).2 x=true∧(aA g (aA g f x a).2 y b).2.row=(aA g (aA g f y b).2 x a).2.row∧
 (aA g f x a).1=(aA g (aA g f y b).2 x a).1∧(aA g f y b).1=(aA g (aA g f x a).2 y b).1:=by
 obtain ⟨x0,x1,x2⟩:=aC AX
 obtain ⟨y0,y1,y2⟩:=aC pW
 have i1:=(fY hm hi AX ha).tofe
 have i2:=(fY hm hi pW hb).tofe
 have ux:=oL hm hi x2 pW (fun i h=>ha.mem_iff.1 h)
 have uy:=oL hm hi y2 AX (fun i h=>hb.mem_iff.1 h)
 have r1:f.row=A++X++(M++Y++D):=by rw [hr];simp
 have r2:f.row=(A++X++M)++Y++D:=by rw [hr]
 have e1:=ff (g:=g) a r1 nA nC hX
 have e2:=ff (g:=g) b r2 nB nD hY
 rw [e1] at i1 ⊢;rw [e2] at i2 ⊢
 have r3:A++aJ g x a++(M++Y++D)=(A++aJ g x a++M)++Y++D:=by simp
 have r4:A++X++M++aJ g y b++D=A++X++(M++aJ g y b++D):=by simp
 have n3:eS y (A++aJ g x a++M):=((nB.left.left).app ux).app nB.right
 have n4:eS x (M++aJ g y b++D):=(nC.left.left.app uy).app nC.right
 have e3:=ff (g:=g) (f:=⟨A++aJ g x a++(M++Y++D),f.pl++ [x]⟩) b r3 n3 nD hY
 have e4:=ff (g:=g) (f:=⟨A++X++M++aJ g y b++D,f.pl++ [y]⟩) a r4 nA n4 hX
 refine ⟨j7 hm i1 y0 y1 ?_ r3 n3 nD hY cY,j7 hm i2 x0 x1 ?_ r4 nA n4 hX cX, ?_, ?_, ?_⟩
 ·simp [y2,Ne.symm hxy]
 ·simp [x2,hxy]
 ·simp only [e3,e4];simp
 ·simp only [e4]
 ·simp only [e3]
theorem Ch {g:Gr} (hm:aK g=true) {f:Fr} (hi:v8 g f) {x y:Int} (hxy:x≠y) (AX:az g f x=true) (pW:az g f y=true)
 {a b:List Int} (ha:a.Perm (cg g x)) (hb:b.Perm (cg g y)) (nx:aY g x≠0) (ny:aY g y≠0):
 az g (aA g f x a).2 y=true∧az g (aA g f y b).2 x=true∧(aA g (aA g f x a).2 y b).2.row=(aA g (aA g f y b).2 x a).2.row∧
 (aA g f x a).1=(aA g (aA g f y b).2 x a).1∧(aA g f y b).1=(aA g (aA g f x a).2 y b).1:=by
 obtain ⟨A,X,C,hr,hA,hC,hX,cX⟩:=bG hm hi.tofe AX nx
 obtain ⟨B,Y,D,hr',hB,hD,hY,cY⟩:=bG hm hi.tofe pW ny
 rcases apart (aC AX).1 (aC pW).1 hxy (hr.symm.trans hr') hX hY with ⟨M,rfl,rfl⟩|⟨M,rfl,rfl⟩
 ·exact x6 hm hi hxy AX pW ha hb (by rw [hr];simp) hX hY cX cY hA hC hB hD
 ·obtain ⟨h1,h2,h3,h4,h5⟩:=x6 hm hi (Ne.symm hxy) pW AX hb ha (by rw [hr'];simp) hY hX cY cX hB hD hA hC
  exact ⟨h2,h1,h3.symm,h5,h4⟩
theorem lH {g:Gr} {y:Int} :y∈bM (·.2) g↔(0≤y∧y<g.n)∧aY g y=0:=by
 simp only [bM,jl,List.mem_map,List.mem_filter,List.mem_range,decide_eq_true_eq]
 have he:∀x:Nat,x<g.n.toNat→(((dr (·.2) g).getD x []).length=aY g (x:Int)):=by
  intro x hx
  have e:(dr (·.2) g).getD x []=aL (·.2) g.es g.es.length (x:Int):=by
   simp [dr,List.getD_eq_getElem?_getD,List.getElem?_range hx,nE]
  rw [e];rfl
 constructor
 ·rintro ⟨x,⟨hx,h0⟩,rfl⟩
  refine ⟨by simp;omega,by rw [he x hx] at h0;exact h0⟩
 ·rintro ⟨⟨h1,h2⟩,h3⟩
  have e:((y.toNat:Nat):Int)=y:=by omega
  exact ⟨y.toNat,⟨by omega,by rw [he _ (by omega),e];exact h3⟩,e⟩
theorem iK {g:Gr} (hc:(bX g).1=0) {x y:Int} (hx:0≤x∧x<g.n) (hy:0≤y∧y<g.n) (nx:aY g x=0) (ny:aY g y=0):x=y:=by
 have h1:(bM (·.2) g).length≤1:=by
  unfold bX jm at hc
  refine Nat.not_lt.1 fun h=> ?_
  split at hc
  ·cases hc
  split at hc
  ·cases hc
  split at hc
  ·cases hc
  split at hc
  ·cases hc
  cases hc
 have h2:=lH.2 ⟨hx,nx⟩
 have h3:=lH.2 ⟨hy,ny⟩
 match hb:bM (·.2) g with
 | []=>rw [hb] at h2;cases h2
 | [z]=>rw [hb,List.mem_singleton] at h2 h3;rw [h2,h3]
 |_::_::_=>rw [hb] at h1;simp at h1
theorem ai {g:Gr} (hc:(bX g).1=0):aK g=true:=by
 unfold bX jm at hc
 split at hc
 ·cases hc
 ·rename_i h;simpa using h
theorem x7 {g:Gr} (hc:(bX g).1=0) {f:Fr} (hi:v8 g f) {x y:Int} (hxy:x≠y) (AX:az g f x=true) (pW:az g f y=true):aY g x≠0:=by
 intro nx
 have hm:=ai hc
 obtain ⟨x0,x1,x2⟩:=aC AX
 obtain ⟨y0,y1,y2⟩:=aC pW
 rcases hi.src with ⟨h1,h2⟩|⟨s,hs,h⟩
 ·have ny:aY g y≠0:=fun ny=>hxy (iK hc ⟨x0,x1⟩ ⟨y0,y1⟩ nx ny)
  obtain ⟨A,X,C,hr,_,_,hX,_⟩:=bG hm hi.tofe pW ny
  obtain ⟨p,X',e,_⟩:=hX.fst
  rw [h2,e] at hr
  simp at hr
 ·exact x2 (iK hc (hi.pV s hs) ⟨x0,x1⟩ h nx ▸ hs)
theorem uG {g:Gr} (hc:(bX g).1=0) {f:Fr} (hi:v8 g f) {x y:Int} (hxy:x≠y) (AX:az g f x=true) (pW:az g f y=true)
 {a b:List Int} (ha:a.Perm (cg g x)) (hb:b.Perm (cg g y)):
 az g (aA g f x a).2 y=true∧az g (aA g f y b).2 x=true∧(aA g (aA g f x a).2 y b).2.row=(aA g (aA g f y b).2 x a).2.row∧
 (aA g f x a).1=(aA g (aA g f y b).2 x a).1∧(aA g f y b).1=(aA g (aA g f x a).2 y b).1:=
 Ch (ai hc) hi hxy AX pW ha hb (x7 hc hi hxy AX pW) (x7 hc hi (Ne.symm hxy) pW AX)
end Go.Ab
end
section
namespace Go.Ab
open Go.Proofs
attribute [local congr] ACall.congr gd.congr Nx.congr
set_option maxRecDepth 10000
set_option maxHeartbeats 4000000
def AY (row:List It) (a b:Int):Nat→Int × Int
 |0=>(-1,0)
 |k+1=>if ((row.getD k (0,0,0)).2.2=a∨(row.getD k (0,0,0)).2.2=b)∧(row.getD k (0,0,0)).2.2≠(AY row a b k).1 then ((row.getD k (0,0,0)).2.2,(AY row a b k).2+1) else AY row a b k
end Go.Ab
end
section
namespace Go.Ab
open Go.Proofs
attribute [local congr] ACall.congr gd.congr Nx.congr
set_option maxRecDepth 10000
set_option maxHeartbeats 4000000
def I0 (row:List It) (i:Nat):Int:=(row.getD i (0,0,0)).2.2
def Nm (row:List It) (i j:Nat):Bool:=decide (I0 row i≠ -1)&&decide (I0 row j≠ -1)&&decide (I0 row i≠I0 row j)&&decide (4≤(AY row (I0 row i) (I0 row j) row.length).2)
def Ol (row:List It):Bool:=(List.range row.length).any fun i=>(List.range row.length).any (Nm row i)
end Go.Ab
end
section
namespace Go.Ab
open Go.Proofs
attribute [local congr] ACall.congr gd.congr Nx.congr
set_option maxRecDepth 10000
set_option maxHeartbeats 8000000
def T4 (row:List It) (a b c d:Nat):Prop:=0≤(row.getD a (0,0,0)).2.2∧0≤(row.getD b (0,0,0)).2.2∧(row.getD a (0,0,0)).2.2≠(row.getD b (0,0,0)).2.2∧(row.getD a (0,0,0)).2.2=(row.getD c (0,0,0)).2.2∧(row.getD b (0,0,0)).2.2=(row.getD d (0,0,0)).2.2
def Qk (row:List It):Prop:=∃a b c d,a<b∧b<c∧c<d∧d<row.length∧T4 row a b c d
end Go.Ab
end
section
namespace Go.Ab
open Go.Proofs
set_option maxRecDepth 10000
theorem pJ {g:Gr} {f f':Fr} (hr:f.row=f'.row) (hp:f.pl.Perm f'.pl) (x:Int):az g f x=az g f' x:=by
 unfold az
 rw [hr]
 by_cases h:x<0∨g.n≤x∨x∈f.pl
 ·rw [if_pos h,if_pos (by rw [← hp.mem_iff];exact h)]
 ·have h':¬(x<0∨g.n≤x∨x∈f'.pl):=by rw [← hp.mem_iff];exact h
  rw [if_neg h,if_neg h']
theorem dx:∀ {l m:List Int},l.Nodup→(∀i∈l,i∈m)→l.length≤m.length
 | [],_,_,_=>by simp
 |a::l,m,hn,hs=>by
  rw [List.nodup_cons] at hn
  have ha:=hs a (List.mem_cons_self ..)
  have:=dx hn.2 (m:=m.erase a) fun i hi=>(List.mem_erase_of_ne (fun e:i=a=>hn.1 (e ▸ hi))).2 (hs i (List.mem_cons_of_mem _ hi))
  rw [List.length_erase_of_mem ha] at this
  have:=List.length_pos_of_mem ha
  rw [List.length_cons];omega
theorem jx {g:Gr} {f:Fr} (hi:fe g f) (hf:(f.pl.length:Int)=g.n) {x:Int} (hx:0≤x∧x<g.n):x∈f.pl:=by
 refine Decidable.byContradiction fun h=> ?_
 have h1:(x::f.pl).Nodup:=List.nodup_cons.2 ⟨h,hi.pl⟩
 have h2:((List.range g.n.toNat).map Int.ofNat).length=g.n.toNat:=by simp
 have h3:=dx h1 (m:=(List.range g.n.toNat).map Int.ofNat) (fun y hy=>by
  rw [List.mem_map]
  have:0≤y∧y<g.n:=by
   rcases List.mem_cons.1 hy with h|h
   ·rw [h];exact hx
   ·exact hi.pV y h
  exact ⟨y.toNat,List.mem_range.2 (by omega),by simp;omega⟩)
 rw [h2,List.length_cons] at h3
 omega
def Tg (a b:Int) (row:List It):Prop:=∃l:List It,l.Sublist row∧l.map (fun t=>t.2.2)= [a,b,a,b]
def Es (a b:Int) (t:It):Bool:=decide (t.2.2=a)||decide (t.2.2=b)
theorem Tg.Nn {a b:Int} {row:List It} :Tg a b row↔Tg a b (row.filter (Es a b)):=by
 constructor
 ·rintro ⟨l,h,e⟩
  refine ⟨l, ?_,e⟩
  have h1:=h.filter (Es a b)
  rw [List.filter_eq_self.2] at h1
  ·exact h1
  ·intro t ht
   have:t.2.2∈l.map (fun t=>t.2.2):=List.mem_map.2 ⟨t,ht,rfl⟩
   rw [e] at this
   simp only [Es,Bool.or_eq_true,decide_eq_true_eq]
   simp only [List.mem_cons,List.not_mem_nil,or_false] at this
   omega
 ·rintro ⟨l,h,e⟩
  exact ⟨l,h.trans List.filter_sublist,e⟩
theorem Tg.keep {a b x:Int} (ha:0≤a) (hb:0≤b) (Fm:a≠x) (xJ:b≠x) {A X C u:List It} (hX:∀t∈X,t.2.2=x∨t.2.2= -1) (h:Tg a b (A++X++C)):Tg a b (A++u++C):=by
 rw [Tg.Nn] at h ⊢
 obtain ⟨l,h,e⟩:=h
 refine ⟨l,h.trans ?_,e⟩
 rw [List.filter_append,List.filter_append,List.filter_append,List.filter_append]
 have:X.filter (Es a b)= []:=List.filter_eq_nil_iff.2 fun t ht=>by
  simp only [Es,Bool.or_eq_true,decide_eq_true_eq]
  rcases hX t ht with h|h<;>omega
 rw [this,List.append_nil]
 exact List.Sublist.append_right (List.sublist_append_left _ _) _
theorem Tg.not {a b x:Int} (hab:a≠b) (hb0:0≤b) (ha0:0≤a) (hx:x=a∨x=b) {A X C:List It} (hA:eS x A) (hC:eS x C) (hX:∀t∈X,t.2.2=x∨t.2.2= -1):¬Tg a b (A++X++C):=by
 rintro ⟨l,h,e⟩
 rw [List.append_assoc,List.sublist_append_iff] at h
 obtain ⟨l1,l',rfl,h1,h'⟩:=h
 rw [List.sublist_append_iff] at h'
 obtain ⟨l2,l3,rfl,h2,h3⟩:=h'
 have k1:∀t∈l1,t.2.2≠x:=fun t ht=>hA t (h1.subset ht)
 have k2:∀t∈l2,t.2.2=x∨t.2.2= -1:=fun t ht=>hX t (h2.subset ht)
 have k3:∀t∈l3,t.2.2≠x:=fun t ht=>hC t (h3.subset ht)
 clear h1 h2 h3
 match l1,k1,e with
 |t1::t2::_,k1,e=>
  simp only [List.cons_append,List.map_cons,List.cons.injEq] at e
  rcases hx with h|h
  ·exact k1 t1 (by simp) (by omega)
  ·exact k1 t2 (by simp) (by omega)
 | [t1],k1,e=>
   simp only [List.cons_append,List.nil_append,List.map_cons,List.cons.injEq] at e
   rcases hx with h|h
   ·exact k1 t1 (by simp) (by omega)
   ·match l2,k2,e with
    | [],_,e=>
      match l3,k3,e with
      | [s1,s2,s3],k3,e=>
        simp only [List.nil_append,List.map_cons,List.map_nil,List.cons.injEq,and_true] at e
        exact k3 s1 (by simp) (by omega)
      | [],_,e=>simp at e
      | [_],_,e=>simp at e
      | [_,_],_,e=>simp at e
      |_::_::_::_::_,_,e=>simp at e
    |s1::s2::_,k2,e=>
     simp only [List.cons_append,List.map_cons,List.cons.injEq] at e
     rcases k2 s2 (by simp) with h|h<;>omega
    | [s1],k2,e=>
      match l3,k3,e with
      | [u1,u2],k3,e=>
        simp only [List.cons_append,List.nil_append,List.map_cons,List.map_nil,List.cons.injEq,and_true] at e
        exact k3 u2 (by simp) (by omega)
      | [],_,e=>simp at e
      | [_],_,e=>simp at e
      |_::_::_::_,_,e=>simp at e
 | [],_,e=>
   simp only [List.nil_append] at e
   match l2,k2,e with
   | [],_,e=>
     match l3,k3,e with
     | [],_,e=>simp at e
     | [_],_,e=>simp at e
     |s1::s2::_,k3,e=>
      simp only [List.nil_append,List.map_cons,List.cons.injEq] at e
      rcases hx with h|h
      ·exact k3 s1 (by simp) (by omega)
      ·exact k3 s2 (by simp) (by omega)
   |s1::s2::_,k2,e=>
    simp only [List.cons_append,List.map_cons,List.cons.injEq] at e
    have q1:=k2 s1 (by simp)
    have q2:=k2 s2 (by simp)
    omega
   | [s1],k2,e=>
     match l3,k3,e with
     | [],_,e=>simp at e
     | [_],_,e=>simp at e
     | [_,_],_,e=>simp at e
     |u1::u2::u3::_,k3,e=>
      simp only [List.cons_append,List.nil_append,List.map_cons,List.cons.injEq] at e
      have q1:=k2 s1 (by simp)
      exact k3 u2 (by simp) (by omega)
end Go.Ab
end
section
namespace Go.Ab
open Go.Proofs
set_option maxRecDepth 10000
theorem uH {row:List It} {k:Nat} (h:k<row.length):row.take (k+1)=row.take k++ [row.getD k (0,0,0)]:=by
 rw [List.take_add_one,List.getD_eq_getElem?_getD,List.getElem?_eq_getElem h];rfl
theorem Et {row:List It} {i j:Nat} (h:i≤j):(row.take i).Sublist (row.take j):=by
 rw [show row.take i=(row.take j).take i by rw [List.take_take,Nat.min_eq_left h]]
 exact List.take_sublist _ _
theorem sM {row l:List It} {i j:Nat} (h:l.Sublist (row.take i)) (hij:i≤j) (hj:j<row.length):(l++ [row.getD j (0,0,0)]).Sublist (row.take (j+1)):=by
 rw [uH hj]
 exact List.Sublist.append (h.trans (Et hij)) (List.Sublist.refl _)
def No (a b:Int):List It→Prop
 | []=>True
 | [t]=>t.2.2=a∨t.2.2=b
 |s::t::l=>(s.2.2=a∨s.2.2=b)∧s.2.2≠t.2.2∧No a b (t::l)
end Go.Ab
end
section
namespace Go.Ab
open Go.Proofs
attribute [local congr] ACall.congr gd.congr Nx.congr
set_option maxRecDepth 10000
end Go.Ab
end
section
namespace Go.Ab
open Go.Proofs
attribute [local congr] ACall.congr gd.congr Nx.congr
set_option maxRecDepth 10000
def Np (g:Gr) (out:List Int) (x:Nat) (i:Nat):Bool:=(List.range i).all fun j=> !decide (hd g j=(x:Int))||decide (tl g j∈out)
def Ql (g:Gr) (out:List Int) (k:Nat) (f:Bool):Prop:=k≤g.n.toNat∧(if f then 0<k∧wt g out (k - 1)=0∧∀j,j<k - 1→wt g out j≠0 else ∀j,j<k→wt g out j≠0)
def Qm (out:List Int) (k:Nat) (f:Bool):List Int:=if f then out++ [((k - 1:Nat):Int)] else out
end Go.Ab
end
section
namespace Go.Ab
open Go.Proofs
attribute [local congr] ACall.congr gd.congr Nx.congr
set_option maxRecDepth 10000
end Go.Ab
end
section
namespace Go.Ab
open Go.Proofs
set_option maxRecDepth 10000
structure Pl where
 ord:List Int
 outs:List (List Int)
def aD (p:Pl) (k:Nat):Int:=p.ord.getD k 0
def bY (p:Pl) (x:Int):List Int:=p.outs.getD x.toNat []
def bh (g:Gr) (p:Pl):Prop:=p.outs.length=g.n.toNat∧p.ord.Perm (cQ g.n.toNat)∧∀x:Nat,x<g.n.toNat→(p.outs.getD x []).Perm (cg g x)
def fK (g:Gr) (p:Pl):Nat→Fr
 |0=>⟨[], []⟩
 |k+1=>(aA g (fK g p k) (aD p k) (bY p (aD p k))).2
def cW (g:Gr) (p:Pl) (k:Nat):List It:=(aA g (fK g p k) (aD p k) (bY p (aD p k))).1.1
def pY (g:Gr) (p:Pl) (k:Nat):Bool:=az g (fK g p k) (aD p k)
def fN (g:Gr) (p:Pl):Nat→List (List It)
 |0=>List.replicate g.n.toNat []
 |k+1=>(fN g p k).set (aD p k).toNat (cW g p k)
def jy (g:Gr) (p:Pl):Nat→Option Nat
 |0=>none
 |k+1=>match jy g p k with
  |some i=>some i
  |none=>if pY g p k=true then none else some k
def aU (g:Gr) (p:Pl):Prop:=(bX g).1=0∧bh g p∧∀k,k<g.n.toNat→pY g p k=true
theorem fO {g:Gr} {p:Pl} :∀ {k:Nat},jy g p k=none↔∀j,j<k→pY g p j=true
 |0=>by simp [jy]
 |k+1=>by
  rw [jy]
  cases h:jy g p k with
  |some i=>
   simp only [reduceCtorEq,false_iff]
   intro h2
   rw [fO.2 fun j hj=>h2 j (by omega)] at h
   cases h
  |none=>
   have ih:=fO.1 h
   simp only
   constructor
   ·intro h2 j hj
    by_cases hjk:j=k
    ·subst hjk
     refine Decidable.byContradiction fun hn=> ?_
     rw [if_neg hn] at h2;cases h2
    ·exact ih j (by omega)
   ·intro h2
    rw [if_pos (h2 k (by omega))]
theorem sN {g:Gr} {p:Pl} {i:Nat} :∀ {k:Nat},jy g p k=some i↔i<k∧pY g p i=false∧∀j,j<i→pY g p j=true
 |0=>by simp [jy]
 |k+1=>by
  rw [jy]
  cases h:jy g p k with
  |some i'=>
   have ih:=(sN (g:=g) (p:=p)).1 h
   simp only [Option.some.injEq]
   constructor
   ·rintro rfl
    exact ⟨by omega,ih.2⟩
   ·rintro ⟨h1,h2,h3⟩
    rcases Nat.lt_trichotomy i' i with h4|h4|h4
    ·rw [h3 i' h4] at ih;simp at ih
    ·exact h4
    ·rw [ih.2.2 i h4] at h2;cases h2
  |none=>
   have ih:=fO.1 h
   simp only
   constructor
   ·intro h2
    by_cases hk:pY g p k=true
    ·rw [if_pos hk] at h2;cases h2
    ·rw [if_neg hk] at h2
     cases h2
     exact ⟨by omega,by simpa using hk,ih⟩
   ·rintro ⟨h1,h2,h3⟩
    have:i=k:=by
     by_cases h4:i<k
     ·rw [ih i h4] at h2;cases h2
     ·omega
    subst this
    rw [if_neg (by rw [h2];simp)]
theorem kZ {n:Nat} :(cQ n).length=n:=by simp [cQ]
theorem aI {g:Gr} {p:Pl} (h:bh g p):p.ord.length=g.n.toNat:=by rw [h.2.1.length_eq,kZ]
theorem bN {g:Gr} {p:Pl} (h:bh g p):p.ord.Nodup:=h.2.1.nodup_iff.2 mC
theorem bq {g:Gr} {p:Pl} (h:bh g p) {k:Nat} (hk:k<g.n.toNat):0≤aD p k∧aD p k<g.n:=by
 have h1:aD p k∈p.ord:=aS (by rw [aI h];exact hk)
 have:=cC.1 (h.2.1.mem_iff.1 h1)
 omega
theorem lI {g:Gr} {p:Pl} (h:bh g p) {i j:Nat} (hi:i<g.n.toNat) (hj:j<g.n.toNat) (e:aD p i=aD p j):i=j:=
 jY (bN h) (by rw [aI h];exact hi) (by rw [aI h];exact hj) e
theorem fh {g:Gr} {p:Pl} (h:bh g p) {x:Int} (h0:0≤x) (h1:x<g.n):∃k,k<g.n.toNat∧aD p k=x:=by
 have:x∈p.ord:=h.2.1.mem_iff.2 (cC.2 (by omega))
 obtain ⟨k,hk,e⟩:=List.mem_iff_getElem.1 this
 refine ⟨k,by rw [← aI h];exact hk, ?_⟩
 rw [aD,List.getD_eq_getElem?_getD,List.getElem?_eq_getElem hk,Option.getD_some,e]
theorem bH {g:Gr} {p:Pl} (h:bh g p) {x:Int} (h0:0≤x) (h1:x<g.n):(bY p x).Perm (cg g x):=by
 have:=h.2.2 x.toNat (by omega)
 rwa [show ((x.toNat:Nat):Int)=x by omega] at this
theorem qv {g:Gr} {p:Pl} (h:bh g p) {x:Int} (h0:0≤x) (h1:x<g.n):(bY p x).length≤g.es.length:=by
 rw [(bH h h0 h1).length_eq];exact En
theorem bP {g:Gr} (hm:aK g=true) {p:Pl} (h:bh g p):∀ {k:Nat},k≤g.n.toNat→(∀j,j<k→pY g p j=true)→v8 g (fK g p k)∧(fK g p k).pl=p.ord.take k∧(fK g p k).row.length≤k*(g.es.length+1)
 |0,_,_=>⟨nI g,by simp [fK],by simp [fK]⟩
 |k+1,hk,hok=>by
  obtain ⟨h1,h2,h3⟩:=bP hm h (k:=k) (by omega) fun j hj=>hok j (by omega)
  obtain ⟨x0,x1⟩:=bq h (k:=k) (by omega)
  have hl:=uE (g:=g) (f:=fK g p k) (x:=aD p k) (o:=bY p (aD p k))
  have D8:=qv h x0 x1
  refine ⟨fY hm h1 (hok k (by omega)) (bH h x0 x1), ?_, ?_⟩
  ·show (fK g p k).pl++ [aD p k]=_
   rw [h2,List.take_add_one,List.getElem?_eq_getElem (by rw [aI h];omega),aD,List.getD_eq_getElem?_getD,List.getElem?_eq_getElem (by rw [aI h];omega)]
   rfl
  ·show (aA _ _ _ _).2.row.length≤_
   rw [Nat.add_mul];omega
theorem Eu {g:Gr} {p:Pl} (h:bh g p) {k:Nat} (hk:k<g.n.toNat) (hR:pY g p k=true):e9 g (fK g p k) (aD p k) (bY p (aD p k))=aA g (fK g p k) (aD p k) (bY p (aD p k)):=by
 have hp:=bH h (bq h hk).1 (bq h hk).2
 unfold e9
 have IZ:az g (fK g p k) (aD p k)=true:=hR
 rw [if_neg (by rw [IZ];simp),if_neg]
 rintro (h|⟨i,h1,h2⟩)
 ·exact h hp.length_eq
 ·exact h2 (hp.mem_iff.2 h1)
theorem Ev {g:Gr} {p:Pl} {k:Nat} (hR:pY g p k=false):e9 g (fK g p k) (aD p k) (bY p (aD p k))=(([],3),fK g p k):=if_pos hR
theorem nK {g:Gr} {p:Pl} :∀ {k:Nat},(fN g p k).length=g.n.toNat
 |0=>by simp [fN]
 |k+1=>by rw [fN,List.length_set,nK]
theorem oM {α:Type} {l:List α} {i j:Nat} {a d:α} (hi:i<l.length):(l.set i a).getD j d=if j=i then a else l.getD j d:=by
 rw [List.getD_eq_getElem?_getD,List.getElem?_set,List.getD_eq_getElem?_getD]
 by_cases h:i=j
 ·subst h;simp [hi]
 ·rw [if_neg h,if_neg (Ne.symm h)]
theorem we {g:Gr} {p:Pl} (h:bh g p):∀ {k:Nat},k≤g.n.toNat→∀ {i:Nat},i<k→(fN g p k).getD (aD p i).toNat []=cW g p i
 |0,_,i,hi=>by omega
 |k+1,hk,i,hi=>by
  have hm:=bq h (k:=k) (by omega)
  rw [fN,oM (by rw [nK];omega)]
  by_cases e:i=k
  ·subst e;rw [if_pos rfl]
  ·have Li:=bq h (k:=i) (by omega)
   rw [if_neg (fun h2=>e (lI h (by omega) (by omega) (by omega)))]
   exact we h (by omega) (by omega)
theorem nL {l m:List Int} (h:gq l=m):l.Perm m:=by
 rw [← h];exact (List.mergeSort_perm l _).symm
theorem x8 {n:Nat} :(cQ n).Pairwise (· ≤ ·):=by
 unfold cQ
 refine List.Pairwise.map _ (fun a b (h:a<b)=> ?_) List.pairwise_lt_range
 show (a:Int)≤b
 omega
theorem Gb {g:Gr} (hm:aK g=true) {p:Pl} :(p.outs.length=g.n.toNat∧p.ord.length=g.n.toNat∧(∀i:Nat,i<(gq p.ord).length→(gq p.ord).getD i 0=i)∧∀x:Nat,x<p.outs.length→gq (p.outs.getD x [])=bp (·.1) g x)↔bh g p:=by
 constructor
 ·rintro ⟨h1,h2,h3,h4⟩
  refine ⟨h1,nL ?_,fun x hx=> ?_⟩
  ·refine List.ext_getElem (by rw [dY,h2,kZ]) fun i h5 h6=> ?_
   have:=h3 i h5
   rw [List.getD_eq_getElem?_getD,List.getElem?_eq_getElem h5,Option.getD_some] at this
   rw [this];simp [cQ]
  ·have:=h4 x (by omega)
   rw [fJ (by omega) (by omega)] at this
   exact nL this
 ·intro h
  refine ⟨h.1,aI h, ?_,fun x hx=> ?_⟩
  ·rw [sJ h.2.1 x8]
   intro i hi
   rw [kZ] at hi
   simp [cQ,List.getD_eq_getElem?_getD,List.getElem?_range hi]
  ·rw [fJ (by omega) (by have:=h.1;omega)]
   exact sJ (h.2.2 x (by rw [← h.1];exact hx)) pI
end Go.Ab
end
section
namespace Go.Ab
open Go.Proofs
set_option maxRecDepth 10000
def pK (g:Gr) (p:Pl) (f:Fr) (x:Int):Fr:=(aA g f x (bY p x)).2
def sO (g:Gr) (p:Pl):Nat→Fr→Prop
 |0,f=>(f.pl.length:Int)=g.n
 |m+1,f=>∃x,az g f x=true∧sO g p m (pK g p f x)
theorem sR {g:Gr} {p:Pl} :∀ {m:Nat} {f f':Fr},f.row=f'.row→f.pl.Perm f'.pl→sO g p m f→sO g p m f'
 |0,f,f',_,hp,h=>by
  have h:(f.pl.length:Int)=g.n:=h
  show (f'.pl.length:Int)=g.n
  rw [← hp.length_eq];exact h
 |m+1,f,f',hr,hp,⟨x,h1,h2⟩=>by
  refine ⟨x,by rw [← pJ hr hp];exact h1,sR ?_ ?_ h2⟩
  ·simp only [pK,aA,hr]
  ·exact hp.append_right _
theorem x9 {g:Gr} (hc:(bX g).1=0) {p:Pl} (hp:bh g p):∀ {m:Nat} {f:Fr},v8 g f→(f.pl.length:Int)+(m+1:Nat)=g.n→sO g p (m+1) f→∀ {x:Int},az g f x=true→sO g p m (pK g p f x)
 |m,f,hi,hl,⟨y,pW,hcan⟩,x,hR=>by
  have hm:=ai hc
  by_cases hxy:x=y
  ·subst hxy;exact hcan
  have py:=bH hp (aC pW).1 (aC pW).2.1
  have px:=bH hp (aC hR).1 (aC hR).2.1
  have i2:=fY hm hi pW py
  match m,hl,hcan with
  |0,hl,hcan=>
   exfalso
   have h1:=jx i2.tofe (by show ((f.pl++ [y]).length:Int)=g.n;simp;omega) (x:=x) ⟨(aC hR).1,(aC hR).2.1⟩
   have h2:x∈f.pl++ [y]:=h1
   simp [(aC hR).2.2,hxy] at h2
  |m+1,hl,hcan=>
   obtain ⟨h4,h5,h6,_⟩:=uG hc hi hxy hR pW px py
   have h3:=x9 hc hp i2 (by show (((f.pl++ [y]).length:Nat):Int)+_=_;simp;omega) hcan h5
   refine ⟨y,h4,sR h6.symm ?_ h3⟩
   show (f.pl++ [y]++ [x]).Perm (f.pl++ [x]++ [y])
   rw [List.append_assoc,List.append_assoc]
   exact List.Perm.append_left _ (List.Perm.swap ..)
theorem ya {g:Gr} {p:Pl} (h:aU g p):∀ {d k:Nat},k+d=g.n.toNat→sO g p d (fK g p k)
 |0,k,hk=>by
  have hn:=aH (ai h.1)
  obtain ⟨_,cT,_⟩:=bP (ai h.1) h.2.1 (k:=k) (by omega) fun j hj=>h.2.2 j (by omega)
  show ((fK g p k).pl.length:Int)=g.n
  rw [cT,List.length_take,aI h.2.1];omega
 |d+1,k,hk=>⟨aD p k,h.2.2 k (by omega),ya h (k:=k+1) (by omega)⟩
def iL (rev:Bool) (l:List It):List It:=if rev=true then l.reverse else l
def iM (g:Gr) (f:Fr) (rev:Bool):Int:=match (iL rev f.row).find? (fun t=>az g f t.2.2) with
 |some t=>t.2.2
 |none=>(ef g f).headD (-1)
def bI (g:Gr) (p:Pl) (rev:Bool):Nat→Fr
 |0=>⟨[], []⟩
 |k+1=>pK g p (bI g p rev k) (iM g (bI g p rev k) rev)
def fZ (g:Gr) (p:Pl) (rev:Bool):Nat→List Int
 |0=>List.replicate g.n.toNat 0
 |k+1=>(fZ g p rev k).set (iM g (bI g p rev k) rev).toNat (k:Int)
theorem oN {g:Gr} {p:Pl} {rev:Bool} :∀ {k:Nat},(fZ g p rev k).length=g.n.toNat
 |0=>by simp [fZ]
 |k+1=>by rw [fZ,List.length_set,oN]
theorem ga {g:Gr} (hm:aK g=true) {f:Fr} (hi:fe g f) {x:Int} :x∈ef g f↔az g f x=true:=by
 simp only [ef,j5,List.mem_map,List.mem_filter,List.mem_range]
 constructor
 ·rintro ⟨k,⟨h1,h2⟩,rfl⟩
  rw [← jv hm hi];exact h2
 ·intro h
  obtain ⟨h1,h2,_⟩:=aC h
  have e:((x.toNat:Nat):Int)=x:=by omega
  refine ⟨x.toNat,⟨by omega, ?_⟩,e⟩
  rw [e,jv hm hi];exact h
theorem sS {g:Gr} (hm:aK g=true) {f:Fr} (hi:fe g f) (h:∃x,az g f x=true) (rev:Bool):az g f (iM g f rev)=true:=by
 unfold iM
 cases hf:(iL rev f.row).find? (fun t=>az g f t.2.2) with
 |some t=>
  have h2:=List.find?_some (p:=fun t:It=>az g f t.2.2) hf
  exact h2
 |none=>
  obtain ⟨x,hx⟩:=h
  have hx:=(ga hm hi).2 hx
  match hL:ef g f with
  | []=>rw [hL] at hx;cases hx
  |y::l=>exact (ga hm hi).1 (by rw [hL];simp)
theorem sV {g:Gr} {p:Pl} (h:aU g p) (rev:Bool):∀ {k:Nat},k≤g.n.toNat→v8 g (bI g p rev k)∧(bI g p rev k).pl.length=k∧sO g p (g.n.toNat - k) (bI g p rev k)∧(bI g p rev k).row.length≤k*(g.es.length+1)
 |0,_=>⟨nI g,rfl,ya h (k:=0) (by omega),by simp [bI]⟩
 |k+1,hk=>by
  have hm:=ai h.1
  have hn:=aH hm
  obtain ⟨h1,h2,h3,h4⟩:=sV h rev (k:=k) (by omega)
  obtain ⟨m,hmm⟩:∃m,g.n.toNat - k=m+1:=⟨g.n.toNat - k - 1,by omega⟩
  rw [hmm] at h3
  have hR:=sS hm h1.tofe (by obtain ⟨x,hx,_⟩:=h3;exact ⟨x,hx⟩) rev
  have hx:=aC hR
  have hp:=bH h.2.1 hx.1 hx.2.1
  have hl:=uE (g:=g) (f:=bI g p rev k) (x:=iM g (bI g p rev k) rev) (o:=bY p (iM g (bI g p rev k) rev))
  have D8:=qv h.2.1 hx.1 hx.2.1
  refine ⟨fY hm h1 hR hp,hl.2.trans (by rw [h2]), ?_, ?_⟩
  ·rw [show g.n.toNat - (k+1)=m by omega]
   exact x9 h.1 h.2.1 h1 (by omega) h3 hR
  ·show (aA _ _ _ _).2.row.length≤_
   rw [Nat.add_mul];omega
theorem zS {g:Gr} {p:Pl} (h:aU g p) (rev:Bool) {k:Nat} (hk:k<g.n.toNat):az g (bI g p rev k) (iM g (bI g p rev k) rev)=true∧ef g (bI g p rev k)≠ []:=by
 have hm:=ai h.1
 obtain ⟨h1,h2,h3,_⟩:=sV h rev (k:=k) (by omega)
 obtain ⟨m,hmm⟩:∃m,g.n.toNat - k=m+1:=⟨g.n.toNat - k - 1,by omega⟩
 rw [hmm] at h3
 have hR:=sS hm h1.tofe (by obtain ⟨x,hx,_⟩:=h3;exact ⟨x,hx⟩) rev
 exact ⟨hR,fun e=>by
  have:=(ga hm h1.tofe).2 hR
  rw [e] at this;cases this⟩
def Qn (g:Gr) (p:Pl) (rev:Bool):List Int:=(List.range g.n.toNat).map fun k=>iM g (bI g p rev k) rev
end Go.Ab
end
section
namespace Go.Ab
open Go.Proofs
set_option maxRecDepth 10000
def Qo (f:Fr):Fr:=⟨f.row.reverse,f.pl⟩
def Qp (p:Pl):Pl:=⟨p.ord,p.outs.map List.reverse⟩
theorem eS.rev {x:Int} {l:List It} (h:eS x l):eS x l.reverse:=fun t ht=>h t (List.mem_reverse.1 ht)
theorem Mid.rev {x:Int} {X:List It} (h:Mid x X):Mid x X.reverse:=
 ⟨by obtain ⟨X',q,h1,h2⟩:=h.H6;exact ⟨q,X'.reverse,by simp [h1],h2⟩,by obtain ⟨p,X',h1,h2⟩:=h.fst;exact ⟨X'.reverse,p,by simp [h1],h2⟩,fun t ht=>h.al t (List.mem_reverse.1 ht)⟩
end Go.Ab
end
section
namespace Go.Ab
open Go.Proofs
set_option maxRecDepth 10000
def loose (l:List It):List Int:=(l.filter fun t=>decide (t.1<0)).map fun t=>t.2.1
theorem bJ {a b:List It} :loose (a++b)=loose a++loose b:=by simp [loose]
def cq (g:Gr) (p:Pl):Nat→List Edge
 |0=> []
 |k+1=>cq g p k++(loose (cW g p k)).map fun v=>(v,aD p k)
def aV (g:Gr) (p:Pl):List It:=(fK g p g.n.toNat).row
def newL (g:Gr) (p:Pl):List Edge:=if 1<(aV g p).length then (loose (aV g p)).map fun v=>(v,g.n) else []
def aW (g:Gr) (p:Pl):List Edge:=cq g p g.n.toNat++newL g p
def ak (g:Gr) (p:Pl):Gr:=⟨if 1<(aV g p).length then g.n+1 else g.n,g.es++aW g p⟩
def cG:Nat→List Edge→List (List Int)→List (List Int)
 |_, [],O=>O
 |m,e::N,O=>cG (m+1) N (O.set e.1.toNat [(m:Int)])
def bD (g:Gr) (p:Pl):Pl:=⟨if 1<(aV g p).length then p.ord++ [g.n] else p.ord,cG g.es.length (aW g p) (if 1<(aV g p).length then p.outs++ [[]] else p.outs)⟩
def zT (g:Gr) (p:Pl) (x:Gr):List (List Int):=(List.range x.n.toNat).map fun v=>if 0<(p.outs.getD v []).length then p.outs.getD v [] else cg x (v:Int)
theorem gh:∀ {m:Nat} {N:List Edge} {O:List (List Int)},(cG m N O).length=O.length
 |_, [],_=>rfl
 |m,e::N,O=>by rw [cG,gh,List.length_set]
theorem nM:∀ {m:Nat} {N M:List Edge} {O:List (List Int)},cG m (N++M) O=cG (m+N.length) M (cG m N O)
 |_, [],_,_=>rfl
 |m,e::N,M,O=>by
  rw [List.cons_append,cG,cG,nM,List.length_cons]
  congr 1
  omega
theorem uI:∀ {m:Nat} {N:List Edge} {O:List (List Int)},(∀e∈N,e.1.toNat<O.length)→cG m N (O++ [[]])=cG m N O++ [[]]
 |_, [],_,_=>rfl
 |m,e::N,O,h=>by
  rw [cG,cG,List.set_append_left _ _ (h e (List.mem_cons_self ..))]
  exact uI fun e' he=>by rw [List.length_set];exact h e' (List.mem_cons_of_mem _ he)
theorem sW {v:Nat} :∀ {m:Nat} {N:List Edge} {O:List (List Int)},(∀e∈N,e.1.toNat<O.length)→(∀e∈N,e.1.toNat≠v)→(cG m N O).getD v []=O.getD v []
 |_, [],_,_,_=>rfl
 |m,e::N,O,h,hv=>by
  rw [cG,sW (fun e' he=>by rw [List.length_set];exact h e' (List.mem_cons_of_mem _ he)) fun e' he=>hv e' (List.mem_cons_of_mem _ he),oM (h e (List.mem_cons_self ..)),if_neg (Ne.symm (hv e (List.mem_cons_self ..)))]
theorem AZ:∀ {m:Nat} {N:List Edge} {O:List (List Int)},(∀e∈N,0≤e.1∧e.1.toNat<O.length)→(N.map (·.1)).Nodup→∀ {j:Nat},j<N.length→(cG m N O).getD (N.getD j (0,0)).1.toNat []= [((m+j:Nat):Int)]
 |m,e::N,O,h,hd,0,_=>by
  rw [List.map_cons,List.nodup_cons] at hd
  rw [cG,List.getD_cons_zero,sW (fun e' he=>by rw [List.length_set];exact (h e' (List.mem_cons_of_mem _ he)).2) (fun e' he h2=>hd.1 ?_),oM (h e (List.mem_cons_self ..)).2,if_pos rfl]
  ·rfl
  ·have h3:=(h e (List.mem_cons_self ..)).1
   have h4:=(h e' (List.mem_cons_of_mem _ he)).1
   exact List.mem_map.2 ⟨e',he,by omega⟩
 |m,e::N,O,h,hd,j+1,hj=>by
  rw [List.map_cons,List.nodup_cons] at hd
  rw [cG,List.getD_cons_succ,AZ (fun e' he=>by rw [List.length_set];exact h e' (List.mem_cons_of_mem _ he)) hd.2 (by simpa using hj)]
  congr 2
  omega
theorem oO {f:Edge→Int} {es N:List Edge} {x:Int} :aL f (es++N) (es++N).length x=aL f es es.length x++(aL f N N.length x).map (· +(es.length:Int)):=by
 unfold aL
 rw [List.length_append,List.range_add,List.filter_append,List.map_append,List.filter_map,List.map_map,List.map_map]
 congr 1
 ·congr 1
  refine List.filter_congr fun i hi=> ?_
  have:=List.mem_range.1 hi
  rw [List.getD_eq_getElem?_getD,List.getElem?_append_left this, ← List.getD_eq_getElem?_getD]
 ·have e1:(List.range N.length).filter ((fun i=>decide (f ((es++N).getD i (0,0))=x)) ∘ fun x=>es.length+x)=(List.range N.length).filter fun i=>decide (f (N.getD i (0,0))=x):=by
   refine List.filter_congr fun i hi=> ?_
   simp only [Function.comp]
   rw [List.getD_eq_getElem?_getD,List.getElem?_append_right (by omega),Nat.add_sub_cancel_left, ← List.getD_eq_getElem?_getD]
  rw [e1]
  refine List.map_congr_left fun i _=> ?_
  simp only [Function.comp]
  show ((es.length+i:Nat):Int)=(i:Int)+(es.length:Int)
  omega
theorem filter_one {j:Nat} :∀ {n:Nat},j<n→(List.range n).filter (fun i=>decide (i=j))= [j]
 |n+1,h=>by
  rw [List.range_succ,List.filter_append]
  by_cases e:j=n
  ·subst e
   have:(List.range j).filter (fun i=>decide (i=j))= []:=List.filter_eq_nil_iff.2 fun i hi=>by
    have:=List.mem_range.1 hi
    simp;omega
   rw [this];simp
  ·rw [filter_one (by omega)]
   have: [n].filter (fun i=>decide (i=j))= []:=List.filter_eq_nil_iff.2 fun i hi=>by
    rw [List.mem_singleton] at hi
    simp;omega
   rw [this];simp
theorem yb {N:List Edge} (hd:(N.map (·.1)).Nodup) {j:Nat} (hj:j<N.length):aL (·.1) N N.length (N.getD j (0,0)).1= [(j:Int)]:=by
 unfold aL
 have:(List.range N.length).filter (fun i=>decide ((N.getD i (0,0)).1=(N.getD j (0,0)).1))=(List.range N.length).filter (fun i=>decide (i=j)):=by
  refine List.filter_congr fun i hi=> ?_
  have hi:=List.mem_range.1 hi
  rw [decide_eq_decide]
  constructor
  ·intro h
   have e1:∀k,k<N.length→(N.map (·.1)).getD k 0=(N.getD k (0,0)).1:=fun k hk=>by
    simp [List.getD_eq_getElem?_getD,List.getElem?_eq_getElem hk]
   refine jY hd (by simpa using hi) (by simpa using hj) ?_
   rw [e1 i hi,e1 j hj,h]
  ·rintro rfl;rfl
 rw [this,filter_one hj]
 rfl
theorem gP {f:Edge→Int} {N:List Edge} {v:Int} (h:∀e∈N,f e≠v):aL f N N.length v= []:=by
 unfold aL
 rw [List.map_eq_nil_iff,List.filter_eq_nil_iff]
 intro i hi
 have:=h _ (aS (d:=(0,0)) (List.mem_range.1 hi))
 simpa using this
theorem yc {g:Gr} {x:Int} {o:List Int} (ho:∀i∈o,i∈cg g x):loose (aJ g x o)=if o= [] then [x] else []:=by
 unfold aJ
 split
 ·rfl
 ·simp only [loose,List.map_eq_nil_iff,List.filter_eq_nil_iff,List.mem_map]
  rintro t ⟨i,hi,rfl⟩
  obtain ⟨k,rfl,_⟩:=nJ (ho i hi)
  simp [fu]
theorem jz {g:Gr} (hm:aK g=true) {p:Pl} (h:bh g p):∀ {k:Nat},k≤g.n.toNat→(∀j,j<k→pY g p j=true)→
 ((cq g p k).map (·.1)++loose (fK g p k).row).Nodup∧∀v∈(cq g p k).map (·.1)++loose (fK g p k).row,v∈(fK g p k).pl∧bY p v= []
 |0,_,_=>by simp [cq,fK,loose]
 |k+1,hk,hok=>by
  obtain ⟨h1,h2⟩:=jz hm h (k:=k) (by omega) fun j hj=>hok j (by omega)
  obtain ⟨hi,cT,_⟩:=bP hm h (k:=k) (by omega) fun j hj=>hok j (by omega)
  have hR:az g (fK g p k) (aD p k)=true:=hok k (by omega)
  obtain ⟨x0,x1⟩:=bq h (k:=k) (by omega)
  have hx:=(aC hR).2.2
  have AW:=bH h x0 x1
  obtain ⟨A,X,C,hr,_,_,_,hs⟩:=ej hm hi.tofe hR
  have Ku:cW g p k=X:=by unfold cW;rw [hs]
  have hrow:(fK g p (k+1)).row=A++aJ g (aD p k) (bY p (aD p k))++C:=by show (aA _ _ _ _).2.row=_;rw [hs]
  have oo:(fK g p (k+1)).pl=(fK g p k).pl++ [aD p k]:=rfl
  have hla:=yc (g:=g) (x:=aD p k) (o:=bY p (aD p k)) fun i hi=>AW.mem_iff.1 hi
  have e1:(cq g p (k+1)).map (·.1)=(cq g p k).map (·.1)++loose X:=by
   rw [cq,Ku,List.map_append,List.map_map]
   congr 1
   simp [Function.comp_def]
  have e2:loose (fK g p (k+1)).row=loose A++(if bY p (aD p k)= [] then [aD p k] else [])++loose C:=by rw [hrow,bJ,bJ,hla]
  have e3:loose (fK g p k).row=loose A++loose X++loose C:=by rw [hr,bJ,bJ]
  rw [e3] at h1 h2
  have hP:((cq g p (k+1)).map (·.1)++loose (fK g p (k+1)).row).Perm (((cq g p k).map (·.1)++(loose A++loose X++loose C))++(if bY p (aD p k)= [] then [aD p k] else [])):=by
   rw [e1,e2,List.perm_iff_count]
   intro a
   simp only [List.count_append]
   omega
  constructor
  ·rw [hP.nodup_iff,List.nodup_append]
   refine ⟨h1,by split<;>simp,fun a ha b hb e=>hx ?_⟩
   split at hb
   ·rw [List.mem_singleton] at hb
    rw [← hb, ← e]
    exact (h2 a ha).1
   ·cases hb
  ·intro v hv
   rw [hP.mem_iff,List.mem_append] at hv
   rw [oo,List.mem_append,List.mem_singleton]
   rcases hv with hv|hv
   ·exact ⟨.inl (h2 v hv).1,(h2 v hv).2⟩
   ·split at hv
    ·rw [List.mem_singleton] at hv
     subst hv
     exact ⟨.inr rfl,by assumption⟩
    ·cases hv
theorem dU {g:Gr} {p:Pl} (hr:aU g p):((aW g p).map (·.1)).Nodup∧∀e∈aW g p,(0≤e.1∧e.1<g.n)∧bY p e.1= []:=by
 obtain ⟨hc,h,hok⟩:=hr
 have hm:=ai hc
 obtain ⟨h1,h2⟩:=jz hm h (k:=g.n.toNat) (Nat.le_refl _) hok
 obtain ⟨hi,_⟩:=bP hm h (k:=g.n.toNat) (Nat.le_refl _) hok
 have e1:(aW g p).map (·.1)=(cq g p g.n.toNat).map (·.1)++if 1<(aV g p).length then loose (aV g p) else []:=by
  rw [aW,newL,List.map_append]
  congr 1
  split
  ·rw [List.map_map];simp [Function.comp_def]
  ·rfl
 have hsub:∀v∈(aW g p).map (·.1),v∈(cq g p g.n.toNat).map (·.1)++loose (aV g p):=by
  intro v hv
  rw [e1,List.mem_append] at hv
  rw [List.mem_append]
  rcases hv with hv|hv
  ·exact .inl hv
  ·split at hv
   ·exact .inr hv
   ·cases hv
 constructor
 ·rw [e1]
  split
  ·exact h1
  ·rw [List.append_nil]
   exact (List.nodup_append.1 h1).1
 ·intro e he
  have:=h2 e.1 (hsub _ (List.mem_map.2 ⟨e,he,rfl⟩))
  exact ⟨hi.pV _ this.1,this.2⟩
theorem k4 {g:Gr} {p:Pl} (h:bh g p) {v:Int} (h0:0≤v) (h1:v<g.n):cg g v= []↔bY p v= []:=by
 have hp:=bH h h0 h1
 constructor
 ·intro e;rw [e] at hp;exact hp.eq_nil
 ·intro e;rw [e] at hp;exact hp.symm.eq_nil
theorem sX {g:Gr} {p:Pl} (hr:aU g p):(bD g p).outs=zT g p (ak g p):=by
 obtain ⟨qN,A0⟩:=dU hr
 have h:=hr.2.1
 have hm:=ai hr.1
 have hn:=aH hm
 generalize hO:(if 1<(aV g p).length then p.outs++ [[]] else p.outs)=O
 have Lt:O.length=(ak g p).n.toNat:=by
  rw [← hO]
  unfold ak
  split
  ·rw [List.length_append,h.1];simp;omega
  ·rw [h.1]
 have Qq:∀v,O.getD v []=p.outs.getD v []:=by
  intro v
  rw [← hO]
  split
  ·rw [List.getD_eq_getElem?_getD,List.getD_eq_getElem?_getD,List.getElem?_append]
   split
   ·rfl
   ·rename_i hv
    rw [List.getElem?_eq_none (by omega:p.outs.length≤v)]
    cases Om:v - p.outs.length<;>simp
  ·rfl
 have R6:g.n.toNat≤O.length:=by rw [← hO];split<;>simp [h.1]
 have mG:∀e∈aW g p,0≤e.1∧e.1.toNat<O.length:=fun e he=>by
  have:=(A0 e he).1;omega
 have Na:∀e∈aW g p,e.1.toNat<O.length:=fun e he=>(mG e he).2
 show cG g.es.length (aW g p) (if 1<(aV g p).length then p.outs++ [[]] else p.outs)=_
 rw [hO]
 refine List.ext_getElem (by rw [gh,Lt];simp [zT]) fun v BG DP=> ?_
 rw [gh] at BG
 have hL:(cG g.es.length (aW g p) O).getD v []=(cG g.es.length (aW g p) O)[v]'(by rw [gh];exact BG):=by
  rw [List.getD_eq_getElem?_getD,List.getElem?_eq_getElem (by rw [gh];exact BG)];rfl
 rw [← hL]
 have hD:(zT g p (ak g p))[v]=if 0<(p.outs.getD v []).length then p.outs.getD v [] else cg (ak g p) (v:Int):=by simp [zT]
 rw [hD]
 have hlv:bY p (v:Int)=p.outs.getD v []:=by unfold bY;rw [Int.toNat_natCast]
 have hout:cg (ak g p) (v:Int)=cg g (v:Int)++(aL (·.1) (aW g p) (aW g p).length (v:Int)).map (· +(g.es.length:Int)):=oO
 by_cases hin:∃j,j<(aW g p).length∧((aW g p).getD j (0,0)).1=v
 ·obtain ⟨j,hj,e⟩:=hin
  have hmem:=aS (d:=(0,0)) hj
  obtain ⟨⟨q0,q1⟩,q2⟩:=A0 _ hmem
  rw [e] at q0 q1 q2
  rw [hlv] at q2
  rw [q2,if_neg (by simp),hout,(k4 h q0 q1).2 (by rw [hlv];exact q2), ← e,yb qN hj]
  have:=AZ (m:=g.es.length) mG qN hj
  rw [e,Int.toNat_natCast] at this
  rw [this]
  simp
  omega
 ·have hno:∀e∈aW g p,e.1≠(v:Int):=fun e he h2=>hin (by
   obtain ⟨j,hj,e1⟩:=List.mem_iff_getElem.1 he
   exact ⟨j,hj,by rw [List.getD_eq_getElem?_getD,List.getElem?_eq_getElem hj,Option.getD_some,e1,h2]⟩)
  rw [sW Na (fun e he h2=>hno e he (by have:=(mG e he).1;omega)),Qq,hout,gP hno]
  simp only [List.map_nil,List.append_nil]
  split
  ·rfl
  ·rename_i hl
   have hl:p.outs.getD v []= []:=List.eq_nil_of_length_eq_zero (by omega)
   rw [hl]
   by_cases Ik:v<g.n.toNat
   ·exact ((k4 h (v:=(v:Int)) (by omega) (by omega)).2 (by rw [hlv];exact hl)).symm
   ·symm
    refine gP fun e he h2=> ?_
    obtain ⟨i,hi,rfl⟩:=List.mem_iff_getElem.1 he
    have:=(dg hm hi).1
    rw [List.getD_eq_getElem?_getD,List.getElem?_eq_getElem hi,Option.getD_some] at this
    omega
end Go.Ab
end
section
namespace Go.Ab
open Go.Proofs
set_option maxRecDepth 10000
abbrev Act:=Int × List Int
def rA (a:Act):List D:= [.sc (.int .i64 a.1),sI a.2]
def sA (as':List Act):D:= .sl 2 (as'.map rA)
attribute [go_sem] sA
def Kv (g:Gr) (Il:List Act):Nat→Fr
 |0=>⟨[], []⟩
 |k+1=>(e9 g (Kv g Il k) (Il.getD k (0, [])).1 (Il.getD k (0, [])).2).2
theorem Kw {g:Gr} {f:Fr} (hi:fe g f):(f.pl.length:Int)≤g.n∨f.pl= []:=by
 by_cases h:f.pl= []
 ·exact .inr h
 ·left
  obtain ⟨y,hy⟩:=List.exists_mem_of_ne_nil _ h
  have:=hi.pV y hy
  have h3:=dx hi.pl (m:=(List.range g.n.toNat).map Int.ofNat) (fun y hy=>by
   rw [List.mem_map]
   have:=hi.pV y hy
   exact ⟨y.toNat,List.mem_range.2 (by omega),by simp;omega⟩)
  simp at h3
  omega
theorem pL (g:Gr) (hm:aK g=true) (f:Fr) (hi:v8 g f) (x:Int) (outs:List Int) (hr:f.row.length≤300000) (hp:f.pl.length≤100000) (ho:outs.length≤17592186043904):
 Spec Tryz.prog 83 (Args [.ptr 10000 0,eN x, .d (sI outs)]) (iB g f) (.tup [.d (sT (e9 g f x outs).1.1),eN (e9 g f x outs).1.2]) (oe g (e9 g f x outs).2):=by
 rw [← Eo hm hi.tofe]
 exact zQ g hm f x outs hr hp ho
end Go.Ab
end
section
namespace Go.Ab
open Go.Proofs
attribute [local congr] ACall.congr gd.congr Nx.congr
set_option maxRecDepth 10000
set_option maxHeartbeats 4000000
def ePl (p:Pl):AV:= .agg [.d (sI p.ord), .d (.sl 1 (vI p.outs))]
attribute [go_sem] ePl
structure nN (p:Pl):Prop where
 ord:p.ord.length≤17592186043904
 outs:p.outs.length≤9223372036854775807
 each:∀l∈p.outs,l.length≤17592186043904
theorem Ew (g:Gr) (hm:aK g=true) (p:Pl) (hp:nN p) (res:Bool) (hr:res=true↔bh g p):Spec Tryz.prog 82 (Args [.d (vw g),ePl p]) [] (eB res) []:=by
 rw [← Gb hm] at hr
 have hn:=aH hm
 have ho:=hp.ord
 have La:=hp.outs
 by_cases h1:p.outs.length=g.n.toNat∧p.ord.length=g.n.toNat
 rotate_left
 ·have hres:res=false:=by
   rw [← Bool.not_eq_true,hr]
   rintro ⟨h2,h3,_⟩
   exact h1 ⟨h2,h3⟩
  subst hres
  by_cases h2:(p.outs.length:Int)=g.n
  ·have hb1:decide ((p.outs.length:Int)=g.n)=true:=decide_eq_true h2
   have hb2:decide ((p.ord.length:Int)=g.n)=false:=decide_eq_false fun h3=>h1 ⟨by omega,by omega⟩
   (refine Spec.hd (C:=T.cfg [] []) (rs:= [.t 4]) (T.ah _ _) Tryz.func82 rfl rfl Tryz.ntmps82 Tryz.results82 (by simp [AObj.isNest]) (by simp [AObj.isNest]) (by kernel_rfl) T.mixed fun X hX hP hC aP ck=> ?_)
   repeat' (first|refine Rn.p ?_|(with_reducible apply And.intro)|((first|(refine hK _ ?_;clear hK K)|with_reducible intro K hK|refine Rs.p ?_|((with_reducible first|apply oP|apply oQ);exact rfl));try simp only [go_sem,simprocAttr,aq,hb1,hb2])|((with_reducible refine oD ?_ ?_);kernel_rfl)|((with_reducible intro h);try simp only [go_sem,simprocAttr,aq,hb1,hb2] at h)|omega|intro h)
  ·have hb1:decide ((p.outs.length:Int)=g.n)=false:=decide_eq_false h2
   (refine Spec.hd (C:=T.cfg [] []) (rs:= [.t 4]) (T.ah _ _) Tryz.func82 rfl rfl Tryz.ntmps82 Tryz.results82 (by simp [AObj.isNest]) (by simp [AObj.isNest]) (by kernel_rfl) T.mixed fun X hX hP hC aP ck=> ?_)
   repeat' (first|refine Rn.p ?_|(with_reducible apply And.intro)|((first|(refine hK _ ?_;clear hK K)|with_reducible intro K hK|refine Rs.p ?_|((with_reducible first|apply oP|apply oQ);exact rfl));try simp only [go_sem,simprocAttr,aq,hb1])|((with_reducible refine oD ?_ ?_);kernel_rfl)|((with_reducible intro h);try simp only [go_sem,simprocAttr,aq,hb1] at h)|omega|intro h)
 have hb1:decide ((p.outs.length:Int)=g.n)=true:=decide_eq_true (by omega)
 have hb2:decide ((p.ord.length:Int)=g.n)=true:=decide_eq_true (by omega)
 have Fl:=dY p.ord
 (refine Spec.hd (C:=T.cfg [] []) (rs:= [.t 4]) (T.ah _ _) Tryz.func82 rfl rfl Tryz.ntmps82 Tryz.results82 (by simp [AObj.isNest]) (by simp [AObj.isNest]) (by kernel_rfl) T.mixed fun X hX hP hC aP ck=> ?_)
 repeat' (first|refine Rn.p ?_|(with_reducible apply And.intro)|((first|(refine hK _ ?_;clear hK K)|with_reducible intro K hK|refine Rs.p ?_|((with_reducible first|apply oP|apply oQ);exact rfl)|(refine aj hX hC hP [(10000,31)] (cl p.ord) rfl rfl rfl ?_ ?_ ?_ ?_ ?_ ?_ ?_ ?_ ?_ ?_ ?_ ?_ ?_ ?_;(focus (simp only [go_sem,simprocAttr,aq,hb1,hb2];done));(iterate 12 (focus (simp [go_sem,simprocAttr,aq,hb1,hb2];done)));try simp only [List.map_cons,List.map_nil])|(refine bt hX hC hP [(10000,31)] (bT p.ord ho) rfl rfl rfl ?_ ?_ ?_ ?_ ?_ ?_ rfl rfl ?_ ?_;(focus (simp only [go_sem,simprocAttr,aq,hb1,hb2];done));(iterate 6 (focus (simp [go_sem,simprocAttr,aq,hb1,hb2];done)));try simp only [List.map_cons,List.map_nil]));try simp only [go_sem,simprocAttr,aq,hb1,hb2])|((with_reducible refine oD ?_ ?_);kernel_rfl)|((with_reducible intro h);try simp only [go_sem,simprocAttr,aq,hb1,hb2] at h)|omega|intro h)
 clear hb1 hb2
 refine an (fun k:Nat=>k≤(gq p.ord).length∧∀i:Nat,i<k→(gq p.ord).getD i 0=i) (fun k=>⟨[(0, .d (vw g)),(3, .ptr 3 0),(32, .d (sI (gq p.ord))),(33,eN (gq p.ord).length),(34,eN k)], [(3, .box [.d (sI p.ord), .d (.sl 1 (vI p.outs))])]⟩) (fun k=>(gq p.ord).length - k) 0 (by simp) ?_ ?_
 ·(refine Le.of ?_ ?_<;>simp [go_sem,simprocAttr,aq])
 rintro k ⟨hk,hg⟩
 rcases Nat.lt_or_ge k (gq p.ord).length with hlt|hge
 ·have hb:decide ((k:Int)<((gq p.ord).length:Int))=true:=decide_eq_true (by omega)
  by_cases he:(gq p.ord).getD k 0=k
  ·have hb2:decide ((gq p.ord).getD k 0=(k:Int))=true:=decide_eq_true he
   repeat' (first|refine Rn.p ?_|(with_reducible apply And.intro)|((first|(refine hK _ ?_;clear hK K)|with_reducible intro K hK|refine Rs.p ?_|((with_reducible first|apply oP|apply oQ);exact rfl)|(refine aj hX hC hP [(10000,31)] (cl p.ord) rfl rfl rfl ?_ ?_ ?_ ?_ ?_ ?_ ?_ ?_ ?_ ?_ ?_ ?_ ?_ ?_;(focus (simp only [go_sem,simprocAttr,aq,hb,hb2];done));(iterate 12 (focus (simp [go_sem,simprocAttr,aq,hb,hb2];done)));try simp only [List.map_cons,List.map_nil])|(refine bt hX hC hP [(10000,31)] (bT p.ord ho) rfl rfl rfl ?_ ?_ ?_ ?_ ?_ ?_ rfl rfl ?_ ?_;(focus (simp only [go_sem,simprocAttr,aq,hb,hb2];done));(iterate 6 (focus (simp [go_sem,simprocAttr,aq,hb,hb2];done)));try simp only [List.map_cons,List.map_nil]));try simp only [go_sem,simprocAttr,aq,hb,hb2])|((with_reducible refine oD ?_ ?_);kernel_rfl)|((with_reducible intro h);try simp only [go_sem,simprocAttr,aq,hb,hb2] at h)|omega|intro h)
   refine ⟨k+1,⟨by omega,fun i hi=> ?_⟩, ?_,by omega⟩
   ·by_cases hik:i=k
    ·subst hik;exact he
    ·exact hg i (by omega)
   ·(refine Le.of ?_ ?_<;>simp [go_sem,simprocAttr,aq,hb,hb2])
  ·have hb2:decide ((gq p.ord).getD k 0=(k:Int))=false:=decide_eq_false he
   have hres:res=false:=by
    rw [← Bool.not_eq_true,hr]
    rintro ⟨_,_,h3,_⟩
    exact he (h3 k hlt)
   subst hres
   repeat' (first|refine Rn.p ?_|(with_reducible apply And.intro)|((first|(refine hK _ ?_;clear hK K)|with_reducible intro K hK|refine Rs.p ?_|((with_reducible first|apply oP|apply oQ);exact rfl)|(refine aj hX hC hP [(10000,31)] (cl p.ord) rfl rfl rfl ?_ ?_ ?_ ?_ ?_ ?_ ?_ ?_ ?_ ?_ ?_ ?_ ?_ ?_;(focus (simp only [go_sem,simprocAttr,aq,hb,hb2];done));(iterate 12 (focus (simp [go_sem,simprocAttr,aq,hb,hb2];done)));try simp only [List.map_cons,List.map_nil])|(refine bt hX hC hP [(10000,31)] (bT p.ord ho) rfl rfl rfl ?_ ?_ ?_ ?_ ?_ ?_ rfl rfl ?_ ?_;(focus (simp only [go_sem,simprocAttr,aq,hb,hb2];done));(iterate 6 (focus (simp [go_sem,simprocAttr,aq,hb,hb2];done)));try simp only [List.map_cons,List.map_nil]));try simp only [go_sem,simprocAttr,aq,hb,hb2])|((with_reducible refine oD ?_ ?_);kernel_rfl)|((with_reducible intro h);try simp only [go_sem,simprocAttr,aq,hb,hb2] at h)|omega|intro h)
 have hb:decide ((k:Int)<((gq p.ord).length:Int))=false:=decide_eq_false (by omega)
 repeat' (first|refine Rn.p ?_|(with_reducible apply And.intro)|((first|(refine hK _ ?_;clear hK K)|with_reducible intro K hK|refine Rs.p ?_|((with_reducible first|apply oP|apply oQ);exact rfl)|(refine aj hX hC hP [(10000,31)] (cl p.ord) rfl rfl rfl ?_ ?_ ?_ ?_ ?_ ?_ ?_ ?_ ?_ ?_ ?_ ?_ ?_ ?_;(focus (simp only [go_sem,simprocAttr,aq,hb];done));(iterate 12 (focus (simp [go_sem,simprocAttr,aq,hb];done)));try simp only [List.map_cons,List.map_nil])|(refine bt hX hC hP [(10000,31)] (bT p.ord ho) rfl rfl rfl ?_ ?_ ?_ ?_ ?_ ?_ rfl rfl ?_ ?_;(focus (simp only [go_sem,simprocAttr,aq,hb];done));(iterate 6 (focus (simp [go_sem,simprocAttr,aq,hb];done)));try simp only [List.map_cons,List.map_nil]));try simp only [go_sem,simprocAttr,aq,hb])|((with_reducible refine oD ?_ ?_);kernel_rfl)|((with_reducible intro h);try simp only [go_sem,simprocAttr,aq,hb] at h)|omega|intro h)
 obtain rfl:k=(gq p.ord).length:=by omega
 clear hb hk
 refine an (fun x:Nat=>x≤p.outs.length∧∀i:Nat,i<x→gq (p.outs.getD i [])=bp (·.1) g i) (fun x=>⟨[(0, .d (vw g)),(44, .d (.sl 1 (vI p.outs))),(45,eN p.outs.length),(46,eN x)], []⟩) (fun x=>p.outs.length - x) 0 (by simp) ?_ ?_
 ·refine Le.of ?_ ?_<;>simp [go_sem,simprocAttr,aq]
 rintro x ⟨hx,Gc⟩
 rcases Nat.lt_or_ge x p.outs.length with hxl|Qr
 ·have hb:decide ((x:Int)<(p.outs.length:Int))=true:=decide_eq_true (by omega)
  have hv:=fc hxl
  have hl:=hp.each _ (aS (d:= []) hxl)
  have hn2:∀h:gq (p.outs.getD x [])=bp (·.1) g x,∀i:Nat,i<x+1→gq (p.outs.getD i [])=bp (·.1) g i:=fun h i hi=>by
   by_cases Nq:i=x
   ·subst Nq;exact h
   ·exact Gc i (by omega)
  have tN:¬gq (p.outs.getD x [])=bp (·.1) g x→res=false:=fun h=>by
   rw [← Bool.not_eq_true,hr]
   rintro ⟨_,_,_,h4⟩
   exact h (h4 x hxl)
  generalize p.outs.getD x []=l at hv hl hn2 tN
  have Qs:=dY l
  by_cases he:gq l=bp (·.1) g x
  ·have hb2:decide (gq l=bp (·.1) g (x:Int))=true:=decide_eq_true he
   repeat' (first|refine Rn.p ?_|(with_reducible apply And.intro)|((first|(refine hK _ ?_;clear hK K)|with_reducible intro K hK|refine Rs.p ?_|((with_reducible first|apply oP|apply oQ);exact rfl)|(refine aj hX hC hP [(10000,52)] (cl l) rfl rfl rfl ?_ ?_ ?_ ?_ ?_ ?_ ?_ ?_ ?_ ?_ ?_ ?_ ?_ ?_;(focus (simp only [go_sem,simprocAttr,hb,hv,hb2];done));(iterate 12 (focus (simp [go_sem,simprocAttr,hb,hv,hb2];done)));try simp only [List.map_cons,List.map_nil])|(refine bt hX hC hP [(10000,52)] (bT l hl) rfl rfl rfl ?_ ?_ ?_ ?_ ?_ ?_ rfl rfl ?_ ?_;(focus (simp only [go_sem,simprocAttr,hb,hv,hb2];done));(iterate 6 (focus (simp [go_sem,simprocAttr,hb,hv,hb2];done)));try simp only [List.map_cons,List.map_nil])|refine aa hX hC hP (gN g hm (x:Int)) rfl rfl rfl (by simp only [go_sem,simprocAttr,hb,hv,hb2]) rfl ?_|refine aa hX hC hP (eO (gq l) (bp (·.1) g x) (by omega)) rfl rfl rfl (by simp only [go_sem,simprocAttr,hb,hv,hb2]) rfl ?_);try simp only [go_sem,simprocAttr,hb,hv,hb2])|((with_reducible refine oD ?_ ?_);kernel_rfl)|((with_reducible intro h);try simp only [go_sem,simprocAttr,hb,hv,hb2] at h)|omega|intro h)
   refine ⟨x+1,⟨by omega,hn2 he⟩, ?_,by omega⟩
   (refine Le.of ?_ ?_<;>simp [go_sem,simprocAttr,hb,hv,hb2])
  ·have hb2:decide (gq l=bp (·.1) g (x:Int))=false:=decide_eq_false he
   have hres:=tN he
   subst hres
   repeat' (first|refine Rn.p ?_|(with_reducible apply And.intro)|((first|(refine hK _ ?_;clear hK K)|with_reducible intro K hK|refine Rs.p ?_|((with_reducible first|apply oP|apply oQ);exact rfl)|(refine aj hX hC hP [(10000,52)] (cl l) rfl rfl rfl ?_ ?_ ?_ ?_ ?_ ?_ ?_ ?_ ?_ ?_ ?_ ?_ ?_ ?_;(focus (simp only [go_sem,simprocAttr,hb,hv,hb2];done));(iterate 12 (focus (simp [go_sem,simprocAttr,hb,hv,hb2];done)));try simp only [List.map_cons,List.map_nil])|(refine bt hX hC hP [(10000,52)] (bT l hl) rfl rfl rfl ?_ ?_ ?_ ?_ ?_ ?_ rfl rfl ?_ ?_;(focus (simp only [go_sem,simprocAttr,hb,hv,hb2];done));(iterate 6 (focus (simp [go_sem,simprocAttr,hb,hv,hb2];done)));try simp only [List.map_cons,List.map_nil])|refine aa hX hC hP (gN g hm (x:Int)) rfl rfl rfl (by simp only [go_sem,simprocAttr,hb,hv,hb2]) rfl ?_|refine aa hX hC hP (eO (gq l) (bp (·.1) g x) (by omega)) rfl rfl rfl (by simp only [go_sem,simprocAttr,hb,hv,hb2]) rfl ?_);try simp only [go_sem,simprocAttr,hb,hv,hb2])|((with_reducible refine oD ?_ ?_);kernel_rfl)|((with_reducible intro h);try simp only [go_sem,simprocAttr,hb,hv,hb2] at h)|omega|intro h)
 ·have hb:decide ((x:Int)<(p.outs.length:Int))=false:=decide_eq_false (by omega)
  obtain rfl:x=p.outs.length:=by omega
  have hres:res=true:=hr.2 ⟨h1.1,h1.2,fun i hi=>hg i (by omega),Gc⟩
  subst hres
  repeat' (first|refine Rn.p ?_|(with_reducible apply And.intro)|((first|(refine hK _ ?_;clear hK K)|with_reducible intro K hK|refine Rs.p ?_|((with_reducible first|apply oP|apply oQ);exact rfl)|(refine aj hX hC hP [(10000,52)] (cl l) rfl rfl rfl ?_ ?_ ?_ ?_ ?_ ?_ ?_ ?_ ?_ ?_ ?_ ?_ ?_ ?_;(focus (simp only [go_sem,simprocAttr,hb];done));(iterate 12 (focus (simp [go_sem,simprocAttr,hb];done)));try simp only [List.map_cons,List.map_nil])|(refine bt hX hC hP [(10000,52)] (bT l hl) rfl rfl rfl ?_ ?_ ?_ ?_ ?_ ?_ rfl rfl ?_ ?_;(focus (simp only [go_sem,simprocAttr,hb];done));(iterate 6 (focus (simp [go_sem,simprocAttr,hb];done)));try simp only [List.map_cons,List.map_nil])|refine aa hX hC hP (gN g hm (x:Int)) rfl rfl rfl (by simp only [go_sem,simprocAttr,hb]) rfl ?_|refine aa hX hC hP (eO (gq l) (bp (·.1) g x) (by omega)) rfl rfl rfl (by simp only [go_sem,simprocAttr,hb]) rfl ?_);try simp only [go_sem,simprocAttr,hb])|((with_reducible refine oD ?_ ?_);kernel_rfl)|((with_reducible intro h);try simp only [go_sem,simprocAttr,hb] at h)|omega|intro h)
end Go.Ab
end
section
namespace Go.Ab
open Go.Proofs
attribute [local congr] ACall.congr gd.congr Nx.congr
set_option maxRecDepth 10000
set_option maxHeartbeats 8000000
def Qt (m:Nat) (fl:List Int):List Int:=(List.range m).map fun i:Nat=>if (i:Int)∈fl then (1:Int) else 0
theorem Ex {g:Gr} {x i:Int} :i∈cg g x↔(0≤i∧i<g.es.length)∧(g.es.getD i.toNat (0,0)).1=x:=by
 constructor
 ·exact gO
 ·rintro ⟨⟨h1,h2⟩,h3⟩
  simp only [cg,aL,List.mem_map,List.mem_filter,List.mem_range,decide_eq_true_eq]
  exact ⟨i.toNat,⟨by omega,h3⟩,by simp;omega⟩
end Go.Ab
end
section
namespace Go.Ab
open Go.Proofs
attribute [local congr] ACall.congr gd.congr Nx.congr
set_option maxRecDepth 10000
set_option maxHeartbeats 8000000
def bQ (b:Bool) (g:Gr) (p:Pl):(List (List It) × List It) × Int × Int:=
 if b=false then (([], []),(1,0)) else
 match jy g p g.n.toNat with
 |some i=>(([], []),(3,(i:Int)))
 |none=>((fN g p g.n.toNat,(fK g p g.n.toNat).row),(0,0))
theorem Im {n:Nat} :List.replicate n [D.sl 3 []]=vT (List.replicate n []):=by simp [vT,sT]
theorem Io {ls:List (List It)} {k:Nat} {l:List It} :(vT ls).set k [sT l]=vT (ls.set k l):=by simp [vT,List.map_set]
theorem Ci {g:Gr} {p:Pl} {k:Nat} :fN g p (k+1)=(fN g p k).set (aD p k).toNat (cW g p k):=rfl
end Go.Ab
end
section
namespace Go.Ab
open Go.Proofs
attribute [local congr] ACall.congr gd.congr Nx.congr
set_option maxRecDepth 10000
set_option maxHeartbeats 8000000
theorem dQ (g:Gr) (hl:g.es.length≤1000) (p:Pl) (hp:nN p) (b:Bool) (hr:b=true↔(bX g).1=0∧bh g p):
 Spec Tryz.prog 37 (Args [eG g,ePl p]) [] (.tup [.d (.sl 1 (vT (bQ b g p).1.1)), .d (sT (bQ b g p).1.2),eF ((bQ b g p).2.1,(bQ b g p).2.2, [])]) []:=by
 by_cases hc:(bX g).1=0
 rotate_left
 ·obtain rfl:b=false:=by
   rw [← Bool.not_eq_true,hr]
   exact fun h=>hc h.1
  have hR:bQ false g p=(([], []),(1,0)):=rfl
  rw [hR]
  (refine Spec.hd (C:=T.cfg [] []) (rs:= [.t 4, .t 5, .c 6 66]) (T.ah _ _) Tryz.func37 rfl rfl Tryz.ntmps37 Tryz.results37 (by simp [AObj.isNest]) (by simp [AObj.isNest]) (by kernel_rfl) T.mixed fun X hX hP hC aP ck=> ?_)
  repeat' (first|refine Rn.p ?_|(with_reducible apply And.intro)|((first|(refine hK _ ?_;clear hK K)|with_reducible intro K hK|refine Rs.p ?_|((with_reducible first|apply oP|apply oQ);exact rfl)|refine aa hX hC hP (Cb g hl hc) rfl rfl rfl (by simp only [go_sem,simprocAttr,vT,List.map_nil]) rfl ?_);try simp only [go_sem,simprocAttr,vT,List.map_nil])|((with_reducible refine oD ?_ ?_);kernel_rfl)|((with_reducible intro h);try simp only [go_sem,simprocAttr,vT,List.map_nil] at h)|omega|intro h)
 have hm:=ai hc
 have hn:=aH hm
 have hr:b=true↔bh g p:=by rw [hr];exact ⟨fun h=>h.2,fun h=>⟨hc,h⟩⟩
 have hO:=Ew g hm p hp b hr
 cases b with
 |false=>
  have hR:bQ false g p=(([], []),(1,0)):=rfl
  rw [hR]
  (refine Spec.hd (C:=T.cfg [] []) (rs:= [.t 4, .t 5, .c 6 66]) (T.ah _ _) Tryz.func37 rfl rfl Tryz.ntmps37 Tryz.results37 (by simp [AObj.isNest]) (by simp [AObj.isNest]) (by kernel_rfl) T.mixed fun X hX hP hC aP ck=> ?_)
  repeat' (first|refine Rn.p ?_|(with_reducible apply And.intro)|((first|(refine hK _ ?_;clear hK K)|with_reducible intro K hK|refine Rs.p ?_|((with_reducible first|apply oP|apply oQ);exact rfl)|(refine gY hX hC hP [(10000,13)] (oI g hl hc hm) rfl rfl rfl ?_ ?_ ?_ ?_ ?_ ?_ ?_ ?_ ?_ ?_ ?_ ?_ ?_ ?_;(focus (simp only [go_sem,simprocAttr,vT,List.map_nil];done));(iterate 12 (focus (simp [go_sem,simprocAttr,vT,List.map_nil];done)));try simp only [List.map_cons,List.map_nil])|refine aa hX hC hP (gw g hm) rfl rfl rfl (by simp only [go_sem,simprocAttr,vT,List.map_nil]) rfl ?_|refine aa hX hC hP (hO) rfl rfl rfl (by simp only [go_sem,simprocAttr,vT,List.map_nil]) rfl ?_);try simp only [go_sem,simprocAttr,vT,List.map_nil])|((with_reducible refine oD ?_ ?_);kernel_rfl)|((with_reducible intro h);try simp only [go_sem,simprocAttr,vT,List.map_nil] at h)|omega|intro h)
 |true=>
 have wY:=hr.1 rfl
 have hle:=aI wY
 have hR:bQ true g p=match jy g p g.n.toNat with
  |some i=>(([], []),(3,(i:Int)))
  |none=>((fN g p g.n.toNat,(fK g p g.n.toNat).row),(0,0)):=rfl
 generalize bQ true g p=R at hR
 (refine Spec.hd (C:=T.cfg [] []) (rs:= [.t 4, .t 5, .c 6 66]) (T.ah _ _) Tryz.func37 rfl rfl Tryz.ntmps37 Tryz.results37 (by simp [AObj.isNest]) (by simp [AObj.isNest]) (by kernel_rfl) T.mixed fun X hX hP hC aP ck=> ?_)
 repeat' (first|(show cj _ (.seq (.region 5 _ _) _) _ _;(refine xL 13 0 3 rfl rfl rfl ?_;simp only [List.set_cons_zero,List.set_cons_succ,go_sem,simprocAttr]);(refine jd hX 13 2 100 (.tip 3 1 []) rfl rfl rfl (by simp only [go_sem,simprocAttr]) (by decide) (by simp [go_sem,simprocAttr]) ⟨3,1,by decide, .inr rfl⟩ ?_;simp only [List.set_cons_zero,List.set_cons_succ,go_sem,simprocAttr]))|refine Rn.p ?_|(with_reducible apply And.intro)|((first|(refine hK _ ?_;clear hK K)|with_reducible intro K hK|refine Rs.p ?_|((with_reducible first|apply oP|apply oQ);exact rfl)|(refine gY hX hC hP [(10000,13)] (oI g hl hc hm) rfl rfl rfl ?_ ?_ ?_ ?_ ?_ ?_ ?_ ?_ ?_ ?_ ?_ ?_ ?_ ?_;(focus (simp only [go_sem,simprocAttr];done));(iterate 12 (focus (simp [go_sem,simprocAttr];done)));try simp only [List.map_cons,List.map_nil])|refine aa hX hC hP (gw g hm) rfl rfl rfl (by simp only [go_sem,simprocAttr]) rfl ?_|refine aa hX hC hP (hO) rfl rfl rfl (by simp only [go_sem,simprocAttr]) rfl ?_);try simp only [go_sem,simprocAttr])|((with_reducible refine oD ?_ ?_);kernel_rfl)|((with_reducible intro h);try simp only [go_sem,simprocAttr] at h)|omega|intro h)
 rw [Im]
 refine an (fun k:Nat=>k≤g.n.toNat∧∀j,j<k→pY g p j=true) (fun k=>⟨[(3, .ptr 3 0),(4, .ref 28),(6, .ptr 6 0),(7, .ptr 13 0),(30, .d (sI p.ord)),(31,eN p.ord.length),(32,eN k)], [(28, .own 64 1 (vT (fN g p k))),(13, .box [.d (sT (fK g p k).row), .d (vw g), .ref 100]),(100, .tip 3 1 ((fK g p k).pl.map rI)),(6, .box [eN 0,eN 0, .nil 3]),(3, .box [.d (sI p.ord), .d (.sl 1 (vI p.outs))])]⟩) (fun k=>g.n.toNat - k) 0 (by simp) ?_ ?_
 ·refine Le.of ?_ ?_<;>simp [go_sem,simprocAttr,Qa,fK,fN]
 rintro k ⟨hk,hok⟩
 obtain ⟨hi,_,hrl⟩:=bP hm wY hk hok
 have hel:=nK (g:=g) (p:=p) (k:=k)
 have hmul:k*(g.es.length+1)≤64*129:=Nat.mul_le_mul (by omega) (by omega)
 rcases Nat.lt_or_ge k g.n.toNat with hlt|hge
 ·have hb:decide ((k:Int)<(p.ord.length:Int))=true:=decide_eq_true (by omega)
  have Kx:=bq wY hlt
  have dN:=Ci (g:=g) (p:=p) (k:=k)
  have I1:fK g p (k+1)=(aA g (fK g p k) (aD p k) (bY p (aD p k))).2:=rfl
  have Gc:cW g p k=(aA g (fK g p k) (aD p k) (bY p (aD p k))).1.1:=rfl
  have hpk:=Eu wY hlt
  have Ky:=Ev (g:=g) (p:=p) (k:=k)
  have hsk:pY g p k=false→R=(([], []),(3,(k:Int))):=fun h=>by
   rw [hR,sN.2 ⟨hlt,h,hok⟩]
  have je:=qv wY Kx.1 Kx.2
  have kC:p.ord.getD k 0=aD p k:=rfl
  have Kz:(fK g p k).pl.length≤64:=by
   rcases Kw hi.tofe with h|h
   ·omega
   ·rw [h];simp
  obtain ⟨x,hx⟩:∃x:Nat,aD p k=x:=⟨(aD p k).toNat,by omega⟩
  rw [hx] at kC I1 Gc hpk Ky Kx je dN
  have hxl:x<p.outs.length:=by have:=wY.1;omega
  have hv:=fc hxl
  have hla:bY p (x:Int)=p.outs.getD x []:=by unfold bY;rw [Int.toNat_natCast]
  rw [hla] at I1 Gc hpk Ky je
  rw [Int.toNat_natCast] at dN
  have Cj:=pL g hm (fK g p k) hi (x:Int) (p.outs.getD x []) (by omega) (by omega) (by omega)
  have de:=Io (ls:=fN g p k) (k:=x) (l:=cW g p k)
  generalize p.outs.getD x []=o at hv I1 Gc hpk Ky Cj
  rw [← dN] at de
  generalize fK g p k=f at I1 Gc hpk Ky Cj hi hrl Kz
  have Lu:x<(fN g p k).length:=by omega
  have hvl:(vT (fN g p k)).length=(fN g p k).length:=vT_length
  cases Gd:pY g p k with
  |false=>
   rw [Ky Gd] at Cj
   simp only at Cj
   have Qu:=hsk Gd
   subst Qu
   repeat' (first|refine Rn.p ?_|(with_reducible apply And.intro)|((first|(refine hK _ ?_;clear hK K)|with_reducible intro K hK|refine Rs.p ?_|((with_reducible first|apply oP|apply oQ);exact rfl)|(refine aj hX hC hP [(10000,13),(10001,100),(10002,101)] (Cj) rfl rfl rfl ?_ ?_ ?_ ?_ ?_ ?_ ?_ ?_ ?_ ?_ ?_ ?_ ?_ ?_;(focus (simp only [go_sem,simprocAttr,hb,kC,hv,iB,oe,List.map_nil];done));(iterate 12 (focus (simp [go_sem,simprocAttr,hb,kC,hv,iB,oe,List.map_nil];done)));try simp only [List.map_cons,List.map_nil]));try simp only [go_sem,simprocAttr,hb,kC,hv,iB,oe,List.map_nil])|((with_reducible refine oD ?_ ?_);kernel_rfl)|((with_reducible intro h);try simp only [go_sem,simprocAttr,hb,kC,hv,iB,oe,List.map_nil] at h)|omega|intro h)
   all_goals rfl
  |true=>
   rw [hpk Gd] at Cj
   have sY:(aA g f (x:Int) o).1.2=0:=rfl
   rw [Gc] at de
   generalize aA g f (x:Int) o=su at I1 Gc Cj sY de
   generalize R7:fN g p k=E at de Lu hel hvl
   have Ey:=fun d=>qu Lu d
   repeat' (first|(show cj _ (.region 11 _ _) _ _;(refine dh hX 13 2 101 100 rfl rfl rfl (by first|exact .inl rfl|exact .inr rfl) (by decide) (by decide) ?_;simp only [List.set_cons_zero,List.set_cons_succ,go_sem,simprocAttr,hb,kC,hv,iB,oe,sY,de,Ey,List.drop_succ_cons,List.drop_zero]))|refine Rn.p ?_|(with_reducible apply And.intro)|((first|(refine hK _ ?_;clear hK K)|with_reducible intro K hK|refine Rs.p ?_|((with_reducible first|apply oP|apply oQ);exact rfl)|(refine aj hX hC hP [(10000,13),(10001,100),(10002,101)] (Cj) rfl rfl rfl ?_ ?_ ?_ ?_ ?_ ?_ ?_ ?_ ?_ ?_ ?_ ?_ ?_ ?_;(focus (simp only [go_sem,simprocAttr,hb,kC,hv,iB,oe,sY,de,Ey,List.drop_succ_cons,List.drop_zero];done));(iterate 12 (focus (simp [go_sem,simprocAttr,hb,kC,hv,iB,oe,sY,de,Ey,List.drop_succ_cons,List.drop_zero];done)));try simp only [List.map_cons,List.map_nil]));try simp only [go_sem,simprocAttr,hb,kC,hv,iB,oe,sY,de,Ey,List.drop_succ_cons,List.drop_zero])|((with_reducible refine oD ?_ ?_);kernel_rfl)|((with_reducible intro h);try simp only [go_sem,simprocAttr,hb,kC,hv,iB,oe,sY,de,Ey,List.drop_succ_cons,List.drop_zero] at h)|omega|intro h)
   refine ⟨k+1,⟨by omega,fun j hj=> ?_⟩, ?_,by omega⟩
   ·by_cases e:j=k
    ·subst e;exact Gd
    ·exact hok j (by omega)
   ·rw [I1]
    have KA:(vT E).set x [D.sl 3 (List.map rT su.1.1)]=vT (fN g p (k+1)):=de
    refine Le.of ?_ ?_<;>simp [go_sem,simprocAttr,hb,kC,hv,iB,oe,sY,de,Ey,List.drop_succ_cons,List.drop_zero,KA]
 have hb:decide ((k:Int)<(p.ord.length:Int))=false:=decide_eq_false (by omega)
 obtain rfl:k=g.n.toNat:=by omega
 rw [fO.2 hok] at hR
 subst hR
 repeat' (first|refine Rn.p ?_|(with_reducible apply And.intro)|((first|(refine hK _ ?_;clear hK K)|with_reducible intro K hK|refine Rs.p ?_|((with_reducible first|apply oP|apply oQ);exact rfl)|(refine kO hX hC hP 60 (B9 [vw g,sI (fK g p g.n.toNat).pl] (fK g p g.n.toNat).row (by omega)) rfl rfl rfl ?_ ?_ (by first|exact ⟨_,_,_,rfl,sy⟩|exact ⟨_,_,_,rfl,sC⟩|exact ⟨_,_,_,rfl,sG⟩) rfl (by decide) ?_;(iterate 2 (focus (simp only [go_sem,simprocAttr,hb];done)));simp only [go_sem,simprocAttr,hb]));try simp only [go_sem,simprocAttr,hb])|((with_reducible refine oD ?_ ?_);kernel_rfl)|((with_reducible intro h);try simp only [go_sem,simprocAttr,hb] at h)|omega|intro h)
end Go.Ab
end
section
namespace Go.Ab
open Go.Proofs
attribute [local congr] ACall.congr gd.congr Nx.congr
set_option maxRecDepth 10000
set_option maxHeartbeats 8000000
def uJ (n:Int) (es:List Edge) (ord:List Int) (O:List (List Int)):List (Nat × AObj):= [(10000, .box [eN n, .ref 10001, .ref 10002, .ref 10003]),(10001, .tip 73 2 (es.map rE)),(10002, .tip 3 1 (ord.map rI)),(10003, .own 31 1 (vI O))]
def uK (n:Int) (es:List Edge) (ord:List Int) (O:List (List Int)):List (Nat × AObj):= [(10000, .box [eN n, .ref 10004, .ref 10002, .ref 10003]),(10004, .tip 73 2 (es.map rE)),(10002, .tip 3 1 (ord.map rI)),(10003, .own 31 1 (vI O))]
def eo (x:Int) (items:List It):List Edge:=(loose items).map fun v=>(v,x)
theorem Ez {x:Int} {a b:List It} :eo x (a++b)=eo x a++eo x b:=by simp [eo,bJ]
theorem Ip {ls:List (List Int)} {k:Nat} {l:List Int} :(vI ls).set k [sI l]=vI (ls.set k l):=by simp [vI,List.map_set]
theorem uL {items:List It} :(loose items).length≤items.length:=by
 unfold loose
 rw [List.length_map]
 exact List.length_filter_le _ _
theorem yd (n:Int) (es:List Edge) (ord:List Int) (O:List (List Int)) (x:Int) (items:List It) (hl:es.length+items.length≤100000) (hO:∀v∈loose items,0≤v∧v<O.length):
 Spec Tryz.prog 117 (Args [.ptr 10000 0,eN x, .d (sT items)]) (uJ n es ord O) (.tup []) (uK n (es++eo x items) ord (cG es.length (eo x items) O)):=by
 unfold uJ uK
 (refine Spec.rH (C:=T.cfg [] []) (rs:= []) [(10004,50)] (T.ah _ _) Tryz.func117 rfl rfl Tryz.ntmps117 Tryz.results117 (by simp [AObj.isNest]) (by simp [AObj.isNest]) (by first|(simp [look];done)|(simp [asN];done)|(intro l hl;simp only [asN];repeat (rw [if_neg (fun e=>by subst e;simp [look] at hl)]))) (by first|(simp [look];done)|(simp [asN];done)|(intro l hl;simp only [asN];repeat (rw [if_neg (fun e=>by subst e;simp [look] at hl)]))) (by kernel_rfl) T.mixed fun X hX hP hC aP ck=> ?_)
 repeat' (first|refine Rn.p ?_|(with_reducible apply And.intro)|((first|(refine hK _ ?_;clear hK K)|with_reducible intro K hK|refine Rs.p ?_|((with_reducible first|apply oP|apply oQ);exact rfl));try simp only [go_sem,simprocAttr])|((with_reducible refine oD ?_ ?_);kernel_rfl)|((with_reducible intro h);try simp only [go_sem,simprocAttr] at h)|omega|intro h)
 (refine dh hX 10000 1 10001 50 rfl rfl rfl (by first|exact .inl rfl|exact .inr rfl) (by decide) (by decide) ?_;simp only [List.set_cons_zero,List.set_cons_succ,go_sem,simprocAttr])
 refine an (fun k:Nat=>k≤items.length) (fun k=>⟨[(0, .ptr 10000 0),(1,eN x),(8, .d (sT items)),(9,eN items.length),(10,eN k)], [(10000, .box [eN n, .ref 50, .ref 10002, .ref 10003]),(50, .tip 73 2 ((es++eo x (items.take k)).map rE)),(10002, .tip 3 1 (ord.map rI)),(10003, .own 31 1 (vI (cG es.length (eo x (items.take k)) O)))]⟩) (fun k=>items.length - k) 0 (by simp) ?_ ?_
 ·refine Le.of ?_ ?_<;>simp [go_sem,simprocAttr,eo,loose,cG]
 rintro k hk
 rcases Nat.lt_or_ge k items.length with hlt|hge
 ·have hb:decide ((k:Int)<(items.length:Int))=true:=decide_eq_true (by omega)
  have y5:items.take (k+1)=items.take k++ [items.getD k (0,0,0)]:=uH hlt
  have Qv:=aS (d:=(0,0,0)) hlt
  have qL:eo x (items.take (k+1))=eo x (items.take k)++eo x [items.getD k (0,0,0)]:=by rw [y5,Ez]
  have On:(items.getD k (0,0,0)).1<0→0≤(items.getD k (0,0,0)).2.1∧(items.getD k (0,0,0)).2.1<O.length:=fun h=>hO _ (by
   unfold loose
   exact List.mem_map.2 ⟨_,List.mem_filter.2 ⟨Qv,decide_eq_true h⟩,rfl⟩)
  have je:(eo x (items.take k)).length≤k:=by
   unfold eo
   rw [List.length_map]
   refine Nat.le_trans uL ?_
   rw [List.length_take];omega
  have Fs:=nM (m:=es.length) (N:=eo x (items.take k)) (M:=eo x [items.getD k (0,0,0)]) (O:=O)
  have Lt:(cG es.length (eo x (items.take k)) O).length=O.length:=gh
  rw [← qL] at Fs
  generalize k9:items.getD k (0,0,0)=t at qL On Fs
  generalize cG es.length (eo x (items.take k)) O=O' at Fs Lt
  generalize eo x (items.take k)=N at qL je Fs
  by_cases h0:0≤t.1
  ·have hb1:decide (0≤t.1)=true:=decide_eq_true h0
   have he:eo x [t]= []:=by
    have:¬t.1<0:=by omega
    simp [eo,loose,this]
   rw [he] at qL Fs
   rw [List.append_nil] at qL
   repeat' (first|refine Rn.p ?_|(with_reducible apply And.intro)|((first|(refine hK _ ?_;clear hK K)|with_reducible intro K hK|refine Rs.p ?_|((with_reducible first|apply oP|apply oQ);exact rfl));try simp only [go_sem,simprocAttr,hb,hb1,k9])|((with_reducible refine oD ?_ ?_);kernel_rfl)|((with_reducible intro h);try simp only [go_sem,simprocAttr,hb,hb1,k9] at h)|omega|intro h)
   refine ⟨k+1,by omega, ?_,by omega⟩
   rw [Fs,qL]
   refine Le.of ?_ ?_<;>simp [go_sem,simprocAttr,hb,hb1,k9,cG]
  ·have hb1:decide (0≤t.1)=false:=decide_eq_false h0
   have he:eo x [t]= [(t.2.1,x)]:=by
    have:t.1<0:=by omega
    simp [eo,loose,this]
   rw [he] at qL Fs
   obtain ⟨Jk,BG⟩:=On (by omega)
   obtain ⟨vn,Ik⟩:∃vn:Nat,t.2.1=vn:=⟨t.2.1.toNat,by omega⟩
   have hvl:vn<O'.length:=by omega
   have Ey:=fun d=>fc hvl d
   have Nr:cG es.length (eo x (items.take (k+1))) O=O'.set vn [((es.length+N.length:Nat):Int)]:=by
    rw [Fs,Ik]
    show O'.set ((vn:Int).toNat) _=_
    rw [Int.toNat_natCast]
   rw [Ik] at qL
   have hrow:rI ((es.length:Int)+(N.length:Int))= [D.sc (.int .i64 ((es.length:Int)+(N.length:Int)))]:=rfl
   have de:=Ip (ls:=O') (k:=vn) (l:= [((es.length+N.length:Nat):Int)])
   repeat' (first|(show cj _ (.region 6 _ _) _ _;(refine dh hX 10000 1 43 50 rfl rfl rfl (by first|exact .inl rfl|exact .inr rfl) (by decide) (by decide) ?_;simp only [List.set_cons_zero,List.set_cons_succ,go_sem,simprocAttr,hb,hb1,k9,Ik,Ey,List.drop_succ_cons,List.drop_zero,List.length_append]))|refine Rn.p ?_|(with_reducible apply And.intro)|((first|(refine hK _ ?_;clear hK K)|with_reducible intro K hK|refine Rs.p ?_|((with_reducible first|apply oP|apply oQ);exact rfl));try simp only [go_sem,simprocAttr,hb,hb1,k9,Ik,Ey,List.drop_succ_cons,List.drop_zero,List.length_append])|((with_reducible refine oD ?_ ?_);kernel_rfl)|((with_reducible intro h);try simp only [go_sem,simprocAttr,hb,hb1,k9,Ik,Ey,List.drop_succ_cons,List.drop_zero,List.length_append] at h)|omega|intro h)
   refine ⟨k+1,by omega, ?_,by omega⟩
   rw [Nr,qL]
   refine Le.of ?_ ?_<;>simp [go_sem,simprocAttr,hb,hb1,k9,Ik,Ey,List.drop_succ_cons,List.drop_zero,List.length_append]
   refine ⟨rfl, ?_⟩
   simp only [Int.natCast_add] at de
   exact de
 ·have hb:decide ((k:Int)<(items.length:Int))=false:=decide_eq_false (by omega)
  obtain rfl:k=items.length:=by omega
  have ht:items.take items.length=items:=List.take_length
  repeat' (first|refine Rn.p ?_|(with_reducible apply And.intro)|((first|(refine hK _ ?_;clear hK K)|with_reducible intro K hK|refine Rs.p ?_|((with_reducible first|apply oP|apply oQ);exact rfl));try simp only [go_sem,simprocAttr,hb,ht])|((with_reducible refine oD ?_ ?_);kernel_rfl)|((with_reducible intro h);try simp only [go_sem,simprocAttr,hb,ht] at h)|omega|intro h)
end Go.Ab
end
section
namespace Go.Ab
open Go.Proofs
attribute [local congr] ACall.congr gd.congr Nx.congr
set_option maxRecDepth 10000
set_option maxHeartbeats 16000000
theorem wg (ps:List Edge) (hl:ps.length≤1000000):
 Spec Tryz.prog 97 (Args [.d (sE ps)]) [] (.ref 10000) [(10000, .tip 73 2 (ps.map rE))]:=by
 (refine Spec.rH (C:=T.cfg [] []) (rs:= [.t 2]) [(10000,7)] (T.ah _ _) Tryz.func97 rfl rfl Tryz.ntmps97 Tryz.results97 (by simp [AObj.isNest]) (by simp [AObj.isNest]) (by first|(simp [look];done)|(simp [asN];done)|(intro l hl;simp only [asN];repeat (rw [if_neg (fun e=>by subst e;simp [look] at hl)]))) (by first|(simp [look];done)|(simp [asN];done)|(intro l hl;simp only [asN];repeat (rw [if_neg (fun e=>by subst e;simp [look] at hl)]))) (by kernel_rfl) T.mixed fun X hX hP hC aP ck=> ?_)
 repeat' (first|(show cj _ .ret _ _;(try simp only [go_sem,simprocAttr]);refine c8 hX 2 7 (.tip 73 2 []) ?_ ?_ (by decide) ⟨73,2,by decide, .inr rfl⟩ ?_;(iterate 2 (focus (simp only [go_sem,simprocAttr];done)));simp only [go_sem,simprocAttr])|refine Rn.p ?_|(with_reducible apply And.intro)|((first|(refine hK _ ?_;clear hK K)|with_reducible intro K hK|refine Rs.p ?_|((with_reducible first|apply oP|apply oQ);exact rfl));try simp only [go_sem,simprocAttr])|((with_reducible refine oD ?_ ?_);kernel_rfl)|((with_reducible intro h);try simp only [go_sem,simprocAttr] at h)|omega|intro h)
 exact h.symm
def pz:Pl:=⟨[], []⟩
def j8 (b:Bool) (g:Gr) (p:Pl):Gr × Pl × Int:=
 if (bQ b g p).2.1≠0 then (gz,pz,1) else if 64<(ak g p).n∨128<(ak g p).es.length then (gz,pz,10) else (ak g p,bD g p,0)
theorem jA {b:Bool} {g:Gr} {p:Pl} (hr:b=true↔(bX g).1=0∧bh g p) (h:(bQ b g p).2.1=0):aU g p∧bQ b g p=((fN g p g.n.toNat,aV g p),(0,0)):=by
 cases b with
 |false=>simp [bQ] at h
 |true=>
  have hR:bQ true g p=match jy g p g.n.toNat with
   |some i=>(([], []),(3,(i:Int)))
   |none=>((fN g p g.n.toNat,(fK g p g.n.toNat).row),(0,0)):=rfl
  cases hs:jy g p g.n.toNat with
  |some i=>rw [hR,hs] at h;simp at h
  |none=>
   obtain ⟨h1,h2⟩:=hr.1 rfl
   exact ⟨⟨h1,h2,fO.1 hs⟩,by rw [hR,hs];rfl⟩
theorem Ck {g:Gr} {p:Pl} {k:Nat} :cq g p (k+1)=cq g p k++eo (aD p k) (cW g p k):=rfl
theorem A1 {g:Gr} {p:Pl} (hr:aU g p) {k:Nat} (hk:k≤g.n.toNat):(cq g p k).length≤g.n.toNat∧∀e∈cq g p k,0≤e.1∧e.1<g.n:=by
 obtain ⟨hc,h,hok⟩:=hr
 have hm:=ai hc
 obtain ⟨h1,h2⟩:=jz hm h hk fun j hj=>hok j (by omega)
 obtain ⟨hi,_⟩:=bP hm h hk fun j hj=>hok j (by omega)
 have hv:∀v∈(cq g p k).map (·.1),0≤v∧v<g.n:=fun v hv=>hi.pV v (h2 v (List.mem_append_left _ hv)).1
 refine ⟨?_,fun e he=>hv _ (List.mem_map.2 ⟨e,he,rfl⟩)⟩
 have:=dx (List.nodup_append.1 h1).1 (m:=cQ g.n.toNat) fun v FI=>cC.2 (by have:=hv v FI;omega)
 rw [kZ,List.length_map] at this
 exact this
theorem wh (g:Gr) (hl:g.es.length≤1000) (p:Pl) (hp:nN p) (hp1:p.ord.length≤1000) (hp2:p.outs.length≤1000) (Ns:∀l∈p.outs,l.length≤1000) (b:Bool) (hr:b=true↔(bX g).1=0∧bh g p):
 Spec Tryz.prog 75 (Args [eG g,ePl p]) [] (.tup [eG (j8 b g p).1,ePl (j8 b g p).2.1,eN (j8 b g p).2.2]) []:=by
 have hO:=dQ g hl p hp b hr
 by_cases h0:(bQ b g p).2.1=0
 rotate_left
 ·have EA:j8 b g p=(gz,pz,1):=if_pos h0
  rw [EA]
  have hb1:decide ((bQ b g p).2.1=0)=false:=decide_eq_false h0
  (refine Spec.hd (C:=T.cfg [] []) (rs:= [.c 4 24, .c 5 34, .t 6]) (T.ah _ _) Tryz.func75 rfl rfl Tryz.ntmps75 Tryz.results75 (by simp [AObj.isNest]) (by simp [AObj.isNest]) (by kernel_rfl) T.mixed fun X hX hP hC aP ck=> ?_)
  repeat' (first|refine Rn.p ?_|(with_reducible apply And.intro)|((first|(refine hK _ ?_;clear hK K)|with_reducible intro K hK|refine Rs.p ?_|((with_reducible first|apply oP|apply oQ);exact rfl)|refine aa hX hC hP (hO) rfl rfl rfl (by simp only [go_sem,simprocAttr,hb1,gz,pz,vI,List.map_nil]) rfl ?_);try simp only [go_sem,simprocAttr,hb1,gz,pz,vI,List.map_nil])|((with_reducible refine oD ?_ ?_);kernel_rfl)|((with_reducible intro h);try simp only [go_sem,simprocAttr,hb1,gz,pz,vI,List.map_nil] at h)|omega|intro h)
 obtain ⟨hrun,hR⟩:=jA hr h0
 rw [hR] at hO
 simp only at hO
 have EA:j8 b g p=if 64<(ak g p).n∨128<(ak g p).es.length then (gz,pz,10) else (ak g p,bD g p,0):=by
  unfold j8;rw [if_neg (by rw [h0];simp)]
 generalize j8 b g p=AR at EA
 have hm:=ai hrun.1
 have hn:=aH hm
 have wY:=hrun.2.1
 have hle:=aI wY
 have qg:=wY.1
 (refine Spec.hd (C:=T.cfg [55,98] []) (rs:= [.c 4 24, .c 5 34, .t 6]) (T.ah _ _) Tryz.func75 rfl rfl Tryz.ntmps75 Tryz.results75 (by simp [AObj.isNest]) (by simp [AObj.isNest]) (by kernel_rfl) T.mixed fun X hX hP hC aP ck=> ?_)
 repeat' (first|(show cj _ (.seq (.region 5 _ _) _) _ _;(refine dh hX 38 1 31 200 rfl rfl rfl (by first|exact .inl rfl|exact .inr rfl) (by decide) (by decide) ?_;simp only [List.set_cons_zero,List.set_cons_succ,go_sem,simprocAttr]);(refine jd hX 38 3 201 (.own 31 1 []) rfl rfl rfl (by simp only [go_sem,simprocAttr]) (by decide) (by simp [go_sem,simprocAttr]) ⟨31,1,by decide, .inl rfl⟩ ?_;simp only [List.set_cons_zero,List.set_cons_succ,go_sem,simprocAttr]))|refine Rn.p ?_|(with_reducible apply And.intro)|((first|(refine hK _ ?_;clear hK K)|with_reducible intro K hK|refine Rs.p ?_|((with_reducible first|apply oP|apply oQ);exact rfl)|refine aa hX hC hP (hO) rfl rfl rfl (by simp only [go_sem,simprocAttr]) rfl ?_|(refine gY hX hC hP [(10000,31)] (wg g.es (by omega)) rfl rfl rfl ?_ ?_ ?_ ?_ ?_ ?_ ?_ ?_ ?_ ?_ ?_ ?_ ?_ ?_;(focus (simp only [go_sem,simprocAttr];done));(iterate 12 (focus (simp [go_sem,simprocAttr];done)));try simp only [List.map_cons,List.map_nil])|(refine gY hX hC hP [(10000,35)] (vX p.ord (by omega)) rfl rfl rfl ?_ ?_ ?_ ?_ ?_ ?_ ?_ ?_ ?_ ?_ ?_ ?_ ?_ ?_;(focus (simp only [go_sem,simprocAttr];done));(iterate 12 (focus (simp [go_sem,simprocAttr];done)));try simp only [List.map_cons,List.map_nil]));try simp only [go_sem,simprocAttr])|((with_reducible refine oD ?_ ?_);kernel_rfl)|((with_reducible intro h);try simp only [go_sem,simprocAttr] at h)|omega|intro h)
 refine an (fun x:Nat=>x≤p.outs.length) (fun x=>⟨[(2, .ptr 2 0),(3, .ptr 3 0),(4, .ptr 4 0),(5, .ptr 5 0),(7, .d (.sl 1 (vT (fN g p g.n.toNat)))),(8, .d (sT (aV g p))),(10, .ptr 38 0),(40, .d (.sl 1 (vI p.outs))),(41,eN p.outs.length),(42,eN x)], [(2, .box [eN g.n, .d (sE g.es)]),(3, .box [.d (sI p.ord), .d (.sl 1 (vI p.outs))]),(4, .box [eN 0, .nil 73]),(5, .box [.nil 3, .nil 31]),(38, .box [eN g.n, .ref 200, .ref 35, .ref 201]),(200, .tip 73 2 (g.es.map rE)),(35, .tip 3 1 (p.ord.map rI)),(201, .own 31 1 (vI (p.outs.take x)))]⟩) (fun x=>p.outs.length - x) 0 (by simp) ?_ ?_
 ·refine Le.of ?_ ?_<;>simp [go_sem,simprocAttr,vI]
 rintro x hx
 rcases Nat.lt_or_ge x p.outs.length with hxl|Qr
 ·have hb:decide ((x:Int)<(p.outs.length:Int))=true:=decide_eq_true (by omega)
  have hv:=fc hxl
  have je:=Ns _ (aS (d:= []) hxl)
  have y5:vI (p.outs.take (x+1))=vI (p.outs.take x)++ [[sI (p.outs.getD x [])]]:=by
   unfold vI
   rw [sF (d:= []) hxl]
  have htl:(p.outs.take x).length=x:=by rw [List.length_take];omega
  have Nt:=iI (p.outs.getD x []) (by omega)
  generalize p.outs.getD x []=l at hv je y5 Nt
  repeat' (first|(show cj _ (.region 9 _ _) _ _;(refine dh hX 38 3 55 201 rfl rfl rfl (by first|exact .inl rfl|exact .inr rfl) (by decide) (by decide) ?_;simp only [List.set_cons_zero,List.set_cons_succ,go_sem,simprocAttr,hb,hv,htl]))|refine Rn.p ?_|(with_reducible apply And.intro)|((first|(refine hK _ ?_;clear hK K)|with_reducible intro K hK|refine Rs.p ?_|((with_reducible first|apply oP|apply oQ);exact rfl)|refine aa hX hC hP (Nt) rfl rfl rfl (by simp only [go_sem,simprocAttr,hb,hv,htl]) rfl ?_);try simp only [go_sem,simprocAttr,hb,hv,htl])|((with_reducible refine oD ?_ ?_);kernel_rfl)|((with_reducible intro h);try simp only [go_sem,simprocAttr,hb,hv,htl] at h)|omega|intro h)
  refine ⟨x+1,by omega, ?_,by omega⟩
  rw [y5]
  refine Le.of ?_ ?_<;>simp [go_sem,simprocAttr,hb,hv,htl]
 have hb:decide ((x:Int)<(p.outs.length:Int))=false:=decide_eq_false (by omega)
 obtain rfl:x=p.outs.length:=by omega
 repeat' (first|refine Rn.p ?_|(with_reducible apply And.intro)|((first|(refine hK _ ?_;clear hK K)|with_reducible intro K hK|refine Rs.p ?_|((with_reducible first|apply oP|apply oQ);exact rfl)|refine aa hX hC hP (Nt) rfl rfl rfl (by simp only [go_sem,simprocAttr,hb,List.take_length]) rfl ?_);try simp only [go_sem,simprocAttr,hb,List.take_length])|((with_reducible refine oD ?_ ?_);kernel_rfl)|((with_reducible intro h);try simp only [go_sem,simprocAttr,hb,List.take_length] at h)|omega|intro h)
 clear hb hx
 refine an (fun k:Nat=>k≤g.n.toNat) (fun k=>⟨[(2, .ptr 2 0),(4, .ptr 4 0),(5, .ptr 5 0),(7, .d (.sl 1 (vT (fN g p g.n.toNat)))),(8, .d (sT (aV g p))),(10, .ptr 38 0),(61, .d (sI p.ord)),(62,eN p.ord.length),(63,eN k)], [(2, .box [eN g.n, .d (sE g.es)]),(4, .box [eN 0, .nil 73]),(5, .box [.nil 3, .nil 31]),(38, .box [eN g.n, .ref 200, .ref 35, .ref 201]),(200, .tip 73 2 ((g.es++cq g p k).map rE)),(35, .tip 3 1 (p.ord.map rI)),(201, .own 31 1 (vI (cG g.es.length (cq g p k) p.outs)))]⟩) (fun k=>g.n.toNat - k) 0 (by simp) ?_ ?_
 ·refine Le.of ?_ ?_<;>simp [go_sem,simprocAttr,cq,cG]
 rintro k hk
 obtain ⟨hnl,Lv⟩:=A1 hrun hk
 have Lt:(cG g.es.length (cq g p k) p.outs).length=p.outs.length:=gh
 rcases Nat.lt_or_ge k g.n.toNat with cm|Hv
 ·have hb:decide ((k:Int)<(p.ord.length:Int))=true:=decide_eq_true (by omega)
  have Kx:=bq wY cm
  have IV:=we wY (k:=g.n.toNat) (Nat.le_refl _) cm
  have kC:p.ord.getD k 0=aD p k:=rfl
  have dN:=Ck (g:=g) (p:=p) (k:=k)
  obtain ⟨ye,Nu⟩:=A1 hrun (k:=k+1) (by omega)
  have yW:(cW g p k).length≤(fK g p k).row.length:=by unfold cW aA;simp;omega
  obtain ⟨_,_,hrl⟩:=bP hm wY (k:=k) (by omega) fun j hj=>hrun.2.2 j (by omega)
  have hmul:k*(g.es.length+1)≤64*129:=Nat.mul_le_mul (by omega) (by omega)
  have Fs:cG g.es.length (cq g p (k+1)) p.outs=cG (g.es++cq g p k).length (eo (aD p k) (cW g p k)) (cG g.es.length (cq g p k) p.outs):=by
   rw [dN,nM,List.length_append]
  have CT:=yd g.n (g.es++cq g p k) p.ord (cG g.es.length (cq g p k) p.outs) (aD p k) (cW g p k) (by rw [List.length_append];omega) (fun v hv=>by
   have:=Nu (v,aD p k) (by rw [dN];exact List.mem_append_right _ (List.mem_map.2 ⟨v,hv,rfl⟩))
   simp only at this
   omega)
  rw [← Fs] at CT
  have yZ:g.es++cq g p k++eo (aD p k) (cW g p k)=g.es++cq g p (k+1):=by rw [dN,List.append_assoc]
  rw [yZ] at CT
  obtain ⟨x,hx⟩:∃x:Nat,aD p k=x:=⟨(aD p k).toNat,by omega⟩
  rw [hx] at kC IV CT Kx
  rw [Int.toNat_natCast] at IV
  have hel:=nK (g:=g) (p:=p) (k:=g.n.toNat)
  have Lu:x<(fN g p g.n.toNat).length:=by omega
  have Iq:=qu Lu
  rw [IV] at Iq
  have hvl:(vT (fN g p g.n.toNat)).length=(fN g p g.n.toNat).length:=vT_length
  repeat' (first|(show cj _ (.region 14 _ _) _ _;(refine dh hX 38 1 202 200 rfl rfl rfl (by first|exact .inl rfl|exact .inr rfl) (by decide) (by decide) ?_;simp only [List.set_cons_zero,List.set_cons_succ,go_sem,simprocAttr,hb,kC,Iq,hvl,uJ,uK]))|refine Rn.p ?_|(with_reducible apply And.intro)|((first|(refine hK _ ?_;clear hK K)|with_reducible intro K hK|refine Rs.p ?_|((with_reducible first|apply oP|apply oQ);exact rfl)|(refine aj hX hC hP [(10000,38),(10001,200),(10002,35),(10003,201),(10004,202)] (CT) rfl rfl rfl ?_ ?_ ?_ ?_ ?_ ?_ ?_ ?_ ?_ ?_ ?_ ?_ ?_ ?_;(focus (simp only [go_sem,simprocAttr,hb,kC,Iq,hvl,uJ,uK];done));(iterate 12 (focus (simp [go_sem,simprocAttr,hb,kC,Iq,hvl,uJ,uK];done)));try simp only [List.map_cons,List.map_nil]));try simp only [go_sem,simprocAttr,hb,kC,Iq,hvl,uJ,uK])|((with_reducible refine oD ?_ ?_);kernel_rfl)|((with_reducible intro h);try simp only [go_sem,simprocAttr,hb,kC,Iq,hvl,uJ,uK] at h)|omega|intro h)
  refine ⟨k+1,by omega, ?_,by omega⟩
  refine Le.of ?_ ?_<;>simp [go_sem,simprocAttr,hb,kC,Iq,hvl,uJ,uK]
 have hb:decide ((k:Int)<(p.ord.length:Int))=false:=decide_eq_false (by omega)
 obtain rfl:k=g.n.toNat:=by omega
 by_cases h1:1<(aV g p).length
 ·have hb1:decide ((1:Int)<((aV g p).length:Int))=true:=decide_eq_true (by omega)
  obtain ⟨_,_,hrl⟩:=bP hm wY (k:=g.n.toNat) (Nat.le_refl _) hrun.2.2
  have hmul:g.n.toNat*(g.es.length+1)≤64*129:=Nat.mul_le_mul (by omega) (by omega)
  have hrl:(aV g p).length≤g.n.toNat*(g.es.length+1):=hrl
  obtain ⟨qN,A0⟩:=dU hrun
  have ye:newL g p=eo g.n (aV g p):=if_pos h1
  have CT:=yd (g.n+1) (g.es++cq g p g.n.toNat) (p.ord++ [g.n]) (cG g.es.length (cq g p g.n.toNat) p.outs++ [[]]) g.n (aV g p) (by rw [List.length_append];omega) (fun v hv=>by
   have:=(A0 (v,g.n) (by unfold aW;rw [ye];exact List.mem_append_right _ (List.mem_map.2 ⟨v,hv,rfl⟩))).1
   simp only at this
   rw [List.length_append,gh];omega)
  have hq:cG (g.es++cq g p g.n.toNat).length (eo g.n (aV g p)) (cG g.es.length (cq g p g.n.toNat) p.outs++ [[]])=(bD g p).outs:=by
   show _=cG g.es.length (aW g p) (if 1<(aV g p).length then p.outs++ [[]] else p.outs)
   have qL:=uI (m:=g.es.length) (N:=cq g p g.n.toNat) (O:=p.outs) (fun e he=>by
    have:=Lv e he
    omega)
   rw [if_pos h1,aW,ye,nM,List.length_append,qL]
  have he:g.es++cq g p g.n.toNat++eo g.n (aV g p)=(ak g p).es:=by
   show _=g.es++aW g p
   rw [aW,ye,List.append_assoc]
  have ho:p.ord++ [g.n]=(bD g p).ord:=(if_pos h1).symm
  have hg:g.n+1=(ak g p).n:=(if_pos h1).symm
  have hvs:vI (cG g.es.length (cq g p g.n.toNat) p.outs)++ [[D.sl 1 []]]=vI (cG g.es.length (cq g p g.n.toNat) p.outs++ [[]]):=by simp [vI,sI]
  have hos:p.ord.map rI++ [[D.sc (.int .i64 g.n)]]=(p.ord++ [g.n]).map rI:=by simp [rI]
  rw [hq,he] at CT
  have uq:(ak g p).es.length≤1000:=by
   rw [← he,List.length_append,List.length_append]
   have:(eo g.n (aV g p)).length≤g.n.toNat:=by
    have:=dx (List.nodup_append.1 (by rw [aW,List.map_append] at qN;exact qN)).2.1 (m:=cQ g.n.toNat) fun v FI=>cC.2 (by
     obtain ⟨e,he,rfl⟩:=List.mem_map.1 FI
     have:=(A0 e (List.mem_append_right _ he)).1
     omega)
    rw [kZ,List.length_map,ye] at this
    exact this
   omega
  have Ge:AR=if 64<(ak g p).n∨128<(ak g p).es.length then (gz,pz,10) else (ak g p,bD g p,0):=EA
  clear EA
  have N9:(bD g p).outs.length=(bD g p).outs.length:=rfl
  have N4:bD g p=⟨(bD g p).ord,(bD g p).outs⟩:=rfl
  generalize ak g p=G at he hg CT Ge uq
  rw [ho] at CT hos
  generalize bD g p=Q at hq ho CT Ge hos
  by_cases h2:64<G.n
  ·have hb2:decide (64<G.n)=true:=decide_eq_true h2
   rw [if_pos (.inl h2)] at Ge
   subst Ge
   repeat' (first|refine Rn.p ?_|(with_reducible apply And.intro)|((first|(refine hK _ ?_;clear hK K)|with_reducible intro K hK|refine Rs.p ?_|((with_reducible first|apply oP|apply oQ);exact rfl)|(refine aj hX hC hP [(10000,38),(10001,200),(10002,87),(10003,98),(10004,203)] (CT) rfl rfl rfl ?_ ?_ ?_ ?_ ?_ ?_ ?_ ?_ ?_ ?_ ?_ ?_ ?_ ?_;(focus (simp only [go_sem,simprocAttr,hb,hb1,hb2,uJ,uK,hvs,hos,hg,gz,pz,vI,List.map_nil];done));(iterate 12 (focus (simp [go_sem,simprocAttr,hb,hb1,hb2,uJ,uK,hvs,hos,hg,gz,pz,vI,List.map_nil];done)));try simp only [List.map_cons,List.map_nil]));try simp only [go_sem,simprocAttr,hb,hb1,hb2,uJ,uK,hvs,hos,hg,gz,pz,vI,List.map_nil])|((with_reducible refine oD ?_ ?_);kernel_rfl)|((with_reducible intro h);try simp only [go_sem,simprocAttr,hb,hb1,hb2,uJ,uK,hvs,hos,hg,gz,pz,vI,List.map_nil] at h)|omega|intro h)
  ·have hb2:decide (64<G.n)=false:=decide_eq_false h2
   by_cases h3:128<G.es.length
   ·have hb3:decide (128<(G.es.length:Int))=true:=decide_eq_true (by omega)
    rw [if_pos (.inr h3)] at Ge
    subst Ge
    repeat' (first|refine Rn.p ?_|(with_reducible apply And.intro)|((first|(refine hK _ ?_;clear hK K)|with_reducible intro K hK|refine Rs.p ?_|((with_reducible first|apply oP|apply oQ);exact rfl)|(refine aj hX hC hP [(10000,38),(10001,200),(10002,87),(10003,98),(10004,203)] (CT) rfl rfl rfl ?_ ?_ ?_ ?_ ?_ ?_ ?_ ?_ ?_ ?_ ?_ ?_ ?_ ?_;(focus (simp only [go_sem,simprocAttr,hb,hb1,hb2,hb3,uJ,uK,hvs,hos,hg,gz,pz];done));(iterate 12 (focus (simp [go_sem,simprocAttr,hb,hb1,hb2,hb3,uJ,uK,hvs,hos,hg,gz,pz];done)));try simp only [List.map_cons,List.map_nil]));try simp only [go_sem,simprocAttr,hb,hb1,hb2,hb3,uJ,uK,hvs,hos,hg,gz,pz])|((with_reducible refine oD ?_ ?_);kernel_rfl)|((with_reducible intro h);try simp only [go_sem,simprocAttr,hb,hb1,hb2,hb3,uJ,uK,hvs,hos,hg,gz,pz] at h)|omega|intro h)
    all_goals rfl
   ·have hb3:decide (128<(G.es.length:Int))=false:=decide_eq_false (by omega)
    rw [if_neg (by rintro (h|h);exact h2 h;exact h3 h)] at Ge
    subst Ge
    repeat' (first|refine Rn.p ?_|(with_reducible apply And.intro)|((first|(refine hK _ ?_;clear hK K)|with_reducible intro K hK|refine Rs.p ?_|((with_reducible first|apply oP|apply oQ);exact rfl)|(refine aj hX hC hP [(10000,38),(10001,200),(10002,87),(10003,98),(10004,203)] (CT) rfl rfl rfl ?_ ?_ ?_ ?_ ?_ ?_ ?_ ?_ ?_ ?_ ?_ ?_ ?_ ?_;(focus (simp only [go_sem,simprocAttr,hb,hb1,hb2,hb3,uJ,uK,hvs,hos,hg];done));(iterate 12 (focus (simp [go_sem,simprocAttr,hb,hb1,hb2,hb3,uJ,uK,hvs,hos,hg];done)));try simp only [List.map_cons,List.map_nil]));try simp only [go_sem,simprocAttr,hb,hb1,hb2,hb3,uJ,uK,hvs,hos,hg])|((with_reducible refine oD ?_ ?_);kernel_rfl)|((with_reducible intro h);try simp only [go_sem,simprocAttr,hb,hb1,hb2,hb3,uJ,uK,hvs,hos,hg] at h)|omega|intro h)
 ·have hb1:decide ((1:Int)<((aV g p).length:Int))=false:=decide_eq_false (by omega)
  have ye:newL g p= []:=if_neg h1
  have he:g.es++cq g p g.n.toNat=(ak g p).es:=by
   show _=g.es++aW g p
   rw [aW,ye,List.append_nil]
  have hq:cG g.es.length (cq g p g.n.toNat) p.outs=(bD g p).outs:=by
   show _=cG g.es.length (aW g p) (if 1<(aV g p).length then p.outs++ [[]] else p.outs)
   rw [if_neg h1,aW,ye,List.append_nil]
  have ho:p.ord=(bD g p).ord:=(if_neg h1).symm
  have hg:g.n=(ak g p).n:=(if_neg h1).symm
  have hml:(g.es++cq g p g.n.toNat).map rE=(ak g p).es.map rE:=by rw [he]
  have Nv:(ak g p).es.length=g.es.length+(cq g p g.n.toNat).length:=by rw [← he,List.length_append]
  have Lb:p.ord.map rI=(bD g p).ord.map rI:=by rw [← ho]
  generalize ak g p=G at he hg EA hml Nv
  generalize bD g p=Q at hq ho EA Lb
  by_cases h2:64<G.n
  ·omega
  ·have hb2:decide (64<G.n)=false:=decide_eq_false h2
   by_cases h3:128<G.es.length
   ·have hb3:decide (128<(G.es.length:Int))=true:=decide_eq_true (by omega)
    rw [if_pos (.inr h3)] at EA
    subst EA
    rw [he]
    repeat' (first|refine Rn.p ?_|(with_reducible apply And.intro)|((first|(refine hK _ ?_;clear hK K)|with_reducible intro K hK|refine Rs.p ?_|((with_reducible first|apply oP|apply oQ);exact rfl));try simp only [go_sem,simprocAttr,hb,hb1,hb2,hb3,hg,gz,pz])|((with_reducible refine oD ?_ ?_);kernel_rfl)|((with_reducible intro h);try simp only [go_sem,simprocAttr,hb,hb1,hb2,hb3,hg,gz,pz] at h)|omega|intro h)
    all_goals rfl
   ·have hb3:decide (128<(G.es.length:Int))=false:=decide_eq_false (by omega)
    rw [if_neg (by rintro (h|h);exact h2 h;exact h3 h)] at EA
    subst EA
    rw [he,hq]
    have KB:=Lb.symm
    have Fp:=hg.symm
    rw [Fp] at hb2
    repeat' (first|refine Rn.p ?_|(with_reducible apply And.intro)|((first|(refine hK _ ?_;clear hK K)|with_reducible intro K hK|refine Rs.p ?_|((with_reducible first|apply oP|apply oQ);exact rfl));try simp only [go_sem,simprocAttr,hb,hb1,hb2,hb3,Fp,KB])|((with_reducible refine oD ?_ ?_);kernel_rfl)|((with_reducible intro h);try simp only [go_sem,simprocAttr,hb,hb1,hb2,hb3,Fp,KB] at h)|omega|intro h)
end Go.Ab
end
section
namespace Go.Ab
open Go.Proofs
attribute [local congr] ACall.congr gd.congr Nx.congr
set_option maxRecDepth 10000
set_option maxHeartbeats 16000000
def Qw (p:Pl) (x:Gr) (k:Nat):List (List Int):=(List.range k).map fun v=>if 0<(p.outs.getD v []).length then p.outs.getD v [] else cg x (v:Int)
theorem sZ {g:Gr} {p:Pl} (hr:aU g p):∀t∈aV g p,t.1<0:=by
 obtain ⟨hc,h,hok⟩:=hr
 have hm:=ai hc
 have hn:=aH hm
 obtain ⟨hi,cT,_⟩:=bP hm h (k:=g.n.toNat) (Nat.le_refl _) hok
 intro t ht
 refine Decidable.byContradiction fun h0=> ?_
 rcases hi.it t ht with ⟨h1,_⟩|⟨h1,h2,_,h4⟩
 ·omega
 ·have M8:=(dg hm (k:=t.1.toNat) (by omega)).2
  rw [← h4] at M8
  refine hi.head t ht h1 (jx hi.tofe ?_ M8)
  rw [cT,List.length_take,aI h];omega
end Go.Ab
end
section
namespace Go.Ab
open Go.Proofs
attribute [local congr] ACall.congr gd.congr Nx.congr
set_option maxRecDepth 10000
set_option maxHeartbeats 8000000
def s4 (g:Gr) (p:Pl):Bool:=decide (200<g.es.length)||decide (100<p.ord.length)||decide (100<p.outs.length)||p.outs.any fun l=>decide (200<l.length)
theorem A2 {g:Gr} {p:Pl} (h:s4 g p=false):g.es.length≤200∧p.ord.length≤100∧p.outs.length≤100∧∀l∈p.outs,l.length≤200:=by
 simp only [s4,Bool.or_eq_false_iff,decide_eq_false_iff_not,List.any_eq_false,decide_eq_true_eq] at h
 obtain ⟨⟨⟨h1,h2⟩,h3⟩,h4⟩:=h
 exact ⟨by omega,by omega,by omega,fun l hl=>by have:=h4 l hl;omega⟩
theorem yf {g:Gr} {p:Pl} (h:s4 g p=false):nN p:=by
 obtain ⟨_,h1,h2,h3⟩:=A2 h
 exact ⟨by omega,by omega,fun l hl=>by have:=h3 l hl;omega⟩
structure EB (p:Pl):Prop where
 ord:p.ord.length≤9223372036854775807
 outs:p.outs.length≤9223372036854775807
 each:∀l∈p.outs,l.length≤9223372036854775807
theorem wj (g:Gr) (p:Pl) (hl:g.es.length≤9223372036854775807) (hp:EB p):Spec Tryz.prog 22 (Args [eG g,ePl p]) [] (eB (s4 g p)) []:=by
 have ho:=hp.ord
 have hu:=hp.outs
 (refine Spec.hd (C:=T.cfg [] []) (rs:= [.t 4]) (T.ah _ _) Tryz.func22 rfl rfl Tryz.ntmps22 Tryz.results22 (by simp [AObj.isNest]) (by simp [AObj.isNest]) (by kernel_rfl) T.mixed fun X hX hP hC aP ck=> ?_)
 generalize hB:s4 g p=B
 by_cases h1:200<g.es.length
 ·have hb1:decide (200<(g.es.length:Int))=true:=decide_eq_true (by omega)
  have:B=true:=by rw [← hB,s4,decide_eq_true h1];rfl
  subst this
  repeat' (first|refine Rn.p ?_|(with_reducible apply And.intro)|((first|(refine hK _ ?_;clear hK K)|with_reducible intro K hK|refine Rs.p ?_|((with_reducible first|apply oP|apply oQ);exact rfl));try simp only [go_sem,simprocAttr,hb1])|((with_reducible refine oD ?_ ?_);kernel_rfl)|((with_reducible intro h);try simp only [go_sem,simprocAttr,hb1] at h)|omega|intro h)
 have hb1:decide (200<(g.es.length:Int))=false:=decide_eq_false (by omega)
 by_cases h2:100<p.ord.length
 ·have hb2:decide (100<(p.ord.length:Int))=true:=decide_eq_true (by omega)
  have:B=true:=by rw [← hB,s4,decide_eq_true h2];simp
  subst this
  repeat' (first|refine Rn.p ?_|(with_reducible apply And.intro)|((first|(refine hK _ ?_;clear hK K)|with_reducible intro K hK|refine Rs.p ?_|((with_reducible first|apply oP|apply oQ);exact rfl));try simp only [go_sem,simprocAttr,hb1,hb2])|((with_reducible refine oD ?_ ?_);kernel_rfl)|((with_reducible intro h);try simp only [go_sem,simprocAttr,hb1,hb2] at h)|omega|intro h)
 have hb2:decide (100<(p.ord.length:Int))=false:=decide_eq_false (by omega)
 by_cases h3:100<p.outs.length
 ·have hb3:decide (100<(p.outs.length:Int))=true:=decide_eq_true (by omega)
  have:B=true:=by rw [← hB,s4,decide_eq_true h3];simp
  subst this
  repeat' (first|refine Rn.p ?_|(with_reducible apply And.intro)|((first|(refine hK _ ?_;clear hK K)|with_reducible intro K hK|refine Rs.p ?_|((with_reducible first|apply oP|apply oQ);exact rfl));try simp only [go_sem,simprocAttr,hb1,hb2,hb3])|((with_reducible refine oD ?_ ?_);kernel_rfl)|((with_reducible intro h);try simp only [go_sem,simprocAttr,hb1,hb2,hb3] at h)|omega|intro h)
 have hb3:decide (100<(p.outs.length:Int))=false:=decide_eq_false (by omega)
 have Oo:B=p.outs.any fun l=>decide (200<l.length):=by rw [← hB,s4,decide_eq_false h1,decide_eq_false h2,decide_eq_false h3];simp
 clear hB
 repeat' (first|refine Rn.p ?_|(with_reducible apply And.intro)|((first|(refine hK _ ?_;clear hK K)|with_reducible intro K hK|refine Rs.p ?_|((with_reducible first|apply oP|apply oQ);exact rfl));try simp only [go_sem,simprocAttr,hb1,hb2,hb3])|((with_reducible refine oD ?_ ?_);kernel_rfl)|((with_reducible intro h);try simp only [go_sem,simprocAttr,hb1,hb2,hb3] at h)|omega|intro h)
 refine an (fun k:Nat=>k≤p.outs.length∧∀j,j<k→(p.outs.getD j []).length≤200) (fun k=>⟨[(24, .d (.sl 1 (vI p.outs))),(25,eN p.outs.length),(26,eN k)], []⟩) (fun k=>p.outs.length - k) 0 (by simp) ?_ ?_
 ·(refine Le.of ?_ ?_<;>simp [go_sem,simprocAttr])
 rintro k ⟨hk,hg⟩
 rcases Nat.lt_or_ge k p.outs.length with cm|Hv
 ·have hb:decide ((k:Int)<(p.outs.length:Int))=true:=decide_eq_true (by omega)
  have hv:=fc cm
  have hm:=aS (d:= []) cm
  have je:=hp.each _ hm
  by_cases h4:200<(p.outs.getD k []).length
  ·have hb4:decide (200<((p.outs.getD k []).length:Int))=true:=decide_eq_true (by omega)
   have:B=true:=by rw [Oo,List.any_eq_true];exact ⟨_,hm,decide_eq_true h4⟩
   subst this
   repeat' (first|refine Rn.p ?_|(with_reducible apply And.intro)|((first|(refine hK _ ?_;clear hK K)|with_reducible intro K hK|refine Rs.p ?_|((with_reducible first|apply oP|apply oQ);exact rfl));try simp only [go_sem,simprocAttr,hb,hv,hb4])|((with_reducible refine oD ?_ ?_);kernel_rfl)|((with_reducible intro h);try simp only [go_sem,simprocAttr,hb,hv,hb4] at h)|omega|intro h)
  ·have hb4:decide (200<((p.outs.getD k []).length:Int))=false:=decide_eq_false (by omega)
   repeat' (first|refine Rn.p ?_|(with_reducible apply And.intro)|((first|(refine hK _ ?_;clear hK K)|with_reducible intro K hK|refine Rs.p ?_|((with_reducible first|apply oP|apply oQ);exact rfl));try simp only [go_sem,simprocAttr,hb,hv,hb4])|((with_reducible refine oD ?_ ?_);kernel_rfl)|((with_reducible intro h);try simp only [go_sem,simprocAttr,hb,hv,hb4] at h)|omega|intro h)
   refine ⟨k+1,⟨by omega,fun j hj=> ?_⟩, ?_,by omega⟩
   ·by_cases e:j=k
    ·subst e;omega
    ·exact hg j (by omega)
   ·(refine Le.of ?_ ?_<;>simp [go_sem,simprocAttr,hb,hv,hb4])
 ·have hb:decide ((k:Int)<(p.outs.length:Int))=false:=decide_eq_false (by omega)
  have:B=false:=by
   rw [Oo,List.any_eq_false]
   intro l hl
   obtain ⟨j,hj,rfl⟩:=List.mem_iff_getElem.1 hl
   have:=hg j (by omega)
   rw [List.getD_eq_getElem?_getD,List.getElem?_eq_getElem hj,Option.getD_some] at this
   simp;omega
  subst this
  repeat' (first|refine Rn.p ?_|(with_reducible apply And.intro)|((first|(refine hK _ ?_;clear hK K)|with_reducible intro K hK|refine Rs.p ?_|((with_reducible first|apply oP|apply oQ);exact rfl));try simp only [go_sem,simprocAttr,hb])|((with_reducible refine oD ?_ ?_);kernel_rfl)|((with_reducible intro h);try simp only [go_sem,simprocAttr,hb] at h)|omega|intro h)
def uM (g:Gr):Bool:=decide ((bX g).1=0)&&decide ((bM (·.1) g).length=1)
theorem mH (g:Gr) (hl:g.es.length≤1000):Spec Tryz.prog 60 (Args [eG g]) [] (eB (uM g)) []:=by
 by_cases hc:(bX g).1=0
 ·have hm:=ai hc
  have hb1:decide ((bX g).1=0)=true:=decide_eq_true hc
  have hI:uM g=decide (((bM (·.1) g).length:Int)=1):=by
   unfold uM;rw [hb1,Bool.true_and,decide_eq_decide];omega
  rw [hI]
  generalize qf:bM (·.1) g=bl
  have hS:=zJ g hm
  rw [qf] at hS
  (refine Spec.hd (C:=T.cfg [] []) (rs:= [.t 2]) (T.ah _ _) Tryz.func60 rfl rfl Tryz.ntmps60 Tryz.results60 (by simp [AObj.isNest]) (by simp [AObj.isNest]) (by kernel_rfl) T.mixed fun X hX hP hC aP ck=> ?_)
  repeat' (first|refine Rn.p ?_|(with_reducible apply And.intro)|((first|(refine hK _ ?_;clear hK K)|with_reducible intro K hK|refine Rs.p ?_|((with_reducible first|apply oP|apply oQ);exact rfl)|refine aa hX hC hP (jX g hl) rfl rfl rfl (by simp only [go_sem,simprocAttr,hb1]) rfl ?_|refine aa hX hC hP (gw g hm) rfl rfl rfl (by simp only [go_sem,simprocAttr,hb1]) rfl ?_|refine aa hX hC hP (hS) rfl rfl rfl (by simp only [go_sem,simprocAttr,hb1]) rfl ?_);try simp only [go_sem,simprocAttr,hb1])|((with_reducible refine oD ?_ ?_);kernel_rfl)|((with_reducible intro h);try simp only [go_sem,simprocAttr,hb1] at h)|omega|intro h)
 ·have hb1:decide ((bX g).1=0)=false:=decide_eq_false hc
  have hI:uM g=false:=by unfold uM;rw [hb1];rfl
  rw [hI]
  (refine Spec.hd (C:=T.cfg [] []) (rs:= [.t 2]) (T.ah _ _) Tryz.func60 rfl rfl Tryz.ntmps60 Tryz.results60 (by simp [AObj.isNest]) (by simp [AObj.isNest]) (by kernel_rfl) T.mixed fun X hX hP hC aP ck=> ?_)
  repeat' (first|refine Rn.p ?_|(with_reducible apply And.intro)|((first|(refine hK _ ?_;clear hK K)|with_reducible intro K hK|refine Rs.p ?_|((with_reducible first|apply oP|apply oQ);exact rfl)|refine aa hX hC hP (jX g hl) rfl rfl rfl (by simp only [go_sem,simprocAttr,hb1]) rfl ?_);try simp only [go_sem,simprocAttr,hb1])|((with_reducible refine oD ?_ ?_);kernel_rfl)|((with_reducible intro h);try simp only [go_sem,simprocAttr,hb1] at h)|omega|intro h)
end Go.Ab
end
section
namespace Go.Ab
open Go.Proofs
attribute [local congr] ACall.congr gd.congr Nx.congr
set_option maxRecDepth 10000
set_option maxHeartbeats 8000000
def R8:Gr:=⟨3, [(0,1),(0,2)]⟩
def R9:Pl:=⟨[0,1,2], [[0,1], [], []]⟩
def Sa:Gr:=⟨4, [(0,1),(0,2),(1,3),(2,3)]⟩
def Sb:Pl:=⟨[0,1,2,3], [[0,1], [2], [3], []]⟩
end Go.Ab
end
section
namespace Go.Ab
open Go.Proofs
attribute [local congr] ACall.congr gd.congr Nx.congr
set_option maxRecDepth 10000
def Sc (l:List Int) (k:Nat):Bool:=(List.range k).all fun i=>decide (l.getD i 0=(i:Int))
def Gf (g:Gr) (names order:List Int) (k:Nat):List Edge:=(List.range k).map fun i=>(names.getD (g.es.getD (order.getD i 0).toNat (0,0)).1.toNat 0,names.getD (g.es.getD (order.getD i 0).toNat (0,0)).2.toNat 0)
def gj (g:Gr) (names order:List Int):Gr:=⟨g.n,Gf g names order order.length⟩
theorem yg {g:Gr} {names order:List Int} {k:Nat} :(Gf g names order k).length=k:=by simp [Gf]
def KC (g:Gr) (names order:List Int):Bool:=aK g&&kY names g.n&&kY order g.es.length
def Qx (g:Gr) (names order:List Int):Gr:=if KC g names order then gj g names order else ⟨0, []⟩
end Go.Ab
end
section
namespace Go.Ab
def Ed (g:Gr) (a b:Int):Prop:=∃i,i<g.es.length∧tl g i=a∧hd g i=b
def Lw (g:Gr) (l:List Int):Prop:=∀i,i<l.length→Ed g (l.getD i 0) (l.getD ((i+1) % l.length) 0)
def EC (g:Gr) (way:List Int) (at_:Int):Prop:=∀p,p<way.length→Ed g ((way++ [at_]).getD (p+1) 0) (way.getD p 0)
theorem oR {l:List Int} {a:Int} :(l++ [a]).getD l.length 0=a:=by
 rw [List.getD_eq_getElem?_getD,List.getElem?_append_right (Nat.le_refl _)];simp
theorem s5 {g:Gr} (hm:aK g=true):∀(f:Nat) (way:List Int) (a:Nat),a<g.n.toNat→(a:Int)∉aR g→EC g way a→left g way≤f→
 EC g (mA g (cy g (aR g)) f way a).1 (mA g (cy g (aR g)) f way a).2∧0≤(mA g (cy g (aR g)) f way a).2∧(mA g (cy g (aR g)) f way a).2∈(mA g (cy g (aR g)) f way a).1
 |f,way,a,ha,hn,hc,hl=>by
  by_cases hmem:(a:Int)∈way
  ·rw [nw (.inr hmem)]
   exact ⟨hc,by simp only;omega,hmem⟩
  ·have hla:=nv ha hmem
   cases f with
   |zero=>omega
   |succ f=>
    obtain ⟨⟨i,hi,Ir,htl,Lv⟩,_⟩:=zK hm (Kr hm ha hn)
    have htr:=aZ hm hi
    rw [htl] at htr
    obtain ⟨b,pU⟩:∃b:Nat,kT g (cy g (aR g)) a=b:=⟨(kT g (cy g (aR g)) a).toNat,by omega⟩
    rw [pU] at Lv htr htl
    have e1:mA g (cy g (aR g)) (f+1) way a=mA g (cy g (aR g)) f (way++ [(a:Int)]) b:=by
     simp only [mA];rw [if_neg (by intro h;rcases h with h|h;omega;exact hmem h),pU]
    rw [e1]
    refine s5 hm f (way++ [(a:Int)]) b (by omega) Lv ?_ (by omega)
    intro p hp
    rw [List.length_append,List.length_singleton] at hp
    by_cases cT:p<way.length
    ·have:=hc p cT
     rw [nG (by simp;omega),nG cT]
     exact this
    ·have:p=way.length:=by omega
     subst this
     have e2:=oR (l:=way++ [(a:Int)]) (a:=(b:Int))
     rw [List.length_append,List.length_singleton] at e2
     rw [e2,oR]
     exact ⟨i,hi,htl,Ir⟩
theorem getD_drop {l:List Int} {k p:Nat} :(l.drop k).getD p 0=l.getD (k+p) 0:=by
 rw [List.getD_eq_getElem?_getD,List.getElem?_drop, ← List.getD_eq_getElem?_getD]
theorem Lw.Nw {g:Gr} {l:List Int} (h:∀p,p<l.length→Ed g (l.getD ((p+1) % l.length) 0) (l.getD p 0)) (h0:0<l.length):Lw g (nu l.reverse):=by
 have Qy:0<l.reverse.length:=by simpa using h0
 obtain ⟨k,Ai,hk2,_⟩:=ic (xZ Qy)
 rw [List.length_reverse] at hk2
 have e1:nu l.reverse=l.reverse.drop k++l.reverse.take k:=by simp only [nu,Ai,Int.toNat_natCast]
 have hlen:(nu l.reverse).length=l.length:=by rw [e1];simp;omega
 have hg:∀i,i<l.length→(nu l.reverse).getD i 0=l.getD (l.length - 1 - (i+k) % l.length) 0:=by
  intro i hi
  rw [e1,List.getD_eq_getElem?_getD]
  by_cases hik:i<l.length - k
  ·rw [List.getElem?_append_left (by simp;omega),List.getElem?_drop,List.getElem?_reverse (by omega),Nat.mod_eq_of_lt (by omega), ← List.getD_eq_getElem?_getD]
   congr 1;omega
  ·rw [List.getElem?_append_right (by simp;omega),List.length_drop,List.length_reverse,List.getElem?_take,if_pos (by omega),List.getElem?_reverse (by omega), ← List.getD_eq_getElem?_getD]
   have:(i+k) % l.length=i+k - l.length:=by rw [Nat.mod_eq_sub_mod (by omega),Nat.mod_eq_of_lt (by omega)]
   rw [this];congr 1;omega
 intro i hi
 rw [hlen] at hi ⊢
 rw [hg i hi,hg _ (Nat.mod_lt _ h0)]
 have hmm:((i+1) % l.length+k) % l.length=((i+k) % l.length+1) % l.length:=by
  rw [Nat.mod_add_mod,Nat.mod_add_mod];congr 1;omega
 rw [hmm]
 have hj:=Nat.mod_lt (i+k) h0
 generalize (i+k) % l.length=j at hj ⊢
 by_cases ED:j+1<l.length
 ·rw [Nat.mod_eq_of_lt ED]
  have:=h (l.length - 1 - (j+1)) (by omega)
  rw [Nat.mod_eq_of_lt (by omega),show l.length - 1 - (j+1)+1=l.length - 1 - j from by omega] at this
  exact this
 ·have:j+1=l.length:=by omega
  rw [this,Nat.mod_self]
  have:=h (l.length - 1) (by omega)
  rw [show l.length - 1+1=l.length from by omega,Nat.mod_self] at this
  rw [show l.length - 1 - j=0 from by omega]
  exact this
def Ny (g:Gr):Prop:=∃r:Int→Nat,∀i,i<g.es.length→r (tl g i)<r (hd g i)
theorem qw {g:Gr} (hm:aK g=true):AO g=true↔Ny g:=by
 constructor
 ·intro h
  refine ⟨fun v=>((y4 g.n.toNat (aR g) (aR g).length).getD v.toNat 0).toNat,fun i hi=> ?_⟩
  have h1:=El (B6 hm h) hi
  have h2:=sr (n:=g.n.toNat) (l:=aR g) (k:=(aR g).length) (y:=(tl g i).toNat)
  simp only;omega
 ·rintro ⟨r,hr⟩
  cases h:AO g with
  |true=>rfl
  |false=>
   exfalso
   obtain ⟨y,hy,hn⟩:=AS hm h
   have key:∀(p:Nat) (y:Nat),y<g.n.toNat→(y:Int)∉aR g→r y=p→False:=by
    intro p
    induction p using Nat.strongRecOn with
    |_ p ih=>
     intro y hy hn hp
     obtain ⟨t,i,hi,h1,rfl,h2⟩:=Kr hm hy hn
     have htr:=aZ hm hi
     have hlt:=hr i hi
     rw [h1,hp] at hlt
     have e:((tl g i).toNat:Int)=tl g i:=by omega
     exact ih (r (tl g i)) hlt (tl g i).toNat (by omega) (by rw [e];exact h2) (by rw [e])
   exact key _ y hy hn rfl
theorem wk {g:Gr} (hm:aK g=true) (h:AO g=true):kU g= []:=by
 have hall:=(cn.1 (AQ hm h)).2
 have hn:=aH hm
 rcases start_eq hm with ⟨h1,h2⟩|⟨a,ha,h1,h2,h3⟩
 ·have:lR g=([], -1):=by
   unfold lR;rw [h1];exact nw (.inl (by omega)) _
  simp only [kU,this]
  rw [if_pos (by omega)]
 ·exact absurd (hall a (cC.2 (by omega))) h3
theorem EE {g:Gr} (hm:aK g=true) (h:AO g=false):0<(kU g).length∧Lw g (kU g):=by
 obtain ⟨y,hy,Qz⟩:=AS hm h
 have hn:=aH hm
 rcases start_eq hm with ⟨h1,h2⟩|⟨a,ha,h1,h2,h3⟩
 ·exfalso
  rcases ia (f:=fun n:Int=>decide (0<n)) (l:=cy g (aR g)) 0 with ⟨_,h4⟩|⟨k,h4,_⟩
  ·have h5:=(oz hm hy).2 Qz
   have h6:=h4 ((cy g (aR g)).getD y 0) (by rw [List.getD_eq_getElem?_getD,jU hy];exact List.mem_of_getElem? (jU hy))
   rw [kR hy] at h6
   exact absurd h5 (of_decide_eq_false h6)
  ·omega
 ·obtain ⟨h4,h5,h6⟩:=s5 hm g.n.toNat [] a ha h3 (fun p hp=>by simp at hp) F9
  have hw:lR g=mA g (cy g (aR g)) g.n.toNat [] a:=by unfold lR;rw [h1]
  rw [← hw] at h4 h5 h6
  obtain ⟨k,Ai,hk2,M3⟩:=ic h6
  have hc:kU g=nu ((lR g).1.drop k).reverse:=by
   simp only [kU]
   rw [if_neg (by omega),Ai,Int.toNat_natCast]
  have hlen:((lR g).1.drop k).length=(lR g).1.length - k:=by simp
  have h0:0<((lR g).1.drop k).length:=by omega
  refine ⟨?_, ?_⟩
  ·rw [hc]
   simp only [nu,List.length_append,List.length_drop,List.length_take,List.length_reverse]
   omega
  ·rw [hc]
   refine Lw.Nw (fun p hp=> ?_) h0
   rw [hlen] at hp ⊢
   have h7:=h4 (k+p) (by omega)
   rw [getD_drop (p:=p)]
   by_cases ED:p+1<(lR g).1.length - k
   ·rw [Nat.mod_eq_of_lt ED,getD_drop]
    rw [nG (by omega)] at h7
    exact h7
   ·have:p+1=(lR g).1.length - k:=by omega
    rw [this,Nat.mod_self,getD_drop,Nat.add_zero,M3]
    rw [show k+p+1=(lR g).1.length from by omega,oR] at h7
    exact h7
end Go.Ab
end
