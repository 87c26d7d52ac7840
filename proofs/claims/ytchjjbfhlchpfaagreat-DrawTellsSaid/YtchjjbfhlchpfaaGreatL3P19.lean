/- A part of the proof. -/
import Derived.Test.YtchjjbfhlchpfaaGreatL3P18
set_option linter.unusedSimpArgs false
set_option linter.unusedVariables false
section
namespace Go.Ab
open Go.Proofs
attribute [local congr] ACall.congr gd.congr Nx.congr
set_option maxRecDepth 10000
set_option maxHeartbeats 8000000
def swapT (l:List It) (k:Nat):List It:=(List.range l.length).map fun p=>if p<k∨l.length - 1<p+k then l.getD (l.length - 1 - p) (0,0,0) else l.getD p (0,0,0)
theorem dB {l:List It} {k:Nat} :(swapT l k).length=l.length:=by simp [swapT]
theorem k7 {l:List It} {k p:Nat} (h:p<l.length):(swapT l k)[p]? =some (if p<k∨l.length - 1<p+k then l.getD (l.length - 1 - p) (0,0,0) else l.getD p (0,0,0)):=by
 simp [swapT,List.getElem?_range h]
theorem v8 {l:List It} {k p:Nat} (h:p<l.length) (d:It):(swapT l k).getD p d=if p<k∨l.length - 1<p+k then l.getD (l.length - 1 - p) (0,0,0) else l.getD p (0,0,0):=by
 rw [List.getD_eq_getElem?_getD,k7 h];rfl
theorem Cx {l:List It} :swapT l 0=l:=by
 refine List.ext_getElem? fun i=> ?_
 by_cases hi:i<l.length
 ·rw [k7 hi,if_neg (by omega),List.getD_eq_getElem?_getD,List.getElem?_eq_getElem hi];rfl
 ·rw [List.getElem?_eq_none (by rw [dB];omega),List.getElem?_eq_none (by omega)]
theorem E6 {l:List It} {k:Nat} (h:l.length≤2*k+1):swapT l k=l.reverse:=by
 refine List.ext_getElem? fun i=> ?_
 by_cases hi:i<l.length
 ·rw [k7 hi,List.getElem?_reverse hi]
  split
  ·rw [List.getD_eq_getElem?_getD,List.getElem?_eq_getElem (by omega)];rfl
  ·have:i=l.length - 1 - i:=by omega
   rw [← this,List.getD_eq_getElem?_getD,List.getElem?_eq_getElem hi];rfl
 ·rw [List.getElem?_eq_none (by rw [dB];omega),List.getElem?_eq_none (by rw [List.length_reverse];omega)]
theorem Cy {l:List It} {k:Nat} (h:k<l.length - 1 - k):((swapT l k).set k ((swapT l k).getD (l.length - 1 - k) (0,0,0))).set (l.length - 1 - k) ((swapT l k).getD k (0,0,0))=swapT l (k+1):=by
 refine List.ext_getElem? fun i=> ?_
 rw [List.getElem?_set,List.length_set,dB,List.getElem?_set,dB]
 by_cases hi:i<l.length
 ·rw [k7 hi,k7 hi,v8 (by omega),v8 (by omega)]
  by_cases h1:l.length - 1 - k=i
  ·rw [if_pos h1,if_pos (by omega),if_neg (by omega),if_pos (by omega)]
   congr 2;omega
  ·rw [if_neg h1]
   by_cases h2:k=i
   ·rw [if_pos h2,if_pos (by omega),if_neg (by omega),if_pos (by omega)]
    congr 2;omega
   ·rw [if_neg h2]
    congr 1
    by_cases h3:i<k∨l.length - 1<i+k
    ·rw [if_pos h3,if_pos (by omega)]
    ·rw [if_neg h3,if_neg (by omega)]
 ·rw [List.getElem?_eq_none (by rw [dB];omega),List.getElem?_eq_none (by rw [dB];omega),if_neg (by omega),if_neg (by omega)]
theorem HT (l:List It) (k:Nat) (t:It):(l.map rT).set k [.sc (.int .i64 t.1), .sc (.int .i64 t.2.1), .sc (.int .i64 t.2.2)]=(l.set k t).map rT:=by
 rw [List.map_set];rfl
theorem w5 (l:List It) (hl:l.length≤1000000):Spec Tryz.prog 63 (Args [.ref 10000]) [(10000, .own 100 3 (l.map rT))] (.tup []) [(10000, .own 100 3 (l.reverse.map rT))]:=by
 (refine Spec.hd (C:=T.cfg [] []) (rs:= []) (T.ai _ _) Tryz.func63 rfl rfl Tryz.ntmps63 Tryz.results63 (by simp [AObj.isNest]) (by simp [AObj.isNest]) (by kernel_rfl) T.mixed fun X hX hP hC aH bU=> ?_)
 repeat' (first|refine Rn.p ?_|(with_reducible apply And.intro)|((first|(refine hK _ ?_;clear hK K)|with_reducible intro K hK|refine Rs.p ?_|((with_reducible first|apply oP|apply oQ);exact rfl));try simp only [go_sem,simprocAttr])|((with_reducible refine oD ?_ ?_);kernel_rfl)|((with_reducible intro h);try simp only [go_sem,simprocAttr] at h)|omega|intro h)
 refine ag (fun k:Nat=>2*k≤l.length+1) (fun k=>⟨[(0, .ref 10000),(2,eN k),(3,eN ((l.length:Int) - 1 - k))], [(10000, .own 100 3 ((swapT l k).map rT))]⟩) (fun k=>l.length+1 - k) 0 (by omega) ?_ ?_
 ·refine Le.of ?_ ?_<;>simp [go_sem,simprocAttr,Cx]
 rintro k hk
 rcases Nat.lt_or_ge (2*k+1) l.length with hlt|hge
 ·have hb:decide ((k:Int)<(l.length:Int) - 1 - (k:Int))=true:=decide_eq_true (by omega)
  have ht:((l.length:Int) - 1 - (k:Int)).toNat=l.length - 1 - k:=by omega
  repeat' (first|refine Rn.p ?_|(with_reducible apply And.intro)|((first|(refine hK _ ?_;clear hK K)|with_reducible intro K hK|refine Rs.p ?_|((with_reducible first|apply oP|apply oQ);exact rfl));try simp only [go_sem,simprocAttr,hb,ht,dB,HT,List.length_cons,List.length_nil,List.drop_succ_cons,List.drop_zero,List.drop_nil])|((with_reducible refine oD ?_ ?_);kernel_rfl)|((with_reducible intro h);try simp only [go_sem,simprocAttr,hb,ht,dB,HT,List.length_cons,List.length_nil,List.drop_succ_cons,List.drop_zero,List.drop_nil] at h)|omega|intro h)
  refine ⟨k+1,by omega, ?_,by omega⟩
  refine Le.of ?_ ?_<;>simp [go_sem,simprocAttr]
  ·omega
  ·rw [← Cy (by omega),List.map_set,List.map_set]
   simp only [List.getD_eq_getElem?_getD]
   rfl
 ·have hb:decide ((k:Int)<(l.length:Int) - 1 - (k:Int))=false:=decide_eq_false (by omega)
  repeat' (first|refine Rn.p ?_|(with_reducible apply And.intro)|((first|(refine hK _ ?_;clear hK K)|with_reducible intro K hK|refine Rs.p ?_|((with_reducible first|apply oP|apply oQ);exact rfl));try simp only [go_sem,simprocAttr,hb])|((with_reducible refine oD ?_ ?_);kernel_rfl)|((with_reducible intro h);try simp only [go_sem,simprocAttr,hb] at h)|omega|intro h)
  simp only [go_sem,simprocAttr,hb,E6 hge]
theorem Be (ps:List It) (hl:ps.length≤1000000):
 Spec Tryz.prog 127 (Args [.d (sT ps)]) [] (.ref 10000) [(10000, .own 100 3 (ps.map rT))]:=by
 (refine Spec.tg (C:=T.cfg [5,7] []) (rs:= [.t 2]) [(10000,7)] (T.ai _ _) Tryz.func127 rfl rfl Tryz.ntmps127 Tryz.results127 (by simp [AObj.isNest]) (by simp [AObj.isNest]) (by first|(simp [look];done)|(simp [asN];done)|(intro l hl;simp only [asN];repeat (rw [if_neg (fun e=>by subst e;simp [look] at hl)]))) (by first|(simp [look];done)|(simp [asN];done)|(intro l hl;simp only [asN];repeat (rw [if_neg (fun e=>by subst e;simp [look] at hl)]))) (by kernel_rfl) T.mixed fun X hX hP hC aH bU=> ?_)
 repeat' (first|(show bM _ .ret _ _;(try simp only [go_sem,simprocAttr]);refine dW hX 2 7 (.own 100 3 []) ?_ ?_ (by decide) ⟨100,3,by decide, .inl rfl⟩ ?_;(iterate 2 (focus (simp only [go_sem,simprocAttr];done)));simp only [go_sem,simprocAttr])|refine Rn.p ?_|(with_reducible apply And.intro)|((first|(refine hK _ ?_;clear hK K)|with_reducible intro K hK|refine Rs.p ?_|((with_reducible first|apply oP|apply oQ);exact rfl));try simp only [go_sem,simprocAttr])|((with_reducible refine oD ?_ ?_);kernel_rfl)|((with_reducible intro h);try simp only [go_sem,simprocAttr] at h)|omega|intro h)
 exact h.symm
theorem E7 (ds:List D) (row:List It) (hr:row.length≤1000000):Spec Tryz.prog 84 (Args [.d (.pt (sT row::ds))]) [] (.ref 10000) [(10000, .own 100 3 (row.map rT))]:=by
 (refine Spec.tg (C:=T.cfg [] []) (rs:= [.t 2]) [(10000,7)] (T.ai _ _) Tryz.func84 rfl rfl Tryz.ntmps84 Tryz.results84 (by simp [AObj.isNest]) (by simp [AObj.isNest]) (by first|(simp [look];done)|(simp [asN];done)|(intro l hl;simp only [asN];repeat (rw [if_neg (fun e=>by subst e;simp [look] at hl)]))) (by first|(simp [look];done)|(simp [asN];done)|(intro l hl;simp only [asN];repeat (rw [if_neg (fun e=>by subst e;simp [look] at hl)]))) (by kernel_rfl) T.mixed fun X hX hP hC aH bU=> ?_)
 repeat' (first|refine Rn.p ?_|(with_reducible apply And.intro)|((first|(refine hK _ ?_;clear hK K)|with_reducible intro K hK|refine Rs.p ?_|((with_reducible first|apply oP|apply oQ);exact rfl)|(refine aq hX hC hP [(10000,7)] (Be row hr) rfl rfl rfl ?_ ?_ ?_ ?_ ?_ ?_ ?_ ?_ ?_ ?_ ?_ ?_ ?_ ?_;(focus (simp only [go_sem,simprocAttr];done));(iterate 12 (focus (simp [go_sem,simprocAttr];done)));try simp only [List.map_cons,List.map_nil]));try simp only [go_sem,simprocAttr])|((with_reducible refine oD ?_ ?_);kernel_rfl)|((with_reducible intro h);try simp only [go_sem,simprocAttr] at h)|omega|intro h)
def x3 (rs:List Int) (l:List It):Int:=match l.find? (fun t=>decide (t.2.2∈rs)) with
 |some t=>t.2.2
 |none=>rs.headD (-1)
theorem E8 (rs:List Int) (l:List It) (hr:rs≠ []) (hrl:rs.length≤1000000) (hl:l.length≤1000000):Spec Tryz.prog 112 (Args [.d (sI rs), .d (sT l)]) [] (eN (x3 rs l)) []:=by
 generalize hH:x3 rs l=H
 (refine Spec.hd (C:=T.cfg [] []) (rs:= [.t 4]) (T.ai _ _) Tryz.func112 rfl rfl Tryz.ntmps112 Tryz.results112 (by simp [AObj.isNest]) (by simp [AObj.isNest]) (by kernel_rfl) T.mixed fun X hX hP hC aH bU=> ?_)
 repeat' (first|refine Rn.p ?_|(with_reducible apply And.intro)|((first|(refine hK _ ?_;clear hK K)|with_reducible intro K hK|refine Rs.p ?_|((with_reducible first|apply oP|apply oQ);exact rfl));try simp only [go_sem,simprocAttr])|((with_reducible refine oD ?_ ?_);kernel_rfl)|((with_reducible intro h);try simp only [go_sem,simprocAttr] at h)|omega|intro h)
 refine ag (fun k:Nat=>k≤l.length∧∀j,j<k→(l.getD j (0,0,0)).2.2∉rs) (fun k=>⟨[(0, .d (sI rs)),(7, .d (sT l)),(8,eN l.length),(9,eN k)], []⟩) (fun k=>l.length - k) 0 (by simp) ?_ ?_
 ·(refine Le.of ?_ ?_<;>simp [go_sem,simprocAttr])
 rintro k ⟨hk,hg⟩
 rcases Nat.lt_or_ge k l.length with bK|Fo
 ·have hb:decide ((k:Int)<(l.length:Int))=true:=decide_eq_true (by omega)
  by_cases h1:(l.getD k (0,0,0)).2.2∈rs
  ·have hb1:decide ((l.getD k (0,0,0)).2.2∈rs)=true:=decide_eq_true h1
   have:(l.getD k (0,0,0)).2.2=H:=by
    rw [← hH];unfold x3
    have:l.find? (fun t=>decide (t.2.2∈rs))=some (l.getD k (0,0,0)):=by
     rw [List.find?_eq_some_iff_getElem]
     refine ⟨hb1,k,bK,by rw [List.getD_eq_getElem?_getD,List.getElem?_eq_getElem bK];rfl,fun j hj=> ?_⟩
     have:=hg j hj
     rw [List.getD_eq_getElem?_getD,List.getElem?_eq_getElem (by omega)] at this
     simpa using this
    rw [this]
   have hb2:decide (H∈rs)=true:=by rw [← this];exact hb1
   repeat' (first|refine Rn.p ?_|(with_reducible apply And.intro)|((first|(refine hK _ ?_;clear hK K)|with_reducible intro K hK|refine Rs.p ?_|((with_reducible first|apply oP|apply oQ);exact rfl)|refine aa hX hC hP (bq rs H (by omega)) rfl rfl rfl (by simp only [go_sem,simprocAttr,hb,hb2,this]) rfl ?_);try simp only [go_sem,simprocAttr,hb,hb2,this])|((with_reducible refine oD ?_ ?_);kernel_rfl)|((with_reducible intro h);try simp only [go_sem,simprocAttr,hb,hb2,this] at h)|omega|intro h)
  ·have hb1:decide ((l.getD k (0,0,0)).2.2∈rs)=false:=decide_eq_false h1
   repeat' (first|refine Rn.p ?_|(with_reducible apply And.intro)|((first|(refine hK _ ?_;clear hK K)|with_reducible intro K hK|refine Rs.p ?_|((with_reducible first|apply oP|apply oQ);exact rfl)|refine aa hX hC hP (bq rs (l.getD k (0,0,0)).2.2 (by omega)) rfl rfl rfl (by simp only [go_sem,simprocAttr,hb,hb1]) rfl ?_);try simp only [go_sem,simprocAttr,hb,hb1])|((with_reducible refine oD ?_ ?_);kernel_rfl)|((with_reducible intro h);try simp only [go_sem,simprocAttr,hb,hb1] at h)|omega|intro h)
   refine ⟨k+1,⟨by omega,fun j hj=> ?_⟩, ?_,by omega⟩
   ·by_cases e:j=k
    ·subst e;exact h1
    ·exact hg j (by omega)
   ·(refine Le.of ?_ ?_<;>simp [go_sem,simprocAttr,hb,hb1])
 ·have hb:decide ((k:Int)<(l.length:Int))=false:=decide_eq_false (by omega)
  have hpos:=List.length_pos_iff.2 hr
  have:rs.getD 0 0=H:=by
   rw [← hH];unfold x3
   have:l.find? (fun t=>decide (t.2.2∈rs))=none:=by
    rw [List.find?_eq_none]
    intro t ht
    obtain ⟨j,hj,rfl⟩:=List.mem_iff_getElem.1 ht
    have:=hg j (by omega)
    rw [List.getD_eq_getElem?_getD,List.getElem?_eq_getElem hj] at this
    simpa using this
   rw [this]
   match rs,hr with
   |a::_,_=>rfl
  repeat' (first|refine Rn.p ?_|(with_reducible apply And.intro)|((first|(refine hK _ ?_;clear hK K)|with_reducible intro K hK|refine Rs.p ?_|((with_reducible first|apply oP|apply oQ);exact rfl));try simp only [go_sem,simprocAttr,hb,this])|((with_reducible refine oD ?_ ?_);kernel_rfl)|((with_reducible intro h);try simp only [go_sem,simprocAttr,hb,this] at h)|omega|intro h)
end Go.Ab
end
section
namespace Go.Ab
open Go.Proofs
attribute [local congr] ACall.congr gd.congr Nx.congr
set_option maxRecDepth 10000
set_option maxHeartbeats 8000000
theorem JH {g:Gr} (hm:aN g=true) {f:Fr} (hi:er g f) (rev:Bool):x3 (fk g f) (fY rev f.row)=fZ g f rev:=by
 unfold x3 fZ
 have:(fun t:It=>decide (t.2.2∈fk g f))=fun t:It=>ak g f t.2.2:=by
  funext t
  cases h:ak g f t.2.2 with
  |true=>exact decide_eq_true ((iy hm hi).2 h)
  |false=>exact decide_eq_false fun h2=>by rw [(iy hm hi).1 h2] at h;cases h
 rw [this]
 rfl
theorem Cz (row:List It):Spec Tryz.prog 62 (Args [.ref 10000]) [(10000, .own 100 3 (row.map rT))] (.tup []) [(10000, .own 100 3 ((fY false row).map rT))]:=by
 (refine Spec.hd (C:=T.cfg [] []) (rs:= []) (T.ai _ _) Tryz.func62 rfl rfl Tryz.ntmps62 Tryz.results62 (by simp [AObj.isNest]) (by simp [AObj.isNest]) (by kernel_rfl) T.mixed fun X hX hP hC aH bU=> ?_)
 repeat' (first|refine Rn.p ?_|(with_reducible apply And.intro)|((first|(refine hK _ ?_;clear hK K)|with_reducible intro K hK|refine Rs.p ?_|((with_reducible first|apply oP|apply oQ);exact rfl));try simp only [go_sem,simprocAttr,fY])|((with_reducible refine oD ?_ ?_);kernel_rfl)|((with_reducible intro h);try simp only [go_sem,simprocAttr,fY] at h)|omega|intro h)
theorem CA (row:List It) (hl:row.length≤1000000):Spec Tryz.prog 63 (Args [.ref 10000]) [(10000, .own 100 3 (row.map rT))] (.tup []) [(10000, .own 100 3 ((fY true row).map rT))]:=w5 row hl
theorem x4 (g:Gr) (p:Pl) (h:aX g p) (rev:Bool) (F:Nat) (NO:∀row:List It,row.length≤1000000→Spec Tryz.prog F (Args [.ref 10000]) [(10000, .own 100 3 (row.map rT))] (.tup []) [(10000, .own 100 3 ((fY rev row).map rT))]):
 Spec Tryz.prog 61 (Args [eG g, .d (.sl 1 (vI p.outs)), .fn F [] []]) [] (.d (sI (ej g p rev g.n.toNat))) []:=by
 have hm:=an h.1
 have hn:=aC hm
 (refine Spec.hd (C:=T.cfg [] []) (rs:= [.t 6]) (T.ai _ _) Tryz.func61 rfl rfl Tryz.ntmps61 Tryz.results61 (by simp [AObj.isNest]) (by simp [AObj.isNest]) (by kernel_rfl) T.mixed fun X hX hP hC aH bU=> ?_)
 repeat' (first|(show bM _ (.seq (.region 3 _ _) _) _ _;(refine kF 15 0 3 rfl rfl rfl ?_;simp only [List.set_cons_zero,List.set_cons_succ,go_sem,simprocAttr]);(refine dZ hX 15 2 200 (.tip 3 1 []) rfl rfl rfl (by simp only [go_sem,simprocAttr]) (by decide) (by simp [go_sem,simprocAttr]) ⟨3,1,by decide, .inr rfl⟩ ?_;simp only [List.set_cons_zero,List.set_cons_succ,go_sem,simprocAttr]))|refine Rn.p ?_|(with_reducible apply And.intro)|((first|(refine hK _ ?_;clear hK K)|with_reducible intro K hK|refine Rs.p ?_|((with_reducible first|apply oP|apply oQ);exact rfl)|(refine jl hX hC hP [(10000,15)] (qS g (by omega) h.1 hm) rfl rfl rfl ?_ ?_ ?_ ?_ ?_ ?_ ?_ ?_ ?_ ?_ ?_ ?_ ?_ ?_;(focus (simp only [go_sem,simprocAttr];done));(iterate 12 (focus (simp [go_sem,simprocAttr];done)));try simp only [List.map_cons,List.map_nil]));try simp only [go_sem,simprocAttr])|((with_reducible refine oD ?_ ?_);kernel_rfl)|((with_reducible intro h);try simp only [go_sem,simprocAttr] at h)|omega|intro h)
 have EL:List.replicate g.n.toNat [D.sc (.int .i64 0)]=(ej g p rev 0).map rI:=by rw [ej,List.map_replicate];rfl
 rw [EL]
 refine ag (fun k:Nat=>k≤g.n.toNat) (fun k=>⟨[(1, .d (.sl 1 (vI p.outs))),(2, .fn F [] []),(7, .ptr 15 0),(9, .ref 20),(22,eN g.n),(23,eN k)], [(15, .box [.d (sT (bz g p rev k).row), .d (vw g), .ref 200]),(200, .tip 3 1 ((bz g p rev k).pl.map rI)),(20, .own 3 1 ((ej g p rev k).map rI))]⟩) (fun k=>g.n.toNat - k) 0 (by omega) ?_ ?_
 ·refine Le.of ?_ ?_<;>simp [go_sem,simprocAttr,bz]
 rintro k hk
 obtain ⟨hi,cJ,_,hrl⟩:=qg h rev hk
 have hmul:k*(g.es.length+1)≤64*129:=Nat.mul_le_mul (by omega) (by omega)
 rcases Nat.lt_or_ge k g.n.toNat with bK|Fo
 rotate_left
 ·have hb:decide ((k:Int)<g.n)=false:=decide_eq_false (by omega)
  obtain rfl:k=g.n.toNat:=by omega
  repeat' (first|refine Rn.p ?_|(with_reducible apply And.intro)|((first|(refine hK _ ?_;clear hK K)|with_reducible intro K hK|refine Rs.p ?_|((with_reducible first|apply oP|apply oQ);exact rfl));try simp only [go_sem,simprocAttr,hb])|((with_reducible refine oD ?_ ?_);kernel_rfl)|((with_reducible intro h);try simp only [go_sem,simprocAttr,hb] at h)|omega|intro h)
 have hb:decide ((k:Int)<g.n)=true:=decide_eq_true (by omega)
 obtain ⟨hR,hne⟩:=vr h rev bK
 have DW:=aB hR
 have fO:(fk g (bz g p rev k)).length≤64:=by have:=vg (g:=g) (f:=bz g p rev k) (k:=g.n.toNat);unfold fk;omega
 have hpe:=JH hm hi.toer rev
 have hlo:(fY rev (bz g p rev k).row).length=(bz g p rev k).row.length:=by unfold fY;split<;>simp
 have OC:=E8 (fk g (bz g p rev k)) (fY rev (bz g p rev k).row) hne (by omega) (by omega)
 rw [hpe] at OC
 clear hpe
 have TB:=E7 [vw g,sI (bz g p rev k).pl] (bz g p rev k).row (by omega)
 have RG:=NO (bz g p rev k).row (by omega)
 have LC:=Az g hm (bz g p rev k) (by omega) (by omega)
 have CB:=bX h.2.1 DW.1 DW.2.1
 have qz:=nu h.2.1 DW.1 DW.2.1
 have bw:bz g p rev (k+1)=(az g (bz g p rev k) (fZ g (bz g p rev k) rev) (cl p (fZ g (bz g p rev k) rev))).2:=rfl
 have NP:ej g p rev (k+1)=(ej g p rev k).set (fZ g (bz g p rev k) rev).toNat (k:Int):=rfl
 have pP:=nv (g:=g) (p:=p) (rev:=rev) (k:=k)
 generalize fZ g (bz g p rev k) rev=x0 at*
 obtain ⟨x,rfl⟩:∃x:Nat,x0=x:=⟨x0.toNat,by omega⟩
 have hxl:x<p.outs.length:=by have:=h.2.1.1;omega
 have hv:=dx hxl
 have hla:cl p (x:Int)=p.outs.getD x []:=by unfold cl;rw [Int.toNat_natCast]
 rw [hla] at CB qz bw
 rw [Int.toNat_natCast] at NP
 have sq:=sk g hm (bz g p rev k) hi (x:Int) (p.outs.getD x []) (by omega) (by omega) (by omega)
 have hpk:cy g (bz g p rev k) (x:Int) (p.outs.getD x [])=az g (bz g p rev k) (x:Int) (p.outs.getD x []):=by
  unfold cy
  rw [if_neg (by rw [hR];simp),if_neg]
  rintro (h|⟨i,h1,h2⟩)
  ·exact h CB.length_eq
  ·exact h2 (CB.mem_iff.2 h1)
 rw [hpk] at sq
 generalize p.outs.getD x []=o at hv sq bw
 generalize fk g (bz g p rev k)=L at OC LC fO
 generalize fY rev (bz g p rev k).row=LR at OC RG hlo
 generalize QK:bz g p rev (k+1)=f' at bw
 generalize bz g p rev k=f at*
 generalize az g f (x:Int) o=su at sq bw
 repeat' (first|(show bM _ (.region 11 _ _) _ _;(refine bt hX 15 2 201 200 rfl rfl rfl (by first|exact .inl rfl|exact .inr rfl) (by decide) (by decide) ?_;simp only [List.set_cons_zero,List.set_cons_succ,go_sem,simprocAttr,hb,hv,pP,jL,qE,gv]))|refine Rn.p ?_|(with_reducible apply And.intro)|((first|(refine hK _ ?_;clear hK K)|with_reducible intro K hK|refine Rs.p ?_|((with_reducible first|apply oP|apply oQ);exact rfl)|(refine iL hX hC hP 29 (TB) rfl rfl rfl ?_ ?_ (by first|exact ⟨_,_,_,rfl,u9⟩|exact ⟨_,_,_,rfl,va⟩|exact ⟨_,_,_,rfl,vf⟩) rfl (by decide) ?_;(iterate 2 (focus (simp only [go_sem,simprocAttr,hb,hv,pP,jL,qE,gv];done)));simp only [go_sem,simprocAttr,hb,hv,pP,jL,qE,gv])|(refine aq hX hC hP [(10000,29)] (RG) rfl rfl rfl ?_ ?_ ?_ ?_ ?_ ?_ ?_ ?_ ?_ ?_ ?_ ?_ ?_ ?_;(focus (simp only [go_sem,simprocAttr,hb,hv,pP,jL,qE,gv];done));(iterate 12 (focus (simp [go_sem,simprocAttr,hb,hv,pP,jL,qE,gv];done)));try simp only [List.map_cons,List.map_nil])|(refine mC hX hC hP 34 (LC) rfl rfl rfl ?_ ?_ (by first|exact ⟨_,_,_,rfl,u9⟩|exact ⟨_,_,_,rfl,va⟩|exact ⟨_,_,_,rfl,vf⟩) rfl (by decide) ?_;(iterate 2 (focus (simp only [go_sem,simprocAttr,hb,hv,pP,jL,qE,gv];done)));simp only [go_sem,simprocAttr,hb,hv,pP,jL,qE,gv])|(refine aj hX hC hP (OC) rfl rfl rfl ?_ ?_ ?_ ?_;iterate 3 (focus (simp only [go_sem,simprocAttr,hb,hv,pP,jL,qE,gv];done)))|(refine aq hX hC hP [(10000,15),(10001,200),(10002,201)] (sq) rfl rfl rfl ?_ ?_ ?_ ?_ ?_ ?_ ?_ ?_ ?_ ?_ ?_ ?_ ?_ ?_;(focus (simp only [go_sem,simprocAttr,hb,hv,pP,jL,qE,gv];done));(iterate 12 (focus (simp [go_sem,simprocAttr,hb,hv,pP,jL,qE,gv];done)));try simp only [List.map_cons,List.map_nil]));try simp only [go_sem,simprocAttr,hb,hv,pP,jL,qE,gv])|((with_reducible refine oD ?_ ?_);kernel_rfl)|((with_reducible intro h);try simp only [go_sem,simprocAttr,hb,hv,pP,jL,qE,gv] at h)|omega|intro h)
 refine ⟨k+1,by omega, ?_,by omega⟩
 rw [NP,QK,bw]
 refine Le.of ?_ ?_<;>simp [go_sem,simprocAttr,hb,hv,pP,jL,qE,gv,rI]
def LD (b:Bool) (g:Gr) (p:Pl):List Int × List Int × Int:=
 if (bA b g p).2.1=0∧o7 g=true then (ej g p false g.n.toNat,ej g p true g.n.toNat,0) else ([], [],1)
theorem CC (g:Gr) (hl:g.es.length≤1000) (p:Pl) (hp:gE p) (b:Bool) (hr:b=true↔(bL g).1=0∧aU g p):
 Spec Tryz.prog 24 (Args [eG g,ePl p]) [] (.tup [.d (sI (LD b g p).1), .d (sI (LD b g p).2.1),eN (LD b g p).2.2]) []:=by
 have hO:=gY g hl p hp b hr
 have hI:=oS g hl
 by_cases h0:(bA b g p).2.1=0
 rotate_left
 ·have hK:LD b g p=([], [],1):=if_neg fun h=>h0 h.1
  have hb0:decide ((bA b g p).2.1=0)=false:=decide_eq_false h0
  rw [hK]
  (refine Spec.hd (C:=T.cfg [] []) (rs:= [.t 4, .t 5, .t 6]) (T.ai _ _) Tryz.func24 rfl rfl Tryz.ntmps24 Tryz.results24 (by simp [AObj.isNest]) (by simp [AObj.isNest]) (by kernel_rfl) T.mixed fun X hX hP hC aH bU=> ?_)
  repeat' (first|refine Rn.p ?_|(with_reducible apply And.intro)|((first|(refine hK _ ?_;clear hK K)|with_reducible intro K hK|refine Rs.p ?_|((with_reducible first|apply oP|apply oQ);exact rfl)|refine aa hX hC hP (hO) rfl rfl rfl (by simp only [go_sem,simprocAttr,hb0]) rfl ?_);try simp only [go_sem,simprocAttr,hb0])|((with_reducible refine oD ?_ ?_);kernel_rfl)|((with_reducible intro h);try simp only [go_sem,simprocAttr,hb0] at h)|omega|intro h)
 obtain ⟨hrun,hR⟩:=gT hr h0
 rw [hR] at hO
 simp only at hO
 cases BB:o7 g with
 |false=>
  have hK:LD b g p=([], [],1):=if_neg fun h=>by rw [BB] at h;cases h.2
  rw [hK]
  rw [BB] at hI
  (refine Spec.hd (C:=T.cfg [] []) (rs:= [.t 4, .t 5, .t 6]) (T.ai _ _) Tryz.func24 rfl rfl Tryz.ntmps24 Tryz.results24 (by simp [AObj.isNest]) (by simp [AObj.isNest]) (by kernel_rfl) T.mixed fun X hX hP hC aH bU=> ?_)
  repeat' (first|refine Rn.p ?_|(with_reducible apply And.intro)|((first|(refine hK _ ?_;clear hK K)|with_reducible intro K hK|refine Rs.p ?_|((with_reducible first|apply oP|apply oQ);exact rfl)|refine aa hX hC hP (hO) rfl rfl rfl (by simp only [go_sem,simprocAttr]) rfl ?_|refine aa hX hC hP (hI) rfl rfl rfl (by simp only [go_sem,simprocAttr]) rfl ?_);try simp only [go_sem,simprocAttr])|((with_reducible refine oD ?_ ?_);kernel_rfl)|((with_reducible intro h);try simp only [go_sem,simprocAttr] at h)|omega|intro h)
 |true=>
  have hK:LD b g p=(ej g p false g.n.toNat,ej g p true g.n.toNat,0):=if_pos ⟨h0,BB⟩
  rw [hK]
  rw [BB] at hI
  have RH:=x4 g p hrun false 62 fun row _=>Cz row
  have RI:=x4 g p hrun true 63 fun row hl=>CA row hl
  generalize ej g p false g.n.toNat=R0 at RH
  generalize ej g p true g.n.toNat=R1 at RI
  (refine Spec.hd (C:=T.cfg [] []) (rs:= [.t 4, .t 5, .t 6]) (T.ai _ _) Tryz.func24 rfl rfl Tryz.ntmps24 Tryz.results24 (by simp [AObj.isNest]) (by simp [AObj.isNest]) (by kernel_rfl) T.mixed fun X hX hP hC aH bU=> ?_)
  repeat' (first|refine Rn.p ?_|(with_reducible apply And.intro)|((first|(refine hK _ ?_;clear hK K)|with_reducible intro K hK|refine Rs.p ?_|((with_reducible first|apply oP|apply oQ);exact rfl)|refine aa hX hC hP (hO) rfl rfl rfl (by simp only [go_sem,simprocAttr]) rfl ?_|refine aa hX hC hP (hI) rfl rfl rfl (by simp only [go_sem,simprocAttr]) rfl ?_|refine aa hX hC hP (RH) rfl rfl rfl (by simp only [go_sem,simprocAttr]) rfl ?_|refine aa hX hC hP (RI) rfl rfl rfl (by simp only [go_sem,simprocAttr]) rfl ?_);try simp only [go_sem,simprocAttr])|((with_reducible refine oD ?_ ?_);kernel_rfl)|((with_reducible intro h);try simp only [go_sem,simprocAttr] at h)|omega|intro h)
end Go.Ab
end
section
namespace Go.Ab
open Go.Proofs
attribute [local congr] ACall.congr gd.congr Nx.congr
set_option maxRecDepth 10000
set_option maxHeartbeats 8000000
def RJ (l:List Int) (k:Nat):List Int:=(List.range l.length).map fun p=>if p<k∨l.length - 1<p+k then l.getD (l.length - 1 - p) 0 else l.getD p 0
theorem zu (ps:List Int) (hl:ps.length≤1000000):
 Spec Tryz.prog 71 (Args [.d (sI ps)]) [] (.ref 10000) [(10000, .own 3 1 (ps.map rI))]:=by
 (refine Spec.tg (C:=T.cfg [5,7] []) (rs:= [.t 2]) [(10000,7)] (T.ai _ _) Tryz.func71 rfl rfl Tryz.ntmps71 Tryz.results71 (by simp [AObj.isNest]) (by simp [AObj.isNest]) (by first|(simp [look];done)|(simp [asN];done)|(intro l hl;simp only [asN];repeat (rw [if_neg (fun e=>by subst e;simp [look] at hl)]))) (by first|(simp [look];done)|(simp [asN];done)|(intro l hl;simp only [asN];repeat (rw [if_neg (fun e=>by subst e;simp [look] at hl)]))) (by kernel_rfl) T.mixed fun X hX hP hC aH bU=> ?_)
 repeat' (first|(show bM _ .ret _ _;(try simp only [go_sem,simprocAttr]);refine dW hX 2 7 (.own 3 1 []) ?_ ?_ (by decide) ⟨3,1,by decide, .inl rfl⟩ ?_;(iterate 2 (focus (simp only [go_sem,simprocAttr];done)));simp only [go_sem,simprocAttr])|refine Rn.p ?_|(with_reducible apply And.intro)|((first|(refine hK _ ?_;clear hK K)|with_reducible intro K hK|refine Rs.p ?_|((with_reducible first|apply oP|apply oQ);exact rfl));try simp only [go_sem,simprocAttr])|((with_reducible refine oD ?_ ?_);kernel_rfl)|((with_reducible intro h);try simp only [go_sem,simprocAttr] at h)|omega|intro h)
 exact h.symm
end Go.Ab
end
section
namespace Go.Ab
open Go.Proofs
attribute [local congr] ACall.congr gd.congr Nx.congr
set_option maxRecDepth 20000
set_option maxHeartbeats 8000000
set_option linter.unusedSectionVars false
def l9 (g:Gr) (bs:List Int) (k:Nat):List (List Int × Int):=(List.range k).map fun j:Nat=>([bs.getD j 0],g.n+(j:Int))
theorem E9 {g:Gr} {bs:List Int} {k:Nat} :l9 g bs (k+1)=l9 g bs k++ [([bs.getD k 0],g.n+(k:Int))]:=by simp [l9,List.range_succ]
theorem mN {g:Gr} {bs:List Int} {k:Nat} {p:List Int × Int} :p∈l9 g bs k↔∃j:Nat,j<k∧p=([bs.getD j 0],g.n+(j:Int)):=by
 simp only [l9,List.mem_map,List.mem_range]
 constructor
 ·rintro ⟨j,h,rfl⟩;exact ⟨j,h,rfl⟩
 ·rintro ⟨j,h,rfl⟩;exact ⟨j,h,rfl⟩
theorem x5 {g:Gr} {k:Nat} :eO g (k+1)=eO g k++ [[((g.es.length+k:Nat):Int)]]:=by simp [eO,List.range_succ]
theorem we {g:Gr} {bs:List Int} :(gi g bs).length=g.es.length+bs.length:=by simp [gi]
section
variable {g:Gr} {p:Pl} {bs:List Int} (h:aX g p) (hb:vQ g bs) (hs1:g.n+bs.length≤64) (DP:g.es.length+bs.length≤128)
include h hb hs1 DP
theorem Bf:∀ {k:Nat},k≤bs.length→(dy g bs k p.ord).length=g.n.toNat+k
 |0,_=>by rw [xW,aR h.2.1];rfl
 |k+1,hk=>by
  have hm:=an h.1
  have oN:∀u∈p.ord,u<g.n:=fun u hu=>by
   have:=h.2.1.2.1.mem_iff.1 hu
   simp only [eu,List.mem_map,List.mem_range] at this
   obtain ⟨k,hk,e⟩:=this
   have e:(k:Int)=u:=e
   omega
  have wq:=hb.qd _ (aD (d:=0) hk)
  have Jc:fe g (bs.getD k 0)∈p.ord:=by
   have htr:=bk hm (i:=(bs.getD k 0).toNat) (by omega)
   obtain ⟨l,hl,e⟩:=gX h.2.1 htr.1 htr.2
   show tl g (bs.getD k 0).toNat∈p.ord
   rw [← e,aE,List.getD_eq_getElem?_getD,List.getElem?_eq_getElem (by rw [aR h.2.1];exact hl)]
   exact List.getElem_mem _
  obtain ⟨A,B,o1,o2,_,_⟩:=xX (k:=k) (cV h.2.1) oN Jc
  have ih:=Bf (k:=k) (by omega)
  rw [o1] at ih
  rw [o2]
  simp only [List.length_append,List.length_cons] at ih ⊢
  omega
theorem HU {k:Nat} (hk:k<bs.length):Spec Tryz.prog 118 (Args [.ptr 10000 0,eN (bs.getD k 0)]) (jO (g.n+(k:Int)) (gi g (bs.take k)) (dy g bs k p.ord) (p.outs++eO g k) (l9 g bs k)) (.tup [])
 (HO (g.n+((k+1:Nat):Int)) (gi g (bs.take (k+1))) (dy g bs (k+1) p.ord) (p.outs++eO g (k+1)) (l9 g bs (k+1))):=by
 have hm:=an h.1
 have hn:=aC hm
 have cJ:=h.2.1.1
 have b9:=cV h.2.1
 have wq:=hb.qd _ (aD (d:=0) hk)
 obtain ⟨e,he⟩:∃e:Nat,bs.getD k 0=(e:Int):=⟨(bs.getD k 0).toNat,by omega⟩
 obtain ⟨e1,e2,e3⟩:=xY hb hk he
 have TC:(bs.take k).length=k:=by simp;omega
 have TD:(bs.take (k+1)).length=k+1:=by simp;omega
 have hel:(gi g (bs.take k)).length=g.es.length+k:=by rw [we,TC]
 have ht:fe g (bs.getD k 0)=tl g e:=by rw [he];rfl
 have oN:∀u∈p.ord,u<g.n:=fun u hu=>by
  have:=h.2.1.2.1.mem_iff.1 hu
  simp only [eu,List.mem_map,List.mem_range] at this
  obtain ⟨k,hk,e⟩:=this
  have e:(k:Int)=u:=e
  omega
 have Jc:fe g (bs.getD k 0)∈p.ord:=by
  rw [ht]
  have htr:=bk hm e1
  obtain ⟨l,hl,e⟩:=gX h.2.1 htr.1 htr.2
  rw [← e,aE,List.getD_eq_getElem?_getD,List.getElem?_eq_getElem (by rw [aR h.2.1];exact hl)]
  exact List.getElem_mem _
 obtain ⟨A,B,o1,o2,o3,o4⟩:=xX (k:=k) b9 oN Jc
 rw [ht] at o1 o2 o3
 have qD:∀i,i<g.es.length→((gi g (bs.take (k+1))).getD i (0,0)).1=tl g i:=fun i hi=>by
  have:=(cZ (g:=g) (bs:=bs.take (k+1)) (e:=(i:Int)) (by omega) (by omega)).1
  exact this
 have NQ:(dy g bs k p.ord).length<1000:=by
  rw [Bf h hb hs1 DP (by omega)];omega
 have NR:(eO g k).length=k:=by simp [eO]
 have hinj:∀j,j<bs.length→bs.getD j 0=bs.getD k 0→j=k:=fun j hj hjk=>by
  have a:=gq hb.nd hj
  have b:=gq hb.nd hk
  rw [hjk] at a
  omega
 have key:=EX (g.n+(k:Int)) (gi g (bs.take k)) (p.outs++eO g k) (l9 g bs k) e A (jN g bs k (tl g e)) B (tl g e) (by omega) (by omega) (by omega) (by rw [List.length_append,cJ,NR];omega) (by rw [← o1];exact NQ)
  (fun q hq=> ?_) (fun q hq=> ?_) (by rw [e2]) o3 (fun u hu=> ?_) (fun u r hB=> ?_)
 ·rw [e2,show ((tl g e,hd g e):Edge).2=hd g e from rfl, ← e3, ← o1, ← o2,hel] at key
  rw [he,x5,E9,he, ← List.append_assoc,show g.n+((k+1:Nat):Int)=g.n+(k:Int)+1 by omega]
  exact key
 ·obtain ⟨j,hj,rfl⟩:=mN.1 hq
  have:=hb.qd _ (aD (d:=0) (show j<bs.length by omega))
  simp only [List.getD_cons_zero]
  omega
 ·obtain ⟨j,hj,rfl⟩:=mN.1 hq
  intro e'
  simp only [List.cons.injEq,and_true] at e'
  have:=hinj j (by omega) (by rw [he];exact e'.symm)
  omega
 ·obtain ⟨j,j1,j2,rfl⟩:=gZ.1 hu
  rw [e2,show ((tl g e,hd g e):Edge).2=hd g e from rfl, ← e3]
  have z2:=hb.qd _ (aD (d:=0) (show j<bs.length by omega))
  unfold vY
  rw [List.any_eq_true]
  refine ⟨([bs.getD j 0],g.n+(j:Int)),List.mem_append_left _ (mN.2 ⟨j,j1,rfl⟩), ?_⟩
  simp only [fu,List.getD_cons_zero,Bool.and_eq_true,decide_eq_true_eq]
  refine ⟨⟨trivial,fun e'=> ?_⟩, ?_⟩
  ·have:=hinj j (by omega) (by rw [he];omega)
   omega
  ·rw [qD _ (by omega),qD _ e1]
   exact j2
 ·rw [e2,show ((tl g e,hd g e):Edge).2=hd g e from rfl, ← e3]
  have hu:=o4 u r hB
  unfold vY
  rw [List.any_eq_false]
  intro q hq
  have uD:g.n≤q.2:=by
   rcases List.mem_append.1 hq with hq|hq
   ·obtain ⟨j,hj,rfl⟩:=mN.1 hq
    show g.n≤g.n+(j:Int)
    omega
   ·rw [List.mem_singleton] at hq
    subst hq
    show g.n≤g.n+(k:Int)
    omega
  simp only [fu,Bool.and_eq_true,decide_eq_true_eq]
  rintro ⟨⟨h1,_⟩,_⟩
  omega
end
end Go.Ab
end
section
namespace Go.Ab
open Go.Proofs
attribute [local congr] ACall.congr gd.congr Nx.congr
set_option maxRecDepth 10000
set_option maxHeartbeats 8000000
theorem jH {b:Bool} {g:Gr} {p:Pl} (hr:b=true↔(bL g).1=0∧aU g p) (h:aX g p):bA b g p=((dY g p g.n.toNat,aS g p),(0,0)):=by
 obtain rfl:b=true:=hr.2 ⟨h.1,h.2.1⟩
 unfold bA
 rw [if_neg (by simp),fH.2 h.2.2]
 rfl
theorem zv {b:Bool} {g:Gr} {p:Pl} (hr:b=true↔(bL g).1=0∧aU g p) (h:(gS b g p).2.2=0):jY g p∧gS b g p=(ah g p,bB g p,0):=by
 unfold gS at h ⊢
 split at h
 ·cases h
 rename_i h0
 split at h
 ·cases h
 rename_i h1
 rw [if_neg h0,if_neg h1]
 exact ⟨⟨(gT hr (by simpa using h0)).1,by omega,by omega⟩,rfl⟩
theorem TE (g:Gr) (p:Pl):∃b:Bool,(b=true↔(bL g).1=0∧aU g p):=by
 by_cases h:(bL g).1=0∧aU g p
 ·exact ⟨true,by simp [h]⟩
 ·exact ⟨false,by simp [h]⟩
end Go.Ab
end
section
namespace Go.Ab
open Go.Proofs
attribute [local congr] ACall.congr gd.congr Nx.congr
set_option maxRecDepth 20000
set_option maxHeartbeats 8000000
theorem zw (ps:List Edge) (hl:ps.length≤1000000):
 Spec Tryz.prog 97 (Args [.d (sE ps)]) [] (.ref 10000) [(10000, .own 73 2 (ps.map rE))]:=by
 (refine Spec.tg (C:=T.cfg [5,7] []) (rs:= [.t 2]) [(10000,7)] (T.ai _ _) Tryz.func97 rfl rfl Tryz.ntmps97 Tryz.results97 (by simp [AObj.isNest]) (by simp [AObj.isNest]) (by first|(simp [look];done)|(simp [asN];done)|(intro l hl;simp only [asN];repeat (rw [if_neg (fun e=>by subst e;simp [look] at hl)]))) (by first|(simp [look];done)|(simp [asN];done)|(intro l hl;simp only [asN];repeat (rw [if_neg (fun e=>by subst e;simp [look] at hl)]))) (by kernel_rfl) T.mixed fun X hX hP hC aH bU=> ?_)
 repeat' (first|(show bM _ .ret _ _;(try simp only [go_sem,simprocAttr]);refine dW hX 2 7 (.own 73 2 []) ?_ ?_ (by decide) ⟨73,2,by decide, .inl rfl⟩ ?_;(iterate 2 (focus (simp only [go_sem,simprocAttr];done)));simp only [go_sem,simprocAttr])|refine Rn.p ?_|(with_reducible apply And.intro)|((first|(refine hK _ ?_;clear hK K)|with_reducible intro K hK|refine Rs.p ?_|((with_reducible first|apply oP|apply oQ);exact rfl));try simp only [go_sem,simprocAttr])|((with_reducible refine oD ?_ ?_);kernel_rfl)|((with_reducible intro h);try simp only [go_sem,simprocAttr] at h)|omega|intro h)
 exact h.symm
theorem oX {g:Gr} :vQ g (dA g):=by
 unfold dA
 split
 ·refine ⟨?_,fun i hi=> ?_⟩
  ·unfold w4
   exact List.Pairwise.map _ (fun a b hab=>by omega) (List.nodup_range.filter _)
  ·simp only [w4,List.mem_map,List.mem_filter,List.mem_range] at hi
   obtain ⟨j,⟨h1,_⟩,rfl⟩:=hi
   omega
 ·exact ⟨List.nodup_nil,by simp⟩
theorem CD (g:Gr) (hl:g.es.length≤1000) (p:Pl) (hp:gE p) (b:Bool) (hr:b=true↔(bL g).1=0∧aU g p) (h0:(bA b g p).2.1=0) (BB:o7 g=true) (hbig:64<g.n+(dA g).length∨128<g.es.length+(dA g).length):
 Spec Tryz.prog 76 (Args [eG g,ePl p]) [] (.tup [.d (.sc (.pointer none)),eN 10]) []:=by
 have hO:=gY g hl p hp b hr
 have hI:=oS g hl
 have hT:=DC g (by omega)
 obtain ⟨hrun,hR⟩:=gT hr h0
 rw [hR] at hO
 simp only at hO
 rw [BB] at hI
 have hn:=aC (an hrun.1)
 have oZ:(dA g).length≤1000:=by
  unfold dA
  split
  ·have:=tL (g:=g) (k:=g.es.length);omega
  ·simp
 generalize dA g=bs at hT hbig oZ
 by_cases hA:64<g.n+(bs.length:Int)
 ·have hb1:decide (64<g.n+(bs.length:Int))=true:=decide_eq_true hA
  (refine Spec.hd (C:=T.cfg [] []) (rs:= [.t 4, .t 5]) (T.ai _ _) Tryz.func76 rfl rfl Tryz.ntmps76 Tryz.results76 (by simp [AObj.isNest]) (by simp [AObj.isNest]) (by kernel_rfl) T.mixed fun X hX hP hC aH bU=> ?_)
  repeat' (first|refine Rn.p ?_|(with_reducible apply And.intro)|((first|(refine hK _ ?_;clear hK K)|with_reducible intro K hK|refine Rs.p ?_|((with_reducible first|apply oP|apply oQ);exact rfl)|refine aa hX hC hP (hO) rfl rfl rfl (by simp only [go_sem,simprocAttr,hb1]) rfl ?_|refine aa hX hC hP (hI) rfl rfl rfl (by simp only [go_sem,simprocAttr,hb1]) rfl ?_|refine aa hX hC hP (hT) rfl rfl rfl (by simp only [go_sem,simprocAttr,hb1]) rfl ?_);try simp only [go_sem,simprocAttr,hb1])|((with_reducible refine oD ?_ ?_);kernel_rfl)|((with_reducible intro h);try simp only [go_sem,simprocAttr,hb1] at h)|omega|intro h)
 ·have hb1:decide (64<g.n+(bs.length:Int))=false:=decide_eq_false hA
  have hb2:decide (128<(g.es.length:Int)+(bs.length:Int))=true:=decide_eq_true (by omega)
  (refine Spec.hd (C:=T.cfg [] []) (rs:= [.t 4, .t 5]) (T.ai _ _) Tryz.func76 rfl rfl Tryz.ntmps76 Tryz.results76 (by simp [AObj.isNest]) (by simp [AObj.isNest]) (by kernel_rfl) T.mixed fun X hX hP hC aH bU=> ?_)
  repeat' (first|refine Rn.p ?_|(with_reducible apply And.intro)|((first|(refine hK _ ?_;clear hK K)|with_reducible intro K hK|refine Rs.p ?_|((with_reducible first|apply oP|apply oQ);exact rfl)|refine aa hX hC hP (hO) rfl rfl rfl (by simp only [go_sem,simprocAttr,hb1,hb2]) rfl ?_|refine aa hX hC hP (hI) rfl rfl rfl (by simp only [go_sem,simprocAttr,hb1,hb2]) rfl ?_|refine aa hX hC hP (hT) rfl rfl rfl (by simp only [go_sem,simprocAttr,hb1,hb2]) rfl ?_);try simp only [go_sem,simprocAttr,hb1,hb2])|((with_reducible refine oD ?_ ?_);kernel_rfl)|((with_reducible intro h);try simp only [go_sem,simprocAttr,hb1,hb2] at h)|omega|intro h)
theorem Fa (g:Gr) (hl:g.es.length≤1000) (p:Pl) (hp:gE p) (hrun:aX g p) (BB:o7 g=true) (bs:List Int) (QL:dA g=bs) (hs1:g.n+bs.length≤64) (DP:g.es.length+bs.length≤128):
 Spec Tryz.prog 76 (Args [eG g,ePl p]) [] (.tup [.ptr 10000 0,eN 0]) (jO (g.n+bs.length) (gi g bs) (dy g bs bs.length p.ord) (p.outs++eO g bs.length) (l9 g bs bs.length)):=by
 have hO:=gY g hl p hp true ⟨fun _=>⟨hrun.1,hrun.2.1⟩,fun _=>rfl⟩
 rw [jH ⟨fun _=>⟨hrun.1,hrun.2.1⟩,fun _=>rfl⟩ hrun] at hO
 simp only at hO
 have hI:=oS g hl
 rw [BB] at hI
 have hT:=DC g (by omega)
 have dn:=oX (g:=g)
 rw [QL] at hT dn
 have hn:=aC (an hrun.1)
 have cJ:=hrun.2.1.1
 have qz:=aR hrun.2.1
 have hb1:decide (64<g.n+(bs.length:Int))=false:=decide_eq_false (by omega)
 have hb2:decide (128<(g.es.length:Int)+(bs.length:Int))=false:=decide_eq_false (by omega)
 have TF:=zw g.es (by omega)
 have TG:=zu p.ord (by omega)
 have TH:∀k,k<p.outs.length→Spec Tryz.prog 71 (Args [.d (sI (p.outs.getD k []))]) [] (.d (sI (p.outs.getD k []))) []:=fun k hk=>jR _ (by
  have h1:=(hrun.2.1.2.2 k (by omega)).length_eq
  have h2:(aY g (k:Int)).length≤g.es.length:=fU
  omega)
 unfold jO
 (refine Spec.tg (C:=T.cfg [51,55,76,75,200] []) (rs:= [.t 4, .t 5]) [(10000,59),(10001,51),(10002,55),(10003,200),(10004,57)] (T.ai _ _) Tryz.func76 rfl rfl Tryz.ntmps76 Tryz.results76 (by simp [AObj.isNest]) (by simp [AObj.isNest]) (by first|(simp [look];done)|(simp [asN];done)|(intro l hl;simp only [asN];repeat (rw [if_neg (fun e=>by subst e;simp [look] at hl)]))) (by first|(simp [look];done)|(simp [asN];done)|(intro l hl;simp only [asN];repeat (rw [if_neg (fun e=>by subst e;simp [look] at hl)]))) (by kernel_rfl) T.mixed fun X hX hP hC aH bU=> ?_)
 repeat' (first|(show bM _ (.seq (.region 8 _ _) _) _ _;(refine dZ hX 59 3 200 (.own 31 1 []) rfl rfl rfl (by simp only [go_sem,simprocAttr,hb1,hb2]) (by decide) (by simp [go_sem,simprocAttr,hb1,hb2]) ⟨31,1,by decide, .inl rfl⟩ ?_;simp only [List.set_cons_zero,List.set_cons_succ,go_sem,simprocAttr,hb1,hb2]))|refine Rn.p ?_|(with_reducible apply And.intro)|((first|(refine hK _ ?_;clear hK K)|with_reducible intro K hK|refine Rs.p ?_|((with_reducible first|apply oP|apply oQ);exact rfl)|refine aa hX hC hP (hO) rfl rfl rfl (by simp only [go_sem,simprocAttr,hb1,hb2]) rfl ?_|refine aa hX hC hP (hI) rfl rfl rfl (by simp only [go_sem,simprocAttr,hb1,hb2]) rfl ?_|refine aa hX hC hP (hT) rfl rfl rfl (by simp only [go_sem,simprocAttr,hb1,hb2]) rfl ?_|(refine aq hX hC hP [(10000,51)] (TF) rfl rfl rfl ?_ ?_ ?_ ?_ ?_ ?_ ?_ ?_ ?_ ?_ ?_ ?_ ?_ ?_;(focus (simp only [go_sem,simprocAttr,hb1,hb2];done));(iterate 12 (focus (simp [go_sem,simprocAttr,hb1,hb2];done)));try simp only [List.map_cons,List.map_nil])|(refine aq hX hC hP [(10000,55)] (TG) rfl rfl rfl ?_ ?_ ?_ ?_ ?_ ?_ ?_ ?_ ?_ ?_ ?_ ?_ ?_ ?_;(focus (simp only [go_sem,simprocAttr,hb1,hb2];done));(iterate 12 (focus (simp [go_sem,simprocAttr,hb1,hb2];done)));try simp only [List.map_cons,List.map_nil]));try simp only [go_sem,simprocAttr,hb1,hb2])|((with_reducible refine oD ?_ ?_);kernel_rfl)|((with_reducible intro h);try simp only [go_sem,simprocAttr,hb1,hb2] at h)|omega|intro h)
 refine ag (fun k:Nat=>k≤p.outs.length) (fun k=>⟨[(4, .d (.sc (.pointer none))),(5,eN 0),(9, .d (sI bs)),(10, .ptr 59 0),(61, .d (.sl 1 (vI p.outs))),(62,eN p.outs.length),(63,eN k)], [(59, .box [eN g.n, .ref 51, .ref 55, .ref 200, .mref 57]),(51, .own 73 2 (g.es.map rE)),(55, .own 3 1 (p.ord.map rI)),(200, .own 31 1 (vI (p.outs.take k))),(57, .mp 0 [])]⟩) (fun k=>p.outs.length - k) 0 (by omega) ?_ ?_
 ·refine Le.of ?_ ?_<;>simp [go_sem,simprocAttr,vI]
 rintro k hk
 rcases Nat.lt_or_ge k p.outs.length with hlt|hge
 ·have hb:decide ((k:Int)<(p.outs.length:Int))=true:=decide_eq_true (by omega)
  have hc:=TH k hlt
  have qR:(p.outs.take k).length=k:=by simp;omega
  have hv:vI (p.outs.take k)++ [[D.sl 1 ((p.outs.getD k []).map rI)]]=vI (p.outs.take (k+1)):=by
   rw [List.take_add_one,List.getElem?_eq_getElem hlt,Option.toList_some,Cs,List.getD_eq_getElem?_getD,List.getElem?_eq_getElem hlt]
   rfl
  repeat' (first|(show bM _ (.region 12 _ _) _ _;(refine bt hX 59 3 76 200 rfl rfl rfl (by first|exact .inl rfl|exact .inr rfl) (by decide) (by decide) ?_;simp only [List.set_cons_zero,List.set_cons_succ,go_sem,simprocAttr,hb,hv,dx hlt,qR,sI]))|refine Rn.p ?_|(with_reducible apply And.intro)|((first|(refine hK _ ?_;clear hK K)|with_reducible intro K hK|refine Rs.p ?_|((with_reducible first|apply oP|apply oQ);exact rfl)|refine aa hX hC hP (hc) rfl rfl rfl (by simp only [go_sem,simprocAttr,hb,hv,dx hlt,qR,sI]) rfl ?_);try simp only [go_sem,simprocAttr,hb,hv,dx hlt,qR,sI])|((with_reducible refine oD ?_ ?_);kernel_rfl)|((with_reducible intro h);try simp only [go_sem,simprocAttr,hb,hv,dx hlt,qR,sI] at h)|omega|intro h)
  refine ⟨k+1,by omega, ?_,by omega⟩
  refine Le.of ?_ ?_<;>simp [go_sem,simprocAttr,hb,hv,dx hlt,qR,sI]
 ·have hb:decide ((k:Int)<(p.outs.length:Int))=false:=decide_eq_false (by omega)
  obtain rfl:k=p.outs.length:=by omega
  rw [List.take_length]
  repeat' (first|refine Rn.p ?_|(with_reducible apply And.intro)|((first|(refine hK _ ?_;clear hK K)|with_reducible intro K hK|refine Rs.p ?_|((with_reducible first|apply oP|apply oQ);exact rfl));try simp only [go_sem,simprocAttr,hb])|((with_reducible refine oD ?_ ?_);kernel_rfl)|((with_reducible intro h);try simp only [go_sem,simprocAttr,hb] at h)|omega|intro h)
  refine ag (fun k:Nat=>k≤bs.length) (fun k=>⟨[(4, .d (.sc (.pointer none))),(5,eN 0),(10, .ptr 59 0),(81, .d (sI bs)),(82,eN bs.length),(83,eN k)], [(59, .box [eN (g.n+(k:Int)), .ref 51, .ref 55, .ref 200, .mref 57]),(51, .own 73 2 ((gi g (bs.take k)).map rE)),(55, .own 3 1 ((dy g bs k p.ord).map rI)),(200, .own 31 1 (vI (p.outs++eO g k))),(57, .mp 0 (l9 g bs k))]⟩) (fun k=>bs.length - k) 0 (by omega) ?_ ?_
  ·refine Le.of ?_ ?_<;>simp [go_sem,simprocAttr,xZ,xW,eO,l9]
  rintro k hk
  rcases Nat.lt_or_ge k bs.length with hlt|hge
  ·have hb3:decide ((k:Int)<(bs.length:Int))=true:=decide_eq_true (by omega)
   have hL:=HU hrun dn hs1 DP hlt
   repeat' (first|(show bM _ (.region 17 _ _) _ _;(refine bt hX 59 1 301 51 rfl rfl rfl (by first|exact .inl rfl|exact .inr rfl) (by decide) (by decide) ?_;simp only [List.set_cons_zero,List.set_cons_succ,go_sem,simprocAttr,hb3,jO,HO]);(refine bt hX 59 2 302 55 rfl rfl rfl (by first|exact .inl rfl|exact .inr rfl) (by decide) (by decide) ?_;simp only [List.set_cons_zero,List.set_cons_succ,go_sem,simprocAttr,hb3,jO,HO]);(refine bt hX 59 3 303 200 rfl rfl rfl (by first|exact .inl rfl|exact .inr rfl) (by decide) (by decide) ?_;simp only [List.set_cons_zero,List.set_cons_succ,go_sem,simprocAttr,hb3,jO,HO]))|refine Rn.p ?_|(with_reducible apply And.intro)|((first|(refine hK _ ?_;clear hK K)|with_reducible intro K hK|refine Rs.p ?_|((with_reducible first|apply oP|apply oQ);exact rfl)|(refine aq hX hC hP [(10000,59),(10001,51),(10002,55),(10003,200),(10004,57),(10011,301),(10012,302),(10013,303)] (hL) rfl rfl rfl ?_ ?_ ?_ ?_ ?_ ?_ ?_ ?_ ?_ ?_ ?_ ?_ ?_ ?_;(focus (simp only [go_sem,simprocAttr,hb3,jO,HO];done));(iterate 12 (focus (simp [go_sem,simprocAttr,hb3,jO,HO];done)));try simp only [List.map_cons,List.map_nil]));try simp only [go_sem,simprocAttr,hb3,jO,HO])|((with_reducible refine oD ?_ ?_);kernel_rfl)|((with_reducible intro h);try simp only [go_sem,simprocAttr,hb3,jO,HO] at h)|omega|intro h)
   refine ⟨k+1,by omega, ?_,by omega⟩
   refine Le.of ?_ ?_<;>simp [go_sem,simprocAttr,hb3,jO,HO]
  ·have hb3:decide ((k:Int)<(bs.length:Int))=false:=decide_eq_false (by omega)
   obtain rfl:k=bs.length:=by omega
   rw [List.take_length]
   repeat' (first|refine Rn.p ?_|(with_reducible apply And.intro)|((first|(refine hK _ ?_;clear hK K)|with_reducible intro K hK|refine Rs.p ?_|((with_reducible first|apply oP|apply oQ);exact rfl));try simp only [go_sem,simprocAttr,hb3])|((with_reducible refine oD ?_ ?_);kernel_rfl)|((with_reducible intro h);try simp only [go_sem,simprocAttr,hb3] at h)|omega|intro h)
end Go.Ab
end
section
namespace Go.Ab
open Go.Proofs
attribute [local congr] ACall.congr gd.congr Nx.congr
set_option maxRecDepth 20000
set_option maxHeartbeats 8000000
noncomputable def sY (b:Bool) (g:Gr) (p:Pl):Gr × Pl × Int:=
 if (bA b g p).2.1=0∧o7 g=true then (if 64<g.n+(dA g).length∨128<g.es.length+(dA g).length then (gz,pz,10) else (aQ g (dA g),qt g p (dA g),0)) else (gz,pz,1)
end Go.Ab
end
section
namespace Go.Ab
open Go.Proofs
set_option maxRecDepth 10000
def nU (g:Gr) (both:Bool) (c:Nat→Bool) (a:List Bool):Nat→List Bool
 |0=>a
 |k+1=>if c k&&((nU g both c a k).getD (tl g k).toNat false||both&&(nU g both c a k).getD (hd g k).toNat false) then
   ((nU g both c a k).set (hd g k).toNat true).set (tl g k).toNat (((nU g both c a k).set (hd g k).toNat true).getD (tl g k).toNat false||both) else nU g both c a k
def qB (g:Gr) (both:Bool) (c:Nat→Bool) (a:List Bool):Nat→List Bool
 |0=>a
 |r+1=>nU g both c (qB g both c a r) g.es.length
theorem k8 {l:List Bool} {i j:Nat} {a:Bool} (hi:i<l.length):(l.set i a).getD j false=if j=i then a else l.getD j false:=by
 rw [List.getD_eq_getElem?_getD,List.getElem?_set]
 by_cases h:i=j
 ·subst h;simp [hi]
 ·rw [if_neg h,if_neg (fun e=>h e.symm),List.getD_eq_getElem?_getD]
theorem qu {g:Gr} {both:Bool} {c:Nat→Bool} {a:List Bool} :∀ {k:Nat},(nU g both c a k).length=a.length
 |0=>rfl
 |k+1=>by
  rw [nU]
  split
  ·rw [List.length_set,List.length_set];exact qu
  ·exact qu
theorem fB {g:Gr} {both:Bool} {c:Nat→Bool} {a:List Bool} :∀ {r:Nat},(qB g both c a r).length=a.length
 |0=>rfl
 |r+1=>by rw [qB,qu];exact fB
section
variable {g:Gr} (hm:aN g=true) {both:Bool} {c:Nat→Bool}
include hm
theorem DD {k:Nat} (hk:k<g.es.length):(tl g k).toNat<g.n.toNat∧(hd g k).toNat<g.n.toNat:=by
 have h1:=bk hm hk
 have h2:=bH hm hk
 omega
theorem mO {a:List Bool} (ha:a.length=g.n.toNat) {k:Nat} (hk:k<g.es.length) {y:Nat} :(nU g both c a (k+1)).getD y false=true↔
 (nU g both c a k).getD y false=true∨c k=true∧((nU g both c a k).getD (tl g k).toNat false=true∧(y=(hd g k).toNat)∨both=true∧(nU g both c a k).getD (hd g k).toNat false=true∧y=(tl g k).toNat):=by
 obtain ⟨ht,hh⟩:=DD hm hk
 have hl:(nU g both c a k).length=g.n.toNat:=by rw [qu,ha]
 rw [nU]
 generalize nU g both c a k=b at hl
 cases hc:c k with
 |false=>simp
 |true=>
  simp only [Bool.true_and]
  by_cases hq:(b.getD (tl g k).toNat false||both&&b.getD (hd g k).toNat false)=true
  ·rw [if_pos hq,k8 (by rw [List.length_set,hl];exact ht),k8 (by rw [hl];exact hh),k8 (by rw [hl];exact hh)]
   by_cases e1:y=(tl g k).toNat
   ·subst e1
    rw [if_pos rfl]
    by_cases e2:(tl g k).toNat=(hd g k).toNat
    ·rw [if_pos e2]
     simp only [Bool.true_or,true_iff]
     cases hb:b.getD (tl g k).toNat false with
     |true=>exact .inl rfl
     |false=>
      rw [hb] at hq
      rw [← e2,hb] at hq
      simp at hq
    ·rw [if_neg e2]
     cases hb:b.getD (tl g k).toNat false with
     |true=>simp
     |false=>
      rw [hb] at hq
      simp only [Bool.false_or,Bool.and_eq_true] at hq
      exact ⟨fun _=> .inr ⟨by simp, .inr ⟨hq.1,hq.2,rfl⟩⟩,fun _=>by rw [hq.1];rfl⟩
   ·rw [if_neg e1]
    by_cases e2:y=(hd g k).toNat
    ·subst e2
     rw [if_pos rfl]
     simp only [true_iff]
     cases hb:b.getD (tl g k).toNat false with
     |true=>exact .inr ⟨by simp, .inl ⟨by simp,by simp⟩⟩
     |false=>
      rw [hb] at hq
      simp only [Bool.false_or,Bool.and_eq_true] at hq
      exact .inl hq.2
    ·rw [if_neg e2]
     constructor
     ·intro h;exact .inl h
     ·rintro (h|⟨_,⟨_,h⟩|⟨_,_,h⟩⟩)
      ·exact h
      ·exact absurd h e2
      ·exact absurd h e1
  ·rw [if_neg hq]
   simp only [Bool.or_eq_true,Bool.and_eq_true,not_or,not_and] at hq
   constructor
   ·intro h;exact .inl h
   ·rintro (h|⟨_,⟨h,_⟩|⟨h1,h2,_⟩⟩)
    ·exact h
    ·exact absurd h hq.1
    ·exact absurd h2 (hq.2 h1)
theorem jI {a:List Bool} (ha:a.length=g.n.toNat) {y:Nat} (hy:a.getD y false=true):∀ {k:Nat},k≤g.es.length→(nU g both c a k).getD y false=true
 |0,_=>hy
 |k+1,hk=>(mO hm ha hk).2 (.inl (jI ha hy (by omega)))
theorem DE {a:List Bool} (ha:a.length=g.n.toNat) {x:Nat} (hs:∀y,a.getD y false=true→nT g both c x y):∀ {k:Nat},k≤g.es.length→∀y,(nU g both c a k).getD y false=true→nT g both c x y
 |0,_,y,h=>hs y h
 |k+1,hk,y,h=>by
  have ih:=DE ha hs (k:=k) (by omega)
  rcases (mO hm ha hk).1 h with h|⟨hc,⟨h1,rfl⟩|⟨h0,h1,rfl⟩⟩
  ·exact ih y h
  ·exact .fwd hk hc (ih _ h1)
  ·exact .Iw hk hc h0 (ih _ h1)
theorem JI {a:List Bool} (ha:a.length=g.n.toNat) (hf:∀y,(nU g both c a g.es.length).getD y false=true→a.getD y false=true) {x y:Nat} (hx:a.getD x false=true) (h:nT g both c x y):a.getD y false=true:=by
 have up:∀ {j k:Nat},j≤k→k≤g.es.length→∀y,(nU g both c a j).getD y false=true→(nU g both c a k).getD y false=true:=by
  intro j k hjk
  induction hjk with
  |refl=>intro _ y h;exact h
  |step _ ih=>intro hk y h;exact (mO hm ha hk).2 (.inl (ih (by omega) y h))
 induction h with
 |refl=>exact hx
 | @fwd k hk hc _ ih=>exact hf _ (up (show k+1≤g.es.length from hk) (Nat.le_refl _) _ ((mO hm ha hk).2 (.inr ⟨hc, .inl ⟨jI hm ha ih (by omega),rfl⟩⟩)))
 | @Iw k hk hc QH _ ih=>exact hf _ (up (show k+1≤g.es.length from hk) (Nat.le_refl _) _ ((mO hm ha hk).2 (.inr ⟨hc, .inr ⟨QH,jI hm ha ih (by omega),rfl⟩⟩)))
theorem DF {a:List Bool} (ha:a.length=g.n.toNat) {x:Nat} (hs:∀y,a.getD y false=true→nT g both c x y):∀r y,(qB g both c a r).getD y false=true→nT g both c x y
 |0,y,h=>hs y h
 |r+1,y,h=>DE hm (by rw [fB];exact ha) (DF ha hs r) (Nat.le_refl _) y h
def qv (a:List Bool):Nat:=a.countP id
omit hm in
theorem HV:∀ {a b:List Bool},a.length=b.length→(∀y,a.getD y false=true→b.getD y false=true)→(∃y,b.getD y false=true∧a.getD y false=false)→qv a<qv b∧True
 | [], [],_,_,⟨y,h,_⟩=>by simp at h
 |p::a,q::b,hl,h,⟨y,h1,h2⟩=>by
  have le:∀ {a b:List Bool},a.length=b.length→(∀y,a.getD y false=true→b.getD y false=true)→qv a≤qv b:=by
   intro a
   induction a with
   |nil=>intro b _ _;exact Nat.zero_le _
   |cons p a ih=>
    intro b hl h
    cases b with
    |nil=>simp at hl
    |cons q b=>
     have:=ih (b:=b) (by simpa using hl) fun y=>by simpa using h (y+1)
     have h0:=h 0
     simp only [List.getD_cons_zero] at h0
     unfold qv at this ⊢
     rw [List.countP_cons,List.countP_cons]
     cases p with
     |false=>simp;omega
     |true=>simp [h0 rfl];omega
  have hl':a.length=b.length:=by simpa using hl
  have h':∀y,a.getD y false=true→b.getD y false=true:=fun y=>by simpa using h (y+1)
  refine ⟨?_,trivial⟩
  have hle:=le hl' h'
  unfold qv at hle ⊢
  rw [List.countP_cons,List.countP_cons]
  cases y with
  |zero=>
   simp only [List.getD_cons_zero] at h1 h2
   subst h1 h2
   simp;omega
  |succ y=>
   have ih:=(HV hl' h' ⟨y,by simpa using h1,by simpa using h2⟩).1
   unfold qv at ih
   have h0:=h 0
   simp only [List.getD_cons_zero] at h0
   cases p with
   |false=>simp;omega
   |true=>simp [h0 rfl];omega
omit hm in
theorem LF (a:List Bool):qv a≤a.length:=List.countP_le_length
theorem HW {a:List Bool} (ha:a.length=g.n.toNat) (r:Nat):(∀y,(qB g both c a (r+1)).getD y false=true→(qB g both c a r).getD y false=true)∨qv (qB g both c a r)<qv (qB g both c a (r+1)):=by
 by_cases h:∀y,(qB g both c a (r+1)).getD y false=true→(qB g both c a r).getD y false=true
 ·exact .inl h
 ·refine .inr (HV (fB.trans (fB (r:=r+1)).symm) (fun y hy=>jI hm (by rw [fB];exact ha) hy (Nat.le_refl _)) ?_).1
  simp only [Classical.not_forall] at h
  obtain ⟨y,h1,h2⟩:=h
  exact ⟨y,h1,by simpa using h2⟩
theorem HX {a:List Bool} (ha:a.length=g.n.toNat) {x:Nat} (hx:a.getD x false=true) (hs:∀y,a.getD y false=true→nT g both c x y) (hc1:0<qv a) (y:Nat):(qB g both c a g.n.toNat).getD y false=true↔nT g both c x y:=by
 refine ⟨DF hm ha hs _ y,fun h=> ?_⟩
 have QM:∀r,(qB g both c a r).getD x false=true:=fun r=>by
  induction r with
  |zero=>exact hx
  |succ r ih=>exact jI hm (by rw [fB];exact ha) ih (Nat.le_refl _)
 have key:∀r,(∀y,nT g both c x y→(qB g both c a r).getD y false=true)∨r<qv (qB g both c a r):=by
  intro r
  induction r with
  |zero=>exact .inr hc1
  |succ r ih=>
   rcases ih with ih|ih
   ·exact .inl fun y hy=>jI hm (by rw [fB];exact ha) (ih y hy) (Nat.le_refl _)
   ·rcases HW hm ha r with h|h
    ·exact .inl fun y hy=>jI hm (by rw [fB];exact ha) (JI hm (by rw [fB];exact ha) h (QM r) hy) (Nat.le_refl _)
    ·exact .inr (by omega)
 rcases key g.n.toNat with h1|h1
 ·exact h1 y h
 ·have:=LF (qB g both c a g.n.toNat)
  rw [fB,ha] at this
  omega
end
end Go.Ab
end
section
namespace Go.Ab
open Go.Proofs
attribute [local congr] ACall.congr gd.congr Nx.congr
set_option maxRecDepth 20000
set_option maxHeartbeats 8000000
theorem CE (g:Gr) (hl:g.es.length≤1000):Spec Tryz.prog 128 (Args [eG g]) [] (.ref 10000) [(10000, .own 4 1 ((gB g.es.length g.es.length).map rB))]:=by
 have hz:=uT (n:=g.es.length)
 (refine Spec.tg (C:=T.cfg [8] []) (rs:= [.t 2]) [(10000,8)] (T.ai _ _) Tryz.func128 rfl rfl Tryz.ntmps128 Tryz.results128 (by simp [AObj.isNest]) (by simp [AObj.isNest]) (by first|(simp [look];done)|(simp [asN];done)|(intro l hl;simp only [asN];repeat (rw [if_neg (fun e=>by subst e;simp [look] at hl)]))) (by first|(simp [look];done)|(simp [asN];done)|(intro l hl;simp only [asN];repeat (rw [if_neg (fun e=>by subst e;simp [look] at hl)]))) (by kernel_rfl) T.mixed fun X hX hP hC aH bU=> ?_)
 repeat' (first|refine Rn.p ?_|(with_reducible apply And.intro)|((first|(refine hK _ ?_;clear hK K)|with_reducible intro K hK|refine Rs.p ?_|((with_reducible first|apply oP|apply oQ);exact rfl));try simp only [go_sem,simprocAttr,hz])|((with_reducible refine oD ?_ ?_);kernel_rfl)|((with_reducible intro h);try simp only [go_sem,simprocAttr,hz] at h)|omega|intro h)
 refine ag (fun k:Nat=>k≤g.es.length) (fun k=>⟨[(3, .ref 8),(4,eN k)], [(8, .own 4 1 ((gB g.es.length k).map rB))]⟩) (fun k=>g.es.length - k) 0 (by omega) ?_ ?_
 ·refine Le.of ?_ ?_<;>simp [go_sem,simprocAttr,hz]
 rintro k hk
 have oZ:=trueK_length (n:=g.es.length) (k:=k)
 rcases Nat.lt_or_ge k g.es.length with hlt|hge
 ·have hb:decide ((k:Int)<(g.es.length:Int))=true:=decide_eq_true (by omega)
  have bw:=ju (n:=g.es.length) (k:=k)
  generalize gB g.es.length k=L at oZ bw
  repeat' (first|refine Rn.p ?_|(with_reducible apply And.intro)|((first|(refine hK _ ?_;clear hK K)|with_reducible intro K hK|refine Rs.p ?_|((with_reducible first|apply oP|apply oQ);exact rfl));try simp only [go_sem,simprocAttr,hb,oZ,bW])|((with_reducible refine oD ?_ ?_);kernel_rfl)|((with_reducible intro h);try simp only [go_sem,simprocAttr,hb,oZ,bW] at h)|omega|intro h)
  refine ⟨k+1,by omega, ?_,by omega⟩
  rw [← bw]
  refine Le.of ?_ ?_<;>simp [go_sem,simprocAttr,hb,oZ,bW]
 ·have hb:decide ((k:Int)<(g.es.length:Int))=false:=decide_eq_false (by omega)
  obtain rfl:k=g.es.length:=by omega
  repeat' (first|refine Rn.p ?_|(with_reducible apply And.intro)|((first|(refine hK _ ?_;clear hK K)|with_reducible intro K hK|refine Rs.p ?_|((with_reducible first|apply oP|apply oQ);exact rfl));try simp only [go_sem,simprocAttr,hb,oZ])|((with_reducible refine oD ?_ ?_);kernel_rfl)|((with_reducible intro h);try simp only [go_sem,simprocAttr,hb,oZ] at h)|omega|intro h)
def fm (n x:Nat):List Bool:=(List.replicate n false).set x true
theorem oY {n x:Nat} :(fm n x).length=n:=by simp [fm]
theorem HY {n:Nat} :List.replicate n [D.sc (.bool false)]=(List.replicate n false).map rB:=by simp [rB]
theorem CF (g:Gr) (hm:aN g=true) (x:Nat) (hx:x<g.n.toNat) (both:Bool) (cs:List Bool) (hcs:cs.length=g.es.length):
 Spec Tryz.prog 129 (Args [eG g,eN x,eB both, .d (sB cs)]) [] (.d (sB (qB g both (fun k=>cs.getD k false) (fm g.n.toNat x) g.n.toNat))) []:=by
 have hn:=aC hm
 have hst:(List.replicate g.n.toNat false).set x true=fm g.n.toNat x:=rfl
 have Fm:=oY (n:=g.n.toNat) (x:=x)
 generalize hc:(fun k=>cs.getD k false)=c
 (refine Spec.hd (C:=T.cfg [15] []) (rs:= [.t 8]) (T.ai _ _) Tryz.func129 rfl rfl Tryz.ntmps129 Tryz.results129 (by simp [AObj.isNest]) (by simp [AObj.isNest]) (by kernel_rfl) T.mixed fun X hX hP hC aH bU=> ?_)
 repeat' (first|refine Rn.p ?_|(with_reducible apply And.intro)|((first|(refine hK _ ?_;clear hK K)|with_reducible intro K hK|refine Rs.p ?_|((with_reducible first|apply oP|apply oQ);exact rfl));try simp only [go_sem,simprocAttr,HY,bW,hst,List.length_replicate])|((with_reducible refine oD ?_ ?_);kernel_rfl)|((with_reducible intro h);try simp only [go_sem,simprocAttr,HY,bW,hst,List.length_replicate] at h)|omega|intro h)
 refine ag (fun r:Nat=>r≤g.n.toNat) (fun r=>⟨[(2,eB both),(3, .d (sB cs)),(4, .ptr 4 0),(9, .ref 15),(10,eN r)], [(4, .box [eN g.n, .d (sE g.es)]),(15, .own 4 1 ((qB g both c (fm g.n.toNat x) r).map rB))]⟩) (fun r=>g.n.toNat - r) 0 (by omega) ?_ ?_
 ·refine Le.of ?_ ?_<;>simp [go_sem,simprocAttr,qB]
 rintro r hr
 have hRl:(qB g both c (fm g.n.toNat x) r).length=g.n.toNat:=by rw [fB];exact Fm
 rcases Nat.lt_or_ge r g.n.toNat with hlt|hge
 rotate_left
 ·have hb:decide ((r:Int)<g.n)=false:=decide_eq_false (by omega)
  obtain rfl:r=g.n.toNat:=by omega
  repeat' (first|refine Rn.p ?_|(with_reducible apply And.intro)|((first|(refine hK _ ?_;clear hK K)|with_reducible intro K hK|refine Rs.p ?_|((with_reducible first|apply oP|apply oQ);exact rfl));try simp only [go_sem,simprocAttr,hb])|((with_reducible refine oD ?_ ?_);kernel_rfl)|((with_reducible intro h);try simp only [go_sem,simprocAttr,hb] at h)|omega|intro h)
 have hb:decide ((r:Int)<g.n)=true:=decide_eq_true (by omega)
 have NS:qB g both c (fm g.n.toNat x) (r+1)=nU g both c (qB g both c (fm g.n.toNat x) r) g.es.length:=rfl
 generalize qB g both c (fm g.n.toNat x) r=a at hRl NS ⊢
 repeat' (first|refine Rn.p ?_|(with_reducible apply And.intro)|((first|(refine hK _ ?_;clear hK K)|with_reducible intro K hK|refine Rs.p ?_|((with_reducible first|apply oP|apply oQ);exact rfl));try simp only [go_sem,simprocAttr,hb])|((with_reducible refine oD ?_ ?_);kernel_rfl)|((with_reducible intro h);try simp only [go_sem,simprocAttr,hb] at h)|omega|intro h)
 refine ag (fun k:Nat=>k≤g.es.length) (fun k=>⟨[(2,eB both),(3, .d (sB cs)),(4, .ptr 4 0),(9, .ref 15),(10,eN r),(11,eN k)], [(4, .box [eN g.n, .d (sE g.es)]),(15, .own 4 1 ((nU g both c a k).map rB))]⟩) (fun k=>g.es.length - k) 0 (by omega) ?_ ?_
 ·refine Le.of ?_ ?_<;>simp [go_sem,simprocAttr,nU]
 rintro k hk
 rcases Nat.lt_or_ge k g.es.length with QN|TJ
 rotate_left
 ·have dn:decide ((k:Int)<(g.es.length:Int))=false:=decide_eq_false (by omega)
  obtain rfl:k=g.es.length:=by omega
  repeat' (first|refine Rn.p ?_|(with_reducible apply And.intro)|((first|(refine hK _ ?_;clear hK K)|with_reducible intro K hK|refine Rs.p ?_|((with_reducible first|apply oP|apply oQ);exact rfl));try simp only [go_sem,simprocAttr,dn])|((with_reducible refine oD ?_ ?_);kernel_rfl)|((with_reducible intro h);try simp only [go_sem,simprocAttr,dn] at h)|omega|intro h)
  refine ⟨r+1,by omega, ?_,by omega⟩
  rw [NS]
  refine Le.of ?_ ?_<;>simp [go_sem,simprocAttr,dn]
 have dn:decide ((k:Int)<(g.es.length:Int))=true:=decide_eq_true (by omega)
 obtain ⟨ht,hh⟩:=cM hm QN
 obtain ⟨u,hu⟩:∃u:Nat,(g.es.getD k (0,0)).1=u:=⟨(g.es.getD k (0,0)).1.toNat,by omega⟩
 obtain ⟨v,hv⟩:∃v:Nat,(g.es.getD k (0,0)).2=v:=⟨(g.es.getD k (0,0)).2.toNat,by omega⟩
 rw [hu] at ht
 rw [hv] at hh
 have htl:(tl g k).toNat=u:=by show ((g.es.getD k (0,0)).1).toNat=u;rw [hu];rfl
 have Cm:(hd g k).toNat=v:=by show ((g.es.getD k (0,0)).2).toNat=v;rw [hv];rfl
 have TL:c k=cs.getD k false:=by rw [← hc]
 have bw:nU g both c a (k+1)=if (cs.getD k false&&((nU g both c a k).getD u false||both&&(nU g both c a k).getD v false))=true then ((nU g both c a k).set v true).set u (((nU g both c a k).set v true).getD u false||both) else nU g both c a k:=by
  rw [← TL,nU,htl,Cm]
 have LG:(nU g both c a k).length=g.n.toNat:=by rw [qu,hRl]
 generalize nU g both c a k=b at bw LG
 generalize hq1:b.getD u false=q1 at bw
 generalize uD:b.getD v false=q2 at bw
 generalize QO:(b.set v true).getD u false=q3 at bw
 generalize IZ:cs.getD k false=q0 at bw
 have MG:(b.set v true).length=g.n.toNat:=by rw [List.length_set];exact LG
 cases q0<;>cases q1<;>cases both<;>cases q2<;>cases q3<;>simp only [Bool.or_false,Bool.or_true,Bool.false_or,Bool.true_or,Bool.and_true,Bool.true_and,Bool.and_false,Bool.false_and,Bool.false_eq_true,if_true,if_false] at bw
 all_goals (repeat' (first|refine Rn.p ?_|(with_reducible apply And.intro)|((first|(refine hK _ ?_;clear hK K)|with_reducible intro K hK|refine Rs.p ?_|((with_reducible first|apply oP|apply oQ);exact rfl));try simp only [go_sem,simprocAttr,dn,hu,hv,LG,hcs,IZ,hq1,uD,QO,MG,bW])|((with_reducible refine oD ?_ ?_);kernel_rfl)|((with_reducible intro h);try simp only [go_sem,simprocAttr,dn,hu,hv,LG,hcs,IZ,hq1,uD,QO,MG,bW] at h)|omega|intro h))
 all_goals (refine ⟨k+1,by omega, ?_,by omega⟩)
 all_goals (rw [bw])
 all_goals (refine Le.of ?_ ?_<;>simp [go_sem,simprocAttr,dn,hu,hv,LG,hcs,IZ,hq1,uD,QO,MG,bW])
theorem nT.congr {g:Gr} {both:Bool} {c c':Nat→Bool} (h:∀k,k<g.es.length→c k=c' k) {x y:Nat} (hr:nT g both c x y):nT g both c' x y:=by
 induction hr with
 |refl=>exact .refl
 | @fwd i a b _ ih=>exact .fwd a (by rw [← h i a];exact b) ih
 | @Iw i a b d _ ih=>exact .Iw a (by rw [← h i a];exact b) d ih
theorem x6 {n x y:Nat} (hx:x<n):(fm n x).getD y false=true↔y=x:=by
 unfold fm
 rw [k8 (by simpa using hx)]
 by_cases h:y=x
 ·rw [if_pos h];simp [h]
 ·rw [if_neg h]
  simp only [h,iff_false,Bool.not_eq_true]
  rw [List.getD_eq_getElem?_getD,List.getElem?_replicate]
  split<;>rfl
theorem CG {n x:Nat} (hx:x<n):0<qv (fm n x):=by
 unfold qv
 rw [List.countP_pos_iff]
 refine ⟨true, ?_,rfl⟩
 unfold fm
 rw [List.mem_iff_getElem?]
 exact ⟨x,by rw [List.getElem?_set_self (by simpa using hx)]⟩
def w6 (m i:Nat):List Bool:=(gB m m).set i false
theorem HZ {m i:Nat} :(w6 m i).length=m:=by rw [w6,List.length_set,trueK_length]
theorem DG {m i k:Nat} (hi:i<m) (hk:k<m):(w6 m i).getD k false=oW i k:=by
 unfold w6 oW
 rw [k8 (by rw [trueK_length];exact hi)]
 by_cases h:k=i
 ·subst h;simp
 ·rw [if_neg h,gB,List.getD_eq_getElem?_getD,List.getElem?_map,List.getElem?_range hk]
  simp [hk];omega
theorem qw {g:Gr} (hm:aN g=true) {i:Nat} (hi:i<g.es.length):(qB g false (fun k=>(w6 g.es.length i).getD k false) (fm g.n.toNat (tl g i).toNat) g.n.toNat).getD (hd g i).toNat false=Bd g i:=by
 obtain ⟨ht,hh⟩:=DD hm hi
 rw [Bool.eq_iff_iff,HX hm oY ((x6 ht).2 rfl) (fun y hy=>by rw [(x6 ht).1 hy];exact .refl) (CG ht),Bd,zo ht,zq]
 constructor
 ·intro h
  exact ⟨hh,h.congr fun k hk=>DG hi hk⟩
 ·rintro ⟨_,h⟩
  exact h.congr fun k hk=>(DG hi hk).symm
end Go.Ab
end
section
namespace Go.Ab
open Go.Proofs
attribute [local congr] ACall.congr gd.congr Nx.congr
set_option maxRecDepth 20000
set_option maxHeartbeats 8000000
theorem wg (g:Gr) (hm:aN g=true):Spec Tryz.prog 85 (Args [eG g]) [] (.d (sI (dA g))) []:=by
 have hn:=aC hm
 have hE:=CE g (by omega)
 have hT:dA g=w4 g g.es.length:=if_pos hm
 rw [hT]
 have pq:=fun i=>HZ (m:=g.es.length) (i:=i)
 have hbd:∀i,(gB g.es.length g.es.length).set i false=w6 g.es.length i:=fun _=>rfl
 have htl:=trueK_length (n:=g.es.length) (k:=g.es.length)
 generalize gB g.es.length g.es.length=TT at hE hbd htl
 (refine Spec.hd (C:=T.cfg [7,37,36,16] []) (rs:= [.t 2]) (T.ai _ _) Tryz.func85 rfl rfl Tryz.ntmps85 Tryz.results85 (by simp [AObj.isNest]) (by simp [AObj.isNest]) (by kernel_rfl) T.mixed fun X hX hP hC aH bU=> ?_)
 repeat' (first|(show bM _ (.seq (.region 2 _ _) _) _ _;(refine ke hX 3 7 200 (by simp only [go_sem,simprocAttr]) rfl (by first|exact .inl rfl|exact .inr rfl) (by decide) ?_;simp only [go_sem,simprocAttr]))|refine Rn.p ?_|(with_reducible apply And.intro)|((first|(refine hK _ ?_;clear hK K)|with_reducible intro K hK|refine Rs.p ?_|((with_reducible first|apply oP|apply oQ);exact rfl));try simp only [go_sem,simprocAttr])|((with_reducible refine oD ?_ ?_);kernel_rfl)|((with_reducible intro h);try simp only [go_sem,simprocAttr] at h)|omega|intro h)
 refine ag (fun k:Nat=>k≤g.es.length) (fun k=>⟨[(1, .ptr 1 0),(3, .ref 200),(4,eN k)], [(1, .box [eN g.n, .d (sE g.es)]),(200, .own 3 1 ((w4 g k).map rI))]⟩) (fun k=>g.es.length - k) 0 (by omega) ?_ ?_
 ·refine Le.of ?_ ?_<;>simp [go_sem,simprocAttr,w4]
 rintro k hk
 rcases Nat.lt_or_ge k g.es.length with hlt|hge
 rotate_left
 ·have hb:decide ((k:Int)<(g.es.length:Int))=false:=decide_eq_false (by omega)
  obtain rfl:k=g.es.length:=by omega
  repeat' (first|refine Rn.p ?_|(with_reducible apply And.intro)|((first|(refine hK _ ?_;clear hK K)|with_reducible intro K hK|refine Rs.p ?_|((with_reducible first|apply oP|apply oQ);exact rfl));try simp only [go_sem,simprocAttr,hb])|((with_reducible refine oD ?_ ?_);kernel_rfl)|((with_reducible intro h);try simp only [go_sem,simprocAttr,hb] at h)|omega|intro h)
 have hb:decide ((k:Int)<(g.es.length:Int))=true:=decide_eq_true (by omega)
 have bw:=mM (g:=g) (k:=k)
 have oZ:=tL (g:=g) (k:=k)
 obtain ⟨ht,hh⟩:=cM hm hlt
 obtain ⟨x,hx⟩:∃x:Nat,(g.es.getD k (0,0)).1=x:=⟨(g.es.getD k (0,0)).1.toNat,by omega⟩
 obtain ⟨y,hy⟩:∃y:Nat,(g.es.getD k (0,0)).2=y:=⟨(g.es.getD k (0,0)).2.toNat,by omega⟩
 rw [hx] at ht
 rw [hy] at hh
 have e1:(tl g k).toNat=x:=by show ((g.es.getD k (0,0)).1).toNat=x;rw [hx];rfl
 have e2:(hd g k).toNat=y:=by show ((g.es.getD k (0,0)).2).toNat=y;rw [hy];rfl
 have hV:=qw hm hlt
 rw [e1,e2] at hV
 have OD:=CF g hm x (by omega) false (w6 g.es.length k) (pq k)
 have o8:(qB g false (fun q=>(w6 g.es.length k).getD q false) (fm g.n.toNat x) g.n.toNat).length=g.n.toNat:=by rw [fB];exact oY
 generalize qB g false (fun q=>(w6 g.es.length k).getD q false) (fm g.n.toNat x) g.n.toNat=R at hV OD o8
 have dn:=hbd k
 have mP:=pq k
 generalize w6 g.es.length k=BL at OD dn mP
 generalize w4 g k=O at bw oZ
 generalize Bd g k=tb at bw hV
 cases tb with
 |true=>
  rw [if_pos rfl] at bw
  repeat' (first|(show bM _ (.seq (.region 8 _ _) _) _ _;(refine cG hX 16 rfl (.inl rfl) ?_;simp only [go_sem,simprocAttr,hb,hx,hy,htl,dn,mP,o8,hV,bW,sB,getD_rB]))|(show bM _ (.region 4 _ _) _ _;(refine ke hX 3 37 200 (by simp only [go_sem,simprocAttr,hb,hx,hy,htl,dn,mP,o8,hV,bW,sB,getD_rB]) rfl (by first|exact .inl rfl|exact .inr rfl) (by decide) ?_;simp only [go_sem,simprocAttr,hb,hx,hy,htl,dn,mP,o8,hV,bW,sB,getD_rB]))|refine Rn.p ?_|(with_reducible apply And.intro)|((first|(refine hK _ ?_;clear hK K)|with_reducible intro K hK|refine Rs.p ?_|((with_reducible first|apply oP|apply oQ);exact rfl)|(refine aq hX hC hP [(10000,16)] (hE) rfl rfl rfl ?_ ?_ ?_ ?_ ?_ ?_ ?_ ?_ ?_ ?_ ?_ ?_ ?_ ?_;(focus (simp only [go_sem,simprocAttr,hb,hx,hy,htl,dn,mP,o8,hV,bW,sB,getD_rB];done));(iterate 12 (focus (simp [go_sem,simprocAttr,hb,hx,hy,htl,dn,mP,o8,hV,bW,sB,getD_rB];done)));try simp only [List.map_cons,List.map_nil])|refine aa hX hC hP (OD) rfl rfl rfl (by simp only [go_sem,simprocAttr,hb,hx,hy,htl,dn,mP,o8,hV,bW,sB,getD_rB]) rfl ?_);try simp only [go_sem,simprocAttr,hb,hx,hy,htl,dn,mP,o8,hV,bW,sB,getD_rB])|((with_reducible refine oD ?_ ?_);kernel_rfl)|((with_reducible intro h);try simp only [go_sem,simprocAttr,hb,hx,hy,htl,dn,mP,o8,hV,bW,sB,getD_rB] at h)|omega|intro h)
  refine ⟨k+1,by omega, ?_,by omega⟩
  rw [bw]
  refine Le.of ?_ ?_<;>simp [go_sem,simprocAttr,hb,hx,hy,htl,dn,mP,o8,hV,bW,sB,getD_rB,rI]
 |false=>
  rw [if_neg (by simp)] at bw
  repeat' (first|(show bM _ (.seq (.region 8 _ _) _) _ _;(refine cG hX 16 rfl (.inl rfl) ?_;simp only [go_sem,simprocAttr,hb,hx,hy,htl,dn,mP,o8,hV,bW,sB,getD_rB]))|refine Rn.p ?_|(with_reducible apply And.intro)|((first|(refine hK _ ?_;clear hK K)|with_reducible intro K hK|refine Rs.p ?_|((with_reducible first|apply oP|apply oQ);exact rfl)|(refine aq hX hC hP [(10000,16)] (hE) rfl rfl rfl ?_ ?_ ?_ ?_ ?_ ?_ ?_ ?_ ?_ ?_ ?_ ?_ ?_ ?_;(focus (simp only [go_sem,simprocAttr,hb,hx,hy,htl,dn,mP,o8,hV,bW,sB,getD_rB];done));(iterate 12 (focus (simp [go_sem,simprocAttr,hb,hx,hy,htl,dn,mP,o8,hV,bW,sB,getD_rB];done)));try simp only [List.map_cons,List.map_nil])|refine aa hX hC hP (OD) rfl rfl rfl (by simp only [go_sem,simprocAttr,hb,hx,hy,htl,dn,mP,o8,hV,bW,sB,getD_rB]) rfl ?_);try simp only [go_sem,simprocAttr,hb,hx,hy,htl,dn,mP,o8,hV,bW,sB,getD_rB])|((with_reducible refine oD ?_ ?_);kernel_rfl)|((with_reducible intro h);try simp only [go_sem,simprocAttr,hb,hx,hy,htl,dn,mP,o8,hV,bW,sB,getD_rB] at h)|omega|intro h)
  refine ⟨k+1,by omega, ?_,by omega⟩
  rw [bw]
  refine Le.of ?_ ?_<;>simp [go_sem,simprocAttr,hb,hx,hy,htl,dn,mP,o8,hV,bW,sB,getD_rB]
end Go.Ab
end
section
namespace Go.Ab
open Go.Proofs
attribute [local congr] ACall.congr gd.congr Nx.congr
set_option maxRecDepth 10000
set_option maxHeartbeats 16000000
theorem rJ (g:Gr) (hl:g.es.length≤9223372036854775807) (p:Pl) (hp:gE p) (b:Bool) (hr:b=true↔(bL g).1=0∧aU g p):Spec Tryz.prog 20 (Args [eG g,ePl p]) [] (eB (decide ((bA b g p).2.1=0))) []:=by
 have hO:=sn g hl p hp b hr
 generalize bA b g p=R at hO
 (refine Spec.hd (C:=T.cfg [] []) (rs:= [.t 4]) (T.ai _ _) Tryz.func20 rfl rfl Tryz.ntmps20 Tryz.results20 (by simp [AObj.isNest]) (by simp [AObj.isNest]) (by kernel_rfl) T.mixed fun X hX hP hC aH bU=> ?_)
 repeat' (first|refine Rn.p ?_|(with_reducible apply And.intro)|((first|(refine hK _ ?_;clear hK K)|with_reducible intro K hK|refine Rs.p ?_|((with_reducible first|apply oP|apply oQ);exact rfl)|refine aa hX hC hP (hO) rfl rfl rfl (by simp only [go_sem,simprocAttr]) rfl ?_);try simp only [go_sem,simprocAttr])|((with_reducible refine oD ?_ ?_);kernel_rfl)|((with_reducible intro h);try simp only [go_sem,simprocAttr] at h)|omega|intro h)
end Go.Ab
end
section
namespace Go.Ab
open Go.Proofs
attribute [local congr] ACall.congr gd.congr Nx.congr
set_option maxRecDepth 20000
set_option maxHeartbeats 8000000
theorem zx (g:Gr) (hl:g.es.length≤1000) (p:Pl) (hp:gE p) (b:Bool) (hr:b=true↔(bL g).1=0∧aU g p) (hno:¬((bA b g p).2.1=0∧o7 g=true)):
 Spec Tryz.prog 39 (Args [eG g,ePl p]) [] (.tup [eG gz,ePl pz,eN 1]) []:=by
 have hO:=rJ g (by omega) p hp b hr
 have hI:=oT g hl
 cases BB:o7 g with
 |false=>
  rw [BB] at hI
  (refine Spec.hd (C:=T.cfg [] []) (rs:= [.c 4 24, .c 5 34, .t 6]) (T.ai _ _) Tryz.func39 rfl rfl Tryz.ntmps39 Tryz.results39 (by simp [AObj.isNest]) (by simp [AObj.isNest]) (by kernel_rfl) T.mixed fun X hX hP hC aH bU=> ?_)
  repeat' (first|refine Rn.p ?_|(with_reducible apply And.intro)|((first|(refine hK _ ?_;clear hK K)|with_reducible intro K hK|refine Rs.p ?_|((with_reducible first|apply oP|apply oQ);exact rfl)|refine aa hX hC hP (hI) rfl rfl rfl (by simp only [go_sem,simprocAttr,gz,pz]) rfl ?_);try simp only [go_sem,simprocAttr,gz,pz])|((with_reducible refine oD ?_ ?_);kernel_rfl)|((with_reducible intro h);try simp only [go_sem,simprocAttr,gz,pz] at h)|omega|intro h)
  rfl
 |true=>
  rw [BB] at hI
  have h0:¬(bA b g p).2.1=0:=fun e=>hno ⟨e,BB⟩
  rw [decide_eq_false h0] at hO
  (refine Spec.hd (C:=T.cfg [] []) (rs:= [.c 4 24, .c 5 34, .t 6]) (T.ai _ _) Tryz.func39 rfl rfl Tryz.ntmps39 Tryz.results39 (by simp [AObj.isNest]) (by simp [AObj.isNest]) (by kernel_rfl) T.mixed fun X hX hP hC aH bU=> ?_)
  repeat' (first|refine Rn.p ?_|(with_reducible apply And.intro)|((first|(refine hK _ ?_;clear hK K)|with_reducible intro K hK|refine Rs.p ?_|((with_reducible first|apply oP|apply oQ);exact rfl)|refine aa hX hC hP (hI) rfl rfl rfl (by simp only [go_sem,simprocAttr,gz,pz]) rfl ?_|refine aa hX hC hP (hO) rfl rfl rfl (by simp only [go_sem,simprocAttr,gz,pz]) rfl ?_);try simp only [go_sem,simprocAttr,gz,pz])|((with_reducible refine oD ?_ ?_);kernel_rfl)|((with_reducible intro h);try simp only [go_sem,simprocAttr,gz,pz] at h)|omega|intro h)
  rfl
theorem w8 (g:Gr) (hl:g.es.length≤1000) (p:Pl) (hp:gE p) (b:Bool) (hr:b=true↔(bL g).1=0∧aU g p) (h0:(bA b g p).2.1=0) (BB:o7 g=true) (hbig:64<g.n+(dA g).length∨128<g.es.length+(dA g).length):
 Spec Tryz.prog 39 (Args [eG g,ePl p]) [] (.tup [eG gz,ePl pz,eN 10]) []:=by
 have hO:=rJ g (by omega) p hp b hr
 have hI:=oT g hl
 obtain ⟨hrun,hR⟩:=gT hr h0
 have hm:=an hrun.1
 have hT:=wg g hm
 rw [decide_eq_true h0] at hO
 rw [BB] at hI
 have hn:=aC hm
 have oZ:(dA g).length≤1000:=by
  have h1:dA g=w4 g g.es.length:=if_pos hm
  have:=tL (g:=g) (k:=g.es.length)
  rw [h1];omega
 generalize dA g=bs at hT hbig oZ
 by_cases hA:64<g.n+(bs.length:Int)
 ·have hb1:decide (64<g.n+(bs.length:Int))=true:=decide_eq_true hA
  (refine Spec.hd (C:=T.cfg [] []) (rs:= [.c 4 24, .c 5 34, .t 6]) (T.ai _ _) Tryz.func39 rfl rfl Tryz.ntmps39 Tryz.results39 (by simp [AObj.isNest]) (by simp [AObj.isNest]) (by kernel_rfl) T.mixed fun X hX hP hC aH bU=> ?_)
  repeat' (first|refine Rn.p ?_|(with_reducible apply And.intro)|((first|(refine hK _ ?_;clear hK K)|with_reducible intro K hK|refine Rs.p ?_|((with_reducible first|apply oP|apply oQ);exact rfl)|refine aa hX hC hP (hO) rfl rfl rfl (by simp only [go_sem,simprocAttr,hb1,gz,pz]) rfl ?_|refine aa hX hC hP (hI) rfl rfl rfl (by simp only [go_sem,simprocAttr,hb1,gz,pz]) rfl ?_|refine aa hX hC hP (hT) rfl rfl rfl (by simp only [go_sem,simprocAttr,hb1,gz,pz]) rfl ?_);try simp only [go_sem,simprocAttr,hb1,gz,pz])|((with_reducible refine oD ?_ ?_);kernel_rfl)|((with_reducible intro h);try simp only [go_sem,simprocAttr,hb1,gz,pz] at h)|omega|intro h)
  rfl
 ·have hb1:decide (64<g.n+(bs.length:Int))=false:=decide_eq_false hA
  have hb2:decide (128<(g.es.length:Int)+(bs.length:Int))=true:=decide_eq_true (by omega)
  (refine Spec.hd (C:=T.cfg [] []) (rs:= [.c 4 24, .c 5 34, .t 6]) (T.ai _ _) Tryz.func39 rfl rfl Tryz.ntmps39 Tryz.results39 (by simp [AObj.isNest]) (by simp [AObj.isNest]) (by kernel_rfl) T.mixed fun X hX hP hC aH bU=> ?_)
  repeat' (first|refine Rn.p ?_|(with_reducible apply And.intro)|((first|(refine hK _ ?_;clear hK K)|with_reducible intro K hK|refine Rs.p ?_|((with_reducible first|apply oP|apply oQ);exact rfl)|refine aa hX hC hP (hO) rfl rfl rfl (by simp only [go_sem,simprocAttr,hb1,hb2,gz,pz]) rfl ?_|refine aa hX hC hP (hI) rfl rfl rfl (by simp only [go_sem,simprocAttr,hb1,hb2,gz,pz]) rfl ?_|refine aa hX hC hP (hT) rfl rfl rfl (by simp only [go_sem,simprocAttr,hb1,hb2,gz,pz]) rfl ?_);try simp only [go_sem,simprocAttr,hb1,hb2,gz,pz])|((with_reducible refine oD ?_ ?_);kernel_rfl)|((with_reducible intro h);try simp only [go_sem,simprocAttr,hb1,hb2,gz,pz] at h)|omega|intro h)
  rfl
end Go.Ab
end
section
namespace Go.Ab
open Go.Proofs
attribute [local congr] ACall.congr gd.congr Nx.congr
set_option maxRecDepth 20000
set_option maxHeartbeats 16000000
theorem DH {g:Gr} {bs:List Int} {k:Nat} {v:Int} :(jN g bs k v).length≤k:=by
 unfold jN
 rw [List.length_map]
 exact Nat.le_trans (List.length_filter_le _ _) (by simp)
theorem Fb {g:Gr} {bs:List Int} {k:Nat} {l:List Int} {i:Nat} (hi:i<l.length):dy g bs k (l.take (i+1))=dy g bs k (l.take i)++(l.getD i 0::jN g bs k (l.getD i 0)):=by
 rw [List.take_add_one,List.getElem?_eq_getElem hi,Option.toList_some,vV,List.getD_eq_getElem?_getD,List.getElem?_eq_getElem hi]
 simp [dy]
theorem x7 {g:Gr} {bs:List Int} {k:Nat} :∀ {l:List Int},(dy g bs k l).length≤l.length*(k+1)
 | []=>by simp [dy]
 |v::l=>by
  have:=x7 (g:=g) (bs:=bs) (k:=k) (l:=l)
  have h2:=DH (g:=g) (bs:=bs) (k:=k) (v:=v)
  rw [gW,List.length_cons,List.length_append,List.length_cons,Nat.add_mul]
  omega
theorem zy (g:Gr) (hl:g.es.length≤1000) (p:Pl) (hp:gE p) (hrun:aX g p) (BB:o7 g=true) (bs:List Int) (QL:dA g=bs) (hs1:g.n+bs.length≤64) (DP:g.es.length+bs.length≤128):
 Spec Tryz.prog 39 (Args [eG g,ePl p]) [] (.tup [eG (aQ g bs),ePl (qt g p bs),eN 0]) []:=by
 have hr:(true=true)↔(bL g).1=0∧aU g p:=⟨fun _=>⟨hrun.1,hrun.2.1⟩,fun _=>rfl⟩
 have hO:=rJ g (by omega) p hp true hr
 rw [jH hr hrun] at hO
 have hO:Spec Tryz.prog 20 (Args [eG g,ePl p]) [] (eB true) []:=hO
 have hI:=oT g hl
 rw [BB] at hI
 have hm:=an hrun.1
 have hT:=wg g hm
 have dn:=oX (g:=g)
 rw [QL] at hT dn
 have hn:=aC hm
 have cJ:=hrun.2.1.1
 have qz:=aR hrun.2.1
 have hb1:decide (64<g.n+(bs.length:Int))=false:=decide_eq_false (by omega)
 have hb2:decide (128<(g.es.length:Int)+(bs.length:Int))=false:=decide_eq_false (by omega)
 (refine Spec.hd (C:=T.cfg [50] []) (rs:= [.c 4 24, .c 5 34, .t 6]) (T.ai _ _) Tryz.func39 rfl rfl Tryz.ntmps39 Tryz.results39 (by simp [AObj.isNest]) (by simp [AObj.isNest]) (by kernel_rfl) T.mixed fun X hX hP hC aH bU=> ?_)
 repeat' (first|(show bM _ (.seq (.region 8 _ _) _) _ _;(refine bt hX 8 1 53 210 rfl rfl rfl (by first|exact .inl rfl|exact .inr rfl) (by decide) (by decide) ?_;simp only [List.set_cons_zero,List.set_cons_succ,go_sem,simprocAttr,hb1,hb2]);(refine dZ hX 9 0 201 (.tip 3 1 []) rfl rfl rfl (by simp only [go_sem,simprocAttr,hb1,hb2]) (by decide) (by simp [go_sem,simprocAttr,hb1,hb2]) ⟨3,1,by decide, .inr rfl⟩ ?_;simp only [List.set_cons_zero,List.set_cons_succ,go_sem,simprocAttr,hb1,hb2]);(refine dZ hX 9 1 200 (.tip 31 1 []) rfl rfl rfl (by simp only [go_sem,simprocAttr,hb1,hb2]) (by decide) (by simp [go_sem,simprocAttr,hb1,hb2]) ⟨31,1,by decide, .inr rfl⟩ ?_;simp only [List.set_cons_zero,List.set_cons_succ,go_sem,simprocAttr,hb1,hb2]))|refine Rn.p ?_|(with_reducible apply And.intro)|((first|(refine hK _ ?_;clear hK K)|with_reducible intro K hK|refine Rs.p ?_|((with_reducible first|apply oP|apply oQ);exact rfl)|refine aa hX hC hP (hO) rfl rfl rfl (by simp only [go_sem,simprocAttr,hb1,hb2]) rfl ?_|refine aa hX hC hP (hI) rfl rfl rfl (by simp only [go_sem,simprocAttr,hb1,hb2]) rfl ?_|refine aa hX hC hP (hT) rfl rfl rfl (by simp only [go_sem,simprocAttr,hb1,hb2]) rfl ?_);try simp only [go_sem,simprocAttr,hb1,hb2])|((with_reducible refine oD ?_ ?_);kernel_rfl)|((with_reducible intro h);try simp only [go_sem,simprocAttr,hb1,hb2] at h)|omega|intro h)
 refine ag (fun k:Nat=>k≤p.outs.length) (fun k=>⟨[(2, .ptr 2 0),(3, .ptr 3 0),(4, .ptr 4 0),(5, .ptr 5 0),(7, .d (sI bs)),(8, .ptr 8 0),(9, .ptr 9 0),(10,eN k)], [(2, .box [eN g.n, .d (sE g.es)]),(3, .box [.d (sI p.ord), .d (.sl 1 (vI p.outs))]),(4, .box [eN 0, .nil 73]),(5, .box [.nil 3, .nil 31]),(8, .box [eN (g.n+(bs.length:Int)), .ref 210]),(9, .box [.ref 201, .ref 200]),(210, .own 73 2 (g.es.map rE)),(201, .tip 3 1 []),(200, .tip 31 1 (vI (p.outs.take k)))]⟩) (fun k=>p.outs.length - k) 0 (by omega) ?_ ?_
 ·refine Le.of ?_ ?_<;>simp [go_sem,simprocAttr,vI]
 rintro k hk
 rcases Nat.lt_or_ge k p.outs.length with hlt|hge
 ·have hb:decide ((k:Int)<(p.outs.length:Int))=true:=decide_eq_true (by omega)
  have hrl:(p.outs.getD k []).length≤1000:=by
   have h1:=(hrun.2.1.2.2 k (by omega)).length_eq
   have h2:(aY g (k:Int)).length≤g.es.length:=fU
   omega
  have o6:=dx hlt
  have qR:(p.outs.take k).length=k:=by simp;omega
  have bw:vI (p.outs.take (k+1))=vI (p.outs.take k)++ [[sI (p.outs.getD k [])]]:=by
   rw [List.take_add_one,List.getElem?_eq_getElem hlt,Option.toList_some,Cs,List.getD_eq_getElem?_getD,List.getElem?_eq_getElem hlt]
   rfl
  generalize p.outs.getD k []=l at hrl o6 bw
  repeat' (first|(show bM _ (.region 10 _ _) _ _;(refine bt hX 9 1 73 200 rfl rfl rfl (by first|exact .inl rfl|exact .inr rfl) (by decide) (by decide) ?_;simp only [List.set_cons_zero,List.set_cons_succ,go_sem,simprocAttr,hb,o6,qR]))|refine Rn.p ?_|(with_reducible apply And.intro)|((first|(refine hK _ ?_;clear hK K)|with_reducible intro K hK|refine Rs.p ?_|((with_reducible first|apply oP|apply oQ);exact rfl));try simp only [go_sem,simprocAttr,hb,o6,qR])|((with_reducible refine oD ?_ ?_);kernel_rfl)|((with_reducible intro h);try simp only [go_sem,simprocAttr,hb,o6,qR] at h)|omega|intro h)
  refine ⟨k+1,by omega, ?_,by omega⟩
  rw [bw]
  refine Le.of ?_ ?_<;>simp [go_sem,simprocAttr,hb,o6,qR]
 have hb:decide ((k:Int)<(p.outs.length:Int))=false:=decide_eq_false (by omega)
 obtain rfl:k=p.outs.length:=by omega
 rw [List.take_length]
 repeat' (first|refine Rn.p ?_|(with_reducible apply And.intro)|((first|(refine hK _ ?_;clear hK K)|with_reducible intro K hK|refine Rs.p ?_|((with_reducible first|apply oP|apply oQ);exact rfl));try simp only [go_sem,simprocAttr,hb])|((with_reducible refine oD ?_ ?_);kernel_rfl)|((with_reducible intro h);try simp only [go_sem,simprocAttr,hb] at h)|omega|intro h)
 clear hb
 refine ag (fun k:Nat=>k≤bs.length) (fun k=>⟨[(2, .ptr 2 0),(3, .ptr 3 0),(4, .ptr 4 0),(5, .ptr 5 0),(7, .d (sI bs)),(8, .ptr 8 0),(9, .ptr 9 0),(11,eN k)], [(2, .box [eN g.n, .d (sE g.es)]),(3, .box [.d (sI p.ord), .d (.sl 1 (vI p.outs))]),(4, .box [eN 0, .nil 73]),(5, .box [.nil 3, .nil 31]),(8, .box [eN (g.n+(bs.length:Int)), .ref 210]),(9, .box [.ref 201, .ref 200]),(210, .own 73 2 ((gi g (bs.take k)).map rE)),(201, .tip 3 1 []),(200, .tip 31 1 (vI (p.outs++eO g k)))]⟩) (fun k=>bs.length - k) 0 (by omega) ?_ ?_
 ·refine Le.of ?_ ?_<;>simp [go_sem,simprocAttr,xZ,eO]
 rintro k hk
 rcases Nat.lt_or_ge k bs.length with hlt|hge
 ·have hb:decide ((k:Int)<(bs.length:Int))=true:=decide_eq_true (by omega)
  have hr:=dn.qd _ (aD (d:=0) hlt)
  obtain ⟨e,he⟩:∃e:Nat,bs.getD k 0=e:=⟨(bs.getD k 0).toNat,by omega⟩
  obtain ⟨e1,e2,e3⟩:=xY dn hlt he
  have hel:(gi g (bs.take k)).length=g.es.length+k:=by rw [we,List.length_take];omega
  have Cm:(g.es.getD e (0,0)).2=hd g e:=rfl
  have pg:(eO g k).length=k:=by simp [eO]
  have NR:vI (p.outs++eO g (k+1))=vI (p.outs++eO g k)++ [[sI [((g.es.length+k:Nat):Int)]]]:=by rw [x5, ← List.append_assoc,Cs];rfl
  have hvl:(vI (p.outs++eO g k)).length=p.outs.length+k:=by simp [vI,pg]
  have e5:(gi g (bs.take k)++ [(g.n+(k:Int),hd g e)]).getD e (0,0)=(tl g e,hd g e):=by
   rw [List.getD_eq_getElem?_getD,List.getElem?_append_left (by omega), ← List.getD_eq_getElem?_getD,e2]
  generalize Oy:gi g (bs.take (k+1))=E2 at e3
  generalize gi g (bs.take k)=E1 at hel e2 e3 e5
  generalize TM:eO g (k+1)=O2 at NR
  generalize eO g k=O1 at pg NR hvl
  repeat' (first|(show bM _ (.seq (.region 17 _ _) _) _ _;(refine bt hX 8 1 99 210 rfl rfl rfl (by first|exact .inl rfl|exact .inr rfl) (by decide) (by decide) ?_;simp only [List.set_cons_zero,List.set_cons_succ,go_sem,simprocAttr,hb,he,Cm,hel,hvl,List.length_append,List.length_cons,List.length_nil]))|(show bM _ (.region 14 _ _) _ _;(refine bt hX 9 1 119 200 rfl rfl rfl (by first|exact .inl rfl|exact .inr rfl) (by decide) (by decide) ?_;simp only [List.set_cons_zero,List.set_cons_succ,go_sem,simprocAttr,hb,he,Cm,hel,hvl,List.length_append,List.length_cons,List.length_nil]))|refine Rn.p ?_|(with_reducible apply And.intro)|((first|(refine hK _ ?_;clear hK K)|with_reducible intro K hK|refine Rs.p ?_|((with_reducible first|apply oP|apply oQ);exact rfl));try simp only [go_sem,simprocAttr,hb,he,Cm,hel,hvl,List.length_append,List.length_cons,List.length_nil])|((with_reducible refine oD ?_ ?_);kernel_rfl)|((with_reducible intro h);try simp only [go_sem,simprocAttr,hb,he,Cm,hel,hvl,List.length_append,List.length_cons,List.length_nil] at h)|omega|intro h)
  refine ⟨k+1,by omega, ?_,by omega⟩
  have hrw:(E1.map rE++ [[D.sc (.int .i64 (g.n+(k:Int))),D.sc (.int .i64 (hd g e))]]).getD e [D.sc (.int .i64 0),D.sc (.int .i64 0)]= [D.sc (.int .i64 (tl g e)),D.sc (.int .i64 (hd g e))]:=by
   have h1:=congrArg rE e5
   rw [List.getD_eq_getElem?_getD] at h1 ⊢
   rw [show E1.map rE++ [[D.sc (.int .i64 (g.n+(k:Int))),D.sc (.int .i64 (hd g e))]]=(E1++ [(g.n+(k:Int),hd g e)]).map rE by rw [List.map_append];rfl,List.getElem?_map]
   cases hq:(E1++ [(g.n+(k:Int),hd g e)])[e]? with
   |none=>rw [List.getElem?_eq_none_iff,List.length_append,hel] at hq;omega
   |some q=>rw [hq] at h1;exact h1
  have pG:(E1.map rE++ [[D.sc (.int .i64 (g.n+(k:Int))),D.sc (.int .i64 (hd g e))]]).set e [D.sc (.int .i64 (tl g e)),D.sc (.int .i64 (g.n+(k:Int)))]=E2.map rE:=by
   rw [e3,List.map_set,List.map_append];rfl
  rw [TM,NR,Oy]
  rw [List.getD_eq_getElem?_getD] at hrw
  refine Le.of ?_ ?_<;>simp [go_sem,simprocAttr,hb,he,Cm,hel,hvl,List.length_append,List.length_cons,List.length_nil,hrw,pG,rI]
 have hb:decide ((k:Int)<(bs.length:Int))=false:=decide_eq_false (by omega)
 obtain rfl:k=bs.length:=by omega
 rw [List.take_length]
 repeat' (first|refine Rn.p ?_|(with_reducible apply And.intro)|((first|(refine hK _ ?_;clear hK K)|with_reducible intro K hK|refine Rs.p ?_|((with_reducible first|apply oP|apply oQ);exact rfl));try simp only [go_sem,simprocAttr,hb])|((with_reducible refine oD ?_ ?_);kernel_rfl)|((with_reducible intro h);try simp only [go_sem,simprocAttr,hb] at h)|omega|intro h)
 clear hb
 have mK:qt g p bs=⟨dy g bs bs.length p.ord,p.outs++eO g bs.length⟩:=rfl
 have RM:aQ g bs=⟨g.n+bs.length,gi g bs⟩:=rfl
 have TN:(gi g bs).length=g.es.length+bs.length:=we
 have LZ:(eO g bs.length).length=bs.length:=by simp [eO]
 generalize gi g bs=E at RM TN
 generalize TO:p.outs++eO g bs.length=O at mK
 have TP:O.length=p.outs.length+bs.length:=by rw [← TO,List.length_append,LZ]
 refine ag (fun i:Nat=>i≤p.ord.length) (fun i=>⟨[(2, .ptr 2 0),(3, .ptr 3 0),(4, .ptr 4 0),(5, .ptr 5 0),(7, .d (sI bs)),(8, .ptr 8 0),(9, .ptr 9 0),(13,eN i)], [(2, .box [eN g.n, .d (sE g.es)]),(3, .box [.d (sI p.ord), .d (.sl 1 (vI p.outs))]),(4, .box [eN 0, .nil 73]),(5, .box [.nil 3, .nil 31]),(8, .box [eN (g.n+(bs.length:Int)), .ref 210]),(9, .box [.ref 201, .ref 200]),(210, .own 73 2 (E.map rE)),(201, .tip 3 1 ((dy g bs bs.length (p.ord.take i)).map rI)),(200, .tip 31 1 (vI O))]⟩) (fun i=>p.ord.length - i) 0 (by omega) ?_ ?_
 ·refine Le.of ?_ ?_<;>simp [go_sem,simprocAttr,dy]
 rintro i hi
 rcases Nat.lt_or_ge i p.ord.length with hil|J9
 ·have hb:decide ((i:Int)<(p.ord.length:Int))=true:=decide_eq_true (by omega)
  have bw:=Fb (g:=g) (bs:=bs) (k:=bs.length) hil
  have hRl:=x7 (g:=g) (bs:=bs) (k:=bs.length) (l:=p.ord.take i)
  have hmul:(p.ord.take i).length*(bs.length+1)≤64*129:=Nat.mul_le_mul (by rw [List.length_take];omega) (by omega)
  have QM:=bI hrun.2.1 (k:=i) (by omega)
  have eo:p.ord.getD i 0=aE p i:=rfl
  rw [eo] at bw
  generalize OA:dy g bs bs.length (p.ord.take (i+1))=R2 at bw
  generalize dy g bs bs.length (p.ord.take i)=R1 at bw hRl
  generalize hx:aE p i=x at eo bw QM
  repeat' (first|(show bM _ (.seq (.region 23 _ _) _) _ _;(refine bt hX 9 0 136 201 rfl rfl rfl (by first|exact .inl rfl|exact .inr rfl) (by decide) (by decide) ?_;simp only [List.set_cons_zero,List.set_cons_succ,go_sem,simprocAttr,hb,eo]))|refine Rn.p ?_|(with_reducible apply And.intro)|((first|(refine hK _ ?_;clear hK K)|with_reducible intro K hK|refine Rs.p ?_|((with_reducible first|apply oP|apply oQ);exact rfl));try simp only [go_sem,simprocAttr,hb,eo])|((with_reducible refine oD ?_ ?_);kernel_rfl)|((with_reducible intro h);try simp only [go_sem,simprocAttr,hb,eo] at h)|omega|intro h)
  refine ag (fun k:Nat=>k≤bs.length) (fun k=>⟨[(2, .ptr 2 0),(3, .ptr 3 0),(4, .ptr 4 0),(5, .ptr 5 0),(7, .d (sI bs)),(8, .ptr 8 0),(9, .ptr 9 0),(13,eN i),(14,eN k)], [(2, .box [eN g.n, .d (sE g.es)]),(3, .box [.d (sI p.ord), .d (.sl 1 (vI p.outs))]),(4, .box [eN 0, .nil 73]),(5, .box [.nil 3, .nil 31]),(8, .box [eN (g.n+(bs.length:Int)), .ref 210]),(9, .box [.ref 201, .ref 200]),(210, .own 73 2 (E.map rE)),(201, .tip 3 1 ((R1++x::jN g bs k x).map rI)),(200, .tip 31 1 (vI O))]⟩) (fun k=>bs.length - k) 0 (by omega) ?_ ?_
  ·refine Le.of ?_ ?_<;>simp [go_sem,simprocAttr,jN,rI]
  rintro k hk
  rcases Nat.lt_or_ge k bs.length with bK|Fo
  ·have wh:decide ((k:Int)<(bs.length:Int))=true:=decide_eq_true (by omega)
   have hr:=dn.qd _ (aD (d:=0) bK)
   obtain ⟨e,he⟩:∃e:Nat,bs.getD k 0=e:=⟨(bs.getD k 0).toNat,by omega⟩
   have hel:e<g.es.length:=by omega
   have pg:=vU (g:=g) (bs:=bs) (k:=k) x
   have htl:fe g (bs.getD k 0)=(g.es.getD e (0,0)).1:=by unfold fe;rw [he,Int.toNat_natCast]
   rw [htl] at pg
   have LG:=DH (g:=g) (bs:=bs) (k:=k) (v:=x)
   generalize RN:jN g bs (k+1) x=K2 at pg
   generalize jN g bs k x=K1 at pg LG
   generalize ht:(g.es.getD e (0,0)).1=t at pg
   by_cases OE:t=x
   ·have HR:decide (t=x)=true:=decide_eq_true OE
    rw [if_pos OE] at pg
    repeat' (first|(show bM _ (.region 25 _ _) _ _;(refine bt hX 9 0 166 201 rfl rfl rfl (by first|exact .inl rfl|exact .inr rfl) (by decide) (by decide) ?_;simp only [List.set_cons_zero,List.set_cons_succ,go_sem,simprocAttr,hb,wh,he,ht,eo,HR,List.length_append,List.length_cons]))|refine Rn.p ?_|(with_reducible apply And.intro)|((first|(refine hK _ ?_;clear hK K)|with_reducible intro K hK|refine Rs.p ?_|((with_reducible first|apply oP|apply oQ);exact rfl));try simp only [go_sem,simprocAttr,hb,wh,he,ht,eo,HR,List.length_append,List.length_cons])|((with_reducible refine oD ?_ ?_);kernel_rfl)|((with_reducible intro h);try simp only [go_sem,simprocAttr,hb,wh,he,ht,eo,HR,List.length_append,List.length_cons] at h)|omega|intro h)
    refine ⟨k+1,by omega, ?_,by omega⟩
    rw [RN,pg]
    refine Le.of ?_ ?_<;>simp [go_sem,simprocAttr,hb,wh,he,ht,eo,HR,List.length_append,List.length_cons,rI]
   ·have HR:decide (t=x)=false:=decide_eq_false OE
    rw [if_neg OE,List.append_nil] at pg
    repeat' (first|refine Rn.p ?_|(with_reducible apply And.intro)|((first|(refine hK _ ?_;clear hK K)|with_reducible intro K hK|refine Rs.p ?_|((with_reducible first|apply oP|apply oQ);exact rfl));try simp only [go_sem,simprocAttr,hb,wh,he,ht,eo,HR])|((with_reducible refine oD ?_ ?_);kernel_rfl)|((with_reducible intro h);try simp only [go_sem,simprocAttr,hb,wh,he,ht,eo,HR] at h)|omega|intro h)
    refine ⟨k+1,by omega, ?_,by omega⟩
    rw [RN,pg]
    refine Le.of ?_ ?_<;>simp [go_sem,simprocAttr,hb,wh,he,ht,eo,HR]
  have wh:decide ((k:Int)<(bs.length:Int))=false:=decide_eq_false (by omega)
  obtain rfl:k=bs.length:=by omega
  repeat' (first|refine Rn.p ?_|(with_reducible apply And.intro)|((first|(refine hK _ ?_;clear hK K)|with_reducible intro K hK|refine Rs.p ?_|((with_reducible first|apply oP|apply oQ);exact rfl));try simp only [go_sem,simprocAttr,hb,wh])|((with_reducible refine oD ?_ ?_);kernel_rfl)|((with_reducible intro h);try simp only [go_sem,simprocAttr,hb,wh] at h)|omega|intro h)
  refine ⟨i+1,by omega, ?_,by omega⟩
  rw [OA,bw]
  refine Le.of ?_ ?_<;>simp [go_sem,simprocAttr,hb,wh]
 have hb:decide ((i:Int)<(p.ord.length:Int))=false:=decide_eq_false (by omega)
 obtain rfl:i=p.ord.length:=by omega
 rw [List.take_length,mK,RM]
 repeat' (first|refine Rn.p ?_|(with_reducible apply And.intro)|((first|(refine hK _ ?_;clear hK K)|with_reducible intro K hK|refine Rs.p ?_|((with_reducible first|apply oP|apply oQ);exact rfl));try simp only [go_sem,simprocAttr,hb])|((with_reducible refine oD ?_ ?_);kernel_rfl)|((with_reducible intro h);try simp only [go_sem,simprocAttr,hb] at h)|omega|intro h)
 all_goals rfl
end Go.Ab
end
section
namespace Go.Ab
open Go.Proofs
attribute [local congr] ACall.congr gd.congr Nx.congr
set_option maxRecDepth 10000
abbrev Pt:=Int × Int
def eP (p:Pt):AV:= .agg [.d (.sc (.int .i64 p.1)), .d (.sc (.int .i64 p.2))]
def rP (p:Pt):List D:= [.sc (.int .i64 p.1), .sc (.int .i64 p.2)]
attribute [go_sem] eP
def wu (p:Pt):Prop:=(-262144≤p.1∧p.1≤262144)∧(-262144≤p.2∧p.2≤262144)
def Bg (a b:Int):Int:=if a<b then -1 else if b<a then 1 else 0
def DI (a b n:Int):Bool:=decide (min a b≤n)&&decide (n≤max a b)
def tm (a b c d:Pt):Int:=(b.1 - a.1)*(d.2 - c.2) - (b.2 - a.2)*(d.1 - c.1)
def sd (a b c:Pt):Int:=Bg (tm a b a c) 0
def JJ (a b c:Pt):Bool:=decide (sd a b c=0)&&DI a.1 b.1 c.1&&DI a.2 b.2 c.2
end Go.Ab
end
section
namespace Go.Ab
open Go.Proofs
attribute [local congr] ACall.congr gd.congr Nx.congr
set_option maxRecDepth 10000
def TQ (p:Pt):Bool:=decide (262144<max p.1 p.2)||decide (min p.1 p.2< -262144)
theorem getD_rP (ps:List Pt) (i:Nat):(ps.map rP).getD i [.sc (.int .i64 0), .sc (.int .i64 0)]=rP (ps.getD i (0,0)):=by
 simp only [List.getD_eq_getElem?_getD,List.getElem?_map]
 cases ps[i]? <;>rfl
theorem rP_eq (p:Pt):rP p= [.sc (.int .i64 p.1), .sc (.int .i64 p.2)]:=rfl
attribute [go_sem] getD_rP rP_eq Int.toNat_natCast
end Go.Ab
end
section
namespace Go.Ab
open Go.Proofs
attribute [local congr] ACall.congr gd.congr Nx.congr
set_option maxRecDepth 10000
instance (p:Pt):Decidable (wu p):=by unfold wu;infer_instance
def RQ (a b c:Pt):Int:=if wu a∧wu b∧wu c then sd a b c else 0
def TR (a b c:Pt):Bool:=decide (wu a∧wu b∧wu c)&&JJ a b c
end Go.Ab
end
section
namespace Go.Ab
open Go.Proofs
attribute [local congr] ACall.congr gd.congr Nx.congr
set_option maxRecDepth 10000
def sx (a b c:Pt):Int:=a.1*b.2 - a.2*b.1+b.1*c.2 - b.2*c.1+c.1*a.2 - c.2*a.1
def rK (a b p:Pt):Int:=(p.1 - a.1)*(b.1 - a.1)+(p.2 - a.2)*(b.2 - a.2)
def NT (a b c:Pt):Int:=if wu a∧wu b∧wu c then Bg (sx a b c) 0 else 0
def H6 (a b c:Pt):Bool:=decide (wu a∧wu b∧wu c)&&(decide (sx a b c=0)&&decide ((a.1 - c.1)*(b.1 - c.1)+(a.2 - c.2)*(b.2 - c.2)≤0))
end Go.Ab
end
section
namespace Go.Ab
open Go.Proofs
attribute [local congr] ACall.congr gd.congr Nx.congr
set_option maxRecDepth 10000
set_option maxHeartbeats 2000000
def US:OT:=(.br 0 (.br 1 (.br 2 (.br 3 (.br 4 (.br 5 (.br 6 .nil .nil) .nil) .nil) (.br 4 (.br 3 (.br 5 (.br 6 .nil .nil) .nil) (.br 5 (.br 3 (.br 6 .nil .nil) .nil) .nil)) .nil)) (.br 4 (.br 2 (.br 3 (.br 5 (.br 6 .nil .nil) .nil) (.br 5 (.br 3 (.br 6 .nil .nil) .nil) .nil)) (.br 5 (.br 2 (.br 3 (.br 6 .nil .nil) .nil) .nil) .nil)) .nil)) .nil) (.br 1 (.br 0 (.br 2 (.br 3 (.br 4 (.br 5 (.br 6 .nil .nil) .nil) .nil) (.br 4 (.br 3 (.br 5 (.br 6 .nil .nil) .nil) (.br 5 (.br 3 (.br 6 .nil .nil) .nil) .nil)) .nil)) (.br 4 (.br 2 (.br 3 (.br 5 (.br 6 .nil .nil) .nil) (.br 5 (.br 3 (.br 6 .nil .nil) .nil) .nil)) (.br 5 (.br 2 (.br 3 (.br 6 .nil .nil) .nil) .nil) .nil)) .nil)) .nil) .nil))
def NU (a b c d:Pt):Int:=
 if wu a∧wu b∧wu c∧wu d then
  if a=b then (if H6 c d a=true then 1 else 0)
  else if c=d then (if H6 a b c=true then 1 else 0)
  else if Bg (sx a b c) 0=0∧Bg (sx a b d) 0=0 then
   let lo:=max (rK a b a) (min (rK a b c) (rK a b d))
   let hi:=min (rK a b b) (max (rK a b c) (rK a b d))
   if hi<lo then 0 else if lo=hi then 1 else 2
  else if Bg (sx a b c) 0*Bg (sx a b d) 0≤0∧Bg (sx c d a) 0*Bg (sx c d b) 0≤0 then 1 else 0
 else 0
end Go.Ab
end
section
namespace Go.Ab
open Go.Proofs
attribute [local congr] ACall.congr gd.congr Nx.congr
set_option maxRecDepth 10000
set_option maxHeartbeats 2000000
theorem mval_touch (es:List (List Int × Int)) (k:List Int):l5 (fC es k) k=l5 es k:=by
 unfold fC
 cases h:cC es k with
 |some i=>rfl
 |none=>
  have hn:=ud h
  have:cC (es++ [(k,0)]) k=some es.length:=by
   unfold cC
   rw [List.findIdx?_eq_some_iff_getElem]
   refine ⟨by simp,by simp,fun j hj=> ?_⟩
   rw [List.getElem_append_left hj]
   have:=hn es[j] (List.getElem_mem hj)
   simpa using fun e=>this e.symm
  simp [l5,h,this]
def TS (es:List (List Int × Int)) (k:List Int):List (List Int × Int):=sG (fC es k) (j7 es k) (l5 es k+1)
def JK (p:Pt) (ks:List (List Int)):List (List Int):=if [p.1,p.2]∈ks then ks else ks++ [[p.1,p.2]]
def BE (n:Int) (es:List (List Int × Int)):Prop:=∀p∈es,0≤p.2∧p.2≤n
end Go.Ab
end
section
namespace Go.Ab
open Go.Proofs
attribute [local congr] ACall.congr gd.congr Nx.congr
set_option maxRecDepth 10000
set_option maxHeartbeats 4000000
attribute [go_sem] mval_touch
def K1 (a _b c d:Pt):List (List Int):=if JJ c d a=true then JK a [] else []
def K2 (a b c d:Pt):List (List Int):=if JJ c d b=true then JK b (K1 a b c d) else K1 a b c d
def K3 (a b c d:Pt):List (List Int):=if JJ a b c=true then JK c (K2 a b c d) else K2 a b c d
def K4 (a b c d:Pt):List (List Int):=if JJ a b d=true then JK d (K3 a b c d) else K3 a b c d
def RR (a b c d:Pt):Int:=
 if wu a∧wu b∧wu c∧wu d then
  if 0<(K4 a b c d).length then min ((K4 a b c d).length:Int) 2
  else if sd a b c*sd a b d<0∧sd c d a*sd c d b<0 then 1 else 0
 else 0
def RS (A B C:List (List Int)) (p:Nat × List (List Int × Int)) (n:Int):Prop:=
 (p.1=0∧p.2.map (·.1)=A∧BE n p.2)∨(p.1=1∧p.2.map (·.1)=B∧BE (n+1) p.2)∨(p.1=2∧p.2.map (·.1)=C∧BE (n+2) p.2)
def bx (p:Pt):AObj:= .box [.d (.sc (.int .i64 p.1)), .d (.sc (.int .i64 p.2))]
attribute [go_sem] bx
def UT (a b c d:Pt) (i:Nat × List (List Int × Int)):ASt:=
 ⟨[(9, .mref 21),(4, .ptr 4 0),(5, .ptr 5 0),(6, .ptr 6 0),(7, .ptr 7 0),(24, .agg [eN a.1,eN a.2,eN b.1,eN b.2]),(25,eN i.1)],
   [(4,bx a),(5,bx b),(6,bx c),(7,bx d),(21, .mp 2 i.2)]⟩
def UU (a b c d:Pt) (i:Nat × List (List Int × Int)):ASt:=
 ⟨[(9, .mref 21),(4, .ptr 4 0),(5, .ptr 5 0),(6, .ptr 6 0),(7, .ptr 7 0),(41, .agg [eN c.1,eN c.2,eN d.1,eN d.2]),(42,eN i.1)],
   [(4,bx a),(5,bx b),(6,bx c),(7,bx d),(21, .mp 2 i.2)]⟩
end Go.Ab
end
section
namespace Go.Ab
open Go.Proofs
attribute [local congr] ACall.congr gd.congr Nx.congr
set_option maxRecDepth 10000
def key (p:Pt):List Int:= [p.1,p.2]
def UW (a b c d p:Pt):Prop:=(JJ c d a=true∧p=a)∨(JJ c d b=true∧p=b)∨(JJ a b c=true∧p=c)∨(JJ a b d=true∧p=d)
def RT (a b c d:Pt):Int:=if 0<(K4 a b c d).length then min ((K4 a b c d).length:Int) 2 else if sd a b c*sd a b d<0∧sd c d a*sd c d b<0 then 1 else 0
section
variable {a b:Pt}
end
end Go.Ab
end
section
namespace Go.Ab
open Go.Proofs
attribute [local congr] ACall.congr gd.congr Nx.congr
set_option maxRecDepth 10000
abbrev Pc:=Pt × Pt
def rQ (q:Pc):List D:= [.sc (.int .i64 q.1.1), .sc (.int .i64 q.1.2), .sc (.int .i64 q.2.1), .sc (.int .i64 q.2.2)]
def eQ (q:Pc):AV:= .agg [.d (.sc (.int .i64 q.1.1)), .d (.sc (.int .i64 q.1.2)), .d (.sc (.int .i64 q.2.1)), .d (.sc (.int .i64 q.2.2))]
def sQ (qs:List Pc):D:= .sl 4 (qs.map rQ)
def sP (ps:List Pt):D:= .sl 2 (ps.map rP)
def vP (ls:List (List Pt)):List (List D):=ls.map fun l=> [sP l]
def sLn (ls:List (List Pt)):D:= .sl 1 (vP ls)
def eLn (l:List Pt):AV:= .d (sP l)
theorem getD_rQ (ps:List Pc) (i:Nat):(ps.map rQ).getD i [.sc (.int .i64 0), .sc (.int .i64 0), .sc (.int .i64 0), .sc (.int .i64 0)]=rQ (ps.getD i ((0,0),(0,0))):=by
 simp only [List.getD_eq_getElem?_getD,List.getElem?_map]
 cases ps[i]? <;>rfl
theorem rQ_eq (q:Pc):rQ q= [.sc (.int .i64 q.1.1), .sc (.int .i64 q.1.2), .sc (.int .i64 q.2.1), .sc (.int .i64 q.2.2)]:=rfl
theorem vP_length (ls:List (List Pt)):(vP ls).length=ls.length:=by simp [vP]
theorem vP_getD (ls:List (List Pt)) (i:Nat):(vP ls).getD i [.sl 2 []]= [sP (ls.getD i [])]:=by
 simp only [vP,List.getD_eq_getElem?_getD,List.getElem?_map]
 cases ls[i]? <;>rfl
attribute [go_sem] getD_rQ rQ_eq eQ sQ sP sLn eLn vP_length vP_getD
end Go.Ab
end
section
namespace Go.Ab
open Go.Proofs
attribute [local congr] ACall.congr gd.congr Nx.congr
set_option maxRecDepth 10000
structure Dr where
 pts:List Pt
 ls:List (List Pt)
def eDr (d:Dr):AV:= .agg [.d (sP d.pts), .d (sLn d.ls)]
def lkO (g:Gr) (d:Dr):AObj:= .rob [eN g.n, .d (sE g.es), .d (sP d.pts), .d (sLn d.ls)]
attribute [go_sem] eDr lkO
def TU (l:List Pt) (k:Nat):List Pc:=(List.range k).map fun i=>(l.getD i (0,0),l.getD (i+1) (0,0))
def RU (l:List Pt):List Pc:=TU l (l.length - 1)
def robPt (p:Pt):List (Nat × AObj):= [(10000, .rob [eN p.1,eN p.2])]
attribute [go_sem] robPt
def TV (l:List Pt) (p:Pt):Bool:=(RU l).any fun q=>TR q.1 q.2 p
def RW (l:List Pt):Bool:= !(RU l).any fun q=>decide (q.2.2≤q.1.2)
structure NV (g:Gr) (d:Dr):Prop where
 may:aN g=true
 np:(d.pts.length:Int)=g.n
 nl:d.ls.length=g.es.length
 qd:∀l∈d.ls,2≤l.length∧l.length≤8
theorem NV.line {g:Gr} {d:Dr} (h:NV g d) {i:Nat} (hi:i<g.es.length):2≤(d.ls.getD i []).length∧(d.ls.getD i []).length≤8:=h.qd _ (aD (by rw [h.nl];exact hi))
def TW (g:Gr) (d:Dr) (i:Nat):Bool:=decide ((d.ls.getD i []).getD 0 (0,0)=d.pts.getD (g.es.getD i (0,0)).1.toNat (0,0))&&decide ((d.ls.getD i []).getD ((d.ls.getD i []).length - 1) (0,0)=d.pts.getD (g.es.getD i (0,0)).2.toNat (0,0))
def TX (l:List Pt) (x:Pt):Int:=b7 (fun y=>decide (x=y)) l
def QS (d:Dr) (x:Nat):Bool:= !decide (d.pts.getD x (0,0)∈d.pts.take x)
def NW (g:Gr) (d:Dr) (i k:Nat):Bool:=(List.range k).all fun x=>decide ((x:Int)=(g.es.getD i (0,0)).1)||decide ((x:Int)=(g.es.getD i (0,0)).2)|| !TV (d.ls.getD i []) (d.pts.getD x (0,0))
def RX (g:Gr) (d:Dr) (i:Nat):Bool:=NW g d i d.pts.length
end Go.Ab
end
section
namespace Go.Ab
open Go.Proofs
attribute [local congr] ACall.congr gd.congr Nx.congr
set_option maxRecDepth 20000
set_option maxHeartbeats 8000000
theorem sZ (g:Gr) (hl:g.es.length≤1000) (p:Pl) (hp:gE p) (b:Bool) (hr:b=true↔(bL g).1=0∧aU g p):
 Spec Tryz.prog 39 (Args [eG g,ePl p]) [] (.tup [eG (sY b g p).1,ePl (sY b g p).2.1,eN (sY b g p).2.2]) []:=by
 by_cases h0:(bA b g p).2.1=0∧o7 g=true
 rotate_left
 ·have hK:sY b g p=(gz,pz,1):=if_neg h0
  rw [hK]
  exact zx g hl p hp b hr h0
 by_cases h1:64<g.n+(dA g).length∨128<g.es.length+(dA g).length
 ·have hK:sY b g p=(gz,pz,10):=by unfold sY;rw [if_pos h0,if_pos h1]
  rw [hK]
  exact w8 g hl p hp b hr h0.1 h0.2 h1
 have hK:sY b g p=(aQ g (dA g),qt g p (dA g),0):=by unfold sY;rw [if_pos h0,if_neg h1]
 rw [hK]
 obtain ⟨hrun,_⟩:=gT hr h0.1
 exact zy g hl p hp hrun h0.2 (dA g) rfl (by omega) (by omega)
def qF (xs ys:List Int) (v:Nat):Pt:=(xs.getD v 0,ys.getD v 0)
def x8 (N:Int) (bs xs ys:List Int) (i:Nat):List Pt:=if (i:Int)∈bs then [qF xs ys (N+(bs.idxOf (i:Int):Nat)).toNat] else []
def Fe (g:Gr) (N:Int) (bs xs ys:List Int) (i:Nat):List Pt:=qF xs ys (tl g i).toNat::(x8 N bs xs ys i++ [qF xs ys (hd g i).toNat])
def ko (xs ys:List Int) (k:Nat):List Pt:=(List.range k).map (qF xs ys)
def lT (g:Gr) (N:Int) (bs xs ys:List Int) (k:Nat):List (List Pt):=(List.range k).map (Fe g N bs xs ys)
def L9 (g:Gr) (N:Int) (bs xs ys:List Int):Dr:=⟨ko xs ys g.n.toNat,lT g N bs xs ys g.es.length⟩
theorem Bh {xs ys:List Int} {k:Nat} :ko xs ys (k+1)=ko xs ys k++ [qF xs ys k]:=by simp [ko,List.range_succ]
theorem qx {xs ys:List Int} {k:Nat} :(ko xs ys k).length=k:=by simp [ko]
theorem LH {xs ys:List Int} {k v:Nat} (h:v<k):(ko xs ys k).getD v (0,0)=qF xs ys v:=by simp [ko,List.getD_eq_getElem?_getD,List.getElem?_range h]
theorem Bi {g:Gr} {N:Int} {bs xs ys:List Int} {k:Nat} :lT g N bs xs ys (k+1)=lT g N bs xs ys k++ [Fe g N bs xs ys k]:=by simp [lT,List.range_succ]
theorem zA {g:Gr} {N:Int} {bs xs ys:List Int} {k:Nat} :(lT g N bs xs ys k).length=k:=by simp [lT]
def dz:Dr:=⟨[], []⟩
noncomputable def s4 (g:Gr) (p:Pl) (rev:Bool):List Int:=ej (aQ (ah g p) (dA (ah g p))) (qt (ah g p) (bB g p) (dA (ah g p))) rev ((ah g p).n+(dA (ah g p)).length).toNat
noncomputable def sy (b:Bool) (g:Gr) (p:Pl):Dr × Int:=
 if (gS b g p).2.2≠0 then (dz,(gS b g p).2.2) else if 64<(ah g p).n+(dA (ah g p)).length∨128<(ah g p).es.length+(dA (ah g p)).length then (dz,10) else (L9 g (ah g p).n (dA (ah g p)) (s4 g p false) (s4 g p true),0)
theorem H7 {g:Gr} {p:Pl} (h:aX g p):p.ord.length≤64∧p.outs.length≤64∧∀l∈p.outs,l.length≤128:=by
 have hn:=aC (an h.1)
 have h1:=aR h.2.1
 have h2:=h.2.1.1
 refine ⟨by omega,by omega,fun l hl=> ?_⟩
 obtain ⟨k,hk,rfl⟩:=List.mem_iff_getElem.1 hl
 have h3:=(h.2.1.2.2 k (by omega)).length_eq
 rw [List.getD_eq_getElem?_getD,List.getElem?_eq_getElem hk,Option.getD_some] at h3
 have h4:(aY g (k:Int)).length≤g.es.length:=fU
 omega
theorem tM {g:Gr} {p:Pl} (h:aX g p):gE p:=by
 obtain ⟨h1,h2,h3⟩:=H7 h
 exact ⟨by omega,by omega,fun l hl=>by have:=h3 l hl;omega⟩
theorem k9 {g:Gr} {p:Pl} (h:aX g p):(true=true)↔(bL g).1=0∧aU g p:=⟨fun _=>⟨h.1,h.2.1⟩,fun _=>rfl⟩
structure Room (g:Gr) (p:Pl):Prop where
 ok:jY g p
 h1:(ah g p).n+(dA (ah g p)).length≤64
 h2:(ah g p).es.length+(dA (ah g p)).length≤128
theorem Bj {g:Gr} {p:Pl} (h:Room g p):aX (aQ (ah g p) (dA (ah g p))) (qt (ah g p) (bB g p) (dA (ah g p))):=Jz (jE h.ok) oX (DA (jE h.ok) oX) h.h1 h.h2
theorem JL {g:Gr} {p:Pl} (h:Room g p):o7 (aQ (ah g p) (dA (ah g p)))=true:=Lx (jE h.ok) oX (DA (jE h.ok) oX) h.h1 h.h2 (Cn h.ok)
theorem H8 {b:Bool} {g:Gr} {p:Pl} (hr:b=true↔(bL g).1=0∧aU g p) (h:(sy b g p).2=0):Room g p∧sy b g p=(L9 g (ah g p).n (dA (ah g p)) (s4 g p false) (s4 g p true),0):=by
 unfold sy at h ⊢
 split at h
 ·rename_i hc;exact absurd h hc
 rename_i h0
 split at h
 ·cases h
 rename_i h1
 rw [if_neg h0,if_neg h1]
 have h0:(gS b g p).2.2=0:=by simpa using h0
 exact ⟨⟨(zv hr h0).1,by omega,by omega⟩,rfl⟩
theorem tN {g:Gr} {p:Pl} {rev:Bool} :(s4 g p rev).length=((ah g p).n+(dA (ah g p)).length).toNat:=by unfold s4;exact nv
theorem Bk {g:Gr} {bs:List Int} (hb:bs.Nodup) {i:Int} :cC (l9 g bs bs.length) [i]=if i∈bs then some (bs.idxOf i) else none:=by
 by_cases h:i∈bs
 ·rw [if_pos h]
  obtain ⟨h1,h2⟩:=rz h
  unfold cC
  rw [List.findIdx?_eq_some_iff_getElem]
  refine ⟨by simp [l9,h1], ?_,fun j hj=> ?_⟩
  ·simp only [l9,List.getElem_map,List.getElem_range,decide_eq_true_eq,h2]
  ·simp only [l9,List.getElem_map,List.getElem_range,decide_eq_true_eq]
   intro e
   have e:i=bs.getD j 0:=by simpa using e
   have:=gq hb (i:=j) (by omega)
   rw [← e] at this
   omega
 ·rw [if_neg h]
  unfold cC
  rw [List.findIdx?_eq_none_iff]
  intro q hq
  obtain ⟨j,hj,rfl⟩:=mN.1 hq
  rw [decide_eq_false_iff_not]
  intro e
  have e:i=bs.getD j 0:=by simpa using e
  rw [e] at h
  exact h (aD hj)
theorem JM {g:Gr} {bs:List Int} (hb:bs.Nodup) {i:Int} (h:i∈bs):l5 (l9 g bs bs.length) [i]=g.n+(bs.idxOf i:Nat):=by
 unfold l5
 rw [Bk hb,if_pos h]
 have:=(rz h).1
 simp [l9,List.getElem?_range this]
end Go.Ab
end
section
namespace Go.Ab
open Go.Proofs
attribute [local congr] ACall.congr gd.congr Nx.congr
set_option maxRecDepth 20000
set_option maxHeartbeats 8000000
theorem JN (xs ys:List Int) (v:Nat) (h1:v<xs.length) (h2:v<ys.length) (hx:xs.length≤1000) (hy:ys.length≤1000):Spec Tryz.prog 77 (Args [eN v, .ptr 10001 0, .ptr 10002 0]) [(10001, .rob [.d (sI xs)]),(10002, .rob [.d (sI ys)])] (.agg [eN (xs.getD v 0),eN (ys.getD v 0)]) [(10001, .rob [.d (sI xs)]),(10002, .rob [.d (sI ys)])]:=by
 (refine Spec.hd (C:=T.cfg [] []) (rs:= [.c 4 71]) (T.ai _ _) Tryz.func77 rfl rfl Tryz.ntmps77 Tryz.results77 (by simp [AObj.isNest]) (by simp [AObj.isNest]) (by kernel_rfl) T.mixed fun X hX hP hC aH bU=> ?_)
 repeat' (first|refine Rn.p ?_|(with_reducible apply And.intro)|((first|(refine hK _ ?_;clear hK K)|with_reducible intro K hK|refine Rs.p ?_|((with_reducible first|apply oP|apply oQ);exact rfl));try simp only [go_sem,simprocAttr])|((with_reducible refine oD ?_ ?_);kernel_rfl)|((with_reducible intro h);try simp only [go_sem,simprocAttr] at h)|omega|intro h)
end Go.Ab
end
section
namespace Go.Ab
open Go.Proofs
attribute [local congr] ACall.congr gd.congr Nx.congr
set_option maxRecDepth 20000
set_option maxHeartbeats 16000000
theorem x9 (g:Gr) (hl:g.es.length≤1000) (p:Pl) (hp:gE p) (hp1:p.ord.length≤1000) (hp2:p.outs.length≤1000) (Kc:∀l∈p.outs,l.length≤1000) (b:Bool) (hr:b=true↔(bL g).1=0∧aU g p):
 Spec Tryz.prog 33 (Args [eG g,ePl p]) [] (.tup [eDr (sy b g p).1,eN (sy b g p).2]) []:=by
 have H9:=za g hl p hp hp1 hp2 Kc b hr
 by_cases h0:(gS b g p).2.2=0
 rotate_left
 ·have Fy:sy b g p=(dz,(gS b g p).2.2):=if_pos h0
  have hb0:decide ((gS b g p).2.2=0)=false:=decide_eq_false h0
  rw [Fy]
  (refine Spec.hd (C:=T.cfg [] []) (rs:= [.c 4 28, .t 5]) (T.ai _ _) Tryz.func33 rfl rfl Tryz.ntmps33 Tryz.results33 (by simp [AObj.isNest]) (by simp [AObj.isNest]) (by kernel_rfl) T.mixed fun X hX hP hC aH bU=> ?_)
  repeat' (first|refine Rn.p ?_|(with_reducible apply And.intro)|((first|(refine hK _ ?_;clear hK K)|with_reducible intro K hK|refine Rs.p ?_|((with_reducible first|apply oP|apply oQ);exact rfl)|refine aa hX hC hP (H9) rfl rfl rfl (by simp only [go_sem,simprocAttr,hb0,dz]) rfl ?_);try simp only [go_sem,simprocAttr,hb0,dz])|((with_reducible refine oD ?_ ?_);kernel_rfl)|((with_reducible intro h);try simp only [go_sem,simprocAttr,hb0,dz] at h)|omega|intro h)
  all_goals rfl
 obtain ⟨hO,hE⟩:=zv hr h0
 rw [hE] at H9
 have Fz:=jE hO
 have Ma:=Cn hO
 have NX:(bA true (ah g p) (bB g p)).2.1=0:=by rw [jH (k9 Fz) Fz]
 by_cases h1:64<(ah g p).n+(dA (ah g p)).length∨128<(ah g p).es.length+(dA (ah g p)).length
 ·have Fy:sy b g p=(dz,10):=by unfold sy;rw [if_neg (by rw [h0];simp),if_pos h1]
  have hN:=CD (ah g p) (by have:=hO.es;omega) (bB g p) (tM Fz) true (k9 Fz) NX Ma h1
  rw [Fy]
  (refine Spec.hd (C:=T.cfg [] []) (rs:= [.c 4 28, .t 5]) (T.ai _ _) Tryz.func33 rfl rfl Tryz.ntmps33 Tryz.results33 (by simp [AObj.isNest]) (by simp [AObj.isNest]) (by kernel_rfl) T.mixed fun X hX hP hC aH bU=> ?_)
  repeat' (first|refine Rn.p ?_|(with_reducible apply And.intro)|((first|(refine hK _ ?_;clear hK K)|with_reducible intro K hK|refine Rs.p ?_|((with_reducible first|apply oP|apply oQ);exact rfl)|refine aa hX hC hP (H9) rfl rfl rfl (by simp only [go_sem,simprocAttr,dz]) rfl ?_|refine aa hX hC hP (hN) rfl rfl rfl (by simp only [go_sem,simprocAttr,dz]) rfl ?_);try simp only [go_sem,simprocAttr,dz])|((with_reducible refine oD ?_ ?_);kernel_rfl)|((with_reducible intro h);try simp only [go_sem,simprocAttr,dz] at h)|omega|intro h)
  all_goals rfl
 have Fy:sy b g p=(L9 g (ah g p).n (dA (ah g p)) (s4 g p false) (s4 g p true),0):=by unfold sy;rw [if_neg (by rw [h0];simp),if_neg h1]
 have NY:Room g p:=⟨hO,by omega,by omega⟩
 rw [Fy]
 have hN:=Fa (ah g p) (by have:=hO.es;omega) (bB g p) (tM Fz) Fz Ma (dA (ah g p)) rfl (by omega) (by omega)
 have Kj:=Bj NY
 have hk:=CC (aQ (ah g p) (dA (ah g p))) (by rw [gr];omega) (qt (ah g p) (bB g p) (dA (ah g p))) (tM Kj) true (k9 Kj)
 have pP:LD true (aQ (ah g p) (dA (ah g p))) (qt (ah g p) (bB g p) (dA (ah g p)))=(s4 g p false,s4 g p true,0):=if_pos ⟨by rw [jH (k9 Kj) Kj],JL NY⟩
 rw [pP] at hk
 simp only at hk
 have hm:=an hO.run.1
 have hn:=aC hm
 have Iu:=jD (g:=g) (p:=p)
 have lx:(s4 g p false).length=((ah g p).n+(dA (ah g p)).length).toNat:=tN
 have ly:(s4 g p true).length=((ah g p).n+(dA (ah g p)).length).toNat:=tN
 have dn:=oX (g:=ah g p)
 have hfind:=fun i=>Bk (g:=ah g p) dn.nd (i:=i)
 have hval:=fun i hi=>JM (g:=ah g p) dn.nd (i:=i) hi
 have Ln:∀i∈dA (ah g p),(dA (ah g p)).idxOf i<(dA (ah g p)).length:=fun i hi=>(rz hi).1
 generalize s4 g p false=xs at*
 generalize s4 g p true=ys at*
 generalize dA (ah g p)=bs at*
 have fc:aQ (ah g p) bs=⟨(ah g p).n+bs.length,gi (ah g p) bs⟩:=rfl
 have Og:qt (ah g p) (bB g p) bs=⟨dy (ah g p) bs bs.length (bB g p).ord,(bB g p).outs++eO (ah g p) bs.length⟩:=rfl
 rw [fc,Og] at hk
 have TY:(ah g p).n≤64:=hO.n
 generalize l9 (ah g p) bs bs.length=au at*
 generalize gi (ah g p) bs=E at*
 generalize dy (ah g p) bs bs.length (bB g p).ord=RO at*
 generalize (bB g p).outs++eO (ah g p) bs.length=RL at*
 generalize bB g p=AP at*
 obtain ⟨AN,nV⟩:∃AN:Nat,(ah g p).n=AN:=⟨(ah g p).n.toNat,by omega⟩
 generalize TZ:ah g p=A at*
 have qD:∀v:Nat,v<AN+bs.length→Spec Tryz.prog 77 (Args [eN v, .ptr 10001 0, .ptr 10002 0]) [(10001, .rob [.d (sI xs)]),(10002, .rob [.d (sI ys)])] (.agg [eN (xs.getD v 0),eN (ys.getD v 0)]) [(10001, .rob [.d (sI xs)]),(10002, .rob [.d (sI ys)])]:=fun v hv=>JN xs ys v (by omega) (by omega) (by omega) (by omega)
 (refine Spec.hd (C:=T.cfg [] []) (rs:= [.c 4 28, .t 5]) (T.ai _ _) Tryz.func33 rfl rfl Tryz.ntmps33 Tryz.results33 (by simp [AObj.isNest]) (by simp [AObj.isNest]) (by kernel_rfl) T.mixed fun X hX hP hC aH bU=> ?_)
 repeat' (first|(show bM _ (.seq (.region 7 _ _) _) _ _;(refine cG hX 301 rfl (.inl rfl) ?_;simp only [go_sem,simprocAttr,jO,nV]);(refine cG hX 302 rfl (.inl rfl) ?_;simp only [go_sem,simprocAttr,jO,nV]);(refine cG hX 303 rfl (.inl rfl) ?_;simp only [go_sem,simprocAttr,jO,nV]))|(show bM _ (.seq (.region 10 _ _) _) _ _;(refine dZ hX 14 0 401 (.tip 71 2 []) rfl rfl rfl (by simp only [go_sem,simprocAttr,jO,nV]) (by decide) (by simp [go_sem,simprocAttr,jO,nV]) ⟨71,2,by decide, .inr rfl⟩ ?_;simp only [List.set_cons_zero,List.set_cons_succ,go_sem,simprocAttr,jO,nV]);(refine dZ hX 14 1 402 (.tip 25 1 []) rfl rfl rfl (by simp only [go_sem,simprocAttr,jO,nV]) (by decide) (by simp [go_sem,simprocAttr,jO,nV]) ⟨25,1,by decide, .inr rfl⟩ ?_;simp only [List.set_cons_zero,List.set_cons_succ,go_sem,simprocAttr,jO,nV]))|refine Rn.p ?_|(with_reducible apply And.intro)|((first|(refine hK _ ?_;clear hK K)|with_reducible intro K hK|refine Rs.p ?_|((with_reducible first|apply oP|apply oQ);exact rfl)|refine aa hX hC hP (H9) rfl rfl rfl (by simp only [go_sem,simprocAttr,jO,nV]) rfl ?_|(refine aq hX hC hP [(10000,300),(10001,301),(10002,302),(10003,303),(10004,304)] (hN) rfl rfl rfl ?_ ?_ ?_ ?_ ?_ ?_ ?_ ?_ ?_ ?_ ?_ ?_ ?_ ?_;(focus (simp only [go_sem,simprocAttr,jO,nV];done));(iterate 12 (focus (simp [go_sem,simprocAttr,jO,nV];done)));try simp only [List.map_cons,List.map_nil])|(refine b8 hX hC hP (hk) rfl rfl rfl ?_ ?_ rfl ?_;iterate 2 (focus (simp only [go_sem,simprocAttr,jO,nV];done))));try simp only [go_sem,simprocAttr,jO,nV])|((with_reducible refine oD ?_ ?_);kernel_rfl)|((with_reducible intro h);try simp only [go_sem,simprocAttr,jO,nV] at h)|omega|intro h)
 refine ag (fun k:Nat=>k≤g.n.toNat) (fun k=>⟨[(2, .ptr 2 0),(4, .ptr 4 0),(5,eN 0),(9, .ptr 300 0),(13, .fn 77 [] [.ptr 10 0, .ptr 11 0]),(14, .ptr 14 0),(58,eN g.n),(59,eN k)], [(2, .box [eN g.n, .d (sE g.es)]),(4, .box [.nil 71, .nil 25]),(10, .box [.d (sI xs)]),(11, .box [.d (sI ys)]),(14, .box [.ref 401, .ref 402]),(300, .box [eN ((AN:Int)+(bs.length:Int)), .d (sE E), .d (sI RO), .d (.sl 1 (vI RL)), .mref 304]),(304, .mp 0 au),(401, .tip 71 2 ((ko xs ys k).map rP)),(402, .tip 25 1 [])]⟩) (fun k=>g.n.toNat - k) 0 (by omega) ?_ ?_
 ·refine Le.of ?_ ?_<;>simp [go_sem,simprocAttr,ko,nV]
 rintro k hk
 rcases Nat.lt_or_ge k g.n.toNat with hlt|hge
 ·have hb:decide ((k:Int)<g.n)=true:=decide_eq_true (by omega)
  have hc:=qD k (by omega)
  have bw:=Bh (xs:=xs) (ys:=ys) (k:=k)
  have cJ:=qx (xs:=xs) (ys:=ys) (k:=k)
  generalize QT:ko xs ys (k+1)=P2 at bw
  generalize ko xs ys k=P1 at bw cJ
  repeat' (first|(show bM _ (.region 14 _ _) _ _;(refine bt hX 14 0 68 401 rfl rfl rfl (by first|exact .inl rfl|exact .inr rfl) (by decide) (by decide) ?_;simp only [List.set_cons_zero,List.set_cons_succ,go_sem,simprocAttr,hb,cJ]))|refine Rn.p ?_|(with_reducible apply And.intro)|((first|(refine hK _ ?_;clear hK K)|with_reducible intro K hK|refine Rs.p ?_|((with_reducible first|apply oP|apply oQ);exact rfl)|(refine aJ hX hC hP [(10001,10),(10002,11)] (hc) rfl rfl rfl ?_ ?_ ?_ ?_ ?_ ?_ rfl rfl ?_ ?_;(focus (simp only [go_sem,simprocAttr,hb,cJ];done));(iterate 6 (focus (simp [go_sem,simprocAttr,hb,cJ];done)));try simp only [List.map_cons,List.map_nil]));try simp only [go_sem,simprocAttr,hb,cJ])|((with_reducible refine oD ?_ ?_);kernel_rfl)|((with_reducible intro h);try simp only [go_sem,simprocAttr,hb,cJ] at h)|omega|intro h)
  refine ⟨k+1,by omega, ?_,by omega⟩
  rw [QT,bw]
  refine Le.of ?_ ?_<;>simp [go_sem,simprocAttr,hb,cJ,qF,rP]
 have hb:decide ((k:Int)<g.n)=false:=decide_eq_false (by omega)
 obtain rfl:k=g.n.toNat:=by omega
 repeat' (first|refine Rn.p ?_|(with_reducible apply And.intro)|((first|(refine hK _ ?_;clear hK K)|with_reducible intro K hK|refine Rs.p ?_|((with_reducible first|apply oP|apply oQ);exact rfl));try simp only [go_sem,simprocAttr,hb])|((with_reducible refine oD ?_ ?_);kernel_rfl)|((with_reducible intro h);try simp only [go_sem,simprocAttr,hb] at h)|omega|intro h)
 have QU:L9 g (AN:Int) bs xs ys=⟨ko xs ys g.n.toNat,lT g (AN:Int) bs xs ys g.es.length⟩:=rfl
 have cJ:=qx (xs:=xs) (ys:=ys) (k:=g.n.toNat)
 rw [QU]
 generalize ko xs ys g.n.toNat=PT at cJ
 refine ag (fun i:Nat=>i≤g.es.length) (fun i=>⟨[(2, .ptr 2 0),(4, .ptr 4 0),(5,eN 0),(9, .ptr 300 0),(13, .fn 77 [] [.ptr 10 0, .ptr 11 0]),(14, .ptr 14 0),(72, .d (sE g.es)),(73,eN g.es.length),(74,eN i)], [(2, .box [eN g.n, .d (sE g.es)]),(4, .box [.nil 71, .nil 25]),(10, .box [.d (sI xs)]),(11, .box [.d (sI ys)]),(14, .box [.ref 401, .ref 402]),(300, .box [eN ((AN:Int)+(bs.length:Int)), .d (sE E), .d (sI RO), .d (.sl 1 (vI RL)), .mref 304]),(304, .mp 0 au),(401, .tip 71 2 (PT.map rP)),(402, .tip 25 1 (vP (lT g (AN:Int) bs xs ys i)))]⟩) (fun i=>g.es.length - i) 0 (by omega) ?_ ?_
 ·refine Le.of ?_ ?_<;>simp [go_sem,simprocAttr,lT,vP]
 rintro i hi
 rcases Nat.lt_or_ge i g.es.length with hil|J9
 ·have hb:decide ((i:Int)<(g.es.length:Int))=true:=decide_eq_true (by omega)
  have t1:=bk hm hil
  have t2:=bH hm hil
  obtain ⟨u,hu⟩:∃u:Nat,(g.es.getD i (0,0)).1=u:=⟨(g.es.getD i (0,0)).1.toNat,by have:=t1.1;unfold tl at this;omega⟩
  obtain ⟨w,hw⟩:∃w:Nat,(g.es.getD i (0,0)).2=w:=⟨(g.es.getD i (0,0)).2.toNat,by have:=t2.1;unfold hd at this;omega⟩
  have NZ:tl g i=u:=hu
  have Mb:hd g i=w:=hw
  have hc1:=qD u (by omega)
  have Da:=qD w (by omega)
  have bw:=Bi (g:=g) (N:=(AN:Int)) (bs:=bs) (xs:=xs) (ys:=ys) (k:=i)
  have fO:=zA (g:=g) (N:=(AN:Int)) (bs:=bs) (xs:=xs) (ys:=ys) (k:=i)
  have N0:∀l1 l2,vP (l1++ [l2])=vP l1++ [[sP l2]]:=fun l1 l2=>by simp [vP]
  have w9:=hfind (i:Int)
  generalize N1:lT g (AN:Int) bs xs ys (i+1)=L2 at bw
  generalize lT g (AN:Int) bs xs ys i=L1 at bw fO
  by_cases hin:(i:Int)∈bs
  ·rw [if_pos hin] at w9
   have Ff:=hval (i:Int) hin
   have hq:=Ln (i:Int) hin
   have oZ:Fe g (AN:Int) bs xs ys i= [qF xs ys u,qF xs ys (AN+bs.idxOf (i:Int)),qF xs ys w]:=by
    unfold Fe x8
    rw [if_pos hin,NZ,Mb,Int.toNat_natCast,Int.toNat_natCast,show ((AN:Int)+(bs.idxOf (i:Int):Nat)).toNat=AN+bs.idxOf (i:Int) by omega]
    rfl
   generalize bs.idxOf (i:Int)=q at w9 Ff hq oZ
   rw [nV,show (AN:Int)+(q:Int)=((AN+q:Nat):Int) by omega] at Ff
   have Jb:=qD (AN+q) (by omega)
   generalize AN+q=qq at Ff oZ Jb
   repeat' (first|(show bM _ (.region 23 _ _) _ _;(refine bt hX 14 1 110 402 rfl rfl rfl (by first|exact .inl rfl|exact .inr rfl) (by decide) (by decide) ?_;simp only [List.set_cons_zero,List.set_cons_succ,go_sem,simprocAttr,hb,hu,hw,w9,Ff,vP_length,fO,Option.isSome_some]))|refine Rn.p ?_|(with_reducible apply And.intro)|((first|(refine hK _ ?_;clear hK K)|with_reducible intro K hK|refine Rs.p ?_|((with_reducible first|apply oP|apply oQ);exact rfl)|(refine aJ hX hC hP [(10001,10),(10002,11)] (hc1) rfl rfl rfl ?_ ?_ ?_ ?_ ?_ ?_ rfl rfl ?_ ?_;(focus (simp only [go_sem,simprocAttr,hb,hu,hw,w9,Ff,vP_length,fO,Option.isSome_some];done));(iterate 6 (focus (simp [go_sem,simprocAttr,hb,hu,hw,w9,Ff,vP_length,fO,Option.isSome_some];done)));try simp only [List.map_cons,List.map_nil])|(refine aJ hX hC hP [(10001,10),(10002,11)] (Da) rfl rfl rfl ?_ ?_ ?_ ?_ ?_ ?_ rfl rfl ?_ ?_;(focus (simp only [go_sem,simprocAttr,hb,hu,hw,w9,Ff,vP_length,fO,Option.isSome_some];done));(iterate 6 (focus (simp [go_sem,simprocAttr,hb,hu,hw,w9,Ff,vP_length,fO,Option.isSome_some];done)));try simp only [List.map_cons,List.map_nil])|(refine aJ hX hC hP [(10001,10),(10002,11)] (Jb) rfl rfl rfl ?_ ?_ ?_ ?_ ?_ ?_ rfl rfl ?_ ?_;(focus (simp only [go_sem,simprocAttr,hb,hu,hw,w9,Ff,vP_length,fO,Option.isSome_some];done));(iterate 6 (focus (simp [go_sem,simprocAttr,hb,hu,hw,w9,Ff,vP_length,fO,Option.isSome_some];done)));try simp only [List.map_cons,List.map_nil]));try simp only [go_sem,simprocAttr,hb,hu,hw,w9,Ff,vP_length,fO,Option.isSome_some])|((with_reducible refine oD ?_ ?_);kernel_rfl)|((with_reducible intro h);try simp only [go_sem,simprocAttr,hb,hu,hw,w9,Ff,vP_length,fO,Option.isSome_some] at h)|omega|intro h)
   refine ⟨i+1,by omega, ?_,by omega⟩
   rw [N1,bw,oZ,N0]
   refine Le.of ?_ ?_<;>simp [go_sem,simprocAttr,hb,hu,hw,w9,Ff,vP_length,fO,Option.isSome_some,qF,rP,sP]
  ·rw [if_neg hin] at w9
   have oZ:Fe g (AN:Int) bs xs ys i= [qF xs ys u,qF xs ys w]:=by
    unfold Fe x8
    rw [if_neg hin,NZ,Mb,Int.toNat_natCast,Int.toNat_natCast]
    rfl
   repeat' (first|(show bM _ (.region 23 _ _) _ _;(refine bt hX 14 1 110 402 rfl rfl rfl (by first|exact .inl rfl|exact .inr rfl) (by decide) (by decide) ?_;simp only [List.set_cons_zero,List.set_cons_succ,go_sem,simprocAttr,hb,hu,hw,w9,vP_length,fO,Option.isSome_none]))|refine Rn.p ?_|(with_reducible apply And.intro)|((first|(refine hK _ ?_;clear hK K)|with_reducible intro K hK|refine Rs.p ?_|((with_reducible first|apply oP|apply oQ);exact rfl)|(refine aJ hX hC hP [(10001,10),(10002,11)] (hc1) rfl rfl rfl ?_ ?_ ?_ ?_ ?_ ?_ rfl rfl ?_ ?_;(focus (simp only [go_sem,simprocAttr,hb,hu,hw,w9,vP_length,fO,Option.isSome_none];done));(iterate 6 (focus (simp [go_sem,simprocAttr,hb,hu,hw,w9,vP_length,fO,Option.isSome_none];done)));try simp only [List.map_cons,List.map_nil])|(refine aJ hX hC hP [(10001,10),(10002,11)] (Da) rfl rfl rfl ?_ ?_ ?_ ?_ ?_ ?_ rfl rfl ?_ ?_;(focus (simp only [go_sem,simprocAttr,hb,hu,hw,w9,vP_length,fO,Option.isSome_none];done));(iterate 6 (focus (simp [go_sem,simprocAttr,hb,hu,hw,w9,vP_length,fO,Option.isSome_none];done)));try simp only [List.map_cons,List.map_nil]));try simp only [go_sem,simprocAttr,hb,hu,hw,w9,vP_length,fO,Option.isSome_none])|((with_reducible refine oD ?_ ?_);kernel_rfl)|((with_reducible intro h);try simp only [go_sem,simprocAttr,hb,hu,hw,w9,vP_length,fO,Option.isSome_none] at h)|omega|intro h)
   refine ⟨i+1,by omega, ?_,by omega⟩
   rw [N1,bw,oZ,N0]
   refine Le.of ?_ ?_<;>simp [go_sem,simprocAttr,hb,hu,hw,w9,vP_length,fO,Option.isSome_none,qF,rP,sP]
 have hb:decide ((i:Int)<(g.es.length:Int))=false:=decide_eq_false (by omega)
 obtain rfl:i=g.es.length:=by omega
 repeat' (first|refine Rn.p ?_|(with_reducible apply And.intro)|((first|(refine hK _ ?_;clear hK K)|with_reducible intro K hK|refine Rs.p ?_|((with_reducible first|apply oP|apply oQ);exact rfl));try simp only [go_sem,simprocAttr,hb])|((with_reducible refine oD ?_ ?_);kernel_rfl)|((with_reducible intro h);try simp only [go_sem,simprocAttr,hb] at h)|omega|intro h)
end Go.Ab
end
section
namespace Go.Ab
open Go.Proofs
set_option maxRecDepth 10000
set_option linter.unusedSectionVars false
section
variable {g:Gr} {bs:List Int} (hm:aN g=true) (hb:vQ g bs)
include hm hb
theorem zB {i:Nat} (hi:i<g.es.length):Bd g i=true↔nT g false (oW i) (tl g i).toNat (hd g i).toNat:=by
 have t:=bk hm hi
 have d:=bH hm hi
 unfold Bd
 rw [zo (by omega),zq]
 exact ⟨fun h=>h.2,fun h=>⟨by omega,h⟩⟩
end
theorem wj {i k:Nat} :oW i k=true↔k≠i:=by
 unfold oW
 rw [Bool.not_eq_true',decide_eq_false_iff_not]
 omega
theorem JO {g:Gr} (hm:aN g=true) {i:Int} :i∈dA g↔∃k:Nat,k<g.es.length∧Bd g k=true∧i=(k:Int):=by
 unfold dA
 rw [if_pos hm]
 simp only [w4,List.mem_map,List.mem_filter,List.mem_range]
 constructor
 ·rintro ⟨j,⟨h1,h2⟩,rfl⟩;exact ⟨j,h1,h2,rfl⟩
 ·rintro ⟨j,h1,h2,rfl⟩;exact ⟨j,⟨h1,h2⟩,rfl⟩
end Go.Ab
end
section
namespace Go.Ab
open Go.Proofs
attribute [local congr] ACall.congr gd.congr Nx.congr
set_option maxRecDepth 20000
set_option maxHeartbeats 8000000
theorem sC (d:Dr) (h1:d.pts.length≤9223372036854775807) (h2:d.ls.length≤9223372036854775807) (h3:∀l∈d.ls,l.length≤9223372036854775807):Spec Tryz.prog 35 (Args [eDr d,eDr d]) [] (eB true) []:=by
 (refine Spec.hd (C:=T.cfg [] []) (rs:= [.t 4]) (T.ai _ _) Tryz.func35 rfl rfl Tryz.ntmps35 Tryz.results35 (by simp [AObj.isNest]) (by simp [AObj.isNest]) (by kernel_rfl) T.mixed fun X hX hP hC aH bU=> ?_)
 repeat' (first|refine Rn.p ?_|(with_reducible apply And.intro)|((first|(refine hK _ ?_;clear hK K)|with_reducible intro K hK|refine Rs.p ?_|((with_reducible first|apply oP|apply oQ);exact rfl));try simp only [go_sem,simprocAttr,decide_true])|((with_reducible refine oD ?_ ?_);kernel_rfl)|((with_reducible intro h);try simp only [go_sem,simprocAttr,decide_true] at h)|omega|intro h)
 refine ag (fun k:Nat=>k≤d.pts.length) (fun k=>⟨[(2, .ptr 2 0),(3, .ptr 3 0),(4,eB false),(5,eN k)], [(2, .box [.d (sP d.pts), .d (sLn d.ls)]),(3, .box [.d (sP d.pts), .d (sLn d.ls)])]⟩) (fun k=>d.pts.length - k) 0 (by omega) ?_ ?_
 ·refine Le.of ?_ ?_<;>simp [go_sem,simprocAttr,decide_true]
 rintro k hk
 rcases Nat.lt_or_ge k d.pts.length with hlt|hge
 ·have hb:decide ((k:Int)<(d.pts.length:Int))=true:=decide_eq_true (by omega)
  repeat' (first|refine Rn.p ?_|(with_reducible apply And.intro)|((first|(refine hK _ ?_;clear hK K)|with_reducible intro K hK|refine Rs.p ?_|((with_reducible first|apply oP|apply oQ);exact rfl));try simp only [go_sem,simprocAttr,decide_true,hb])|((with_reducible refine oD ?_ ?_);kernel_rfl)|((with_reducible intro h);try simp only [go_sem,simprocAttr,decide_true,hb] at h)|omega|intro h)
  refine ⟨k+1,by omega, ?_,by omega⟩
  refine Le.of ?_ ?_<;>simp [go_sem,simprocAttr,decide_true,hb]
 have hb:decide ((k:Int)<(d.pts.length:Int))=false:=decide_eq_false (by omega)
 repeat' (first|refine Rn.p ?_|(with_reducible apply And.intro)|((first|(refine hK _ ?_;clear hK K)|with_reducible intro K hK|refine Rs.p ?_|((with_reducible first|apply oP|apply oQ);exact rfl));try simp only [go_sem,simprocAttr,decide_true,hb])|((with_reducible refine oD ?_ ?_);kernel_rfl)|((with_reducible intro h);try simp only [go_sem,simprocAttr,decide_true,hb] at h)|omega|intro h)
 refine ag (fun i:Nat=>i≤d.ls.length) (fun i=>⟨[(2, .ptr 2 0),(3, .ptr 3 0),(4,eB false),(6,eN i)], [(2, .box [.d (sP d.pts), .d (sLn d.ls)]),(3, .box [.d (sP d.pts), .d (sLn d.ls)])]⟩) (fun i=>d.ls.length - i) 0 (by omega) ?_ ?_
 ·refine Le.of ?_ ?_<;>simp [go_sem,simprocAttr,decide_true,hb]
 rintro i hi
 rcases Nat.lt_or_ge i d.ls.length with hil|J9
 ·have hb2:decide ((i:Int)<(d.ls.length:Int))=true:=decide_eq_true (by omega)
  have o6:=vP_getD d.ls i
  have Ny:=h3 _ (aD (d:= []) hil)
  generalize hl:d.ls.getD i []=l at o6 Ny
  repeat' (first|refine Rn.p ?_|(with_reducible apply And.intro)|((first|(refine hK _ ?_;clear hK K)|with_reducible intro K hK|refine Rs.p ?_|((with_reducible first|apply oP|apply oQ);exact rfl));try simp only [go_sem,simprocAttr,decide_true,hb2,hl,vP_length])|((with_reducible refine oD ?_ ?_);kernel_rfl)|((with_reducible intro h);try simp only [go_sem,simprocAttr,decide_true,hb2,hl,vP_length] at h)|omega|intro h)
  refine ag (fun j:Nat=>j≤l.length) (fun j=>⟨[(2, .ptr 2 0),(3, .ptr 3 0),(4,eB false),(6,eN i),(7,eN j)], [(2, .box [.d (sP d.pts), .d (sLn d.ls)]),(3, .box [.d (sP d.pts), .d (sLn d.ls)])]⟩) (fun j=>l.length - j) 0 (by omega) ?_ ?_
  ·refine Le.of ?_ ?_<;>simp [go_sem,simprocAttr,decide_true,hb2,hl,vP_length]
  rintro j hj
  rcases Nat.lt_or_ge j l.length with hjl|No
  ·have hb3:decide ((j:Int)<(l.length:Int))=true:=decide_eq_true (by omega)
   repeat' (first|refine Rn.p ?_|(with_reducible apply And.intro)|((first|(refine hK _ ?_;clear hK K)|with_reducible intro K hK|refine Rs.p ?_|((with_reducible first|apply oP|apply oQ);exact rfl));try simp only [go_sem,simprocAttr,decide_true,hb2,hl,vP_length,hb3])|((with_reducible refine oD ?_ ?_);kernel_rfl)|((with_reducible intro h);try simp only [go_sem,simprocAttr,decide_true,hb2,hl,vP_length,hb3] at h)|omega|intro h)
   refine ⟨j+1,by omega, ?_,by omega⟩
   refine Le.of ?_ ?_<;>simp [go_sem,simprocAttr,decide_true,hb2,hl,vP_length,hb3]
  have hb3:decide ((j:Int)<(l.length:Int))=false:=decide_eq_false (by omega)
  repeat' (first|refine Rn.p ?_|(with_reducible apply And.intro)|((first|(refine hK _ ?_;clear hK K)|with_reducible intro K hK|refine Rs.p ?_|((with_reducible first|apply oP|apply oQ);exact rfl));try simp only [go_sem,simprocAttr,decide_true,hb2,hl,vP_length,hb3])|((with_reducible refine oD ?_ ?_);kernel_rfl)|((with_reducible intro h);try simp only [go_sem,simprocAttr,decide_true,hb2,hl,vP_length,hb3] at h)|omega|intro h)
  refine ⟨i+1,by omega, ?_,by omega⟩
  refine Le.of ?_ ?_<;>simp [go_sem,simprocAttr,decide_true,hb2,hl,vP_length,hb3]
 have hb2:decide ((i:Int)<(d.ls.length:Int))=false:=decide_eq_false (by omega)
 repeat' (first|refine Rn.p ?_|(with_reducible apply And.intro)|((first|(refine hK _ ?_;clear hK K)|with_reducible intro K hK|refine Rs.p ?_|((with_reducible first|apply oP|apply oQ);exact rfl));try simp only [go_sem,simprocAttr,decide_true,hb2])|((with_reducible refine oD ?_ ?_);kernel_rfl)|((with_reducible intro h);try simp only [go_sem,simprocAttr,decide_true,hb2] at h)|omega|intro h)
def Bl:Gr:=⟨3, [(0,1),(1,2),(0,2)]⟩
def Iy:Pl:=⟨[0,1,2], [[0,2], [1], []]⟩
def d21:Dr:=⟨[(0,0),(1,2),(3,3)], [[(0,0),(1,2)], [(1,2),(3,3)], [(0,0),(2,1),(3,3)]]⟩
theorem KS:(true=true)↔(bL Bl).1=0∧aU Bl Iy:=⟨fun _=>⟨by decide,⟨rfl,by decide,by decide⟩⟩,fun _=>rfl⟩
theorem QV:dA Bl= [2]:=by
 have hm:aN Bl=true:=by decide
 have h0:Bd Bl 0=false:=by rw [← qw hm (by decide)];decide
 have h1:Bd Bl 1=false:=by rw [← qw hm (by decide)];decide
 have h2:Bd Bl 2=true:=by rw [← qw hm (by decide)];decide
 unfold dA
 rw [if_pos hm]
 show w4 Bl 3= [2]
 rw [mM,if_pos h2,mM,if_neg (by rw [h1];decide),mM,if_neg (by rw [h0];decide)]
 rfl
theorem QW:sy true Bl Iy=(d21,0):=by
 have a1:gS true Bl Iy=(Bl,Iy,0):=rfl
 have a2:ah Bl Iy=Bl:=rfl
 have a3:bB Bl Iy=Iy:=rfl
 unfold sy s4
 rw [a1,a2,a3,QV,if_neg (by simp),if_neg (by decide)]
 rfl
end Go.Ab
end
section
namespace Go.Ab
open Go.Proofs
set_option maxRecDepth 10000
set_option linter.unusedSectionVars false
def ky (t:It):Bool × Int × Int:=(decide (0≤t.1),t.2)
structure Alike (G G':Gr) (P P':Pl):Prop where
 n:G'.n=G.n
 need:∀x,bf G' x=bf G x
 out:∀x,(cl P' x).map (ez G')=(cl P x).map (ez G)
 o1:∀x,∀e∈cl P x,0≤e
 o2:∀x,∀e∈cl P' x,0≤e
structure UX (f f':Fr):Prop where
 row:f'.row.map ky=f.row.map ky
 pl:f'.pl=f.pl
section
variable {G G':Gr} {P P':Pl} (hA:Alike G G' P P')
include hA
end
section
variable {G G':Gr} {P P':Pl} (hA:Alike G G' P P') (hm:aN G=true) (hm':aN G'=true)
include hA hm hm'
end
section
variable {G G':Gr} {P P':Pl} (hA:Alike G G' P P') (h:aX G P) (h':aX G' P')
include hA h h'
end
end Go.Ab
end
section
namespace Go.Ab
open Go.Proofs
set_option maxRecDepth 10000
set_option linter.unusedSectionVars false
theorem ya {l:List It} :loose l.reverse=(loose l).reverse:=by simp [loose]
theorem Bm {g:Gr} {p:Pl} (h:aX g p):∀ {k:Nat},k≤g.n.toNat→(ck g (ew p) k).Perm (ck g p k)
 |0,_=> .nil
 |k+1,hk=>by
  have ih:=Bm h (k:=k) (by omega)
  show (ck g (ew p) k++(loose (cn g (ew p) k)).map fun v=>(v,aE (ew p) k)).Perm (ck g p k++(loose (cn g p k)).map fun v=>(v,aE p k))
  rw [He h (by omega),ya,List.map_reverse]
  exact ih.append (List.reverse_perm _)
theorem Bn {g:Gr} {p:Pl} (h:aX g p):aS g (ew p)=(aS g p).reverse:=by
 unfold aS
 rw [(y5 h (Nat.le_refl _)).1]
 rfl
theorem Bo {g:Gr} {p:Pl} (h:aX g p):(aV g (ew p)).Perm (aV g p):=by
 unfold aV
 refine (Bm h (Nat.le_refl _)).append ?_
 unfold newL
 rw [Bn h,List.length_reverse]
 split
 ·rw [ya,List.map_reverse];exact List.reverse_perm _
 ·exact .nil
theorem Ia {g:Gr} {p:Pl} (h:aX g p):(ah g (ew p)).n=(ah g p).n:=by
 unfold ah
 rw [Bn h,List.length_reverse]
theorem wk {g:Gr} {p:Pl} (h:aX g p):(ah g (ew p)).es.length=(ah g p).es.length:=by
 show (g.es++aV g (ew p)).length=(g.es++aV g p).length
 rw [List.length_append,List.length_append,(Bo h).length_eq]
theorem Fg {g:Gr} {p:Pl} (h:jY g p):jY g (ew p):=
 ⟨G9 h.run,by rw [Ia h.run];exact h.n,by rw [wk h.run];exact h.es⟩
theorem zC {g:Gr} {p:Pl} :(ah g p).es.length=g.es.length+(aV g p).length:=by
 show (g.es++aV g p).length=_
 rw [List.length_append]
theorem Bp {l:List Edge} {j:Nat} (h:j<l.length):l.getD j (0,0)∈l:=by
 rw [List.getD_eq_getElem?_getD,List.getElem?_eq_getElem h];exact List.getElem_mem _
theorem Ib {l:List Edge} {e:Edge} (h:e∈l):∃j,j<l.length∧l.getD j (0,0)=e:=by
 obtain ⟨j,hj,rfl⟩:=List.mem_iff_getElem.1 h
 exact ⟨j,hj,by rw [List.getD_eq_getElem?_getD,List.getElem?_eq_getElem hj];rfl⟩
theorem N2 {l:List Edge} (h:(l.map (·.1)).Nodup) {i j:Nat} (hi:i<l.length) (hj:j<l.length) (e:(l.getD i (0,0)).1=(l.getD j (0,0)).1):i=j:=by
 rw [List.getD_eq_getElem?_getD,List.getElem?_eq_getElem hi,List.getD_eq_getElem?_getD,List.getElem?_eq_getElem hj] at e
 exact (List.getElem_inj (i:=i) (j:=j) (h₀:=by simpa using hi) (h₁:=by simpa using hj) h).1 (by rw [List.getElem_map,List.getElem_map];exact e)
theorem CH {g:Gr} {p:Pl} (h:jY g p) {j:Nat} (hj:j<(aV g p).length):Bd (ah g p) (g.es.length+j)=false:=by
 have hm:=nG h
 have hr:=jE h
 have hb:vQ (ah g p) []:=⟨List.nodup_nil,by simp⟩
 obtain ⟨n1,n2⟩:=eZ h.run
 have hjl:g.es.length+j<(ah g p).es.length:=by rw [zC];omega
 rw [Bool.eq_false_iff,ne_eq,zB hm hb hjl]
 intro hR
 have T0:tl (ah g p) (g.es.length+j)=((aV g p).getD j (0,0)).1:=by unfold tl;rw [iP]
 have stuck:∀w,nT (ah g p) false (oW (g.es.length+j)) (tl (ah g p) (g.es.length+j)).toNat w→w=(tl (ah g p) (g.es.length+j)).toNat:=fun w hw=>by
  induction hw with
  |refl=>rfl
  |Iw _ _ hf=>cases hf
  | @fwd i hi L8 _ ih=>
    exfalso
    have hij:=wj.1 L8
    have ti:=bk hm hi
    have tj:=bk hm hjl
    have e:tl (ah g p) i=tl (ah g p) (g.es.length+j):=by omega
    rw [T0] at e
    rw [zC] at hi
    rcases Nat.lt_or_ge i g.es.length with hil|J9
    ·have h1:=n2 _ (Bp hj)
     have h2:tl (ah g p) i=tl g i:=by unfold tl;rw [gU i hil]
     rw [h2] at e
     have h3:=(kZ h.run.2.1 h1.1.1 h1.1.2).2 h1.2
     have h4:(i:Int)∈aY g ((aV g p).getD j (0,0)).1:=bJ.2 ⟨⟨by omega,by omega⟩,by rw [Int.toNat_natCast];exact e⟩
     rw [h3] at h4
     cases h4
    ·obtain ⟨k,rfl⟩:∃k,i=g.es.length+k:=⟨i - g.es.length,by omega⟩
     have h2:tl (ah g p) (g.es.length+k)=((aV g p).getD k (0,0)).1:=by unfold tl;rw [iP]
     rw [h2] at e
     have:=N2 n1 (by omega) hj e
     omega
 have h1:=stuck _ hR
 have h2:=vR hr (e:=((g.es.length+j:Nat):Int)) (by omega) (by omega)
 have e1:fe (ah g p) ((g.es.length+j:Nat):Int)=tl (ah g p) (g.es.length+j):=rfl
 have e2:ez (ah g p) ((g.es.length+j:Nat):Int)=hd (ah g p) (g.es.length+j):=rfl
 have t1:=bk hm hjl
 have t2:=bH hm hjl
 rw [e1,e2,show hd (ah g p) (g.es.length+j)=tl (ah g p) (g.es.length+j) by omega] at h2
 omega
theorem DJ {g:Gr} {p p':Pl} (hN:∀e∈aV g p,e∈aV g p') {i:Nat} (hi:i<g.es.length) {u w:Nat} (h:nT (ah g p) false (oW i) u w):nT (ah g p') false (oW i) u w:=by
 induction h with
 |refl=>exact .refl
 |Iw _ _ hf=>cases hf
 | @fwd j hj RY _ ih=>
   have hji:=wj.1 RY
   rw [zC] at hj
   rcases Nat.lt_or_ge j g.es.length with hjl|No
   ·have e1:(ah g p).es.getD j (0,0)=(ah g p').es.getD j (0,0):=by rw [gU j hjl,gU j hjl]
    unfold tl at ih
    unfold hd
    rw [e1] at ih ⊢
    exact .fwd (by rw [zC];omega) RY ih
   ·obtain ⟨k,rfl⟩:∃k,j=g.es.length+k:=⟨j - g.es.length,by omega⟩
    obtain ⟨k',h1,h2⟩:=Ib (hN _ (Bp (l:=aV g p) (j:=k) (by omega)))
    have e1:(ah g p).es.getD (g.es.length+k) (0,0)=(ah g p').es.getD (g.es.length+k') (0,0):=by rw [iP,iP,h2]
    unfold tl at ih
    unfold hd
    rw [e1] at ih ⊢
    exact .fwd (i:=g.es.length+k') (by rw [zC];omega) (wj.2 (by omega)) ih
theorem LI {g:Gr} {p:Pl} (h:jY g p):dA (ah g (ew p))=dA (ah g p)∧∀i∈dA (ah g p),0≤i∧i<g.es.length:=by
 have h':=Fg h
 have hm:=nG h
 have hm':=nG h'
 have hb:vQ (ah g p) []:=⟨List.nodup_nil,by simp⟩
 have hb':vQ (ah g (ew p)) []:=⟨List.nodup_nil,by simp⟩
 have hN:=Bo h.run
 constructor
 ·unfold dA
  rw [if_pos hm,if_pos hm',wk h.run]
  unfold w4
  congr 1
  refine List.filter_congr fun i hi=> ?_
  have hi:=List.mem_range.1 hi
  have hi':=hi
  rw [zC] at hi
  rcases Nat.lt_or_ge i g.es.length with hil|J9
  ·rw [Bool.eq_iff_iff,zB hm hb hi',zB hm' hb' (by rw [wk h.run];exact hi')]
   have e1:tl (ah g (ew p)) i=tl (ah g p) i:=by unfold tl;rw [gU i hil,gU i hil]
   have e2:hd (ah g (ew p)) i=hd (ah g p) i:=by unfold hd;rw [gU i hil,gU i hil]
   rw [e1,e2]
   exact ⟨DJ (fun e he=>hN.mem_iff.1 he) hil,DJ (fun e he=>hN.mem_iff.2 he) hil⟩
  ·obtain ⟨k,rfl⟩:∃k,i=g.es.length+k:=⟨i - g.es.length,by omega⟩
   rw [CH h (by omega),CH h' (by rw [hN.length_eq];omega)]
 ·intro i hi
  obtain ⟨k,h1,h2,rfl⟩:=(JO hm).1 hi
  refine ⟨by omega, ?_⟩
  refine Decidable.byContradiction fun hc=> ?_
  obtain ⟨j,rfl⟩:∃j,k=g.es.length+j:=⟨k - g.es.length,by omega⟩
  rw [zC] at h1
  rw [CH h (by omega)] at h2
  cases h2
theorem LJ {g:Gr} {p:Pl} {bs:List Int} (hl:∀i∈bs,0≤i∧i<(g.es.length:Int)) {e:Int} (h0:0≤e) (h1:e<g.es.length):ez (aQ (ah g p) bs) e=if e∈bs then (ah g p).n+(bs.idxOf e:Nat) else ez g e:=by
 have h2:=(cZ (g:=ah g p) (bs:=bs) (e:=e) h0 (by rw [zC];omega)).2
 rw [h2]
 unfold wY ez
 rw [gU _ (by omega)]
section
variable {g:Gr} {p:Pl} (h:jY g p)
include h
end
end Go.Ab
end
section
namespace Go.Ab
open Go.Proofs
attribute [local congr] ACall.congr gd.congr Nx.congr
set_option maxRecDepth 10000
set_option maxHeartbeats 8000000
def FA (rev:Bool) (row:List It) (i:Nat):Int:=((fY rev row).getD i (0,0,0)).2.2
def sD (g:Gr) (f:Fr) (rev:Bool):Int:=match (fY rev f.row).find? (fun t=>ak g f t.2.2) with
 |some t=>t.2.2
 |none=>match (List.range g.n.toNat).find? (fun x:Nat=>ak g f (x:Int)) with
  |some x=>(x:Int)
  |none=> -1
theorem yb {rev:Bool} {row:List It} :(fY rev row).length=row.length:=by unfold fY;split<;>simp
theorem Ic {row:List It} {i:Nat} (hi:i<row.length):FA true row i=(row.getD (row.length - 1 - i) (0,0,0)).2.2:=by
 unfold FA fY
 rw [if_pos rfl,List.getD_eq_getElem?_getD,List.getElem?_reverse hi,List.getD_eq_getElem?_getD]
theorem Ie {g:Gr} {f:Fr} {rev:Bool} {i:Nat} (hi:i<f.row.length) (hg:∀j,j<i→ak g f (FA rev f.row j)=false) (h:ak g f (FA rev f.row i)=true):sD g f rev=FA rev f.row i:=by
 unfold sD
 have:(fY rev f.row).find? (fun t=>ak g f t.2.2)=some ((fY rev f.row).getD i (0,0,0)):=by
  have hl:=yb (rev:=rev) (row:=f.row)
  rw [List.find?_eq_some_iff_getElem]
  refine ⟨h,i,by omega,by rw [List.getD_eq_getElem?_getD,List.getElem?_eq_getElem (by omega)];rfl,fun j hj=> ?_⟩
  have:=hg j hj
  unfold FA at this
  rw [List.getD_eq_getElem?_getD,List.getElem?_eq_getElem (by omega)] at this
  simpa using this
 rw [this];rfl
theorem Ig {g:Gr} {f:Fr} {rev:Bool} (hg:∀j,j<f.row.length→ak g f (FA rev f.row j)=false):sD g f rev=match (List.range g.n.toNat).find? (fun x:Nat=>ak g f (x:Int)) with
 |some x=>(x:Int)
 |none=> -1:=by
 unfold sD
 have:(fY rev f.row).find? (fun t=>ak g f t.2.2)=none:=by
  rw [List.find?_eq_none]
  intro t ht
  obtain ⟨j,hj,rfl⟩:=List.mem_iff_getElem.1 ht
  have hl:=yb (rev:=rev) (row:=f.row)
  have:=hg j (by omega)
  unfold FA at this
  rw [List.getD_eq_getElem?_getD,List.getElem?_eq_getElem hj] at this
  simpa using this
 rw [this]
theorem CI {g:Gr} (hm:aN g=true) {f:Fr} (hi:er g f) (rev:Bool):sD g f rev=fZ g f rev:=by
 unfold sD fZ
 split
 ·rename_i h;rw [h]
 ·rename_i h;rw [h]
  have e:(fun x:Nat=>fh g f (x:Int))=fun x:Nat=>ak g f (x:Int):=by funext x;exact jz hm hi _
  simp only [fk,ki,e]
  rw [List.headD_eq_head?_getD,List.head?_map,List.head?_filter]
  cases (List.range g.n.toNat).find? (fun x:Nat=>ak g f (x:Int))<;>rfl
theorem CJ {g:Gr} {f:Fr} {x:Int} (h:x<0):ak g f x=false:=if_pos (.inl h)
theorem Fh (g:Gr) (hl:g.es.length≤1000) (hn:g.n≤1000) (f:Fr) (hr:f.row.length≤1000000) (cJ:f.pl.length≤1000000) (rev:Bool):
 Spec Tryz.prog 119 (Args [.ptr 10000 0,eB rev]) [(10000, .rob (gy g f))] (eN (sD g f rev)) [(10000, .rob (gy g f))]:=by
 have Kk:= @Ie g f rev
 have JP:= @Ig g f rev
 generalize sD g f rev=H at Kk JP
 have hrd:=fun x=>bG g hl f x hr cJ
 unfold gy at hrd ⊢
 have hro:bp [(10000, .rob [eN g.n, .d (sE g.es), .d (sT f.row), .d (sI f.pl)])]:=Np g f
 (refine Spec.hd (C:=T.cfg [] []) (rs:= [.t 4]) (T.ai _ _) Tryz.func119 rfl rfl Tryz.ntmps119 Tryz.results119 (fun p hp=>⟨(bp.low hro p hp).1,bp.nest hro p hp⟩) (fun p hp=>⟨(bp.low hro p hp).2,bp.nest hro p hp⟩) (by kernel_rfl) T.mixed fun X hX hP hC aH bU=> ?_)
 repeat' (first|refine Rn.p ?_|(with_reducible apply And.intro)|((first|(refine hK _ ?_;clear hK K)|with_reducible intro K hK|refine Rs.p ?_|((with_reducible first|apply oP|apply oQ);exact rfl));try simp only [go_sem,simprocAttr])|((with_reducible refine oD ?_ ?_);kernel_rfl)|((with_reducible intro h);try simp only [go_sem,simprocAttr] at h)|omega|intro h)
 refine ag (fun k:Nat=>k≤f.row.length∧∀j,j<k→ak g f (FA rev f.row j)=false) (fun k=>⟨[(0, .ptr 10000 0),(1,eB rev),(5,eN f.row.length),(6,eN k)], [(10000, .rob [eN g.n, .d (sE g.es), .d (sT f.row), .d (sI f.pl)])]⟩) (fun k=>f.row.length - k) 0 (by simp) ?_ ?_
 ·refine Le.of ?_ ?_<;>simp [go_sem,simprocAttr]
 ·rintro k ⟨hk,hg⟩
  rcases Nat.lt_or_ge k f.row.length with hlt|hge
  ·have hb:decide ((k:Int)<(f.row.length:Int))=true:=decide_eq_true (by omega)
   have step:ak g f (FA rev f.row k)=false→∀j,j<k+1→ak g f (FA rev f.row j)=false:=fun h j hj=>by
    by_cases hjk:j=k
    ·subst hjk;exact h
    ·exact hg j (by omega)
   have Kk:=Kk hlt hg
   obtain ⟨i,hi,hik,Ln⟩:∃i,i<f.row.length∧(if rev=true then (f.row.length:Int) - 1 - k else k)=(i:Int)∧FA rev f.row k=(f.row.getD i (0,0,0)).2.2:=by
    cases rev with
    |true=>exact ⟨f.row.length - 1 - k,by omega,by rw [if_pos rfl];omega,Ic hlt⟩
    |false=>exact ⟨k,hlt,rfl,rfl⟩
   rw [Ln] at Kk step
   have hrd:=hrd (f.row.getD i (0,0,0)).2.2
   generalize mg:(f.row.getD i (0,0,0)).2.2=x at Kk step hrd
   by_cases h0:0≤x
   ·have hb0:decide (0≤x)=true:=decide_eq_true h0
    cases hR:ak g f x with
    |true=>
     rw [hR] at hrd
     have Kk:=Kk hR
     subst Kk
     cases rev with
     |true=>
      rw [if_pos rfl] at hik
      repeat' (first|refine Rn.p ?_|(with_reducible apply And.intro)|((first|(refine hK _ ?_;clear hK K)|with_reducible intro K hK|refine Rs.p ?_|((with_reducible first|apply oP|apply oQ);exact rfl)|(first|(refine aK hX hC hP hro (hrd) rfl rfl rfl ?_ ?_ rfl rfl ?_;(focus (simp only [go_sem,simprocAttr,hb,hik,mg,hb0];done));(focus (first|(intro p hp;exact aG (bp.nd hro) hp)|(simp [go_sem,simprocAttr,hb,hik,mg,hb0];done))))|(refine aK hX hC hP hro (hrd) rfl rfl rfl ?_ ?_ ?_ rfl ?_;(focus (simp only [go_sem,simprocAttr,hb,hik,mg,hb0];done));(focus (first|(intro p hp;exact aG (bp.nd hro) hp)|(simp [go_sem,simprocAttr,hb,hik,mg,hb0];done)));(focus (simp [go_sem,simprocAttr,hb,hik,mg,hb0];done)))));try simp only [go_sem,simprocAttr,hb,hik,mg,hb0])|((with_reducible refine oD ?_ ?_);kernel_rfl)|((with_reducible intro h);try simp only [go_sem,simprocAttr,hb,hik,mg,hb0] at h)|omega|intro h)
      all_goals exact dO hro
     |false=>
      rw [if_neg (by simp)] at hik
      repeat' (first|refine Rn.p ?_|(with_reducible apply And.intro)|((first|(refine hK _ ?_;clear hK K)|with_reducible intro K hK|refine Rs.p ?_|((with_reducible first|apply oP|apply oQ);exact rfl)|(first|(refine aK hX hC hP hro (hrd) rfl rfl rfl ?_ ?_ rfl rfl ?_;(focus (simp only [go_sem,simprocAttr,hb,hik,mg,hb0];done));(focus (first|(intro p hp;exact aG (bp.nd hro) hp)|(simp [go_sem,simprocAttr,hb,hik,mg,hb0];done))))|(refine aK hX hC hP hro (hrd) rfl rfl rfl ?_ ?_ ?_ rfl ?_;(focus (simp only [go_sem,simprocAttr,hb,hik,mg,hb0];done));(focus (first|(intro p hp;exact aG (bp.nd hro) hp)|(simp [go_sem,simprocAttr,hb,hik,mg,hb0];done)));(focus (simp [go_sem,simprocAttr,hb,hik,mg,hb0];done)))));try simp only [go_sem,simprocAttr,hb,hik,mg,hb0])|((with_reducible refine oD ?_ ?_);kernel_rfl)|((with_reducible intro h);try simp only [go_sem,simprocAttr,hb,hik,mg,hb0] at h)|omega|intro h)
      all_goals exact dO hro
    |false=>
     rw [hR] at hrd
     cases rev with
     |true=>
      rw [if_pos rfl] at hik
      repeat' (first|refine Rn.p ?_|(with_reducible apply And.intro)|((first|(refine hK _ ?_;clear hK K)|with_reducible intro K hK|refine Rs.p ?_|((with_reducible first|apply oP|apply oQ);exact rfl)|(first|(refine aK hX hC hP hro (hrd) rfl rfl rfl ?_ ?_ rfl rfl ?_;(focus (simp only [go_sem,simprocAttr,hb,hik,mg,hb0];done));(focus (first|(intro p hp;exact aG (bp.nd hro) hp)|(simp [go_sem,simprocAttr,hb,hik,mg,hb0];done))))|(refine aK hX hC hP hro (hrd) rfl rfl rfl ?_ ?_ ?_ rfl ?_;(focus (simp only [go_sem,simprocAttr,hb,hik,mg,hb0];done));(focus (first|(intro p hp;exact aG (bp.nd hro) hp)|(simp [go_sem,simprocAttr,hb,hik,mg,hb0];done)));(focus (simp [go_sem,simprocAttr,hb,hik,mg,hb0];done)))));try simp only [go_sem,simprocAttr,hb,hik,mg,hb0])|((with_reducible refine oD ?_ ?_);kernel_rfl)|((with_reducible intro h);try simp only [go_sem,simprocAttr,hb,hik,mg,hb0] at h)|omega|intro h)
      refine ⟨k+1,⟨by omega,step hR⟩, ?_,by omega⟩
      refine Le.of ?_ ?_<;>simp [go_sem,simprocAttr,hb,hik,mg,hb0]
     |false=>
      rw [if_neg (by simp)] at hik
      repeat' (first|refine Rn.p ?_|(with_reducible apply And.intro)|((first|(refine hK _ ?_;clear hK K)|with_reducible intro K hK|refine Rs.p ?_|((with_reducible first|apply oP|apply oQ);exact rfl)|(first|(refine aK hX hC hP hro (hrd) rfl rfl rfl ?_ ?_ rfl rfl ?_;(focus (simp only [go_sem,simprocAttr,hb,hik,mg,hb0];done));(focus (first|(intro p hp;exact aG (bp.nd hro) hp)|(simp [go_sem,simprocAttr,hb,hik,mg,hb0];done))))|(refine aK hX hC hP hro (hrd) rfl rfl rfl ?_ ?_ ?_ rfl ?_;(focus (simp only [go_sem,simprocAttr,hb,hik,mg,hb0];done));(focus (first|(intro p hp;exact aG (bp.nd hro) hp)|(simp [go_sem,simprocAttr,hb,hik,mg,hb0];done)));(focus (simp [go_sem,simprocAttr,hb,hik,mg,hb0];done)))));try simp only [go_sem,simprocAttr,hb,hik,mg,hb0])|((with_reducible refine oD ?_ ?_);kernel_rfl)|((with_reducible intro h);try simp only [go_sem,simprocAttr,hb,hik,mg,hb0] at h)|omega|intro h)
      refine ⟨k+1,⟨by omega,step hR⟩, ?_,by omega⟩
      refine Le.of ?_ ?_<;>simp [go_sem,simprocAttr,hb,hik,mg,hb0]
   ·have hb0:decide (0≤x)=false:=decide_eq_false h0
    have hR:ak g f x=false:=CJ (by omega)
    cases rev with
    |true=>
     rw [if_pos rfl] at hik
     repeat' (first|refine Rn.p ?_|(with_reducible apply And.intro)|((first|(refine hK _ ?_;clear hK K)|with_reducible intro K hK|refine Rs.p ?_|((with_reducible first|apply oP|apply oQ);exact rfl));try simp only [go_sem,simprocAttr,hb,hik,mg,hb0])|((with_reducible refine oD ?_ ?_);kernel_rfl)|((with_reducible intro h);try simp only [go_sem,simprocAttr,hb,hik,mg,hb0] at h)|omega|intro h)
     refine ⟨k+1,⟨by omega,step hR⟩, ?_,by omega⟩
     refine Le.of ?_ ?_<;>simp [go_sem,simprocAttr,hb,hik,mg,hb0]
    |false=>
     rw [if_neg (by simp)] at hik
     repeat' (first|refine Rn.p ?_|(with_reducible apply And.intro)|((first|(refine hK _ ?_;clear hK K)|with_reducible intro K hK|refine Rs.p ?_|((with_reducible first|apply oP|apply oQ);exact rfl));try simp only [go_sem,simprocAttr,hb,hik,mg,hb0])|((with_reducible refine oD ?_ ?_);kernel_rfl)|((with_reducible intro h);try simp only [go_sem,simprocAttr,hb,hik,mg,hb0] at h)|omega|intro h)
     refine ⟨k+1,⟨by omega,step hR⟩, ?_,by omega⟩
     refine Le.of ?_ ?_<;>simp [go_sem,simprocAttr,hb,hik,mg,hb0]
  have hb:decide ((k:Int)<(f.row.length:Int))=false:=decide_eq_false (by omega)
  obtain rfl:k=f.row.length:=by omega
  have JP:=JP hg
  repeat' (first|refine Rn.p ?_|(with_reducible apply And.intro)|((first|(refine hK _ ?_;clear hK K)|with_reducible intro K hK|refine Rs.p ?_|((with_reducible first|apply oP|apply oQ);exact rfl));try simp only [go_sem,simprocAttr,hb])|((with_reducible refine oD ?_ ?_);kernel_rfl)|((with_reducible intro h);try simp only [go_sem,simprocAttr,hb] at h)|omega|intro h)
  refine ag (fun k:Nat=>(k:Int)≤max g.n 0∧∀j,j<k→ak g f (j:Int)=false) (fun k=>⟨[(0, .ptr 10000 0),(8,eN k)], [(10000, .rob [eN g.n, .d (sE g.es), .d (sT f.row), .d (sI f.pl)])]⟩) (fun k=>g.n.toNat - k) 0 (by simp;omega) ?_ ?_
  ·refine Le.of ?_ ?_<;>simp [go_sem,simprocAttr]
  rintro k ⟨hk,hg⟩
  by_cases hlt:(k:Int)<g.n
  ·have hb:decide ((k:Int)<g.n)=true:=decide_eq_true hlt
   have hrd:=hrd (k:Int)
   cases hR:ak g f (k:Int) with
   |true=>
    rw [hR] at hrd
    have hf:(List.range g.n.toNat).find? (fun x:Nat=>ak g f (x:Int))=some k:=by
     rw [List.find?_eq_some_iff_getElem]
     refine ⟨hR,k,by simp;omega,by simp,fun j hj=>by simp [hg j hj]⟩
    rw [hf] at JP
    simp only at JP
    subst JP
    repeat' (first|refine Rn.p ?_|(with_reducible apply And.intro)|((first|(refine hK _ ?_;clear hK K)|with_reducible intro K hK|refine Rs.p ?_|((with_reducible first|apply oP|apply oQ);exact rfl)|(first|(refine aK hX hC hP hro (hrd) rfl rfl rfl ?_ ?_ rfl rfl ?_;(focus (simp only [go_sem,simprocAttr,hb];done));(focus (first|(intro p hp;exact aG (bp.nd hro) hp)|(simp [go_sem,simprocAttr,hb];done))))|(refine aK hX hC hP hro (hrd) rfl rfl rfl ?_ ?_ ?_ rfl ?_;(focus (simp only [go_sem,simprocAttr,hb];done));(focus (first|(intro p hp;exact aG (bp.nd hro) hp)|(simp [go_sem,simprocAttr,hb];done)));(focus (simp [go_sem,simprocAttr,hb];done)))));try simp only [go_sem,simprocAttr,hb])|((with_reducible refine oD ?_ ?_);kernel_rfl)|((with_reducible intro h);try simp only [go_sem,simprocAttr,hb] at h)|omega|intro h)
    all_goals exact dO hro
   |false=>
    rw [hR] at hrd
    repeat' (first|refine Rn.p ?_|(with_reducible apply And.intro)|((first|(refine hK _ ?_;clear hK K)|with_reducible intro K hK|refine Rs.p ?_|((with_reducible first|apply oP|apply oQ);exact rfl)|(first|(refine aK hX hC hP hro (hrd) rfl rfl rfl ?_ ?_ rfl rfl ?_;(focus (simp only [go_sem,simprocAttr,hb];done));(focus (first|(intro p hp;exact aG (bp.nd hro) hp)|(simp [go_sem,simprocAttr,hb];done))))|(refine aK hX hC hP hro (hrd) rfl rfl rfl ?_ ?_ ?_ rfl ?_;(focus (simp only [go_sem,simprocAttr,hb];done));(focus (first|(intro p hp;exact aG (bp.nd hro) hp)|(simp [go_sem,simprocAttr,hb];done)));(focus (simp [go_sem,simprocAttr,hb];done)))));try simp only [go_sem,simprocAttr,hb])|((with_reducible refine oD ?_ ?_);kernel_rfl)|((with_reducible intro h);try simp only [go_sem,simprocAttr,hb] at h)|omega|intro h)
    refine ⟨k+1,⟨by omega,fun j hj=> ?_⟩, ?_,by omega⟩
    ·by_cases hjk:j=k
     ·subst hjk;exact hR
     ·exact hg j (by omega)
    ·refine Le.of ?_ ?_<;>simp [go_sem,simprocAttr,hb]
  have hb:decide ((k:Int)<g.n)=false:=decide_eq_false hlt
  have hf:(List.range g.n.toNat).find? (fun x:Nat=>ak g f (x:Int))=none:=by
   rw [List.find?_eq_none]
   intro j hj
   simp [hg j (by have:=List.mem_range.1 hj;omega)]
  rw [hf] at JP
  simp only at JP
  subst JP
  repeat' (first|refine Rn.p ?_|(with_reducible apply And.intro)|((first|(refine hK _ ?_;clear hK K)|with_reducible intro K hK|refine Rs.p ?_|((with_reducible first|apply oP|apply oQ);exact rfl));try simp only [go_sem,simprocAttr,hb])|((with_reducible refine oD ?_ ?_);kernel_rfl)|((with_reducible intro h);try simp only [go_sem,simprocAttr,hb] at h)|omega|intro h)
  all_goals exact dO hro
theorem qy (g:Gr) (p:Pl) (h:aX g p) (rev:Bool):Spec Tryz.prog 79 (Args [eG g,ePl p,eB rev]) [] (.d (sI (ej g p rev g.n.toNat))) []:=by
 have hm:=an h.1
 have hn:=aC hm
 (refine Spec.hd (C:=T.cfg [] []) (rs:= [.t 6]) (T.ai _ _) Tryz.func79 rfl rfl Tryz.ntmps79 Tryz.results79 (by simp [AObj.isNest]) (by simp [AObj.isNest]) (by kernel_rfl) T.mixed fun X hX hP hC aH bU=> ?_)
 repeat' (first|(show bM _ (.seq (.region 2 _ _) _) _ _;(refine kF 13 2 3 rfl rfl rfl ?_;simp only [List.set_cons_zero,List.set_cons_succ,go_sem,simprocAttr]);(refine kF 13 3 1 rfl rfl rfl ?_;simp only [List.set_cons_zero,List.set_cons_succ,go_sem,simprocAttr]))|refine Rn.p ?_|(with_reducible apply And.intro)|((first|(refine hK _ ?_;clear hK K)|with_reducible intro K hK|refine Rs.p ?_|((with_reducible first|apply oP|apply oQ);exact rfl));try simp only [go_sem,simprocAttr])|((with_reducible refine oD ?_ ?_);kernel_rfl)|((with_reducible intro h);try simp only [go_sem,simprocAttr] at h)|omega|intro h)
 have EL:List.replicate g.n.toNat [D.sc (.int .i64 0)]=(ej g p rev 0).map rI:=by rw [ej,List.map_replicate];rfl
 rw [EL]
 refine ag (fun k:Nat=>k≤g.n.toNat) (fun k=>⟨[(2,eB rev),(3, .ptr 3 0),(4, .ptr 4 0),(7, .ptr 13 0),(8, .ref 16),(9,eN k)], [(16, .own 3 1 ((ej g p rev k).map rI)),(13, .box (gy g (bz g p rev k))),(4, .box [.d (sI p.ord), .d (.sl 1 (vI p.outs))]),(3, .box [eN g.n, .d (sE g.es)])]⟩) (fun k=>g.n.toNat - k) 0 (by omega) ?_ ?_
 ·refine Le.of ?_ ?_<;>simp [go_sem,simprocAttr,gy,bz]
 rintro k hk
 obtain ⟨hi,cJ,_,hrl⟩:=qg h rev hk
 have hmul:k*(g.es.length+1)≤64*129:=Nat.mul_le_mul (by omega) (by omega)
 rcases Nat.lt_or_ge k g.n.toNat with bK|Fo
 rotate_left
 ·have hb:decide ((k:Int)<g.n)=false:=decide_eq_false (by omega)
  obtain rfl:k=g.n.toNat:=by omega
  repeat' (first|refine Rn.p ?_|(with_reducible apply And.intro)|((first|(refine hK _ ?_;clear hK K)|with_reducible intro K hK|refine Rs.p ?_|((with_reducible first|apply oP|apply oQ);exact rfl));try simp only [go_sem,simprocAttr,hb,gy])|((with_reducible refine oD ?_ ?_);kernel_rfl)|((with_reducible intro h);try simp only [go_sem,simprocAttr,hb,gy] at h)|omega|intro h)
 have hb:decide ((k:Int)<g.n)=true:=decide_eq_true (by omega)
 obtain ⟨hR,hne⟩:=vr h rev bK
 have DW:=aB hR
 have RZ:=Fh g (by omega) (by omega) (bz g p rev k) (by omega) (by omega) rev
 rw [CI hm hi.toer rev] at RZ
 have CB:=bX h.2.1 DW.1 DW.2.1
 have qz:=nu h.2.1 DW.1 DW.2.1
 have bw:bz g p rev (k+1)=(az g (bz g p rev k) (fZ g (bz g p rev k) rev) (cl p (fZ g (bz g p rev k) rev))).2:=rfl
 have NP:ej g p rev (k+1)=(ej g p rev k).set (fZ g (bz g p rev k) rev).toNat (k:Int):=rfl
 have pP:=nv (g:=g) (p:=p) (rev:=rev) (k:=k)
 generalize fZ g (bz g p rev k) rev=x0 at*
 obtain ⟨x,rfl⟩:∃x:Nat,x0=x:=⟨x0.toNat,by omega⟩
 have hxl:x<p.outs.length:=by have:=h.2.1.1;omega
 have hv:=dx hxl
 have hla:cl p (x:Int)=p.outs.getD x []:=by unfold cl;rw [Int.toNat_natCast]
 rw [hla] at CB qz bw
 rw [Int.toNat_natCast] at NP
 have sq:=r9 g (by omega) (bz g p rev k) (x:Int) (p.outs.getD x []) (by omega) (by omega) (by omega)
 have hpk:cy g (bz g p rev k) (x:Int) (p.outs.getD x [])=az g (bz g p rev k) (x:Int) (p.outs.getD x []):=by
  unfold cy
  rw [if_neg (by rw [hR];simp),if_neg]
  rintro (h|⟨i,h1,h2⟩)
  ·exact h CB.length_eq
  ·exact h2 (CB.mem_iff.2 h1)
 rw [hpk] at sq
 generalize p.outs.getD x []=o at hv sq bw
 generalize QK:bz g p rev (k+1)=f' at bw
 generalize bz g p rev k=f at*
 generalize az g f (x:Int) o=su at sq bw
 repeat' (first|refine Rn.p ?_|(with_reducible apply And.intro)|((first|(refine hK _ ?_;clear hK K)|with_reducible intro K hK|refine Rs.p ?_|((with_reducible first|apply oP|apply oQ);exact rfl)|(refine aJ hX hC hP [(10000,13)] (RZ) rfl rfl rfl ?_ ?_ ?_ ?_ ?_ ?_ rfl rfl ?_ ?_;(focus (simp only [go_sem,simprocAttr,hb,hv,pP,gy];done));(iterate 6 (focus (simp [go_sem,simprocAttr,hb,hv,pP,gy];done)));try simp only [List.map_cons,List.map_nil])|(refine aq hX hC hP [(10000,13)] (sq) rfl rfl rfl ?_ ?_ ?_ ?_ ?_ ?_ ?_ ?_ ?_ ?_ ?_ ?_ ?_ ?_;(focus (simp only [go_sem,simprocAttr,hb,hv,pP,gy];done));(iterate 12 (focus (simp [go_sem,simprocAttr,hb,hv,pP,gy];done)));try simp only [List.map_cons,List.map_nil]));try simp only [go_sem,simprocAttr,hb,hv,pP,gy])|((with_reducible refine oD ?_ ?_);kernel_rfl)|((with_reducible intro h);try simp only [go_sem,simprocAttr,hb,hv,pP,gy] at h)|omega|intro h)
 refine ⟨k+1,by omega, ?_,by omega⟩
 rw [NP,QK,bw]
 refine Le.of ?_ ?_<;>simp [go_sem,simprocAttr,hb,hv,pP,gy,rI]
end Go.Ab
end
section
namespace Go.Ab
open Go.Proofs
attribute [local congr] ACall.congr gd.congr Nx.congr
set_option maxRecDepth 20000
set_option maxHeartbeats 16000000
theorem zD (g:Gr) (hl:g.es.length≤1000) (p:Pl) (hp:gE p) (hp1:p.ord.length≤1000) (hp2:p.outs.length≤1000) (Kc:∀l∈p.outs,l.length≤1000) (b:Bool) (hr:b=true↔(bL g).1=0∧aU g p):
 Spec Tryz.prog 34 (Args [eG g,ePl p]) [] (.tup [eDr (sy b g p).1,eN (sy b g p).2]) []:=by
 have H9:=sV g hl p hp hp1 hp2 Kc b hr
 by_cases h0:(gS b g p).2.2=0
 rotate_left
 ·have Fy:sy b g p=(dz,(gS b g p).2.2):=if_pos h0
  have hb0:decide ((gS b g p).2.2=0)=false:=decide_eq_false h0
  rw [Fy]
  (refine Spec.hd (C:=T.cfg [] []) (rs:= [.c 4 28, .t 5]) (T.ai _ _) Tryz.func34 rfl rfl Tryz.ntmps34 Tryz.results34 (by simp [AObj.isNest]) (by simp [AObj.isNest]) (by kernel_rfl) T.mixed fun X hX hP hC aH bU=> ?_)
  repeat' (first|refine Rn.p ?_|(with_reducible apply And.intro)|((first|(refine hK _ ?_;clear hK K)|with_reducible intro K hK|refine Rs.p ?_|((with_reducible first|apply oP|apply oQ);exact rfl)|refine aa hX hC hP (H9) rfl rfl rfl (by simp only [go_sem,simprocAttr,hb0,dz]) rfl ?_);try simp only [go_sem,simprocAttr,hb0,dz])|((with_reducible refine oD ?_ ?_);kernel_rfl)|((with_reducible intro h);try simp only [go_sem,simprocAttr,hb0,dz] at h)|omega|intro h)
  all_goals rfl
 obtain ⟨hO,hE⟩:=zv hr h0
 rw [hE] at H9
 have Fz:=jE hO
 have Ma:=Cn hO
 have NX:(bA true (ah g p) (bB g p)).2.1=0:=by rw [jH (k9 Fz) Fz]
 have hN:=sZ (ah g p) (by have:=hO.es;omega) (bB g p) (tM Fz) true (k9 Fz)
 by_cases h1:64<(ah g p).n+(dA (ah g p)).length∨128<(ah g p).es.length+(dA (ah g p)).length
 ·have Fy:sy b g p=(dz,10):=by unfold sy;rw [if_neg (by rw [h0];simp),if_pos h1]
  have LC:sY true (ah g p) (bB g p)=(gz,pz,10):=by unfold sY;rw [if_pos ⟨NX,Ma⟩,if_pos h1]
  rw [LC] at hN
  rw [Fy]
  (refine Spec.hd (C:=T.cfg [] []) (rs:= [.c 4 28, .t 5]) (T.ai _ _) Tryz.func34 rfl rfl Tryz.ntmps34 Tryz.results34 (by simp [AObj.isNest]) (by simp [AObj.isNest]) (by kernel_rfl) T.mixed fun X hX hP hC aH bU=> ?_)
  repeat' (first|refine Rn.p ?_|(with_reducible apply And.intro)|((first|(refine hK _ ?_;clear hK K)|with_reducible intro K hK|refine Rs.p ?_|((with_reducible first|apply oP|apply oQ);exact rfl)|refine aa hX hC hP (H9) rfl rfl rfl (by simp only [go_sem,simprocAttr,dz]) rfl ?_|refine aa hX hC hP (hN) rfl rfl rfl (by simp only [go_sem,simprocAttr,dz]) rfl ?_);try simp only [go_sem,simprocAttr,dz])|((with_reducible refine oD ?_ ?_);kernel_rfl)|((with_reducible intro h);try simp only [go_sem,simprocAttr,dz] at h)|omega|intro h)
  all_goals rfl
 have Fy:sy b g p=(L9 g (ah g p).n (dA (ah g p)) (s4 g p false) (s4 g p true),0):=by unfold sy;rw [if_neg (by rw [h0];simp),if_neg h1]
 have LC:sY true (ah g p) (bB g p)=(aQ (ah g p) (dA (ah g p)),qt (ah g p) (bB g p) (dA (ah g p)),0):=by unfold sY;rw [if_pos ⟨NX,Ma⟩,if_neg h1]
 have NY:Room g p:=⟨hO,by omega,by omega⟩
 rw [Fy]
 rw [LC] at hN
 simp only at hN H9
 have Kj:=Bj NY
 have wN:=qy _ _ Kj false
 have hk2:=qy _ _ Kj true
 have e1:ej (aQ (ah g p) (dA (ah g p))) (qt (ah g p) (bB g p) (dA (ah g p))) false (aQ (ah g p) (dA (ah g p))).n.toNat=s4 g p false:=rfl
 have e2:ej (aQ (ah g p) (dA (ah g p))) (qt (ah g p) (bB g p) (dA (ah g p))) true (aQ (ah g p) (dA (ah g p))).n.toNat=s4 g p true:=rfl
 rw [e1] at wN
 rw [e2] at hk2
 clear e1 e2
 have hm:=an hO.run.1
 have hn:=aC hm
 have Iu:=jD (g:=g) (p:=p)
 have lx:(s4 g p false).length=((ah g p).n+(dA (ah g p)).length).toNat:=tN
 have ly:(s4 g p true).length=((ah g p).n+(dA (ah g p)).length).toNat:=tN
 have Ln:∀i∈dA (ah g p),(dA (ah g p)).idxOf i<(dA (ah g p)).length:=fun i hi=>(rz hi).1
 have hrd:∀i:Nat,i<g.es.length→((aQ (ah g p) (dA (ah g p))).es.getD i (0,0)).2=if (i:Int)∈dA (ah g p) then (ah g p).n+((dA (ah g p)).idxOf (i:Int):Nat) else hd g i:=fun i hi=>LJ (e:=(i:Int)) (LI hO).2 (by omega) (by omega)
 have hRl:(aQ (ah g p) (dA (ah g p))).es.length=(ah g p).es.length+(dA (ah g p)).length:=gr
 have sN:g.es.length≤(ah g p).es.length:=by rw [zC];omega
 have TY:(ah g p).n≤64:=hO.n
 clear hE Fz Ma NX LC Fy Kj NY
 generalize s4 g p false=xs at*
 generalize s4 g p true=ys at*
 generalize qt (ah g p) (bB g p) (dA (ah g p))=RP at*
 generalize aQ (ah g p) (dA (ah g p))=R at*
 generalize dA (ah g p)=bs at*
 generalize bB g p=AP at*
 obtain ⟨AN,nV⟩:∃AN:Nat,(ah g p).n=AN:=⟨(ah g p).n.toNat,by omega⟩
 generalize TZ:ah g p=A at*
 have T1:eG A= .agg [eN AN, .d (sE A.es)]:=by rw [eG,nV]
 rw [T1] at H9 hN
 (refine Spec.hd (C:=T.cfg [] []) (rs:= [.c 4 28, .t 5]) (T.ai _ _) Tryz.func34 rfl rfl Tryz.ntmps34 Tryz.results34 (by simp [AObj.isNest]) (by simp [AObj.isNest]) (by kernel_rfl) T.mixed fun X hX hP hC aH bU=> ?_)
 repeat' (first|(show bM _ (.seq (.region 10 _ _) _) _ _;(refine dZ hX 13 0 401 (.tip 71 2 []) rfl rfl rfl (by simp only [go_sem,simprocAttr,nV]) (by decide) (by simp [go_sem,simprocAttr,nV]) ⟨71,2,by decide, .inr rfl⟩ ?_;simp only [List.set_cons_zero,List.set_cons_succ,go_sem,simprocAttr,nV]);(refine dZ hX 13 1 402 (.tip 25 1 []) rfl rfl rfl (by simp only [go_sem,simprocAttr,nV]) (by decide) (by simp [go_sem,simprocAttr,nV]) ⟨25,1,by decide, .inr rfl⟩ ?_;simp only [List.set_cons_zero,List.set_cons_succ,go_sem,simprocAttr,nV]))|refine Rn.p ?_|(with_reducible apply And.intro)|((first|(refine hK _ ?_;clear hK K)|with_reducible intro K hK|refine Rs.p ?_|((with_reducible first|apply oP|apply oQ);exact rfl)|refine aa hX hC hP (H9) rfl rfl rfl (by simp only [go_sem,simprocAttr,nV]) rfl ?_|refine aa hX hC hP (hN) rfl rfl rfl (by simp only [go_sem,simprocAttr,nV]) rfl ?_|refine aa hX hC hP (wN) rfl rfl rfl (by simp only [go_sem,simprocAttr,nV]) rfl ?_|refine aa hX hC hP (hk2) rfl rfl rfl (by simp only [go_sem,simprocAttr,nV]) rfl ?_);try simp only [go_sem,simprocAttr,nV])|((with_reducible refine oD ?_ ?_);kernel_rfl)|((with_reducible intro h);try simp only [go_sem,simprocAttr,nV] at h)|omega|intro h)
 refine ag (fun k:Nat=>k≤g.n.toNat) (fun k=>⟨[(2, .ptr 2 0),(4, .ptr 4 0),(5,eN 0),(9, .ptr 9 0),(11, .d (sI xs)),(12, .d (sI ys)),(13, .ptr 13 0),(14,eN k)], [(2, .box [eN g.n, .d (sE g.es)]),(4, .box [.nil 71, .nil 25]),(9, .box [eN R.n, .d (sE R.es)]),(13, .box [.ref 401, .ref 402]),(401, .tip 71 2 ((ko xs ys k).map rP)),(402, .tip 25 1 [])]⟩) (fun k=>g.n.toNat - k) 0 (by omega) ?_ ?_
 ·refine Le.of ?_ ?_<;>simp [go_sem,simprocAttr,ko]
 rintro k hk
 rcases Nat.lt_or_ge k g.n.toNat with hlt|hge
 ·have hb:decide ((k:Int)<g.n)=true:=decide_eq_true (by omega)
  have bw:=Bh (xs:=xs) (ys:=ys) (k:=k)
  have cJ:=qx (xs:=xs) (ys:=ys) (k:=k)
  generalize QT:ko xs ys (k+1)=P2 at bw
  generalize ko xs ys k=P1 at bw cJ
  repeat' (first|(show bM _ (.region 12 _ _) _ _;(refine bt hX 13 0 65 401 rfl rfl rfl (by first|exact .inl rfl|exact .inr rfl) (by decide) (by decide) ?_;simp only [List.set_cons_zero,List.set_cons_succ,go_sem,simprocAttr,hb,cJ]))|refine Rn.p ?_|(with_reducible apply And.intro)|((first|(refine hK _ ?_;clear hK K)|with_reducible intro K hK|refine Rs.p ?_|((with_reducible first|apply oP|apply oQ);exact rfl));try simp only [go_sem,simprocAttr,hb,cJ])|((with_reducible refine oD ?_ ?_);kernel_rfl)|((with_reducible intro h);try simp only [go_sem,simprocAttr,hb,cJ] at h)|omega|intro h)
  refine ⟨k+1,by omega, ?_,by omega⟩
  rw [QT,bw]
  refine Le.of ?_ ?_<;>simp [go_sem,simprocAttr,hb,cJ,qF,rP]
 have hb:decide ((k:Int)<g.n)=false:=decide_eq_false (by omega)
 obtain rfl:k=g.n.toNat:=by omega
 repeat' (first|refine Rn.p ?_|(with_reducible apply And.intro)|((first|(refine hK _ ?_;clear hK K)|with_reducible intro K hK|refine Rs.p ?_|((with_reducible first|apply oP|apply oQ);exact rfl));try simp only [go_sem,simprocAttr,hb])|((with_reducible refine oD ?_ ?_);kernel_rfl)|((with_reducible intro h);try simp only [go_sem,simprocAttr,hb] at h)|omega|intro h)
 have QU:L9 g (AN:Int) bs xs ys=⟨ko xs ys g.n.toNat,lT g (AN:Int) bs xs ys g.es.length⟩:=rfl
 have cJ:=qx (xs:=xs) (ys:=ys) (k:=g.n.toNat)
 have hpa:=fun (v:Nat) (hv:v<g.n.toNat)=>LH (xs:=xs) (ys:=ys) hv
 rw [QU]
 generalize ko xs ys g.n.toNat=PT at cJ hpa
 refine ag (fun i:Nat=>i≤g.es.length) (fun i=>⟨[(2, .ptr 2 0),(4, .ptr 4 0),(5,eN 0),(9, .ptr 9 0),(11, .d (sI xs)),(12, .d (sI ys)),(13, .ptr 13 0),(15,eN i)], [(2, .box [eN g.n, .d (sE g.es)]),(4, .box [.nil 71, .nil 25]),(9, .box [eN R.n, .d (sE R.es)]),(13, .box [.ref 401, .ref 402]),(401, .tip 71 2 (PT.map rP)),(402, .tip 25 1 (vP (lT g (AN:Int) bs xs ys i)))]⟩) (fun i=>g.es.length - i) 0 (by omega) ?_ ?_
 ·refine Le.of ?_ ?_<;>simp [go_sem,simprocAttr,lT,vP]
 rintro i hi
 rcases Nat.lt_or_ge i g.es.length with hil|J9
 ·have hb:decide ((i:Int)<(g.es.length:Int))=true:=decide_eq_true (by omega)
  have t1:=bk hm hil
  have t2:=bH hm hil
  obtain ⟨u,hu⟩:∃u:Nat,(g.es.getD i (0,0)).1=u:=⟨(g.es.getD i (0,0)).1.toNat,by have:=t1.1;unfold tl at this;omega⟩
  obtain ⟨w,hw⟩:∃w:Nat,(g.es.getD i (0,0)).2=w:=⟨(g.es.getD i (0,0)).2.toNat,by have:=t2.1;unfold hd at this;omega⟩
  have NZ:tl g i=u:=hu
  have Mb:hd g i=w:=hw
  have hq1:=hpa u (by omega)
  have uD:=hpa w (by omega)
  have bw:=Bi (g:=g) (N:=(AN:Int)) (bs:=bs) (xs:=xs) (ys:=ys) (k:=i)
  have fO:=zA (g:=g) (N:=(AN:Int)) (bs:=bs) (xs:=xs) (ys:=ys) (k:=i)
  have N0:∀l1 l2,vP (l1++ [l2])=vP l1++ [[sP l2]]:=fun l1 l2=>by simp [vP]
  have Fi:=hrd i hil
  generalize N1:lT g (AN:Int) bs xs ys (i+1)=L2 at bw
  generalize lT g (AN:Int) bs xs ys i=L1 at bw fO
  by_cases hin:(i:Int)∈bs
  ·rw [if_pos hin] at Fi
   have hq:=Ln (i:Int) hin
   have oZ:Fe g (AN:Int) bs xs ys i= [qF xs ys u,qF xs ys (AN+bs.idxOf (i:Int)),qF xs ys w]:=by
    unfold Fe x8
    rw [if_pos hin,NZ,Mb,Int.toNat_natCast,Int.toNat_natCast,show ((AN:Int)+(bs.idxOf (i:Int):Nat)).toNat=AN+bs.idxOf (i:Int) by omega]
    rfl
   generalize bs.idxOf (i:Int)=q at Fi hq oZ
   have Bv:AN+q<AN+bs.length:=by omega
   have hne:decide (((AN+q:Nat):Int)=(w:Int))=false:=decide_eq_false (by omega)
   rw [nV,show (AN:Int)+(q:Int)=((AN+q:Nat):Int) by omega] at Fi
   generalize AN+q=qq at Fi oZ Bv hne
   repeat' (first|(show bM _ (.region 16 _ _) _ _;(refine bt hX 13 1 129 402 rfl rfl rfl (by first|exact .inl rfl|exact .inr rfl) (by decide) (by decide) ?_;simp only [List.set_cons_zero,List.set_cons_succ,go_sem,simprocAttr,hb,hu,hw,Fi,hne,vP_length,fO,cJ,hq1,uD,qF]))|refine Rn.p ?_|(with_reducible apply And.intro)|((first|(refine hK _ ?_;clear hK K)|with_reducible intro K hK|refine Rs.p ?_|((with_reducible first|apply oP|apply oQ);exact rfl));try simp only [go_sem,simprocAttr,hb,hu,hw,Fi,hne,vP_length,fO,cJ,hq1,uD,qF])|((with_reducible refine oD ?_ ?_);kernel_rfl)|((with_reducible intro h);try simp only [go_sem,simprocAttr,hb,hu,hw,Fi,hne,vP_length,fO,cJ,hq1,uD,qF] at h)|omega|intro h)
   refine ⟨i+1,by omega, ?_,by omega⟩
   rw [N1,bw,oZ,N0]
   refine Le.of ?_ ?_<;>simp [go_sem,simprocAttr,hb,hu,hw,Fi,hne,vP_length,fO,cJ,hq1,uD,qF,rP,sP]
  ·rw [if_neg hin,Mb] at Fi
   have hne:decide ((w:Int)=(w:Int))=true:=decide_eq_true rfl
   have oZ:Fe g (AN:Int) bs xs ys i= [qF xs ys u,qF xs ys w]:=by
    unfold Fe x8
    rw [if_neg hin,NZ,Mb,Int.toNat_natCast,Int.toNat_natCast]
    rfl
   repeat' (first|(show bM _ (.region 16 _ _) _ _;(refine bt hX 13 1 129 402 rfl rfl rfl (by first|exact .inl rfl|exact .inr rfl) (by decide) (by decide) ?_;simp only [List.set_cons_zero,List.set_cons_succ,go_sem,simprocAttr,hb,hu,hw,Fi,hne,vP_length,fO,cJ,hq1,uD,qF]))|refine Rn.p ?_|(with_reducible apply And.intro)|((first|(refine hK _ ?_;clear hK K)|with_reducible intro K hK|refine Rs.p ?_|((with_reducible first|apply oP|apply oQ);exact rfl));try simp only [go_sem,simprocAttr,hb,hu,hw,Fi,hne,vP_length,fO,cJ,hq1,uD,qF])|((with_reducible refine oD ?_ ?_);kernel_rfl)|((with_reducible intro h);try simp only [go_sem,simprocAttr,hb,hu,hw,Fi,hne,vP_length,fO,cJ,hq1,uD,qF] at h)|omega|intro h)
   refine ⟨i+1,by omega, ?_,by omega⟩
   rw [N1,bw,oZ,N0]
   refine Le.of ?_ ?_<;>simp [go_sem,simprocAttr,hb,hu,hw,Fi,hne,vP_length,fO,cJ,hq1,uD,qF,rP,sP]
 have hb:decide ((i:Int)<(g.es.length:Int))=false:=decide_eq_false (by omega)
 obtain rfl:i=g.es.length:=by omega
 repeat' (first|refine Rn.p ?_|(with_reducible apply And.intro)|((first|(refine hK _ ?_;clear hK K)|with_reducible intro K hK|refine Rs.p ?_|((with_reducible first|apply oP|apply oQ);exact rfl));try simp only [go_sem,simprocAttr,hb])|((with_reducible refine oD ?_ ?_);kernel_rfl)|((with_reducible intro h);try simp only [go_sem,simprocAttr,hb] at h)|omega|intro h)
end Go.Ab
end
section
namespace Go.Ab
set_option maxRecDepth 10000
set_option linter.unusedSectionVars false
variable {P:PS}
structure PS.Hi (P:PS) (R:Int→Int) (f0 f1:Int) (hi:Int→Int):Prop where
 mid:∀ {x u a b v},P.ins x=u++a::b::v→hi (R a)=x
 h0:hi f0=P.Nl
 h1:hi f1=P.Nl
def PS.UY (P:PS) (a:Int):Prop:=∃x u b v,P.outs x=u++a::b::v
section
variable (h:P.Ok) {L R:Int→Int} {f0 f1:Int} {low:Int→Int} (F:P.kG L R f0 f1 low)
include h F
theorem PS.Hi.Fq {hi:Int→Int} (H:P.Hi R f0 f1 hi):P.Fq.Hi L f1 f0 hi:=
 {mid:=fun {x u a b v} e=>by
   have e:=iZ (show (P.ins x).reverse=_ from e)
   rw [← F.B5 e];exact H.mid e
  h0:=H.h1
  h1:=H.h0}
variable {L' R':Int→Int} {T6 T7:Int} {low':Int→Int} (F':P.kG L' R' T6 T7 low')
include F'
end
section
variable (h:P.Ok) {L R:Int→Int} {f0 f1:Int} {low:Int→Int} (F:P.kG L R f0 f1 low)
include h F
variable {hi:Int→Int} (H:P.Hi R f0 f1 hi)
include H
end
def QX (t h:Int→Int) (l:List Int) (x:Int):Int:=match l.find? (fun i=>decide (t i=x)) with
 |some i=>h i
 |none=>x
def QY (t h:Int→Int) (l:List Int) (x:Int):Nat→Int
 |0=>x
 |k+1=>QX t h l (QY t h l x k)
section
variable (h:P.Ok) {L R:Int→Int} {f0 f1:Int} {low:Int→Int} (F:P.kG L R f0 f1 low) {hi:Int→Int} (H:P.Hi R f0 f1 hi)
include h F H
end
end Go.Ab
end
section
namespace Go.Ab
open Go.Proofs
set_option maxRecDepth 10000
set_option linter.unusedSectionVars false
section
variable (g:Gr) (p:Pl)
def cK:Nat→Nat
 |0=>1
 |k+1=>cK k+((cl p (aE p k)).length - 1)
def OF (e:Int):Nat:=(cl p (fe g e)).findIdx (fun i=>decide (i=e))
def Bq (x:Int):Int:=(nM g p x).headD 0
def N3 (x:Int):Int:=(nM g p x).getLastD 0
def LK:Nat→Int→Int
 |0,_=>0
 |k+1,e=>if fe g e=aE p k then (if OF g p e=0 then (if k=0 then 0 else LK k (Bq g p (aE p k))) else (cK p k:Int)+OF g p e - 1) else LK k e
def RK (r:Int):Nat→Int→Int
 |0,_=>0
 |k+1,e=>if fe g e=aE p k then (if OF g p e+1<(cl p (aE p k)).length then (cK p k:Int)+OF g p e else (if k=0 then r else RK r k (N3 g p (aE p k)))) else RK r k e
def LL:Nat→List Int
 |0=> [aE p 0]
 |k+1=>LL k++List.replicate ((cl p (aE p k)).length - 1) (aE p k)
end
section
variable {g:Gr} {p:Pl}
variable (h:aX g p)
include h
def WK (g:Gr) (p:Pl) (k:Nat):List Int:=(gj (fK g p k).row).map (·.1)
end
end Go.Ab
end
section
namespace Go.Ab
open Go.Proofs
attribute [local congr] ACall.congr gd.congr Nx.congr
set_option maxRecDepth 10000
set_option maxHeartbeats 8000000
def DK (A o:List Int) (f:Nat→Int):Nat→List Int
 |0=>A
 |j+1=>(DK A o f j).set (o.getD j 0).toNat (f j)
def R3 (A o:List Int) (left:Int) (c:Nat) (j:Nat):List Int:=DK A o (fun j=>if j=0 then left else (c:Int)+j - 1) j
def R4 (A o:List Int) (right:Int) (c:Nat) (j:Nat):List Int:=DK A o (fun j=>if j+1<o.length then (c:Int)+j else right) j
def Kl (c k:Nat):List Int:=(List.range k).map fun i:Nat=>((c+i:Nat):Int)
def UZ (left:Int) (c d j:Nat):Int:=if min j (d - 1)=0 then left else (c:Int)+(min j (d - 1):Nat) - 1
def U0 (ed gp:D) (A B lo hi:List Int):List (Nat × AObj):= [(10000, .box [.d ed, .d gp, .ref 10001, .ref 10002, .ref 10003, .ref 10004]),(10001, .own 3 1 (A.map rI)),(10002, .own 3 1 (B.map rI)),(10003, .tip 3 1 (lo.map rI)),(10004, .own 3 1 (hi.map rI))]
def U1 (ed gp:D) (A B lo hi:List Int):List (Nat × AObj):= [(10000, .box [.d ed, .d gp, .ref 10001, .ref 10002, .ref 10005, .ref 10006]),(10001, .own 3 1 (A.map rI)),(10002, .own 3 1 (B.map rI)),(10005, .tip 3 1 (lo.map rI)),(10006, .own 3 1 (hi.map rI))]
end Go.Ab
end
