/- A part of the proof. -/
import Derived.Test.YtchjjbfhlchpfaaGreatL7P16
set_option linter.unusedSimpArgs false
set_option linter.unusedVariables false
section
namespace Go.Ab
open Go.Proofs
attribute [local congr] ACall.congr gd.congr Nx.congr
set_option maxRecDepth 10000
set_option maxHeartbeats 8000000
def vN (n:Int) (es:List Edge) (ord:List Int) (O:List (List Int)):List (Nat × AObj):= [(10000, .box [eN n, .ref 10001, .ref 10002, .ref 10003]),(10001, .tip 73 2 (es.map rE)),(10002, .tip 3 1 (ord.map rI)),(10003, .own 31 1 (vI O))]
def vO (n:Int) (es:List Edge) (ord:List Int) (O:List (List Int)):List (Nat × AObj):= [(10000, .box [eN n, .ref 10004, .ref 10002, .ref 10003]),(10004, .tip 73 2 (es.map rE)),(10002, .tip 3 1 (ord.map rI)),(10003, .own 31 1 (vI O))]
def eR (x:Int) (items:List It):List Edge:=(loose items).map fun v=>(v,x)
theorem FG {x:Int} {a b:List It} :eR x (a++b)=eR x a++eR x b:=by simp [eR,bL]
theorem JD {ls:List (List Int)} {k:Nat} {l:List Int} :(vI ls).set k [sI l]=vI (ls.set k l):=by simp [vI,List.map_set]
theorem vQ {items:List It} :(loose items).length≤items.length:=by
 unfold loose
 rw [List.length_map]
 exact List.length_filter_le _ _
theorem zo (n:Int) (es:List Edge) (ord:List Int) (O:List (List Int)) (x:Int) (items:List It) (hl:es.length+items.length≤100000) (hO:∀v∈loose items,0≤v∧v<O.length):
 Spec Tryz.prog 117 (Args [.ptr 10000 0,eN x, .d (sT items)]) (vN n es ord O) (.tup []) (vO n (es++eR x items) ord (cZ es.length (eR x items) O)):=by
 unfold vN vO
 (refine Spec.s7 (C:=T.cfg [] []) (rs:= []) [(10004,50)] (T.ah _ _) Tryz.func117 rfl rfl Tryz.ntmps117 Tryz.results117 (by simp [AObj.isNest]) (by simp [AObj.isNest]) (by first|(simp [look];done)|(simp [asN];done)|(intro l hl;simp only [asN];repeat (rw [if_neg (fun e=>by subst e;simp [look] at hl)]))) (by first|(simp [look];done)|(simp [asN];done)|(intro l hl;simp only [asN];repeat (rw [if_neg (fun e=>by subst e;simp [look] at hl)]))) (by kernel_rfl) T.mixed fun X hX hP hC aJ bQ=> ?_)
 repeat' (first|refine Rn.p ?_|(with_reducible apply And.intro)|((first|(refine hK _ ?_;clear hK K)|with_reducible intro K hK|refine Rs.p ?_|((with_reducible first|apply oP|apply oQ);exact rfl));try simp only [go_sem,simprocAttr])|((with_reducible refine oD ?_ ?_);kernel_rfl)|((with_reducible intro h);try simp only [go_sem,simprocAttr] at h)|omega|intro h)
 (refine dJ hX 10000 1 10001 50 rfl rfl rfl (by first|exact .inl rfl|exact .inr rfl) (by decide) (by decide) ?_;simp only [List.set_cons_zero,List.set_cons_succ,go_sem,simprocAttr])
 refine ai (fun k:Nat=>k≤items.length) (fun k=>⟨[(0, .ptr 10000 0),(1,eN x),(8, .d (sT items)),(9,eN items.length),(10,eN k)], [(10000, .box [eN n, .ref 50, .ref 10002, .ref 10003]),(50, .tip 73 2 ((es++eR x (items.take k)).map rE)),(10002, .tip 3 1 (ord.map rI)),(10003, .own 31 1 (vI (cZ es.length (eR x (items.take k)) O)))]⟩) (fun k=>items.length - k) 0 (by simp) ?_ ?_
 ·refine Le.of ?_ ?_<;>simp [go_sem,simprocAttr,eR,loose,cZ]
 rintro k hk
 rcases Nat.lt_or_ge k items.length with hlt|hge
 ·have hb:decide ((k:Int)<(items.length:Int))=true:=decide_eq_true (by omega)
  have Ae:items.take (k+1)=items.take k++ [items.getD k (0,0,0)]:=vK hlt
  have RA:=aL (d:=(0,0,0)) hlt
  have sr:eR x (items.take (k+1))=eR x (items.take k)++eR x [items.getD k (0,0,0)]:=by rw [Ae,FG]
  have PA:(items.getD k (0,0,0)).1<0→0≤(items.getD k (0,0,0)).2.1∧(items.getD k (0,0,0)).2.1<O.length:=fun h=>hO _ (by
   unfold loose
   exact List.mem_map.2 ⟨_,List.mem_filter.2 ⟨RA,decide_eq_true h⟩,rfl⟩)
  have jh:(eR x (items.take k)).length≤k:=by
   unfold eR
   rw [List.length_map]
   refine Nat.le_trans vQ ?_
   rw [List.length_take];omega
  have GC:=oR (m:=es.length) (N:=eR x (items.take k)) (M:=eR x [items.getD k (0,0,0)]) (O:=O)
  have MI:(cZ es.length (eR x (items.take k)) O).length=O.length:=gJ
  rw [← sr] at GC
  generalize l6:items.getD k (0,0,0)=t at sr PA GC
  generalize cZ es.length (eR x (items.take k)) O=O' at GC MI
  generalize eR x (items.take k)=N at sr jh GC
  by_cases h0:0≤t.1
  ·have hb1:decide (0≤t.1)=true:=decide_eq_true h0
   have he:eR x [t]= []:=by
    have:¬t.1<0:=by omega
    simp [eR,loose,this]
   rw [he] at sr GC
   rw [List.append_nil] at sr
   repeat' (first|refine Rn.p ?_|(with_reducible apply And.intro)|((first|(refine hK _ ?_;clear hK K)|with_reducible intro K hK|refine Rs.p ?_|((with_reducible first|apply oP|apply oQ);exact rfl));try simp only [go_sem,simprocAttr,hb,hb1,l6])|((with_reducible refine oD ?_ ?_);kernel_rfl)|((with_reducible intro h);try simp only [go_sem,simprocAttr,hb,hb1,l6] at h)|omega|intro h)
   refine ⟨k+1,by omega, ?_,by omega⟩
   rw [GC,sr]
   refine Le.of ?_ ?_<;>simp [go_sem,simprocAttr,hb,hb1,l6,cZ]
  ·have hb1:decide (0≤t.1)=false:=decide_eq_false h0
   have he:eR x [t]= [(t.2.1,x)]:=by
    have:t.1<0:=by omega
    simp [eR,loose,this]
   rw [he] at sr GC
   obtain ⟨Ks,CH⟩:=PA (by omega)
   obtain ⟨vn,Jz⟩:∃vn:Nat,t.2.1=vn:=⟨t.2.1.toNat,by omega⟩
   have hvl:vn<O'.length:=by omega
   have FF:=fun d=>fG hvl d
   have Ox:cZ es.length (eR x (items.take (k+1))) O=O'.set vn [((es.length+N.length:Nat):Int)]:=by
    rw [GC,Jz]
    show O'.set ((vn:Int).toNat) _=_
    rw [Int.toNat_natCast]
   rw [Jz] at sr
   have hrow:rI ((es.length:Int)+(N.length:Int))= [D.sc (.int .i64 ((es.length:Int)+(N.length:Int)))]:=rfl
   have dH:=JD (ls:=O') (k:=vn) (l:= [((es.length+N.length:Nat):Int)])
   repeat' (first|(show bV _ (.region 6 _ _) _ _;(refine dJ hX 10000 1 43 50 rfl rfl rfl (by first|exact .inl rfl|exact .inr rfl) (by decide) (by decide) ?_;simp only [List.set_cons_zero,List.set_cons_succ,go_sem,simprocAttr,hb,hb1,l6,Jz,FF,List.drop_succ_cons,List.drop_zero,List.length_append]))|refine Rn.p ?_|(with_reducible apply And.intro)|((first|(refine hK _ ?_;clear hK K)|with_reducible intro K hK|refine Rs.p ?_|((with_reducible first|apply oP|apply oQ);exact rfl));try simp only [go_sem,simprocAttr,hb,hb1,l6,Jz,FF,List.drop_succ_cons,List.drop_zero,List.length_append])|((with_reducible refine oD ?_ ?_);kernel_rfl)|((with_reducible intro h);try simp only [go_sem,simprocAttr,hb,hb1,l6,Jz,FF,List.drop_succ_cons,List.drop_zero,List.length_append] at h)|omega|intro h)
   refine ⟨k+1,by omega, ?_,by omega⟩
   rw [Ox,sr]
   refine Le.of ?_ ?_<;>simp [go_sem,simprocAttr,hb,hb1,l6,Jz,FF,List.drop_succ_cons,List.drop_zero,List.length_append]
   refine ⟨rfl, ?_⟩
   simp only [Int.natCast_add] at dH
   exact dH
 ·have hb:decide ((k:Int)<(items.length:Int))=false:=decide_eq_false (by omega)
  obtain rfl:k=items.length:=by omega
  have ht:items.take items.length=items:=List.take_length
  repeat' (first|refine Rn.p ?_|(with_reducible apply And.intro)|((first|(refine hK _ ?_;clear hK K)|with_reducible intro K hK|refine Rs.p ?_|((with_reducible first|apply oP|apply oQ);exact rfl));try simp only [go_sem,simprocAttr,hb,ht])|((with_reducible refine oD ?_ ?_);kernel_rfl)|((with_reducible intro h);try simp only [go_sem,simprocAttr,hb,ht] at h)|omega|intro h)
end Go.Ab
end
section
namespace Go.Ab
open Go.Proofs
attribute [local congr] ACall.congr gd.congr Nx.congr
set_option maxRecDepth 10000
set_option maxHeartbeats 16000000
theorem xO (ps:List Edge) (hl:ps.length≤1000000):
 Spec Tryz.prog 97 (Args [.d (sE ps)]) [] (.ref 10000) [(10000, .tip 73 2 (ps.map rE))]:=by
 (refine Spec.s7 (C:=T.cfg [] []) (rs:= [.t 2]) [(10000,7)] (T.ah _ _) Tryz.func97 rfl rfl Tryz.ntmps97 Tryz.results97 (by simp [AObj.isNest]) (by simp [AObj.isNest]) (by first|(simp [look];done)|(simp [asN];done)|(intro l hl;simp only [asN];repeat (rw [if_neg (fun e=>by subst e;simp [look] at hl)]))) (by first|(simp [look];done)|(simp [asN];done)|(intro l hl;simp only [asN];repeat (rw [if_neg (fun e=>by subst e;simp [look] at hl)]))) (by kernel_rfl) T.mixed fun X hX hP hC aJ bQ=> ?_)
 repeat' (first|(show bV _ .ret _ _;(try simp only [go_sem,simprocAttr]);refine dD hX 2 7 (.tip 73 2 []) ?_ ?_ (by decide) ⟨73,2,by decide, .inr rfl⟩ ?_;(iterate 2 (focus (simp only [go_sem,simprocAttr];done)));simp only [go_sem,simprocAttr])|refine Rn.p ?_|(with_reducible apply And.intro)|((first|(refine hK _ ?_;clear hK K)|with_reducible intro K hK|refine Rs.p ?_|((with_reducible first|apply oP|apply oQ);exact rfl));try simp only [go_sem,simprocAttr])|((with_reducible refine oD ?_ ?_);kernel_rfl)|((with_reducible intro h);try simp only [go_sem,simprocAttr] at h)|omega|intro h)
 exact h.symm
def pz:Pl:=⟨[], []⟩
def mJ (b:Bool) (g:Gr) (p:Pl):Gr × Pl × Int:=
 if (bP b g p).2.1≠0 then (gz,pz,1) else if 64<(aq g p).n∨128<(aq g p).es.length then (gz,pz,10) else (aq g p,bG g p,0)
theorem gu {b:Bool} {g:Gr} {p:Pl} (hr:b=true↔(bN g).1=0∧bk g p) (h:(bP b g p).2.1=0):aY g p∧bP b g p=((fO g p g.n.toNat,aW g p),(0,0)):=by
 cases b with
 |false=>simp [bP] at h
 |true=>
  have hR:bP true g p=match jU g p g.n.toNat with
   |some i=>(([], []),(3,(i:Int)))
   |none=>((fO g p g.n.toNat,(fK g p g.n.toNat).row),(0,0)):=rfl
  cases hs:jU g p g.n.toNat with
  |some i=>rw [hR,hs] at h;simp at h
  |none=>
   obtain ⟨h1,h2⟩:=hr.1 rfl
   exact ⟨⟨h1,h2,gr.1 hs⟩,by rw [hR,hs];rfl⟩
theorem Dl {g:Gr} {p:Pl} {k:Nat} :cx g p (k+1)=cx g p k++eR (aG p k) (dy g p k):=rfl
theorem BY {g:Gr} {p:Pl} (hr:aY g p) {k:Nat} (hk:k≤g.n.toNat):(cx g p k).length≤g.n.toNat∧∀e∈cx g p k,0≤e.1∧e.1<g.n:=by
 obtain ⟨hc,h,hok⟩:=hr
 have hm:=an hc
 obtain ⟨h1,h2⟩:=jV hm h hk fun j hj=>hok j (by omega)
 obtain ⟨hi,_⟩:=bT hm h hk fun j hj=>hok j (by omega)
 have hv:∀v∈(cx g p k).map (·.1),0≤v∧v<g.n:=fun v hv=>hi.oK v (h2 v (List.mem_append_left _ hv)).1
 refine ⟨?_,fun e he=>hv _ (List.mem_map.2 ⟨e,he,rfl⟩)⟩
 have:=iS (List.nodup_append.1 h1).1 (m:=dP g.n.toNat) fun v GU=>cU.2 (by have:=hv v GU;omega)
 rw [lP,List.length_map] at this
 exact this
theorem xP (g:Gr) (hl:g.es.length≤1000) (p:Pl) (hp:lR p) (hp1:p.ord.length≤1000) (hp2:p.outs.length≤1000) (Oy:∀l∈p.outs,l.length≤1000) (b:Bool) (hr:b=true↔(bN g).1=0∧bk g p):
 Spec Tryz.prog 75 (Args [eG g,ePl p]) [] (.tup [eG (mJ b g p).1,ePl (mJ b g p).2.1,eN (mJ b g p).2.2]) []:=by
 have hO:=dG g hl p hp b hr
 by_cases h0:(bP b g p).2.1=0
 rotate_left
 ·have FH:mJ b g p=(gz,pz,1):=if_pos h0
  rw [FH]
  have hb1:decide ((bP b g p).2.1=0)=false:=decide_eq_false h0
  (refine Spec.hd (C:=T.cfg [] []) (rs:= [.c 4 24, .c 5 34, .t 6]) (T.ah _ _) Tryz.func75 rfl rfl Tryz.ntmps75 Tryz.results75 (by simp [AObj.isNest]) (by simp [AObj.isNest]) (by kernel_rfl) T.mixed fun X hX hP hC aJ bQ=> ?_)
  repeat' (first|refine Rn.p ?_|(with_reducible apply And.intro)|((first|(refine hK _ ?_;clear hK K)|with_reducible intro K hK|refine Rs.p ?_|((with_reducible first|apply oP|apply oQ);exact rfl)|refine aa hX hC hP (hO) rfl rfl rfl (by simp only [go_sem,simprocAttr,hb1,gz,pz,vI,List.map_nil]) rfl ?_);try simp only [go_sem,simprocAttr,hb1,gz,pz,vI,List.map_nil])|((with_reducible refine oD ?_ ?_);kernel_rfl)|((with_reducible intro h);try simp only [go_sem,simprocAttr,hb1,gz,pz,vI,List.map_nil] at h)|omega|intro h)
 obtain ⟨hrun,hR⟩:=gu hr h0
 rw [hR] at hO
 simp only at hO
 have FH:mJ b g p=if 64<(aq g p).n∨128<(aq g p).es.length then (gz,pz,10) else (aq g p,bG g p,0):=by
  unfold mJ;rw [if_neg (by rw [h0];simp)]
 generalize mJ b g p=AR at FH
 have hm:=an hrun.1
 have hn:=aB hm
 have x9:=hrun.2.1
 have hle:=aS x9
 have q9:=x9.1
 (refine Spec.hd (C:=T.cfg [55,98] []) (rs:= [.c 4 24, .c 5 34, .t 6]) (T.ah _ _) Tryz.func75 rfl rfl Tryz.ntmps75 Tryz.results75 (by simp [AObj.isNest]) (by simp [AObj.isNest]) (by kernel_rfl) T.mixed fun X hX hP hC aJ bQ=> ?_)
 repeat' (first|(show bV _ (.seq (.region 5 _ _) _) _ _;(refine dJ hX 38 1 31 200 rfl rfl rfl (by first|exact .inl rfl|exact .inr rfl) (by decide) (by decide) ?_;simp only [List.set_cons_zero,List.set_cons_succ,go_sem,simprocAttr]);(refine jD hX 38 3 201 (.own 31 1 []) rfl rfl rfl (by simp only [go_sem,simprocAttr]) (by decide) (by simp [go_sem,simprocAttr]) ⟨31,1,by decide, .inl rfl⟩ ?_;simp only [List.set_cons_zero,List.set_cons_succ,go_sem,simprocAttr]))|refine Rn.p ?_|(with_reducible apply And.intro)|((first|(refine hK _ ?_;clear hK K)|with_reducible intro K hK|refine Rs.p ?_|((with_reducible first|apply oP|apply oQ);exact rfl)|refine aa hX hC hP (hO) rfl rfl rfl (by simp only [go_sem,simprocAttr]) rfl ?_|(refine iI hX hC hP [(10000,31)] (xO g.es (by omega)) rfl rfl rfl ?_ ?_ ?_ ?_ ?_ ?_ ?_ ?_ ?_ ?_ ?_ ?_ ?_ ?_;(focus (simp only [go_sem,simprocAttr];done));(iterate 12 (focus (simp [go_sem,simprocAttr];done)));try simp only [List.map_cons,List.map_nil])|(refine iI hX hC hP [(10000,35)] (xI p.ord (by omega)) rfl rfl rfl ?_ ?_ ?_ ?_ ?_ ?_ ?_ ?_ ?_ ?_ ?_ ?_ ?_ ?_;(focus (simp only [go_sem,simprocAttr];done));(iterate 12 (focus (simp [go_sem,simprocAttr];done)));try simp only [List.map_cons,List.map_nil]));try simp only [go_sem,simprocAttr])|((with_reducible refine oD ?_ ?_);kernel_rfl)|((with_reducible intro h);try simp only [go_sem,simprocAttr] at h)|omega|intro h)
 refine ai (fun x:Nat=>x≤p.outs.length) (fun x=>⟨[(2, .ptr 2 0),(3, .ptr 3 0),(4, .ptr 4 0),(5, .ptr 5 0),(7, .d (.sl 1 (vT (fO g p g.n.toNat)))),(8, .d (sT (aW g p))),(10, .ptr 38 0),(40, .d (.sl 1 (vI p.outs))),(41,eN p.outs.length),(42,eN x)], [(2, .box [eN g.n, .d (sE g.es)]),(3, .box [.d (sI p.ord), .d (.sl 1 (vI p.outs))]),(4, .box [eN 0, .nil 73]),(5, .box [.nil 3, .nil 31]),(38, .box [eN g.n, .ref 200, .ref 35, .ref 201]),(200, .tip 73 2 (g.es.map rE)),(35, .tip 3 1 (p.ord.map rI)),(201, .own 31 1 (vI (p.outs.take x)))]⟩) (fun x=>p.outs.length - x) 0 (by simp) ?_ ?_
 ·refine Le.of ?_ ?_<;>simp [go_sem,simprocAttr,vI]
 rintro x hx
 rcases Nat.lt_or_ge x p.outs.length with hxl|Rw
 ·have hb:decide ((x:Int)<(p.outs.length:Int))=true:=decide_eq_true (by omega)
  have hv:=fG hxl
  have jh:=Oy _ (aL (d:= []) hxl)
  have Ae:vI (p.outs.take (x+1))=vI (p.outs.take x)++ [[sI (p.outs.getD x [])]]:=by
   unfold vI
   rw [tT (d:= []) hxl]
  have htl:(p.outs.take x).length=x:=by rw [List.length_take];omega
  have Oz:=jg (p.outs.getD x []) (by omega)
  generalize p.outs.getD x []=l at hv jh Ae Oz
  repeat' (first|(show bV _ (.region 9 _ _) _ _;(refine dJ hX 38 3 55 201 rfl rfl rfl (by first|exact .inl rfl|exact .inr rfl) (by decide) (by decide) ?_;simp only [List.set_cons_zero,List.set_cons_succ,go_sem,simprocAttr,hb,hv,htl]))|refine Rn.p ?_|(with_reducible apply And.intro)|((first|(refine hK _ ?_;clear hK K)|with_reducible intro K hK|refine Rs.p ?_|((with_reducible first|apply oP|apply oQ);exact rfl)|refine aa hX hC hP (Oz) rfl rfl rfl (by simp only [go_sem,simprocAttr,hb,hv,htl]) rfl ?_);try simp only [go_sem,simprocAttr,hb,hv,htl])|((with_reducible refine oD ?_ ?_);kernel_rfl)|((with_reducible intro h);try simp only [go_sem,simprocAttr,hb,hv,htl] at h)|omega|intro h)
  refine ⟨x+1,by omega, ?_,by omega⟩
  rw [Ae]
  refine Le.of ?_ ?_<;>simp [go_sem,simprocAttr,hb,hv,htl]
 have hb:decide ((x:Int)<(p.outs.length:Int))=false:=decide_eq_false (by omega)
 obtain rfl:x=p.outs.length:=by omega
 repeat' (first|refine Rn.p ?_|(with_reducible apply And.intro)|((first|(refine hK _ ?_;clear hK K)|with_reducible intro K hK|refine Rs.p ?_|((with_reducible first|apply oP|apply oQ);exact rfl)|refine aa hX hC hP (Oz) rfl rfl rfl (by simp only [go_sem,simprocAttr,hb,List.take_length]) rfl ?_);try simp only [go_sem,simprocAttr,hb,List.take_length])|((with_reducible refine oD ?_ ?_);kernel_rfl)|((with_reducible intro h);try simp only [go_sem,simprocAttr,hb,List.take_length] at h)|omega|intro h)
 clear hb hx
 refine ai (fun k:Nat=>k≤g.n.toNat) (fun k=>⟨[(2, .ptr 2 0),(4, .ptr 4 0),(5, .ptr 5 0),(7, .d (.sl 1 (vT (fO g p g.n.toNat)))),(8, .d (sT (aW g p))),(10, .ptr 38 0),(61, .d (sI p.ord)),(62,eN p.ord.length),(63,eN k)], [(2, .box [eN g.n, .d (sE g.es)]),(4, .box [eN 0, .nil 73]),(5, .box [.nil 3, .nil 31]),(38, .box [eN g.n, .ref 200, .ref 35, .ref 201]),(200, .tip 73 2 ((g.es++cx g p k).map rE)),(35, .tip 3 1 (p.ord.map rI)),(201, .own 31 1 (vI (cZ g.es.length (cx g p k) p.outs)))]⟩) (fun k=>g.n.toNat - k) 0 (by simp) ?_ ?_
 ·refine Le.of ?_ ?_<;>simp [go_sem,simprocAttr,cx,cZ]
 rintro k hk
 obtain ⟨hnl,Js⟩:=BY hrun hk
 have MI:(cZ g.es.length (cx g p k) p.outs).length=p.outs.length:=gJ
 rcases Nat.lt_or_ge k g.n.toNat with cu|IP
 ·have hb:decide ((k:Int)<(p.ord.length:Int))=true:=decide_eq_true (by omega)
  have LL:=bF x9 cu
  have J3:=xN x9 (k:=g.n.toNat) (Nat.le_refl _) cu
  have k6:p.ord.getD k 0=aG p k:=rfl
  have cn:=Dl (g:=g) (p:=p) (k:=k)
  obtain ⟨zq,OA⟩:=BY hrun (k:=k+1) (by omega)
  have z7:(dy g p k).length≤(fK g p k).row.length:=by unfold dy aC;simp;omega
  obtain ⟨_,_,hrl⟩:=bT hm x9 (k:=k) (by omega) fun j hj=>hrun.2.2 j (by omega)
  have hmul:k*(g.es.length+1)≤64*129:=Nat.mul_le_mul (by omega) (by omega)
  have GC:cZ g.es.length (cx g p (k+1)) p.outs=cZ (g.es++cx g p k).length (eR (aG p k) (dy g p k)) (cZ g.es.length (cx g p k) p.outs):=by
   rw [cn,oR,List.length_append]
  have DQ:=zo g.n (g.es++cx g p k) p.ord (cZ g.es.length (cx g p k) p.outs) (aG p k) (dy g p k) (by rw [List.length_append];omega) (fun v hv=>by
   have:=OA (v,aG p k) (by rw [cn];exact List.mem_append_right _ (List.mem_map.2 ⟨v,hv,rfl⟩))
   simp only at this
   omega)
  rw [← GC] at DQ
  have Aa:g.es++cx g p k++eR (aG p k) (dy g p k)=g.es++cx g p (k+1):=by rw [cn,List.append_assoc]
  rw [Aa] at DQ
  obtain ⟨x,hx⟩:∃x:Nat,aG p k=x:=⟨(aG p k).toNat,by omega⟩
  rw [hx] at k6 J3 DQ LL
  rw [Int.toNat_natCast] at J3
  have hel:=oN (g:=g) (p:=p) (k:=g.n.toNat)
  have MJ:x<(fO g p g.n.toNat).length:=by omega
  have JE:=rL MJ
  rw [J3] at JE
  have hvl:(vT (fO g p g.n.toNat)).length=(fO g p g.n.toNat).length:=vT_length
  repeat' (first|(show bV _ (.region 14 _ _) _ _;(refine dJ hX 38 1 202 200 rfl rfl rfl (by first|exact .inl rfl|exact .inr rfl) (by decide) (by decide) ?_;simp only [List.set_cons_zero,List.set_cons_succ,go_sem,simprocAttr,hb,k6,JE,hvl,vN,vO]))|refine Rn.p ?_|(with_reducible apply And.intro)|((first|(refine hK _ ?_;clear hK K)|with_reducible intro K hK|refine Rs.p ?_|((with_reducible first|apply oP|apply oQ);exact rfl)|(refine ak hX hC hP [(10000,38),(10001,200),(10002,35),(10003,201),(10004,202)] (DQ) rfl rfl rfl ?_ ?_ ?_ ?_ ?_ ?_ ?_ ?_ ?_ ?_ ?_ ?_ ?_ ?_;(focus (simp only [go_sem,simprocAttr,hb,k6,JE,hvl,vN,vO];done));(iterate 12 (focus (simp [go_sem,simprocAttr,hb,k6,JE,hvl,vN,vO];done)));try simp only [List.map_cons,List.map_nil]));try simp only [go_sem,simprocAttr,hb,k6,JE,hvl,vN,vO])|((with_reducible refine oD ?_ ?_);kernel_rfl)|((with_reducible intro h);try simp only [go_sem,simprocAttr,hb,k6,JE,hvl,vN,vO] at h)|omega|intro h)
  refine ⟨k+1,by omega, ?_,by omega⟩
  refine Le.of ?_ ?_<;>simp [go_sem,simprocAttr,hb,k6,JE,hvl,vN,vO]
 have hb:decide ((k:Int)<(p.ord.length:Int))=false:=decide_eq_false (by omega)
 obtain rfl:k=g.n.toNat:=by omega
 by_cases h1:1<(aW g p).length
 ·have hb1:decide ((1:Int)<((aW g p).length:Int))=true:=decide_eq_true (by omega)
  obtain ⟨_,_,hrl⟩:=bT hm x9 (k:=g.n.toNat) (Nat.le_refl _) hrun.2.2
  have hmul:g.n.toNat*(g.es.length+1)≤64*129:=Nat.mul_le_mul (by omega) (by omega)
  have hrl:(aW g p).length≤g.n.toNat*(g.es.length+1):=hrl
  obtain ⟨sy,Af⟩:=fJ hrun
  have zq:newL g p=eR g.n (aW g p):=if_pos h1
  have DQ:=zo (g.n+1) (g.es++cx g p g.n.toNat) (p.ord++ [g.n]) (cZ g.es.length (cx g p g.n.toNat) p.outs++ [[]]) g.n (aW g p) (by rw [List.length_append];omega) (fun v hv=>by
   have:=(Af (v,g.n) (by unfold bh;rw [zq];exact List.mem_append_right _ (List.mem_map.2 ⟨v,hv,rfl⟩))).1
   simp only at this
   rw [List.length_append,gJ];omega)
  have hq:cZ (g.es++cx g p g.n.toNat).length (eR g.n (aW g p)) (cZ g.es.length (cx g p g.n.toNat) p.outs++ [[]])=(bG g p).outs:=by
   show _=cZ g.es.length (bh g p) (if 1<(aW g p).length then p.outs++ [[]] else p.outs)
   have sr:=vM (m:=g.es.length) (N:=cx g p g.n.toNat) (O:=p.outs) (fun e he=>by
    have:=Js e he
    omega)
   rw [if_pos h1,bh,zq,oR,List.length_append,sr]
  have he:g.es++cx g p g.n.toNat++eR g.n (aW g p)=(aq g p).es:=by
   show _=g.es++bh g p
   rw [bh,zq,List.append_assoc]
  have ho:p.ord++ [g.n]=(bG g p).ord:=(if_pos h1).symm
  have hg:g.n+1=(aq g p).n:=(if_pos h1).symm
  have hvs:vI (cZ g.es.length (cx g p g.n.toNat) p.outs)++ [[D.sl 1 []]]=vI (cZ g.es.length (cx g p g.n.toNat) p.outs++ [[]]):=by simp [vI,sI]
  have hos:p.ord.map rI++ [[D.sc (.int .i64 g.n)]]=(p.ord++ [g.n]).map rI:=by simp [rI]
  rw [hq,he] at DQ
  have xx:(aq g p).es.length≤1000:=by
   rw [← he,List.length_append,List.length_append]
   have:(eR g.n (aW g p)).length≤g.n.toNat:=by
    have:=iS (List.nodup_append.1 (by rw [bh,List.map_append] at sy;exact sy)).2.1 (m:=dP g.n.toNat) fun v GU=>cU.2 (by
     obtain ⟨e,he,rfl⟩:=List.mem_map.1 GU
     have:=(Af e (List.mem_append_right _ he)).1
     omega)
    rw [lP,List.length_map,zq] at this
    exact this
   omega
  have Hw:AR=if 64<(aq g p).n∨128<(aq g p).es.length then (gz,pz,10) else (aq g p,bG g p,0):=FH
  clear FH
  have Pk:(bG g p).outs.length=(bG g p).outs.length:=rfl
  have Pe:bG g p=⟨(bG g p).ord,(bG g p).outs⟩:=rfl
  generalize aq g p=G at he hg DQ Hw xx
  rw [ho] at DQ hos
  generalize bG g p=Q at hq ho DQ Hw hos
  by_cases h2:64<G.n
  ·have hb2:decide (64<G.n)=true:=decide_eq_true h2
   rw [if_pos (.inl h2)] at Hw
   subst Hw
   repeat' (first|refine Rn.p ?_|(with_reducible apply And.intro)|((first|(refine hK _ ?_;clear hK K)|with_reducible intro K hK|refine Rs.p ?_|((with_reducible first|apply oP|apply oQ);exact rfl)|(refine ak hX hC hP [(10000,38),(10001,200),(10002,87),(10003,98),(10004,203)] (DQ) rfl rfl rfl ?_ ?_ ?_ ?_ ?_ ?_ ?_ ?_ ?_ ?_ ?_ ?_ ?_ ?_;(focus (simp only [go_sem,simprocAttr,hb,hb1,hb2,vN,vO,hvs,hos,hg,gz,pz,vI,List.map_nil];done));(iterate 12 (focus (simp [go_sem,simprocAttr,hb,hb1,hb2,vN,vO,hvs,hos,hg,gz,pz,vI,List.map_nil];done)));try simp only [List.map_cons,List.map_nil]));try simp only [go_sem,simprocAttr,hb,hb1,hb2,vN,vO,hvs,hos,hg,gz,pz,vI,List.map_nil])|((with_reducible refine oD ?_ ?_);kernel_rfl)|((with_reducible intro h);try simp only [go_sem,simprocAttr,hb,hb1,hb2,vN,vO,hvs,hos,hg,gz,pz,vI,List.map_nil] at h)|omega|intro h)
  ·have hb2:decide (64<G.n)=false:=decide_eq_false h2
   by_cases h3:128<G.es.length
   ·have hb3:decide (128<(G.es.length:Int))=true:=decide_eq_true (by omega)
    rw [if_pos (.inr h3)] at Hw
    subst Hw
    repeat' (first|refine Rn.p ?_|(with_reducible apply And.intro)|((first|(refine hK _ ?_;clear hK K)|with_reducible intro K hK|refine Rs.p ?_|((with_reducible first|apply oP|apply oQ);exact rfl)|(refine ak hX hC hP [(10000,38),(10001,200),(10002,87),(10003,98),(10004,203)] (DQ) rfl rfl rfl ?_ ?_ ?_ ?_ ?_ ?_ ?_ ?_ ?_ ?_ ?_ ?_ ?_ ?_;(focus (simp only [go_sem,simprocAttr,hb,hb1,hb2,hb3,vN,vO,hvs,hos,hg,gz,pz];done));(iterate 12 (focus (simp [go_sem,simprocAttr,hb,hb1,hb2,hb3,vN,vO,hvs,hos,hg,gz,pz];done)));try simp only [List.map_cons,List.map_nil]));try simp only [go_sem,simprocAttr,hb,hb1,hb2,hb3,vN,vO,hvs,hos,hg,gz,pz])|((with_reducible refine oD ?_ ?_);kernel_rfl)|((with_reducible intro h);try simp only [go_sem,simprocAttr,hb,hb1,hb2,hb3,vN,vO,hvs,hos,hg,gz,pz] at h)|omega|intro h)
    all_goals rfl
   ·have hb3:decide (128<(G.es.length:Int))=false:=decide_eq_false (by omega)
    rw [if_neg (by rintro (h|h);exact h2 h;exact h3 h)] at Hw
    subst Hw
    repeat' (first|refine Rn.p ?_|(with_reducible apply And.intro)|((first|(refine hK _ ?_;clear hK K)|with_reducible intro K hK|refine Rs.p ?_|((with_reducible first|apply oP|apply oQ);exact rfl)|(refine ak hX hC hP [(10000,38),(10001,200),(10002,87),(10003,98),(10004,203)] (DQ) rfl rfl rfl ?_ ?_ ?_ ?_ ?_ ?_ ?_ ?_ ?_ ?_ ?_ ?_ ?_ ?_;(focus (simp only [go_sem,simprocAttr,hb,hb1,hb2,hb3,vN,vO,hvs,hos,hg];done));(iterate 12 (focus (simp [go_sem,simprocAttr,hb,hb1,hb2,hb3,vN,vO,hvs,hos,hg];done)));try simp only [List.map_cons,List.map_nil]));try simp only [go_sem,simprocAttr,hb,hb1,hb2,hb3,vN,vO,hvs,hos,hg])|((with_reducible refine oD ?_ ?_);kernel_rfl)|((with_reducible intro h);try simp only [go_sem,simprocAttr,hb,hb1,hb2,hb3,vN,vO,hvs,hos,hg] at h)|omega|intro h)
 ·have hb1:decide ((1:Int)<((aW g p).length:Int))=false:=decide_eq_false (by omega)
  have zq:newL g p= []:=if_neg h1
  have he:g.es++cx g p g.n.toNat=(aq g p).es:=by
   show _=g.es++bh g p
   rw [bh,zq,List.append_nil]
  have hq:cZ g.es.length (cx g p g.n.toNat) p.outs=(bG g p).outs:=by
   show _=cZ g.es.length (bh g p) (if 1<(aW g p).length then p.outs++ [[]] else p.outs)
   rw [if_neg h1,bh,zq,List.append_nil]
  have ho:p.ord=(bG g p).ord:=(if_neg h1).symm
  have hg:g.n=(aq g p).n:=(if_neg h1).symm
  have hml:(g.es++cx g p g.n.toNat).map rE=(aq g p).es.map rE:=by rw [he]
  have OB:(aq g p).es.length=g.es.length+(cx g p g.n.toNat).length:=by rw [← he,List.length_append]
  have Mq:p.ord.map rI=(bG g p).ord.map rI:=by rw [← ho]
  generalize aq g p=G at he hg FH hml OB
  generalize bG g p=Q at hq ho FH Mq
  by_cases h2:64<G.n
  ·omega
  ·have hb2:decide (64<G.n)=false:=decide_eq_false h2
   by_cases h3:128<G.es.length
   ·have hb3:decide (128<(G.es.length:Int))=true:=decide_eq_true (by omega)
    rw [if_pos (.inr h3)] at FH
    subst FH
    rw [he]
    repeat' (first|refine Rn.p ?_|(with_reducible apply And.intro)|((first|(refine hK _ ?_;clear hK K)|with_reducible intro K hK|refine Rs.p ?_|((with_reducible first|apply oP|apply oQ);exact rfl));try simp only [go_sem,simprocAttr,hb,hb1,hb2,hb3,hg,gz,pz])|((with_reducible refine oD ?_ ?_);kernel_rfl)|((with_reducible intro h);try simp only [go_sem,simprocAttr,hb,hb1,hb2,hb3,hg,gz,pz] at h)|omega|intro h)
    all_goals rfl
   ·have hb3:decide (128<(G.es.length:Int))=false:=decide_eq_false (by omega)
    rw [if_neg (by rintro (h|h);exact h2 h;exact h3 h)] at FH
    subst FH
    rw [he,hq]
    have LP:=Mq.symm
    have Gz:=hg.symm
    rw [Gz] at hb2
    repeat' (first|refine Rn.p ?_|(with_reducible apply And.intro)|((first|(refine hK _ ?_;clear hK K)|with_reducible intro K hK|refine Rs.p ?_|((with_reducible first|apply oP|apply oQ);exact rfl));try simp only [go_sem,simprocAttr,hb,hb1,hb2,hb3,Gz,LP])|((with_reducible refine oD ?_ ?_);kernel_rfl)|((with_reducible intro h);try simp only [go_sem,simprocAttr,hb,hb1,hb2,hb3,Gz,LP] at h)|omega|intro h)
end Go.Ab
end
section
namespace Go.Ab
open Go.Proofs
attribute [local congr] ACall.congr gd.congr Nx.congr
set_option maxRecDepth 10000
set_option maxHeartbeats 16000000
def RB (p:Pl) (x:Gr) (k:Nat):List (List Int):=(List.range k).map fun v=>if 0<(p.outs.getD v []).length then p.outs.getD v [] else cm x (v:Int)
theorem uk {g:Gr} {p:Pl} (hr:aY g p):∀t∈aW g p,t.1<0:=by
 obtain ⟨hc,h,hok⟩:=hr
 have hm:=an hc
 have hn:=aB hm
 obtain ⟨hi,dn,_⟩:=bT hm h (k:=g.n.toNat) (Nat.le_refl _) hok
 intro t ht
 refine Decidable.byContradiction fun h0=> ?_
 rcases hi.it t ht with ⟨h1,_⟩|⟨h1,h2,_,h4⟩
 ·omega
 ·have Od:=(cH hm (k:=t.1.toNat) (by omega)).2
  rw [← h4] at Od
  refine hi.head t ht h1 (jT hi.tofH ?_ Od)
  rw [dn,List.length_take,aS h];omega
end Go.Ab
end
section
namespace Go.Ab
open Go.Proofs
attribute [local congr] ACall.congr gd.congr Nx.congr
set_option maxRecDepth 10000
set_option maxHeartbeats 8000000
def um (g:Gr) (p:Pl):Bool:=decide (200<g.es.length)||decide (100<p.ord.length)||decide (100<p.outs.length)||p.outs.any fun l=>decide (200<l.length)
theorem BZ {g:Gr} {p:Pl} (h:um g p=false):g.es.length≤200∧p.ord.length≤100∧p.outs.length≤100∧∀l∈p.outs,l.length≤200:=by
 simp only [um,Bool.or_eq_false_iff,decide_eq_false_iff_not,List.any_eq_false,decide_eq_true_eq] at h
 obtain ⟨⟨⟨h1,h2⟩,h3⟩,h4⟩:=h
 exact ⟨by omega,by omega,by omega,fun l hl=>by have:=h4 l hl;omega⟩
theorem FI {g:Gr} {p:Pl} (h:um g p=false):lR p:=by
 obtain ⟨_,h1,h2,h3⟩:=BZ h
 exact ⟨by omega,by omega,fun l hl=>by have:=h3 l hl;omega⟩
structure FJ (p:Pl):Prop where
 ord:p.ord.length≤9223372036854775807
 outs:p.outs.length≤9223372036854775807
 each:∀l∈p.outs,l.length≤9223372036854775807
theorem xQ (g:Gr) (p:Pl) (hl:g.es.length≤9223372036854775807) (hp:FJ p):Spec Tryz.prog 22 (Args [eG g,ePl p]) [] (eB (um g p)) []:=by
 have ho:=hp.ord
 have hu:=hp.outs
 (refine Spec.hd (C:=T.cfg [] []) (rs:= [.t 4]) (T.ah _ _) Tryz.func22 rfl rfl Tryz.ntmps22 Tryz.results22 (by simp [AObj.isNest]) (by simp [AObj.isNest]) (by kernel_rfl) T.mixed fun X hX hP hC aJ bQ=> ?_)
 generalize hB:um g p=B
 by_cases h1:200<g.es.length
 ·have hb1:decide (200<(g.es.length:Int))=true:=decide_eq_true (by omega)
  have:B=true:=by rw [← hB,um,decide_eq_true h1];rfl
  subst this
  repeat' (first|refine Rn.p ?_|(with_reducible apply And.intro)|((first|(refine hK _ ?_;clear hK K)|with_reducible intro K hK|refine Rs.p ?_|((with_reducible first|apply oP|apply oQ);exact rfl));try simp only [go_sem,simprocAttr,hb1])|((with_reducible refine oD ?_ ?_);kernel_rfl)|((with_reducible intro h);try simp only [go_sem,simprocAttr,hb1] at h)|omega|intro h)
 have hb1:decide (200<(g.es.length:Int))=false:=decide_eq_false (by omega)
 by_cases h2:100<p.ord.length
 ·have hb2:decide (100<(p.ord.length:Int))=true:=decide_eq_true (by omega)
  have:B=true:=by rw [← hB,um,decide_eq_true h2];simp
  subst this
  repeat' (first|refine Rn.p ?_|(with_reducible apply And.intro)|((first|(refine hK _ ?_;clear hK K)|with_reducible intro K hK|refine Rs.p ?_|((with_reducible first|apply oP|apply oQ);exact rfl));try simp only [go_sem,simprocAttr,hb1,hb2])|((with_reducible refine oD ?_ ?_);kernel_rfl)|((with_reducible intro h);try simp only [go_sem,simprocAttr,hb1,hb2] at h)|omega|intro h)
 have hb2:decide (100<(p.ord.length:Int))=false:=decide_eq_false (by omega)
 by_cases h3:100<p.outs.length
 ·have hb3:decide (100<(p.outs.length:Int))=true:=decide_eq_true (by omega)
  have:B=true:=by rw [← hB,um,decide_eq_true h3];simp
  subst this
  repeat' (first|refine Rn.p ?_|(with_reducible apply And.intro)|((first|(refine hK _ ?_;clear hK K)|with_reducible intro K hK|refine Rs.p ?_|((with_reducible first|apply oP|apply oQ);exact rfl));try simp only [go_sem,simprocAttr,hb1,hb2,hb3])|((with_reducible refine oD ?_ ?_);kernel_rfl)|((with_reducible intro h);try simp only [go_sem,simprocAttr,hb1,hb2,hb3] at h)|omega|intro h)
 have hb3:decide (100<(p.outs.length:Int))=false:=decide_eq_false (by omega)
 have PB:B=p.outs.any fun l=>decide (200<l.length):=by rw [← hB,um,decide_eq_false h1,decide_eq_false h2,decide_eq_false h3];simp
 clear hB
 repeat' (first|refine Rn.p ?_|(with_reducible apply And.intro)|((first|(refine hK _ ?_;clear hK K)|with_reducible intro K hK|refine Rs.p ?_|((with_reducible first|apply oP|apply oQ);exact rfl));try simp only [go_sem,simprocAttr,hb1,hb2,hb3])|((with_reducible refine oD ?_ ?_);kernel_rfl)|((with_reducible intro h);try simp only [go_sem,simprocAttr,hb1,hb2,hb3] at h)|omega|intro h)
 refine ai (fun k:Nat=>k≤p.outs.length∧∀j,j<k→(p.outs.getD j []).length≤200) (fun k=>⟨[(24, .d (.sl 1 (vI p.outs))),(25,eN p.outs.length),(26,eN k)], []⟩) (fun k=>p.outs.length - k) 0 (by simp) ?_ ?_
 ·(refine Le.of ?_ ?_<;>simp [go_sem,simprocAttr])
 rintro k ⟨hk,hg⟩
 rcases Nat.lt_or_ge k p.outs.length with cu|IP
 ·have hb:decide ((k:Int)<(p.outs.length:Int))=true:=decide_eq_true (by omega)
  have hv:=fG cu
  have hm:=aL (d:= []) cu
  have jh:=hp.each _ hm
  by_cases h4:200<(p.outs.getD k []).length
  ·have hb4:decide (200<((p.outs.getD k []).length:Int))=true:=decide_eq_true (by omega)
   have:B=true:=by rw [PB,List.any_eq_true];exact ⟨_,hm,decide_eq_true h4⟩
   subst this
   repeat' (first|refine Rn.p ?_|(with_reducible apply And.intro)|((first|(refine hK _ ?_;clear hK K)|with_reducible intro K hK|refine Rs.p ?_|((with_reducible first|apply oP|apply oQ);exact rfl));try simp only [go_sem,simprocAttr,hb,hv,hb4])|((with_reducible refine oD ?_ ?_);kernel_rfl)|((with_reducible intro h);try simp only [go_sem,simprocAttr,hb,hv,hb4] at h)|omega|intro h)
  ·have hb4:decide (200<((p.outs.getD k []).length:Int))=false:=decide_eq_false (by omega)
   repeat' (first|refine Rn.p ?_|(with_reducible apply And.intro)|((first|(refine hK _ ?_;clear hK K)|with_reducible intro K hK|refine Rs.p ?_|((with_reducible first|apply oP|apply oQ);exact rfl));try simp only [go_sem,simprocAttr,hb,hv,hb4])|((with_reducible refine oD ?_ ?_);kernel_rfl)|((with_reducible intro h);try simp only [go_sem,simprocAttr,hb,hv,hb4] at h)|omega|intro h)
   refine ⟨k+1,⟨by omega,fun j hj=> ?_⟩, ?_,by omega⟩
   ·by_cases e:j=k
    ·subst e;omega
    ·exact hg j (by omega)
   ·(refine Le.of ?_ ?_<;>simp [go_sem,simprocAttr,hb,hv,hb4])
 ·have hb:decide ((k:Int)<(p.outs.length:Int))=false:=decide_eq_false (by omega)
  have:B=false:=by
   rw [PB,List.any_eq_false]
   intro l hl
   obtain ⟨j,hj,rfl⟩:=List.mem_iff_getElem.1 hl
   have:=hg j (by omega)
   rw [List.getD_eq_getElem?_getD,List.getElem?_eq_getElem hj,Option.getD_some] at this
   simp;omega
  subst this
  repeat' (first|refine Rn.p ?_|(with_reducible apply And.intro)|((first|(refine hK _ ?_;clear hK K)|with_reducible intro K hK|refine Rs.p ?_|((with_reducible first|apply oP|apply oQ);exact rfl));try simp only [go_sem,simprocAttr,hb])|((with_reducible refine oD ?_ ?_);kernel_rfl)|((with_reducible intro h);try simp only [go_sem,simprocAttr,hb] at h)|omega|intro h)
def nI (g:Gr):Bool:=decide ((bN g).1=0)&&decide ((bC (·.1) g).length=1)
theorem kO (g:Gr) (hl:g.es.length≤1000):Spec Tryz.prog 60 (Args [eG g]) [] (eB (nI g)) []:=by
 by_cases hc:(bN g).1=0
 ·have hm:=an hc
  have hb1:decide ((bN g).1=0)=true:=decide_eq_true hc
  have hI:nI g=decide (((bC (·.1) g).length:Int)=1):=by
   unfold nI;rw [hb1,Bool.true_and,decide_eq_decide];omega
  rw [hI]
  generalize qZ:bC (·.1) g=bl
  have hS:=AM g hm
  rw [qZ] at hS
  (refine Spec.hd (C:=T.cfg [] []) (rs:= [.t 2]) (T.ah _ _) Tryz.func60 rfl rfl Tryz.ntmps60 Tryz.results60 (by simp [AObj.isNest]) (by simp [AObj.isNest]) (by kernel_rfl) T.mixed fun X hX hP hC aJ bQ=> ?_)
  repeat' (first|refine Rn.p ?_|(with_reducible apply And.intro)|((first|(refine hK _ ?_;clear hK K)|with_reducible intro K hK|refine Rs.p ?_|((with_reducible first|apply oP|apply oQ);exact rfl)|refine aa hX hC hP (kG g hl) rfl rfl rfl (by simp only [go_sem,simprocAttr,hb1]) rfl ?_|refine aa hX hC hP (gS g hm) rfl rfl rfl (by simp only [go_sem,simprocAttr,hb1]) rfl ?_|refine aa hX hC hP (hS) rfl rfl rfl (by simp only [go_sem,simprocAttr,hb1]) rfl ?_);try simp only [go_sem,simprocAttr,hb1])|((with_reducible refine oD ?_ ?_);kernel_rfl)|((with_reducible intro h);try simp only [go_sem,simprocAttr,hb1] at h)|omega|intro h)
 ·have hb1:decide ((bN g).1=0)=false:=decide_eq_false hc
  have hI:nI g=false:=by unfold nI;rw [hb1];rfl
  rw [hI]
  (refine Spec.hd (C:=T.cfg [] []) (rs:= [.t 2]) (T.ah _ _) Tryz.func60 rfl rfl Tryz.ntmps60 Tryz.results60 (by simp [AObj.isNest]) (by simp [AObj.isNest]) (by kernel_rfl) T.mixed fun X hX hP hC aJ bQ=> ?_)
  repeat' (first|refine Rn.p ?_|(with_reducible apply And.intro)|((first|(refine hK _ ?_;clear hK K)|with_reducible intro K hK|refine Rs.p ?_|((with_reducible first|apply oP|apply oQ);exact rfl)|refine aa hX hC hP (kG g hl) rfl rfl rfl (by simp only [go_sem,simprocAttr,hb1]) rfl ?_);try simp only [go_sem,simprocAttr,hb1])|((with_reducible refine oD ?_ ?_);kernel_rfl)|((with_reducible intro h);try simp only [go_sem,simprocAttr,hb1] at h)|omega|intro h)
theorem A2 (g:Gr) (hl:g.es.length≤1000):Spec Tryz.prog 23 (Args [eG g]) [] (eB (nI g)) []:=by
 by_cases hc:(bN g).1=0
 ·have hm:=an hc
  have hn:=aB hm
  have hb1:decide ((bN g).1=0)=true:=decide_eq_true hc
  have hI:nI g=decide (((bC (·.1) g).length:Int)=1):=by
   unfold nI;rw [hb1,Bool.true_and,decide_eq_decide];omega
  rw [hI]
  have hS:=cq g false hl (by omega)
  rw [show lJ (!false)=(·.1) from rfl] at hS
  generalize bC (·.1) g=bl at hS
  (refine Spec.hd (C:=T.cfg [] []) (rs:= [.t 2]) (T.ah _ _) Tryz.func23 rfl rfl Tryz.ntmps23 Tryz.results23 (by simp [AObj.isNest]) (by simp [AObj.isNest]) (by kernel_rfl) T.mixed fun X hX hP hC aJ bQ=> ?_)
  repeat' (first|refine Rn.p ?_|(with_reducible apply And.intro)|((first|(refine hK _ ?_;clear hK K)|with_reducible intro K hK|refine Rs.p ?_|((with_reducible first|apply oP|apply oQ);exact rfl)|refine aa hX hC hP (mR g (by omega)) rfl rfl rfl (by simp only [go_sem,simprocAttr,hb1]) rfl ?_|refine aa hX hC hP (hS) rfl rfl rfl (by simp only [go_sem,simprocAttr,hb1]) rfl ?_);try simp only [go_sem,simprocAttr,hb1])|((with_reducible refine oD ?_ ?_);kernel_rfl)|((with_reducible intro h);try simp only [go_sem,simprocAttr,hb1] at h)|omega|intro h)
 ·have hb1:decide ((bN g).1=0)=false:=decide_eq_false hc
  have hI:nI g=false:=by unfold nI;rw [hb1];rfl
  rw [hI]
  (refine Spec.hd (C:=T.cfg [] []) (rs:= [.t 2]) (T.ah _ _) Tryz.func23 rfl rfl Tryz.ntmps23 Tryz.results23 (by simp [AObj.isNest]) (by simp [AObj.isNest]) (by kernel_rfl) T.mixed fun X hX hP hC aJ bQ=> ?_)
  repeat' (first|refine Rn.p ?_|(with_reducible apply And.intro)|((first|(refine hK _ ?_;clear hK K)|with_reducible intro K hK|refine Rs.p ?_|((with_reducible first|apply oP|apply oQ);exact rfl)|refine aa hX hC hP (mR g (by omega)) rfl rfl rfl (by simp only [go_sem,simprocAttr,hb1]) rfl ?_);try simp only [go_sem,simprocAttr,hb1])|((with_reducible refine oD ?_ ?_);kernel_rfl)|((with_reducible intro h);try simp only [go_sem,simprocAttr,hb1] at h)|omega|intro h)
end Go.Ab
end
section
namespace Go.Ab
open Go.Proofs
attribute [local congr] ACall.congr gd.congr Nx.congr
set_option maxRecDepth 10000
set_option maxHeartbeats 8000000
def S2:Gr:=⟨3, [(0,1),(0,2)]⟩
def S3:Pl:=⟨[0,1,2], [[0,1], [], []]⟩
def S4:Gr:=⟨4, [(0,1),(0,2),(1,3),(2,3)]⟩
def S5:Pl:=⟨[0,1,2,3], [[0,1], [2], [3], []]⟩
end Go.Ab
end
section
namespace Go.Ab
open Go.Proofs
attribute [local congr] ACall.congr gd.congr Nx.congr
set_option maxRecDepth 10000
def S6 (l:List Int) (k:Nat):Bool:=(List.range k).all fun i=>decide (l.getD i 0=(i:Int))
def Hy (g:Gr) (names order:List Int) (k:Nat):List Edge:=(List.range k).map fun i=>(names.getD (g.es.getD (order.getD i 0).toNat (0,0)).1.toNat 0,names.getD (g.es.getD (order.getD i 0).toNat (0,0)).2.toNat 0)
def gL (g:Gr) (names order:List Int):Gr:=⟨g.n,Hy g names order order.length⟩
theorem zu {g:Gr} {names order:List Int} {k:Nat} :(Hy g names order k).length=k:=by simp [Hy]
def LQ (g:Gr) (names order:List Int):Bool:=aH g&&lN names g.n&&lN order g.es.length
def RC (g:Gr) (names order:List Int):Gr:=if LQ g names order then gL g names order else ⟨0, []⟩
end Go.Ab
end
section
namespace Go.Ab
def Ed (g:Gr) (a b:Int):Prop:=∃i,i<g.es.length∧tl g i=a∧hd g i=b
def MK (g:Gr) (l:List Int):Prop:=∀i,i<l.length→Ed g (l.getD i 0) (l.getD ((i+1) % l.length) 0)
def FK (g:Gr) (way:List Int) (at_:Int):Prop:=∀p,p<way.length→Ed g ((way++ [at_]).getD (p+1) 0) (way.getD p 0)
theorem p9 {l:List Int} {a:Int} :(l++ [a]).getD l.length 0=a:=by
 rw [List.getD_eq_getElem?_getD,List.getElem?_append_right (Nat.le_refl _)];simp
theorem uo {g:Gr} (hm:aH g=true):∀(f:Nat) (way:List Int) (a:Nat),a<g.n.toNat→(a:Int)∉aN g→FK g way a→left g way≤f→
 FK g (kF g (cy g (aN g)) f way a).1 (kF g (cy g (aN g)) f way a).2∧0≤(kF g (cy g (aN g)) f way a).2∧(kF g (cy g (aN g)) f way a).2∈(kF g (cy g (aN g)) f way a).1
 |f,way,a,ha,hn,hc,hl=>by
  by_cases hmem:(a:Int)∈way
  ·rw [jL (.inr hmem)]
   exact ⟨hc,by simp only;omega,hmem⟩
  ·have hla:=iL ha hmem
   cases f with
   |zero=>omega
   |succ f=>
    obtain ⟨⟨i,hi,Hz,htl,Js⟩,_⟩:=tL hm (Jr hm ha hn)
    have htr:=aU hm hi
    rw [htl] at htr
    obtain ⟨b,pg⟩:∃b:Nat,jj g (cy g (aN g)) a=b:=⟨(jj g (cy g (aN g)) a).toNat,by omega⟩
    rw [pg] at Js htr htl
    have e1:kF g (cy g (aN g)) (f+1) way a=kF g (cy g (aN g)) f (way++ [(a:Int)]) b:=by
     simp only [kF];rw [if_neg (by intro h;rcases h with h|h;omega;exact hmem h),pg]
    rw [e1]
    refine uo hm f (way++ [(a:Int)]) b (by omega) Js ?_ (by omega)
    intro p hp
    rw [List.length_append,List.length_singleton] at hp
    by_cases dn:p<way.length
    ·have:=hc p dn
     rw [ox (by simp;omega),ox dn]
     exact this
    ·have:p=way.length:=by omega
     subst this
     have e2:=p9 (l:=way++ [(a:Int)]) (a:=(b:Int))
     rw [List.length_append,List.length_singleton] at e2
     rw [e2,p9]
     exact ⟨i,hi,htl,Hz⟩
theorem getD_drop {l:List Int} {k p:Nat} :(l.drop k).getD p 0=l.getD (k+p) 0:=by
 rw [List.getD_eq_getElem?_getD,List.getElem?_drop, ← List.getD_eq_getElem?_getD]
theorem MK.OC {g:Gr} {l:List Int} (h:∀p,p<l.length→Ed g (l.getD ((p+1) % l.length) 0) (l.getD p 0)) (h0:0<l.length):MK g (kU l.reverse):=by
 have MG:0<l.reverse.length:=by simpa using h0
 obtain ⟨k,x7,hk2,_⟩:=dN (iM MG)
 rw [List.length_reverse] at hk2
 have e1:kU l.reverse=l.reverse.drop k++l.reverse.take k:=by simp only [kU,x7,Int.toNat_natCast]
 have hlen:(kU l.reverse).length=l.length:=by rw [e1];simp;omega
 have hg:∀i,i<l.length→(kU l.reverse).getD i 0=l.getD (l.length - 1 - (i+k) % l.length) 0:=by
  intro i hi
  rw [e1,List.getD_eq_getElem?_getD]
  by_cases hik:i<l.length - k
  ·rw [List.getElem?_append_left (by simp;omega),List.getElem?_drop,List.getElem?_reverse (by omega),Nat.mod_eq_of_lt (by omega), ← List.getD_eq_getElem?_getD]
   congr 1;omega
  ·rw [List.getElem?_append_right (by simp;omega),List.length_drop,List.length_reverse,List.getElem?_take,if_pos (by omega),List.getElem?_reverse (by omega), ← List.getD_eq_getElem?_getD]
   have:(i+k) % l.length=i+k - l.length:=by rw [Nat.mod_eq_sub_mod (by omega),Nat.mod_eq_of_lt (by omega)]
   rw [this];congr 1;omega
 intro i hi
 rw [hlen] at hi ⊢
 rw [hg i hi,hg _ (Nat.mod_lt _ h0)]
 have hmm:((i+1) % l.length+k) % l.length=((i+k) % l.length+1) % l.length:=by
  rw [Nat.mod_add_mod,Nat.mod_add_mod];congr 1;omega
 rw [hmm]
 have hj:=Nat.mod_lt (i+k) h0
 generalize (i+k) % l.length=j at hj ⊢
 by_cases FL:j+1<l.length
 ·rw [Nat.mod_eq_of_lt FL]
  have:=h (l.length - 1 - (j+1)) (by omega)
  rw [Nat.mod_eq_of_lt (by omega),show l.length - 1 - (j+1)+1=l.length - 1 - j from by omega] at this
  exact this
 ·have:j+1=l.length:=by omega
  rw [this,Nat.mod_self]
  have:=h (l.length - 1) (by omega)
  rw [show l.length - 1+1=l.length from by omega,Nat.mod_self] at this
  rw [show l.length - 1 - j=0 from by omega]
  exact this
def OD (g:Gr):Prop:=∃r:Int→Nat,∀i,i<g.es.length→r (tl g i)<r (hd g i)
theorem rN {g:Gr} (hm:aH g=true):BO g=true↔OD g:=by
 constructor
 ·intro h
  refine ⟨fun v=>((Ad g.n.toNat (aN g) (aN g).length).getD v.toNat 0).toNat,fun i hi=> ?_⟩
  have h1:=Fs (C7 hm h) hi
  have h2:=tO (n:=g.n.toNat) (l:=aN g) (k:=(aN g).length) (y:=(tl g i).toNat)
  simp only;omega
 ·rintro ⟨r,hr⟩
  cases h:BO g with
  |true=>rfl
  |false=>
   exfalso
   obtain ⟨y,hy,hn⟩:=BQ hm h
   have key:∀(p:Nat) (y:Nat),y<g.n.toNat→(y:Int)∉aN g→r y=p→False:=by
    intro p
    induction p using Nat.strongRecOn with
    |_ p ih=>
     intro y hy hn hp
     obtain ⟨t,i,hi,h1,rfl,h2⟩:=Jr hm hy hn
     have htr:=aU hm hi
     have hlt:=hr i hi
     rw [h1,hp] at hlt
     have e:((tl g i).toNat:Int)=tl g i:=by omega
     exact ih (r (tl g i)) hlt (tl g i).toNat (by omega) (by rw [e];exact h2) (by rw [e])
   exact key _ y hy hn rfl
theorem xR {g:Gr} (hm:aH g=true) (h:BO g=true):jK g= []:=by
 have hall:=(cw.1 (BP hm h)).2
 have hn:=aB hm
 rcases start_eq hm with ⟨h1,h2⟩|⟨a,ha,h1,h2,h3⟩
 ·have:jJ g=([], -1):=by
   unfold jJ;rw [h1];exact jL (.inl (by omega)) _
  simp only [jK,this]
  rw [if_pos (by omega)]
 ·exact absurd (hall a (cU.2 (by omega))) h3
theorem FM {g:Gr} (hm:aH g=true) (h:BO g=false):0<(jK g).length∧MK g (jK g):=by
 obtain ⟨y,hy,RD⟩:=BQ hm h
 have hn:=aB hm
 rcases start_eq hm with ⟨h1,h2⟩|⟨a,ha,h1,h2,h3⟩
 ·exfalso
  rcases fZ (f:=fun n:Int=>decide (0<n)) (l:=cy g (aN g)) 0 with ⟨_,h4⟩|⟨k,h4,_⟩
  ·have h5:=(pR hm hy).2 RD
   have h6:=h4 ((cy g (aN g)).getD y 0) (by rw [List.getD_eq_getElem?_getD,kD hy];exact List.mem_of_getElem? (kD hy))
   rw [lG hy] at h6
   exact absurd h5 (of_decide_eq_false h6)
  ·omega
 ·obtain ⟨h4,h5,h6⟩:=uo hm g.n.toNat [] a ha h3 (fun p hp=>by simp at hp) xF
  have hw:jJ g=kF g (cy g (aN g)) g.n.toNat [] a:=by unfold jJ;rw [h1]
  rw [← hw] at h4 h5 h6
  obtain ⟨k,x7,hk2,Lw⟩:=dN h6
  have hc:jK g=kU ((jJ g).1.drop k).reverse:=by
   simp only [jK]
   rw [if_neg (by omega),x7,Int.toNat_natCast]
  have hlen:((jJ g).1.drop k).length=(jJ g).1.length - k:=by simp
  have h0:0<((jJ g).1.drop k).length:=by omega
  refine ⟨?_, ?_⟩
  ·rw [hc]
   simp only [kU,List.length_append,List.length_drop,List.length_take,List.length_reverse]
   omega
  ·rw [hc]
   refine MK.OC (fun p hp=> ?_) h0
   rw [hlen] at hp ⊢
   have h7:=h4 (k+p) (by omega)
   rw [getD_drop (p:=p)]
   by_cases FL:p+1<(jJ g).1.length - k
   ·rw [Nat.mod_eq_of_lt FL,getD_drop]
    rw [ox (by omega)] at h7
    exact h7
   ·have:p+1=(jJ g).1.length - k:=by omega
    rw [this,Nat.mod_self,getD_drop,Nat.add_zero,Lw]
    rw [show k+p+1=(jJ g).1.length from by omega,p9] at h7
    exact h7
end Go.Ab
end
section
namespace Go.Ab
def nm (names:List Int) (v:Int):Int:=names.getD v.toNat 0
structure jo (g:Gr) (names order:List Int):Prop where
 may:aH g=true
 JF:lN names g.n=true
 ord:lN order (g.es.length:Int)=true
section
variable {g:Gr} {names order:List Int} (h:jo g names order)
include h
theorem jo.len:(gL g names order).es.length=g.es.length:=by
 have:=(cw.1 h.ord).1
 simp only [gL,zu];omega
theorem jo.ju {i:Nat} (hi:i<g.es.length):∃j,j<g.es.length∧order.getD i 0=(j:Int)∧(gL g names order).es.getD i (0,0)=(nm names (tl g j),nm names (hd g j)):=by
 have q9:=(cw.1 h.ord).1
 have:=tN h.ord _ (iP (l:=order) (m:=i) (by omega))
 refine ⟨(order.getD i 0).toNat,by omega,by omega, ?_⟩
 simp only [gL,Hy,nm,tl,hd]
 rw [List.getD_eq_getElem?_getD,List.getElem?_map,List.getElem?_range (by omega)]
 rfl
theorem jo.back {j:Nat} (hj:j<g.es.length):∃i,i<g.es.length∧order.getD i 0=(j:Int)∧(gL g names order).es.getD i (0,0)=(nm names (tl g j),nm names (hd g j)):=by
 obtain ⟨q9,hall⟩:=cw.1 h.ord
 obtain ⟨i,hi,hil,he⟩:=dN (hall (j:Int) (cU.2 (by omega)))
 obtain ⟨j',_,h2,h3⟩:=h.ju (i:=i) (by omega)
 have:j'=j:=by omega
 subst this
 exact ⟨i,by omega,he,h3⟩
theorem jo.inj {a b:Int} (ha:0≤a∧a<g.n) (hb:0≤b∧b<g.n) (e:nm names a=nm names b):a=b:=by
 have hnl:=(cw.1 h.JF).1
 have:=kI h.JF (i:=a.toNat) (j:=b.toNat) (by omega) (by omega) e
 omega
theorem jo.range {a:Int} (ha:0≤a∧a<g.n):0≤nm names a∧nm names a<g.n:=by
 have hnl:=(cw.1 h.JF).1
 exact tN h.JF _ (iP (by omega))
theorem jo.inv {a:Int} (ha:0≤a∧a<g.n):fu names (nm names a)=a:=by
 have hnl:=(cw.1 h.JF).1
 obtain ⟨k,hk,cu,he⟩:=dN (iP (l:=names) (m:=a.toNat) (by omega))
 have h2:=kI h.JF cu (j:=a.toNat) (by omega) he
 have h3:fu names (nm names a)=k:=hk
 omega
theorem jo.of {v:Int} (hv:0≤v∧v<g.n):∃a,(0≤a∧a<g.n)∧nm names a=v:=by
 obtain ⟨hnl,hall⟩:=cw.1 h.JF
 obtain ⟨k,hk,cu,he⟩:=dN (hall v (cU.2 (by omega)))
 exact ⟨k,by omega,he⟩
theorem jo.may':aH (gL g names order)=true:=by
 have hn:=aB h.may
 have hlen:=h.len
 have hall:(gL g names order).es.any (ng (gL g names order))=false:=by
  rw [List.any_eq_false]
  intro e he
  obtain ⟨i,hi,rfl⟩:=List.getElem_of_mem he
  obtain ⟨j,hj,_,h3⟩:=h.ju (i:=i) (by omega)
  rw [List.getD_eq_getElem?_getD,List.getElem?_eq_getElem hi,Option.getD_some] at h3
  rw [h3]
  have h4:=h.range (aU h.may hj)
  have h5:=h.range (aZ h.may hj)
  have e1:(gL g names order).n=g.n:=rfl
  simp only [ng,td,e1,Bool.or_eq_true,decide_eq_true_eq]
  omega
 have e1:(gL g names order).n=g.n:=rfl
 simp only [aH,hall,e1,Bool.not_false,Bool.and_true,Bool.and_eq_true,decide_eq_true_eq]
 omega
omit h in
theorem qa {i j:Nat} (e:(gL g names order).es.getD i (0,0)=(nm names (tl g j),nm names (hd g j))):tl (gL g names order) i=nm names (tl g j)∧hd (gL g names order) i=nm names (hd g j):=⟨congrArg Prod.fst e,congrArg Prod.snd e⟩
theorem jo.loop:(0≤iO (gL g names order))↔0≤iO g:=by
 have key:∀g:Gr,(0≤iO g)↔∃i,i<g.es.length∧tl g i=hd g i:=by
  intro g
  have:=eW (fun e:Edge=>decide (e.1=e.2)) g.es
  rw [show (0≤iO g)↔g.es.any (fun e:Edge=>decide (e.1=e.2))=true from by rw [← this];simp [iO],List.any_eq_true]
  constructor
  ·rintro ⟨e,he,h2⟩
   obtain ⟨i,hi,rfl⟩:=List.getElem_of_mem he
   refine ⟨i,hi, ?_⟩
   simpa [tl,hd,List.getD_eq_getElem?_getD,List.getElem?_eq_getElem hi] using h2
  ·rintro ⟨i,hi,h2⟩
   refine ⟨_,List.getElem_mem hi, ?_⟩
   simpa [tl,hd,List.getD_eq_getElem?_getD,List.getElem?_eq_getElem hi] using h2
 rw [key,key,h.len]
 constructor
 ·rintro ⟨i,hi,e⟩
  obtain ⟨j,hj,_,h3⟩:=h.ju hi
  obtain ⟨e1,e2⟩:=qa h3
  exact ⟨j,hj,h.inj (aU h.may hj) (aZ h.may hj) (by rw [← e1, ← e2,e])⟩
 ·rintro ⟨j,hj,e⟩
  obtain ⟨i,hi,_,h3⟩:=h.back hj
  obtain ⟨e1,e2⟩:=qa h3
  exact ⟨i,hi,by rw [e1,e2,e]⟩
omit h in
theorem iB (g:Gr):(0≤dF g)↔∃i k,i<g.es.length∧k<g.es.length∧i≠k∧g.es.getD i (0,0)=g.es.getD k (0,0):=by
 have:=eW (nt g) (List.range g.es.length)
 rw [show (0≤dF g)↔(List.range g.es.length).any (nt g)=true from by rw [← this];simp [dF],List.any_eq_true]
 constructor
 ·rintro ⟨i,hi,h2⟩
  have hil:=List.mem_range.1 hi
  have h3:=of_decide_eq_true h2
  rw [List.mem_iff_getElem?] at h3
  obtain ⟨k,hk⟩:=h3
  rw [List.getElem?_take] at hk
  split at hk
  ·rename_i hki
   exact ⟨i,k,hil,by omega,by omega,by rw [List.getD_eq_getElem?_getD (i:=k),hk];rfl⟩
  ·cases hk
 ·rintro ⟨i,k,hi,hk,hne,e⟩
  have main:∀i k,k<i→i<g.es.length→g.es.getD i (0,0)=g.es.getD k (0,0)→nt g i=true:=by
   intro i k hki hi e
   refine decide_eq_true ?_
   rw [e,List.mem_iff_getElem?]
   refine ⟨k, ?_⟩
   rw [List.getElem?_take,if_pos hki,List.getD_eq_getElem?_getD,List.getElem?_eq_getElem (by omega)];rfl
  rcases Nat.lt_or_gt_of_ne hne with hlt|hgt
  ·exact ⟨k,List.mem_range.2 hk,main k i hlt hk e.symm⟩
  ·exact ⟨i,List.mem_range.2 hi,main i k hgt hi e⟩
theorem jo.LS:(0≤dF (gL g names order))↔0≤dF g:=by
 have q9:=(cw.1 h.ord).1
 rw [iB,iB,h.len]
 constructor
 ·rintro ⟨i,k,hi,hk,hne,e⟩
  obtain ⟨j,hj,ho,h3⟩:=h.ju hi
  obtain ⟨j',hj',ho',Eh⟩:=h.ju hk
  refine ⟨j,j',hj,hj',fun e'=> ?_, ?_⟩
  ·subst e'
   exact hne (kI h.ord (by omega) (by omega) (by rw [ho,ho']))
  ·rw [h3,Eh,Prod.mk.injEq] at e
   have e1:=h.inj (aU h.may hj) (aU h.may hj') e.1
   have e2:=h.inj (aZ h.may hj) (aZ h.may hj') e.2
   exact Prod.ext e1 e2
 ·rintro ⟨j,j',hj,hj',hne,e⟩
  obtain ⟨i,hi,ho,h3⟩:=h.back hj
  obtain ⟨k,hk,ho',Eh⟩:=h.back hj'
  refine ⟨i,k,hi,hk,fun e'=> ?_, ?_⟩
  ·subst e';omega
  ·have e1:tl g j=tl g j':=congrArg Prod.fst e
   have e2:hd g j=hd g j':=congrArg Prod.snd e
   rw [h3,Eh,e1,e2]
theorem jo.OE:BO (gL g names order)=BO g:=by
 rw [Bool.eq_iff_iff,rN h.may',rN h.may]
 constructor
 ·rintro ⟨r,hr⟩
  refine ⟨fun v=>r (nm names v),fun j hj=> ?_⟩
  obtain ⟨i,hi,_,h3⟩:=h.back hj
  obtain ⟨e1,e2⟩:=qa h3
  have:=hr i (by rw [h.len];exact hi)
  rwa [e1,e2] at this
 ·rintro ⟨r,hr⟩
  refine ⟨fun v=>r (fu names v),fun i hi=> ?_⟩
  rw [h.len] at hi
  obtain ⟨j,hj,_,h3⟩:=h.ju hi
  obtain ⟨e1,e2⟩:=qa h3
  have:=hr j hj
  rw [e1,e2];simp only;rw [h.inv (aU h.may hj),h.inv (aZ h.may hj)]
  exact this
omit h in
theorem iT {g:Gr} {y:Int} :y∈bC (·.2) g↔(0≤y∧y<g.n)∧∀i,i<g.es.length→hd g i≠y:=by
 simp only [bC,iK,List.mem_map,List.mem_filter,List.mem_range,decide_eq_true_eq]
 have he:∀x:Nat,x<g.n.toNat→(((c7 (·.2) g).getD x []).length=0↔∀i,i<g.es.length→hd g i≠(x:Int)):=by
  intro x hx
  have e:(c7 (·.2) g).getD x []=aK (·.2) g.es g.es.length (x:Int):=by
   simp [c7,List.getD_eq_getElem?_getD,List.getElem?_range hx,lI]
  rw [e,List.length_eq_zero_iff]
  simp only [aK,List.map_eq_nil_iff,List.filter_eq_nil_iff,List.mem_range,decide_eq_true_eq]
  rfl
 constructor
 ·rintro ⟨x,⟨hx,h0⟩,rfl⟩
  refine ⟨by simp;omega,(he x hx).1 h0⟩
 ·rintro ⟨⟨h1,h2⟩,h3⟩
  have e:((y.toNat:Nat):Int)=y:=by omega
  exact ⟨y.toNat,⟨by omega,(he _ (by omega)).2 (by rw [e];exact h3)⟩,e⟩
omit h in
theorem dR {f:Edge→Int} {g:Gr} :(bC f g).Nodup:=by
 unfold bC iK
 refine List.Pairwise.map _ (fun a b h e=>h (Int.ofNat.inj e)) (List.Pairwise.filter _ List.nodup_range)
theorem jo.bare:(bC (·.2) (gL g names order)).length=(bC (·.2) g).length:=by
 have e1:(gL g names order).n=g.n:=rfl
 have h1:((bC (·.2) g).map (nm names)).length≤(bC (·.2) (gL g names order)).length:=by
  refine Nat.le_trans (count_le _ (bC (·.2) (gL g names order)) ?_ ?_) List.countP_le_length
  ·rw [List.nodup_iff_pairwise_ne]
   refine List.Pairwise.map _ (fun a b h=>h) ?_
   refine List.Pairwise.imp_of_mem ?_ dR
   intro a b ha hb hab e
   exact hab (h.inj (iT.1 ha).1 (iT.1 hb).1 e)
  ·intro v hv
   obtain ⟨y,hy,rfl⟩:=List.mem_map.1 hv
   obtain ⟨hy1,hy2⟩:=iT.1 hy
   refine iT.2 ⟨h.range hy1,fun i hi e=> ?_⟩
   rw [h.len] at hi
   obtain ⟨j,hj,_,h3⟩:=h.ju hi
   rw [(qa h3).2] at e
   exact hy2 j hj (h.inj (aZ h.may hj) hy1 e)
 have h2:((bC (·.2) (gL g names order)).map (fu names)).length≤(bC (·.2) g).length:=by
  have hsplit:∀v∈bC (·.2) (gL g names order),∃a,(0≤a∧a<g.n)∧nm names a=v:=fun v hv=>h.of (iT.1 hv).1
  refine Nat.le_trans (count_le _ (bC (·.2) g) ?_ ?_) List.countP_le_length
  ·rw [List.nodup_iff_pairwise_ne]
   refine List.Pairwise.map _ (fun a b h=>h) ?_
   refine List.Pairwise.imp_of_mem ?_ dR
   intro a b ha hb hab e
   obtain ⟨a',LC,rfl⟩:=hsplit a ha
   obtain ⟨b',hb',rfl⟩:=hsplit b hb
   rw [h.inv LC,h.inv hb'] at e
   exact hab (by rw [e])
  ·intro v hv
   obtain ⟨y,hy,rfl⟩:=List.mem_map.1 hv
   obtain ⟨a,ha,rfl⟩:=hsplit y hy
   rw [h.inv ha]
   refine iT.2 ⟨ha,fun j hj e=> ?_⟩
   obtain ⟨i,hi,_,h3⟩:=h.back hj
   refine (iT.1 hy).2 i (by rw [h.len];exact hi) ?_
   rw [(qa h3).2,e]
 simp only [List.length_map] at h1 h2
 omega
theorem jo.kind:(bN (gL g names order)).1=(bN g).1:=by
 have hm:=h.may'
 have hc:(0<(jK (gL g names order)).length)↔0<(jK g).length:=by
  have key:∀g:Gr,aH g=true→((0<(jK g).length)↔BO g=false):=by
   intro g hm
   cases ho:BO g with
   |true=>rw [xR hm ho];simp
   |false=>simp [(FM hm ho).1]
  rw [key _ hm,key _ h.may,h.OE]
 have h1:=h.loop
 have h2:=h.LS
 have h3:=h.bare
 simp only [bN,fe,hm,h.may]
 simp only [Bool.true_eq_false,if_false,h1,h2,hc,h3]
 split
 ·rfl
 split
 ·rfl
 split
 ·rfl
 split<;>rfl
end
end Go.Ab
end
section
namespace Go.Ab
open Go.Proofs
set_option maxRecDepth 10000
def DR:Nat→List Edge→Int→Option (Int × Int)
 |_, [],_=>none
 |m,e::N,v=>if e.1=v then some ((m:Int),e.2) else DR (m+1) N v
theorem zv {v:Int} :∀ {m:Nat} {N:List Edge},(∀e∈N,e.1≠v)→DR m N v=none
 |_, [],_=>rfl
 |m,e::N,h=>by rw [DR,if_neg (h e (List.mem_cons_self ..)),zv fun e' he=>h e' (List.mem_cons_of_mem _ he)]
theorem zw:∀ {m:Nat} {N:List Edge},(N.map (·.1)).Nodup→∀ {j:Nat},j<N.length→DR m N (N.getD j (0,0)).1=some (((m+j:Nat):Int),(N.getD j (0,0)).2)
 |m,e::N,hd,0,_=>by rw [List.getD_cons_zero,DR,if_pos rfl];rfl
 |m,e::N,hd,j+1,hj=>by
  rw [List.map_cons,List.nodup_cons] at hd
  have hj':j<N.length:=by simpa using hj
  rw [List.getD_cons_succ,DR,if_neg (fun h=>hd.1 (List.mem_map.2 ⟨_,aL hj',h.symm⟩)),zw hd.2 hj']
  congr 2
  omega
theorem oS {m:Nat} {N:List Edge} (hd:(N.map (·.1)).Nodup) {v h:Int} (he:(v,h)∈N):∃j:Nat,j<N.length∧DR m N v=some (((m+j:Nat):Int),h)∧N.getD j (0,0)=(v,h):=by
 obtain ⟨j,hj,e⟩:=List.mem_iff_getElem.1 he
 have e2:N.getD j (0,0)=(v,h):=by rw [List.getD_eq_getElem?_getD,List.getElem?_eq_getElem hj,Option.getD_some,e]
 have:=zw (m:=m) hd hj
 rw [e2] at this
 exact ⟨j,hj,this,e2⟩
theorem qb {m:Nat} {N:List Edge} (hd:(N.map (·.1)).Nodup) (v:Int):(DR m N v=none∧∀e∈N,e.1≠v)∨∃h,(v,h)∈N:=by
 by_cases h:∃e∈N,e.1=v
 ·obtain ⟨e,he,rfl⟩:=h
  exact .inr ⟨e.2,he⟩
 ·have h':∀e∈N,e.1≠v:=fun e he h2=>h ⟨e,he,h2⟩
  exact .inl ⟨zv h',h'⟩
def nJ (m:Nat) (N:List Edge) (t:It):It:=if 0≤t.1 then t else match DR m N t.2.1 with
 |some (i,h)=>(i,t.2.1,h)
 |none=>t
theorem oT {m:Nat} {N:List Edge} {t:It} (h:0≤t.1):nJ m N t=t:=if_pos h
theorem jW {m:Nat} {N:List Edge} {t:It} (h:t.1<0) {i x:Int} (hn:DR m N t.2.1=some (i,x)):nJ m N t=(i,t.2.1,x):=by
 unfold nJ
 rw [if_neg (by omega),hn]
theorem uq {m:Nat} {N:List Edge} {t:It} (hn:DR m N t.2.1=none):nJ m N t=t:=by
 unfold nJ
 split
 ·rfl
 ·rw [hn]
structure mS (g:Gr) (p:Pl):Prop where
 run:aY g p
 n:(aq g p).n≤64
 es:(aq g p).es.length≤128
variable {g:Gr} {p:Pl}
theorem ur {v x:Int} :∀ {k:Nat},(v,x)∈cx g p k→∃i,i<k∧x=aG p i∧v∈loose (dy g p i)
 |k+1,h=>by
  rw [cx,List.mem_append] at h
  rcases h with h|h
  ·obtain ⟨i,h1,h2⟩:=ur h
   exact ⟨i,by omega,h2⟩
  ·obtain ⟨w,hw,e⟩:=List.mem_map.1 h
   cases e
   exact ⟨k,by omega,rfl,hw⟩
theorem oU {v:Int} :∀ {k i:Nat},i<k→v∈loose (dy g p i)→(v,aG p i)∈cx g p k
 |k+1,i,hi,h=>by
  rw [cx,List.mem_append]
  by_cases e:i=k
  ·subst e;exact .inr (List.mem_map.2 ⟨v,h,rfl⟩)
  ·exact .inl (oU (by omega) h)
theorem uu {v x:Int} (h:(v,x)∈bh g p):(∃i,i<g.n.toNat∧x=aG p i∧v∈loose (dy g p i))∨(1<(aW g p).length∧x=g.n∧v∈loose (aW g p)):=by
 rw [bh,List.mem_append] at h
 rcases h with h|h
 ·exact .inl (ur h)
 ·unfold newL at h
  split at h
  ·obtain ⟨w,hw,e⟩:=List.mem_map.1 h
   cases e
   exact .inr ⟨by assumption,rfl,hw⟩
  ·cases h
theorem mD {l:List It} {t:It} (h:t∈l) (h0:t.1<0):t.2.1∈loose l:=List.mem_map.2 ⟨t,List.mem_filter.2 ⟨h,decide_eq_true h0⟩,rfl⟩
theorem xS (h:mS g p):aH (aq g p)=true:=by
 have hm:=an h.run.1
 have hn:=aB hm
 have DS:g.n≤(aq g p).n:=by unfold aq;split<;>simp only<;>omega
 have h1:=h.n
 have h2:=h.es
 simp only [aH,Bool.and_eq_true,decide_eq_true_eq,Bool.not_eq_true',List.any_eq_false]
 refine ⟨⟨⟨by omega,h1⟩,by omega⟩,fun e he=> ?_⟩
 have he:e∈g.es++bh g p:=he
 simp only [ng,td,Bool.or_eq_true,decide_eq_true_eq,not_or]
 rcases List.mem_append.1 he with he|he
 ·obtain ⟨i,hi,rfl⟩:=List.mem_iff_getElem.1 he
  have:=cH hm hi
  rw [List.getD_eq_getElem?_getD,List.getElem?_eq_getElem hi,Option.getD_some] at this
  omega
 ·have q1:=((fJ h.run).2 e he).1
  rcases uu (v:=e.1) (x:=e.2) he with ⟨i,hi,hx,_⟩|⟨hl,hx,_⟩
  ·have:=bF h.run.2.1 hi
   omega
  ·have:(aq g p).n=g.n+1:=if_pos hl
   omega
theorem oV {v:Int} :cm (aq g p) v=cm g v++(aK (·.1) (bh g p) (bh g p).length v).map (· +(g.es.length:Int)):=pZ
theorem uv (i:Nat) (hi:i<g.es.length):(aq g p).es.getD i (0,0)=g.es.getD i (0,0):=by
 show (g.es++bh g p).getD i (0,0)=_
 rw [List.getD_eq_getElem?_getD,List.getElem?_append_left hi, ← List.getD_eq_getElem?_getD]
theorem oW (j:Nat):(aq g p).es.getD (g.es.length+j) (0,0)=(bh g p).getD j (0,0):=by
 show (g.es++bh g p).getD _ (0,0)=_
 rw [List.getD_eq_getElem?_getD,List.getElem?_append_right (by omega),Nat.add_sub_cancel_left, ← List.getD_eq_getElem?_getD]
theorem qc (hr:aY g p) {v:Int} (h0:0≤v∧v<g.n) (hs:b8 p v= []):(∀h,(v,h)∈bh g p→∃j:Nat,DR g.es.length (bh g p) v=some (((g.es.length+j:Nat):Int),h)∧cm (aq g p) v= [((g.es.length+j:Nat):Int)]∧(aq g p).es.getD (g.es.length+j) (0,0)=(v,h))∧
 ((∀e∈bh g p,e.1≠v)→cm (aq g p) v= []):=by
 obtain ⟨sy,Af⟩:=fJ hr
 have hz:cm g v= []:=(lQ hr.2.1 h0.1 h0.2).2 hs
 constructor
 ·intro h hm
  obtain ⟨j,hj,h1,h2⟩:=oS (m:=g.es.length) sy hm
  refine ⟨j,h1, ?_,by rw [oW,h2]⟩
  have e1:=zm sy hj
  rw [h2] at e1
  rw [oV,hz,e1]
  simp;omega
 ·intro h
  rw [oV,hz,iA h];rfl
theorem uw (hr:aY g p) {v:Int} (h0:0≤v∧v<g.n) (hs:b8 p v≠ []):cm (aq g p) v=cm g v:=by
 obtain ⟨sy,Af⟩:=fJ hr
 rw [oV,iA fun e he h=>hs (by rw [← h];exact (Af e he).2)]
 simp
theorem jX:g.n≤(aq g p).n∧(aq g p).n≤g.n+1:=by
 unfold aq;split<;>simp only<;>omega
theorem B0 (hr:aY g p) {v:Int} (h0:0≤v∧v<g.n):b8 (bG g p) v=if b8 p v≠ [] then b8 p v else cm (aq g p) v:=by
 have hn:=jX (g:=g) (p:=p)
 unfold b8
 rw [uh hr,A1,List.getD_eq_getElem?_getD,List.getElem?_map,List.getElem?_range (by omega)]
 simp only [Option.map_some,Option.getD_some]
 rw [show ((v.toNat:Nat):Int)=v by omega]
 by_cases h:p.outs.getD v.toNat []= []
 ·rw [h];simp
 ·rw [if_pos (List.length_pos_iff.2 h),if_pos h]
theorem rO (hr:aY g p) (hl:1<(aW g p).length):b8 (bG g p) g.n= []∧cm (aq g p) g.n= []:=by
 have hm:=an hr.1
 have hn:=aB hm
 have hG:(aq g p).n=g.n+1:=if_pos hl
 have hz:cm (aq g p) g.n= []:=by
  rw [oV,iA fun e he h=>by have:=((fJ hr).2 e he).1;omega]
  simp only [List.map_nil,List.append_nil]
  refine iA fun e he h=> ?_
  obtain ⟨i,hi,rfl⟩:=List.mem_iff_getElem.1 he
  have:=(cH hm hi).1
  rw [List.getD_eq_getElem?_getD,List.getElem?_eq_getElem hi,Option.getD_some] at this
  omega
 refine ⟨?_,hz⟩
 unfold b8
 rw [uh hr,A1,List.getD_eq_getElem?_getD,List.getElem?_map,List.getElem?_range (by omega)]
 simp only [Option.map_some,Option.getD_some]
 rw [show ((g.n.toNat:Nat):Int)=g.n by omega,hz]
 have:p.outs.getD g.n.toNat []= []:=by rw [List.getD_eq_getElem?_getD,List.getElem?_eq_none (by rw [hr.2.1.1];exact Nat.le_refl _)];rfl
 rw [this];rfl
theorem oX (hr:aY g p):bk (aq g p) (bG g p):=by
 have h:=hr.2.1
 have hm:=an hr.1
 have hn:=aB hm
 have ha:=jX (g:=g) (p:=p)
 refine ⟨by rw [uh hr];simp [A1], ?_,fun x hx=> ?_⟩
 ·unfold bG aq
  split
  ·have e:(g.n+1).toNat=g.n.toNat+1:=by omega
   have e2:dP (g.n.toNat+1)=dP g.n.toNat++ [g.n]:=by
    simp only [dP,List.range_succ,List.map_append,List.map_cons,List.map_nil]
    congr 2
    show ((g.n.toNat:Nat):Int)=g.n
    omega
   show (p.ord++ [g.n]).Perm (dP (g.n+1).toNat)
   rw [e,e2]
   exact h.2.1.append_right _
  ·exact h.2.1
 ·have hl:(bG g p).outs.getD x []=b8 (bG g p) (x:Int):=by unfold b8;rw [Int.toNat_natCast]
  rw [hl]
  by_cases BK:(x:Int)<g.n
  ·rw [B0 hr ⟨by omega,BK⟩]
   split
   ·rename_i h2
    rw [uw hr ⟨by omega,BK⟩ h2]
    exact bJ h (by omega) BK
   ·exact List.Perm.refl _
  ·have GA:1<(aW g p).length:=Decidable.byContradiction fun hl=>by
    have:(aq g p).n=g.n:=if_neg hl
    omega
   have e:(x:Int)=g.n:=by omega
   rw [e,(rO hr GA).1,(rO hr GA).2]
theorem HA (hr:aY g p) {k:Nat} (hk:k<g.n.toNat):aG (bG g p) k=aG p k:=by
 have:=aS hr.2.1
 unfold aG bG
 simp only
 split
 ·rw [List.getD_eq_getElem?_getD,List.getElem?_append_left (by omega), ← List.getD_eq_getElem?_getD]
 ·rfl
theorem HB (hr:aY g p) (hl:1<(aW g p).length):aG (bG g p) g.n.toNat=g.n:=by
 have:=aS hr.2.1
 unfold aG bG
 simp only
 rw [if_pos hl,List.getD_eq_getElem?_getD,List.getElem?_append_right (by omega),this]
 simp
theorem Dm (hr:aY g p) {x:Int} (h0:0≤x∧x<g.n):aO (aq g p) x (b8 (bG g p) x)=(aO g x (b8 p x)).map (nJ g.es.length (bh g p)):=by
 obtain ⟨sy,Af⟩:=fJ hr
 rw [B0 hr h0]
 by_cases hs:b8 p x= []
 ·obtain ⟨s1,s2⟩:=qc hr h0 hs
  have ha:aO g x (b8 p x)= [(-1,x, -1)]:=if_pos hs
  rw [if_neg (by simp [hs]),ha]
  rcases qb (m:=g.es.length) sy x with ⟨h1,h2⟩|⟨h,hm⟩
  ·rw [s2 h2,List.map_cons,List.map_nil,uq h1]
   rfl
  ·obtain ⟨j,h1,h2,h3⟩:=s1 h hm
   rw [h2,List.map_cons,List.map_nil,jW (t:=(-1,x, -1)) (by simp) h1]
   have Eh:((aq g p).es.getD (((g.es.length+j:Nat):Int)).toNat (0,0))=(x,h):=by rw [Int.toNat_natCast];exact h3
   simp only [aO,fR,List.cons_ne_nil,if_false,List.map_cons,List.map_nil,Eh]
 ·rw [if_pos hs]
  unfold aO
  rw [if_neg hs,if_neg hs,List.map_map]
  refine List.map_congr_left fun i hi=> ?_
  obtain ⟨k,rfl,hk,ht⟩:=oM ((bJ hr.2.1 h0.1 h0.2).mem_iff.1 hi)
  simp only [Function.comp]
  rw [oT (t:=fR g x (k:Int)) (by simp [fR])]
  simp only [fR,Int.toNat_natCast,uv k hk]
theorem uz {x:Int} :bf (aq g p) x=bf g x+((bh g p).filter fun e=>decide (e.2=x)).length:=by
 unfold bf
 have:aK (·.2) (aq g p).es (aq g p).es.length x=aK (·.2) g.es g.es.length x++(aK (·.2) (bh g p) (bh g p).length x).map (· +(g.es.length:Int)):=pZ
 rw [this,List.length_append,List.length_map]
 congr 1
 generalize bh g p=N
 unfold aK
 rw [List.length_map, ← List.countP_eq_length_filter, ← List.countP_eq_length_filter]
 have e:N=(List.range N.length).map fun i=>N.getD i (0,0):=by
  refine List.ext_getElem (by simp) fun i h1 h2=> ?_
  simp [List.getD_eq_getElem?_getD,List.getElem?_eq_getElem h1]
 conv=>rhs;rw [e]
 rw [List.countP_map]
 rfl
end Go.Ab
end
section
namespace Go.Ab
open Go.Proofs
set_option maxRecDepth 10000
variable {g:Gr} {p:Pl}
theorem qG (h:bk g p) {k:Nat} :∀ {K:Nat},K≤g.n.toNat→k<g.n.toNat→(cx g p K).filter (fun e=>decide (e.2=aG p k))=if k<K then (loose (dy g p k)).map fun v=>(v,aG p k) else []
 |0,_,_=>by simp [cx]
 |K+1,hK,hk=>by
  rw [cx,List.filter_append,qG h (by omega) hk]
  by_cases e:k=K
  ·subst e
   rw [if_neg (by omega),if_pos (by omega),List.nil_append,List.filter_eq_self.2]
   intro e he
   obtain ⟨v,_,rfl⟩:=List.mem_map.1 he
   simp
  ·have:((loose (dy g p K)).map fun v=>(v,aG p K)).filter (fun e=>decide (e.2=aG p k))= []:=List.filter_eq_nil_iff.2 fun e' he=>by
    obtain ⟨v,_,rfl⟩:=List.mem_map.1 he
    simp only [decide_eq_true_eq]
    intro h2
    exact e (mC h hk (by omega) h2.symm)
   rw [this,List.append_nil]
   by_cases h3:k<K
   ·rw [if_pos h3,if_pos (by omega)]
   ·rw [if_neg h3,if_neg (by omega)]
theorem zx (hr:aY g p) {k:Nat} (hk:k<g.n.toNat):((bh g p).filter fun e=>decide (e.2=aG p k)).length=(loose (dy g p k)).length:=by
 have hx:=bF hr.2.1 hk
 rw [bh,List.filter_append,qG hr.2.1 (Nat.le_refl _) hk,if_pos hk]
 have:(newL g p).filter (fun e=>decide (e.2=aG p k))= []:=List.filter_eq_nil_iff.2 fun e' he=>by
  unfold newL at he
  split at he
  ·obtain ⟨v,_,rfl⟩:=List.mem_map.1 he
   simp only [decide_eq_true_eq];omega
  ·cases he
 rw [this];simp
theorem zy {l:List Int} (h:l.Nodup) {k:Nat} (hk:k<l.length):l.getD k 0∉l.take k:=by
 intro hm
 obtain ⟨j,hj,e⟩:=List.mem_iff_getElem.1 hm
 simp only [List.length_take] at hj
 have e2:l.getD j 0=l.getD k 0:=by
  rw [← e,List.getD_eq_getElem?_getD,List.getElem?_eq_getElem (by omega)]
  simp
 have:=iQ h (by omega) hk e2
 omega
theorem take_at {p:Pl} {k:Nat} {v:Int} (hk:k≤p.ord.length) (h:v∈p.ord.take k):∃j,j<k∧aG p j=v:=by
 obtain ⟨j,hj,e⟩:=List.mem_iff_getElem.1 h
 simp only [List.length_take] at hj
 refine ⟨j,by omega, ?_⟩
 rw [← e,aG,List.getD_eq_getElem?_getD,List.getElem?_eq_getElem (by omega)]
 simp
theorem zA {x:Int} {X:List It} (h:∀t∈X,(t.1<0↔¬t.2.2=x)):X.countP (jb x)+(loose X).length=X.length:=by
 rw [List.length_eq_countP_add_countP (jb x)]
 congr 1
 unfold loose
 rw [List.length_map, ← List.countP_eq_length_filter]
 refine List.countP_congr fun t ht=> ?_
 have:=h t ht
 simp only [jb,decide_eq_true_eq,Bool.not_eq_true,decide_eq_false_iff_not]
 exact this
theorem OF (h:mS g p):∀ {k:Nat},k≤g.n.toNat→(∀j,j<k→qQ (aq g p) (bG g p) j=true)∧(fK (aq g p) (bG g p) k).row=(fK g p k).row.map (nJ g.es.length (bh g p))
 |0,_=>⟨fun j hj=>by omega,rfl⟩
 |k+1,hk=>by
  have hr:=h.run
  have x9:=hr.2.1
  have hm:=an hr.1
  have vR:=xS h
  have hQ:=oX hr
  obtain ⟨sy,Af⟩:=fJ hr
  have S7:=jX (g:=g) (p:=p)
  obtain ⟨ML,hrow⟩:=OF h (k:=k) (by omega)
  obtain ⟨hi,_,_⟩:=bT hm x9 (k:=k) (by omega) fun j hj=>hr.2.2 j (by omega)
  obtain ⟨JG,FN,_⟩:=bT vR hQ (k:=k) (by omega) ML
  have hR:az g (fK g p k) (aG p k)=true:=hr.2.2 k (by omega)
  have k6:=HA hr (k:=k) (by omega)
  have hx:=bF x9 (k:=k) (by omega)
  obtain ⟨GA,CX⟩:=jV hm x9 (k:=k) (by omega) fun j hj=>hr.2.2 j (by omega)
  have hlr:(loose (fK g p k).row).Nodup:=(List.nodup_append.1 GA).2.1
  have hnot:aG p k∉(fK (aq g p) (bG g p) k).pl:=by
   rw [FN, ← k6]
   exact zy (cB hQ) (by rw [aS hQ];omega)
  have JH:=zx hr (k:=k) (by omega)
  have bZ:=uz (g:=g) (p:=p) (x:=aG p k)
  have LU:=Dm hr hx
  have hin:∀v,(v,aG p k)∈bh g p→v∈loose (dy g p k):=fun v hv=>by
   rcases uu hv with ⟨i,h1,h2,h3⟩|⟨_,h2,_⟩
   ·have:=mC x9 (by omega) h1 h2
    subst this;exact h3
   ·omega
  have hout:∀v,v∈loose (dy g p k)→(v,aG p k)∈bh g p:=fun v hv=>List.mem_append_left _ (oU (by omega) hv)
  suffices hs:qQ (aq g p) (bG g p) k=true∧(fK (aq g p) (bG g p) (k+1)).row=(fK g p (k+1)).row.map (nJ g.es.length (bh g p)) by
   refine ⟨fun j hj=> ?_,hs.2⟩
   by_cases e:j=k
   ·subst e;exact hs.1
   ·exact ML j (by omega)
  have RE:(fK (aq g p) (bG g p) (k+1))=(aC (aq g p) (fK (aq g p) (bG g p) k) (aG p k) (b8 (bG g p) (aG p k))).2:=by
   rw [← k6];rfl
  have hfg:(fK g p (k+1))=(aC g (fK g p k) (aG p k) (b8 p (aG p k))).2:=rfl
  have hok:qQ (aq g p) (bG g p) k=az (aq g p) (fK (aq g p) (bG g p) k) (aG p k):=by unfold qQ;rw [k6]
  rw [RE,hfg,hok]
  have LV:dy g p k=(aC g (fK g p k) (aG p k) (b8 p (aG p k))).1.1:=rfl
  generalize aG p k=x at*
  by_cases hn:bf g x=0
  ·have hno:=gq hm hi.tofH hx.1 hn
   rw [gn _ hno] at LV
   have LW:bf (aq g p) x=0:=by rw [bZ,hn,JH,LV];rfl
   have OG:=gq vR JG.tofH hx.1 LW
   refine ⟨?_, ?_⟩
   ·unfold az
    rw [if_neg (by rintro (h|h|h);omega;omega;exact hnot h),if_pos LW]
   ·rw [gn _ hno,gn _ OG]
    simp only [List.map_append]
    rw [LU,hrow]
  ·obtain ⟨A,X,C,hrw,nA,nC,hX,cX⟩:=bS hm hi.tofH hR hn
   rw [fI _ hrw nA nC hX] at LV
   simp only at LV
   rw [LV] at hin hout JH
   have RF:∀t∈X,t∈(fK g p k).row:=fun t ht=>by rw [hrw];simp [ht]
   have S8:∀t∈A,t∈(fK g p k).row:=fun t ht=>by rw [hrw];simp [ht]
   have S9:∀t∈C,t∈(fK g p k).row:=fun t ht=>by rw [hrw];simp [ht]
   have hit:∀t∈X,(t.1<0↔¬t.2.2=x):=fun t ht=>by
    have h1:=(hi.it t (RF t ht)).head hm
    have h2:=hX.al t ht
    omega
   rw [hrw,bL,bL,List.nodup_append,List.nodup_append] at hlr
   have PC:fz x (A.map (nJ g.es.length (bh g p))):=fun t' ht'=>by
    obtain ⟨t,ht,rfl⟩:=List.mem_map.1 ht'
    by_cases h0:0≤t.1
    ·rw [oT h0];exact nA t ht
    ·rcases qb (m:=g.es.length) sy t.2.1 with ⟨h1,_⟩|⟨y,h1⟩
     ·rw [uq h1];exact nA t ht
     ·obtain ⟨j,_,h2,_⟩:=oS (m:=g.es.length) sy h1
      rw [jW (by omega) h2]
      intro e
      have e:y=x:=e
      subst e
      exact hlr.1.2.2 _ (mD ht (by omega)) _ (hin _ h1) rfl
   have PD:fz x (C.map (nJ g.es.length (bh g p))):=fun t' ht'=>by
    obtain ⟨t,ht,rfl⟩:=List.mem_map.1 ht'
    by_cases h0:0≤t.1
    ·rw [oT h0];exact nC t ht
    ·rcases qb (m:=g.es.length) sy t.2.1 with ⟨h1,_⟩|⟨y,h1⟩
     ·rw [uq h1];exact nC t ht
     ·obtain ⟨j,_,h2,_⟩:=oS (m:=g.es.length) sy h1
      rw [jW (by omega) h2]
      intro e
      have e:y=x:=e
      subst e
      exact hlr.2.2 _ (List.mem_append_right _ (hin _ h1)) _ (mD ht (by omega)) rfl
   have HC:∀t∈X,(nJ g.es.length (bh g p) t).2.2=x:=fun t ht=>by
    by_cases h0:0≤t.1
    ·rw [oT h0]
     have:=hit t ht
     omega
    ·obtain ⟨j,_,h2,_⟩:=oS (m:=g.es.length) sy (hout _ (mD ht (by omega)))
     rw [jW (by omega) h2]
   have Jy:Mid x (X.map (nJ g.es.length (bh g p))):=by
    obtain ⟨q,X0,e1,_⟩:=hX.fst
    obtain ⟨X1,q',e2,_⟩:=hX.Jk
    refine ⟨⟨nJ g.es.length (bh g p) q,X0.map (nJ g.es.length (bh g p)),by rw [e1];rfl,HC q (by rw [e1];simp)⟩,⟨X1.map (nJ g.es.length (bh g p)),nJ g.es.length (bh g p) q',by rw [e2];simp,HC q' (by rw [e2];simp)⟩,fun t' ht'=> ?_⟩
    obtain ⟨t,ht,rfl⟩:=List.mem_map.1 ht'
    exact .inl (HC t ht)
   have uZ:(X.map (nJ g.es.length (bh g p))).countP (jb x)=bf (aq g p) x:=by
    have h1:(X.map (nJ g.es.length (bh g p))).countP (jb x)=(X.map (nJ g.es.length (bh g p))).length:=List.countP_eq_length.2 fun t' ht'=>by
     obtain ⟨t,ht,rfl⟩:=List.mem_map.1 ht'
     simp [jb,HC t ht]
    rw [h1,List.length_map,bZ,JH, ← cX,zA hit]
   have LX:(fK (aq g p) (bG g p) k).row=A.map (nJ g.es.length (bh g p))++X.map (nJ g.es.length (bh g p))++C.map (nJ g.es.length (bh g p)):=by rw [hrow,hrw];simp
   refine ⟨kM vR JG.tofH hx.1 (by omega) hnot LX PC PD Jy uZ, ?_⟩
   rw [fI _ hrw nA nC hX,fI _ LX PC PD Jy]
   simp only [List.map_append]
   rw [LU]
theorem B1 (hr:aY g p) {v:Int} {k:Nat} :∀ {K:Nat},k≤K→K≤g.n.toNat→v∈loose (fK g p k).row→(∃i,i<K∧v∈loose (dy g p i))∨v∈loose (fK g p K).row
 |0,h1,_,hv=>by
  obtain rfl:k=0:=by omega
  exact .inr hv
 |K+1,h1,h2,hv=>by
  by_cases e:k=K+1
  ·subst e;exact .inr hv
  ·rcases B1 hr (K:=K) (by omega) (by omega) hv with ⟨i,h3,h4⟩|h3
   ·exact .inl ⟨i,by omega,h4⟩
   ·have hm:=an hr.1
    obtain ⟨hi,_,_⟩:=bT hm hr.2.1 (k:=K) (by omega) fun j hj=>hr.2.2 j (by omega)
    obtain ⟨A,X,C,hrw,_,_,_,hs⟩:=eO hm hi.tofH (hr.2.2 K (by omega))
    have hg:dy g p K=X:=by unfold dy;rw [hs]
    have hrow:(fK g p (K+1)).row=A++aO g (aG p K) (b8 p (aG p K))++C:=by show (aC _ _ _ _).2.row=_;rw [hs]
    rw [hrw,bL,bL,List.mem_append,List.mem_append] at h3
    rcases h3 with (h3|h3)|h3
    ·refine .inr ?_
     rw [hrow,bL,bL];simp [h3]
    ·exact .inl ⟨K,by omega,by rw [hg];exact h3⟩
    ·refine .inr ?_
     rw [hrow,bL,bL];simp [h3]
end Go.Ab
end
section
namespace Go.Ab
open Go.Proofs
set_option maxRecDepth 10000
variable {g:Gr} {p:Pl}
theorem HD (hr:aY g p):aW g p≠ []:=by
 have hm:=an hr.1
 have hn:=aB hm
 obtain ⟨k,hk⟩:∃k,g.n.toNat=k+1:=⟨g.n.toNat - 1,by omega⟩
 obtain ⟨hi,_,_⟩:=bT hm hr.2.1 (k:=k) (by omega) fun j hj=>hr.2.2 j (by omega)
 obtain ⟨A,X,C,hrw,_,_,_,hs⟩:=eO hm hi.tofH (hr.2.2 k (by omega))
 unfold aW
 rw [hk]
 show (aC _ _ _ _).2.row≠ []
 rw [hs]
 have:=(nG (g:=g) (x:=aG p k) (outs:=b8 p (aG p k))).1
 intro e
 have h2:=congrArg List.length e
 simp at h2
 rw [h2.2.1] at this
 simp at this
theorem qd (hr:aY g p):b8 p (aG p (g.n.toNat - 1))= []∧aG p (g.n.toNat - 1)∈loose (aW g p):=by
 have hm:=an hr.1
 have hn:=aB hm
 obtain ⟨k,hk⟩:∃k,g.n.toNat=k+1:=⟨g.n.toNat - 1,by omega⟩
 obtain ⟨hi,_,_⟩:=bT hm hr.2.1 (k:=k) (by omega) fun j hj=>hr.2.2 j (by omega)
 obtain ⟨A,X,C,hrw,_,_,_,hs⟩:=eO hm hi.tofH (hr.2.2 k (by omega))
 have hL:aW g p=A++aO g (aG p k) (b8 p (aG p k))++C:=by
  unfold aW;rw [hk]
  show (aC _ _ _ _).2.row=_
  rw [hs]
 have x7:g.n.toNat - 1=k:=by omega
 rw [x7]
 have jh:=uk hr
 have hx:=bF hr.2.1 (k:=k) (by omega)
 have h0:b8 p (aG p k)= []:=by
  refine Decidable.byContradiction fun h0=> ?_
  have ha:aO g (aG p k) (b8 p (aG p k))=(b8 p (aG p k)).map (fR g (aG p k)):=if_neg h0
  obtain ⟨i,hi'⟩:=List.exists_mem_of_ne_nil _ h0
  have h1:=jh (fR g (aG p k) i) (by rw [hL,ha];simp;exact .inr (.inl ⟨i,hi',rfl⟩))
  obtain ⟨e,rfl,_⟩:=oM ((bJ hr.2.1 hx.1 hx.2).mem_iff.1 hi')
  simp [fR] at h1
  omega
 refine ⟨h0, ?_⟩
 have ha:aO g (aG p k) (b8 p (aG p k))= [(-1,aG p k, -1)]:=if_pos h0
 rw [hL,ha,bL,bL]
 simp [loose]
theorem FO (hr:aY g p) (hl:¬1<(aW g p).length) {v:Int} (hv:v∈loose (aW g p)):v=aG p (g.n.toNat - 1):=by
 have h1:=(qd hr).2
 have h2:(loose (aW g p)).length≤1:=Nat.le_trans vQ (by omega)
 match hL:loose (aW g p),h2 with
 | [],_=>rw [hL] at hv;cases hv
 | [w],_=>
   rw [hL,List.mem_singleton] at hv h1
   rw [hv,h1]
theorem FP (h:mS g p) (hl:1<(aW g p).length):qQ (aq g p) (bG g p) g.n.toNat=true∧(fK (aq g p) (bG g p) (g.n.toNat+1)).row= [(-1,g.n, -1)]:=by
 have hr:=h.run
 have hm:=an hr.1
 have hn:=aB hm
 have vR:=xS h
 have hQ:=oX hr
 obtain ⟨sy,Af⟩:=fJ hr
 obtain ⟨ML,hrow⟩:=OF h (k:=g.n.toNat) (Nat.le_refl _)
 have hG:(aq g p).n=g.n+1:=if_pos hl
 obtain ⟨JG,FN,_⟩:=bT vR hQ (k:=g.n.toNat) (by omega) ML
 have hx:=HB hr hl
 have hnot:g.n∉(fK (aq g p) (bG g p) g.n.toNat).pl:=by
  rw [FN]
  have:=zy (cB hQ) (k:=g.n.toNat) (by rw [aS hQ];omega)
  rw [show (bG g p).ord.getD g.n.toNat 0=g.n from hx] at this
  exact this
 have jh:=uk hr
 have hrow:(fK (aq g p) (bG g p) g.n.toNat).row=(aW g p).map (nJ g.es.length (bh g p)):=hrow
 have hmem:∀v∈loose (aW g p),(v,g.n)∈bh g p:=fun v hv=>by
  refine List.mem_append_right _ ?_
  unfold newL
  rw [if_pos hl]
  exact List.mem_map.2 ⟨v,hv,rfl⟩
 have HC:∀t∈aW g p,(nJ g.es.length (bh g p) t).2.2=g.n:=fun t ht=>by
  obtain ⟨j,_,h2,_⟩:=oS (m:=g.es.length) sy (hmem _ (mD ht (jh t ht)))
  rw [jW (jh t ht) h2]
 have Jy:Mid g.n ((aW g p).map (nJ g.es.length (bh g p))):=by
  have hne:=HD hr
  refine ⟨?_, ?_,fun t' ht'=> ?_⟩
  ·match hL:aW g p,hne with
   |t::l,_=>exact ⟨_,_,rfl,HC t (by rw [hL];simp)⟩
  ·have e:=List.dropLast_concat_getLast hne
   refine ⟨(aW g p).dropLast.map (nJ g.es.length (bh g p)),nJ g.es.length (bh g p) ((aW g p).getLast hne), ?_,HC _ (List.getLast_mem hne)⟩
   conv=>lhs;rw [← e]
   simp
  ·obtain ⟨t,ht,rfl⟩:=List.mem_map.1 ht'
   exact .inl (HC t ht)
 have hno:bf g g.n=0:=by
  have:¬0<bf g g.n:=fun h0=>by
   obtain ⟨i,hi⟩:=List.exists_mem_of_length_pos h0
   obtain ⟨⟨h1,h2⟩,h3⟩:=iz hi
   have:=(cH hm (k:=i.toNat) (by omega)).2
   have h3:(g.es.getD i.toNat (0,0)).2=g.n:=h3
   omega
  omega
 have uZ:((aW g p).map (nJ g.es.length (bh g p))).countP (jb g.n)=bf (aq g p) g.n:=by
  have h1:((aW g p).map (nJ g.es.length (bh g p))).countP (jb g.n)=((aW g p).map (nJ g.es.length (bh g p))).length:=List.countP_eq_length.2 fun t' ht'=>by
   obtain ⟨t,ht,rfl⟩:=List.mem_map.1 ht'
   simp [jb,HC t ht]
  have h2:(cx g p g.n.toNat).filter (fun e=>decide (e.2=g.n))= []:=List.filter_eq_nil_iff.2 fun e he=>by
   obtain ⟨i,hi,hx2,_⟩:=ur (v:=e.1) (x:=e.2) he
   have:=bF hr.2.1 hi
   simp only [decide_eq_true_eq];omega
  have h3:(newL g p).filter (fun e=>decide (e.2=g.n))=newL g p:=List.filter_eq_self.2 fun e he=>by
   unfold newL at he
   rw [if_pos hl] at he
   obtain ⟨v,_,rfl⟩:=List.mem_map.1 he
   simp
  have h4:(loose (aW g p)).length=(aW g p).length:=by
   unfold loose
   rw [List.length_map,List.filter_eq_self.2]
   intro t ht
   exact decide_eq_true (jh t ht)
  rw [h1,List.length_map,uz,hno,bh,List.filter_append,h2,h3]
  unfold newL
  rw [if_pos hl]
  simp [h4]
 have LX:(fK (aq g p) (bG g p) g.n.toNat).row= []++(aW g p).map (nJ g.es.length (bh g p))++ []:=by rw [hrow];simp
 have nil:fz g.n ([]:List It):=fun t ht=>by cases ht
 refine ⟨?_, ?_⟩
 ·unfold qQ
  rw [hx]
  exact kM vR JG.tofH (by omega) (by omega) hnot LX nil nil Jy uZ
 ·show (aC _ _ _ _).2.row=_
  rw [hx,fI _ LX nil nil Jy,(rO hr hl).1]
  rfl
theorem B2 (h:mS g p):∀k,k<(aq g p).n.toNat→qQ (aq g p) (bG g p) k=true:=by
 have hn:=aB (an h.run.1)
 intro k hk
 by_cases hkn:k<g.n.toNat
 ·exact (OF h (k:=g.n.toNat) (Nat.le_refl _)).1 k hkn
 ·by_cases hl:1<(aW g p).length
  ·have hG:(aq g p).n=g.n+1:=if_pos hl
   obtain rfl:k=g.n.toNat:=by omega
   exact (FP h hl).1
  ·have hG:(aq g p).n=g.n:=if_neg hl
   omega
theorem iC {f:Edge→Int} {g:Gr} {y:Int} :y∈bC f g↔(0≤y∧y<g.n)∧aK f g.es g.es.length y= []:=by
 simp only [bC,iK,List.mem_map,List.mem_filter,List.mem_range,decide_eq_true_eq]
 have he:∀x:Nat,x<g.n.toNat→(((c7 f g).getD x []).length=0↔aK f g.es g.es.length (x:Int)= []):=by
  intro x hx
  have e:(c7 f g).getD x []=aK f g.es g.es.length (x:Int):=by
   simp [c7,List.getD_eq_getElem?_getD,List.getElem?_range hx,lI]
  rw [e,List.length_eq_zero_iff]
 constructor
 ·rintro ⟨x,⟨hx,h0⟩,rfl⟩
  exact ⟨by simp;omega,(he x hx).1 h0⟩
 ·rintro ⟨⟨h1,h2⟩,h3⟩
  have e:((y.toNat:Nat):Int)=y:=by omega
  exact ⟨y.toNat,⟨by omega,(he _ (by omega)).2 (by rw [e];exact h3)⟩,e⟩
theorem xT {l:List Int} (hd:l.Nodup) {s:Int} (h:∀y∈l,y=s):l.length≤1:=by
 match l,hd,h with
 | [],_,_=>simp
 | [_],_,_=>simp
 |a::b::l,hd,h=>
  rw [List.nodup_cons] at hd
  exact absurd (by rw [h a (by simp),h b (by simp)];simp) hd.1
theorem zB (h:mS g p):(bN (aq g p)).1=0:=by
 have hr:=h.run
 have hm:=an hr.1
 have hn:=aB hm
 have vR:=xS h
 have hQ:=oX hr
 have LY:=B2 h
 have hna:=jX (g:=g) (p:=p)
 obtain ⟨sy,Af⟩:=fJ hr
 have PE:∀i,i<(aq g p).es.length→∃j k,j<k∧k<(aq g p).n.toNat∧tl (aq g p) i=aG (bG g p) j∧hd (aq g p) i=aG (bG g p) k:=fun i hi=>by
  have hh:=(cH vR hi).2
  obtain ⟨k,hk,e⟩:=gy hQ hh.1 hh.2
  obtain ⟨JG,FN,_⟩:=bT vR hQ (k:=k) (by omega) fun j hj=>LY j (by omega)
  obtain ⟨t,ht,e1,e2,_⟩:=tY vR JG (LY k hk) hi e.symm
  have hin:=JG.tail t ht (by omega)
  rw [FN] at hin
  obtain ⟨j,hj,e3⟩:=take_at (by rw [aS hQ];omega) hin
  exact ⟨j,k,hj,hk,by rw [← e2,e3],e.symm⟩
 have FQ:BO (aq g p)=true:=(rN vR).2 ⟨fun v=>(bI (fun y=>decide (y=v)) (bG g p).ord).toNat,fun i hi=>by
  obtain ⟨j,k,hjk,hk,e1,e2⟩:=PE i hi
  have pn:∀q,q<(aq g p).n.toNat→bI (fun y=>decide (y=aG (bG g p) q)) (bG g p).ord=q:=fun q hq=>
   cQ (d:=0) (by rw [aS hQ];exact hq) (fun i' hi'=>decide_eq_false fun e=>by
    have:=mC hQ (by omega) hq e
    omega) (decide_eq_true rfl)
  simp only
  rw [e1,e2,pn j (by omega),pn k hk]
  omega⟩
 have FR:¬0≤iO (aq g p):=fun hl=>by
  have h1:=eW (fun e:Edge=>decide (e.1=e.2)) (aq g p).es
  have h0:decide (0≤bI (fun e:Edge=>decide (e.1=e.2)) (aq g p).es)=true:=decide_eq_true hl
  rw [h0] at h1
  obtain ⟨e,he,h2⟩:=List.any_eq_true.1 h1.symm
  obtain ⟨i,hi,rfl⟩:=List.mem_iff_getElem.1 he
  obtain ⟨j,k,hjk,hk,e1,e2⟩:=PE i hi
  have h3:tl (aq g p) i=hd (aq g p) i:=by simpa [tl,hd,List.getD_eq_getElem?_getD,List.getElem?_eq_getElem hi] using h2
  have:=mC hQ (by omega) hk (e1.symm.trans (h3.trans e2))
  omega
 have Fh:¬0≤dF (aq g p):=fun ht=>by
  obtain ⟨i,k,hi,hk,hik,e⟩:=(iB _).1 ht
  have hgt:¬0≤dF g:=by
   have:=hr.1
   unfold bN fe at this
   intro h2
   split at this
   ·cases this
   split at this
   ·cases this
   cases this
  have hel:(aq g p).es.length=g.es.length+(bh g p).length:=List.length_append
  have mixed:∀a b,a<g.es.length→b<(bh g p).length→g.es.getD a (0,0)≠(bh g p).getD b (0,0):=fun a b ha hb e=>by
   obtain ⟨q0,q1⟩:=Af _ (aL (d:=(0,0)) hb)
   have hz:=(lQ hr.2.1 q0.1 q0.2).2 q1
   have:(a:Int)∈cm g ((bh g p).getD b (0,0)).1:=FE.2 ⟨⟨by omega,by omega⟩,by rw [Int.toNat_natCast,e]⟩
   rw [hz] at this
   cases this
  by_cases h1:i<g.es.length
  ·by_cases h2:k<g.es.length
   ·rw [uv i h1,uv k h2] at e
    exact hgt ((iB g).2 ⟨i,k,h1,h2,hik,e⟩)
   ·obtain ⟨b,rfl⟩:∃b,k=g.es.length+b:=⟨k - g.es.length,by omega⟩
    rw [uv i h1,oW] at e
    exact mixed i b h1 (by omega) e
  ·obtain ⟨a,rfl⟩:∃a,i=g.es.length+a:=⟨i - g.es.length,by omega⟩
   by_cases h2:k<g.es.length
   ·rw [uv k h2,oW] at e
    exact mixed k a h2 (by omega) e.symm
   ·obtain ⟨b,rfl⟩:∃b,k=g.es.length+b:=⟨k - g.es.length,by omega⟩
    rw [oW,oW] at e
    have e1:∀q,q<(bh g p).length→((bh g p).map (·.1)).getD q 0=((bh g p).getD q (0,0)).1:=fun q hq=>by
     simp [List.getD_eq_getElem?_getD,List.getElem?_eq_getElem hq]
    have:=iQ sy (i:=a) (j:=b) (by simp;omega) (by simp;omega) (by rw [e1 a (by omega),e1 b (by omega),e])
    omega
 have FT:¬1<(bC (·.2) (aq g p)).length:=fun hb=>by
  obtain ⟨s,hs⟩:∃s,∀y∈bC (·.2) (aq g p),y=s:=by
   refine ⟨aG p 0,fun y hy=> ?_⟩
   obtain ⟨⟨y0,y1⟩,y2⟩:=mB.1 hy
   rw [uz] at y2
   have yn:y<g.n:=by
    refine Decidable.byContradiction fun Jq=> ?_
    have hl:1<(aW g p).length:=Decidable.byContradiction fun hl=>by
     have hG:(aq g p).n=g.n:=if_neg hl
     omega
    have e:y=g.n:=by have hG:(aq g p).n=g.n+1:=if_pos hl;omega
    have w4:=(qd hr).2
    have:(aG p (g.n.toNat - 1),y)∈(bh g p).filter fun e=>decide (e.2=y):=List.mem_filter.2 ⟨List.mem_append_right _ (by
     unfold newL
     rw [if_pos hl]
     exact List.mem_map.2 ⟨_,w4,by rw [e]⟩),by simp⟩
    have:=List.length_pos_of_mem this
    omega
   have h0:=bF hr.2.1 (k:=0) (by omega)
   refine kN hr.1 ⟨y0,yn⟩ h0 (by omega) ?_
   refine Decidable.byContradiction fun hnz=> ?_
   obtain ⟨A,X,C,hrw,_,_,hX,_⟩:=bS hm (oL g).tofH (hr.2.2 0 (by omega)) hnz
   obtain ⟨q,X0,e1,_⟩:=hX.fst
   rw [e1] at hrw
   simp at hrw
  have:=xT dR hs
  omega
 unfold bN fe
 rw [if_neg (by simp [vR]),if_neg FR,if_neg Fh,if_neg (by rw [xR vR FQ];simp),if_neg FT]
theorem lS (h:mS g p):aY (aq g p) (bG g p):=⟨zB h,oX h.run,B2 h⟩
theorem FU (h:mS g p):nI (aq g p)=true:=by
 have hr:=h.run
 have hm:=an hr.1
 have hn:=aB hm
 have hna:=jX (g:=g) (p:=p)
 obtain ⟨sy,Af⟩:=fJ hr
 unfold nI
 rw [decide_eq_true (zB h),Bool.true_and,decide_eq_true_eq]
 obtain ⟨GA,CX⟩:=jV hm hr.2.1 (k:=g.n.toNat) (Nat.le_refl _) hr.2.2
 have key:∀y,0≤y∧y<g.n→cm (aq g p) y= []→¬1<(aW g p).length∧y∈loose (aW g p):=fun y hy hz=>by
  have hs:b8 p y= []:=by
   refine Decidable.byContradiction fun hs=> ?_
   rw [uw hr hy hs] at hz
   exact hs ((lQ hr.2.1 hy.1 hy.2).1 hz)
  obtain ⟨s1,_⟩:=qc hr hy hs
  have hno:∀x,(y,x)∉bh g p:=fun x hx=>by
   obtain ⟨j,_,h2,_⟩:=s1 x hx
   rw [hz] at h2;cases h2
  obtain ⟨k,hk,e⟩:=gy hr.2.1 hy.1 hy.2
  obtain ⟨hi,_,_⟩:=bT hm hr.2.1 (k:=k) (by omega) fun j hj=>hr.2.2 j (by omega)
  obtain ⟨A,X,C,hrw,_,_,_,hs'⟩:=eO hm hi.tofH (hr.2.2 k hk)
  have hin:y∈loose (fK g p (k+1)).row:=by
   have hrow:(fK g p (k+1)).row=A++aO g (aG p k) (b8 p (aG p k))++C:=by show (aC _ _ _ _).2.row=_;rw [hs']
   rw [hrow,e,hs,bL,bL]
   simp [aO,loose]
  rcases B1 hr (K:=g.n.toNat) (by omega) (Nat.le_refl _) hin with ⟨i,h1,h2⟩|h2
  ·exact absurd (List.mem_append_left _ (oU h1 h2)) (hno _)
  ·refine ⟨fun hl=>hno g.n (List.mem_append_right _ ?_),h2⟩
   unfold newL
   rw [if_pos hl]
   exact List.mem_map.2 ⟨_,h2,rfl⟩
 have Ta:(bC (·.1) (aq g p)).length≤1:=by
  by_cases hl:1<(aW g p).length
  ·refine xT (s:=g.n) dR fun y hy=> ?_
   obtain ⟨hy1,hy2⟩:=iC.1 hy
   refine Decidable.byContradiction fun hne=> ?_
   have hG:(aq g p).n=g.n+1:=if_pos hl
   exact (key y ⟨hy1.1,by omega⟩ hy2).1 hl
  ·refine xT (s:=aG p (g.n.toNat - 1)) dR fun y hy=> ?_
   obtain ⟨hy1,hy2⟩:=iC.1 hy
   have hG:(aq g p).n=g.n:=if_neg hl
   exact FO hr hl (key y ⟨hy1.1,by omega⟩ hy2).2
 have Tb:0<(bC (·.1) (aq g p)).length:=by
  by_cases hl:1<(aW g p).length
  ·have hG:(aq g p).n=g.n+1:=if_pos hl
   exact List.length_pos_of_mem (iC.2 ⟨⟨by omega,by omega⟩,(rO hr hl).2⟩:g.n∈bC (·.1) (aq g p))
  ·have hw:=bF hr.2.1 (k:=g.n.toNat - 1) (by omega)
   obtain ⟨h1,h2⟩:=qd hr
   refine List.length_pos_of_mem (iC.2 ⟨⟨hw.1,by omega⟩,(qc hr hw h1).2 fun e he h3=> ?_⟩:aG p (g.n.toNat - 1)∈bC (·.1) (aq g p))
   rcases uu (v:=e.1) (x:=e.2) he with ⟨i,h4,_,h5⟩|⟨h4,_⟩
   ·exact (List.nodup_append.1 GA).2.2 e.1 (List.mem_map.2 ⟨_,oU h4 h5,rfl⟩) _ h2 h3
   ·exact hl h4
 omega
end Go.Ab
end
section
namespace Go.Ab
open Go.Proofs
set_option maxRecDepth 10000
def fA (l:List It):List It:=l.filter fun t=>decide (0≤t.1)
theorem mE {a b:List It} :fA (a++b)=fA a++fA b:=by simp [fA]
theorem dX {l:List It} {t:It} :t∈fA l↔t∈l∧0≤t.1:=by simp [fA]
theorem rR {x:Int} {l:List It} (h:fz x l):fz x (fA l):=fun t ht=>h t (dX.1 ht).1
def u9 (x:Int) (l:List It):Prop:=∀t∈l,t.2.2=x
theorem qe {g:Gr} {x:Int} {o:List Int} (ho:∀i∈o,0≤i):fA (aO g x o)=o.map (fR g x):=by
 unfold aO
 split
 ·rename_i h;subst h;rfl
 ·refine List.filter_eq_self.2 fun t ht=> ?_
  obtain ⟨i,hi,rfl⟩:=List.mem_map.1 ht
  exact decide_eq_true (ho i hi)
theorem vS {x:Int} :∀ {X Y c d:List It},u9 x X→u9 x Y→fz x c→fz x d→X++c=Y++d→X=Y∧c=d
 | [], [],c,d,_,_,_,_,e=>⟨rfl,e⟩
 | [],u::Y,c,d,_,hY,hc,_,e=>by
   simp only [List.nil_append] at e
   exact absurd (hY u (by simp)) (hc u (by rw [e];simp))
 |t::X, [],c,d,hX,_,_,hd,e=>by
  simp only [List.nil_append] at e
  exact absurd (hX t (by simp)) (hd t (by rw [← e];simp))
 |t::X,u::Y,c,d,hX,hY,hc,hd,e=>by
  simp only [List.cons_append,List.cons.injEq] at e
  obtain ⟨e1,e2⟩:=vS (fun s hs=>hX s (by simp [hs])) (fun s hs=>hY s (by simp [hs])) hc hd e.2
  exact ⟨by rw [e.1,e1],e2⟩
theorem zC {x:Int} :∀ {a b X Y c d:List It},fz x a→fz x b→u9 x X→u9 x Y→fz x c→fz x d→X≠ []→Y≠ []→a++X++c=b++Y++d→a=b∧X=Y∧c=d
 |t::a, [],X,u::Y,c,d,ha,_,_,hY,_,_,_,_,e=>by
  simp only [List.cons_append,List.nil_append,List.cons.injEq] at e
  exact absurd (by rw [e.1];exact hY u (by simp)) (ha t (by simp))
 | [],t::b,u::X,Y,c,d,_,hb,hX,_,_,_,_,_,e=>by
   simp only [List.cons_append,List.nil_append,List.cons.injEq] at e
   exact absurd (by rw [← e.1];exact hX u (by simp)) (hb t (by simp))
 |t::a,u::b,X,Y,c,d,ha,hb,hX,hY,hc,hd,nX,nY,e=>by
  simp only [List.cons_append,List.cons.injEq] at e
  obtain ⟨e1,e2,e3⟩:=zC (fun s hs=>ha s (by simp [hs])) (fun s hs=>hb s (by simp [hs])) hX hY hc hd nX nY e.2
  exact ⟨by rw [e.1,e1],e2,e3⟩
 | [], [],X,Y,c,d,_,_,hX,hY,hc,hd,_,_,e=>by
   refine ⟨rfl, ?_⟩
   simp only [List.nil_append] at e
   exact vS hX hY hc hd e
 | [],_::_, [],_,_,_,_,_,_,_,_,_,h,_,_=>absurd rfl h
 |_::_, [],_, [],_,_,_,_,_,_,_,_,_,h,_=>absurd rfl h
theorem zD {g:Gr} (hm:aH g=true) {f:Fr} (hi:fH g f) {x:Int} (hR:az g f x=true) (hn:bf g x≠0):
 ∃a X c,fA f.row=a++X++c∧fz x a∧fz x c∧u9 x X∧X.length=bf g x∧∀o,fA (aC g f x o).2.row=a++fA (aO g x o)++c:=by
 obtain ⟨A,X,C,hr,hA,hC,hX,cX⟩:=bS hm hi hR hn
 have hx:=(aE hR).1
 have hmem:∀t∈X,t∈f.row:=fun t ht=>by rw [hr];simp [ht]
 have hiff:∀t∈X,(0≤t.1↔t.2.2=x):=fun t ht=>by
  have h1:=(hi.it t (hmem t ht)).head hm
  have h2:=hX.al t ht
  omega
 refine ⟨fA A,fA X,fA C,by rw [hr,mE,mE],rR hA,rR hC,fun t ht=> ?_, ?_,fun o=> ?_⟩
 ·obtain ⟨h1,h2⟩:=dX.1 ht
  exact (hiff t h1).1 h2
 ·rw [← cX,fA, ← List.countP_eq_length_filter]
  refine List.countP_congr fun t ht=> ?_
  simp only [jb,decide_eq_true_eq]
  exact hiff t ht
 ·rw [fI o hr hA hC hX]
  simp only [mE]
theorem B3 {g:Gr} (hm:aH g=true) {f:Fr} (hi:fH g f) {x:Int} (hR:az g f x=true) (hn:bf g x≠0) {a X c:List It} (e:fA f.row=a++X++c) (ha:fz x a) (hc:fz x c) (hX:u9 x X) (nX:X≠ []) (o:List Int):
 fA (aC g f x o).2.row=a++fA (aO g x o)++c:=by
 obtain ⟨b,Y,d,e',hb,hd,hY,lY,hs⟩:=zD hm hi hR hn
 have nY:Y≠ []:=fun h=>hn (by rw [← lY,h];rfl)
 obtain ⟨e1,_,e3⟩:=zC hb ha hY hX hd hc nY nX (e'.symm.trans e)
 rw [hs o,e1,e3]
theorem zE {g:Gr} (hm:aH g=true) {f:Fr} (hi:fH g f) {x:Int} (h0:0≤x) (h1:x<g.n) (hp:x∉f.pl) {a X c:List It} (e:fA f.row=a++X++c) (ha:fz x a) (hc:fz x c) (hX:u9 x X) (nX:X≠ []) (hl:X.length=bf g x):az g f x=true:=by
 have hmem:∀j,j<f.row.length→Dd g (f.row.getD j (0,0,0)):=fun j hj=>hi.it _ (aL hj)
 have uZ:f.row.countP (jb x)=X.length:=by
  have h2:f.row.countP (jb x)=(fA f.row).countP (jb x):=by
   rw [fA,List.countP_filter]
   refine List.countP_congr fun t ht=> ?_
   have:=(hi.it t ht).head hm
   simp only [jb,Bool.and_eq_true,decide_eq_true_eq]
   omega
  have c1:a.countP (jb x)=0:=List.countP_eq_zero.2 fun t ht=>by simp [jb,ha t ht]
  have c2:c.countP (jb x)=0:=List.countP_eq_zero.2 fun t ht=>by simp [jb,hc t ht]
  have c3:X.countP (jb x)=X.length:=List.countP_eq_length.2 fun t ht=>by simp [jb,hX t ht]
  rw [h2,e,List.countP_append,List.countP_append,c1,c2,c3]
  omega
 rw [← jR hm hi,eL,if_neg (by rintro (h|h|h);omega;omega;exact hp h),gm h0 h1,Bool.and_eq_true,decide_eq_true_eq]
 have hN:(aK (fun e=>e.2) g.es g.es.length x).length=bf g x:=rfl
 rw [hN]
 refine ⟨?_, ?_⟩
 ·unfold bn
  rw [jP,kL (Nat.le_refl _),List.take_length,uZ,hl]
 ·rw [Bool.or_eq_true];right
  rcases eu (row:=f.row) (x:=x) f.row.length with ⟨hs,hno⟩|⟨p,q,n,hs,hab,qZ,hc0,hcl,hpx,OH,hlo,hhi⟩
  ·have hs':bn f.row x=(-1,0,0):=hs
   rw [hs'];simp [qB]
  ·have hs':bn f.row x=((p:Int),(q:Int),(n:Int)):=hs
   rw [hs']
   simp only [Int.toNat_natCast,qB,Bool.not_eq_true']
   rw [← Bool.not_eq_true,vH qZ]
   rintro ⟨j,h2,h3,h4⟩
   simp only [kJ,Bool.and_eq_true,decide_eq_true_eq] at h4
   have hja:p<j:=by
    refine Nat.lt_of_le_of_ne h2 fun e=> ?_
    subst e;exact h4.1 hpx
   have hjb:j<q - 1:=by
    refine Nat.lt_of_le_of_ne (by omega) fun e=> ?_
    subst e;exact h4.1 OH
   have hsub:=((tZ (i:=j+1) (j:=q - 1) (tZ (i:=p+1) (j:=j) (tZ (i:=0) (j:=p) (List.nil_sublist _) (by omega) (by omega)) (by omega) (by omega)) (by omega) (by omega)).trans (List.take_sublist _ f.row)).filter fun t=>decide (0≤t.1)
   have hp1:=(hmem p (by omega)).head hm
   have PF:=(hmem j (by omega)).head hm
   have hq1:=(hmem (q - 1) (by omega)).head hm
   generalize f.row.getD p (0,0,0)=s1 at hsub hp1 hpx
   generalize f.row.getD j (0,0,0)=s2 at hsub PF h4
   generalize f.row.getD (q - 1) (0,0,0)=s3 at hsub hq1 OH
   have hf:([]++ [s1]++ [s2]++ [s3]).filter (fun t=>decide (0≤t.1))= [s1,s2,s3]:=List.filter_eq_self.2 fun t ht=>by
    simp only [List.nil_append,List.cons_append,List.mem_cons,List.not_mem_nil,or_false] at ht
    rcases ht with rfl|rfl|rfl
    ·exact decide_eq_true (hp1.1.2 (by omega))
    ·exact decide_eq_true (PF.1.2 h4.2)
    ·exact decide_eq_true (hq1.1.2 (by omega))
   rw [hf] at hsub
   have hsub: [s1,s2,s3].Sublist (a++(X++c)):=by rw [← List.append_assoc, ← e];exact hsub
   rw [List.sublist_append_iff] at hsub
   obtain ⟨l1,l',el,k1,k'⟩:=hsub
   rw [List.sublist_append_iff] at k'
   obtain ⟨l2,l3,rfl,k2,k3⟩:=k'
   match l1,el,k1 with
   |t::l1,el,k1=>
    simp only [List.cons_append,List.cons.injEq] at el
    exact ha t (k1.subset (by simp)) (by rw [← el.1];exact hpx)
   | [],el,_=>
     match l2,el,k2 with
     | [],el,_=>
       simp only [List.nil_append] at el
       exact hc s1 (k3.subset (by rw [← el];simp)) hpx
     | [t],el,_=>
       simp only [List.nil_append,List.cons_append,List.cons.injEq] at el
       exact hc s3 (k3.subset (by rw [← el.2];simp)) OH
     |t::u::l2,el,k2=>
      simp only [List.nil_append,List.cons_append,List.cons.injEq] at el
      exact h4.1 (by rw [el.2.1];exact hX u (k2.subset (by simp)))
end Go.Ab
end
section
namespace Go.Ab
open Go.Proofs
set_option maxRecDepth 10000
def LZ (gone:List Int) (i:Nat):Bool:= !decide ((i:Int)∈gone)
def JW (gone:List Int) (k:Nat):List Nat:=(List.range k).filter (LZ gone)
def RG (gone:List Int) (k:Nat):Nat:=(JW gone k).length
def OI (gone:List Int) (es:List Edge) (k:Nat):List Edge:=(JW gone k).map fun i=>es.getD i (0,0)
def RH (g:Gr) (gone:List Int):Gr:=⟨g.n,OI gone g.es g.es.length⟩
def PG (gone:List Int) (i:Int):Int:=if i∈gone then -1 else (RG gone i.toNat:Int)
def OJ (gone:List Int) (l:List Int):List Int:=(l.filter fun i=>decide (i∉gone)).map (PG gone)
def RI (p:Pl) (gone:List Int):Pl:=⟨p.ord,p.outs.map (OJ gone)⟩
variable {g:Gr} {p:Pl} {gone:List Int}
def RJ (gone:List Int) (t:It):It:=(PG gone t.1,t.2.1,t.2.2)
def RM (gone:List Int) (l:List It):List It:=(l.filter fun t=>decide (t.1∉gone)).map (RJ gone)
theorem Dn (hr:aY g p):bf g (aG p 0)=0:=by
 have hm:=an hr.1
 have hn:=aB hm
 refine Decidable.byContradiction fun hnz=> ?_
 obtain ⟨A,X,C,hrw,_,_,hX,_⟩:=bS hm (oL g).tofH (hr.2.2 0 (by omega)) hnz
 obtain ⟨q,X0,e1,_⟩:=hX.fst
 rw [e1] at hrw
 simp at hrw
end Go.Ab
end
section
namespace Go.Ab
open Go.Proofs
set_option maxRecDepth 10000
theorem B4 {g:Gr} (hm:aH g=true) {f:Fr} (hi:fH g f) {x:Int} (hR:az g f x=true) (hn:bf g x≠0) (o:List Int):
 ∃a c,fA f.row=a++fA (aC g f x o).1.1++c∧fz x a∧fz x c∧u9 x (fA (aC g f x o).1.1)∧(fA (aC g f x o).1.1).length=bf g x∧fA (aC g f x o).2.row=a++fA (aO g x o)++c:=by
 obtain ⟨A,X,C,hr,hA,hC,hX,hc⟩:=bS hm hi hR hn
 have hx:=(aE hR).1
 have hmem:∀t∈X,t∈f.row:=fun t ht=>by rw [hr];simp [ht]
 have hiff:∀t∈X,(0≤t.1↔t.2.2=x):=fun t ht=>by
  have h1:=(hi.it t (hmem t ht)).head hm
  have h2:=hX.al t ht
  constructor
  ·intro h;rcases h2 with h2|h2
   ·exact h2
   ·exact absurd h2 (h1.1.1 h)
  ·intro h;exact h1.1.2 (by omega)
 rw [fI o hr hA hC hX]
 refine ⟨fA A,fA C,by rw [hr,mE,mE],rR hA,rR hC,fun t ht=> ?_, ?_,by simp only [mE]⟩
 ·obtain ⟨h1,h2⟩:=dX.1 ht
  exact (hiff t h1).1 h2
 ·rw [← hc,fA, ← List.countP_eq_length_filter]
  refine List.countP_congr fun t ht=> ?_
  simp only [jb,decide_eq_true_eq]
  exact hiff t ht
def mK (g:Gr) (p:Pl) (x:Int):List Int:=(fA ((fO g p g.n.toNat).getD x.toNat [])).map (·.1)
def oY (g:Gr) (p:Pl) (f:Fr) (x:Int):List Int:=(fA (aC g f x (b8 p x)).1.1).map (·.1)
def uA (g:Gr) (p:Pl):Nat→Fr→Prop
 |0,f=>(f.pl.length:Int)=g.n
 |m+1,f=>∃x,az g f x=true∧oY g p f x=mK g p x∧uA g p m (qE g p f x)
theorem uB {g:Gr} {p:Pl} :∀ {m:Nat} {f f':Fr},f.row=f'.row→f.pl.Perm f'.pl→uA g p m f→uA g p m f'
 |0,f,f',_,hp,h=>by
  have h:(f.pl.length:Int)=g.n:=h
  show (f'.pl.length:Int)=g.n
  rw [← hp.length_eq];exact h
 |m+1,f,f',hr,hp,⟨x,h1,h3,h2⟩=>by
  refine ⟨x,by rw [← qD hr hp];exact h1, ?_,uB ?_ ?_ h2⟩
  ·simp only [oY,aC,hr] at h3 ⊢;exact h3
  ·simp only [qE,aC,hr]
  ·exact hp.append_right _
theorem vU {g:Gr} (hc:(bN g).1=0) {p:Pl} (hp:bk g p):∀ {m:Nat} {f:Fr},xM g f→(f.pl.length:Int)+(m+1:Nat)=g.n→uA g p (m+1) f→∀ {x:Int},az g f x=true→oY g p f x=mK g p x∧uA g p m (qE g p f x)
 |m,f,hi,hl,⟨y,qP,MM,hcan⟩,x,hR=>by
  have hm:=an hc
  by_cases hxy:x=y
  ·subst hxy;exact ⟨MM,hcan⟩
  have py:=bJ hp (aE qP).1 (aE qP).2.1
  have px:=bJ hp (aE hR).1 (aE hR).2.1
  have i2:=gH hm hi qP py
  match m,hl,hcan with
  |0,hl,hcan=>
   exfalso
   have h1:=jT i2.tofH (by show ((f.pl++ [y]).length:Int)=g.n;simp;omega) (x:=x) ⟨(aE hR).1,(aE hR).2.1⟩
   have h2:x∈f.pl++ [y]:=h1
   simp [(aE hR).2.2,hxy] at h2
  |m+1,hl,hcan=>
   obtain ⟨h4,h5,h6,h7,h8⟩:=vJ hc hi hxy hR qP px py
   obtain ⟨h9,h3⟩:=vU hc hp i2 (by show (((f.pl++ [y]).length:Nat):Int)+_=_;simp;omega) hcan h5
   refine ⟨?_,y,h4, ?_,uB h6.symm ?_ h3⟩
   ·unfold oY at h9 ⊢;rw [h7];exact h9
   ·unfold oY at MM ⊢;rw [h8] at MM;exact MM
   show (f.pl++ [y]++ [x]).Perm (f.pl++ [x]++ [y])
   rw [List.append_assoc,List.append_assoc]
   exact List.Perm.append_left _ (List.Perm.swap ..)
theorem B5 {g:Gr} (hc:(bN g).1=0) {p:Pl} (hp:bk g p):∀ {m:Nat} {f:Fr},xM g f→uA g p m f→∀ {i:Nat},i<g.es.length→tl g i∈f.pl→hd g i∉f.pl→∃t∈f.row,t.1=(i:Int)
 |0,f,hi,h,i,hil,_,hh=>by
  have hr:=aZ (an hc) hil
  exact absurd (jT hi.tofH h (x:=hd g i) hr) hh
 |m+1,f,hi,⟨x,hR,_,h⟩,i,hil,ht,hh=>by
  have hm:=an hc
  have px:=bJ hp (aE hR).1 (aE hR).2.1
  by_cases hx:hd g i=x
  ·obtain ⟨t,h1,h2,_⟩:=tY hm hi hR hil hx
   exact ⟨t,h1,h2⟩
  ·obtain ⟨t,h1,h2⟩:=B5 hc hp (gH hm hi hR px) h hil (List.mem_append.2 (.inl ht)) (fun h1=>by
    rcases List.mem_append.1 h1 with h1|h1
    ·exact hh h1
    ·exact hx (by simpa using h1))
   obtain ⟨A,X,C,hr,_,_,_,hs⟩:=eO hm hi.tofH hR
   rw [hs] at h1
   simp only [List.mem_append] at h1
   rcases h1 with (h1|h1)|h1
   ·exact ⟨t,by rw [hr];simp [h1],h2⟩
   ·rcases jS (fun i hi=>px.mem_iff.1 hi) h1 with ⟨h3,_⟩|⟨k,h3,h4,h5,_,h6,_⟩
    ·omega
    ·have:k=i:=by omega
     subst this
     exact absurd (h6 ▸ ht) (aE hR).2.2
   ·exact ⟨t,by rw [hr];simp [h1],h2⟩
def ew (g:Gr) (e:Int):Int:=(g.es.getD e.toNat (0,0)).1
def dY (g:Gr) (e:Int):Int:=(g.es.getD e.toNat (0,0)).2
def GD (g:Gr) (x:Int):Prop:=0≤x∧x<g.n
instance {g:Gr} {x:Int} :Decidable (GD g x):=inferInstanceAs (Decidable (0≤x∧x<g.n))
def uC (g:Gr) (p:Pl) (k:Nat) (W D:List Int):Prop:=∃f,xM g f∧f.pl=D∧W=(fA f.row).map (·.1)∧uA g p k f∧(D.length:Int)+k=g.n∧aG p 0∈D
def OK (g:Gr) (p:Pl) (x:Int):Nat:=((Ad g.n.toNat p.ord p.ord.length).getD x.toNat 0).toNat
def zF (g:Gr) (p:Pl):PS:=
 {m:=g.es.length,src:=aG p 0,LB:=aG p (g.n.toNat - 1),tl:=ew g,hd:=dY g,ins:=fun x=>if GD g x then mK g p x else [],outs:=fun x=>if GD g x then b8 p x else [],Oe:=OK g p,Row:=uC g p,k0:=g.n.toNat - 1}
theorem A3 {g:Gr} {p:Pl} {x:Int} (h:GD g x):(zF g p).ins x=mK g p x:=if_pos h
theorem HE {g:Gr} {p:Pl} {x:Int} (h:¬GD g x):(zF g p).ins x= []:=if_neg h
theorem HF {g:Gr} {p:Pl} {x:Int} (h:GD g x):(zF g p).outs x=b8 p x:=if_pos h
theorem bA {f:Edge→Int} {es:List Edge} {x e:Int} :e∈aK f es es.length x↔(0≤e∧e<es.length)∧f (es.getD e.toNat (0,0))=x:=by
 refine ⟨iz,fun ⟨h1,h2⟩=> ?_⟩
 simp only [aK,List.mem_map,List.mem_filter,List.mem_range,decide_eq_true_eq]
 exact ⟨e.toNat,⟨by omega,h2⟩,by simp;omega⟩
section
variable {g:Gr} {p:Pl}
theorem xU (hm:aH g=true) {f:Fr} (hi:fH g f) {t:It} (ht:t∈fA f.row):(0≤t.1∧t.1<g.es.length)∧t.2.1=ew g t.1∧t.2.2=dY g t.1:=by
 obtain ⟨h1,h2⟩:=dX.1 ht
 rcases hi.it t h1 with h3|h3
 ·omega
 ·exact ⟨⟨h3.1,h3.2.1⟩,h3.2.2.1,h3.2.2.2⟩
theorem Iy {f:Fr} (hi:xM g f):((fA f.row).map (·.1)).Nodup:=by
 refine List.pairwise_map.2 ?_
 have:=hi.once.filter (fun t:It=>decide (0≤t.1))
 refine List.Pairwise.imp_of_mem (fun {s t} hs ht h1=>h1 (dX.1 hs).2) this
theorem HG (hm:aH g=true) {f:Fr} (hi:xM g f) {x:Int} (hR:az g f x=true):(oY g p f x).Nodup∧∀e,e∈oY g p f x↔(0≤e∧e<g.es.length)∧dY g e=x:=by
 by_cases hn:bf g x=0
 ·have hno:=gq hm hi.tofH (aE hR).1 hn
  have e0:oY g p f x= []:=by unfold oY;rw [gn _ hno];rfl
  rw [e0]
  refine ⟨List.nodup_nil,fun e=>⟨fun h=>by (cases h),fun ⟨h1,h2⟩=> ?_⟩⟩
  have:=bA.2 ⟨h1,h2⟩
  have h3:aK (·.2) g.es g.es.length x= []:=List.eq_nil_of_length_eq_zero hn
  rw [h3] at this;cases this
 ·obtain ⟨a,c,e1,ha,hc,hX,hl,_⟩:=B4 hm hi.tofH hR hn (b8 p x)
  have bZ:=Iy hi
  have hmem:∀t∈fA (aC g f x (b8 p x)).1.1,t∈fA f.row:=fun t ht=>by rw [e1];simp [ht]
  rw [e1,List.map_append,List.map_append,List.nodup_append] at bZ
  have MN:(oY g p f x).Nodup:=(List.nodup_append.1 bZ.1).2.1
  have hsub:∀e∈oY g p f x,e∈aK (·.2) g.es g.es.length x:=fun e he=>by
   obtain ⟨t,ht,rfl⟩:=List.mem_map.1 he
   obtain ⟨h1,_,h3⟩:=xU hm hi.tofH (hmem t ht)
   exact bA.2 ⟨h1,by rw [← hX t ht,h3];rfl⟩
  have hlen:(aK (·.2) g.es g.es.length x).length=(oY g p f x).length:=by
   unfold oY;rw [List.length_map,hl];rfl
  exact ⟨MN,fun e=>⟨fun he=>bA.1 (hsub e he),fun he=>AZ MN hsub hlen e (bA.2 he)⟩⟩
theorem HH (h:aY g p) {k:Nat} (hk:k<g.n.toNat):mK g p (aG p k)=oY g p (fK g p k) (aG p k):=by
 unfold mK
 rw [xN h.2.1 (Nat.le_refl _) hk];rfl
theorem zG (h:aY g p) {x:Int} (hx:GD g x):(mK g p x).Nodup∧∀e,e∈mK g p x↔(0≤e∧e<g.es.length)∧dY g e=x:=by
 obtain ⟨k,hk,rfl⟩:=gy h.2.1 hx.1 hx.2
 have hm:=an h.1
 obtain ⟨hi,_,_⟩:=bT hm h.2.1 (k:=k) (by omega) fun j hj=>h.2.2 j (by omega)
 rw [HH h hk]
 exact HG hm hi (h.2.2 k hk)
theorem zH (h:aY g p) {x:Int} (hx:GD g x):(mK g p x).length=bf g x:=by
 obtain ⟨h1,h2⟩:=zG h hx
 refine Nat.le_antisymm ?_ ?_
 ·exact mw h1 fun e he=>bA.2 ((h2 e).1 he)
 ·exact mw dQ fun e he=>(h2 e).2 (bA.1 he)
theorem uC.nd {k:Nat} {W D:List Int} (h:uC g p k W D):W.Nodup:=by
 obtain ⟨f,hi,_,rfl,_⟩:=h;exact Iy hi
theorem uC.mem (h:aY g p) {k:Nat} {W D:List Int} (hr:uC g p k W D) (e:Int):e∈W↔(0≤e∧e<g.es.length)∧ew g e∈D∧dY g e∉D:=by
 have hm:=an h.1
 obtain ⟨f,hi,rfl,rfl,hc,_⟩:=hr
 constructor
 ·intro he
  obtain ⟨t,ht,rfl⟩:=List.mem_map.1 he
  obtain ⟨h1,h2,h3⟩:=xU hm hi.tofH ht
  obtain ⟨h4,h5⟩:=dX.1 ht
  exact ⟨h1,h2 ▸ hi.tail t h4 h5,h3 ▸ hi.head t h4 h5⟩
 ·rintro ⟨h1,h2,h3⟩
  obtain ⟨t,h4,h5⟩:=B5 h.1 h.2.1 hi hc (i:=e.toNat) (by omega) h2 h3
  exact List.mem_map.2 ⟨t,dX.2 ⟨h4,by omega⟩,by omega⟩
theorem uC.next (h:aY g p) {k:Nat} {W D:List Int} (hr:uC g p (k+1) W D):∃x A C,W=A++(zF g p).ins x++C∧(zF g p).ins x≠ []:=by
 have hm:=an h.1
 obtain ⟨f,hi,rfl,rfl,⟨x,hR,hg,_⟩,_,hs⟩:=hr
 obtain ⟨x0,x1,x2⟩:=aE hR
 have hx:GD g x:=⟨x0,x1⟩
 have hn:bf g x≠0:=fun h0=>by
  have:=kN h.1 (x:=x) (y:=aG p 0) hx (hi.oK _ hs) h0 (Dn h)
  exact x2 (this ▸ hs)
 obtain ⟨a,c,e1,_,_,_,hl,_⟩:=B4 hm hi.tofH hR hn (b8 p x)
 refine ⟨x,a.map (·.1),c.map (·.1), ?_, ?_⟩
 ·rw [A3 hx, ← hg,e1,List.map_append,List.map_append];rfl
 ·rw [A3 hx]
  intro h0
  have:=zH h hx
  rw [h0] at this
  exact hn this.symm
theorem uC.step (h:aY g p) {k:Nat} {W D A C:List Int} {x:Int} (hr:uC g p k W D) (hW:W=A++(zF g p).ins x++C) (hI:(zF g p).ins x≠ []):∃k',k=k'+1∧uC g p k' (A++(zF g p).outs x++C) (D++ [x]):=by
 have hm:=an h.1
 have hx:GD g x:=Decidable.byContradiction fun h0=>hI (HE h0)
 have bZ:=hr.nd
 have hmem:=uC.mem h hr
 rw [A3 hx] at hW hI
 rw [HF hx]
 obtain ⟨i1,i2⟩:=zG h hx
 obtain ⟨e0,u0,Jn⟩:=xz hI
 have PI:x∉D:=by
  have h1:=(i2 e0).1 (by rw [Jn];simp)
  have h2:=(hmem e0).1 (by rw [hW,Jn];simp)
  rw [h1.2] at h2;exact h2.2.2
 obtain ⟨f,hi,rfl,RN,hc,hD,hs⟩:=hr
 rw [RN] at hW bZ
 obtain ⟨l1,c,e1,e2,e3⟩:=List.map_eq_append_iff.1 hW
 obtain ⟨a,X,e4,e5,e6⟩:=List.map_eq_append_iff.1 e2
 have hrow:fA f.row=a++X++c:=by rw [e1,e4]
 rw [hrow,List.map_append,List.map_append,e5,e6,e3] at bZ
 have hit:∀t∈a++X++c,(0≤t.1∧t.1<g.es.length)∧t.2.1=ew g t.1∧t.2.2=dY g t.1:=fun t ht=>xU hm hi.tofH (by rw [hrow];exact ht)
 have hX:u9 x X:=fun t ht=>by
  have h1:t.1∈mK g p x:=by rw [← e6];exact List.mem_map_of_mem ht
  rw [(hit t (by simp [ht])).2.2,((i2 _).1 h1).2]
 have hin:∀t∈a++X++c,t.2.2=x→t.1∈mK g p x:=fun t ht e=>by
  obtain ⟨h1,_,h3⟩:=hit t ht
  exact (i2 _).2 ⟨h1,by rw [← h3,e]⟩
 have ha:fz x a:=fun t ht e=>by
  have h1:=hin t (by simp [ht]) e
  have h2:t.1∈A:=by rw [← e5];exact List.mem_map_of_mem ht
  exact (List.nodup_append.1 (List.nodup_append.1 bZ).1).2.2 _ h2 _ h1 rfl
 have PJ:fz x c:=fun t ht e=>by
  have h1:=hin t (by simp [ht]) e
  have h2:t.1∈C:=by rw [← e3];exact List.mem_map_of_mem ht
  exact (List.nodup_append.1 bZ).2.2 _ (List.mem_append.2 (.inr h1)) _ h2 rfl
 have Oj:X.length=bf g x:=by rw [← zH h hx, ← e6,List.length_map]
 have nX:X≠ []:=fun h0=>hI (by rw [← e6,h0];rfl)
 have hR:=zE hm hi.tofH hx.1 hx.2 PI hrow ha PJ hX nX Oj
 have hn:bf g x≠0:=fun h0=>nX (List.eq_nil_of_length_eq_zero (Oj.trans h0))
 have px:=bJ h.2.1 hx.1 hx.2
 cases k with
 |zero=>exact absurd (jT hi.tofH (by omega) hx) PI
 |succ k=>
  refine ⟨k,rfl,qE g p f x,gH hm hi hR px,rfl, ?_,(vU h.1 h.2.1 hi (by omega) hc hR).2, ?_,List.mem_append.2 (.inl hs)⟩
  ·have:=B3 hm hi.tofH hR hn hrow ha PJ hX nX (b8 p x)
   show _=(fA (aC g f x (b8 p x)).2.row).map (·.1)
   rw [this,List.map_append,List.map_append,e5,e3,qe (fun i hi=>by
    have:=bA.1 (px.mem_iff.1 hi);exact this.1.1),List.map_map]
   have e7:((fun t:It=>t.1) ∘ fR g x)=id:=rfl
   rw [e7,List.map_id]
  ·show (((f.pl++ [x]).length:Nat):Int)+_=_
   rw [List.length_append,List.length_singleton];omega
end
end Go.Ab
end
section
namespace Go.Ab
open Go.Proofs
set_option maxRecDepth 10000
structure jY (g:Gr) (p:Pl) (k:Nat) (e:Int):Prop where
 e0:0≤e
 e1:e<g.es.length
 low:ew g e∈p.ord.take k
 top:dY g e∉p.ord.take k
structure FV (g:Gr) (p:Pl) (L:Nat→Int→Int→Prop):Prop where
 up:∀e:Int,0≤e→e<g.es.length→∀k,k<g.n.toNat→aG p k=dY g e→ew g e∈p.ord.take k
 RP:∀k,k<g.n.toNat→∀a b c:Int,jY g p k a→jY g p k b→jY g p k c→dY g a=aG p k→dY g c=aG p k→L k a b→L k b c→dY g b=aG p k
 keep:∀k,k<g.n.toNat→∀a b:Int,jY g p k a→jY g p k b→dY g a≠aG p k→dY g b≠aG p k→L k a b→L (k+1) a b
 left:∀k,k<g.n.toNat→∀a b c:Int,jY g p k a→jY g p k b→dY g a≠aG p k→dY g b=aG p k→c∈b8 p (aG p k)→L k a b→L (k+1) a c
 right:∀k,k<g.n.toNat→∀a b c:Int,jY g p k a→jY g p k b→dY g a≠aG p k→dY g b=aG p k→c∈b8 p (aG p k)→L k b a→L (k+1) c a
 outs:∀k,k<g.n.toNat→(b8 p (aG p k)).Pairwise (L (k+1))
theorem vV {α:Type} (P:α→Prop) [DecidablePred P]:∀l:List α,∃X v,l=X++v∧(∀t∈X,P t)∧(v= []∨∃b v',v=b::v'∧¬P b)
 | []=>⟨[], [],rfl,by simp, .inl rfl⟩
 |a::l=>by
  by_cases h:P a
  ·obtain ⟨X,v,e,h1,h2⟩:=vV P l
   exact ⟨a::X,v,by simp [e],fun t ht=>(List.mem_cons.1 ht).elim (fun e=>e ▸ h) (h1 t),h2⟩
  ·exact ⟨[],a::l,rfl,by simp, .inr ⟨a,l,rfl,h⟩⟩
theorem vW {α:Type} {P:α→Prop} [DecidablePred P] {R:α→α→Prop} :∀ {l:List α},l.Pairwise R→(∀a b c,a∈l→b∈l→c∈l→P a→P c→R a b→R b c→P b)→(∃a∈l,P a)→
 ∃u X v,l=u++X++v∧(∀t∈u,¬P t)∧(∀t∈X,P t)∧X≠ []∧∀t∈v,¬P t
 | [],_,_,⟨a,ha,_⟩=>by cases ha
 |t::l,hp,hb,hex=>by
  obtain ⟨hp1,hp2⟩:=List.pairwise_cons.1 hp
  by_cases h:P t
  ·obtain ⟨X,v,e,h1,h2⟩:=vV P l
   refine ⟨[],t::X,v,by simp [e],by simp,fun s hs=>(List.mem_cons.1 hs).elim (fun e=>e ▸ h) (h1 s),by simp,fun c hc PK=> ?_⟩
   rcases h2 with rfl|⟨b,v',rfl,hnb⟩
   ·cases hc
   ·have hb1:b∈l:=by rw [e];simp
    rcases List.mem_cons.1 hc with rfl|qL
    ·exact hnb PK
    ·have hbc:R b c:=by
      rw [e] at hp2
      have:=(List.pairwise_append.1 hp2).2.1
      exact (List.pairwise_cons.1 this).1 c qL
     exact hnb (hb t b c (by simp) (by simp [hb1]) (by rw [e];simp [qL]) h PK (hp1 b hb1) hbc)
  ·obtain ⟨a,ha,hPa⟩:=hex
   have LC:a∈l:=(List.mem_cons.1 ha).elim (fun e=>absurd (e ▸ hPa) h) id
   obtain ⟨u,X,v,e,h1,h2,h3,h4⟩:=vW hp2 (fun a b c ha hb' hc=>hb a b c (by simp [ha]) (by simp [hb']) (by simp [hc])) ⟨a,LC,hPa⟩
   exact ⟨t::u,X,v,by simp [e],fun s hs=>(List.mem_cons.1 hs).elim (fun e=>e ▸ h) (h1 s),h2,h3,h4⟩
theorem jZ {p:Pl} {k:Nat} {y:Int} (h:y∈p.ord.take k):∃j,j<k∧j<p.ord.length∧aG p j=y:=by
 obtain ⟨j,hj,e⟩:=List.mem_iff_getElem.1 h
 simp only [List.length_take] at hj
 refine ⟨j,by omega,by omega, ?_⟩
 rw [aG,List.getD_eq_getElem?_getD,List.getElem?_eq_getElem (by omega),Option.getD_some, ← e,List.getElem_take]
theorem vX {p:Pl} {k j:Nat} (h1:j<k) (h2:j<p.ord.length):aG p j∈p.ord.take k:=by
 rw [aG,List.getD_eq_getElem?_getD,List.getElem?_eq_getElem h2,Option.getD_some]
 exact List.mem_iff_getElem.2 ⟨j,by simp;omega,by simp⟩
theorem vY {g:Gr} {p:Pl} (hp:bk g p) {k:Nat} (hk:k<g.n.toNat):aG p k∉p.ord.take k:=fun h=>by
 obtain ⟨j,h1,h2,h3⟩:=jZ h
 have:=mC hp (i:=j) (j:=k) (by omega) hk h3
 omega
theorem gv {g:Gr} {p:Pl} (hp:bk g p) {k:Nat} (hk:k<g.n.toNat):p.ord.take (k+1)=p.ord.take k++ [aG p k]:=by
 rw [List.take_add_one,List.getElem?_eq_getElem (by rw [aS hp];exact hk),aG,List.getD_eq_getElem?_getD,List.getElem?_eq_getElem (by rw [aS hp];exact hk)]
 rfl
section
variable {g:Gr} {p:Pl}
theorem jq (hm:aH g=true) {f:Fr} (hi:xM g f) {k:Nat} (dn:f.pl=p.ord.take k) {t:It} (ht:t∈fA f.row):jY g p k t.1∧ew g t.1=t.2.1∧dY g t.1=t.2.2:=by
 obtain ⟨h1,h2⟩:=dX.1 ht
 rcases hi.it t h1 with h|⟨_,g2,g3,g4⟩
 ·omega
 ·refine ⟨⟨h2,g2, ?_, ?_⟩,g3.symm,g4.symm⟩
  ·rw [← dn];unfold ew;rw [← g3];exact hi.tail t h1 h2
  ·rw [← dn];unfold dY;rw [← g4];exact hi.head t h1 h2
theorem zI (hc:(bN g).1=0) (hp:bk g p) {L:Nat→Int→Int→Prop} (hL:FV g p L):∀ {k:Nat},k≤g.n.toNat→
 (∀j,j<k→qQ g p j=true)∧((fA (fK g p k).row).Pairwise fun s t=>L k s.1 t.1)∧∀e,jY g p k e→∃t∈(fK g p k).row,t.1=e
 |0,_=>⟨fun j hj=>by omega,by simp [fK,fA],fun e he=>by have:=he.low;simp at this⟩
 |k+1,hk=>by
  have hm:=an hc
  obtain ⟨ih1,ih2,ih3⟩:=zI hc hp hL (k:=k) (by omega)
  obtain ⟨hi,dn,_⟩:=bT hm hp (k:=k) (by omega) ih1
  obtain ⟨x0,x1⟩:=bF hp (k:=k) (by omega)
  have hnew:=vY hp (k:=k) (by omega)
  have hnext:=gv hp (k:=k) (by omega)
  have hpx:=bJ hp x0 x1
  have hout:∀i∈b8 p (aG p k),(0≤i∧i<g.es.length)∧ew g i=aG p k:=fun i hi=>bA.1 (hpx.mem_iff.1 hi)
  have Cu:=hL.outs k (by omega)
  have zJ:fK g p (k+1)=(aC g (fK g p k) (aG p k) (b8 p (aG p k))).2:=rfl
  have hab:=qe (g:=g) (x:=aG p k) (o:=b8 p (aG p k)) fun i hi=>(hout i hi).1.1
  have fin:∀a X c:List It,qQ g p k=true→fA (fK g p k).row=a++X++c→fz (aG p k) a→fz (aG p k) c→u9 (aG p k) X→(X≠ []∨a++c= [])→fA (fK g p (k+1)).row=a++fA (aO g (aG p k) (b8 p (aG p k)))++c→
   (∀j,j<k+1→qQ g p j=true)∧((fA (fK g p (k+1)).row).Pairwise fun s t=>L (k+1) s.1 t.1)∧∀e,jY g p (k+1) e→∃t∈(fK g p (k+1)).row,t.1=e:=by
   intro a X c hR e ha qL hX Dp hs
   refine ⟨fun j hj=> ?_, ?_,fun q hq=> ?_⟩
   ·by_cases h:j=k
    ·subst h;exact hR
    ·exact ih1 j (by omega)
   ·have hma:∀t∈a,t∈fA (fK g p k).row:=fun t ht=>by rw [e];simp [ht]
    have MO:∀t∈X,t∈fA (fK g p k).row:=fun t ht=>by rw [e];simp [ht]
    have Iw:∀t∈c,t∈fA (fK g p k).row:=fun t ht=>by rw [e];simp [ht]
    have B6:=fun t ht=>jq (p:=p) hm hi dn (t:=t) ht
    rw [e,List.pairwise_append,List.pairwise_append] at ih2
    obtain ⟨⟨pa,pX,RQ⟩,pc,L0⟩:=ih2
    have hne:∀t,t∈a∨t∈c→dY g t.1≠aG p k:=fun t ht=>by
     rcases ht with ht|ht
     ·rw [(B6 t (hma t ht)).2.2];exact ha t ht
     ·rw [(B6 t (Iw t ht)).2.2];exact qL t ht
    rw [hs,hab,List.pairwise_append,List.pairwise_append]
    refine ⟨⟨?_, ?_, ?_⟩, ?_, ?_⟩
    ·exact pa.imp_of_mem fun {s t} hs' ht' h=>hL.keep k (by omega) _ _ (B6 s (hma s hs')).1 (B6 t (hma t ht')).1 (hne s (.inl hs')) (hne t (.inl ht')) h
    ·rw [List.pairwise_map];exact Cu
    ·intro s hs' t ht'
     obtain ⟨i,hi',rfl⟩:=List.mem_map.1 ht'
     rcases Dp with Dp|h0
     ·obtain ⟨y,Y,rfl⟩:∃y Y,X=y::Y:=by
       cases X with
       |nil=>exact absurd rfl Dp
       |cons y Y=>exact ⟨y,Y,rfl⟩
      exact hL.left k (by omega) s.1 y.1 i (B6 s (hma s hs')).1 (B6 y (MO y (by simp))).1 (hne s (.inl hs')) (by rw [(B6 y (MO y (by simp))).2.2];exact hX y (by simp)) hi' (RQ s hs' y (by simp))
     ·rw [(List.append_eq_nil_iff.1 h0).1] at hs';cases hs'
    ·exact pc.imp_of_mem fun {s t} hs' ht' h=>hL.keep k (by omega) _ _ (B6 s (Iw s hs')).1 (B6 t (Iw t ht')).1 (hne s (.inr hs')) (hne t (.inr ht')) h
    ·intro s hs' t ht'
     rcases List.mem_append.1 hs' with hs1|hs1
     ·exact hL.keep k (by omega) _ _ (B6 s (hma s hs1)).1 (B6 t (Iw t ht')).1 (hne s (.inl hs1)) (hne t (.inr ht')) (L0 s (by simp [hs1]) t ht')
     ·obtain ⟨i,hi',rfl⟩:=List.mem_map.1 hs1
      rcases Dp with Dp|h0
      ·obtain ⟨y,Y,rfl⟩:∃y Y,X=y::Y:=by
        cases X with
        |nil=>exact absurd rfl Dp
        |cons y Y=>exact ⟨y,Y,rfl⟩
       exact hL.right k (by omega) t.1 y.1 i (B6 t (Iw t ht')).1 (B6 y (MO y (by simp))).1 (hne t (.inr ht')) (by rw [(B6 y (MO y (by simp))).2.2];exact hX y (by simp)) hi' (L0 y (by simp) t ht')
      ·rw [(List.append_eq_nil_iff.1 h0).2] at ht';cases ht'
   ·have Gx:∃t∈fA (fK g p (k+1)).row,t.1=q:=by
     have hl:=hq.low
     rw [hnext,List.mem_append,List.mem_singleton] at hl
     have ht:=hq.top
     rw [hnext,List.mem_append,List.mem_singleton] at ht
     rw [hs]
     rcases hl with hl|hl
     ·obtain ⟨t,ht1,ht2⟩:=ih3 q ⟨hq.e0,hq.e1,hl,fun h=>ht (.inl h)⟩
      have hte:t∈fA (fK g p k).row:=dX.2 ⟨ht1,by rw [ht2];exact hq.e0⟩
      have hh:=(jq (p:=p) hm hi dn hte).2.2
      have gR:=hte
      rw [e,List.mem_append,List.mem_append] at gR
      rcases gR with (h1|h1)|h1
      ·exact ⟨t,by simp [h1],ht2⟩
      ·exact absurd (by rw [← ht2,hh];exact hX t h1) fun h=>ht (.inr h)
      ·exact ⟨t,by simp [h1],ht2⟩
     ·refine ⟨fR g (aG p k) q, ?_,rfl⟩
      rw [hab,List.mem_append,List.mem_append]
      exact .inl (.inr (List.mem_map.2 ⟨q,hpx.mem_iff.2 (bA.2 ⟨⟨hq.e0,hq.e1⟩,hl⟩),rfl⟩))
    obtain ⟨t,h1,h2⟩:=Gx
    exact ⟨t,(dX.1 h1).1,h2⟩
  by_cases hn:bf g (aG p k)=0
  ·have hno:=gq hm hi.tofH x0 hn
   have hR:qQ g p k=true:=by
    show az g (fK g p k) (aG p k)=true
    unfold az
    rw [if_neg (by rintro (h|h|h);omega;omega;exact hnew (dn ▸ h)),if_pos hn]
   have hrow:(fK g p k).row= []:=by
    rcases hi.src with h|⟨s,hs,hs0⟩
    ·exact h.2
    ·have:=kN hc (hi.oK s hs) ⟨x0,x1⟩ hs0 hn
     exact absurd (by rw [← dn, ← this];exact hs) hnew
   refine fin [] [] [] hR (by rw [hrow];rfl) (fun t ht=>by cases ht) (fun t ht=>by cases ht) (fun t ht=>by cases ht) (.inr rfl) ?_
   rw [zJ,gn _ hno,hrow]
   simp
  ·have hex:∃e,e∈aK (·.2) g.es g.es.length (aG p k):=by
    cases h:aK (·.2) g.es g.es.length (aG p k) with
    |nil=>exact absurd (by unfold bf;rw [h];rfl) hn
    |cons e l=>exact ⟨e,by simp⟩
   have L3:∀e,e∈aK (·.2) g.es g.es.length (aG p k)→∃t∈fA (fK g p k).row,t.1=e∧t.2.2=aG p k:=fun e he=>by
    obtain ⟨⟨e0,e1⟩,e2⟩:=bA.1 he
    obtain ⟨t,ht1,ht2⟩:=ih3 e ⟨e0,e1,hL.up e e0 e1 k (by omega) e2.symm,by rw [show dY g e=aG p k from e2];exact hnew⟩
    have hte:t∈fA (fK g p k).row:=dX.2 ⟨ht1,by rw [ht2];exact e0⟩
    exact ⟨t,hte,ht2,by rw [← (jq (p:=p) hm hi dn hte).2.2,ht2];exact e2⟩
   obtain ⟨e,he⟩:=hex
   obtain ⟨t0,HI,_,OL⟩:=L3 e he
   obtain ⟨a,X,c,hE,ha,hX,nX,qL⟩:=vW (P:=fun t:It=>t.2.2=aG p k) ih2 (fun a b c ma mb mc ea ec r1 r2=>by
    have ca:=jq (p:=p) hm hi dn ma
    have cb:=jq (p:=p) hm hi dn mb
    have cc:=jq (p:=p) hm hi dn mc
    rw [← cb.2.2]
    exact hL.RP k (by omega) a.1 b.1 c.1 ca.1 cb.1 cc.1 (by rw [ca.2.2];exact ea) (by rw [cc.2.2];exact ec) r1 r2) ⟨t0,HI,OL⟩
   have hlen:X.length=bf g (aG p k):=by
    have bZ:((fA (fK g p k).row).map (·.1)).Nodup:=by
     rw [List.Nodup,List.pairwise_map]
     exact (hi.once.filter _).imp_of_mem fun {s t} hs ht h=>h (dX.1 hs).2
    have OM:(X.map (·.1)).Nodup:=by
     rw [hE,List.map_append,List.map_append] at bZ
     exact (List.nodup_append.1 (List.nodup_append.1 bZ).1).2.1
    have BT:(X.map (·.1)).Perm (aK (·.2) g.es g.es.length (aG p k)):=by
     refine (List.perm_ext_iff_of_nodup OM dQ).2 fun e=>⟨fun h=> ?_,fun h=> ?_⟩
     ·obtain ⟨t,ht,rfl⟩:=List.mem_map.1 h
      have hte:t∈fA (fK g p k).row:=by rw [hE];simp [ht]
      have ct:=jq (p:=p) hm hi dn hte
      exact bA.2 ⟨⟨ct.1.e0,ct.1.e1⟩,(show dY g t.1=_ by rw [ct.2.2];exact hX t ht)⟩
     ·obtain ⟨t,ht,h1,h2⟩:=L3 e h
      rw [hE,List.mem_append,List.mem_append] at ht
      rcases ht with (h3|h3)|h3
      ·exact absurd h2 (ha t h3)
      ·exact List.mem_map.2 ⟨t,h3,h1⟩
      ·exact absurd h2 (qL t h3)
    have:=BT.length_eq
    rw [List.length_map] at this
    exact this
   have hR:qQ g p k=true:=zE hm hi.tofH x0 x1 (by rw [dn];exact hnew) hE ha qL hX nX hlen
   exact fin a X c hR hE ha qL hX (.inl nX) (by rw [zJ];exact B3 hm hi.tofH hR hn hE ha qL hX nX _)
theorem Dq (hc:(bN g).1=0) (hp:bk g p) {L:Nat→Int→Int→Prop} (hL:FV g p L):aY g p:=
 ⟨hc,hp,fun k hk=>(zI hc hp hL (k:=k+1) (by omega)).1 k (by omega)⟩
end
end Go.Ab
end
section
namespace Go.Ab
open Go.Proofs
set_option maxRecDepth 10000
set_option linter.unusedSectionVars false
def B7 (lt:Int→Int→Bool) (us:List Int):Nat→Int
 |0=> -1
 |k+1=>if (!decide ((k:Int)∈us))&&(decide (B7 lt us k<0)||lt k (B7 lt us k)) then k else B7 lt us k
def L4 (lt:Int→Int→Bool) (n:Nat):Nat→List Int
 |0=> []
 |j+1=>L4 lt n j++ [B7 lt (L4 lt n j) n]
def RR (lt:Int→Int→Bool) (u v:Int):Prop:=lt u v=true∧lt v u=false
section
variable {lt:Int→Int→Bool} {n:Nat} {ord:List Int} (hp:ord.Perm (dP n)) (hs:ord.Pairwise (RR lt))
include hp hs
end
def Iz (sw:Int→Int→Bool):Int→List Int→Int × List Int
 |a, []=>(a, [])
 |a,c::r=>if sw a c then ((Iz sw c r).1,a::(Iz sw c r).2) else ((Iz sw a r).1,c::(Iz sw a r).2)
def PL (sw:Int→Int→Bool):Nat→List Int→List Int
 |0,l=>l
 |_+1, []=> []
 |n+1,a::r=>(Iz sw a r).1::PL sw n (Iz sw a r).2
section
variable {sw:Int→Int→Bool} {R:Int→Int→Prop} {S:Int→Prop} (htr:∀a b c,S a→S b→S c→R a b→R b c→R a c) (hsw:∀a c,S a→S c→a≠c→if sw a c=true then R c a else R a c)
include htr hsw
end
theorem Ds {R:Int→Int→Prop} {l m:List Int} (hp:l.Perm m) (ha:∀a b,R a b→R b a→False) (h1:l.Pairwise R) (h2:m.Pairwise R):l=m:=by
 induction l generalizing m with
 |nil=>exact hp.symm.eq_nil.symm
 |cons a l ih=>
  cases m with
  |nil=>exact absurd hp.length_eq (by simp)
  |cons b m=>
   obtain ⟨a1,a2⟩:=List.pairwise_cons.1 h1
   obtain ⟨b1,b2⟩:=List.pairwise_cons.1 h2
   have hab:a=b:=by
    refine Decidable.byContradiction fun hne=> ?_
    have ma:a∈b::m:=hp.mem_iff.1 (by simp)
    have mb:b∈a::l:=hp.mem_iff.2 (by simp)
    have ma:a∈m:=(List.mem_cons.1 ma).elim (fun e=>absurd e hne) id
    have mb:b∈l:=(List.mem_cons.1 mb).elim (fun e=>absurd e.symm hne) id
    exact ha a b (a1 b mb) (b1 a ma)
   subst hab
   rw [ih ((List.perm_cons a).1 hp) a2 b2]
def Tc (sw:Int→Int→Bool) (a:Int) (done todo:List Int):List Int:=(Iz sw a todo).1::PL sw (done.length+todo.length) (done++(Iz sw a todo).2)
end Go.Ab
end
section
namespace Go.Ab
open Go.Proofs
set_option maxRecDepth 10000
set_option linter.unusedSectionVars false
theorem fL:∀ {l:List Int} {i:Nat},l.Nodup→i<l.length→l.idxOf (l.getD i 0)=i
 | [],i,_,h=>by simp at h
 |a::l,0,_,_=>by simp
 |a::l,i+1,hn,h=>by
  obtain ⟨h1,h2⟩:=List.nodup_cons.1 hn
  have hi:i<l.length:=by simpa using h
  have e:(a::l).getD (i+1) 0=l.getD i 0:=rfl
  have hm:l.getD i 0∈l:=aL hi
  have hne:(a==l.getD i 0)=false:=by
   rw [beq_eq_false_iff_ne];intro e2;exact h1 (e2 ▸ hm)
  rw [e,List.idxOf_cons,hne,cond_false,fL h2 hi]
theorem qf {l:List Int} {u:Int} (h:u∈l):l.idxOf u<l.length∧l.getD (l.idxOf u) 0=u:=by
 have h1:=List.idxOf_lt_length_iff.2 h
 refine ⟨h1, ?_⟩
 rw [List.getD_eq_getElem?_getD,List.getElem?_eq_getElem h1,Option.getD_some]
 exact List.getElem_idxOf h1
theorem xV {A B:List Int} {u:Int} :(A++B).idxOf u=if u∈A then A.idxOf u else A.length+B.idxOf u:=by
 rw [List.idxOf_append];split<;>omega
section
variable {g:Gr} {p:Pl}
def uD (g:Gr) (p:Pl) (c:Nat):List Int:=(fA (fK g p c).row).map (·.1)
theorem jr (h:aY g p) {c:Nat} (hc:c≤g.n.toNat):(uD g p c).Nodup:=by
 obtain ⟨hi,_,_⟩:=bT (an h.1) h.2.1 hc fun j hj=>h.2.2 j (by omega)
 rw [uD,List.Nodup,List.pairwise_map]
 exact (hi.once.filter _).imp_of_mem fun {s t} hs ht h=>h (dX.1 hs).2
theorem iD (h:aY g p) {c:Nat} (hc:c<g.n.toNat):∃A X C,uD g p c=A++X++C∧(∀e∈A,dY g e≠aG p c)∧(∀e∈X,dY g e=aG p c)∧(∀e∈C,dY g e≠aG p c)∧uD g p (c+1)=A++b8 p (aG p c)++C:=by
 have hm:=an h.1
 obtain ⟨hi,dn,_⟩:=bT hm h.2.1 (k:=c) (by omega) fun j hj=>h.2.2 j (by omega)
 obtain ⟨x0,x1⟩:=bF h.2.1 hc
 have hR:az g (fK g p c) (aG p c)=true:=h.2.2 c hc
 have hpx:=bJ h.2.1 x0 x1
 have hab:=qe (g:=g) (x:=aG p c) (o:=b8 p (aG p c)) fun i hi=>(bA.1 (hpx.mem_iff.1 hi)).1.1
 have hmap:(fA (aO g (aG p c) (b8 p (aG p c)))).map (·.1)=b8 p (aG p c):=by
  rw [hab,List.map_map]
  have e7:((fun t:It=>t.1) ∘ fR g (aG p c))=id:=rfl
  rw [e7,List.map_id]
 have hd:∀t∈fA (fK g p c).row,dY g t.1=t.2.2:=fun t ht=>(jq (p:=p) hm hi dn ht).2.2
 have zJ:fK g p (c+1)=(aC g (fK g p c) (aG p c) (b8 p (aG p c))).2:=rfl
 by_cases hn:bf g (aG p c)=0
 ·have hno:=gq hm hi.tofH x0 hn
  have hrow:(fK g p c).row= []:=by
   rcases hi.src with h|⟨s,hs,hs0⟩
   ·exact h.2
   ·have:=kN h.1 (hi.oK s hs) ⟨x0,x1⟩ hs0 hn
    exact absurd (by rw [← dn, ← this];exact hs) (vY h.2.1 hc)
  refine ⟨[], [], [],by simp [uD,hrow,fA],by simp,by simp,by simp, ?_⟩
  rw [uD,zJ,gn _ hno,hrow]
  simpa using hmap
 ·obtain ⟨a,X,b,e,ha,hb,hX,_,hs⟩:=zD hm hi.tofH hR hn
  refine ⟨a.map (·.1),X.map (·.1),b.map (·.1),by rw [uD,e,List.map_append,List.map_append], ?_, ?_, ?_, ?_⟩
  ·intro q hq
   obtain ⟨t,ht,rfl⟩:=List.mem_map.1 hq
   rw [hd t (by rw [e];simp [ht])];exact ha t ht
  ·intro q hq
   obtain ⟨t,ht,rfl⟩:=List.mem_map.1 hq
   rw [hd t (by rw [e];simp [ht])];exact hX t ht
  ·intro q hq
   obtain ⟨t,ht,rfl⟩:=List.mem_map.1 hq
   rw [hd t (by rw [e];simp [ht])];exact hb t ht
  ·rw [uD,zJ,hs,List.map_append,List.map_append,hmap]
theorem zK (h:aY g p):∀ {c:Nat},c≤g.n.toNat→∀e,jY g p c e→e∈uD g p c
 |0,_,e,he=>by have:=he.low;simp at this
 |c+1,hc,e,he=>by
  obtain ⟨A,X,C,e1,hA,hX,hC,e2⟩:=iD h (c:=c) (by omega)
  have hnext:=gv h.2.1 (k:=c) (by omega)
  have hl:=he.low
  have ht:=he.top
  rw [hnext,List.mem_append,List.mem_singleton] at hl ht
  rw [e2]
  rcases hl with hl|hl
  ·have:=zK h (c:=c) (by omega) e ⟨he.e0,he.e1,hl,fun h=>ht (.inl h)⟩
   rw [e1,List.mem_append,List.mem_append] at this
   rcases this with (h1|h1)|h1
   ·simp [h1]
   ·exact absurd (hX e h1) fun h=>ht (.inr h)
   ·simp [h1]
  ·obtain ⟨x0,x1⟩:=bF h.2.1 (k:=c) (by omega)
   have:e∈b8 p (aG p c):=(bJ h.2.1 x0 x1).mem_iff.2 (bA.2 ⟨⟨he.e0,he.e1⟩,hl⟩)
   simp [this]
end
def qH (g:Gr) (bs:List Int) (i:Int):Int:=g.n+(bs.idxOf i:Nat)
def jc (g:Gr) (bs:List Int):List Edge:=
 ((List.range g.es.length).map fun i:Nat=>(tl g i,if (i:Int)∈bs then qH g bs i else hd g i))++(List.range bs.length).map fun k:Nat=>(g.n+(k:Int),dY g (bs.getD k 0))
def aD (g:Gr) (bs:List Int):Gr:=⟨g.n+bs.length,jc g bs⟩
structure uE (g:Gr) (bs:List Int):Prop where
 nd:bs.Nodup
 oK:∀i∈bs,0≤i∧i<g.es.length
section
variable {g:Gr} {bs:List Int}
theorem cl:(aD g bs).es.length=g.es.length+bs.length:=by simp [aD,jc]
theorem cF {e:Int} (h0:0≤e) (h1:e<g.es.length):ew (aD g bs) e=ew g e∧dY (aD g bs) e=if e∈bs then qH g bs e else dY g e:=by
 have hl:e.toNat<g.es.length:=by omega
 have:(aD g bs).es.getD e.toNat (0,0)=(tl g e.toNat,if ((e.toNat:Nat):Int)∈bs then qH g bs ((e.toNat:Nat):Int) else hd g e.toNat):=by
  simp only [aD,jc]
  rw [List.getD_eq_getElem?_getD,List.getElem?_append_left (by simpa using hl),List.getElem?_map,List.getElem?_range hl]
  rfl
 rw [show ((e.toNat:Nat):Int)=e by omega] at this
 exact ⟨by unfold ew;rw [this];rfl,by unfold dY;rw [this];rfl⟩
theorem gA {k:Nat} (h:k<bs.length):ew (aD g bs) ((g.es.length+k:Nat):Int)=g.n+(k:Int)∧dY (aD g bs) ((g.es.length+k:Nat):Int)=dY g (bs.getD k 0):=by
 have:(aD g bs).es.getD (g.es.length+k) (0,0)=(g.n+(k:Int),dY g (bs.getD k 0)):=by
  simp only [aD,jc]
  rw [List.getD_eq_getElem?_getD,List.getElem?_append_right (by simp),List.length_map,List.length_range,Nat.add_sub_cancel_left,List.getElem?_map,List.getElem?_range h]
  rfl
 exact ⟨by unfold ew;rw [Int.toNat_natCast,this],by unfold dY;rw [Int.toNat_natCast,this];rfl⟩
def A4 (g:Gr) (bs:List Int) (e:Int):Int:=if e<g.es.length then e else bs.getD (e - g.es.length).toNat 0
def pE (g:Gr) (bs:List Int) (u:Int):Int:=if u<g.n then u else ew g (bs.getD (u - g.n).toNat 0)
theorem cC (hb:uE g bs) {i:Int} (hi:i∈bs):g.n≤qH g bs i∧qH g bs i<g.n+bs.length∧pE g bs (qH g bs i)=ew g i∧bs.getD (qH g bs i - g.n).toNat 0=i:=by
 obtain ⟨h1,h2⟩:=qf hi
 have e:(qH g bs i - g.n).toNat=bs.idxOf i:=by unfold qH;omega
 refine ⟨by unfold qH;omega,by unfold qH;omega, ?_,by rw [e,h2]⟩
 unfold pE
 rw [if_neg (by unfold qH;omega),e,h2]
end
structure FW (g:Gr) (p:Pl) (bs:List Int) (q:Pl):Prop where
 len:q.outs.length=(g.n+bs.length).toNat
 IA:∀x:Nat,x<g.n.toNat→q.outs.getD x []=p.outs.getD x []
 FX:∀k:Nat,k<bs.length→q.outs.getD (g.n.toNat+k) []= [((g.es.length+k:Nat):Int)]
 perm:q.ord.Perm (dP (g.n+bs.length).toNat)
 sort:q.ord.Pairwise fun u v=>p.ord.idxOf (pE g bs u)<p.ord.idxOf (pE g bs v)∨pE g bs u=pE g bs v∧u<v
theorem qR {A B:List Int} {u:Int} (h:u∈A):(A++B).idxOf u=A.idxOf u∧A.idxOf u<A.length:=⟨by rw [xV,if_pos h],List.idxOf_lt_length_iff.2 h⟩
theorem gW {A B:List Int} {u:Int} (hn:(A++B).Nodup) (h:u∈B):(A++B).idxOf u=A.length+B.idxOf u∧B.idxOf u<B.length:=
 ⟨by rw [xV,if_neg fun ha=>(List.nodup_append.1 hn).2.2 u ha u h rfl],List.idxOf_lt_length_iff.2 h⟩
theorem xW {g:Gr} {p:Pl} (h:aY g p) {e:Int} (h0:0≤e) (h1:e<g.es.length):p.ord.idxOf (ew g e)<p.ord.idxOf (dY g e):=by
 have hm:=an h.1
 have bZ:=cB h.2.1
 have hl:=aS h.2.1
 obtain ⟨k,hk,ek⟩:=gy h.2.1 (aZ hm (i:=e.toNat) (by omega)).1 (aZ hm (i:=e.toNat) (by omega)).2
 obtain ⟨hi,dn,_⟩:=bT hm h.2.1 (k:=k) (by omega) fun j hj=>h.2.2 j (by omega)
 obtain ⟨t,ht,e1,e2,_⟩:=tY hm hi (h.2.2 k hk) (i:=e.toNat) (by omega) ek.symm
 have hin:=hi.tail t ht (by omega)
 rw [dn,e2] at hin
 obtain ⟨j,j1,j2,j3⟩:=jZ hin
 have a1:p.ord.idxOf (tl g e.toNat)=j:=by rw [← j3];exact fL bZ j2
 have a2:p.ord.idxOf (hd g e.toNat)=k:=by rw [← ek];exact fL bZ (by omega)
 show p.ord.idxOf (tl g e.toNat)<p.ord.idxOf (hd g e.toNat)
 omega
def J9 (g:Gr) (p:Pl) (bs:List Int) (u v:Int):Prop:=p.ord.idxOf (pE g bs u)<p.ord.idxOf (pE g bs v)∨pE g bs u=pE g bs v∧u<v
def fM (g:Gr) (q:Pl) (k:Nat):Nat:=((q.ord.take k).filter fun u=>decide (u<g.n)).length
section
variable {g:Gr} {p:Pl} {bs:List Int} {q:Pl} (h:aY g p) (hb:uE g bs) (hq:FW g p bs q)
include h hb hq
theorem FY:(aD g bs).n.toNat=g.n.toNat+bs.length:=by
 have hn:=aB (an h.1)
 show (g.n+(bs.length:Int)).toNat=_
 omega
theorem cL {e:Int} (h0:0≤e) (h1:e<(aD g bs).es.length):(e<g.es.length∧A4 g bs e=e)∨∃k:Nat,k<bs.length∧e=((g.es.length+k:Nat):Int)∧A4 g bs e=bs.getD k 0∧bs.getD k 0∈bs∧ew (aD g bs) e=qH g bs (bs.getD k 0):=by
 rw [cl] at h1
 by_cases hlt:e<g.es.length
 ·exact .inl ⟨hlt,if_pos hlt⟩
 ·refine .inr ⟨(e - g.es.length).toNat,by omega,by omega,by unfold A4;rw [if_neg hlt],aL (by omega), ?_⟩
  have hk:(e - g.es.length).toNat<bs.length:=by omega
  have:=(gA (g:=g) hk).1
  rw [show ((g.es.length+(e - g.es.length).toNat:Nat):Int)=e by omega] at this
  rw [this]
  unfold qH
  rw [fL hb.nd hk]
theorem gX {u:Int} (hu:u<g.n):pE g bs u=u:=if_pos hu
theorem iU:bk (aD g bs) q:=by
 have hm:=an h.1
 have hn:=aB hm
 have hN:=FY h hb hq
 refine ⟨by rw [hq.len];rfl,hq.perm,fun x hx=> ?_⟩
 rw [hN] at hx
 by_cases BK:x<g.n.toNat
 ·rw [hq.IA x BK]
  have hp:=h.2.1.2.2 x BK
  refine (List.perm_ext_iff_of_nodup (hp.nodup_iff.2 dQ) dQ).2 fun e=> ?_
  rw [hp.mem_iff]
  show e∈aK (·.1) g.es g.es.length (x:Int)↔e∈aK (·.1) (aD g bs).es (aD g bs).es.length (x:Int)
  rw [bA,bA]
  constructor
  ·rintro ⟨⟨h0,h1⟩,h2⟩
   exact ⟨⟨h0,by rw [cl];omega⟩,(cF h0 h1).1.trans h2⟩
  ·rintro ⟨⟨h0,h1⟩,h2⟩
   rcases cL h hb hq h0 h1 with ⟨h3,_⟩|⟨k,h3,_,_,h4,h5⟩
   ·exact ⟨⟨h0,h3⟩,(cF h0 h3).1.symm.trans h2⟩
   ·have:=(cC hb h4).1
    have h2:ew (aD g bs) e=x:=h2
    omega
 ·obtain ⟨k,rfl⟩:∃k,x=g.n.toNat+k:=⟨x - g.n.toNat,by omega⟩
  have hk:k<bs.length:=by omega
  rw [hq.FX k hk]
  refine (List.perm_ext_iff_of_nodup (by simp) dQ).2 fun e=> ?_
  rw [List.mem_singleton]
  show _↔e∈aK (·.1) (aD g bs).es (aD g bs).es.length ((g.n.toNat+k:Nat):Int)
  rw [bA]
  have hnew:=gA (g:=g) hk
  constructor
  ·rintro rfl
   exact ⟨⟨by omega,by rw [cl];omega⟩,by have:ew (aD g bs) ((g.es.length+k:Nat):Int)=((g.n.toNat+k:Nat):Int):=by {rw [hnew.1];omega};exact this⟩
  ·rintro ⟨⟨h0,h1⟩,h2⟩
   have h2:ew (aD g bs) e=((g.n.toNat+k:Nat):Int):=h2
   rcases cL h hb hq h0 h1 with ⟨h3,_⟩|⟨j,h3,h6,_,h4,h5⟩
   ·have:=(cF (bs:=bs) h0 h3).1
    have:=aU hm (i:=e.toNat) (by omega)
    have e3:ew g e=tl g e.toNat:=rfl
    omega
   ·unfold qH at h5
    rw [fL hb.nd h3] at h5
    have:j=k:=by omega
    rw [h6,this]
theorem IB {e:Int} (h0:0≤e) (h1:e<(aD g bs).es.length):J9 g p bs (ew (aD g bs) e) (dY (aD g bs) e):=by
 have hm:=an h.1
 have tr:=fun (i:Int) (a:0≤i) (b:i<g.es.length)=>show 0≤ew g i∧ew g i<g.n from aU hm (i:=i.toNat) (by omega)
 have hr:=fun (i:Int) (a:0≤i) (b:i<g.es.length)=>show 0≤dY g i∧dY g i<g.n from aZ hm (i:=i.toNat) (by omega)
 rcases cL h hb hq h0 h1 with ⟨h3,_⟩|⟨k,h3,h6,_,h4,h5⟩
 ·obtain ⟨r1,r2⟩:=cF (g:=g) (bs:=bs) h0 h3
  rw [r1,r2]
  have t0:ew g e<g.n:=(tr e h0 h3).2
  by_cases hin:e∈bs
  ·rw [if_pos hin]
   obtain ⟨n1,_,n3,_⟩:=cC hb hin
   exact .inr ⟨by rw [n3];exact gX h hb hq t0,by omega⟩
  ·rw [if_neg hin]
   left
   rw [gX h hb hq t0,gX h hb hq (hr e h0 h3).2]
   exact xW h h0 h3
 ·rw [h5]
  obtain ⟨b0,b1⟩:=hb.oK _ h4
  obtain ⟨n1,_,n3,_⟩:=cC hb h4
  have:=(gA (g:=g) h3).2
  rw [← h6] at this
  rw [this]
  left
  rw [n3,gX h hb hq (hr _ b0 b1).2]
  exact xW h b0 b1
theorem JI {j k:Nat} (hj:j<k) (hk:k<(aD g bs).n.toNat):J9 g p bs (aG q j) (aG q k):=by
 have hl:=aS (iU h hb hq)
 have:=List.pairwise_iff_getElem.1 hq.sort j k (by omega) (by omega) hj
 rw [aG,aG,List.getD_eq_getElem?_getD,List.getD_eq_getElem?_getD,List.getElem?_eq_getElem (by omega),List.getElem?_eq_getElem (by omega)]
 exact this
theorem oZ {u:Int} (h0:0≤u) (h1:u<(aD g bs).n) {k:Nat} (hk:k<(aD g bs).n.toNat) (hR:J9 g p bs u (aG q k)):u∈q.ord.take k:=by
 obtain ⟨j,hj,rfl⟩:=gy (iU h hb hq) h0 h1
 refine vX (Decidable.byContradiction fun hn=> ?_) (by rw [aS (iU h hb hq)];exact hj)
 by_cases e:j=k
 ·subst e
  unfold J9 at hR;omega
 ·have h8:=JI h hb hq (j:=k) (k:=j) (by omega) hj
  unfold J9 at hR h8
  rcases hR with h9|⟨h9,Pv⟩
  ·rcases h8 with Oh|⟨Oh,_⟩
   ·omega
   ·rw [Oh] at h9;omega
  ·rw [h9] at h8;omega
theorem vZ {u v:Int} (h0:0≤u) (h1:u<(aD g bs).n) {k:Nat} (hk:k≤(aD g bs).n.toNat) (hv:v∈q.ord.take k) (hR:J9 g p bs u v):u∈q.ord.take k:=by
 obtain ⟨j,j1,j2,rfl⟩:=jZ hv
 obtain ⟨i,i1,i2,i3⟩:=jZ (oZ h hb hq h0 h1 (k:=j) (by omega) hR)
 rw [← i3]
 exact vX (by omega) i2
theorem A5:(q.ord.filter fun u=>decide (u<g.n))=p.ord:=by
 have hn:=aB (an h.1)
 have hN:=FY h hb hq
 have bZ:=cB h.2.1
 have hl:=aS h.2.1
 refine Ds (R:=fun u v=>p.ord.idxOf u<p.ord.idxOf v) ?_ (fun a b h1 h2=>by omega) ?_ ?_
 ·refine (List.perm_ext_iff_of_nodup ((cB (iU h hb hq)).filter _) bZ).2 fun u=> ?_
  rw [List.mem_filter,hq.perm.mem_iff,h.2.1.2.1.mem_iff,cU,cU,decide_eq_true_eq]
  have e:(g.n+(bs.length:Int)).toNat=g.n.toNat+bs.length:=hN
  omega
 ·refine (hq.sort.filter _).imp_of_mem fun {u v} hu hv hR=> ?_
  have hu:=of_decide_eq_true (List.mem_filter.1 hu).2
  have hv:=of_decide_eq_true (List.mem_filter.1 hv).2
  rw [gX h hb hq hu,gX h hb hq hv] at hR
  omega
 ·rw [List.pairwise_iff_getElem]
  intro i j hi hj hij
  have a1:=fL bZ hi
  have a2:=fL bZ hj
  rw [List.getD_eq_getElem?_getD,List.getElem?_eq_getElem hi,Option.getD_some] at a1
  rw [List.getD_eq_getElem?_getD,List.getElem?_eq_getElem hj,Option.getD_some] at a2
  omega
theorem rS (k:Nat):((q.ord.take k).filter fun u=>decide (u<g.n))=p.ord.take (fM g q k):=by
 have hpre:((q.ord.take k).filter fun u=>decide (u<g.n))<+:(q.ord.filter fun u=>decide (u<g.n)):=(List.take_prefix k q.ord).filter _
 rw [A5 h hb hq] at hpre
 exact List.prefix_iff_eq_take.1 hpre
theorem js {u:Int} (hu:u<g.n) (k:Nat):u∈q.ord.take k↔u∈p.ord.take (fM g q k):=by
 rw [← rS h hb hq k,List.mem_filter]
 simp [hu]
theorem B8 (k:Nat):fM g q k≤g.n.toNat:=by
 have h1:((q.ord.take k).filter fun u=>decide (u<g.n)).length=(p.ord.take (fM g q k)).length:=by rw [rS h hb hq k]
 have h2:fM g q k=((q.ord.take k).filter fun u=>decide (u<g.n)).length:=rfl
 have hl:=aS h.2.1
 rw [List.length_take] at h1
 omega
theorem uF {k:Nat} (hk:k<(aD g bs).n.toNat) (hx:g.n≤aG q k):fM g q (k+1)=fM g q k:=by
 unfold fM
 rw [gv (iU h hb hq) hk,List.filter_append]
 simp [show ¬aG q k<g.n by omega]
theorem lT {k:Nat} (hk:k<(aD g bs).n.toNat) (hx:aG q k<g.n):fM g q (k+1)=fM g q k+1∧fM g q k<g.n.toNat∧aG p (fM g q k)=aG q k:=by
 have e1:fM g q (k+1)=fM g q k+1:=by
  unfold fM
  rw [gv (iU h hb hq) hk,List.filter_append]
  simp [hx]
 have hc:=B8 h hb hq (k+1)
 refine ⟨e1,by omega, ?_⟩
 have e2:=rS h hb hq (k+1)
 rw [gv (iU h hb hq) hk,List.filter_append,rS h hb hq k,e1,gv h.2.1 (by omega)] at e2
 have:=List.append_cancel_left e2
 simpa [hx] using this.symm
theorem FZ {k:Nat} (hk:k≤(aD g bs).n.toNat) {e:Int} (he:jY (aD g bs) q k e):jY g p (fM g q k) (A4 g bs e):=by
 have hm:=an h.1
 have hn:=aB hm
 have tr:=fun (i:Int) (a:0≤i) (b:i<g.es.length)=>show 0≤ew g i∧ew g i<g.n from aU hm (i:=i.toNat) (by omega)
 have hr:=fun (i:Int) (a:0≤i) (b:i<g.es.length)=>show 0≤dY g i∧dY g i<g.n from aZ hm (i:=i.toNat) (by omega)
 have hGn:(aD g bs).n=g.n+bs.length:=rfl
 have mH:=he.low
 have va:=he.top
 rcases cL h hb hq he.e0 he.e1 with ⟨h3,h4⟩|⟨j,h3,h6,h7,h4,h5⟩
 ·obtain ⟨r1,r2⟩:=cF (g:=g) (bs:=bs) he.e0 h3
  rw [h4]
  rw [r1] at mH
  rw [r2] at va
  refine ⟨he.e0,h3,(js h hb hq (tr e he.e0 h3).2 k).1 mH,fun hc=> ?_⟩
  have hin:=(js h hb hq (hr e he.e0 h3).2 k).2 hc
  by_cases pg:e∈bs
  ·rw [if_pos pg] at va
   obtain ⟨n1,n2,n3,_⟩:=cC hb pg
   refine va (vZ h hb hq (by omega) (by omega) hk hin (.inl ?_))
   rw [n3,gX h hb hq (hr e he.e0 h3).2]
   exact xW h he.e0 h3
  ·rw [if_neg pg] at va
   exact va hin
 ·rw [h7]
  obtain ⟨b0,b1⟩:=hb.oK _ h4
  obtain ⟨n1,n2,n3,_⟩:=cC hb h4
  have uG:=(gA (g:=g) h3).2
  rw [← h6] at uG
  rw [uG] at va
  rw [h5] at mH
  have HI:=tr _ b0 b1
  refine ⟨b0,b1,(js h hb hq HI.2 k).1 (vZ h hb hq HI.1 (by have:=HI.2;omega) hk mH (.inr ⟨?_, ?_⟩)),fun hc=>va ((js h hb hq (hr _ b0 b1).2 k).2 hc)⟩
  ·rw [n3];exact gX h hb hq HI.2
  ·have:=HI.2;omega
theorem dZ {k:Nat} (hk:k<(aD g bs).n.toNat) (hx:aG q k<g.n) {e:Int} (he:jY (aD g bs) q k e):dY g (A4 g bs e)=aG q k↔dY (aD g bs) e=aG q k:=by
 have hm:=an h.1
 have hn:=aB hm
 have hr:=fun (i:Int) (a:0≤i) (b:i<g.es.length)=>show 0≤dY g i∧dY g i<g.n from aZ hm (i:=i.toNat) (by omega)
 have hGn:(aD g bs).n=g.n+bs.length:=rfl
 rcases cL h hb hq he.e0 he.e1 with ⟨h3,h4⟩|⟨j,h3,h6,h7,h4,h5⟩
 ·obtain ⟨r1,r2⟩:=cF (g:=g) (bs:=bs) he.e0 h3
  rw [h4,r2]
  by_cases pg:e∈bs
  ·rw [if_pos pg]
   obtain ⟨n1,n2,n3,_⟩:=cC hb pg
   constructor
   ·intro e2
    have va:=he.top
    rw [r2,if_pos pg] at va
    refine absurd (oZ h hb hq (by omega) (by omega) hk (.inl ?_)) va
    rw [n3,gX h hb hq hx, ← e2]
    exact xW h he.e0 h3
   ·intro e2;omega
  ·rw [if_neg pg]
 ·have uG:=(gA (g:=g) h3).2
  rw [← h6] at uG
  rw [h7,uG]
theorem F0:FV (aD g bs) q fun k a b=>(uD g p (fM g q k)).idxOf (A4 g bs a)<(uD g p (fM g q k)).idxOf (A4 g bs b):=by
 have hm:=an h.1
 have hn:=aB hm
 have hGn:(aD g bs).n=g.n+bs.length:=rfl
 have qS:=iU h hb hq
 have mem:=fun (k:Nat) (hk:k≤(aD g bs).n.toNat) (e:Int) (he:jY (aD g bs) q k e)=>zK h (B8 h hb hq k) _ (FZ h hb hq hk he)
 have only:=fun (k:Nat) (hk:k<(aD g bs).n.toNat) (hx:g.n≤aG q k) (e:Int) (he:jY (aD g bs) q k e) (hd:dY (aD g bs) e=aG q k)=>show e∈bs∧qH g bs e=aG q k∧A4 g bs e=e by
  rcases cL h hb hq he.e0 he.e1 with ⟨h3,h4⟩|⟨j,h3,h6,h7,h4,h5⟩
  ·have r2:=(cF (g:=g) (bs:=bs) he.e0 h3).2
   rw [hd] at r2
   by_cases pg:e∈bs
   ·rw [if_pos pg] at r2
    exact ⟨pg,r2.symm,h4⟩
   ·rw [if_neg pg] at r2
    have h8:dY g e<g.n:=(aZ hm (i:=e.toNat) (by have:=he.e0;omega)).2
    omega
  ·have uG:=(gA (g:=g) h3).2
   rw [← h6,hd] at uG
   obtain ⟨b0,b1⟩:=hb.oK _ h4
   have h8:dY g (bs.getD j 0)<g.n:=(aZ hm (i:=(bs.getD j 0).toNat) (by omega)).2
   omega
 have same:=fun (k:Nat) (hk:k<(aD g bs).n.toNat) (hx:g.n≤aG q k) (e e':Int) (he:jY (aD g bs) q k e) (he':jY (aD g bs) q k e') (hd:dY (aD g bs) e=aG q k) (hd':dY (aD g bs) e'=aG q k)=>show e=e' by
  obtain ⟨a1,a2,_⟩:=only k hk hx e he hd
  obtain ⟨b1,b2,_⟩:=only k hk hx e' he' hd'
  have a3:=(cC hb a1).2.2.2
  have b3:=(cC hb b1).2.2.2
  rw [a2] at a3
  rw [b2] at b3
  rw [← a3,b3]
 have JJ:=fun (k:Nat) (hk:k<(aD g bs).n.toNat) (hx:aG q k<g.n)=>show b8 q (aG q k)=b8 p (aG q k) from hq.IA _ (by have:=(bF qS hk).1;omega)
 have MP:=fun (v e:Int) (h0:0≤v) (h1:v<g.n) (he:e∈b8 p v)=>show A4 g bs e=e by
  have:=(bA.1 ((bJ h.2.1 h0 h1).mem_iff.1 he)).1.2
  exact if_pos this
 have jd:=fun (k:Nat) (hk:k<(aD g bs).n.toNat) (hx:g.n≤aG q k) (c:Int) (hc:c∈b8 q (aG q k))=>show A4 g bs c=bs.getD (aG q k - g.n).toNat 0 by
  obtain ⟨x0,x1⟩:=bF qS hk
  have hj:(aG q k - g.n).toNat<bs.length:=by omega
  have:=hq.FX _ hj
  have e:b8 q (aG q k)= [((g.es.length+(aG q k - g.n).toNat:Nat):Int)]:=by
   rw [← this];unfold b8;congr 1;omega
  rw [e,List.mem_singleton] at hc
  subst hc
  unfold A4
  rw [if_neg (by omega)]
  congr 1;omega
 refine ⟨fun e e0 e1 k hk ek=> ?_,fun k hk a b c ha hb' hc ea ec r1 r2=> ?_,fun k hk a b ha hb' na nb r=> ?_,fun k hk a b c ha hb' na eb hc r=> ?_,fun k hk a b c ha hb' na eb hc r=> ?_,fun k hk=> ?_⟩
 ·have tR:=IB h hb hq e0 e1
  rw [← ek] at tR
  have vR:0≤ew (aD g bs) e∧ew (aD g bs) e<(aD g bs).n:=by
   rcases cL h hb hq e0 e1 with ⟨h3,h4⟩|⟨j,h3,h6,h7,h4,h5⟩
   ·rw [(cF (g:=g) (bs:=bs) e0 h3).1]
    have h8:0≤ew g e∧ew g e<g.n:=aU hm (i:=e.toNat) (by omega)
    omega
   ·obtain ⟨n1,n2,_⟩:=cC hb h4
    omega
  exact oZ h hb hq vR.1 vR.2 hk tR
 ·by_cases hx:aG q k<g.n
  ·obtain ⟨c1,c2,c3⟩:=lT h hb hq hk hx
   obtain ⟨A,X,C,e1,hA,hX,hC,_⟩:=iD h c2
   have bZ:=jr h (c:=fM g q k) (by omega)
   have ma:=mem k (by omega) a ha
   have mb:=mem k (by omega) b hb'
   have mc:=mem k (by omega) c hc
   have da:=(dZ h hb hq hk hx ha).2 ea
   have dc:=(dZ h hb hq hk hx hc).2 ec
   refine (dZ h hb hq hk hx hb').1 ?_
   rw [c3] at hA hX hC
   rw [e1] at ma mb mc r1 r2 bZ
   have Ol:A4 g bs a∈X:=by
    rcases List.mem_append.1 ma with h1|h1
    ·rcases List.mem_append.1 h1 with h1|h1
     ·exact absurd da (hA _ h1)
     ·exact h1
    ·exact absurd da (hC _ h1)
   have BM:A4 g bs c∈X:=by
    rcases List.mem_append.1 mc with h1|h1
    ·rcases List.mem_append.1 h1 with h1|h1
     ·exact absurd dc (hA _ h1)
     ·exact h1
    ·exact absurd dc (hC _ h1)
   rw [List.append_assoc] at r1 r2 mb bZ
   have RT:(X++C).Nodup:=(List.nodup_append.1 bZ).2.1
   obtain ⟨i1,_⟩:=gW (A:=A) (B:=X++C) bZ (List.mem_append_left C Ol)
   obtain ⟨i2,_⟩:=gW (A:=A) (B:=X++C) bZ (List.mem_append_left C BM)
   obtain ⟨i3,i4⟩:=qR (A:=X) (B:=C) BM
   rcases List.mem_append.1 mb with h1|h1
   ·obtain ⟨i5,i6⟩:=qR (A:=A) (B:=X++C) h1
    omega
   ·rcases List.mem_append.1 h1 with h2|h2
    ·exact hX _ h2
    ·obtain ⟨i5,_⟩:=gW (A:=A) (B:=X++C) bZ h1
     obtain ⟨i7,_⟩:=gW (A:=X) (B:=C) RT h2
     omega
  ·have:=same k hk (by omega) a c ha hc ea ec
   subst this
   omega
 ·by_cases hx:aG q k<g.n
  ·obtain ⟨c1,c2,c3⟩:=lT h hb hq hk hx
   obtain ⟨A,X,C,e1,hA,hX,hC,e2⟩:=iD h c2
   have bZ:=jr h (c:=fM g q k) (by omega)
   have fy:=jr h (c:=fM g q k+1) (by omega)
   have ma:=mem k (by omega) a ha
   have mb:=mem k (by omega) b hb'
   have da:=fun e=>na ((dZ h hb hq hk hx ha).1 e)
   have db:=fun e=>nb ((dZ h hb hq hk hx hb').1 e)
   rw [c1,e2]
   rw [c3] at hA hX hC
   rw [e2] at fy
   rw [e1] at ma mb r bZ
   rw [List.append_assoc] at r ma mb bZ fy ⊢
   have MQ:(X++C).Nodup:=(List.nodup_append.1 bZ).2.1
   have Ka:=(List.nodup_append.1 fy).2.1
   have sp:∀u,u∈A++(X++C)→dY g u≠aG q k→u∈A∨u∈C:=fun u hu hne=>by
    rcases List.mem_append.1 hu with h1|h1
    ·exact .inl h1
    ·rcases List.mem_append.1 h1 with h2|h2
     ·exact absurd (hX _ h2) hne
     ·exact .inr h2
   rcases sp _ ma da with h1|h1<;>rcases sp _ mb db with h2|h2
   ·rw [(qR h1).1,(qR h2).1] at r ⊢
    exact r
   ·have i1:=qR (B:=b8 p (aG p (fM g q k))++C) h1
    have i2:=gW fy (List.mem_append_right _ h2)
    omega
   ·have i1:=qR (B:=X++C) h2
    have i2:=gW bZ (List.mem_append_right X h1)
    omega
   ·have i1:=gW bZ (List.mem_append_right X h1)
    have i2:=gW bZ (List.mem_append_right X h2)
    have i3:=gW MQ h1
    have i4:=gW MQ h2
    have j1:=gW fy (List.mem_append_right (b8 p (aG p (fM g q k))) h1)
    have j2:=gW fy (List.mem_append_right (b8 p (aG p (fM g q k))) h2)
    have j3:=gW Ka h1
    have j4:=gW Ka h2
    omega
  ·rw [uF h hb hq hk (by omega)];exact r
 ·by_cases hx:aG q k<g.n
  ·obtain ⟨c1,c2,c3⟩:=lT h hb hq hk hx
   obtain ⟨A,X,C,e1,hA,hX,hC,e2⟩:=iD h c2
   have bZ:=jr h (c:=fM g q k) (by omega)
   have fy:=jr h (c:=fM g q k+1) (by omega)
   have ma:=mem k (by omega) a ha
   have mb:=mem k (by omega) b hb'
   have da:=fun e=>na ((dZ h hb hq hk hx ha).1 e)
   have db:=(dZ h hb hq hk hx hb').2 eb
   rw [JJ k hk hx] at hc
   rw [MP _ c (bF qS hk).1 hx hc]
   rw [c1,e2]
   rw [c3] at hA hX hC ⊢
   rw [e2] at fy
   rw [e1] at ma mb r bZ
   rw [List.append_assoc] at r ma mb bZ fy ⊢
   rw [c3] at fy
   have MQ:(X++C).Nodup:=(List.nodup_append.1 bZ).2.1
   have hb2:A4 g bs b∈X:=by
    rcases List.mem_append.1 mb with h1|h1
    ·exact absurd db (hA _ h1)
    ·rcases List.mem_append.1 h1 with h1|h1
     ·exact h1
     ·exact absurd db (hC _ h1)
   have i2:=gW bZ (List.mem_append_left C hb2)
   have i3:=qR (B:=C) hb2
   have j2:=gW fy (List.mem_append_left C hc)
   rcases List.mem_append.1 ma with h1|h1
   ·have j1:=qR (B:=b8 p (aG q k)++C) h1
    omega
   ·rcases List.mem_append.1 h1 with h2|h2
    ·exact absurd (hX _ h2) da
    ·have i1:=gW bZ h1
     have i4:=gW MQ h2
     omega
  ·have hx:g.n≤aG q k:=by omega
   obtain ⟨a1,a2,a3⟩:=only k hk hx b hb' eb
   have a4:=(cC hb a1).2.2.2
   rw [a2] at a4
   rw [uF h hb hq hk hx,jd k hk hx c hc,a4, ← a3]
   exact r
 ·by_cases hx:aG q k<g.n
  ·obtain ⟨c1,c2,c3⟩:=lT h hb hq hk hx
   obtain ⟨A,X,C,e1,hA,hX,hC,e2⟩:=iD h c2
   have bZ:=jr h (c:=fM g q k) (by omega)
   have fy:=jr h (c:=fM g q k+1) (by omega)
   have ma:=mem k (by omega) a ha
   have mb:=mem k (by omega) b hb'
   have da:=fun e=>na ((dZ h hb hq hk hx ha).1 e)
   have db:=(dZ h hb hq hk hx hb').2 eb
   rw [JJ k hk hx] at hc
   rw [MP _ c (bF qS hk).1 hx hc]
   rw [c1,e2]
   rw [c3] at hA hX hC ⊢
   rw [e2] at fy
   rw [e1] at ma mb r bZ
   rw [List.append_assoc] at r ma mb bZ fy ⊢
   rw [c3] at fy
   have Ka:=(List.nodup_append.1 fy).2.1
   have hb2:A4 g bs b∈X:=by
    rcases List.mem_append.1 mb with h1|h1
    ·exact absurd db (hA _ h1)
    ·rcases List.mem_append.1 h1 with h1|h1
     ·exact h1
     ·exact absurd db (hC _ h1)
   have i2:=gW bZ (List.mem_append_left C hb2)
   have j2:=gW fy (List.mem_append_left C hc)
   have j3:=qR (B:=C) hc
   rcases List.mem_append.1 ma with h1|h1
   ·have i1:=qR (B:=X++C) h1
    omega
   ·rcases List.mem_append.1 h1 with h2|h2
    ·exact absurd (hX _ h2) da
    ·have j1:=gW fy (List.mem_append_right (b8 p (aG q k)) h2)
     have j4:=gW Ka h2
     omega
  ·have hx:g.n≤aG q k:=by omega
   obtain ⟨a1,a2,a3⟩:=only k hk hx b hb' eb
   have a4:=(cC hb a1).2.2.2
   rw [a2] at a4
   rw [uF h hb hq hk hx,jd k hk hx c hc,a4, ← a3]
   exact r
 ·by_cases hx:aG q k<g.n
  ·obtain ⟨c1,c2,c3⟩:=lT h hb hq hk hx
   obtain ⟨A,X,C,_,_,_,_,e2⟩:=iD h c2
   have fy:=jr h (c:=fM g q k+1) (by omega)
   rw [JJ k hk hx,c1,e2]
   rw [e2,List.append_assoc] at fy
   rw [List.append_assoc]
   rw [c3] at fy ⊢
   have Ka:=(List.nodup_append.1 fy).2.1
   have PM:=(List.nodup_append.1 Ka).1
   rw [List.pairwise_iff_getElem]
   intro i j hi hj hij
   have m1:(b8 p (aG q k))[i]∈b8 p (aG q k):=List.getElem_mem hi
   have m2:(b8 p (aG q k))[j]∈b8 p (aG q k):=List.getElem_mem hj
   rw [MP _ _ (bF qS hk).1 hx m1,MP _ _ (bF qS hk).1 hx m2]
   have j1:=gW fy (List.mem_append_left C m1)
   have j2:=gW fy (List.mem_append_left C m2)
   have j3:=qR (B:=C) m1
   have j4:=qR (B:=C) m2
   have a1:=fL PM hi
   have a2:=fL PM hj
   rw [List.getD_eq_getElem?_getD,List.getElem?_eq_getElem hi,Option.getD_some] at a1
   rw [List.getD_eq_getElem?_getD,List.getElem?_eq_getElem hj,Option.getD_some] at a2
   omega
  ·have hx:g.n≤aG q k:=by omega
   obtain ⟨x0,x1⟩:=bF qS hk
   have hj:(aG q k - g.n).toNat<bs.length:=by omega
   have:=hq.FX _ hj
   have e:b8 q (aG q k)= [((g.es.length+(aG q k - g.n).toNat:Nat):Int)]:=by
    rw [← this];unfold b8;congr 1;omega
   rw [e]
   exact List.pairwise_singleton ..
theorem F1 (hG:(bN (aD g bs)).1=0):aY (aD g bs) q:=Dq hG (iU h hb hq) (F0 h hb hq)
end
end Go.Ab
end
section
namespace Go.Ab
open Go.Proofs
set_option maxRecDepth 10000
set_option linter.unusedSectionVars false
theorem HJ {G:Gr} (hm:aH G=true) (φ:Int→Nat) (up:∀i,i<G.es.length→φ (tl G i)<φ (hd G i)) (tw:∀i k,i<G.es.length→k<G.es.length→i≠k→G.es.getD i (0,0)≠G.es.getD k (0,0)) (s:Int)
 (src:∀y,0≤y→y<G.n→(∀i,i<G.es.length→hd G i≠y)→y=s):(bN G).1=0:=by
 have FQ:BO G=true:=(rN hm).2 ⟨φ,up⟩
 have FR:¬0≤iO G:=fun hl=>by
  have h1:=eW (fun e:Edge=>decide (e.1=e.2)) G.es
  have h0:decide (0≤bI (fun e:Edge=>decide (e.1=e.2)) G.es)=true:=decide_eq_true hl
  rw [h0] at h1
  obtain ⟨e,he,h2⟩:=List.any_eq_true.1 h1.symm
  obtain ⟨i,hi,rfl⟩:=List.mem_iff_getElem.1 he
  have h3:tl G i=hd G i:=by simpa [tl,hd,List.getD_eq_getElem?_getD,List.getElem?_eq_getElem hi] using h2
  have:=up i hi
  rw [h3] at this
  omega
 have Fh:¬0≤dF G:=fun ht=>by
  obtain ⟨i,k,hi,hk,hik,e⟩:=(iB _).1 ht
  exact tw i k hi hk hik e
 have FT:¬1<(bC (·.2) G).length:=fun hb=>by
  have hs:∀y∈bC (·.2) G,y=s:=fun y hy=>by
   obtain ⟨⟨y0,y1⟩,y2⟩:=mB.1 hy
   refine src y y0 y1 fun i hi e=> ?_
   have:=mA (g:=G) (e:=(i:Int)) (by omega) (by omega)
   rw [Int.toNat_natCast,show (G.es.getD i (0,0)).2=y from e] at this
   omega
  have:=xT dR hs
  omega
 unfold bN fe
 rw [if_neg (by simp [hm]),if_neg FR,if_neg Fh,if_neg (by rw [xR hm FQ];simp),if_neg FT]
theorem A6 {g:Gr} (h:(bN g).1=0) {i k:Nat} (hi:i<g.es.length) (hk:k<g.es.length) (e:g.es.getD i (0,0)=g.es.getD k (0,0)):i=k:=by
 refine Decidable.byContradiction fun hik=> ?_
 have hgt:¬0≤dF g:=by
  unfold bN fe at h
  intro h2
  split at h
  ·cases h
  split at h
  ·cases h
  cases h
 exact hgt ((iB g).2 ⟨i,k,hi,hk,hik,e⟩)
section
variable {g:Gr} {p:Pl} {bs:List Int} {q:Pl} (h:aY g p) (hb:uE g bs) (hq:FW g p bs q) (hs1:g.n+bs.length≤64) (An:g.es.length+bs.length≤128)
include h hb hq hs1 An
theorem HK:aH (aD g bs)=true:=by
 have hm:=an h.1
 have hn:=aB hm
 have hGn:(aD g bs).n=g.n+bs.length:=rfl
 simp only [aH,Bool.and_eq_true,decide_eq_true_eq,Bool.not_eq_true',List.any_eq_false]
 refine ⟨⟨⟨by omega,by omega⟩,by rw [cl];omega⟩,fun e he=> ?_⟩
 simp only [ng,td,Bool.or_eq_true,decide_eq_true_eq,not_or]
 obtain ⟨i,hi,rfl⟩:=List.mem_iff_getElem.1 he
 have e0:(aD g bs).es.getD i (0,0)=(aD g bs).es[i]:=by rw [List.getD_eq_getElem?_getD,List.getElem?_eq_getElem hi];rfl
 have et:((aD g bs).es[i]).1=ew (aD g bs) (i:Int):=by unfold ew;rw [Int.toNat_natCast,e0]
 have eh:((aD g bs).es[i]).2=dY (aD g bs) (i:Int):=by unfold dY;rw [Int.toNat_natCast,e0]
 rw [et,eh]
 rcases cL h hb hq (e:=(i:Int)) (by omega) (by omega) with ⟨h3,h4⟩|⟨j,h3,h6,h7,h4,h5⟩
 ·obtain ⟨r1,r2⟩:=cF (g:=g) (bs:=bs) (e:=(i:Int)) (by omega) h3
  have t0:0≤ew g i∧ew g i<g.n:=aU hm (i:=i) (by omega)
  have d0:0≤dY g i∧dY g i<g.n:=aZ hm (i:=i) (by omega)
  rw [r1,r2]
  by_cases pg:(i:Int)∈bs
  ·rw [if_pos pg]
   obtain ⟨n1,n2,_⟩:=cC hb pg
   omega
  ·rw [if_neg pg];omega
 ·obtain ⟨b0,b1⟩:=hb.oK _ h4
  obtain ⟨n1,n2,_⟩:=cC hb h4
  have d0:0≤dY g (bs.getD j 0)∧dY g (bs.getD j 0)<g.n:=aZ hm (i:=(bs.getD j 0).toNat) (by omega)
  have uG:=(gA (g:=g) h3).2
  rw [← h6] at uG
  rw [h5,uG]
  omega
theorem JK {i k:Int} (J2:0≤i) (hi1:i<(aD g bs).es.length) (z8:0≤k) (x7:k<(aD g bs).es.length) (e1:ew (aD g bs) i=ew (aD g bs) k) (e2:dY (aD g bs) i=dY (aD g bs) k):i=k:=by
 have hm:=an h.1
 have tr:=fun (i:Int) (a:0≤i) (b:i<g.es.length)=>show 0≤ew g i∧ew g i<g.n from aU hm (i:=i.toNat) (by omega)
 have hr:=fun (i:Int) (a:0≤i) (b:i<g.es.length)=>show 0≤dY g i∧dY g i<g.n from aZ hm (i:=i.toNat) (by omega)
 rcases cL h hb hq J2 hi1 with ⟨h3,h4⟩|⟨j,h3,h6,h7,h4,h5⟩
 ·obtain ⟨r1,r2⟩:=cF (g:=g) (bs:=bs) J2 h3
  have t0:=tr i J2 h3
  rcases cL h hb hq z8 x7 with ⟨g3,g4⟩|⟨j',g3,g6,g7,g4,g5⟩
  ·obtain ⟨s1,s2⟩:=cF (g:=g) (bs:=bs) z8 g3
   rw [r1,s1] at e1
   rw [r2,s2] at e2
   by_cases Kb:i∈bs
   ·by_cases AJ:k∈bs
    ·rw [if_pos Kb,if_pos AJ] at e2
     have a1:=(cC hb Kb).2.2.2
     have a2:=(cC hb AJ).2.2.2
     rw [e2] at a1
     rw [← a1,a2]
    ·rw [if_pos Kb,if_neg AJ] at e2
     have:=(cC hb Kb).1
     have:=hr k z8 g3
     omega
   ·by_cases AJ:k∈bs
    ·rw [if_neg Kb,if_pos AJ] at e2
     have:=(cC hb AJ).1
     have:=hr i J2 h3
     omega
    ·rw [if_neg Kb,if_neg AJ] at e2
     have:=A6 h.1 (i:=i.toNat) (k:=k.toNat) (by omega) (by omega) (Prod.ext e1 e2)
     omega
  ·have:=(cC hb g4).1
   omega
 ·rcases cL h hb hq z8 x7 with ⟨g3,g4⟩|⟨j',g3,g6,g7,g4,g5⟩
  ·have:=(cC hb h4).1
   have:=(cF (g:=g) (bs:=bs) z8 g3).1
   have:=tr k z8 g3
   omega
  ·rw [h5,g5] at e1
   have a1:=fL hb.nd h3
   have a2:=fL hb.nd g3
   unfold qH at e1
   have:j=j':=by omega
   rw [h6,g6,this]
theorem zL:(bN (aD g bs)).1=0:=by
 have hm:=an h.1
 have hn:=aB hm
 have vR:=HK h hb hq hs1 An
 have hGn:(aD g bs).n=g.n+bs.length:=rfl
 have qS:=iU h hb hq
 have L5:=cB qS
 have Ct:=aS qS
 refine HJ vR (fun v=>q.ord.idxOf v) (fun i hi=> ?_) (fun i k hi hk hik e=>hik ?_) (aG p 0) (fun y y0 y1 hy=> ?_)
 ·have hR:=IB h hb hq (e:=(i:Int)) (by omega) (by omega)
  have e1:ew (aD g bs) (i:Int)=tl (aD g bs) i:=rfl
  have e2:dY (aD g bs) (i:Int)=hd (aD g bs) i:=rfl
  rw [e1,e2] at hR
  obtain ⟨t0,t1⟩:=aU vR hi
  obtain ⟨d0,d1⟩:=aZ vR hi
  obtain ⟨k,hk,ek⟩:=gy qS d0 d1
  rw [← ek] at hR
  obtain ⟨j,j1,j2,j3⟩:=jZ (oZ h hb hq t0 t1 hk hR)
  have a1:q.ord.idxOf (tl (aD g bs) i)=j:=by rw [← j3];exact fL L5 j2
  have a2:q.ord.idxOf (hd (aD g bs) i)=k:=by rw [← ek];exact fL L5 (by omega)
  omega
 ·have e1:ew (aD g bs) (i:Int)=ew (aD g bs) (k:Int):=by unfold ew;simp only [Int.toNat_natCast];rw [e]
  have e2:dY (aD g bs) (i:Int)=dY (aD g bs) (k:Int):=by unfold dY;simp only [Int.toNat_natCast];rw [e]
  have:=JK h hb hq hs1 An (i:=(i:Int)) (k:=(k:Int)) (by omega) (by omega) (by omega) (by omega) e1 e2
  omega
 ·have Jq:y<g.n:=by
   refine Decidable.byContradiction fun Jq=> ?_
   have hj:(y - g.n).toNat<bs.length:=by omega
   have hin:bs.getD (y - g.n).toNat 0∈bs:=aL hj
   obtain ⟨b0,b1⟩:=hb.oK _ hin
   have r2:=(cF (g:=g) (bs:=bs) b0 b1).2
   rw [if_pos hin] at r2
   unfold qH at r2
   rw [fL hb.nd hj] at r2
   refine hy (bs.getD (y - g.n).toNat 0).toNat (by rw [cl];omega) ?_
   have:hd (aD g bs) (bs.getD (y - g.n).toNat 0).toNat=dY (aD g bs) (bs.getD (y - g.n).toNat 0):=rfl
   rw [this,r2];omega
  have h0:=bF h.2.1 (k:=0) (by omega)
  have hz:bf g y=0:=by
   refine Decidable.byContradiction fun hnz=> ?_
   obtain ⟨e,he⟩:∃e,e∈aK (·.2) g.es g.es.length y:=by
    cases hc:aK (·.2) g.es g.es.length y with
    |nil=>exact absurd (by unfold bf;rw [hc];rfl) hnz
    |cons e l=>exact ⟨e,by simp⟩
   obtain ⟨⟨e0,e1⟩,e2⟩:=bA.1 he
   have e2:dY g e=y:=e2
   have r2:=(cF (g:=g) (bs:=bs) e0 e1).2
   by_cases pg:e∈bs
   ·obtain ⟨i1,i2⟩:=qf pg
    have uG:=(gA (g:=g) i1).2
    rw [i2,e2] at uG
    exact hy (g.es.length+bs.idxOf e) (by rw [cl];omega) uG
   ·rw [if_neg pg,e2] at r2
    exact hy e.toNat (by rw [cl];omega) r2
  refine kN h.1 ⟨y0,Jq⟩ h0 hz ?_
  refine Decidable.byContradiction fun hnz=> ?_
  obtain ⟨A,X,C,hrw,_,_,hX,_⟩:=bS hm (oL g).tofH (h.2.2 0 (by omega)) hnz
  obtain ⟨q,X0,e1,_⟩:=hX.fst
  rw [e1] at hrw
  simp at hrw
theorem B9:aY (aD g bs) q:=F1 h hb hq (zL h hb hq hs1 An)
theorem F2 (hI:nI g=true):nI (aD g bs)=true:=by
 have hm:=an h.1
 have hn:=aB hm
 have hGn:(aD g bs).n=g.n+bs.length:=rfl
 have hN:=FY h hb hq
 have qS:=iU h hb hq
 unfold nI at hI ⊢
 rw [Bool.and_eq_true,decide_eq_true_eq,decide_eq_true_eq] at hI
 rw [decide_eq_true (zL h hb hq hs1 An),Bool.true_and,decide_eq_true_eq]
 have key:∀y,y∈bC (·.1) (aD g bs)↔y∈bC (·.1) g:=fun y=>by
  rw [iC,iC]
  constructor
  ·rintro ⟨⟨y0,y1⟩,y2⟩
   by_cases Jq:y<g.n
   ·refine ⟨⟨y0,Jq⟩,List.eq_nil_iff_forall_not_mem.2 fun e he=> ?_⟩
    obtain ⟨⟨e0,e1⟩,e2⟩:=bA.1 he
    have:e∈aK (·.1) (aD g bs).es (aD g bs).es.length y:=bA.2 ⟨⟨e0,by rw [cl];omega⟩,((cF (g:=g) (bs:=bs) e0 e1).1.trans e2)⟩
    rw [y2] at this;cases this
   ·exfalso
    have hj:(y - g.n).toNat<bs.length:=by omega
    have MN:=(gA (g:=g) hj).1
    have:((g.es.length+(y - g.n).toNat:Nat):Int)∈aK (·.1) (aD g bs).es (aD g bs).es.length y:=bA.2 ⟨⟨by omega,by rw [cl];omega⟩,by have:ew (aD g bs) ((g.es.length+(y - g.n).toNat:Nat):Int)=y:=by {rw [MN];omega};exact this⟩
    rw [y2] at this;cases this
  ·rintro ⟨⟨y0,y1⟩,y2⟩
   refine ⟨⟨y0,by omega⟩,List.eq_nil_iff_forall_not_mem.2 fun e he=> ?_⟩
   obtain ⟨⟨e0,e1⟩,e2⟩:=bA.1 he
   have e2:ew (aD g bs) e=y:=e2
   rcases cL h hb hq e0 e1 with ⟨h3,h4⟩|⟨j,h3,h6,h7,h4,h5⟩
   ·have:e∈aK (·.1) g.es g.es.length y:=bA.2 ⟨⟨e0,h3⟩,((cF (g:=g) (bs:=bs) e0 h3).1.symm.trans e2)⟩
    rw [y2] at this;cases this
   ·have:=(cC hb h4).1
    omega
 have hp:(bC (·.1) (aD g bs)).Perm (bC (·.1) g):=(List.perm_ext_iff_of_nodup dR dR).2 key
 rw [hp.length_eq]
 exact hI.2
end
end Go.Ab
end
