/- A part of the proof. -/
import Derived.Test.YtameldglfobjkaaL6P15
set_option linter.unusedSimpArgs false
set_option linter.unusedVariables false
section
namespace Go.Ab
open Go.Proofs
attribute [local congr] ACall.congr gd.congr Nx.congr
set_option maxRecDepth 20000
set_option maxHeartbeats 16000000
def xe (a:List Nat) (m i:Nat):List (List Nat):=((List.range i).filter fun i=>decide (a.getD i 0=i)).map fun i=>(List.range m).filter fun k=>decide (a.getD k 0=i)
def xg (a:List Nat) (i k:Nat):List Nat:=(List.range k).filter fun k=>decide (a.getD k 0=i)
theorem vY {a:List Nat} {m i:Nat} :xe a m (i+1)=if a.getD i 0=i then xe a m i++ [xg a i m] else xe a m i:=by
 unfold xe xg
 rw [List.range_succ,List.filter_append,List.map_append,List.filter_cons]
 by_cases h:a.getD i 0=i
 ·rw [if_pos (decide_eq_true h),if_pos h];rfl
 ·rw [if_neg (by rw [decide_eq_true_eq];exact h),if_neg h];simp
theorem vZ {a:List Nat} {i k:Nat} :xg a i (k+1)=if a.getD k 0=i then xg a i k++ [k] else xg a i k:=by
 unfold xg
 rw [List.range_succ,List.filter_append,List.filter_cons]
 by_cases h:a.getD k 0=i
 ·rw [if_pos (decide_eq_true h),if_pos h];rfl
 ·rw [if_neg (by rw [decide_eq_true_eq];exact h),if_neg h];simp
theorem ya {a:List Nat} {i k:Nat} :(xg a i k).length≤k:=by
 have:=List.length_filter_le (fun k=>decide (a.getD k 0=i)) (List.range k)
 rw [List.length_range] at this
 exact this
theorem yb {a:List Nat} {m i:Nat} :(xe a m i).length≤i:=by
 have:=List.length_filter_le (fun i=>decide (a.getD i 0=i)) (List.range i)
 rw [List.length_range] at this
 unfold xe
 rw [List.length_map]
 exact this
theorem yc (g:Gr):xe (ug g).vS g.es.length g.es.length=(ug g).aB:=(UG.xY UG.zW).symm
theorem jq (g:Gr) (hm:aT g=true) (hl:aR g=true):Spec Try.prog 21 (Args [eG g]) [] (.d (sNL (ug g).aB)) []:=by
 have hn:=cO hm
 have nU:=pP g hm hl
 have Gt:(ug g).vS.length=g.es.length:=UG.jo
 have hall:=yc g
 generalize (ug g).vS=a at nU Gt hall
 (refine Spec.hd (C:=T.cfg [] []) (rs:= [.t 2]) (T.au _ _) Try.func21 rfl rfl Try.ntmps21 Try.results21 (by simp [AObj.isNest]) (by simp [AObj.isNest]) (by kernel_rfl) T.mixed fun X hX hP hC bf dB=> ?_)
 repeat' (first|refine Rn.p ?_|(with_reducible apply And.intro)|((first|(refine hK _ ?_;clear hK K)|with_reducible intro K hK|refine Rs.p ?_|((with_reducible first|apply oP|apply oQ);exact rfl)|refine aa hX hC hP (nU) rfl rfl rfl (by simp only [go_sem,simprocAttr]) rfl ?_);try simp only [go_sem,simprocAttr])|((with_reducible refine oD ?_ ?_);kernel_rfl)|((with_reducible intro h);try simp only [go_sem,simprocAttr] at h)|omega|intro h)
 refine ah (fun i:Nat=>i≤g.es.length) (fun i=>⟨[(3, .d (sN a)),(4, .ref 10),(5,eN i)], [(10, .tip 25 1 ((xe a g.es.length i).map kz))]⟩) (fun i=>g.es.length - i) 0 (Nat.zero_le _) ?_ ?_
 ·refine Le.of ?_ ?_<;>simp [go_sem,simprocAttr,xe]
 rintro i hi
 rcases Nat.lt_or_ge i g.es.length with hlt|hge
 rotate_left
 ·have hb:decide ((i:Int)<(a.length:Int))=false:=decide_eq_false (by omega)
  obtain rfl:i=g.es.length:=by omega
  rw [hall]
  repeat' (first|refine Rn.p ?_|(with_reducible apply And.intro)|((first|(refine hK _ ?_;clear hK K)|with_reducible intro K hK|refine Rs.p ?_|((with_reducible first|apply oP|apply oQ);exact rfl));try simp only [go_sem,simprocAttr,hb])|((with_reducible refine oD ?_ ?_);kernel_rfl)|((with_reducible intro h);try simp only [go_sem,simprocAttr,hb] at h)|omega|intro h)
 have hb:decide ((i:Int)<(a.length:Int))=true:=decide_eq_true (by omega)
 have bz:=vY (a:=a) (m:=g.es.length) (i:=i)
 have bp:=yb (a:=a) (m:=g.es.length) (i:=i)
 generalize xe a g.es.length i=B0 at bz bp ⊢
 have tO:decide (((a.getD i 0:Nat):Int)=(i:Int))=decide (a.getD i 0=i):=by rw [decide_eq_decide];omega
 by_cases hai:a.getD i 0=i
 rotate_left
 ·rw [if_neg hai] at bz
  rw [decide_eq_false hai] at tO
  repeat' (first|refine Rn.p ?_|(with_reducible apply And.intro)|((first|(refine hK _ ?_;clear hK K)|with_reducible intro K hK|refine Rs.p ?_|((with_reducible first|apply oP|apply oQ);exact rfl));try simp only [go_sem,simprocAttr,hb,tO])|((with_reducible refine oD ?_ ?_);kernel_rfl)|((with_reducible intro h);try simp only [go_sem,simprocAttr,hb,tO] at h)|omega|intro h)
  refine ⟨i+1,by omega, ?_,by omega⟩
  rw [bz]
  refine Le.of ?_ ?_<;>simp [go_sem,simprocAttr,hb,tO]
 rw [if_pos hai] at bz
 rw [decide_eq_true hai] at tO
 repeat' (first|refine Rn.p ?_|(with_reducible apply And.intro)|((first|(refine hK _ ?_;clear hK K)|with_reducible intro K hK|refine Rs.p ?_|((with_reducible first|apply oP|apply oQ);exact rfl));try simp only [go_sem,simprocAttr,hb,tO])|((with_reducible refine oD ?_ ?_);kernel_rfl)|((with_reducible intro h);try simp only [go_sem,simprocAttr,hb,tO] at h)|omega|intro h)
 clear hb tO
 refine ah (fun k:Nat=>k≤g.es.length) (fun k=>⟨[(3, .d (sN a)),(4, .ref 10),(5,eN i),(6, .ref 23),(7,eN k)], [(10, .tip 25 1 (B0.map kz)),(23, .tip 3 1 ((xg a i k).map rN))]⟩) (fun k=>g.es.length - k) 0 (Nat.zero_le _) ?_ ?_
 ·refine Le.of ?_ ?_<;>simp [go_sem,simprocAttr,xg]
 rintro k hk
 have hil:=ya (a:=a) (i:=i) (k:=k)
 rcases Nat.lt_or_ge k g.es.length with hlk|Gl
 rotate_left
 ·have hb:decide ((k:Int)<(a.length:Int))=false:=decide_eq_false (by omega)
  obtain rfl:k=g.es.length:=by omega
  repeat' (first|(show bB _ (.region 5 _ _) _ _;(refine gu hX 4 43 10 (by simp only [go_sem,simprocAttr,hb]) rfl (by first|exact .inl rfl|exact .inr rfl) (by decide) ?_;simp only [go_sem,simprocAttr,hb]))|refine Rn.p ?_|(with_reducible apply And.intro)|((first|(refine hK _ ?_;clear hK K)|with_reducible intro K hK|refine Rs.p ?_|((with_reducible first|apply oP|apply oQ);exact rfl));try simp only [go_sem,simprocAttr,hb])|((with_reducible refine oD ?_ ?_);kernel_rfl)|((with_reducible intro h);try simp only [go_sem,simprocAttr,hb] at h)|omega|intro h)
  refine ⟨i+1,by omega, ?_,by omega⟩
  rw [bz]
  refine Le.of ?_ ?_<;>simp [go_sem,simprocAttr,hb,kz]
 have hb:decide ((k:Int)<(a.length:Int))=true:=decide_eq_true (by omega)
 have hnk:=vZ (a:=a) (i:=i) (k:=k)
 generalize xg a i k=I0 at hnk hil ⊢
 have hdk:decide (((a.getD k 0:Nat):Int)=(i:Int))=decide (a.getD k 0=i):=by rw [decide_eq_decide];omega
 by_cases xb:a.getD k 0=i
 ·rw [if_pos xb] at hnk
  rw [decide_eq_true xb] at hdk
  repeat' (first|(show bB _ (.region 10 _ _) _ _;(refine gu hX 6 39 23 (by simp only [go_sem,simprocAttr,hb,hdk]) rfl (by first|exact .inl rfl|exact .inr rfl) (by decide) ?_;simp only [go_sem,simprocAttr,hb,hdk]))|refine Rn.p ?_|(with_reducible apply And.intro)|((first|(refine hK _ ?_;clear hK K)|with_reducible intro K hK|refine Rs.p ?_|((with_reducible first|apply oP|apply oQ);exact rfl));try simp only [go_sem,simprocAttr,hb,hdk])|((with_reducible refine oD ?_ ?_);kernel_rfl)|((with_reducible intro h);try simp only [go_sem,simprocAttr,hb,hdk] at h)|omega|intro h)
  refine ⟨k+1,by omega, ?_,by omega⟩
  rw [hnk]
  refine Le.of ?_ ?_<;>simp [go_sem,simprocAttr,hb,hdk,rN]
 ·rw [if_neg xb] at hnk
  rw [decide_eq_false xb] at hdk
  repeat' (first|refine Rn.p ?_|(with_reducible apply And.intro)|((first|(refine hK _ ?_;clear hK K)|with_reducible intro K hK|refine Rs.p ?_|((with_reducible first|apply oP|apply oQ);exact rfl));try simp only [go_sem,simprocAttr,hb,hdk])|((with_reducible refine oD ?_ ?_);kernel_rfl)|((with_reducible intro h);try simp only [go_sem,simprocAttr,hb,hdk] at h)|omega|intro h)
  refine ⟨k+1,by omega, ?_,by omega⟩
  rw [hnk]
  refine Le.of ?_ ?_<;>simp [go_sem,simprocAttr,hb,hdk]
theorem gM {α:Type} {p:α→Bool} {l:List α} {k:Nat} (d:α) (hk:k<l.length):(l.take (k+1)).any p=((l.take k).any p||p (l.getD k d)):=by
 rw [List.take_add_one,List.getElem?_eq_getElem hk,Option.toList_some,List.any_append,List.getD_eq_getElem?_getD,List.getElem?_eq_getElem hk]
 simp
theorem sq {α:Type} {p:α→Bool} {l:List α} {k:Nat} (d:α) (hk:k<l.length) (hp:p (l.getD k d)=true):l.any p=true:=by
 rw [List.any_eq_true]
 refine ⟨l.getD k d, ?_,hp⟩
 rw [List.getD_eq_getElem?_getD,List.getElem?_eq_getElem hk]
 exact List.getElem_mem hk
theorem pQ (g:Gr) (hm:aT g=true) (b:List Nat) (hb:∀i∈b,i<g.es.length) (ec:b.length≤1000) (x:Nat):Spec Try.prog 25 (Args [eG g, .d (sN b),eN x]) [] (eB ((ug g).bw b x)) []:=by
 have hn:=cO hm
 obtain ⟨P,AP⟩:∃P:Nat→Bool,P=fun i=>decide ((ug g).T i=x)||decide ((ug g).H i=x):=⟨_,rfl⟩
 have hV:(ug g).bw b x=b.any P:=by rw [AP];rfl
 rw [hV]
 (refine Spec.hd (C:=T.cfg [] []) (rs:= [.t 6]) (T.au _ _) Try.func25 rfl rfl Try.ntmps25 Try.results25 (by simp [AObj.isNest]) (by simp [AObj.isNest]) (by kernel_rfl) T.mixed fun X hX hP hC bf dB=> ?_)
 repeat' (first|refine Rn.p ?_|(with_reducible apply And.intro)|((first|(refine hK _ ?_;clear hK K)|with_reducible intro K hK|refine Rs.p ?_|((with_reducible first|apply oP|apply oQ);exact rfl));try simp only [go_sem,simprocAttr])|((with_reducible refine oD ?_ ?_);kernel_rfl)|((with_reducible intro h);try simp only [go_sem,simprocAttr] at h)|omega|intro h)
 refine ah (fun k:Nat=>k≤b.length∧(b.take k).any P=false) (fun k=>⟨[(1, .d (sN b)),(2,eN x),(3, .ptr 3 0),(7,eN k)], [(3, .box [eN g.n, .d (sE g.es)])]⟩) (fun k=>b.length - k) 0 ⟨Nat.zero_le _,rfl⟩ ?_ ?_
 ·refine Le.of ?_ ?_<;>simp [go_sem,simprocAttr]
 rintro k ⟨hk,hf⟩
 rcases Nat.lt_or_ge k b.length with hlt|hge
 rotate_left
 ·have b7:decide ((k:Int)<(b.length:Int))=false:=decide_eq_false (by omega)
  obtain rfl:k=b.length:=by omega
  rw [List.take_length] at hf
  rw [hf]
  repeat' (first|refine Rn.p ?_|(with_reducible apply And.intro)|((first|(refine hK _ ?_;clear hK K)|with_reducible intro K hK|refine Rs.p ?_|((with_reducible first|apply oP|apply oQ);exact rfl));try simp only [go_sem,simprocAttr,b7])|((with_reducible refine oD ?_ ?_);kernel_rfl)|((with_reducible intro h);try simp only [go_sem,simprocAttr,b7] at h)|omega|intro h)
 have b7:decide ((k:Int)<(b.length:Int))=true:=decide_eq_true (by omega)
 obtain ⟨i,hi⟩:∃i,b.getD k 0=i:=⟨_,rfl⟩
 have him:i<g.es.length:=hb i (by
  rw [← hi,List.getD_eq_getElem?_getD,List.getElem?_eq_getElem hlt]
  exact List.getElem_mem hlt)
 obtain ⟨mX,qd⟩:=dU hm him
 obtain ⟨u,hu⟩:∃u:Nat,(g.es.getD i (0,0)).1=u:=⟨(g.es.getD i (0,0)).1.toNat,by omega⟩
 obtain ⟨v,hv⟩:∃v:Nat,(g.es.getD i (0,0)).2=v:=⟨(g.es.getD i (0,0)).2.toNat,by omega⟩
 have gR:(ug g).T i=u:=by show ((g.es.getD i (0,0)).1).toNat=u;rw [hu];rfl
 have hhi:(ug g).H i=v:=by show ((g.es.getD i (0,0)).2).toNat=v;rw [hv];rfl
 have Fl:P i=(decide (u=x)||decide (v=x)):=by rw [AP];simp only [gR,hhi]
 have yM:∀p q:Nat,decide ((p:Int)=(q:Int))=decide (p=q):=fun p q=>by
  rw [decide_eq_decide];omega
 have d1:=yM u x
 have d2:=yM v x
 have hst:=gM (p:=P) 0 hlt
 have sr:=sq (p:=P) 0 hlt
 rw [hi] at hst sr
 rw [Fl,hf,Bool.false_or] at hst
 rw [Fl] at sr
 clear Fl AP
 generalize decide (u=x)=q1 at d1 hst sr
 generalize decide (v=x)=q2 at d2 hst sr
 cases q1 with
 |true=>
  rw [sr rfl]
  repeat' (first|refine Rn.p ?_|(with_reducible apply And.intro)|((first|(refine hK _ ?_;clear hK K)|with_reducible intro K hK|refine Rs.p ?_|((with_reducible first|apply oP|apply oQ);exact rfl));try simp only [go_sem,simprocAttr,b7,hi,hu,hv,d1,d2])|((with_reducible refine oD ?_ ?_);kernel_rfl)|((with_reducible intro h);try simp only [go_sem,simprocAttr,b7,hi,hu,hv,d1,d2] at h)|omega|intro h)
 |false=>
  cases q2 with
  |true=>
   rw [sr rfl]
   repeat' (first|refine Rn.p ?_|(with_reducible apply And.intro)|((first|(refine hK _ ?_;clear hK K)|with_reducible intro K hK|refine Rs.p ?_|((with_reducible first|apply oP|apply oQ);exact rfl));try simp only [go_sem,simprocAttr,b7,hi,hu,hv,d1,d2])|((with_reducible refine oD ?_ ?_);kernel_rfl)|((with_reducible intro h);try simp only [go_sem,simprocAttr,b7,hi,hu,hv,d1,d2] at h)|omega|intro h)
  |false=>
   repeat' (first|refine Rn.p ?_|(with_reducible apply And.intro)|((first|(refine hK _ ?_;clear hK K)|with_reducible intro K hK|refine Rs.p ?_|((with_reducible first|apply oP|apply oQ);exact rfl));try simp only [go_sem,simprocAttr,b7,hi,hu,hv,d1,d2])|((with_reducible refine oD ?_ ?_);kernel_rfl)|((with_reducible intro h);try simp only [go_sem,simprocAttr,b7,hi,hu,hv,d1,d2] at h)|omega|intro h)
   refine ⟨k+1,⟨by omega,hst⟩, ?_,by omega⟩
   refine Le.of ?_ ?_<;>simp [go_sem,simprocAttr,b7,hi,hu,hv,d1,d2]
theorem getD_rNL (ps:List (List Nat)) (i:Nat):(ps.map kz).getD i [.sl 1 []]= [sN (ps.getD i [])]:=by
 rw [List.getD_eq_getElem?_getD,List.getElem?_map,List.getD_eq_getElem?_getD]
 cases ps[i]? <;>rfl
attribute [go_sem] getD_rNL
def fI (g:Gr) (L:List (List Nat)) (x k:Nat):Nat:=((L.take k).filter fun b=>(ug g).bw b x).length
theorem mI {g:Gr} {L:List (List Nat)} {x k:Nat} (hk:k<L.length):fI g L x (k+1)=if (ug g).bw (L.getD k []) x=true then fI g L x k+1 else fI g L x k:=by
 unfold fI
 rw [List.take_add_one,List.getElem?_eq_getElem hk,Option.toList_some,List.filter_append,List.length_append,List.getD_eq_getElem?_getD,List.getElem?_eq_getElem hk]
 simp only [Option.getD_some,List.filter_cons,List.filter_nil]
 split<;>rfl
theorem v7 {g:Gr} {L:List (List Nat)} {x k:Nat} :fI g L x k≤L.length:=by
 unfold fI
 have h1:=List.length_filter_le (fun b=>(ug g).bw b x) (L.take k)
 have h2:=List.length_take_le k L
 have h3:(L.take k).length≤L.length:=by rw [List.length_take];omega
 omega
noncomputable def dn (g:Gr) (k:Nat):List Nat:=(List.range k).filter fun x=>decide (1<fI g (ug g).aB x (ug g).aB.length)
noncomputable def fO (g:Gr):List Nat:=dn g g.n.toNat
theorem lK {g:Gr} {k:Nat} :dn g (k+1)=if 1<fI g (ug g).aB k (ug g).aB.length then dn g k++ [k] else dn g k:=by
 unfold dn
 rw [List.range_succ,List.filter_append,List.filter_cons]
 by_cases h:1<fI g (ug g).aB k (ug g).aB.length
 ·rw [if_pos (decide_eq_true h),if_pos h];rfl
 ·rw [if_neg (by rw [decide_eq_true_eq];exact h),if_neg h];simp
theorem jL {g:Gr} {k:Nat} :(dn g k).length≤k:=by
 have:=List.length_filter_le (fun x=>decide (1<fI g (ug g).aB x (ug g).aB.length)) (List.range k)
 rw [List.length_range] at this
 exact this
theorem fc {G:UG} :G.aB.length≤G.m:=by
 unfold UG.aB
 rw [List.length_map]
 have:=List.length_filter_le (fun i=>G.qF i) (List.range G.m)
 rw [List.length_range] at this
 exact this
theorem su {G:UG} {b:List Nat} (hb:b∈G.aB):b.length≤G.m:=by
 unfold UG.aB at hb
 obtain ⟨i,_,rfl⟩:=List.mem_map.1 hb
 have:=List.length_filter_le (fun k=> @decide (G.Sm i k) (Classical.propDecidable _)) (List.range G.m)
 rw [List.length_range] at this
 exact this
theorem dg {α:Type} {l:List α} {k:Nat} (d:α) (hk:k<l.length):l.getD k d∈l:=by
 rw [List.getD_eq_getElem?_getD,List.getElem?_eq_getElem hk]
 exact List.getElem_mem hk
theorem qP (g:Gr) (hm:aT g=true) (hl:aR g=true):Spec Try.prog 23 (Args [eG g]) [] (.d (sN (fO g))) []:=by
 have hn:=cO hm
 have nU:=jq g hm hl
 have Ih:=fc (G:=ug g)
 have Ii:(ug g).aB.length≤g.es.length:=Ih
 (refine Spec.hd (C:=T.cfg [] []) (rs:= [.t 2]) (T.au _ _) Try.func23 rfl rfl Try.ntmps23 Try.results23 (by simp [AObj.isNest]) (by simp [AObj.isNest]) (by kernel_rfl) T.mixed fun X hX hP hC bf dB=> ?_)
 repeat' (first|refine Rn.p ?_|(with_reducible apply And.intro)|((first|(refine hK _ ?_;clear hK K)|with_reducible intro K hK|refine Rs.p ?_|((with_reducible first|apply oP|apply oQ);exact rfl)|refine aa hX hC hP (nU) rfl rfl rfl (by simp only [go_sem,simprocAttr]) rfl ?_);try simp only [go_sem,simprocAttr])|((with_reducible refine oD ?_ ?_);kernel_rfl)|((with_reducible intro h);try simp only [go_sem,simprocAttr] at h)|omega|intro h)
 refine ah (fun x:Nat=>x≤g.n.toNat) (fun x=>⟨[(1, .ptr 1 0),(3, .d (sNL (ug g).aB)),(4, .ref 10),(5,eN x)], [(10, .tip 3 1 ((dn g x).map rN)),(1, .box [eN g.n, .d (sE g.es)])]⟩) (fun x=>g.n.toNat - x) 0 (Nat.zero_le _) ?_ ?_
 ·refine Le.of ?_ ?_<;>simp [go_sem,simprocAttr,dn]
 rintro x hx
 rcases Nat.lt_or_ge x g.n.toNat with hlt|hge
 rotate_left
 ·have hb:decide ((x:Int)<g.n)=false:=decide_eq_false (by omega)
  obtain rfl:x=g.n.toNat:=by omega
  have fV:dn g g.n.toNat=fO g:=rfl
  repeat' (first|refine Rn.p ?_|(with_reducible apply And.intro)|((first|(refine hK _ ?_;clear hK K)|with_reducible intro K hK|refine Rs.p ?_|((with_reducible first|apply oP|apply oQ);exact rfl));try simp only [go_sem,simprocAttr,hb,fV])|((with_reducible refine oD ?_ ?_);kernel_rfl)|((with_reducible intro h);try simp only [go_sem,simprocAttr,hb,fV] at h)|omega|intro h)
 have hb:decide ((x:Int)<g.n)=true:=decide_eq_true (by omega)
 have bz:=lK (g:=g) (k:=x)
 have bp:=jL (g:=g) (k:=x)
 generalize dn g x=C0 at bz bp ⊢
 have yN:∀k,k<(ug g).aB.length→Spec Try.prog 25 (Args [eG g, .d (sN ((ug g).aB.getD k [])),eN x]) [] (eB ((ug g).bw ((ug g).aB.getD k []) x)) []:=fun k hk=>by
  have hmem:=dg (l:=(ug g).aB) [] hk
  have h1:=su hmem
  have j9:((ug g).aB.getD k []).length≤g.es.length:=h1
  exact pQ g hm _ (fun i hi=>UG.gK hmem hi) (by omega) x
 generalize (ug g).aB=L at*
 repeat' (first|refine Rn.p ?_|(with_reducible apply And.intro)|((first|(refine hK _ ?_;clear hK K)|with_reducible intro K hK|refine Rs.p ?_|((with_reducible first|apply oP|apply oQ);exact rfl));try simp only [go_sem,simprocAttr,hb])|((with_reducible refine oD ?_ ?_);kernel_rfl)|((with_reducible intro h);try simp only [go_sem,simprocAttr,hb] at h)|omega|intro h)
 clear hb
 refine ah (fun k:Nat=>k≤L.length) (fun k=>⟨[(1, .ptr 1 0),(3, .d (sNL L)),(4, .ref 10),(5,eN x),(6,eN (fI g L x k)),(7,eN k)], [(10, .tip 3 1 (C0.map rN)),(1, .box [eN g.n, .d (sE g.es)])]⟩) (fun k=>L.length - k) 0 (Nat.zero_le _) ?_ ?_
 ·refine Le.of ?_ ?_<;>simp [go_sem,simprocAttr,fI]
 rintro k hk
 rcases Nat.lt_or_ge k L.length with hlk|Gl
 rotate_left
 ·have hb:decide ((k:Int)<(L.length:Int))=false:=decide_eq_false (by omega)
  obtain rfl:k=L.length:=by omega
  have hdc:decide ((1:Int)<((fI g L x L.length:Nat):Int))=decide (1<fI g L x L.length):=by rw [decide_eq_decide];omega
  by_cases hc:1<fI g L x L.length
  ·rw [if_pos hc] at bz
   rw [decide_eq_true hc] at hdc
   repeat' (first|(show bB _ (.region 5 _ _) _ _;(refine gu hX 4 37 10 (by simp only [go_sem,simprocAttr,hb,hdc]) rfl (by first|exact .inl rfl|exact .inr rfl) (by decide) ?_;simp only [go_sem,simprocAttr,hb,hdc]))|refine Rn.p ?_|(with_reducible apply And.intro)|((first|(refine hK _ ?_;clear hK K)|with_reducible intro K hK|refine Rs.p ?_|((with_reducible first|apply oP|apply oQ);exact rfl));try simp only [go_sem,simprocAttr,hb,hdc])|((with_reducible refine oD ?_ ?_);kernel_rfl)|((with_reducible intro h);try simp only [go_sem,simprocAttr,hb,hdc] at h)|omega|intro h)
   refine ⟨x+1,by omega, ?_,by omega⟩
   rw [bz]
   refine Le.of ?_ ?_<;>simp [go_sem,simprocAttr,hb,hdc,rN]
  ·rw [if_neg hc] at bz
   rw [decide_eq_false hc] at hdc
   repeat' (first|refine Rn.p ?_|(with_reducible apply And.intro)|((first|(refine hK _ ?_;clear hK K)|with_reducible intro K hK|refine Rs.p ?_|((with_reducible first|apply oP|apply oQ);exact rfl));try simp only [go_sem,simprocAttr,hb,hdc])|((with_reducible refine oD ?_ ?_);kernel_rfl)|((with_reducible intro h);try simp only [go_sem,simprocAttr,hb,hdc] at h)|omega|intro h)
   refine ⟨x+1,by omega, ?_,by omega⟩
   rw [bz]
   refine Le.of ?_ ?_<;>simp [go_sem,simprocAttr,hb,hdc]
 have hb:decide ((k:Int)<(L.length:Int))=true:=decide_eq_true (by omega)
 have mU:=mI (g:=g) (x:=x) hlk
 have fV:=v7 (g:=g) (L:=L) (x:=x) (k:=k)
 have hA:=yN k hlk
 generalize (ug g).bw (L.getD k []) x=q at hA mU
 generalize fI g L x k=c0 at mU fV ⊢
 cases q with
 |true=>
  rw [if_pos rfl] at mU
  repeat' (first|refine Rn.p ?_|(with_reducible apply And.intro)|((first|(refine hK _ ?_;clear hK K)|with_reducible intro K hK|refine Rs.p ?_|((with_reducible first|apply oP|apply oQ);exact rfl)|refine aa hX hC hP (hA) rfl rfl rfl (by simp only [go_sem,simprocAttr,hb]) rfl ?_);try simp only [go_sem,simprocAttr,hb])|((with_reducible refine oD ?_ ?_);kernel_rfl)|((with_reducible intro h);try simp only [go_sem,simprocAttr,hb] at h)|omega|intro h)
  refine ⟨k+1,by omega, ?_,by omega⟩
  rw [mU]
  refine Le.of ?_ ?_<;>simp [go_sem,simprocAttr,hb]
 |false=>
  rw [if_neg (by simp)] at mU
  repeat' (first|refine Rn.p ?_|(with_reducible apply And.intro)|((first|(refine hK _ ?_;clear hK K)|with_reducible intro K hK|refine Rs.p ?_|((with_reducible first|apply oP|apply oQ);exact rfl)|refine aa hX hC hP (hA) rfl rfl rfl (by simp only [go_sem,simprocAttr,hb]) rfl ?_);try simp only [go_sem,simprocAttr,hb])|((with_reducible refine oD ?_ ?_);kernel_rfl)|((with_reducible intro h);try simp only [go_sem,simprocAttr,hb] at h)|omega|intro h)
  refine ⟨k+1,by omega, ?_,by omega⟩
  rw [mU]
  refine Le.of ?_ ?_<;>simp [go_sem,simprocAttr,hb]
end Go.Ab
end
section
namespace Go.Ab
open Go.Proofs Go.RowKit
attribute [local congr] ACall.congr gd.congr Nx.congr
set_option maxRecDepth 20000
set_option maxHeartbeats 8000000
def nI (l:List Nat):List Int:=l.map fun n:Nat=>(n:Int)
theorem sx (l:List Nat):(nI l).map rI=l.map rN:=by simp [nI,rI,rN,Function.comp_def]
theorem mJ (l:List Nat):sN l=sI (nI l):=by unfold sN sI;rw [sx]
def ez (l:List Nat):List Nat:=(td (nI l)).map Int.toNat
theorem yO (l:List Nat):nI (ez l)=td (nI l):=by
 unfold nI ez
 rw [List.map_map]
 have:∀x∈td (nI l),((fun n:Nat=>(n:Int)) ∘ Int.toNat) x=id x:=fun x hx=>by
  have h1:x∈nI l:=(List.mergeSort_perm (nI l) _).mem_iff.1 hx
  obtain ⟨n,_,rfl⟩:=List.mem_map.1 h1
  rfl
 rw [List.map_congr_left this,List.map_id]
 rfl
theorem gN (l:List Nat):(ez l).Perm l:=by
 have h1:(td (nI l)).Perm (nI l):=List.mergeSort_perm _ _
 have h2:=h1.map Int.toNat
 unfold ez
 refine h2.trans ?_
 unfold nI
 rw [List.map_map]
 have:l.map (Int.toNat ∘ fun n:Nat=>(n:Int))=l.map id:=List.map_congr_left fun x _=>rfl
 rw [this,List.map_id]
theorem yd (l:List Nat) (hn:l.Nodup):(ez l).Pairwise (· < ·):=by
 have h1:(td (nI l)).Pairwise fun x y=>decide (x≤y)=true:=List.pairwise_mergeSort (fun a b c h1 h2=>by simp at h1 h2 ⊢;omega) (fun a b=>by simp;omega) _
 have h2:(ez l).Pairwise (· ≤ ·):=by
  rw [← yO] at h1
  unfold nI at h1
  rw [List.pairwise_map] at h1
  exact h1.imp fun h=>by simpa using h
 have h3:(ez l).Nodup:=(gN l).nodup_iff.2 hn
 exact h2.imp₂ (fun a b h1 h2=>by omega) h3
theorem Cr {l:List Nat} :∀r∈l.map rN,∀x∈r,∃v,x=D.sc v:=by
 intro r hr x hx
 obtain ⟨y,_,rfl⟩:=List.mem_map.1 hr
 simp only [rN,List.mem_singleton] at hx
 exact ⟨_,hx⟩
theorem zY (l:List Nat) (i:Nat) (h:i∈l):jF (nI l) (i:Int)=((l.idxOf i:Nat):Int):=by
 unfold jF
 have hlt:l.idxOf i<l.length:=List.idxOf_lt_length_iff.2 h
 have hg:∀j,(nI l).getD j 0=((l.getD j 0:Nat):Int):=fun j=>by
  unfold nI
  rw [List.getD_eq_getElem?_getD,List.getElem?_map,List.getD_eq_getElem?_getD]
  cases l[j]? <;>rfl
 refine jc (d:=0) (by rw [nI,List.length_map];exact hlt) (fun j hj=> ?_) ?_
 ·rw [hg]
  refine decide_eq_false fun e=> ?_
  have e':l.getD j 0=i:=by omega
  rw [List.getD_eq_getElem?_getD,List.getElem?_eq_getElem (by omega)] at e'
  have h1:l[j]=i:=by simpa using e'
  have h2:l.idxOf i≤j:=by
   rw [List.idxOf]
   refine Decidable.byContradiction fun h=> ?_
   have:=List.not_of_lt_findIdx (p:=(· ==i)) (xs:=l) (i:=j) (by omega)
   simp [h1] at this
  omega
 ·rw [hg]
  refine decide_eq_true ?_
  rw [List.getD_eq_getElem?_getD,List.getElem?_eq_getElem hlt]
  simp
theorem pR (ps:List Nat) (x:Nat) (hx:x∈ps) (hl:ps.length≤9223372036854775807):
 Spec Try.prog 74 (Args [.d (sN ps),eN x]) [] (eN ((ps.idxOf x:Nat):Int)) []:=by
 rw [mJ, ← zY ps x hx]
 exact jY _ _ (by rw [nI,List.length_map];exact hl)
theorem nL (l:List Nat) (a:Nat):Spec Try.prog 81 (Args [.vw 10000 1 a]) [(10000, .own 3 1 (l.map rN))] (.fn 107 [] [.ptr 10001 0]) [(10000, .own 3 1 (l.map rN)),(10001, .box [.vw 10000 1 a])]:=by
 (refine Spec.zC (C:=T.cfg [] []) (rs:= [.t 2]) [(10001,1)] (T.au _ _) Try.func81 rfl rfl Try.ntmps81 Try.results81 (by simp [AObj.isNest]) (by simp [AObj.isNest]) (by first|(simp [look];done)|(simp [asN];done)|(intro l hl;simp only [asN];repeat (rw [if_neg (fun e=>by subst e;simp [look] at hl)]))) (by first|(simp [look];done)|(simp [asN];done)|(intro l hl;simp only [asN];repeat (rw [if_neg (fun e=>by subst e;simp [look] at hl)]))) (by kernel_rfl) T.mixed fun X hX hP hC bf dB=> ?_)
 repeat' (first|refine Rn.p ?_|(with_reducible apply And.intro)|((first|(refine hK _ ?_;clear hK K)|with_reducible intro K hK|refine Rs.p ?_|((with_reducible first|apply oP|apply oQ);exact rfl));try simp only [go_sem,simprocAttr])|((with_reducible refine oD ?_ ?_);kernel_rfl)|((with_reducible intro h);try simp only [go_sem,simprocAttr] at h)|omega|intro h)
theorem qQ (g:Gr) (hm:aT g=true) (c1 c2 c3 c4 c5 c6:D) (i x:Nat) (hi:i<g.es.length) (hx:x=(tl g i).toNat∨x=(hd g i).toNat):
 Spec Try.prog 69 (Args [.d (.pt [.sc (.int .i64 g.n),sE g.es,c1,c2,c3,c4,c5,c6]),eN i,eN x]) [] (eN (((ug g).tU i x:Nat):Int)) []:=by
 have hn:=cO hm
 obtain ⟨mX,qd⟩:=dU hm hi
 obtain ⟨u,hu⟩:∃u:Nat,(g.es.getD i (0,0)).1=u:=⟨(g.es.getD i (0,0)).1.toNat,by omega⟩
 obtain ⟨v,hv⟩:∃v:Nat,(g.es.getD i (0,0)).2=v:=⟨(g.es.getD i (0,0)).2.toNat,by omega⟩
 have kg:(tl g i).toNat=u:=by show ((g.es.getD i (0,0)).1).toNat=u;rw [hu];rfl
 have tv:(hd g i).toNat=v:=by show ((g.es.getD i (0,0)).2).toNat=v;rw [hv];rfl
 have ho:(((ug g).tU i x:Nat):Int)=(u:Int)+v - x:=by
  show ((((tl g i).toNat+(hd g i).toNat - x:Nat)):Int)=_
  rw [kg,tv] at hx
  rw [kg,tv]
  omega
 rw [ho]
 (refine Spec.hd (C:=T.cfg [] []) (rs:= [.t 6]) (T.au _ _) Try.func69 rfl rfl Try.ntmps69 Try.results69 (by simp [AObj.isNest]) (by simp [AObj.isNest]) (by kernel_rfl) T.mixed fun X hX hP hC bf dB=> ?_)
 repeat' (first|refine Rn.p ?_|(with_reducible apply And.intro)|((first|(refine hK _ ?_;clear hK K)|with_reducible intro K hK|refine Rs.p ?_|((with_reducible first|apply oP|apply oQ);exact rfl));try simp only [go_sem,simprocAttr,hu,hv])|((with_reducible refine oD ?_ ?_);kernel_rfl)|((with_reducible intro h);try simp only [go_sem,simprocAttr,hu,hv] at h)|omega|intro h)
theorem nM (l:List Nat) (hl:l.length≤1000000):Spec Try.prog 80 (Args [.fn 107 [] [.d (.pt [sN l])]]) [] (.ref 10000) [(10000, .tip 3 1 ((ez l).map rN))]:=by
 rw [mJ, ← sx,yO]
 refine ⟨⟨Try.f80,_,Try.func80,by kernel_rfl,rfl⟩,fun E w vals hg hA=> ?_⟩
 obtain ⟨v,vs,rfl,h0,h3⟩:=hA
 obtain ⟨us,us',rfl,h1,h2⟩:=h0
 obtain ⟨u,Bo,rfl,h4,h5⟩:=h2
 simp only [AVrs] at h1 h5 h3
 subst h1 h5 h3
 simp only [aQ] at h4
 generalize hx:D.pt [sI (nI l)]=x at h4
 cases h4 with
 |sc v h=>cases hx
 |nil p sz=>cases hx
 |sl b off n cap sz rows vs hn hsz hz hcap hc hr=>cases hx
 |pt b off cells vs hz hc hr=>
 obtain rfl:=D.pt.inj hx
 have hc0:=hc 0 (by simp)
 have A3:=hr 0 _ rfl
 have hlt:b<w.heap.size:=by
  refine Decidable.byContradiction fun h=> ?_
  simp [World.cell?,Array.getElem?_eq_none (Nat.le_of_not_lt h)] at hc0
 refine (nx b (vs 0) (nI l) (by rw [nI,List.length_map];omega) w hlt (by simpa using hc0) (xS A3)).mono ?_
 rintro e w' ⟨v,rfl,hrow,hb⟩
 have dm:∀l,aJ [] l=none:=fun l=>by unfold aJ;split<;>rfl
 have hs1:∀(q:Nat) (ob o:AObj),ob.isNest=false→aJ [(10000,ob)] q=some o→q=10000∧o=ob:=fun q ob o hn h=>by
  have hl:look [(10000,ob)] q=some o:=(de (fun p hp=>by
   rw [List.mem_singleton] at hp
   subst hp
   exact hn) h).1
  simp only [look] at hl
  split at hl
  ·rename_i e;cases hl;exact ⟨e.symm,rfl⟩
  ·cases hl
 rw [← qA] at hrow
 generalize td (nI l)=L at hrow
 obtain ⟨r,om,wZ⟩:∃r:Option Nat,(∀q,r=some q→w.heap.size≤q∧q<w'.heap.size)∧((r=none∧L.map rI= []∧∃p,v= .slice p 0 0)∨
  ∃b cur cap,r=some b∧w'.heap[b]? =some (.cells cur 3 (0,0))∧v= .slice (some ⟨b,0,none⟩) (L.map rI).length cap∧(L.map rI).length≤cap∧cap*1=cur.size∧cap≤maxLen∧
   ∀i,i<L.length→cur[i]? =some (.int .i64 (L.getD i 0))):=by
  rcases hrow.2 with ⟨rfl,h0⟩|⟨q,cap,cur,rfl,h1,h2,h3,h4,h5,h6⟩
  ·refine ⟨none,fun _ h=>(by cases h),Or.inl ⟨rfl,by rw [List.eq_nil_of_length_eq_zero h0];rfl,none,rfl⟩⟩
  ·refine ⟨some q,fun _ h=>by cases h;exact ⟨h1,(Array.getElem?_eq_some_iff.1 h2).1⟩,Or.inr ⟨q,cur,cap,rfl,h2,by rw [List.length_map],by rw [List.length_map];exact h3,h5.symm,h4,fun i hi=> ?_⟩⟩
   have h7:(cur.toList.take (L.length*1))[i]? =(L.map (Value.int .i64))[i]? :=by rw [h6]
   rw [List.getElem?_take_of_lt (by omega),Array.getElem?_toList] at h7
   rw [h7,List.getElem?_map,List.getElem?_eq_getElem hi,List.getD_eq_getElem?_getD,List.getElem?_eq_getElem hi]
   rfl
 have oh:dx v:=by
  rcases wZ with ⟨_,_,p,rfl⟩|⟨_,_,_,_,_,rfl,_⟩<;>trivial
 refine ⟨v,⟨fun q=>if q=10000 then r else none,fun q=>if q=10000 then v else E.σ q,fun b=>if b<w.heap.size then E.z b else if r=some b then L.length else 0⟩,rfl,⟨hb.os,hb.tape,hb.output,hb.size,fun b=> ?_,fun b h1 _=>⟨hb.block b h1,by simp [h1]⟩,fun q hq=>absurd (dm q) hq⟩,⟨fun q hq=> ?_,fun q q' b hq fU _ _=> ?_,fun q o hq=> ?_,fun b hb'=> ?_⟩,fun q o b hq _ hb'=> .inl ?_,⟨by simp,oh⟩⟩
 ·by_cases h:b<w.heap.size
  ·exact ⟨by simp [h],fun o _=>hb.cell (p:=⟨b,o,none⟩) h⟩
  ·have h0:=hg.fresh b (by omega)
   exact ⟨by rw [h0];exact Nat.zero_le _,fun o ho=>by rw [h0] at ho;omega⟩
 ·simp only [look] at hq
  split at hq
  ·omega
  ·exact absurd rfl hq
 ·obtain ⟨o,ho⟩:=Option.ne_none_iff_exists'.1 hq
  obtain ⟨o',ho'⟩:=Option.ne_none_iff_exists'.1 fU
  rw [(hs1 q _ o rfl ho).1,(hs1 q' _ o' rfl ho').1]
 ·obtain ⟨rfl,rfl⟩:=hs1 q _ o rfl hq
  refine ⟨fun r hr=> ?_,by decide, ?_⟩
  ·obtain ⟨y,_,rfl⟩:=List.mem_map.1 hr
   rfl
  rcases wZ with ⟨h1,h2,h3⟩|⟨b,cur,cap,h1,h2,h3,h4,h5,h6,h7⟩
  ·exact .inl ⟨by simp [h1],h2,by simpa using h3⟩
  ·refine .inr ⟨b,cur,cap,by simp [h1],h2,by simp [h3],h4,h5,h6, ?_,fun i j r x hi hj=> ?_⟩
   ·have:=(om b h1).1
    simp only [h1,if_true,List.length_map,Nat.mul_one]
    rw [if_neg (by omega)]
   ·rw [List.getElem?_map] at hi
    obtain ⟨y,hy,rfl⟩:=Option.map_eq_some_iff.1 hi
    cases j with
    |succ j=>simp [rI] at hj
    |zero=>
     simp only [rI,List.getElem?_cons_zero,Option.some.injEq] at hj
     subst hj
     have hil:i<L.length:=(List.getElem?_eq_some_iff.1 hy).1
     have h8:=h7 i hil
     rw [List.getD_eq_getElem?_getD,hy] at h8
     exact ⟨_,by simpa using h8, .sc _ rfl⟩
 ·show (if _ then _ else _)=0
  rw [if_neg (by have:=hb.size;omega),if_neg fun h=>by have:=(om b h).2;omega]
 ·obtain ⟨rfl,rfl⟩:=hs1 q _ o rfl hq
  simp only [if_true] at hb'
  exact (om b hb').1
theorem qR (g:Gr) (s:UG.Sc) (i:Nat) (hi:i∈s.stk) (h1:s.stk.length≤100000) (h2:s.blk.length≤100000):
 Spec Try.prog 70 (Args [.ptr 10000 0,eN i])
  [(10000, .box (bX g s.cnt (.ref 10003) (.ref 10004))),(10001, .own 3 1 (s.num.map rN)),(10002, .own 3 1 (s.low.map rN)),(10003, .own 3 1 (s.stk.map rN)),(10004, .own 25 1 (s.blk.map kz))] (.tup [])
  [(10000, .box (bX g s.cnt (.ref 10005) (.ref 10006))),(10001, .own 3 1 (s.num.map rN)),(10002, .own 3 1 (s.low.map rN)),(10005, .own 3 1 ((UG.fE ez s i).stk.map rN)),(10006, .own 25 1 ((UG.fE ez s i).blk.map kz))]:=by
 obtain ⟨num,low,cnt,stk,blk⟩:=s
 simp only at hi h1 h2 ⊢
 have hlt:stk.idxOf i<stk.length:=List.idxOf_lt_length_iff.2 hi
 have hI:=pR stk i hi (by omega)
 have hV:=nL stk (stk.idxOf i)
 have hdl:(stk.drop (stk.idxOf i)).length≤1000000:=by rw [List.length_drop];omega
 have hT:=nM (stk.drop (stk.idxOf i)) hdl
 have e1:(UG.fE ez ⟨num,low,cnt,stk,blk⟩ i).stk=stk.take (stk.idxOf i):=rfl
 have e2:(UG.fE ez ⟨num,low,cnt,stk,blk⟩ i).blk=blk++ [ez (stk.drop (stk.idxOf i))]:=rfl
 rw [e1,e2]
 have yP:∀a,(stk.map rN).drop a=(stk.drop a).map rN:=fun a=>(List.map_drop ..).symm
 generalize stk.idxOf i=a at*
 (refine Spec.zC (C:=T.cfg [25] [21]) (rs:= []) [(10005,34),(10006,25)] (T.au _ _) Try.func70 rfl rfl Try.ntmps70 Try.results70 (by simp [AObj.isNest]) (by simp [AObj.isNest]) (by first|(simp [look];done)|(simp [asN];done)|(intro l hl;simp only [asN];repeat (rw [if_neg (fun e=>by subst e;simp [look] at hl)]))) (by first|(simp [look];done)|(simp [asN];done)|(intro l hl;simp only [asN];repeat (rw [if_neg (fun e=>by subst e;simp [look] at hl)]))) (by kernel_rfl) T.mixed fun X hX hP hC bf dB=> ?_)
 repeat' (first|refine Rn.p ?_|(with_reducible apply And.intro)|((first|(refine hK _ ?_;clear hK K)|with_reducible intro K hK|refine Rs.p ?_|((with_reducible first|apply oP|apply oQ);exact rfl)|(refine bS hX hC hP (hI) rfl rfl rfl ?_ ?_ ?_ ?_;iterate 3 (focus (simp only [go_sem,simprocAttr,bX,yP];done)))|(refine aZ hX hC hP [(10000,10003),(10001,210)] (hV) rfl rfl rfl ?_ ?_ ?_ ?_ ?_ ?_ ?_ ?_ ?_ ?_ ?_ ?_ ?_ ?_;(focus (simp only [go_sem,simprocAttr,bX,yP];done));(iterate 12 (focus (simp [go_sem,simprocAttr,bX,yP];done)));try simp only [List.map_cons,List.map_nil])|(refine o6 hX hC hP 23 (hT) rfl rfl rfl ?_ ?_ (by first|exact ⟨_,_,_,rfl,Ce⟩|exact ⟨_,_,_,rfl,Cf⟩|exact ⟨_,_,_,rfl,Cg⟩|exact ⟨_,_,_,rfl,Cr⟩) rfl (by decide) ?_;(iterate 2 (focus (simp only [go_sem,simprocAttr,bX,yP];done)));simp only [go_sem,simprocAttr,bX,yP]));try simp only [go_sem,simprocAttr,bX,yP])|((with_reducible refine oD ?_ ?_);kernel_rfl)|((with_reducible intro h);try simp only [go_sem,simprocAttr,bX,yP] at h)|omega|intro h)
 all_goals (simp [go_sem,simprocAttr,bX,yP,kz])
end Go.Ab
end
section
namespace Go.Ab
set_option maxRecDepth 10000
set_option linter.unusedSectionVars false
namespace UG
variable {G:UG}
structure Bd (G:UG) (s:Sc):Prop where
 nd:(s.stk++s.blk.flatten).Nodup
 lt:∀e∈s.stk++s.blk.flatten,e<G.m
 ne:∀b∈s.blk,b≠ []
 cn:s.cnt+G.iC s≤G.n
theorem dH:∀ {L:List (List Nat)},(∀b∈L,b≠ [])→L.length≤L.flatten.length
 | [],_=>by simp
 |b::L,h=>by
  have h1:=dH (L:=L) fun c hc=>h c (List.mem_cons_of_mem _ hc)
  have h2:=List.length_pos_iff.2 (h b (by simp))
  simp only [List.length_cons,List.flatten_cons,List.length_append]
  omega
theorem Bd.len {s:Sc} (h:G.Bd s):s.stk.length≤G.m∧s.blk.length≤G.m∧s.cnt≤G.n:=by
 have h1:=h.nd.length_le_of_subset (l₂:=List.range G.m) fun e he=>List.mem_range.2 (h.lt e he)
 rw [List.length_range,List.length_append] at h1
 have h2:=dH h.ne
 have h3:=h.cn
 omega
section
variable (hG:G.Ok) {so:List Nat→List Nat} (hsp:∀l,(so l).Perm l)
include hG
structure Cq (G:UG) (s s':Sc):Prop where
 ln:s'.num.length=s.num.length
 kp:∀v,s.nm v≠0→s'.nm v≠0
 cn:s'.cnt+G.iC s'≤s.cnt+G.iC s
theorem Cq.refl (s:Sc):G.Cq s s:=⟨rfl,fun _ h=>h,Nat.le_refl _⟩
theorem Cq.trans {s t u:Sc} (h:G.Cq s t) (k:G.Cq t u):G.Cq s u:=⟨k.ln.trans h.ln,fun v hv=>k.kp v (h.kp v hv),Nat.le_trans k.cn h.cn⟩
theorem Cq.same {s t:Sc} (h1:t.num=s.num) (h2:t.cnt=s.cnt):G.Cq s t:=by
 have e:∀v,t.nm v=s.nm v:=fun v=>by unfold Sc.nm;rw [h1]
 refine ⟨by rw [h1],fun v hv=>by rw [e];exact hv, ?_⟩
 unfold iC
 simp only [e,h2]
 exact Nat.le_refl _
theorem yQ {s:Sc} {x:Nat} (hl:s.num.length=G.n) (hx:x<G.n) (h0:s.nm x=0):G.Cq s (jv s x):=by
 have hn:∀v,(jv s x).nm v=if v=x then s.cnt+1 else s.nm v:=fun v=>cg (by rw [hl];exact hx)
 have hk:∀v,s.nm v≠0→(jv s x).nm v≠0:=fun v hv=>by rw [hn];split<;>omega
 refine ⟨by simp [jv],hk, ?_⟩
 have:=nC hk hx h0 (by rw [hn,if_pos rfl];omega)
 show s.cnt+1+_≤_
 omega
theorem nN:∀(f:Nat) (s:Sc) (x:Nat) (az:Option Nat),s.num.length=G.n→x<G.n→s.nm x=0→G.Cq s (cI G so f x az s)
 |0,s,x,az,_,_,_=>Cq.refl hG s
 |f+1,s,x,az,hl,hx,h0=>by
  have key:∀(L:List Nat) (s':Sc),(∀e∈L,∃a,G.J e x a)→s'.num.length=G.n→G.Cq s' (L.foldl (bW G so (fun y i=>cI G so f y (some i)) x az) s'):=by
   intro L
   induction L with
   |nil=>intro s' _ _;exact Cq.refl hG s'
   |cons i L ih=>
    intro s' hJ hl'
    obtain ⟨z,hj⟩:=hJ i (by simp)
    have h1:G.Cq s' (bW G so (fun y i=>cI G so f y (some i)) x az s' i):=by
     unfold bW
     rw [nB hj]
     split
     ·exact Cq.refl hG s'
     ·split
      ·rename_i hz
       have h2:=nN f {s' with stk:=s'.stk++ [i]} z (some i) hl' (hj.lt hG).2.1 hz
       have h3:G.Cq s' {s' with stk:=s'.stk++ [i]} :=Cq.same hG rfl rfl
       have h4:=Cq.trans hG h3 h2
       simp only
       split
       ·exact Cq.trans hG h4 (Cq.same hG rfl rfl)
       ·exact Cq.trans hG h4 (Cq.same hG rfl rfl)
      ·split
       ·exact Cq.same hG rfl rfl
       ·exact Cq.refl hG s'
    exact Cq.trans hG h1 (ih _ (fun e he=>hJ e (List.mem_cons_of_mem _ he)) (by rw [h1.ln];exact hl'))
  have h1:=yQ hG hl hx h0
  exact Cq.trans hG h1 (key (G.ends x) (jv s x) (fun e he=>eW.1 he) (by rw [h1.ln];exact hl))
theorem ye (f:Nat) {s:Sc} {x:Nat} {az:Option Nat} (hl:s.num.length=G.n) (hx:x<G.n) (h0:s.nm x=0) (k:Nat):G.Cq s (((G.ends x).take k).foldl (bW G so (fun y i=>cI G so f y (some i)) x az) (jv s x)):=by
 have key:∀(L:List Nat) (s':Sc),(∀e∈L,∃a,G.J e x a)→s'.num.length=G.n→G.Cq s' (L.foldl (bW G so (fun y i=>cI G so f y (some i)) x az) s'):=by
  intro L
  induction L with
  |nil=>intro s' _ _;exact Cq.refl hG s'
  |cons i L ih=>
   intro s' hJ hl'
   obtain ⟨z,hj⟩:=hJ i (by simp)
   have h1:G.Cq s' (bW G so (fun y i=>cI G so f y (some i)) x az s' i):=by
    unfold bW
    rw [nB hj]
    split
    ·exact Cq.refl hG s'
    ·split
     ·rename_i hz
      have h2:=nN hG (so:=so) f {s' with stk:=s'.stk++ [i]} z (some i) hl' (hj.lt hG).2.1 hz
      have h3:G.Cq s' {s' with stk:=s'.stk++ [i]} :=Cq.same hG rfl rfl
      have h4:=Cq.trans hG h3 h2
      simp only
      split
      ·exact Cq.trans hG h4 (Cq.same hG rfl rfl)
      ·exact Cq.trans hG h4 (Cq.same hG rfl rfl)
     ·split
      ·exact Cq.same hG rfl rfl
      ·exact Cq.refl hG s'
   exact Cq.trans hG h1 (ih _ (fun e he=>hJ e (List.mem_cons_of_mem _ he)) (by rw [h1.ln];exact hl'))
 have h1:=yQ hG hl hx h0
 exact Cq.trans hG h1 (key _ (jv s x) (fun e he=>eW.1 (List.mem_of_mem_take he)) (by rw [h1.ln];exact hl))
include hsp
theorem pS (f:Nat) {s:Sc} {y:Nat} {az:Option Nat} {P:List Nat} (hf:G.iC s≤f+1) (hp:G.Pre s y az P):∀k,k≤(G.ends y).length→G.Inv s y az P (fun e=>e∈(G.ends y).take k) (((G.ends y).take k).foldl (bW G so (fun y i=>cI G so f y (some i)) y az) (jv s y))
 |0,_=>eX hG (fun e a _=>by simp) (mC hG hp)
 |k+1,hk=>by
  have hi:=pS f hf hp k (by omega)
  have hlt:k<(G.ends y).length:=by omega
  obtain ⟨z,hj⟩:=eW.1 (List.getElem_mem hlt)
  have hni:(G.ends y)[k]∉(G.ends y).take k:=fun h=>by
   have bG:=nA (G:=G) (x:=y)
   obtain ⟨j,hj1,hj2⟩:=List.mem_iff_getElem.1 h
   rw [List.length_take] at hj1
   rw [List.getElem_take] at hj2
   have:=(List.getElem_inj (h₀:=by omega) (h₁:=hlt) bG).1 hj2
   omega
  have h1:=iZ hG hsp (vis:=fun y i=>cI G so f y (some i)) hp hi (fun i u hk hu=>kr hG hsp f (by
   have h2:=nC (G:=G) (s:=s) (s':=(((G.ends y).take k).foldl (bW G so (fun y i=>cI G so f y (some i)) y az) (jv s y))) (fun v hv=>by rw [(hi.keep v hv).1];exact hv) hp.hy hp.un (by rw [hi.ny];omega)
   unfold iC at h2 hf ⊢
   exact Nat.le_of_lt_succ (Nat.lt_of_lt_of_le h2 hf)) (lH hG hp hi hk hu)) hj hni
  rw [List.take_add_one,List.getElem?_eq_getElem hlt,Option.toList_some,List.foldl_append]
  exact eX hG (fun e a _=>by rw [List.mem_append,List.mem_singleton]) h1
theorem tB (f:Nat) {s:Sc} {y:Nat} {az:Option Nat} {k:Nat} (hk:k<(G.ends y).length):((G.ends y).take (k+1)).foldl (bW G so (fun y i=>cI G so f y (some i)) y az) (jv s y)=bW G so (fun y i=>cI G so f y (some i)) y az (((G.ends y).take k).foldl (bW G so (fun y i=>cI G so f y (some i)) y az) (jv s y)) ((G.ends y).getD k 0):=by
 rw [List.take_add_one,List.getElem?_eq_getElem hk,Option.toList_some,List.foldl_append,List.getD_eq_getElem?_getD,List.getElem?_eq_getElem hk]
 rfl
omit hsp in
theorem v8 {s s':Sc} {y:Nat} {az:Option Nat} {P:List Nat} {h:Nat→Prop} (hb:G.Bd s) (hp:G.Pre s y az P) (hi:G.Inv s y az P h s') (hc:G.Cq s s'):G.Bd s':=by
 obtain ⟨S,B,h1,h2,h3,h4,h5,h6⟩:=hi.sb
 have hnew:∀e∈S++B.flatten,some e≠az∧∃d a,s.nm d=0∧G.J e d a:=fun e he=>by
  obtain ⟨g1,d,a,g2,_,g3⟩:=(h4 e).1 he
  exact ⟨g1,d,a,g2.1,g3⟩
 refine ⟨?_,fun e he=> ?_,fun b hb'=> ?_,Nat.le_trans hc.cn hb.cn⟩
 ·rw [h1,h2,List.flatten_append]
  refine (List.Perm.nodup_iff (l₁:=(s.stk++s.blk.flatten)++(S++B.flatten)) ?_).1 ?_
  ·simp only [List.append_assoc]
   exact List.Perm.append_left _ (List.perm_append_comm_assoc _ _ _)
  ·rw [List.nodup_append]
   refine ⟨hb.nd,h3,fun a ha b hb'=> ?_⟩
   rintro rfl
   obtain ⟨g1,d,c,g2,g3⟩:=hnew a hb'
   rcases hp.EU a ha with h7|h7
   ·exact g1 h7
   ·exact h7 d c g3 g2
 ·simp only [h1,h2,List.flatten_append,List.mem_append] at he
  rcases he with (he|he)|(he|he)
  ·exact hb.lt e (by simp [he])
  ·obtain ⟨_,d,c,_,g3⟩:=hnew e (by simp [he]);exact g3.1
  ·exact hb.lt e (List.mem_append.2 (.inr he))
  ·obtain ⟨_,d,c,_,g3⟩:=hnew e (by simp only [List.mem_append];exact .inr he);exact g3.1
 ·rw [h2] at hb'
  rcases List.mem_append.1 hb' with hb'|hb'
  ·exact hb.ne b hb'
  ·obtain ⟨i,_,hi,_⟩:=h6 b hb'
   rintro rfl
   simp at hi
omit hsp in
theorem yf {s s':Sc} {y:Nat} {az:Option Nat} {P:List Nat} {h:Nat→Prop} (hp:G.Pre s y az P) (hi:G.Inv s y az P h s') (hb:G.Bd s') {i z:Nat} (hj:G.J i y z) (hz:s'.nm z=0):G.Bd {s' with stk:=s'.stk++ [i]} :=by
 have hni:i∉s'.stk++s'.blk.flatten:=fun he=>nE hG hp hi he z y hj.symm hz
 refine ⟨?_,fun e he=> ?_,hb.ne,hb.cn⟩
 ·refine (List.Perm.nodup_iff (l₁:=i::(s'.stk++s'.blk.flatten)) ?_).1 (List.nodup_cons.2 ⟨hni,hb.nd⟩)
  show (i::(s'.stk++s'.blk.flatten)).Perm ((s'.stk++ [i])++s'.blk.flatten)
  rw [List.append_assoc]
  exact List.perm_middle.symm
 ·have he:e∈(s'.stk++ [i])++s'.blk.flatten:=he
  simp only [List.mem_append,List.mem_singleton] at he
  rcases he with (he|rfl)|he
  ·exact hb.lt e (by simp [he])
  ·exact hj.1
  ·exact hb.lt e (List.mem_append.2 (.inr he))
end
end UG
end Go.Ab
end
section
namespace Go.Ab
open Go.Proofs
attribute [local congr] ACall.congr gd.congr Nx.congr
set_option maxRecDepth 20000
set_option maxHeartbeats 16000000
def yR:Option Nat→Int
 |none=> -1
 |some i=>i
theorem zZ {i:Nat} {b:Option Nat} :decide ((i:Int)=yR b)=decide (some i=b):=by
 cases b with
 |none=>simp [yR]
 |some k=>
  rw [Bool.eq_iff_iff,decide_eq_true_eq,decide_eq_true_eq]
  constructor
  ·intro h
   have h':(i:Int)=(k:Int):=h
   have:i=k:=by omega
   rw [this]
  ·intro h
   cases h
   rfl
def aS (g:Gr) (s:UG.Sc) (a b:Nat):List (Nat × AObj):= [(10000, .box (bX g s.cnt (.ref a) (.ref b))),(10001, .own 3 1 (s.num.map rN)),(10002, .own 3 1 (s.low.map rN)),(a, .own 3 1 (s.stk.map rN)),(b, .own 25 1 (s.blk.map kz))]
theorem tC {g:Gr} {x:Nat} (hx:x<g.n.toNat):(((List.range g.n.toNat).map fun x=>(ug g).ends x).map kz).getD x [D.sl 1 []]= [sN ((ug g).ends x)]:=by
 simp [List.getD_eq_getElem?_getD,List.getElem?_range hx,kz]
theorem Cs {n:Nat} :decide ((n:Int)=0)=decide (n=0):=by simp
theorem decLt {a b:Nat} :decide ((a:Int)<(b:Int))=decide (a<b):=by simp
theorem decLe {a b:Nat} :decide ((a:Int)≤(b:Int))=decide (a≤b):=by simp
theorem cQ {a b:Nat} :min (a:Int) (b:Int)=((min a b:Nat):Int):=by omega
section
variable (g:Gr) (hm:aT g=true) (hl:aR g=true)
include hm hl
theorem qS (f:Nat) (ih:∀(s:UG.Sc) (x:Nat) (az:Option Nat) (P:List Nat),(ug g).iC s≤f→(ug g).Pre s x az P→(ug g).Bd s→
 Spec Try.prog 40 (Args [.ptr 10000 0,eN x,eN (yR az)]) (aS g s 10003 10004) (.tup []) (aS g ((ug g).cI ez f x az s) 10005 10006))
 (s:UG.Sc) (x:Nat) (az:Option Nat) (P:List Nat) (hf:(ug g).iC s≤f+1) (hp:(ug g).Pre s x az P) (hb:(ug g).Bd s):
 Spec Try.prog 40 (Args [.ptr 10000 0,eN x,eN (yR az)]) (aS g s 10003 10004) (.tup []) (aS g ((ug g).cI ez (f+1) x az s) 10005 10006):=by
 have hn:=cO hm
 have hG:=mG hm hl
 have ec:=hb.len
 have hx:x<g.n.toNat:=hp.hy
 have uF:(ug g).ends x=(ug g).ends x:=rfl
 have x4:=hp.ln
 have fP:=hp.ll
 have hgd:=tC (g:=g) hx
 have hpi:=UG.pS hG gN f hf hp
 have bz:=fun k hk=>UG.tB hG gN f (s:=s) (y:=x) (az:=az) (k:=k) hk
 have De:=UG.ye hG (so:=ez) f (az:=az) hp.ln hp.hy hp.un
 have hbd:∀k,k≤((ug g).ends x).length→(ug g).Bd ((((ug g).ends x).take k).foldl ((ug g).bW ez (fun y i=>(ug g).cI ez f y (some i)) x az) (UG.jv s x)):=fun k hk=>UG.v8 hG hb hp (hpi k hk) (De k)
 have hres:(ug g).cI ez (f+1) x az s=(((ug g).ends x).take ((ug g).ends x).length).foldl ((ug g).bW ez (fun y i=>(ug g).cI ez f y (some i)) x az) (UG.jv s x):=by rw [List.take_length];rfl
 rw [hres]
 have hlen:((ug g).ends x).length≤g.es.length:=by
  have:=List.length_filter_le (fun i=>decide ((ug g).T i=x)||decide ((ug g).H i=x)) (List.range (ug g).m)
  rw [List.length_range] at this
  exact this
 have hin:UG.jv s x=⟨s.num.set x (s.cnt+1),s.low.set x (s.cnt+1),s.cnt+1,s.stk,s.blk⟩:=rfl
 have Df:(((ug g).ends x).take 0).foldl ((ug g).bW ez (fun y i=>(ug g).cI ez f y (some i)) x az) (UG.jv s x)=⟨s.num.set x (s.cnt+1),s.low.set x (s.cnt+1),s.cnt+1,s.stk,s.blk⟩:=rfl
 obtain ⟨F,hF⟩:∃F:Nat→UG.Sc,F=fun k=>(((ug g).ends x).take k).foldl ((ug g).bW ez (fun y i=>(ug g).cI ez f y (some i)) x az) (UG.jv s x):=⟨_,rfl⟩
 have fZ:∀k,(((ug g).ends x).take k).foldl ((ug g).bW ez (fun y i=>(ug g).cI ez f y (some i)) x az) (UG.jv s x)=F k:=fun k=>by rw [hF]
 simp only [fZ] at hpi bz De hbd Df ⊢
 clear hF fZ hin hres
 obtain ⟨num,low,cnt,stk,blk⟩:=s
 simp only at ec x4 fP Df
 have mU:=hbd 0 (Nat.zero_le _)
 have mU:=mU.len.2.2
 rw [Df] at mU
 have hun:num.length=g.n.toNat:=x4
 have yy:low.length=g.n.toNat:=fP
 simp only [aS]
 (refine Spec.zC (C:=T.cfg [72,141,34,25] []) (rs:= []) [(10005,200),(10006,201)] (T.au _ _) Try.func40 rfl rfl Try.ntmps40 Try.results40 (by simp [AObj.isNest]) (by simp [AObj.isNest]) (by first|(simp [look];done)|(simp [asN];done)|(intro l hl;simp only [asN];repeat (rw [if_neg (fun e=>by subst e;simp [look] at hl)]))) (by first|(simp [look];done)|(simp [asN];done)|(intro l hl;simp only [asN];repeat (rw [if_neg (fun e=>by subst e;simp [look] at hl)]))) (by kernel_rfl) T.mixed fun X hX hP hC bf dB=> ?_)
 repeat' (first|refine Rn.p ?_|(with_reducible apply And.intro)|((first|(refine hK _ ?_;clear hK K)|with_reducible intro K hK|refine Rs.p ?_|((with_reducible first|apply oP|apply oQ);exact rfl));try simp only [go_sem,simprocAttr,aS,bX,hgd,aD,List.length_range])|((with_reducible refine oD ?_ ?_);kernel_rfl)|((with_reducible intro h);try simp only [go_sem,simprocAttr,aS,bX,hgd,aD,List.length_range] at h)|omega|intro h)
 (refine cc hX 10000 6 10003 200 rfl rfl rfl (by first|exact .inl rfl|exact .inr rfl) (by decide) (by decide) ?_;simp only [List.set_cons_zero,List.set_cons_succ,go_sem,simprocAttr,aS,bX,hgd,aD,List.length_range])
 (refine cc hX 10000 7 10004 201 rfl rfl rfl (by first|exact .inl rfl|exact .inr rfl) (by decide) (by decide) ?_;simp only [List.set_cons_zero,List.set_cons_succ,go_sem,simprocAttr,aS,bX,hgd,aD,List.length_range])
 refine ah (fun k:Nat=>k≤((ug g).ends x).length) (fun k=>⟨[(0, .ptr 10000 0),(1,eN x),(2,eN (yR az)),(42, .d (sN ((ug g).ends x))),(43,eN ((ug g).ends x).length),(44,eN k)],aS g (F k) 200 201⟩) (fun k=>((ug g).ends x).length - k) 0 (Nat.zero_le _) ?_ ?_
 ·rw [Df]
  refine Le.of ?_ ?_<;>simp [go_sem,simprocAttr,aS,bX,hgd,aD,List.length_range,rN]
 rintro k hk
 rcases Nat.lt_or_ge k ((ug g).ends x).length with hlt|hge
 rotate_left
 ·have b7:decide ((k:Int)<(((ug g).ends x).length:Int))=false:=decide_eq_false (by omega)
  obtain rfl:k=((ug g).ends x).length:=by omega
  repeat' (first|refine Rn.p ?_|(with_reducible apply And.intro)|((first|(refine hK _ ?_;clear hK K)|with_reducible intro K hK|refine Rs.p ?_|((with_reducible first|apply oP|apply oQ);exact rfl));try simp only [go_sem,simprocAttr,aS,bX,b7])|((with_reducible refine oD ?_ ?_);kernel_rfl)|((with_reducible intro h);try simp only [go_sem,simprocAttr,aS,bX,b7] at h)|omega|intro h)
 have b7:decide ((k:Int)<(((ug g).ends x).length:Int))=true:=decide_eq_true (by omega)
 obtain ⟨i,hik⟩:∃i,((ug g).ends x).getD k 0=i:=⟨_,rfl⟩
 have hmem:i∈(ug g).ends x:=by
  rw [← hik,List.getD_eq_getElem?_getD,List.getElem?_eq_getElem hlt]
  exact List.getElem_mem hlt
 have hni:i∉((ug g).ends x).take k:=fun h=>by
  have bG:=UG.nA (G:=ug g) (x:=x)
  rw [List.getD_eq_getElem?_getD,List.getElem?_eq_getElem hlt,Option.getD_some] at hik
  obtain ⟨j,hj1,hj2⟩:=List.mem_iff_getElem.1 h
  rw [List.length_take] at hj1
  rw [List.getElem_take, ← hik] at hj2
  have:=(List.getElem_inj (h₀:=by omega) (h₁:=hlt) bG).1 hj2
  omega
 obtain ⟨z,hj⟩:=UG.eW.1 hmem
 have hnk:=bz k hlt
 have Fm:=hbd (k+1) (by omega)
 rw [hik] at hnk
 have hi:=hpi k hk
 have hbk:=hbd k hk
 have hpt:=fun h=>UG.lH hG hp hi hj h
 have Ct:=fun h=>UG.yf hG hp hi hbk hj h
 have CZ:=hj.lt hG
 have Ij:z<g.n.toNat:=CZ.2.1
 have Ik:z≠x:=Ne.symm CZ.2.2
 have him:i<g.es.length:=hj.1
 have Gu:x=(tl g i).toNat∨x=(hd g i).toNat:=by
  have:=hj.2
  simp only [ug] at this
  omega
 have Cu:(ug g).iC (F k)<(ug g).iC ⟨num,low,cnt,stk,blk⟩:=UG.nC (fun v hv=>by rw [(hi.keep v hv).1];exact hv) hp.hy hp.un (by rw [hi.ny];omega)
 have Gv:(ug g).tU i x=z:=UG.nB hj
 have hO:=fun (c1 c2 c3 c4 c5 c6:D)=>qQ g hm c1 c2 c3 c4 c5 c6 i x him Gu
 rw [Gv] at hO
 unfold UG.bW at hnk
 rw [Gv] at hnk
 have gB:=zZ (i:=i) (b:=az)
 generalize fZ:F k=s' at hi hbk hnk Cu hpt Ct
 generalize tY:F (k+1)=s'' at hnk Fm
 obtain ⟨num',low',lM,jM,lN⟩:=s'
 have iF:num'.length=g.n.toNat:=hi.ln
 have gU:low'.length=g.n.toNat:=hi.ll
 have AK:=hbk.len
 simp only [ug] at AK
 simp only at hnk hpt Ct
 have Cv:=hO (sNL ((List.range g.n.toNat).map fun x=>(ug g).ends x)) (sN num') (sN low') (.sc (.int .i64 (lM:Int))) (sN jM) (sNL lN)
 have eA:decide (((num'.getD z 0:Nat):Int)=0)=decide (num'.getD z 0=0):=Cs
 by_cases hby:some i=az
 ·rw [if_pos hby] at hnk
  rw [decide_eq_true hby] at gB
  repeat' (first|refine Rn.p ?_|(with_reducible apply And.intro)|((first|(refine hK _ ?_;clear hK K)|with_reducible intro K hK|refine Rs.p ?_|((with_reducible first|apply oP|apply oQ);exact rfl)|(refine bS hX hC hP (Cv) rfl rfl rfl ?_ ?_ ?_ ?_;iterate 3 (focus (simp only [go_sem,simprocAttr,aS,bX,b7,hik,gB,fZ];done))));try simp only [go_sem,simprocAttr,aS,bX,b7,hik,gB,fZ])|((with_reducible refine oD ?_ ?_);kernel_rfl)|((with_reducible intro h);try simp only [go_sem,simprocAttr,aS,bX,b7,hik,gB,fZ] at h)|omega|intro h)
  refine ⟨k+1,by omega, ?_,by omega⟩
  (try simp only []);rw [tY,hnk]
  refine Le.of ?_ ?_<;>simp [go_sem,simprocAttr,aS,bX,b7,hik,gB,fZ]
 rw [if_neg hby] at hnk
 rw [decide_eq_false hby] at gB
 by_cases hz:num'.getD z 0=0
 rotate_left
 ·rw [decide_eq_false hz] at eA
  have xh:¬(⟨num',low',lM,jM,lN⟩:UG.Sc).nm z=0:=hz
  rw [if_neg xh] at hnk
  have hdl:decide (((num'.getD z 0:Nat):Int)<((num'.getD x 0:Nat):Int))=decide (num'.getD z 0<num'.getD x 0):=decLt
  by_cases yg:num'.getD z 0<num'.getD x 0
  ·rw [decide_eq_true yg] at hdl
   have hlt3:(⟨num',low',lM,jM,lN⟩:UG.Sc).nm z<(⟨num',low',lM,jM,lN⟩:UG.Sc).nm x:=yg
   rw [if_pos hlt3] at hnk
   have Fo:s''=⟨num',low'.set x (min (low'.getD x 0) (num'.getD z 0)),lM,jM++ [i],lN⟩:=hnk
   repeat' (first|(show bB _ (.region 16 _ _) _ _;(refine cc hX 10000 6 141 200 rfl rfl rfl (by first|exact .inl rfl|exact .inr rfl) (by decide) (by decide) ?_;simp only [List.set_cons_zero,List.set_cons_succ,go_sem,simprocAttr,aS,bX,b7,hik,gB,fZ,eA,hdl,iF,gU,cQ,aD]))|refine Rn.p ?_|(with_reducible apply And.intro)|((first|(refine hK _ ?_;clear hK K)|with_reducible intro K hK|refine Rs.p ?_|((with_reducible first|apply oP|apply oQ);exact rfl)|(refine bS hX hC hP (Cv) rfl rfl rfl ?_ ?_ ?_ ?_;iterate 3 (focus (simp only [go_sem,simprocAttr,aS,bX,b7,hik,gB,fZ,eA,hdl,iF,gU,cQ,aD];done))));try simp only [go_sem,simprocAttr,aS,bX,b7,hik,gB,fZ,eA,hdl,iF,gU,cQ,aD])|((with_reducible refine oD ?_ ?_);kernel_rfl)|((with_reducible intro h);try simp only [go_sem,simprocAttr,aS,bX,b7,hik,gB,fZ,eA,hdl,iF,gU,cQ,aD] at h)|omega|intro h)
   refine ⟨k+1,by omega, ?_,by omega⟩
   rw [tY,Fo]
   refine Le.of ?_ ?_<;>simp [go_sem,simprocAttr,aS,bX,b7,hik,gB,fZ,eA,hdl,iF,gU,cQ,aD]
   all_goals rfl
  ·rw [decide_eq_false yg] at hdl
   have hlt3:¬(⟨num',low',lM,jM,lN⟩:UG.Sc).nm z<(⟨num',low',lM,jM,lN⟩:UG.Sc).nm x:=yg
   rw [if_neg hlt3] at hnk
   repeat' (first|refine Rn.p ?_|(with_reducible apply And.intro)|((first|(refine hK _ ?_;clear hK K)|with_reducible intro K hK|refine Rs.p ?_|((with_reducible first|apply oP|apply oQ);exact rfl)|(refine bS hX hC hP (Cv) rfl rfl rfl ?_ ?_ ?_ ?_;iterate 3 (focus (simp only [go_sem,simprocAttr,aS,bX,b7,hik,gB,fZ,eA,hdl,iF,gU,cQ,aD];done))));try simp only [go_sem,simprocAttr,aS,bX,b7,hik,gB,fZ,eA,hdl,iF,gU,cQ,aD])|((with_reducible refine oD ?_ ?_);kernel_rfl)|((with_reducible intro h);try simp only [go_sem,simprocAttr,aS,bX,b7,hik,gB,fZ,eA,hdl,iF,gU,cQ,aD] at h)|omega|intro h)
   refine ⟨k+1,by omega, ?_,by omega⟩
   (try simp only []);rw [tY,hnk]
   refine Le.of ?_ ?_<;>simp [go_sem,simprocAttr,aS,bX,b7,hik,gB,fZ,eA,hdl,iF,gU,cQ,aD]
 rw [decide_eq_true hz] at eA
 have xh:(⟨num',low',lM,jM,lN⟩:UG.Sc).nm z=0:=hz
 rw [if_pos xh] at hnk
 have Fp:=hpt xh
 have hbz:=Ct xh
 have hfz:(ug g).iC ⟨num',low',lM,jM++ [i],lN⟩≤f:=Nat.le_of_lt_succ (Nat.lt_of_lt_of_le Cu hf)
 have hV:=ih ⟨num',low',lM,jM++ [i],lN⟩ z (some i) (x::P) hfz Fp hbz
 have Cw:=UG.kr hG gN f hfz Fp
 have lG:=UG.v8 hG hbz Fp Cw (UG.nN hG f _ z (some i) iF Ij xh)
 rw [show yR (some i)=(i:Int) from rfl] at hV
 generalize (ug g).cI ez f z (some i) ⟨num',low',lM,jM++ [i],lN⟩=s1 at hV Cw lG hnk
 obtain ⟨jN,cq,pT,pU,qT⟩:=s1
 have jt:jN.length=g.n.toNat:=Cw.ln
 have hm2:cq.length=g.n.toNat:=Cw.ll
 have Il:=lG.len
 simp only [ug] at Il
 have hi1:i∈pU:=by
  obtain ⟨S,B,h1,_⟩:=Cw.sb
  simp only at h1
  rw [h1]
  simp
 have cG:jM.map rN++ [[D.sc (.int .i64 (i:Int))]]=(jM++ [i]).map rN:=by simp [rN]
 have bI:(cq.set x (min (cq.getD x 0) (cq.getD z 0))).getD z 0=cq.getD z 0:=by
  rw [UG.cg (by omega),if_neg Ik]
 have kq:(if (⟨jN,cq.set x (min (cq.getD x 0) (cq.getD z 0)),pT,pU,qT⟩:UG.Sc).nm x≤(⟨jN,cq.set x (min (cq.getD x 0) (cq.getD z 0)),pT,pU,qT⟩:UG.Sc).lw z then UG.fE ez ⟨jN,cq.set x (min (cq.getD x 0) (cq.getD z 0)),pT,pU,qT⟩ i else ⟨jN,cq.set x (min (cq.getD x 0) (cq.getD z 0)),pT,pU,qT⟩)=s'':=hnk.symm
 have bz:(⟨jN,cq.set x (min (cq.getD x 0) (cq.getD z 0)),pT,pU,qT⟩:UG.Sc).nm x=jN.getD x 0:=rfl
 have hlz:(⟨jN,cq.set x (min (cq.getD x 0) (cq.getD z 0)),pT,pU,qT⟩:UG.Sc).lw z=cq.getD z 0:=bI
 rw [bz,hlz] at kq
 have hdc:decide (((jN.getD x 0:Nat):Int)≤((cq.getD z 0:Nat):Int))=decide (jN.getD x 0≤cq.getD z 0):=decLe
 clear hnk
 by_cases hc:jN.getD x 0≤cq.getD z 0
 ·rw [if_pos hc] at kq
  rw [decide_eq_true hc] at hdc
  have Fq:=qR g ⟨jN,cq.set x (min (cq.getD x 0) (cq.getD z 0)),pT,pU,qT⟩ i hi1 (by simp only;omega) (by simp only;omega)
  have hc1:s''.cnt=pT:=by rw [← kq];rfl
  have x9:s''.num=jN:=by rw [← kq];rfl
  have xd:s''.low=cq.set x (min (cq.getD x 0) (cq.getD z 0)):=by rw [← kq];rfl
  rw [kq] at Fq
  repeat' (first|(show bB _ (.region 16 _ _) _ _;(refine cc hX 10000 6 204 200 rfl rfl rfl (by first|exact .inl rfl|exact .inr rfl) (by decide) (by decide) ?_;simp only [List.set_cons_zero,List.set_cons_succ,go_sem,simprocAttr,aS,bX,b7,hik,gB,fZ,eA,hdc,iF,gU,jt,hm2,cQ,aD,cG,bI]);(refine cc hX 10000 7 205 201 rfl rfl rfl (by first|exact .inl rfl|exact .inr rfl) (by decide) (by decide) ?_;simp only [List.set_cons_zero,List.set_cons_succ,go_sem,simprocAttr,aS,bX,b7,hik,gB,fZ,eA,hdc,iF,gU,jt,hm2,cQ,aD,cG,bI]))|refine Rn.p ?_|(with_reducible apply And.intro)|((first|(refine hK _ ?_;clear hK K)|with_reducible intro K hK|refine Rs.p ?_|((with_reducible first|apply oP|apply oQ);exact rfl)|(refine bS hX hC hP (Cv) rfl rfl rfl ?_ ?_ ?_ ?_;iterate 3 (focus (simp only [go_sem,simprocAttr,aS,bX,b7,hik,gB,fZ,eA,hdc,iF,gU,jt,hm2,cQ,aD,cG,bI];done)))|(refine aZ hX hC hP [(10000,10000),(10001,10001),(10002,10002),(10003,72),(10004,201),(10005,202),(10006,203)] (hV) rfl rfl rfl ?_ ?_ ?_ ?_ ?_ ?_ ?_ ?_ ?_ ?_ ?_ ?_ ?_ ?_;(focus (simp only [go_sem,simprocAttr,aS,bX,b7,hik,gB,fZ,eA,hdc,iF,gU,jt,hm2,cQ,aD,cG,bI];done));(iterate 12 (focus (simp [go_sem,simprocAttr,aS,bX,b7,hik,gB,fZ,eA,hdc,iF,gU,jt,hm2,cQ,aD,cG,bI];done)));try simp only [List.map_cons,List.map_nil])|(refine aZ hX hC hP [(10000,10000),(10001,10001),(10002,10002),(10003,202),(10004,203),(10005,204),(10006,205)] (Fq) rfl rfl rfl ?_ ?_ ?_ ?_ ?_ ?_ ?_ ?_ ?_ ?_ ?_ ?_ ?_ ?_;(focus (simp only [go_sem,simprocAttr,aS,bX,b7,hik,gB,fZ,eA,hdc,iF,gU,jt,hm2,cQ,aD,cG,bI];done));(iterate 12 (focus (simp [go_sem,simprocAttr,aS,bX,b7,hik,gB,fZ,eA,hdc,iF,gU,jt,hm2,cQ,aD,cG,bI];done)));try simp only [List.map_cons,List.map_nil]));try simp only [go_sem,simprocAttr,aS,bX,b7,hik,gB,fZ,eA,hdc,iF,gU,jt,hm2,cQ,aD,cG,bI])|((with_reducible refine oD ?_ ?_);kernel_rfl)|((with_reducible intro h);try simp only [go_sem,simprocAttr,aS,bX,b7,hik,gB,fZ,eA,hdc,iF,gU,jt,hm2,cQ,aD,cG,bI] at h)|omega|intro h)
  refine ⟨k+1,by omega, ?_,by omega⟩
  rw [tY]
  refine Le.of ?_ ?_<;>simp [go_sem,simprocAttr,aS,bX,b7,hik,gB,fZ,eA,hdc,iF,gU,jt,hm2,cQ,aD,cG,bI,hc1,x9,xd]
 ·rw [if_neg hc] at kq
  rw [decide_eq_false hc] at hdc
  repeat' (first|(show bB _ (.region 16 _ _) _ _;(refine cc hX 10000 6 202 200 rfl rfl rfl (by first|exact .inl rfl|exact .inr rfl) (by decide) (by decide) ?_;simp only [List.set_cons_zero,List.set_cons_succ,go_sem,simprocAttr,aS,bX,b7,hik,gB,fZ,eA,hdc,iF,gU,jt,hm2,cQ,aD,cG,bI]);(refine cc hX 10000 7 203 201 rfl rfl rfl (by first|exact .inl rfl|exact .inr rfl) (by decide) (by decide) ?_;simp only [List.set_cons_zero,List.set_cons_succ,go_sem,simprocAttr,aS,bX,b7,hik,gB,fZ,eA,hdc,iF,gU,jt,hm2,cQ,aD,cG,bI]))|refine Rn.p ?_|(with_reducible apply And.intro)|((first|(refine hK _ ?_;clear hK K)|with_reducible intro K hK|refine Rs.p ?_|((with_reducible first|apply oP|apply oQ);exact rfl)|(refine bS hX hC hP (Cv) rfl rfl rfl ?_ ?_ ?_ ?_;iterate 3 (focus (simp only [go_sem,simprocAttr,aS,bX,b7,hik,gB,fZ,eA,hdc,iF,gU,jt,hm2,cQ,aD,cG,bI];done)))|(refine aZ hX hC hP [(10000,10000),(10001,10001),(10002,10002),(10003,72),(10004,201),(10005,202),(10006,203)] (hV) rfl rfl rfl ?_ ?_ ?_ ?_ ?_ ?_ ?_ ?_ ?_ ?_ ?_ ?_ ?_ ?_;(focus (simp only [go_sem,simprocAttr,aS,bX,b7,hik,gB,fZ,eA,hdc,iF,gU,jt,hm2,cQ,aD,cG,bI];done));(iterate 12 (focus (simp [go_sem,simprocAttr,aS,bX,b7,hik,gB,fZ,eA,hdc,iF,gU,jt,hm2,cQ,aD,cG,bI];done)));try simp only [List.map_cons,List.map_nil])|(refine aZ hX hC hP [(10000,10000),(10001,10001),(10002,10002),(10003,202),(10004,203),(10005,204),(10006,205)] (Fq) rfl rfl rfl ?_ ?_ ?_ ?_ ?_ ?_ ?_ ?_ ?_ ?_ ?_ ?_ ?_ ?_;(focus (simp only [go_sem,simprocAttr,aS,bX,b7,hik,gB,fZ,eA,hdc,iF,gU,jt,hm2,cQ,aD,cG,bI];done));(iterate 12 (focus (simp [go_sem,simprocAttr,aS,bX,b7,hik,gB,fZ,eA,hdc,iF,gU,jt,hm2,cQ,aD,cG,bI];done)));try simp only [List.map_cons,List.map_nil]));try simp only [go_sem,simprocAttr,aS,bX,b7,hik,gB,fZ,eA,hdc,iF,gU,jt,hm2,cQ,aD,cG,bI])|((with_reducible refine oD ?_ ?_);kernel_rfl)|((with_reducible intro h);try simp only [go_sem,simprocAttr,aS,bX,b7,hik,gB,fZ,eA,hdc,iF,gU,jt,hm2,cQ,aD,cG,bI] at h)|omega|intro h)
  refine ⟨k+1,by omega, ?_,by omega⟩
  rw [tY, ← kq]
  refine Le.of ?_ ?_<;>simp [go_sem,simprocAttr,aS,bX,b7,hik,gB,fZ,eA,hdc,iF,gU,jt,hm2,cQ,aD,cG,bI]
theorem lP:∀(f:Nat) (s:UG.Sc) (x:Nat) (az:Option Nat) (P:List Nat),(ug g).iC s≤f→(ug g).Pre s x az P→(ug g).Bd s→
 Spec Try.prog 40 (Args [.ptr 10000 0,eN x,eN (yR az)]) (aS g s 10003 10004) (.tup []) (aS g ((ug g).cI ez f x az s) 10005 10006)
 |0,s,x,az,P,hf,hp,hb=>by
  exfalso
  have h1:(ug g).iC s≠0:=by
   unfold UG.iC
   intro h
   rw [List.countP_eq_zero] at h
   exact h x (List.mem_range.2 hp.hy) (decide_eq_true hp.un)
  omega
 |f+1,s,x,az,P,hf,hp,hb=>qS g hm hl f (lP f) s x az P hf hp hb
end
end Go.Ab
end
