/- A part of the proof. -/
import Derived.Test.YtchjjbfhlchpfaaGreatL6P15
set_option linter.unusedSimpArgs false
set_option linter.unusedVariables false
section
namespace Go.Ab
open Go.Proofs
attribute [local congr] ACall.congr gd.congr Nx.congr
set_option maxRecDepth 10000
def CW (g:Gr):Bool:=decide (g.n≤((aP g).length:Int))
def SC (g:Gr):List Int:=if CW g then aP g else []
def gC (l:List Int) (n:Int):Bool:=decide ((l.length:Int)=n)&&(List.range n.toNat).all fun x:Nat=>decide ((x:Int)∈l)
theorem ig {l:List Int} {x:Int} :decide (ff l x<0)= !decide (x∈l):=by
 rw [Bool.eq_iff_iff]
 simp only [decide_eq_true_eq,Bool.not_eq_true',decide_eq_false_iff_not]
 constructor
 ·intro h hm
  obtain ⟨k,hk,_⟩:=ef hm
  omega
 ·intro h
  rcases fD (f:=fun y:Int=>decide (x=y)) (l:=l) 0 with ⟨h1,_⟩|⟨q,_,h2,h3,_⟩
  ·unfold ff;omega
  ·exact absurd (by rw [of_decide_eq_true h3];exact ic h2) h
theorem cC (l:List Int) (n:Int) (hl:l.length≤9223372036854775807):Spec Tryz.prog 163 (Args [.d (sI l),eN n]) [] (eB (gC l n)) []:=by
 (refine Spec.hd (C:=T.cfg [] []) (rs:= [.t 4]) (T.aj _ _) Tryz.func163 rfl rfl Tryz.ntmps163 Tryz.results163 (by simp [AObj.isNest]) (by simp [AObj.isNest]) (by kernel_rfl) T.mixed fun X hX hP hC aJ b7=> ?_)
 repeat' (first|refine Rn.p ?_|(with_reducible apply And.intro)|((first|(refine hK _ ?_;clear hK K)|with_reducible intro K hK|refine Rs.p ?_|((with_reducible first|apply oP|apply oQ);exact rfl)|refine aa hX hC hP (bt l (k:Int) hl) rfl rfl rfl (by simp only [go_sem,simprocAttr,ig]) rfl ?_);try simp only [go_sem,simprocAttr,ig])|((with_reducible refine oD ?_ ?_);kernel_rfl)|((with_reducible intro h);try simp only [go_sem,simprocAttr,ig] at h)|omega|intro h)
 ·have hne:¬(l.length:Int)=n:=by assumption
  simp [gC,hne]
 have Ef:(l.length:Int)=n:=by assumption
 refine ah (fun k:Nat=>(k:Int)≤n∧∀j,j<k→(j:Int)∈l) (fun k=>⟨[(0, .d (sI l)),(1,eN n),(5,eN k)], []⟩) (fun k=>n.toNat - k) 0 (by simp;omega) ?_ ?_
 ·(refine ⟨cj ?_,fun _ _ h=>h⟩;simp [go_sem,simprocAttr,ig])
 rintro k ⟨hk,hin⟩
 repeat' (first|refine Rn.p ?_|(with_reducible apply And.intro)|((first|(refine hK _ ?_;clear hK K)|with_reducible intro K hK|refine Rs.p ?_|((with_reducible first|apply oP|apply oQ);exact rfl)|refine aa hX hC hP (bt l (k:Int) hl) rfl rfl rfl (by simp only [go_sem,simprocAttr,ig]) rfl ?_);try simp only [go_sem,simprocAttr,ig])|((with_reducible refine oD ?_ ?_);kernel_rfl)|((with_reducible intro h);try simp only [go_sem,simprocAttr,ig] at h)|omega|intro h)
 ·have hlt:(k:Int)<n:=by assumption
  have hm:(List.range n.toNat).all (fun x:Nat=>decide ((x:Int)∈l))=false:=by
   rw [List.all_eq_false]
   exact ⟨k,List.mem_range.2 (by omega),by simpa using h⟩
  simp only [gC,hm,Bool.and_false]
 ·refine ⟨k+1,⟨by omega,fun j hj=> ?_⟩, ?_,by omega⟩
  ·by_cases hjk:j=k
   ·subst hjk;exact h
   ·exact hin j (by omega)
  ·(refine ⟨cj ?_,fun _ _ h=>h⟩;simp [go_sem,simprocAttr,ig])
 ·have hm:(List.range n.toNat).all (fun x:Nat=>decide ((x:Int)∈l))=true:=by
   rw [List.all_eq_true]
   intro x hx
   exact decide_eq_true (hin x (by have:=List.mem_range.1 hx;omega))
  simp only [gC,hm,Bool.and_true]
  exact (decide_eq_true Ef).symm
end Go.Ab
end
section
namespace Go.Ab
open Go.Proofs
attribute [local congr] ACall.congr gd.congr Nx.congr
set_option maxRecDepth 10000
theorem count_le:∀(xs l:List Int),xs.Nodup→(∀x∈xs,x∈l)→xs.length≤l.countP (fun y=>decide (y∈xs))
 | [],_,_,_=>Nat.zero_le _
 |a::r,l,hd,h=>by
  obtain ⟨h1,h2⟩:=List.nodup_cons.1 hd
  have ih:=count_le r l h2 fun x hx=>h x (List.mem_cons_of_mem _ hx)
  have hp:=lF (p:=fun y=>decide (y∈a::r)) (q:=fun y=>decide (y∈r)) (r:=fun y=>decide (y=a)) (l:=l) (fun y _=>by
   by_cases hy:y=a
   ·subst hy;simp [h1]
   ·simp [hy])
  have ha:0<l.countP (fun y=>decide (y=a)):=List.countP_pos_iff.2 ⟨a,h a List.mem_cons_self,by simp⟩
  rw [hp,List.length_cons];omega
def eC (n:Nat):List Int:=(List.range n).map Int.ofNat
theorem dh {n:Nat} {x:Int} :x∈eC n↔0≤x∧x<n:=by
 simp only [eC,List.mem_map,List.mem_range]
 constructor
 ·rintro ⟨a,h,rfl⟩;simp;omega
 ·intro h;exact ⟨x.toNat,by omega,by simp;omega⟩
theorem lJ {n:Nat} :(eC n).Nodup:=by
 unfold eC
 exact List.Pairwise.map _ (fun a b h e=>h (Int.ofNat.inj e)) List.nodup_range
theorem cl {l:List Int} {n:Int} :gC l n=true↔(l.length:Int)=n∧∀x∈eC n.toNat,x∈l:=by
 simp only [gC,Bool.and_eq_true,decide_eq_true_eq,List.all_eq_true,List.mem_range]
 constructor
 ·rintro ⟨h1,h2⟩
  refine ⟨h1,fun x hx=> ?_⟩
  obtain ⟨a,b⟩:=dh.1 hx
  have:=h2 x.toNat (by omega)
  rwa [show ((x.toNat:Nat):Int)=x from by omega] at this
 ·rintro ⟨h1,h2⟩
  exact ⟨h1,fun x hx=>h2 _ (dh.2 (by omega))⟩
theorem uJ {l:List Int} {n:Int} (h:gC l n=true):∀x∈l,0≤x∧x<n:=by
 obtain ⟨h1,h2⟩:=cl.1 h
 have hc:=count_le (eC n.toNat) l lJ h2
 have hlen:(eC n.toNat).length=n.toNat:=by simp [eC]
 have he:l.countP (fun y=>decide (y∈eC n.toNat))=l.length:=by
  have:=List.countP_le_length (p:=fun y=>decide (y∈eC n.toNat)) (l:=l)
  omega
 intro x hx
 have:=List.countP_eq_length.1 he x hx
 have:=dh.1 (of_decide_eq_true this)
 omega
def Bm (n:Nat) (l:List Int):Nat→List Int
 |0=>List.replicate n 0
 |k+1=>(Bm n l k).set (l.getD k 0).toNat k
theorem atK_length {n:Nat} {l:List Int} :∀ {k:Nat},(Bm n l k).length=n
 |0=>by simp [Bm]
 |k+1=>by simp [Bm,atK_length (k:=k)]
def GO (g:Gr) (l:List Int) (j:Nat):Bool:=(List.range j).all fun i=>decide ((Bm g.n.toNat l l.length).getD (tl g i).toNat 0<(Bm g.n.toNat l l.length).getD (hd g i).toNat 0)
def yA (g:Gr) (l:List Int):Bool:=gC l g.n&&GO g l g.es.length
attribute [go_sem] atK_length
end Go.Ab
end
section
namespace Go.Ab
def Ua (g:Gr) (out:List Int):Prop:=∀p,p<out.length→out.getD p 0=ff (cM g (out.take p)) 0∧0≤out.getD p 0
theorem CX {g:Gr} (hm:aM g=true) (h:CW g=true):gC (aP g) g.n=true:=by
 obtain ⟨hP,_,_⟩:=gK hm
 have hn:=aH hm
 have hf:=hP.fuel
 have hok:=of_decide_eq_true h
 refine cl.2 ⟨by omega,fun x hx=> ?_⟩
 obtain ⟨h1,h2⟩:=dh.1 hx
 have h0:(List.range g.n.toNat).countP (fun y:Nat=> !decide ((y:Int)∈aP g))=0:=by omega
 have:=List.countP_eq_zero.1 h0 x.toNat (List.mem_range.2 (by omega))
 rw [show ((x.toNat:Nat):Int)=x from by omega] at this
 simpa using this
theorem CY {g:Gr} (hm:aM g=true) (h:CW g=false):∃y:Nat,y<g.n.toNat∧(y:Int)∉aP g:=by
 obtain ⟨hP,_,_⟩:=gK hm
 have hn:=aH hm
 have hf:=hP.fuel
 have hok:=of_decide_eq_false h
 have h0:0<(List.range g.n.toNat).countP (fun y:Nat=> !decide ((y:Int)∈aP g)):=by omega
 obtain ⟨y,hy,hp⟩:=List.countP_pos_iff.1 h0
 exact ⟨y,List.mem_range.1 hy,by simpa using hp⟩
theorem GP {g:Gr} {l:List Int} (h:yA g l=true) {i:Nat} (hi:i<g.es.length):(Bm g.n.toNat l l.length).getD (tl g i).toNat 0<(Bm g.n.toNat l l.length).getD (hd g i).toNat 0:=by
 simp only [yA,Bool.and_eq_true] at h
 have:=List.all_eq_true.1 h.2 i (List.mem_range.2 hi)
 exact of_decide_eq_true this
theorem uK {n:Nat} {l:List Int} :∀ {k:Nat} {y:Nat},0≤(Bm n l k).getD y 0
 |0,y=>by
  simp only [Bm,List.getD_eq_getElem?_getD,List.getElem?_replicate]
  split<;>simp
 |k+1,y=>by
  have ih:=uK (n:=n) (l:=l) (k:=k) (y:=y)
  simp only [Bm,List.getD_eq_getElem?_getD,List.getElem?_set] at ih ⊢
  split
  ·split<;>simp
  ·exact ih
theorem yB {l:List Int} {i j:Nat} (hij:i<j) (hj:j<l.length) (e:l.getD i 0=l.getD j 0):∀x∈l,x∈l.eraseIdx i:=by
 intro x hx
 obtain ⟨k,hk,rfl⟩:=List.getElem_of_mem hx
 rw [List.mem_iff_getElem?]
 rcases Nat.lt_trichotomy k i with h|h|h
 ·exact ⟨k,by rw [List.getElem?_eraseIdx,if_pos h,List.getElem?_eq_getElem hk]⟩
 ·subst h
  refine ⟨j - 1, ?_⟩
  rw [List.getElem?_eraseIdx,if_neg (by omega),show j - 1+1=j from by omega,List.getElem?_eq_getElem hj]
  rw [List.getD_eq_getElem?_getD,List.getD_eq_getElem?_getD,List.getElem?_eq_getElem hk,List.getElem?_eq_getElem hj] at e
  exact congrArg some e.symm
 ·exact ⟨k - 1,by rw [List.getElem?_eraseIdx,if_neg (by omega),show k - 1+1=k from by omega,List.getElem?_eq_getElem hk]⟩
theorem lK {l:List Int} {n:Int} (h:gC l n=true) {i j:Nat} (hi:i<l.length) (hj:j<l.length) (e:l.getD i 0=l.getD j 0):i=j:=by
 obtain ⟨h1,h2⟩:=cl.1 h
 have key:∀i j,i<j→j<l.length→l.getD i 0=l.getD j 0→False:=by
  intro i j hij hj e
  have hc:=count_le (eC n.toNat) (l.eraseIdx i) lJ fun x hx=>yB hij hj e x (h2 x hx)
  have hlen:(eC n.toNat).length=n.toNat:=by simp [eC]
  have hle:=List.countP_le_length (p:=fun y=>decide (y∈eC n.toNat)) (l:=l.eraseIdx i)
  rw [List.length_eraseIdx_of_lt (by omega)] at hle
  omega
 rcases Nat.lt_trichotomy i j with h|h|h
 ·exact (key i j h hj e).elim
 ·exact h
 ·exact (key j i h hi e.symm).elim
theorem BY {l:List Int} {n:Int} (h:gC l n=true) {p:Nat} :∀ {k:Nat},p<k→k≤l.length→(Bm n.toNat l k).getD (l.getD p 0).toNat 0=p
 |0,hp,_=>by omega
 |k+1,hp,hk=>by
  have hlo:=uJ h
  have hp1:=hlo _ (ic (l:=l) (m:=p) (by omega))
  have y4:=hlo _ (ic (l:=l) (m:=k) (by omega))
  simp only [Bm,List.getD_eq_getElem?_getD (l:=(Bm n.toNat l k).set _ _),List.getElem?_set,atK_length]
  by_cases hpk:p=k
  ·subst hpk
   rw [if_pos rfl,if_pos (by omega)];rfl
  ·have hne:¬(l.getD k 0).toNat=(l.getD p 0).toNat:=fun e=>hpk (lK h (i:=p) (j:=k) (by omega) (by omega) (by omega))
   rw [if_neg hne, ← List.getD_eq_getElem?_getD]
   exact BY h (by omega) (by omega)
theorem Em {g:Gr} (hm:aM g=true) (h:CW g=true):yA g (aP g)=true:=by
 have he:=CX hm h
 obtain ⟨hP,hO,_⟩:=gK hm
 have hall:=(cl.1 he).2
 simp only [yA,he,Bool.true_and,GO,List.all_eq_true,List.mem_range,decide_eq_true_eq]
 intro i hi
 have hh:=bF hm hi
 obtain ⟨p,hp,e⟩:=List.getElem_of_mem (hall (hd g i) (dh.2 (by omega)))
 have e':(aP g).getD p 0=hd g i:=by rw [List.getD_eq_getElem?_getD,List.getElem?_eq_getElem hp];exact e
 have ht:=hO p hp i hi e'.symm
 rw [List.mem_iff_getElem?] at ht
 obtain ⟨q,hq⟩:=ht
 rw [List.getElem?_take] at hq
 split at hq
 ·rename_i SB
  have e2:(aP g).getD q 0=tl g i:=by rw [List.getD_eq_getElem?_getD,hq];rfl
  rw [← e', ← e2,BY he hp (Nat.le_refl _),BY he (by omega) (Nat.le_refl _)]
  omega
 ·cases hq
end Go.Ab
end
section
namespace Go.Ab
open Go.Proofs
attribute [local congr] ACall.congr gd.congr Nx.congr
set_option maxRecDepth 10000
end Go.Ab
end
section
namespace Go.Ab
open Go.Proofs
attribute [local congr] ACall.congr gd.congr Nx.congr
set_option maxRecDepth 10000
def gz:Gr:=⟨0, []⟩
def vz:D:= .pt [.sc (.int .i64 0), .sl 2 [], .sl 1 [], .sl 1 []]
def bA (f:Edge→Int) (g:Gr) (x:Int):List Int:=if 0≤x∧x<g.n then aK f g.es g.es.length x else []
theorem uL (f:Edge→Int) (g:Gr) (hm:aM g=true) (x:Int):Spec Tryz.prog 98 (Args [.d (vw g), .d (.sl 1 (IV f g)),eN x]) [] (.d (sI (bA f g x))) []:=by
 rw [aA]
 have hn:=aH hm
 have hl':(aK f g.es g.es.length x).length≤1000000:=by have:=gJ (f:=f) (es:=g.es) (k:=g.es.length) (x:=x);omega
 (refine Spec.hd (C:=T.cfg [] []) (rs:= [.t 6]) (T.aj _ _) Tryz.func98 rfl rfl Tryz.ntmps98 Tryz.results98 (by simp [AObj.isNest]) (by simp [AObj.isNest]) (by kernel_rfl) T.mixed fun X hX hP hC aJ b7=> ?_)
 by_cases hx:0≤x∧x<g.n
 ·have hv:=pL (f:=f) (g:=g) (x:=x.toNat) (by omega)
  have he:fO f g.es g.es.length x.toNat=aK f g.es g.es.length x:=by rw [mL,show ((x.toNat:Nat):Int)=x from by omega]
  rw [he] at hv
  have hb1:decide (x<0)=false:=decide_eq_false (by omega)
  have hb2:decide (g.n≤x)=false:=decide_eq_false (by omega)
  have ht:bA f g x=aK f g.es g.es.length x:=if_pos hx
  repeat' (first|refine Rn.p ?_|(with_reducible apply And.intro)|((first|(refine hK _ ?_;clear hK K)|with_reducible intro K hK|refine Rs.p ?_|((with_reducible first|apply oP|apply oQ);exact rfl)|refine aa hX hC hP (gZ (aK f g.es g.es.length x) hl') rfl rfl rfl (by simp only [go_sem,simprocAttr,hv,hb1,hb2]) rfl ?_);try simp only [go_sem,simprocAttr,hv,hb1,hb2])|((with_reducible refine oD ?_ ?_);kernel_rfl)|((with_reducible intro h);try simp only [go_sem,simprocAttr,hv,hb1,hb2] at h)|omega|intro h)
  simp [ht]
 ·have ht:bA f g x= []:=if_neg hx
  repeat' (first|refine Rn.p ?_|(with_reducible apply And.intro)|((first|(refine hK _ ?_;clear hK K)|with_reducible intro K hK|refine Rs.p ?_|((with_reducible first|apply oP|apply oQ);exact rfl)|refine aa hX hC hP (gZ (aK f g.es g.es.length x) hl') rfl rfl rfl (by simp only [go_sem,simprocAttr,ht]) rfl ?_);try simp only [go_sem,simprocAttr,ht])|((with_reducible refine oD ?_ ?_);kernel_rfl)|((with_reducible intro h);try simp only [go_sem,simprocAttr,ht] at h)|omega|intro h)
theorem iZ (g:Gr) (hm:aM g=true) (x:Int):Spec Tryz.prog 45 (Args [.d (vw g),eN x]) [] (.d (sI (bA (·.1) g x))) []:=by
 (refine Spec.hd (C:=T.cfg [] []) (rs:= [.t 4]) (T.aj _ _) Tryz.func45 rfl rfl Tryz.ntmps45 Tryz.results45 (by simp [AObj.isNest]) (by simp [AObj.isNest]) (by kernel_rfl) T.mixed fun X hX hP hC aJ b7=> ?_)
 repeat' (first|refine Rn.p ?_|(with_reducible apply And.intro)|((first|(refine hK _ ?_;clear hK K)|with_reducible intro K hK|refine Rs.p ?_|((with_reducible first|apply oP|apply oQ);exact rfl)|refine aa hX hC hP (uL (·.1) g hm x) rfl rfl rfl (by simp only [go_sem,simprocAttr,aA]) rfl ?_);try simp only [go_sem,simprocAttr,aA])|((with_reducible refine oD ?_ ?_);kernel_rfl)|((with_reducible intro h);try simp only [go_sem,simprocAttr,aA] at h)|omega|intro h)
theorem kH (g:Gr) (hm:aM g=true) (x:Int):Spec Tryz.prog 172 (Args [.d (vw g),eN x]) [] (.d (sI (bA (·.2) g x))) []:=by
 (refine Spec.hd (C:=T.cfg [] []) (rs:= [.t 4]) (T.aj _ _) Tryz.func172 rfl rfl Tryz.ntmps172 Tryz.results172 (by simp [AObj.isNest]) (by simp [AObj.isNest]) (by kernel_rfl) T.mixed fun X hX hP hC aJ b7=> ?_)
 repeat' (first|refine Rn.p ?_|(with_reducible apply And.intro)|((first|(refine hK _ ?_;clear hK K)|with_reducible intro K hK|refine Rs.p ?_|((with_reducible first|apply oP|apply oQ);exact rfl)|refine aa hX hC hP (uL (·.2) g hm x) rfl rfl rfl (by simp only [go_sem,simprocAttr,aA]) rfl ?_);try simp only [go_sem,simprocAttr,aA])|((with_reducible refine oD ?_ ?_);kernel_rfl)|((with_reducible intro h);try simp only [go_sem,simprocAttr,aA] at h)|omega|intro h)
end Go.Ab
end
section
namespace Go.Ab
open Go.Proofs
attribute [local congr] ACall.congr gd.congr Nx.congr
set_option maxRecDepth 10000
abbrev It:=Int × Int × Int
def rT (t:It):List D:= [.sc (.int .i64 t.1), .sc (.int .i64 t.2.1), .sc (.int .i64 t.2.2)]
def eT (t:It):AV:= .agg [.d (.sc (.int .i64 t.1)), .d (.sc (.int .i64 t.2.1)), .d (.sc (.int .i64 t.2.2))]
def sT (ts:List It):D:= .sl 3 (ts.map rT)
theorem getD_rT (ps:List It) (i:Nat):(ps.map rT).getD i [.sc (.int .i64 0), .sc (.int .i64 0), .sc (.int .i64 0)]=rT (ps.getD i (0,0,0)):=by
 simp only [List.getD_eq_getElem?_getD,List.getElem?_map]
 cases ps[i]? <;>rfl
theorem rT_eq (t:It):rT t= [.sc (.int .i64 t.1), .sc (.int .i64 t.2.1), .sc (.int .i64 t.2.2)]:=rfl
attribute [go_sem] getD_rT rT_eq eT sT
theorem rD {l:List Int} :∀r∈l.map rI,∀x∈r,∃v,x=D.sc v:=by
 intro r hr x hx
 obtain ⟨y,_,rfl⟩:=List.mem_map.1 hr
 simp only [rI,List.mem_singleton] at hx
 exact ⟨_,hx⟩
theorem rH {l:List It} :∀r∈l.map rT,∀x∈r,∃v,x=D.sc v:=by
 intro r hr x hx
 obtain ⟨y,_,rfl⟩:=List.mem_map.1 hr
 simp only [rT,List.mem_cons,List.not_mem_nil,or_false] at hx
 rcases hx with h|h|h<;>exact ⟨_,h⟩
theorem aE {α:Type} {l:List α} {m:Nat} {d:α} (h:m<l.length):l.getD m d∈l:=by
 rw [List.getD_eq_getElem?_getD,List.getElem?_eq_getElem h];exact List.getElem_mem h
theorem rJ (ps:List It) (hl:ps.length≤1000000):
 Spec Tryz.prog 127 (Args [.d (sT ps)]) [] (.ref 10000) [(10000, .tip 100 3 (ps.map rT))]:=by
 (refine Spec.uf (C:=T.cfg [] []) (rs:= [.t 2]) [(10000,7)] (T.aj _ _) Tryz.func127 rfl rfl Tryz.ntmps127 Tryz.results127 (by simp [AObj.isNest]) (by simp [AObj.isNest]) (by first|(simp [look];done)|(simp [asN];done)|(intro l hl;simp only [asN];repeat (rw [if_neg (fun e=>by subst e;simp [look] at hl)]))) (by first|(simp [look];done)|(simp [asN];done)|(intro l hl;simp only [asN];repeat (rw [if_neg (fun e=>by subst e;simp [look] at hl)]))) (by kernel_rfl) T.mixed fun X hX hP hC aJ b7=> ?_)
 repeat' (first|(show bW _ .ret _ _;(try simp only [go_sem,simprocAttr]);refine dX hX 2 7 (.tip 100 3 []) ?_ ?_ (by decide) ⟨100,3,by decide, .inr rfl⟩ ?_;(iterate 2 (focus (simp only [go_sem,simprocAttr];done)));simp only [go_sem,simprocAttr])|refine Rn.p ?_|(with_reducible apply And.intro)|((first|(refine hK _ ?_;clear hK K)|with_reducible intro K hK|refine Rs.p ?_|((with_reducible first|apply oP|apply oQ);exact rfl));try simp only [go_sem,simprocAttr])|((with_reducible refine oD ?_ ?_);kernel_rfl)|((with_reducible intro h);try simp only [go_sem,simprocAttr] at h)|omega|intro h)
 exact h.symm
theorem yC (ps:List Int) (hl:ps.length≤1000000):
 Spec Tryz.prog 71 (Args [.d (sI ps)]) [] (.ref 10000) [(10000, .tip 3 1 (ps.map rI))]:=by
 (refine Spec.uf (C:=T.cfg [] []) (rs:= [.t 2]) [(10000,7)] (T.aj _ _) Tryz.func71 rfl rfl Tryz.ntmps71 Tryz.results71 (by simp [AObj.isNest]) (by simp [AObj.isNest]) (by first|(simp [look];done)|(simp [asN];done)|(intro l hl;simp only [asN];repeat (rw [if_neg (fun e=>by subst e;simp [look] at hl)]))) (by first|(simp [look];done)|(simp [asN];done)|(intro l hl;simp only [asN];repeat (rw [if_neg (fun e=>by subst e;simp [look] at hl)]))) (by kernel_rfl) T.mixed fun X hX hP hC aJ b7=> ?_)
 repeat' (first|(show bW _ .ret _ _;(try simp only [go_sem,simprocAttr]);refine dX hX 2 7 (.tip 3 1 []) ?_ ?_ (by decide) ⟨3,1,by decide, .inr rfl⟩ ?_;(iterate 2 (focus (simp only [go_sem,simprocAttr];done)));simp only [go_sem,simprocAttr])|refine Rn.p ?_|(with_reducible apply And.intro)|((first|(refine hK _ ?_;clear hK K)|with_reducible intro K hK|refine Rs.p ?_|((with_reducible first|apply oP|apply oQ);exact rfl));try simp only [go_sem,simprocAttr])|((with_reducible refine oD ?_ ?_);kernel_rfl)|((with_reducible intro h);try simp only [go_sem,simprocAttr] at h)|omega|intro h)
 exact h.symm
theorem lZ {m:List (Nat × AObj)} (hR:bE m) (f:Nat) (caps:List AV) (g:It→Bool) (ps:List It) (hf:∀p∈ps,Spec Tryz.prog f (Args (eT p::caps)) m (eB (g p)) m) (hl:ps.length≤9223372036854775807):
 Spec Tryz.prog 212 (Args [.d (sT ps), .fn f [] caps]) m (eN (bX g ps)) m:=by
 (refine Spec.hd (C:=T.cfg [] []) (rs:= [.t 4]) (T.aj _ _) Tryz.func212 rfl rfl Tryz.ntmps212 Tryz.results212 (fun p hp=>⟨(bE.low hR p hp).1,bE.nest hR p hp⟩) (fun p hp=>⟨(bE.low hR p hp).2,bE.nest hR p hp⟩) (by kernel_rfl) T.mixed fun X hX hP hC aJ b7=> ?_)
 repeat' (first|refine Rn.p ?_|(with_reducible apply And.intro)|((first|(refine hK _ ?_;clear hK K)|with_reducible intro K hK|refine Rs.p ?_|((with_reducible first|apply oP|apply oQ);exact rfl));try simp only [go_sem,simprocAttr])|((with_reducible refine oD ?_ ?_);kernel_rfl)|((with_reducible intro h);try simp only [go_sem,simprocAttr] at h)|omega|intro h)
 refine ah (fun k:Nat=>k≤ps.length∧∀j,j<k→g (ps.getD j (0,0,0))=false) (fun k=>⟨[(0, .d (sT ps)),(1, .fn f [] caps),(7,eN ps.length),(8,eN k)],m⟩) (fun k=>ps.length - k) 0 (by simp) ?_ ?_
 ·(refine ⟨cj ?_,fun _ _ h=>h⟩;simp [go_sem,simprocAttr])
 rintro k ⟨hk,hg⟩
 rcases Nat.lt_or_ge k ps.length with hlt|hge
 ·have hb:decide ((k:Int)<(ps.length:Int))=true:=decide_eq_true (by omega)
  have hf':=hf (ps.getD k (0,0,0)) (aE hlt)
  repeat' (first|refine Rn.p ?_|(with_reducible apply And.intro)|((first|(refine hK _ ?_;clear hK K)|with_reducible intro K hK|refine Rs.p ?_|((with_reducible first|apply oP|apply oQ);exact rfl)|(first|(refine bq hX hC hP hR (hf') rfl rfl rfl ?_ ?_ rfl rfl ?_;(focus (simp only [go_sem,simprocAttr,hb];done));(focus (first|(intro p hp;exact aT (bE.nd hR) hp)|(simp [go_sem,simprocAttr,hb];done))))|(refine bq hX hC hP hR (hf') rfl rfl rfl ?_ ?_ ?_ rfl ?_;(focus (simp only [go_sem,simprocAttr,hb];done));(focus (first|(intro p hp;exact aT (bE.nd hR) hp)|(simp [go_sem,simprocAttr,hb];done)));(focus (simp [go_sem,simprocAttr,hb];done)))));try simp only [go_sem,simprocAttr,hb])|((with_reducible refine oD ?_ ?_);kernel_rfl)|((with_reducible intro h);try simp only [go_sem,simprocAttr,hb] at h)|omega|intro h)
  ·exact (c8 (by omega) hg h).symm
  ·exact gi hR
  ·refine ⟨k+1,⟨by omega,fun j hj=> ?_⟩, ?_,by omega⟩
   ·by_cases hjk:j=k
    ·subst hjk;exact h
    ·exact hg j (by omega)
   ·(refine ⟨cj ?_,fun _ _ h=>h⟩;simp [go_sem,simprocAttr,hb])
 ·have hb:decide ((k:Int)<(ps.length:Int))=false:=decide_eq_false (by omega)
  repeat' (first|refine Rn.p ?_|(with_reducible apply And.intro)|((first|(refine hK _ ?_;clear hK K)|with_reducible intro K hK|refine Rs.p ?_|((with_reducible first|apply oP|apply oQ);exact rfl)|(first|(refine bq hX hC hP hR (hf') rfl rfl rfl ?_ ?_ rfl rfl ?_;(focus (simp only [go_sem,simprocAttr,hb];done));(focus (first|(intro p hp;exact aT (bE.nd hR) hp)|(simp [go_sem,simprocAttr,hb];done))))|(refine bq hX hC hP hR (hf') rfl rfl rfl ?_ ?_ ?_ rfl ?_;(focus (simp only [go_sem,simprocAttr,hb];done));(focus (first|(intro p hp;exact aT (bE.nd hR) hp)|(simp [go_sem,simprocAttr,hb];done)));(focus (simp [go_sem,simprocAttr,hb];done)))));try simp only [go_sem,simprocAttr,hb])|((with_reducible refine oD ?_ ?_);kernel_rfl)|((with_reducible intro h);try simp only [go_sem,simprocAttr,hb] at h)|omega|intro h)
  ·exact (cO (0,0,0) fun j hj=>hg j (by omega)).symm
  ·exact gi hR
theorem oI {m:List (Nat × AObj)} (hR:bE m) (f:Nat) (caps:List AV) (g:It→Bool) (ps:List It) (hf:∀p∈ps,Spec Tryz.prog f (Args (eT p::caps)) m (eB (g p)) m) (hl:ps.length≤9223372036854775807):
 Spec Tryz.prog 197 (Args [.d (sT ps), .fn f [] caps]) m (eB (ps.any g)) m:=by
 (refine Spec.hd (C:=T.cfg [] []) (rs:= [.t 4]) (T.aj _ _) Tryz.func197 rfl rfl Tryz.ntmps197 Tryz.results197 (fun p hp=>⟨(bE.low hR p hp).1,bE.nest hR p hp⟩) (fun p hp=>⟨(bE.low hR p hp).2,bE.nest hR p hp⟩) (by kernel_rfl) T.mixed fun X hX hP hC aJ b7=> ?_)
 repeat' (first|refine Rn.p ?_|(with_reducible apply And.intro)|((first|(refine hK _ ?_;clear hK K)|with_reducible intro K hK|refine Rs.p ?_|((with_reducible first|apply oP|apply oQ);exact rfl)|(first|(refine bq hX hC hP hR (lZ hR f caps g ps hf hl) rfl rfl rfl ?_ ?_ rfl rfl ?_;(focus (simp only [go_sem,simprocAttr];done));(focus (first|(intro p hp;exact aT (bE.nd hR) hp)|(simp [go_sem,simprocAttr];done))))|(refine bq hX hC hP hR (lZ hR f caps g ps hf hl) rfl rfl rfl ?_ ?_ ?_ rfl ?_;(focus (simp only [go_sem,simprocAttr];done));(focus (first|(intro p hp;exact aT (bE.nd hR) hp)|(simp [go_sem,simprocAttr];done)));(focus (simp [go_sem,simprocAttr];done)))));try simp only [go_sem,simprocAttr])|((with_reducible refine oD ?_ ?_);kernel_rfl)|((with_reducible intro h);try simp only [go_sem,simprocAttr] at h)|omega|intro h)
 ·exact fL g ps
 ·exact gi hR
theorem ju (n:Int) (h0:0<n) (hl:n≤1000000):Spec Tryz.prog 199 (Args [.nil 100,eN n]) [] (.ref 10000) [(10000, .own 100 3 [])]:=by
 (refine Spec.uf (C:=T.cfg [] []) (rs:= [.t 4]) [(10000,25)] (T.aj _ _) Tryz.func199 rfl rfl Tryz.ntmps199 Tryz.results199 (by simp [AObj.isNest]) (by simp [AObj.isNest]) (by first|(simp [look];done)|(simp [asN];done)|(intro l hl;simp only [asN];repeat (rw [if_neg (fun e=>by subst e;simp [look] at hl)]))) (by first|(simp [look];done)|(simp [asN];done)|(intro l hl;simp only [asN];repeat (rw [if_neg (fun e=>by subst e;simp [look] at hl)]))) (by kernel_rfl) T.mixed fun X hX hP hC aJ b7=> ?_)
 repeat' (first|refine Rn.p ?_|(with_reducible apply And.intro)|((first|(refine hK _ ?_;clear hK K)|with_reducible intro K hK|refine Rs.p ?_|((with_reducible first|apply oP|apply oQ);exact rfl));try simp only [go_sem,simprocAttr])|((with_reducible refine oD ?_ ?_);kernel_rfl)|((with_reducible intro h);try simp only [go_sem,simprocAttr] at h)|omega|intro h)
def vT (ls:List (List It)):List (List D):=ls.map fun l=> [sT l]
theorem vT_length {ls:List (List It)} :(vT ls).length=ls.length:=by simp [vT]
theorem pP {ls:List (List It)} {k:Nat} (h:k<ls.length) (d:List D):(vT ls).getD k d= [sT (ls.getD k [])]:=by
 simp [vT,List.getD_eq_getElem?_getD,List.getElem?_eq_getElem h]
attribute [go_sem] vT_length
theorem uM {α:Type} {ls:List (List α)} {k:Nat} (h:k<ls.length):(ls.take (k+1)).flatten=(ls.take k).flatten++ls.getD k []:=by
 rw [List.take_add_one,List.flatten_append,List.getElem?_eq_getElem h,List.getD_eq_getElem?_getD,List.getElem?_eq_getElem h]
 simp
theorem pQ {α:Type} {ls:List (List α)} {k:Nat} :(ls.take k).flatten.length≤ls.flatten.length:=by
 have:=congrArg (fun x=>x.flatten.length) (List.take_append_drop k ls)
 simp only [List.flatten_append,List.length_append] at this
 omega
theorem yD (ls:List (List It)) (hn:ls.length≤1000) (h0:0<ls.flatten.length) (hl:ls.flatten.length≤1000000):Spec Tryz.prog 174 (Args [.d (.sl 1 (vT ls))]) [] (.d (sT ls.flatten)) []:=by
 (refine Spec.hd (C:=T.cfg [] []) (rs:= [.t 2]) (T.aj _ _) Tryz.func174 rfl rfl Tryz.ntmps174 Tryz.results174 (by simp [AObj.isNest]) (by simp [AObj.isNest]) (by kernel_rfl) T.mixed fun X hX hP hC aJ b7=> ?_)
 repeat' (first|refine Rn.p ?_|(with_reducible apply And.intro)|((first|(refine hK _ ?_;clear hK K)|with_reducible intro K hK|refine Rs.p ?_|((with_reducible first|apply oP|apply oQ);exact rfl)|(refine au hX hC hP [(10000,33)] (ju (ls.flatten.length:Int) (by omega) (by omega)) rfl rfl rfl ?_ ?_ ?_ ?_ ?_ ?_ ?_ ?_ ?_ ?_ ?_ ?_ ?_ ?_;(focus (simp only [go_sem,simprocAttr];done));(iterate 12 (focus (simp [go_sem,simprocAttr];done)));try simp only [List.map_cons,List.map_nil]));try simp only [go_sem,simprocAttr])|((with_reducible refine oD ?_ ?_);kernel_rfl)|((with_reducible intro h);try simp only [go_sem,simprocAttr] at h)|omega|intro h)
 refine ah (fun k:Nat=>k≤ls.length) (fun k=>⟨[(0, .d (.sl 1 (vT ls))),(9, .d (.sl 1 (vT ls))),(10,eN ls.length),(11,eN k),(3,eN ((ls.take k).flatten.length))], []⟩) (fun k=>ls.length - k) 0 (by omega) ?_ ?_
 ·(refine Le.of ?_ ?_<;>simp [go_sem,simprocAttr])
 ·rintro k hk
  rcases Nat.lt_or_ge k ls.length with hlt|hge
  ·have hb:decide ((k:Int)<(ls.length:Int))=true:=decide_eq_true (by omega)
   have hv:=pP hlt
   have hf:=uM hlt
   have NY:=pQ (ls:=ls) (k:=k)
   have KS:=pQ (ls:=ls) (k:=k+1)
   rw [hf,List.length_append] at KS
   have hneg:decide (((ls.take k).flatten.length:Int)+((ls.getD k []).length:Int)<0)=false:=decide_eq_false (by omega)
   repeat' (first|refine Rn.p ?_|(with_reducible apply And.intro)|((first|(refine hK _ ?_;clear hK K)|with_reducible intro K hK|refine Rs.p ?_|((with_reducible first|apply oP|apply oQ);exact rfl)|(refine au hX hC hP [(10000,33)] (ju (ls.flatten.length:Int) (by omega) (by omega)) rfl rfl rfl ?_ ?_ ?_ ?_ ?_ ?_ ?_ ?_ ?_ ?_ ?_ ?_ ?_ ?_;(focus (simp only [go_sem,simprocAttr,hb,hv,hneg];done));(iterate 12 (focus (simp [go_sem,simprocAttr,hb,hv,hneg];done)));try simp only [List.map_cons,List.map_nil]));try simp only [go_sem,simprocAttr,hb,hv,hneg])|((with_reducible refine oD ?_ ?_);kernel_rfl)|((with_reducible intro h);try simp only [go_sem,simprocAttr,hb,hv,hneg] at h)|omega|intro h)
   refine ⟨k+1,by omega, ?_,by omega⟩
   simp only [hf]
   refine Le.of ?_ ?_<;>simp [go_sem,simprocAttr,hb,hv,hneg]
  ·have hb:decide ((k:Int)<(ls.length:Int))=false:=decide_eq_false (by omega)
   have ht:ls.take k=ls:=List.take_of_length_le (by omega)
   repeat' (first|refine Rn.p ?_|(with_reducible apply And.intro)|((first|(refine hK _ ?_;clear hK K)|with_reducible intro K hK|refine Rs.p ?_|((with_reducible first|apply oP|apply oQ);exact rfl)|(refine au hX hC hP [(10000,33)] (ju (ls.flatten.length:Int) (by omega) (by omega)) rfl rfl rfl ?_ ?_ ?_ ?_ ?_ ?_ ?_ ?_ ?_ ?_ ?_ ?_ ?_ ?_;(focus (simp only [go_sem,simprocAttr,hb,ht];done));(iterate 12 (focus (simp [go_sem,simprocAttr,hb,ht];done)));try simp only [List.map_cons,List.map_nil]));try simp only [go_sem,simprocAttr,hb,ht])|((with_reducible refine oD ?_ ?_);kernel_rfl)|((with_reducible intro h);try simp only [go_sem,simprocAttr,hb,ht] at h)|omega|intro h)
   refine ah (fun k:Nat=>k≤ls.length) (fun k=>⟨[(25, .d (.sl 1 (vT ls))),(26,eN ls.length),(27,eN k),(6, .ref 33)], [(33, .own 100 3 ((ls.take k).flatten.map rT))]⟩) (fun k=>ls.length - k) 0 (by omega) ?_ ?_
   ·(refine Le.of ?_ ?_<;>simp [go_sem,simprocAttr,hb,ht])
   ·clear hb ht hk hge
    rintro k hk
    rcases Nat.lt_or_ge k ls.length with hlt|hge
    ·have hb:decide ((k:Int)<(ls.length:Int))=true:=decide_eq_true (by omega)
     have hv:=pP hlt
     have hf:=uM hlt
     have NY:=pQ (ls:=ls) (k:=k)
     have KS:=pQ (ls:=ls) (k:=k+1)
     rw [hf,List.length_append] at KS
     repeat' (first|refine Rn.p ?_|(with_reducible apply And.intro)|((first|(refine hK _ ?_;clear hK K)|with_reducible intro K hK|refine Rs.p ?_|((with_reducible first|apply oP|apply oQ);exact rfl)|(refine au hX hC hP [(10000,33)] (ju (ls.flatten.length:Int) (by omega) (by omega)) rfl rfl rfl ?_ ?_ ?_ ?_ ?_ ?_ ?_ ?_ ?_ ?_ ?_ ?_ ?_ ?_;(focus (simp only [go_sem,simprocAttr,hb,hv];done));(iterate 12 (focus (simp [go_sem,simprocAttr,hb,hv];done)));try simp only [List.map_cons,List.map_nil]));try simp only [go_sem,simprocAttr,hb,hv])|((with_reducible refine oD ?_ ?_);kernel_rfl)|((with_reducible intro h);try simp only [go_sem,simprocAttr,hb,hv] at h)|omega|intro h)
     refine ⟨k+1,by omega, ?_,by omega⟩
     simp only [hf]
     refine Le.of ?_ ?_<;>simp [go_sem,simprocAttr,hb,hv]
    ·have hb:decide ((k:Int)<(ls.length:Int))=false:=decide_eq_false (by omega)
     have ht:ls.take k=ls:=List.take_of_length_le (by omega)
     repeat' (first|refine Rn.p ?_|(with_reducible apply And.intro)|((first|(refine hK _ ?_;clear hK K)|with_reducible intro K hK|refine Rs.p ?_|((with_reducible first|apply oP|apply oQ);exact rfl)|(refine au hX hC hP [(10000,33)] (ju (ls.flatten.length:Int) (by omega) (by omega)) rfl rfl rfl ?_ ?_ ?_ ?_ ?_ ?_ ?_ ?_ ?_ ?_ ?_ ?_ ?_ ?_;(focus (simp only [go_sem,simprocAttr,hb,ht];done));(iterate 12 (focus (simp [go_sem,simprocAttr,hb,ht];done)));try simp only [List.map_cons,List.map_nil]));try simp only [go_sem,simprocAttr,hb,ht])|((with_reducible refine oD ?_ ?_);kernel_rfl)|((with_reducible intro h);try simp only [go_sem,simprocAttr,hb,ht] at h)|omega|intro h)
end Go.Ab
end
section
namespace Go.Ab
open Go.Proofs
attribute [local congr] ACall.congr gd.congr Nx.congr
set_option maxRecDepth 10000
set_option maxHeartbeats 1000000
structure Fr where
 row:List It
 pl:List Int
def gw (g:Gr) (f:Fr):D:= .pt [sT f.row,vw g,sI f.pl]
def cH (row:List It) (x:Int):Nat→Int × Int × Int
 |0=>(-1,0,0)
 |k+1=>if (row.getD k (0,0,0)).2.2=x then (if (cH row x k).1= -1 then (k:Int) else (cH row x k).1,(k:Int)+1,(cH row x k).2.2+1) else cH row x k
def bh (row:List It) (x:Int):Int × Int × Int:=cH row x row.length
theorem fE {row:List It} {x:Int} {k:Nat} :cH row x (k+1)=if (row.getD k (0,0,0)).2.2=x then (if (cH row x k).1= -1 then (k:Int) else (cH row x k).1,(k:Int)+1,(cH row x k).2.2+1) else cH row x k:=rfl
theorem di {row:List It} {x:Int} :∀k:Nat,(cH row x k=(-1,0,0)∧∀j,j<k→(row.getD j (0,0,0)).2.2≠x)∨
 ∃a b c:Nat,cH row x k=((a:Int),(b:Int),(c:Int))∧a<b∧b≤k∧0<c∧c≤k∧(row.getD a (0,0,0)).2.2=x∧(row.getD (b - 1) (0,0,0)).2.2=x∧(∀j,j<a→(row.getD j (0,0,0)).2.2≠x)∧(∀j,b≤j→j<k→(row.getD j (0,0,0)).2.2≠x)
 |0=> .inl ⟨rfl,fun j hj=>by omega⟩
 |k+1=>by
  rw [fE]
  by_cases hx:(row.getD k (0,0,0)).2.2=x
  ·rw [if_pos hx]
   right
   rcases di (row:=row) (x:=x) k with ⟨h1,h2⟩|⟨a,b,c,h1,h2,h3,h4,h5,h6,h7,h8,h9⟩
   ·refine ⟨k,k+1,1,by rw [h1];rfl,by omega,by omega,by omega,by omega,hx,hx,h2,fun j h1 h2=>by omega⟩
   ·refine ⟨a,k+1,c+1,by rw [h1];simp only [Prod.mk.injEq];exact ⟨by rw [if_neg (by omega)],by omega,by omega⟩,by omega,by omega,by omega,by omega,h6,hx,h8,fun j h1 h2=>by omega⟩
  ·rw [if_neg hx]
   rcases di (row:=row) (x:=x) k with ⟨h1,h2⟩|⟨a,b,c,h1,h2,h3,h4,h5,h6,h7,h8,h9⟩
   ·refine .inl ⟨h1,fun j hj=> ?_⟩
    by_cases hjk:j=k
    ·subst hjk;exact hx
    ·exact h2 j (by omega)
   ·refine .inr ⟨a,b,c,h1,h2,by omega,h4,by omega,h6,h7,h8,fun j QZ PR=> ?_⟩
    by_cases hjk:j=k
    ·subst hjk;exact hx
    ·exact h9 j QZ (by omega)
theorem eO (ds:List D) (row:List It) (x:Int) (hl:row.length≤1000000):Spec Tryz.prog 124 (Args [.d (.pt (sT row::ds)),eN x]) [] (.tup [eN (bh row x).1,eN (bh row x).2.1,eN (bh row x).2.2]) []:=by
 (refine Spec.hd (C:=T.cfg [] []) (rs:= [.t 4, .t 5, .t 6]) (T.aj _ _) Tryz.func124 rfl rfl Tryz.ntmps124 Tryz.results124 (by simp [AObj.isNest]) (by simp [AObj.isNest]) (by kernel_rfl) T.mixed fun X hX hP hC aJ b7=> ?_)
 repeat' (first|refine Rn.p ?_|(with_reducible apply And.intro)|((first|(refine hK _ ?_;clear hK K)|with_reducible intro K hK|refine Rs.p ?_|((with_reducible first|apply oP|apply oQ);exact rfl));try simp only [go_sem,simprocAttr,bh])|((with_reducible refine oD ?_ ?_);kernel_rfl)|((with_reducible intro h);try simp only [go_sem,simprocAttr,bh] at h)|omega|intro h)
 refine ah (fun k:Nat=>k≤row.length) (fun k=>⟨[(1,eN x),(12, .d (sT row)),(13,eN row.length),(14,eN k),(4,eN (cH row x k).1),(5,eN (cH row x k).2.1),(6,eN (cH row x k).2.2)], []⟩) (fun k=>row.length - k) 0 (by simp) ?_ ?_
 ·refine Le.of ?_ ?_<;>simp [go_sem,simprocAttr,bh,cH]
 rintro k hk
 rcases Nat.lt_or_ge k row.length with hlt|hge
 ·have hb:decide ((k:Int)<(row.length:Int))=true:=decide_eq_true (by omega)
  have hok:=di (row:=row) (x:=x) k
  have hc: -1≤(cH row x k).2.2∧(cH row x k).2.2≤k:=by
   rcases hok with ⟨h1,_⟩|⟨a,b,c,h1,_,_,_,_,_⟩<;>rw [h1]<;>simp only<;>omega
  have b9:=fE (row:=row) (x:=x) (k:=k)
  repeat' (first|refine Rn.p ?_|(with_reducible apply And.intro)|((first|(refine hK _ ?_;clear hK K)|with_reducible intro K hK|refine Rs.p ?_|((with_reducible first|apply oP|apply oQ);exact rfl));try simp only [go_sem,simprocAttr,hb])|((with_reducible refine oD ?_ ?_);kernel_rfl)|((with_reducible intro h);try simp only [go_sem,simprocAttr,hb] at h)|omega|intro h)
  all_goals (first|rw [if_neg (by assumption)] at b9|(rw [if_pos (by assumption)] at b9;first|rw [if_pos (by assumption)] at b9|rw [if_neg (by assumption)] at b9))
  all_goals (refine ⟨k+1,by omega, ?_,by omega⟩;refine Le.of ?_ ?_<;>simp [go_sem,simprocAttr,hb,b9])
 ·have hb:decide ((k:Int)<(row.length:Int))=false:=decide_eq_false (by omega)
  obtain rfl:k=row.length:=by omega
  repeat' (first|refine Rn.p ?_|(with_reducible apply And.intro)|((first|(refine hK _ ?_;clear hK K)|with_reducible intro K hK|refine Rs.p ?_|((with_reducible first|apply oP|apply oQ);exact rfl));try simp only [go_sem,simprocAttr,hb,bh])|((with_reducible refine oD ?_ ?_);kernel_rfl)|((with_reducible intro h);try simp only [go_sem,simprocAttr,hb,bh] at h)|omega|intro h)
def lM (x:Int) (t:It):Bool:=decide (t.2.2≠x)&&decide (t.2.2≠ -1)
def rK (row:List It) (x:Int) (a b:Nat):Bool:= !((row.take b).drop a).any (lM x)
theorem En (x:Int):bE [(10000, .rob [eN x])]:=⟨by simp [AObj.ro],by simp [nodupM,look],by simp,by simp [AObj.ids,AV.ids,AV.idss,eN]⟩
theorem BZ (x:Int) (t:It):Spec Tryz.prog 198 (Args [eT t, .ptr 10000 0]) [(10000, .rob [eN x])] (eB (lM x t)) [(10000, .rob [eN x])]:=by
 (refine Spec.hd (C:=T.cfg [] []) (rs:= [.t 3]) (T.aj _ _) Tryz.func198 rfl rfl Tryz.ntmps198 Tryz.results198 (fun p hp=>⟨(bE.low (En x) p hp).1,bE.nest (En x) p hp⟩) (fun p hp=>⟨(bE.low (En x) p hp).2,bE.nest (En x) p hp⟩) (by kernel_rfl) T.mixed fun X hX hP hC aJ b7=> ?_)
 repeat' (first|refine Rn.p ?_|(with_reducible apply And.intro)|((first|(refine hK _ ?_;clear hK K)|with_reducible intro K hK|refine Rs.p ?_|((with_reducible first|apply oP|apply oQ);exact rfl));try simp only [go_sem,simprocAttr])|((with_reducible refine oD ?_ ?_);kernel_rfl)|((with_reducible intro h);try simp only [go_sem,simprocAttr] at h)|omega|intro h)
 all_goals (simp only [lM];first|exact gi (En x)|simp [*])
theorem gL (ds:List D) (row:List It) (x:Int) (a b:Nat) (hab:a≤b) (hb:b≤row.length) (hl:row.length≤1000000):Spec Tryz.prog 173 (Args [.d (.pt (sT row::ds)),eN x,eN a,eN b]) [] (eB (rK row x a b)) []:=by
 have HV:sT ((row.take b).drop a)= .sl 3 (((row.map rT).take b).drop a):=by simp [sT,List.map_take,List.map_drop]
 have iI:((row.take b).drop a).length≤9223372036854775807:=by simp;omega
 (refine Spec.hd (C:=T.cfg [] []) (rs:= [.t 8]) (T.aj _ _) Tryz.func173 rfl rfl Tryz.ntmps173 Tryz.results173 (by simp [AObj.isNest]) (by simp [AObj.isNest]) (by kernel_rfl) T.mixed fun X hX hP hC aJ b7=> ?_)
 repeat' (first|refine Rn.p ?_|(with_reducible apply And.intro)|((first|(refine hK _ ?_;clear hK K)|with_reducible intro K hK|refine Rs.p ?_|((with_reducible first|apply oP|apply oQ);exact rfl)|(refine aI hX hC hP [(10000,5)] (oI (En x) _ [.ptr 10000 0] (lM x) ((row.take b).drop a) (fun t _=>BZ x t) iI) rfl rfl rfl ?_ ?_ ?_ ?_ ?_ ?_ rfl rfl ?_ ?_;(focus (simp only [go_sem,simprocAttr,List.map_take,List.map_drop];done));(iterate 6 (focus (simp [go_sem,simprocAttr,List.map_take,List.map_drop];done)));try simp only [List.map_cons,List.map_nil]));try simp only [go_sem,simprocAttr,List.map_take,List.map_drop])|((with_reducible refine oD ?_ ?_);kernel_rfl)|((with_reducible intro h);try simp only [go_sem,simprocAttr,List.map_take,List.map_drop] at h)|omega|intro h)
 rfl
end Go.Ab
end
section
namespace Go.Ab
open Go.Proofs
attribute [local congr] ACall.congr gd.congr Nx.congr
set_option maxRecDepth 10000
set_option maxHeartbeats 2000000
def dZ (g:Gr) (f:Fr) (x:Int):Bool:=
 if x<0∨g.n≤x∨x∈f.pl then false else
 decide ((bh f.row x).2.2=((bA (·.2) g x).length:Int))&&(decide ((bA (·.2) g x).length=0)||rK f.row x (bh f.row x).1.toNat (bh f.row x).2.1.toNat)
theorem B0 {f:Edge→Int} {g:Gr} {x:Int} :(bA f g x).length≤g.es.length:=by
 unfold bA
 split
 ·exact gJ
 ·simp
theorem gM (g:Gr) (hm:aM g=true) (f:Fr) (x:Int) (hr:f.row.length≤1000000) (dM:f.pl.length≤1000000):Spec Tryz.prog 123 (Args [.d (gw g f),eN x]) [] (eB (dZ g f x)) []:=by
 have hp:f.pl.length≤9223372036854775807:=by omega
 have hn:=aH hm
 unfold gw
 by_cases hx:x<0∨g.n≤x∨x∈f.pl
 ·have hR:dZ g f x=false:=if_pos hx
  (refine Spec.hd (C:=T.cfg [] []) (rs:= [.t 4]) (T.aj _ _) Tryz.func123 rfl rfl Tryz.ntmps123 Tryz.results123 (by simp [AObj.isNest]) (by simp [AObj.isNest]) (by kernel_rfl) T.mixed fun X hX hP hC aJ b7=> ?_)
  by_cases h1:x<0
  ·have hb1:decide (x<0)=true:=decide_eq_true h1
   repeat' (first|refine Rn.p ?_|(with_reducible apply And.intro)|((first|(refine hK _ ?_;clear hK K)|with_reducible intro K hK|refine Rs.p ?_|((with_reducible first|apply oP|apply oQ);exact rfl)|refine aa hX hC hP (kH g hm x) rfl rfl rfl (by simp only [go_sem,simprocAttr,aA,hR,hb1]) rfl ?_|refine aa hX hC hP (bn f.pl x hp) rfl rfl rfl (by simp only [go_sem,simprocAttr,aA,hR,hb1]) rfl ?_|refine aa hX hC hP (eO [vw g,sI f.pl] f.row x hr) rfl rfl rfl (by simp only [go_sem,simprocAttr,aA,hR,hb1]) rfl ?_|refine aa hX hC hP (gL [vw g,sI f.pl] f.row x a b hab qY hr) rfl rfl rfl (by simp only [go_sem,simprocAttr,aA,hR,hb1]) rfl ?_);try simp only [go_sem,simprocAttr,aA,hR,hb1])|((with_reducible refine oD ?_ ?_);kernel_rfl)|((with_reducible intro h);try simp only [go_sem,simprocAttr,aA,hR,hb1] at h)|omega|intro h)
  have hb1:decide (x<0)=false:=decide_eq_false h1
  by_cases h2:g.n≤x
  ·have hb2:decide (g.n≤x)=true:=decide_eq_true h2
   repeat' (first|refine Rn.p ?_|(with_reducible apply And.intro)|((first|(refine hK _ ?_;clear hK K)|with_reducible intro K hK|refine Rs.p ?_|((with_reducible first|apply oP|apply oQ);exact rfl)|refine aa hX hC hP (kH g hm x) rfl rfl rfl (by simp only [go_sem,simprocAttr,aA,hR,hb1,hb2]) rfl ?_|refine aa hX hC hP (bn f.pl x hp) rfl rfl rfl (by simp only [go_sem,simprocAttr,aA,hR,hb1,hb2]) rfl ?_|refine aa hX hC hP (eO [vw g,sI f.pl] f.row x hr) rfl rfl rfl (by simp only [go_sem,simprocAttr,aA,hR,hb1,hb2]) rfl ?_|refine aa hX hC hP (gL [vw g,sI f.pl] f.row x a b hab qY hr) rfl rfl rfl (by simp only [go_sem,simprocAttr,aA,hR,hb1,hb2]) rfl ?_);try simp only [go_sem,simprocAttr,aA,hR,hb1,hb2])|((with_reducible refine oD ?_ ?_);kernel_rfl)|((with_reducible intro h);try simp only [go_sem,simprocAttr,aA,hR,hb1,hb2] at h)|omega|intro h)
  have hb2:decide (g.n≤x)=false:=decide_eq_false h2
  have h3:x∈f.pl:=by rcases hx with h|h|h;exact absurd h h1;exact absurd h h2;exact h
  have hb3:decide (x∈f.pl)=true:=decide_eq_true h3
  repeat' (first|refine Rn.p ?_|(with_reducible apply And.intro)|((first|(refine hK _ ?_;clear hK K)|with_reducible intro K hK|refine Rs.p ?_|((with_reducible first|apply oP|apply oQ);exact rfl)|refine aa hX hC hP (kH g hm x) rfl rfl rfl (by simp only [go_sem,simprocAttr,aA,hR,hb1,hb2,hb3]) rfl ?_|refine aa hX hC hP (bn f.pl x hp) rfl rfl rfl (by simp only [go_sem,simprocAttr,aA,hR,hb1,hb2,hb3]) rfl ?_|refine aa hX hC hP (eO [vw g,sI f.pl] f.row x hr) rfl rfl rfl (by simp only [go_sem,simprocAttr,aA,hR,hb1,hb2,hb3]) rfl ?_|refine aa hX hC hP (gL [vw g,sI f.pl] f.row x a b hab qY hr) rfl rfl rfl (by simp only [go_sem,simprocAttr,aA,hR,hb1,hb2,hb3]) rfl ?_);try simp only [go_sem,simprocAttr,aA,hR,hb1,hb2,hb3])|((with_reducible refine oD ?_ ?_);kernel_rfl)|((with_reducible intro h);try simp only [go_sem,simprocAttr,aA,hR,hb1,hb2,hb3] at h)|omega|intro h)
 ·have hb1:decide (x<0)=false:=decide_eq_false fun h=>hx (.inl h)
  have hb2:decide (g.n≤x)=false:=decide_eq_false fun h=>hx (.inr (.inl h))
  have hb3:decide (x∈f.pl)=false:=decide_eq_false fun h=>hx (.inr (.inr h))
  have hR:dZ g f x=(decide ((bh f.row x).2.2=((bA (·.2) g x).length:Int))&&(decide ((bA (·.2) g x).length=0)||rK f.row x (bh f.row x).1.toNat (bh f.row x).2.1.toNat)):=if_neg hx
  by_cases h4:(bh f.row x).2.2=((bA (·.2) g x).length:Int)
  ·have hb4:decide ((bh f.row x).2.2=((bA (·.2) g x).length:Int))=true:=decide_eq_true h4
   by_cases h5:(bA (·.2) g x).length=0
   ·have Eo:decide (((bA (·.2) g x).length:Int)=0)=true:=decide_eq_true (by omega)
    rw [hb4,decide_eq_true h5] at hR
    (refine Spec.hd (C:=T.cfg [] []) (rs:= [.t 4]) (T.aj _ _) Tryz.func123 rfl rfl Tryz.ntmps123 Tryz.results123 (by simp [AObj.isNest]) (by simp [AObj.isNest]) (by kernel_rfl) T.mixed fun X hX hP hC aJ b7=> ?_)
    repeat' (first|refine Rn.p ?_|(with_reducible apply And.intro)|((first|(refine hK _ ?_;clear hK K)|with_reducible intro K hK|refine Rs.p ?_|((with_reducible first|apply oP|apply oQ);exact rfl)|refine aa hX hC hP (kH g hm x) rfl rfl rfl (by simp only [go_sem,simprocAttr,aA,hR,hb1,hb2,hb3,hb4,Eo]) rfl ?_|refine aa hX hC hP (bn f.pl x hp) rfl rfl rfl (by simp only [go_sem,simprocAttr,aA,hR,hb1,hb2,hb3,hb4,Eo]) rfl ?_|refine aa hX hC hP (eO [vw g,sI f.pl] f.row x hr) rfl rfl rfl (by simp only [go_sem,simprocAttr,aA,hR,hb1,hb2,hb3,hb4,Eo]) rfl ?_|refine aa hX hC hP (gL [vw g,sI f.pl] f.row x a b hab qY hr) rfl rfl rfl (by simp only [go_sem,simprocAttr,aA,hR,hb1,hb2,hb3,hb4,Eo]) rfl ?_);try simp only [go_sem,simprocAttr,aA,hR,hb1,hb2,hb3,hb4,Eo])|((with_reducible refine oD ?_ ?_);kernel_rfl)|((with_reducible intro h);try simp only [go_sem,simprocAttr,aA,hR,hb1,hb2,hb3,hb4,Eo] at h)|omega|intro h)
   ·have Eo:decide (((bA (·.2) g x).length:Int)=0)=false:=decide_eq_false (by omega)
    rcases di (row:=f.row) (x:=x) f.row.length with ⟨h6,_⟩|⟨a,b,c,h6,hab,qY,_⟩
    ·exfalso
     have:(bh f.row x).2.2=0:=by unfold bh;rw [h6]
     omega
    ·have hsp:bh f.row x=((a:Int),(b:Int),(c:Int)):=h6
     have hab:a≤b:=by omega
     rw [hb4,decide_eq_false h5,hsp] at hR
     simp only [Bool.true_and,Bool.false_or,Int.toNat_natCast] at hR
     rw [hsp] at hb4
     (refine Spec.hd (C:=T.cfg [] []) (rs:= [.t 4]) (T.aj _ _) Tryz.func123 rfl rfl Tryz.ntmps123 Tryz.results123 (by simp [AObj.isNest]) (by simp [AObj.isNest]) (by kernel_rfl) T.mixed fun X hX hP hC aJ b7=> ?_)
     repeat' (first|refine Rn.p ?_|(with_reducible apply And.intro)|((first|(refine hK _ ?_;clear hK K)|with_reducible intro K hK|refine Rs.p ?_|((with_reducible first|apply oP|apply oQ);exact rfl)|refine aa hX hC hP (kH g hm x) rfl rfl rfl (by simp only [go_sem,simprocAttr,aA,hR,hb1,hb2,hb3,hb4,Eo,hsp]) rfl ?_|refine aa hX hC hP (bn f.pl x hp) rfl rfl rfl (by simp only [go_sem,simprocAttr,aA,hR,hb1,hb2,hb3,hb4,Eo,hsp]) rfl ?_|refine aa hX hC hP (eO [vw g,sI f.pl] f.row x hr) rfl rfl rfl (by simp only [go_sem,simprocAttr,aA,hR,hb1,hb2,hb3,hb4,Eo,hsp]) rfl ?_|refine aa hX hC hP (gL [vw g,sI f.pl] f.row x a b hab qY hr) rfl rfl rfl (by simp only [go_sem,simprocAttr,aA,hR,hb1,hb2,hb3,hb4,Eo,hsp]) rfl ?_);try simp only [go_sem,simprocAttr,aA,hR,hb1,hb2,hb3,hb4,Eo,hsp])|((with_reducible refine oD ?_ ?_);kernel_rfl)|((with_reducible intro h);try simp only [go_sem,simprocAttr,aA,hR,hb1,hb2,hb3,hb4,Eo,hsp] at h)|omega|intro h)
  ·have hb4:decide ((bh f.row x).2.2=((bA (·.2) g x).length:Int))=false:=decide_eq_false h4
   rw [hb4,Bool.false_and] at hR
   (refine Spec.hd (C:=T.cfg [] []) (rs:= [.t 4]) (T.aj _ _) Tryz.func123 rfl rfl Tryz.ntmps123 Tryz.results123 (by simp [AObj.isNest]) (by simp [AObj.isNest]) (by kernel_rfl) T.mixed fun X hX hP hC aJ b7=> ?_)
   repeat' (first|refine Rn.p ?_|(with_reducible apply And.intro)|((first|(refine hK _ ?_;clear hK K)|with_reducible intro K hK|refine Rs.p ?_|((with_reducible first|apply oP|apply oQ);exact rfl)|refine aa hX hC hP (kH g hm x) rfl rfl rfl (by simp only [go_sem,simprocAttr,aA,hR,hb1,hb2,hb3,hb4]) rfl ?_|refine aa hX hC hP (bn f.pl x hp) rfl rfl rfl (by simp only [go_sem,simprocAttr,aA,hR,hb1,hb2,hb3,hb4]) rfl ?_|refine aa hX hC hP (eO [vw g,sI f.pl] f.row x hr) rfl rfl rfl (by simp only [go_sem,simprocAttr,aA,hR,hb1,hb2,hb3,hb4]) rfl ?_|refine aa hX hC hP (gL [vw g,sI f.pl] f.row x a b hab qY hr) rfl rfl rfl (by simp only [go_sem,simprocAttr,aA,hR,hb1,hb2,hb3,hb4]) rfl ?_);try simp only [go_sem,simprocAttr,aA,hR,hb1,hb2,hb3,hb4])|((with_reducible refine oD ?_ ?_);kernel_rfl)|((with_reducible intro h);try simp only [go_sem,simprocAttr,aA,hR,hb1,hb2,hb3,hb4] at h)|omega|intro h)
theorem Ep (ds:List D) (row:List It) (hr:row.length≤1000000):Spec Tryz.prog 84 (Args [.d (.pt (sT row::ds))]) [] (.ref 10000) [(10000, .tip 100 3 (row.map rT))]:=by
 (refine Spec.uf (C:=T.cfg [] []) (rs:= [.t 2]) [(10000,7)] (T.aj _ _) Tryz.func84 rfl rfl Tryz.ntmps84 Tryz.results84 (by simp [AObj.isNest]) (by simp [AObj.isNest]) (by first|(simp [look];done)|(simp [asN];done)|(intro l hl;simp only [asN];repeat (rw [if_neg (fun e=>by subst e;simp [look] at hl)]))) (by first|(simp [look];done)|(simp [asN];done)|(intro l hl;simp only [asN];repeat (rw [if_neg (fun e=>by subst e;simp [look] at hl)]))) (by kernel_rfl) T.mixed fun X hX hP hC aJ b7=> ?_)
 repeat' (first|refine Rn.p ?_|(with_reducible apply And.intro)|((first|(refine hK _ ?_;clear hK K)|with_reducible intro K hK|refine Rs.p ?_|((with_reducible first|apply oP|apply oQ);exact rfl)|(refine au hX hC hP [(10000,7)] (rJ row hr) rfl rfl rfl ?_ ?_ ?_ ?_ ?_ ?_ ?_ ?_ ?_ ?_ ?_ ?_ ?_ ?_;(focus (simp only [go_sem,simprocAttr];done));(iterate 12 (focus (simp [go_sem,simprocAttr];done)));try simp only [List.map_cons,List.map_nil]));try simp only [go_sem,simprocAttr])|((with_reducible refine oD ?_ ?_);kernel_rfl)|((with_reducible intro h);try simp only [go_sem,simprocAttr] at h)|omega|intro h)
end Go.Ab
end
section
namespace Go.Ab
open Go.Proofs
attribute [local congr] ACall.congr gd.congr Nx.congr
set_option maxRecDepth 10000
set_option maxHeartbeats 2000000
theorem cI (l:List Int):Spec Tryz.prog 121 (Args [.d (sI l)]) [] (.fn 171 [] [.ptr 10000 0]) [(10000, .box [.d (sI l)])]:=by
 (refine Spec.uf (C:=T.cfg [] []) (rs:= [.t 2]) [(10000,1)] (T.aj _ _) Tryz.func121 rfl rfl Tryz.ntmps121 Tryz.results121 (by simp [AObj.isNest]) (by simp [AObj.isNest]) (by first|(simp [look];done)|(simp [asN];done)|(intro l hl;simp only [asN];repeat (rw [if_neg (fun e=>by subst e;simp [look] at hl)]))) (by first|(simp [look];done)|(simp [asN];done)|(intro l hl;simp only [asN];repeat (rw [if_neg (fun e=>by subst e;simp [look] at hl)]))) (by kernel_rfl) T.mixed fun X hX hP hC aJ b7=> ?_)
 repeat' (first|refine Rn.p ?_|(with_reducible apply And.intro)|((first|(refine hK _ ?_;clear hK K)|with_reducible intro K hK|refine Rs.p ?_|((with_reducible first|apply oP|apply oQ);exact rfl));try simp only [go_sem,simprocAttr])|((with_reducible refine oD ?_ ?_);kernel_rfl)|((with_reducible intro h);try simp only [go_sem,simprocAttr] at h)|omega|intro h)
theorem fU (xs ys:List Int) (hlen:xs.length≤9223372036854775807):Spec Tryz.prog 122 (Args [.d (sI xs), .d (sI ys)]) [] (eB (decide (xs=ys))) []:=by
 (refine Spec.hd (C:=T.cfg [] []) (rs:= [.t 4]) (T.aj _ _) Tryz.func122 rfl rfl Tryz.ntmps122 Tryz.results122 (by simp [AObj.isNest]) (by simp [AObj.isNest]) (by kernel_rfl) T.mixed fun X hX hP hC aJ b7=> ?_)
 repeat' (first|refine Rn.p ?_|(with_reducible apply And.intro)|((first|(refine hK _ ?_;clear hK K)|with_reducible intro K hK|refine Rs.p ?_|((with_reducible first|apply oP|apply oQ);exact rfl));try simp only [go_sem,simprocAttr])|((with_reducible refine oD ?_ ?_);kernel_rfl)|((with_reducible intro h);try simp only [go_sem,simprocAttr] at h)|omega|intro h)
 ·have:xs≠ys:=fun e=>h (by rw [e])
  simp [this]
 refine ah (fun k:Nat=>k≤xs.length∧xs.take k=ys.take k) (fun k=>⟨[(0, .d (sI xs)),(1, .d (sI ys)),(12,eN xs.length),(13,eN k)], []⟩) (fun k=>xs.length - k) 0 (by simp) ?_ ?_
 ·(refine ⟨cj ?_,fun _ _ h=>h⟩;simp [go_sem,simprocAttr])
 rintro k ⟨hk,hp⟩
 have DF:xs.length=ys.length:=by omega
 repeat' (first|refine Rn.p ?_|(with_reducible apply And.intro)|((first|(refine hK _ ?_;clear hK K)|with_reducible intro K hK|refine Rs.p ?_|((with_reducible first|apply oP|apply oQ);exact rfl));try simp only [go_sem,simprocAttr])|((with_reducible refine oD ?_ ?_);kernel_rfl)|((with_reducible intro h);try simp only [go_sem,simprocAttr] at h)|omega|intro h)
 ·have:xs≠ys:=fun e=>h (by rw [e])
  simp [this]
 ·refine ⟨k+1,⟨by omega,DY 0 (by omega) (by omega) hp h⟩, ?_,by omega⟩
  (refine ⟨cj ?_,fun _ _ h=>h⟩;simp [go_sem,simprocAttr])
 ·have:k=xs.length:=by omega
  subst this
  rw [List.take_of_length_le (Nat.le_refl _),List.take_of_length_le (by omega)] at hp
  simp [hp]
def dJ (g:Gr) (x:Int) (i:Int):It:=(i,x,(g.es.getD i.toNat (0,0)).2)
def aF (g:Gr) (x:Int) (outs:List Int):List It:=if outs= [] then [(-1,x, -1)] else outs.map (dJ g x)
theorem lN {α β:Type} {f:α→β} {l:List α} {d:α} {k:Nat} (h:k<l.length):(l.take (k+1)).map f=(l.take k).map f++ [f (l.getD k d)]:=by
 rw [List.take_add_one,List.map_append,List.getElem?_eq_getElem h,List.getD_eq_getElem?_getD,List.getElem?_eq_getElem h]
 rfl
theorem B1 (g:Gr) (f:Fr) (x:Int) (outs:List Int) (hl:outs.length≤1000000) (ho:∀i∈outs,0≤i∧i<g.es.length):Spec Tryz.prog 126 (Args [.d (gw g f),eN x, .d (sI outs)]) [] (.ref 10000) [(10000, .tip 100 3 ((aF g x outs).map rT))]:=by
 unfold gw
 by_cases h0:outs= []
 ·subst h0
  have hA:aF g x []= [(-1,x, -1)]:=if_pos rfl
  rw [hA]
  (refine Spec.uf (C:=T.cfg [] []) (rs:= [.t 6]) [(10000,14)] (T.aj _ _) Tryz.func126 rfl rfl Tryz.ntmps126 Tryz.results126 (by simp [AObj.isNest]) (by simp [AObj.isNest]) (by first|(simp [look];done)|(simp [asN];done)|(intro l hl;simp only [asN];repeat (rw [if_neg (fun e=>by subst e;simp [look] at hl)]))) (by first|(simp [look];done)|(simp [asN];done)|(intro l hl;simp only [asN];repeat (rw [if_neg (fun e=>by subst e;simp [look] at hl)]))) (by kernel_rfl) T.mixed fun X hX hP hC aJ b7=> ?_)
  repeat' (first|refine Rn.p ?_|(with_reducible apply And.intro)|((first|(refine hK _ ?_;clear hK K)|with_reducible intro K hK|refine Rs.p ?_|((with_reducible first|apply oP|apply oQ);exact rfl));try simp only [go_sem,simprocAttr,aA])|((with_reducible refine oD ?_ ?_);kernel_rfl)|((with_reducible intro h);try simp only [go_sem,simprocAttr,aA] at h)|omega|intro h)
 ·have hA:aF g x outs=outs.map (dJ g x):=if_neg h0
  rw [hA]
  have hb0:decide ((outs.length:Int)=0)=false:=decide_eq_false fun h=>h0 (List.eq_nil_of_length_eq_zero (by omega))
  (refine Spec.uf (C:=T.cfg [] []) (rs:= [.t 6]) [(10000,38)] (T.aj _ _) Tryz.func126 rfl rfl Tryz.ntmps126 Tryz.results126 (by simp [AObj.isNest]) (by simp [AObj.isNest]) (by first|(simp [look];done)|(simp [asN];done)|(intro l hl;simp only [asN];repeat (rw [if_neg (fun e=>by subst e;simp [look] at hl)]))) (by first|(simp [look];done)|(simp [asN];done)|(intro l hl;simp only [asN];repeat (rw [if_neg (fun e=>by subst e;simp [look] at hl)]))) (by kernel_rfl) T.mixed fun X hX hP hC aJ b7=> ?_)
  repeat' (first|refine Rn.p ?_|(with_reducible apply And.intro)|((first|(refine hK _ ?_;clear hK K)|with_reducible intro K hK|refine Rs.p ?_|((with_reducible first|apply oP|apply oQ);exact rfl));try simp only [go_sem,simprocAttr,aA,hb0])|((with_reducible refine oD ?_ ?_);kernel_rfl)|((with_reducible intro h);try simp only [go_sem,simprocAttr,aA,hb0] at h)|omega|intro h)
  (refine dX hX 6 38 (.tip 100 3 []) (by simp only [go_sem,simprocAttr,aA,hb0]) (by simp only [go_sem,simprocAttr,aA,hb0]) (by decide) ⟨100,3,by decide, .inr rfl⟩ ?_;simp only [go_sem,simprocAttr,aA,hb0])
  refine ah (fun k:Nat=>k≤outs.length) (fun k=>⟨[(0, .d (gw g f)),(1,eN x),(15, .d (sI outs)),(16,eN outs.length),(17,eN k),(6, .ref 38)], [(38, .tip 100 3 (((outs.take k).map (dJ g x)).map rT))]⟩) (fun k=>outs.length - k) 0 (by omega) ?_ ?_
  ·refine Le.of ?_ ?_<;>simp [go_sem,simprocAttr,aA,hb0,gw]
  unfold gw
  rintro k hk
  rcases Nat.lt_or_ge k outs.length with hlt|hge
  ·have hb:decide ((k:Int)<(outs.length:Int))=true:=decide_eq_true (by omega)
   have b9:=lN (f:=dJ g x) (d:=0) hlt
   have Mu:=ho _ (aE (d:=0) hlt)
   have hlk:(outs.take k).length=k:=by simp;omega
   repeat' (first|refine Rn.p ?_|(with_reducible apply And.intro)|((first|(refine hK _ ?_;clear hK K)|with_reducible intro K hK|refine Rs.p ?_|((with_reducible first|apply oP|apply oQ);exact rfl));try simp only [go_sem,simprocAttr,aA,hb,hlk])|((with_reducible refine oD ?_ ?_);kernel_rfl)|((with_reducible intro h);try simp only [go_sem,simprocAttr,aA,hb,hlk] at h)|omega|intro h)
   refine ⟨k+1,by omega, ?_,by omega⟩
   refine Le.of ?_ ?_<;>simp [go_sem,simprocAttr,aA,hb,hlk,b9,dJ]
  ·have hb:decide ((k:Int)<(outs.length:Int))=false:=decide_eq_false (by omega)
   obtain rfl:k=outs.length:=by omega
   have ht:outs.take outs.length=outs:=List.take_of_length_le (by omega)
   repeat' (first|refine Rn.p ?_|(with_reducible apply And.intro)|((first|(refine hK _ ?_;clear hK K)|with_reducible intro K hK|refine Rs.p ?_|((with_reducible first|apply oP|apply oQ);exact rfl));try simp only [go_sem,simprocAttr,aA,hb,ht])|((with_reducible refine oD ?_ ?_);kernel_rfl)|((with_reducible intro h);try simp only [go_sem,simprocAttr,aA,hb,ht] at h)|omega|intro h)
def jG (g:Gr) (f:Fr):List (Nat × AObj):= [(10000, .box [.d (sT f.row), .d (vw g), .ref 10001]),(10001, .tip 3 1 (f.pl.map rI))]
theorem yE (row items:List It) (a b:Nat) (h0:0<items.length) (hr:row.length≤400000) (hi:items.length≤100000):Spec Tryz.prog 174 (Args [.d (.sl 1 [[.sl 3 (List.take a (row.map rT))], [.sl 3 (items.map rT)], [.sl 3 (List.drop b (row.map rT))]])]) [] (.d (sT (row.take a++items++row.drop b))) []:=by
 have hf: [row.take a,items,row.drop b].flatten=row.take a++items++row.drop b:=by simp
 have hlen: [row.take a,items,row.drop b].flatten.length=min a row.length+items.length+(row.length - b):=by simp;omega
 have:=yD [row.take a,items,row.drop b] (by simp) (by omega) (by omega)
 rw [hf] at this
 simpa only [vT,List.map_cons,List.map_nil,sT,List.map_take,List.map_drop] using this
theorem Er (g:Gr) (row items:List It) (pl:List Int) (a b:Nat) (hab:a≤b) (hb:b≤row.length) (h0:0<items.length) (hr:row.length≤400000) (hi:items.length≤100000):
 Spec Tryz.prog 125 (Args [.ptr 10000 0,eN a,eN b, .ref 10003]) (jG g ⟨row,pl⟩++ [(10003, .tip 100 3 (items.map rT))]) (.d (sT ((row.take b).drop a))) (jG g ⟨row.take a++items++row.drop b,pl⟩):=by
 have hcl:((row.take b).drop a).length≤1000000:=by simp;omega
 have mO:List.take row.length (row.map rT)=row.map rT:=List.take_of_length_le (by simp)
 unfold jG
 simp only [List.cons_append,List.nil_append]
 (refine Spec.hd (C:=T.cfg [] []) (rs:= [.t 8]) (T.aj _ _) Tryz.func125 rfl rfl Tryz.ntmps125 Tryz.results125 (by simp [AObj.isNest]) (by simp [AObj.isNest]) (by kernel_rfl) T.mixed fun X hX hP hC aJ b7=> ?_)
 repeat' (first|refine Rn.p ?_|(with_reducible apply And.intro)|((first|(refine hK _ ?_;clear hK K)|with_reducible intro K hK|refine Rs.p ?_|((with_reducible first|apply oP|apply oQ);exact rfl)|(refine au hX hC hP [(10000,17)] (rJ ((row.take b).drop a) hcl) rfl rfl rfl ?_ ?_ ?_ ?_ ?_ ?_ ?_ ?_ ?_ ?_ ?_ ?_ ?_ ?_;(focus (simp only [go_sem,simprocAttr,List.map_take,List.map_drop,mO];done));(iterate 12 (focus (simp [go_sem,simprocAttr,List.map_take,List.map_drop,mO];done)));try simp only [List.map_cons,List.map_nil])|(refine cE hX hC hP (yE row items a b h0 hr hi) rfl rfl rfl ?_ ?_ rfl ?_;iterate 2 (focus (simp only [go_sem,simprocAttr,List.map_take,List.map_drop,mO];done))));try simp only [go_sem,simprocAttr,List.map_take,List.map_drop,mO])|((with_reducible refine oD ?_ ?_);kernel_rfl)|((with_reducible intro h);try simp only [go_sem,simprocAttr,List.map_take,List.map_drop,mO] at h)|omega|intro h)
end Go.Ab
end
section
namespace Go.Ab
open Go.Proofs
attribute [local congr] ACall.congr gd.congr Nx.congr
set_option maxRecDepth 10000
set_option maxHeartbeats 4000000
def qk (g:Gr) (f:Fr):List (Nat × AObj):= [(10000, .box [.d (sT f.row), .d (vw g), .ref 10002]),(10002, .tip 3 1 (f.pl.map rI))]
def j0 (g:Gr) (f:Fr) (x:Int) (outs:List Int):(List It × Int) × Fr:=
 if dZ g f x=false then (([],3),f) else if iE outs≠bA (·.1) g x then (([],1),f) else
 (((f.row.take (bh f.row x).2.1.toNat).drop (max (bh f.row x).1 0).toNat,0),⟨f.row.take (max (bh f.row x).1 0).toNat++aF g x outs++f.row.drop (bh f.row x).2.1.toNat,f.pl++ [x]⟩)
theorem fV {f:Edge→Int} {es:List Edge} {k:Nat} {x i:Int} (h:i∈aK f es k x):(0≤i∧i<k)∧f (es.getD i.toNat (0,0))=x:=by
 simp only [aK,List.mem_map,List.mem_filter,List.mem_range,decide_eq_true_eq] at h
 obtain ⟨j,⟨h1,h2⟩,rfl⟩:=h
 exact ⟨⟨Int.natCast_nonneg j,by simp;omega⟩,h2⟩
theorem B2 {f:Edge→Int} {g:Gr} {x i:Int} (h:i∈bA f g x):(0≤i∧i<g.es.length)∧f (g.es.getD i.toNat (0,0))=x:=by
 unfold bA at h
 split at h
 ·exact fV h
 ·cases h
theorem z8 {l:List Int} {x:Int} :x∈iE l↔x∈l:=by simp [iE]
theorem w6 (row:List It) (x:Int):∃a b:Nat,max (bh row x).1 0=(a:Int)∧(bh row x).2.1=(b:Int)∧a≤b∧b≤row.length:=by
 rcases di (row:=row) (x:=x) row.length with ⟨h,_⟩|⟨a,b,c,h,h1,h2,_⟩
 ·exact ⟨0,0,by unfold bh;rw [h];rfl,by unfold bh;rw [h];rfl,by omega,by omega⟩
 ·exact ⟨a,b,by unfold bh;rw [h];simp only;omega,by unfold bh;rw [h],by omega,by omega⟩
theorem jv {g:Gr} {x:Int} {outs:List Int} :0<(aF g x outs).length∧(aF g x outs).length≤outs.length+1:=by
 unfold aF
 split
 ·simp
 ·rename_i h
  have:=List.length_pos_iff.2 h
  simp;omega
theorem B3 (g:Gr) (hm:aM g=true) (f:Fr) (x:Int) (outs:List Int) (hr:f.row.length≤300000) (hp:f.pl.length≤100000) (ho:outs.length≤17592186043904):
 Spec Tryz.prog 83 (Args [.ptr 10000 0,eN x, .d (sI outs)]) (jG g f) (.tup [.d (sT (j0 g f x outs).1.1),eN (j0 g f x outs).1.2]) (qk g (j0 g f x outs).2):=by
 have iB:f.row.length≤1000000:=by omega
 have hp1:f.pl.length≤1000000:=by omega
 have hs:(iE outs).length≤9223372036854775807:=by rw [fC];omega
 have hn:=aH hm
 cases hR:dZ g f x with
 |false=>
  have hP:j0 g f x outs=(([],3),f):=if_pos hR
  rw [hP]
  unfold jG qk
  (refine Spec.uf (C:=T.cfg [] []) (rs:= [.t 6, .t 7]) [(10002,10001)] (T.aj _ _) Tryz.func83 rfl rfl Tryz.ntmps83 Tryz.results83 (by simp [AObj.isNest]) (by simp [AObj.isNest]) (by first|(simp [look];done)|(simp [asN];done)|(intro l hl;simp only [asN];repeat (rw [if_neg (fun e=>by subst e;simp [look] at hl)]))) (by first|(simp [look];done)|(simp [asN];done)|(intro l hl;simp only [asN];repeat (rw [if_neg (fun e=>by subst e;simp [look] at hl)]))) (by kernel_rfl) T.mixed fun X hX hP hC aJ b7=> ?_)
  repeat' (first|refine Rn.p ?_|(with_reducible apply And.intro)|((first|(refine hK _ ?_;clear hK K)|with_reducible intro K hK|refine Rs.p ?_|((with_reducible first|apply oP|apply oQ);exact rfl)|(refine ai hX hC hP (gM g hm f x iB hp1) rfl rfl rfl ?_ ?_ ?_ ?_;iterate 3 (focus (simp only [go_sem,simprocAttr,hR,gw];done)))|(refine au hX hC hP [(10000,16)] (cI outs) rfl rfl rfl ?_ ?_ ?_ ?_ ?_ ?_ ?_ ?_ ?_ ?_ ?_ ?_ ?_ ?_;(focus (simp only [go_sem,simprocAttr,hR,gw];done));(iterate 12 (focus (simp [go_sem,simprocAttr,hR,gw];done)));try simp only [List.map_cons,List.map_nil])|(refine aI hX hC hP [(10000,16)] (cq outs ho) rfl rfl rfl ?_ ?_ ?_ ?_ ?_ ?_ rfl rfl ?_ ?_;(focus (simp only [go_sem,simprocAttr,hR,gw];done));(iterate 6 (focus (simp [go_sem,simprocAttr,hR,gw];done)));try simp only [List.map_cons,List.map_nil])|refine aa hX hC hP (iZ g hm x) rfl rfl rfl (by simp only [go_sem,simprocAttr,hR,gw]) rfl ?_|refine aa hX hC hP (fU (iE outs) (bA (·.1) g x) hs) rfl rfl rfl (by simp only [go_sem,simprocAttr,hR,gw]) rfl ?_|(refine ai hX hC hP (eO [vw g,sI f.pl] f.row x iB) rfl rfl rfl ?_ ?_ ?_ ?_;iterate 3 (focus (simp only [go_sem,simprocAttr,hR,gw];done))));try simp only [go_sem,simprocAttr,hR,gw])|((with_reducible refine oD ?_ ?_);kernel_rfl)|((with_reducible intro h);try simp only [go_sem,simprocAttr,hR,gw] at h)|omega|intro h)
 |true=>
 have K5:¬dZ g f x=false:=by rw [hR];simp
 by_cases hE:¬iE outs=bA (·.1) g x
 ·have hb1:decide (iE outs=bA (·.1) g x)=false:=decide_eq_false hE
  have hP:j0 g f x outs=(([],1),f):=by unfold j0;rw [if_neg K5,if_pos hE]
  rw [hP]
  unfold jG qk
  (refine Spec.uf (C:=T.cfg [] []) (rs:= [.t 6, .t 7]) [(10002,10001)] (T.aj _ _) Tryz.func83 rfl rfl Tryz.ntmps83 Tryz.results83 (by simp [AObj.isNest]) (by simp [AObj.isNest]) (by first|(simp [look];done)|(simp [asN];done)|(intro l hl;simp only [asN];repeat (rw [if_neg (fun e=>by subst e;simp [look] at hl)]))) (by first|(simp [look];done)|(simp [asN];done)|(intro l hl;simp only [asN];repeat (rw [if_neg (fun e=>by subst e;simp [look] at hl)]))) (by kernel_rfl) T.mixed fun X hX hP hC aJ b7=> ?_)
  repeat' (first|refine Rn.p ?_|(with_reducible apply And.intro)|((first|(refine hK _ ?_;clear hK K)|with_reducible intro K hK|refine Rs.p ?_|((with_reducible first|apply oP|apply oQ);exact rfl)|(refine ai hX hC hP (gM g hm f x iB hp1) rfl rfl rfl ?_ ?_ ?_ ?_;iterate 3 (focus (simp only [go_sem,simprocAttr,hR,hb1,gw];done)))|(refine au hX hC hP [(10000,16)] (cI outs) rfl rfl rfl ?_ ?_ ?_ ?_ ?_ ?_ ?_ ?_ ?_ ?_ ?_ ?_ ?_ ?_;(focus (simp only [go_sem,simprocAttr,hR,hb1,gw];done));(iterate 12 (focus (simp [go_sem,simprocAttr,hR,hb1,gw];done)));try simp only [List.map_cons,List.map_nil])|(refine aI hX hC hP [(10000,16)] (cq outs ho) rfl rfl rfl ?_ ?_ ?_ ?_ ?_ ?_ rfl rfl ?_ ?_;(focus (simp only [go_sem,simprocAttr,hR,hb1,gw];done));(iterate 6 (focus (simp [go_sem,simprocAttr,hR,hb1,gw];done)));try simp only [List.map_cons,List.map_nil])|refine aa hX hC hP (iZ g hm x) rfl rfl rfl (by simp only [go_sem,simprocAttr,hR,hb1,gw]) rfl ?_|refine aa hX hC hP (fU (iE outs) (bA (·.1) g x) hs) rfl rfl rfl (by simp only [go_sem,simprocAttr,hR,hb1,gw]) rfl ?_|(refine ai hX hC hP (eO [vw g,sI f.pl] f.row x iB) rfl rfl rfl ?_ ?_ ?_ ?_;iterate 3 (focus (simp only [go_sem,simprocAttr,hR,hb1,gw];done))));try simp only [go_sem,simprocAttr,hR,hb1,gw])|((with_reducible refine oD ?_ ?_);kernel_rfl)|((with_reducible intro h);try simp only [go_sem,simprocAttr,hR,hb1,gw] at h)|omega|intro h)
 rw [Decidable.not_not] at hE
 have hb1:decide (iE outs=bA (·.1) g x)=true:=decide_eq_true hE
 have hP:j0 g f x outs=(((f.row.take (bh f.row x).2.1.toNat).drop (max (bh f.row x).1 0).toNat,0),⟨f.row.take (max (bh f.row x).1 0).toNat++aF g x outs++f.row.drop (bh f.row x).2.1.toNat,f.pl++ [x]⟩):=by
  unfold j0;rw [if_neg K5,if_neg (by rw [hE];simp)]
 rw [hP]
 obtain ⟨a,b,ha,hb,hab,qY⟩:=w6 f.row x
 rw [ha,hb]
 simp only [Int.toNat_natCast]
 have sG:outs.length≤128:=by
  have h1:=congrArg List.length hE
  rw [fC] at h1
  have h2:=B0 (f:=(·.1)) (g:=g) (x:=x)
  omega
 have IZ:∀i∈outs,0≤i∧i<g.es.length:=fun i hi=>(B2 (f:=(·.1)) (g:=g) (x:=x) (by rw [← hE];exact z8.2 hi)).1
 obtain ⟨h0,h1⟩:=jv (g:=g) (x:=x) (outs:=outs)
 have ym:(aF g x outs).length≤100000:=by omega
 have rq:f.row.length≤400000:=by omega
 have PU:outs.length≤1000000:=by omega
 unfold jG qk
 (refine Spec.uf (C:=T.cfg [] []) (rs:= [.t 6, .t 7]) [(10002,42)] (T.aj _ _) Tryz.func83 rfl rfl Tryz.ntmps83 Tryz.results83 (by simp [AObj.isNest]) (by simp [AObj.isNest]) (by first|(simp [look];done)|(simp [asN];done)|(intro l hl;simp only [asN];repeat (rw [if_neg (fun e=>by subst e;simp [look] at hl)]))) (by first|(simp [look];done)|(simp [asN];done)|(intro l hl;simp only [asN];repeat (rw [if_neg (fun e=>by subst e;simp [look] at hl)]))) (by kernel_rfl) T.mixed fun X hX hP hC aJ b7=> ?_)
 repeat' (first|refine Rn.p ?_|(with_reducible apply And.intro)|((first|(refine hK _ ?_;clear hK K)|with_reducible intro K hK|refine Rs.p ?_|((with_reducible first|apply oP|apply oQ);exact rfl)|(refine ai hX hC hP (gM g hm f x iB hp1) rfl rfl rfl ?_ ?_ ?_ ?_;iterate 3 (focus (simp only [go_sem,simprocAttr,hR,hb1,ha,hb,gw,List.length_map,List.map_append,List.map_cons,List.map_nil,rI,jG,List.cons_append,List.nil_append,List.map_take,List.map_drop];done)))|(refine au hX hC hP [(10000,16)] (cI outs) rfl rfl rfl ?_ ?_ ?_ ?_ ?_ ?_ ?_ ?_ ?_ ?_ ?_ ?_ ?_ ?_;(focus (simp only [go_sem,simprocAttr,hR,hb1,ha,hb,gw,List.length_map,List.map_append,List.map_cons,List.map_nil,rI,jG,List.cons_append,List.nil_append,List.map_take,List.map_drop];done));(iterate 12 (focus (simp [go_sem,simprocAttr,hR,hb1,ha,hb,gw,List.length_map,List.map_append,List.map_cons,List.map_nil,rI,jG,List.cons_append,List.nil_append,List.map_take,List.map_drop];done)));try simp only [List.map_cons,List.map_nil])|(refine aI hX hC hP [(10000,16)] (cq outs ho) rfl rfl rfl ?_ ?_ ?_ ?_ ?_ ?_ rfl rfl ?_ ?_;(focus (simp only [go_sem,simprocAttr,hR,hb1,ha,hb,gw,List.length_map,List.map_append,List.map_cons,List.map_nil,rI,jG,List.cons_append,List.nil_append,List.map_take,List.map_drop];done));(iterate 6 (focus (simp [go_sem,simprocAttr,hR,hb1,ha,hb,gw,List.length_map,List.map_append,List.map_cons,List.map_nil,rI,jG,List.cons_append,List.nil_append,List.map_take,List.map_drop];done)));try simp only [List.map_cons,List.map_nil])|refine aa hX hC hP (iZ g hm x) rfl rfl rfl (by simp only [go_sem,simprocAttr,hR,hb1,ha,hb,gw,List.length_map,List.map_append,List.map_cons,List.map_nil,rI,jG,List.cons_append,List.nil_append,List.map_take,List.map_drop]) rfl ?_|refine aa hX hC hP (fU (iE outs) (bA (·.1) g x) hs) rfl rfl rfl (by simp only [go_sem,simprocAttr,hR,hb1,ha,hb,gw,List.length_map,List.map_append,List.map_cons,List.map_nil,rI,jG,List.cons_append,List.nil_append,List.map_take,List.map_drop]) rfl ?_|(refine ai hX hC hP (eO [vw g,sI f.pl] f.row x iB) rfl rfl rfl ?_ ?_ ?_ ?_;iterate 3 (focus (simp only [go_sem,simprocAttr,hR,hb1,ha,hb,gw,List.length_map,List.map_append,List.map_cons,List.map_nil,rI,jG,List.cons_append,List.nil_append,List.map_take,List.map_drop];done)))|(refine mG hX hC hP 54 (B1 g ⟨f.row,f.pl++ [x]⟩ x outs PU IZ) rfl rfl rfl ?_ ?_ (by first|exact ⟨_,_,_,rfl,rD⟩|exact ⟨_,_,_,rfl,rH⟩|exact ⟨_,_,_,rfl,rL⟩) rfl (by decide) ?_;(iterate 2 (focus (simp only [go_sem,simprocAttr,hR,hb1,ha,hb,gw,List.length_map,List.map_append,List.map_cons,List.map_nil,rI,jG,List.cons_append,List.nil_append,List.map_take,List.map_drop];done)));simp only [go_sem,simprocAttr,hR,hb1,ha,hb,gw,List.length_map,List.map_append,List.map_cons,List.map_nil,rI,jG,List.cons_append,List.nil_append,List.map_take,List.map_drop])|(refine au hX hC hP [(10001,42),(10003,54)] (Er g f.row (aF g x outs) (f.pl++ [x]) a b hab qY h0 rq ym) rfl rfl rfl ?_ ?_ ?_ ?_ ?_ ?_ ?_ ?_ ?_ ?_ ?_ ?_ ?_ ?_;(focus (simp only [go_sem,simprocAttr,hR,hb1,ha,hb,gw,List.length_map,List.map_append,List.map_cons,List.map_nil,rI,jG,List.cons_append,List.nil_append,List.map_take,List.map_drop];done));(iterate 12 (focus (simp [go_sem,simprocAttr,hR,hb1,ha,hb,gw,List.length_map,List.map_append,List.map_cons,List.map_nil,rI,jG,List.cons_append,List.nil_append,List.map_take,List.map_drop];done)));try simp only [List.map_cons,List.map_nil]));try simp only [go_sem,simprocAttr,hR,hb1,ha,hb,gw,List.length_map,List.map_append,List.map_cons,List.map_nil,rI,jG,List.cons_append,List.nil_append,List.map_take,List.map_drop])|((with_reducible refine oD ?_ ?_);kernel_rfl)|((with_reducible intro h);try simp only [go_sem,simprocAttr,hR,hb1,ha,hb,gw,List.length_map,List.map_append,List.map_cons,List.map_nil,rI,jG,List.cons_append,List.nil_append,List.map_take,List.map_drop] at h)|omega|intro h)
end Go.Ab
end
section
namespace Go.Ab
open Go.Proofs
attribute [local congr] ACall.congr gd.congr Nx.congr
set_option maxRecDepth 10000
set_option maxHeartbeats 4000000
def jw (g:Gr) (f:Fr) (k:Nat):List Int:=((List.range k).filter fun x:Nat=>dZ g f (x:Int)).map Int.ofNat
def dw (g:Gr) (f:Fr):List Int:=jw g f g.n.toNat
theorem Aa {g:Gr} {f:Fr} {k:Nat} :jw g f (k+1)=jw g f k++if dZ g f (k:Int)=true then [(k:Int)] else []:=by
 simp only [jw,List.range_succ,List.filter_append,List.map_append,List.filter_cons,List.filter_nil]
 split<;>simp_all
theorem uN {g:Gr} {f:Fr} {k:Nat} :(jw g f k).length≤k:=by
 simpa [jw] using List.length_filter_le (fun x:Nat=>dZ g f (x:Int)) (List.range k)
theorem Ac (g:Gr) (hm:aM g=true) (f:Fr) (hr:f.row.length≤1000000) (hp:f.pl.length≤1000000):Spec Tryz.prog 113 (Args [.d (gw g f)]) [] (.ref 10000) [(10000, .tip 3 1 ((dw g f).map rI))]:=by
 have hn:=aH hm
 unfold gw
 (refine Spec.uf (C:=T.cfg [] []) (rs:= [.t 2]) [(10000,21)] (T.aj _ _) Tryz.func113 rfl rfl Tryz.ntmps113 Tryz.results113 (by simp [AObj.isNest]) (by simp [AObj.isNest]) (by first|(simp [look];done)|(simp [asN];done)|(intro l hl;simp only [asN];repeat (rw [if_neg (fun e=>by subst e;simp [look] at hl)]))) (by first|(simp [look];done)|(simp [asN];done)|(intro l hl;simp only [asN];repeat (rw [if_neg (fun e=>by subst e;simp [look] at hl)]))) (by kernel_rfl) T.mixed fun X hX hP hC aJ b7=> ?_)
 repeat' (first|refine Rn.p ?_|(with_reducible apply And.intro)|((first|(refine hK _ ?_;clear hK K)|with_reducible intro K hK|refine Rs.p ?_|((with_reducible first|apply oP|apply oQ);exact rfl)|refine aa hX hC hP (gM g hm f (k:Int) hr hp) rfl rfl rfl (by simp only [go_sem,simprocAttr,aA]) rfl ?_);try simp only [go_sem,simprocAttr,aA])|((with_reducible refine oD ?_ ?_);kernel_rfl)|((with_reducible intro h);try simp only [go_sem,simprocAttr,aA] at h)|omega|intro h)
 (refine dX hX 2 21 (.tip 3 1 []) (by simp only [go_sem,simprocAttr,aA]) (by simp only [go_sem,simprocAttr,aA]) (by decide) ⟨3,1,by decide, .inr rfl⟩ ?_;simp only [go_sem,simprocAttr,aA])
 refine ah (fun k:Nat=>k≤g.n.toNat) (fun k=>⟨[(0, .d (gw g f)),(11,eN g.n),(12,eN k),(2, .ref 21)], [(21, .tip 3 1 ((jw g f k).map rI))]⟩) (fun k=>g.n.toNat - k) 0 (by omega) ?_ ?_
 ·refine Le.of ?_ ?_<;>simp [go_sem,simprocAttr,aA,gw,jw]
 rintro k hk
 rcases Nat.lt_or_ge k g.n.toNat with hlt|hge
 ·have hb:decide ((k:Int)<g.n)=true:=decide_eq_true (by omega)
  have b9:=Aa (g:=g) (f:=f) (k:=k)
  have hlk:=uN (g:=g) (f:=f) (k:=k)
  repeat' (first|refine Rn.p ?_|(with_reducible apply And.intro)|((first|(refine hK _ ?_;clear hK K)|with_reducible intro K hK|refine Rs.p ?_|((with_reducible first|apply oP|apply oQ);exact rfl)|refine aa hX hC hP (gM g hm f (k:Int) hr hp) rfl rfl rfl (by simp only [go_sem,simprocAttr,hb]) rfl ?_);try simp only [go_sem,simprocAttr,hb])|((with_reducible refine oD ?_ ?_);kernel_rfl)|((with_reducible intro h);try simp only [go_sem,simprocAttr,hb] at h)|omega|intro h)
  ·rw [if_pos (by assumption)] at b9
   refine ⟨k+1,by omega, ?_,by omega⟩
   refine Le.of ?_ ?_<;>simp [go_sem,simprocAttr,hb,b9,rI]
  ·rw [if_neg (by simp [*]),List.append_nil] at b9
   refine ⟨k+1,by omega, ?_,by omega⟩
   refine Le.of ?_ ?_<;>simp [go_sem,simprocAttr,hb,b9,rI]
 ·have hb:decide ((k:Int)<g.n)=false:=decide_eq_false (by omega)
  obtain rfl:k=g.n.toNat:=by omega
  repeat' (first|refine Rn.p ?_|(with_reducible apply And.intro)|((first|(refine hK _ ?_;clear hK K)|with_reducible intro K hK|refine Rs.p ?_|((with_reducible first|apply oP|apply oQ);exact rfl)|refine aa hX hC hP (gM g hm f (k:Int) hr hp) rfl rfl rfl (by simp only [go_sem,simprocAttr,hb,dw]) rfl ?_);try simp only [go_sem,simprocAttr,hb,dw])|((with_reducible refine oD ?_ ?_);kernel_rfl)|((with_reducible intro h);try simp only [go_sem,simprocAttr,hb,dw] at h)|omega|intro h)
theorem qA (g:Gr) (hl:g.es.length≤1000) (h0:(bR g).1=0) (hm:aM g=true):Spec Tryz.prog 81 (Args [eG g]) [] (.tup [.ptr 10000 0,eN 0]) [(10000, .box [.nil 100, .d (vw g), .nil 3])]:=by
 (refine Spec.uf (C:=T.cfg [] []) (rs:= [.t 2, .t 3]) [(10000,11)] (T.aj _ _) Tryz.func81 rfl rfl Tryz.ntmps81 Tryz.results81 (by simp [AObj.isNest]) (by simp [AObj.isNest]) (by first|(simp [look];done)|(simp [asN];done)|(intro l hl;simp only [asN];repeat (rw [if_neg (fun e=>by subst e;simp [look] at hl)]))) (by first|(simp [look];done)|(simp [asN];done)|(intro l hl;simp only [asN];repeat (rw [if_neg (fun e=>by subst e;simp [look] at hl)]))) (by kernel_rfl) T.mixed fun X hX hP hC aJ b7=> ?_)
 repeat' (first|refine Rn.p ?_|(with_reducible apply And.intro)|((first|(refine hK _ ?_;clear hK K)|with_reducible intro K hK|refine Rs.p ?_|((with_reducible first|apply oP|apply oQ);exact rfl)|refine aa hX hC hP (lH g hl) rfl rfl rfl (by simp only [go_sem,simprocAttr,h0]) rfl ?_|refine aa hX hC hP (iJ g hm) rfl rfl rfl (by simp only [go_sem,simprocAttr,h0]) rfl ?_);try simp only [go_sem,simprocAttr,h0])|((with_reducible refine oD ?_ ?_);kernel_rfl)|((with_reducible intro h);try simp only [go_sem,simprocAttr,h0] at h)|omega|intro h)
theorem Es (g:Gr) (hl:g.es.length≤1000) (h0:(bR g).1≠0):Spec Tryz.prog 81 (Args [eG g]) [] (.tup [.d (.sc (.pointer none)),eN 1]) []:=by
 have hb:decide ((bR g).1=0)=false:=decide_eq_false h0
 (refine Spec.hd (C:=T.cfg [] []) (rs:= [.t 2, .t 3]) (T.aj _ _) Tryz.func81 rfl rfl Tryz.ntmps81 Tryz.results81 (by simp [AObj.isNest]) (by simp [AObj.isNest]) (by kernel_rfl) T.mixed fun X hX hP hC aJ b7=> ?_)
 repeat' (first|refine Rn.p ?_|(with_reducible apply And.intro)|((first|(refine hK _ ?_;clear hK K)|with_reducible intro K hK|refine Rs.p ?_|((with_reducible first|apply oP|apply oQ);exact rfl)|refine aa hX hC hP (lH g hl) rfl rfl rfl (by simp only [go_sem,simprocAttr,hb]) rfl ?_);try simp only [go_sem,simprocAttr,hb])|((with_reducible refine oD ?_ ?_);kernel_rfl)|((with_reducible intro h);try simp only [go_sem,simprocAttr,hb] at h)|omega|intro h)
end Go.Ab
end
section
namespace Go.Ab
open Go.Proofs
attribute [local congr] ACall.congr gd.congr Nx.congr
set_option maxRecDepth 10000
set_option maxHeartbeats 4000000
theorem bw (ps:List Int) (x:Int) (hl:ps.length≤9223372036854775807):Spec Tryz.prog 165 (Args [.d (sI ps),eN x]) [] (eB (decide (x∈ps))) []:=by
 (refine Spec.hd (C:=T.cfg [] []) (rs:= [.t 4]) (T.aj _ _) Tryz.func165 rfl rfl Tryz.ntmps165 Tryz.results165 (by simp [AObj.isNest]) (by simp [AObj.isNest]) (by kernel_rfl) T.mixed fun X hX hP hC aJ b7=> ?_)
 repeat' (first|refine Rn.p ?_|(with_reducible apply And.intro)|((first|(refine hK _ ?_;clear hK K)|with_reducible intro K hK|refine Rs.p ?_|((with_reducible first|apply oP|apply oQ);exact rfl));try simp only [go_sem,simprocAttr])|((with_reducible refine oD ?_ ?_);kernel_rfl)|((with_reducible intro h);try simp only [go_sem,simprocAttr] at h)|omega|intro h)
 refine ah (fun k:Nat=>k≤ps.length∧∀j,j<k→ps.getD j 0≠x) (fun k=>⟨[(0, .d (sI ps)),(1,eN x),(5,eN k)], []⟩) (fun k=>ps.length - k) 0 (by simp) ?_ ?_
 ·(refine ⟨cj ?_,fun _ _ h=>h⟩;simp [go_sem,simprocAttr])
 rintro k ⟨hk,hg⟩
 rcases Nat.lt_or_ge k ps.length with hlt|hge
 ·have hb:decide ((k:Int)<(ps.length:Int))=true:=decide_eq_true (by omega)
  repeat' (first|refine Rn.p ?_|(with_reducible apply And.intro)|((first|(refine hK _ ?_;clear hK K)|with_reducible intro K hK|refine Rs.p ?_|((with_reducible first|apply oP|apply oQ);exact rfl));try simp only [go_sem,simprocAttr,hb])|((with_reducible refine oD ?_ ?_);kernel_rfl)|((with_reducible intro h);try simp only [go_sem,simprocAttr,hb] at h)|omega|intro h)
  ·have hm:=aE (d:=0) hlt
   rw [h] at hm
   exact (decide_eq_true hm).symm
  ·refine ⟨k+1,⟨by omega,fun j hj=> ?_⟩, ?_,by omega⟩
   ·by_cases hjk:j=k
    ·subst hjk;assumption
    ·exact hg j (by omega)
   ·(refine ⟨cj ?_,fun _ _ h=>h⟩;simp [go_sem,simprocAttr,hb])
 ·have hb:decide ((k:Int)<(ps.length:Int))=false:=decide_eq_false (by omega)
  repeat' (first|refine Rn.p ?_|(with_reducible apply And.intro)|((first|(refine hK _ ?_;clear hK K)|with_reducible intro K hK|refine Rs.p ?_|((with_reducible first|apply oP|apply oQ);exact rfl));try simp only [go_sem,simprocAttr,hb])|((with_reducible refine oD ?_ ?_);kernel_rfl)|((with_reducible intro h);try simp only [go_sem,simprocAttr,hb] at h)|omega|intro h)
  refine (decide_eq_false fun hm=> ?_).symm
  obtain ⟨j,hj,hx⟩:=List.mem_iff_getElem.1 hm
  exact hg j (by omega) (by rw [List.getD_eq_getElem?_getD,List.getElem?_eq_getElem hj];exact hx)
def kI (g:Gr) (f:Fr):List AV:= [eN g.n, .d (sE g.es), .d (sT f.row), .d (sI f.pl)]
def fm (row:List It) (x:Int):Nat→Int
 |0=>0
 |k+1=>if (row.getD k (0,0,0)).2.2=x then fm row x k+1 else fm row x k
theorem dK {row:List It} {x:Int} {k:Nat} :fm row x (k+1)=if (row.getD k (0,0,0)).2.2=x then fm row x k+1 else fm row x k:=rfl
theorem CZ {row:List It} {x:Int} :∀k:Nat,0≤fm row x k∧fm row x k≤k
 |0=>by simp [fm]
 |k+1=>by
  have:=CZ (row:=row) (x:=x) k
  rw [dK]
  split<;>omega
def l5 (row:List It) (x:Int) (need:Nat) (j:Nat):Bool:=decide ((row.getD j (0,0,0)).2.2≠x)&&decide (0≤(row.getD j (0,0,0)).1)&&decide (0<fm row x j)&&decide (fm row x j<need)
theorem ja {row:List It} {x:Int} {need j:Nat} :l5 row x need j=true↔((row.getD j (0,0,0)).2.2≠x∧0≤(row.getD j (0,0,0)).1)∧0<fm row x j∧fm row x j<need:=by
 simp only [l5,Bool.and_eq_true,decide_eq_true_eq,and_assoc]
def aQ (g:Gr) (x:Int):Nat:=(aK (·.2) g.es g.es.length x).length
def ak (g:Gr) (f:Fr) (x:Int):Bool:=
 if x<0∨g.n≤x∨x∈f.pl then false else if aQ g x=0 then true else
 !(List.range f.row.length).any (l5 f.row x (aQ g x))&&decide (fm f.row x f.row.length=aQ g x)
theorem pR:mj false=(fun e:Edge=>e.2):=rfl
theorem kJ:mj true=(fun e:Edge=>e.1):=rfl
theorem I0 {n j:Nat} {p:Nat→Bool} (h:j<n) (hp:p j=true):(List.range n).any p=true:=List.any_eq_true.2 ⟨j,List.mem_range.2 h,hp⟩
theorem I1 {n:Nat} {p:Nat→Bool} (h:∀j,j<n→p j=false):(List.range n).any p=false:=by
 rw [List.any_eq_false]
 intro j hj
 rw [h j (List.mem_range.1 hj)];simp
theorem bG (g:Gr) (hl:g.es.length≤1000) (f:Fr) (x:Int) (hr:f.row.length≤1000000) (dM:f.pl.length≤1000000):Spec Tryz.prog 164 (Args [.ptr 10000 0,eN x]) [(10000, .rob (kI g f))] (eB (ak g f x)) [(10000, .rob (kI g f))]:=by
 have hp:f.pl.length≤9223372036854775807:=by omega
 unfold kI
 by_cases hx:x<0∨g.n≤x∨x∈f.pl
 ·have hR:ak g f x=false:=if_pos hx
  (refine Spec.hd (C:=T.cfg [] []) (rs:= [.t 4]) (T.aj _ _) Tryz.func164 rfl rfl Tryz.ntmps164 Tryz.results164 (by simp [AObj.isNest]) (by simp [AObj.isNest]) (by kernel_rfl) T.mixed fun X hX hP hC aJ b7=> ?_)
  by_cases h1:x<0
  ·have hb1:decide (x<0)=true:=decide_eq_true h1
   repeat' (first|refine Rn.p ?_|(with_reducible apply And.intro)|((first|(refine hK _ ?_;clear hK K)|with_reducible intro K hK|refine Rs.p ?_|((with_reducible first|apply oP|apply oQ);exact rfl)|refine aa hX hC hP (bw f.pl x hp) rfl rfl rfl (by simp only [go_sem,simprocAttr,hR,hb1]) rfl ?_|refine aa hX hC hP (bk g x false hl) rfl rfl rfl (by simp only [go_sem,simprocAttr,hR,hb1]) rfl ?_);try simp only [go_sem,simprocAttr,hR,hb1])|((with_reducible refine oD ?_ ?_);kernel_rfl)|((with_reducible intro h);try simp only [go_sem,simprocAttr,hR,hb1] at h)|omega|intro h)
  have hb1:decide (x<0)=false:=decide_eq_false h1
  by_cases h2:g.n≤x
  ·have hb2:decide (g.n≤x)=true:=decide_eq_true h2
   repeat' (first|refine Rn.p ?_|(with_reducible apply And.intro)|((first|(refine hK _ ?_;clear hK K)|with_reducible intro K hK|refine Rs.p ?_|((with_reducible first|apply oP|apply oQ);exact rfl)|refine aa hX hC hP (bw f.pl x hp) rfl rfl rfl (by simp only [go_sem,simprocAttr,hR,hb1,hb2]) rfl ?_|refine aa hX hC hP (bk g x false hl) rfl rfl rfl (by simp only [go_sem,simprocAttr,hR,hb1,hb2]) rfl ?_);try simp only [go_sem,simprocAttr,hR,hb1,hb2])|((with_reducible refine oD ?_ ?_);kernel_rfl)|((with_reducible intro h);try simp only [go_sem,simprocAttr,hR,hb1,hb2] at h)|omega|intro h)
  have hb2:decide (g.n≤x)=false:=decide_eq_false h2
  have h3:x∈f.pl:=by rcases hx with h|h|h;exact absurd h h1;exact absurd h h2;exact h
  have hb3:decide (x∈f.pl)=true:=decide_eq_true h3
  repeat' (first|refine Rn.p ?_|(with_reducible apply And.intro)|((first|(refine hK _ ?_;clear hK K)|with_reducible intro K hK|refine Rs.p ?_|((with_reducible first|apply oP|apply oQ);exact rfl)|refine aa hX hC hP (bw f.pl x hp) rfl rfl rfl (by simp only [go_sem,simprocAttr,hR,hb1,hb2,hb3]) rfl ?_|refine aa hX hC hP (bk g x false hl) rfl rfl rfl (by simp only [go_sem,simprocAttr,hR,hb1,hb2,hb3]) rfl ?_);try simp only [go_sem,simprocAttr,hR,hb1,hb2,hb3])|((with_reducible refine oD ?_ ?_);kernel_rfl)|((with_reducible intro h);try simp only [go_sem,simprocAttr,hR,hb1,hb2,hb3] at h)|omega|intro h)
 ·have hb1:decide (x<0)=false:=decide_eq_false fun h=>hx (.inl h)
  have hb2:decide (g.n≤x)=false:=decide_eq_false fun h=>hx (.inr (.inl h))
  have hb3:decide (x∈f.pl)=false:=decide_eq_false fun h=>hx (.inr (.inr h))
  have hR:ak g f x=if aQ g x=0 then true else !(List.range f.row.length).any (l5 f.row x (aQ g x))&&decide (fm f.row x f.row.length=aQ g x):=if_neg hx
  have bY:(aK (·.2) g.es g.es.length x).length=aQ g x:=rfl
  have hnl:aQ g x≤1000:=Nat.le_trans gJ hl
  generalize aQ g x=need at hR bY hnl
  by_cases h4:need=0
  ·have hb4:decide ((need:Int)=0)=true:=decide_eq_true (by omega)
   rw [if_pos h4] at hR
   (refine Spec.hd (C:=T.cfg [] []) (rs:= [.t 4]) (T.aj _ _) Tryz.func164 rfl rfl Tryz.ntmps164 Tryz.results164 (by simp [AObj.isNest]) (by simp [AObj.isNest]) (by kernel_rfl) T.mixed fun X hX hP hC aJ b7=> ?_)
   repeat' (first|refine Rn.p ?_|(with_reducible apply And.intro)|((first|(refine hK _ ?_;clear hK K)|with_reducible intro K hK|refine Rs.p ?_|((with_reducible first|apply oP|apply oQ);exact rfl)|refine aa hX hC hP (bw f.pl x hp) rfl rfl rfl (by simp only [go_sem,simprocAttr,hR,hb1,hb2,hb3,hb4,pR,bY]) rfl ?_|refine aa hX hC hP (bk g x false hl) rfl rfl rfl (by simp only [go_sem,simprocAttr,hR,hb1,hb2,hb3,hb4,pR,bY]) rfl ?_);try simp only [go_sem,simprocAttr,hR,hb1,hb2,hb3,hb4,pR,bY])|((with_reducible refine oD ?_ ?_);kernel_rfl)|((with_reducible intro h);try simp only [go_sem,simprocAttr,hR,hb1,hb2,hb3,hb4,pR,bY] at h)|omega|intro h)
  ·have hb4:decide ((need:Int)=0)=false:=decide_eq_false (by omega)
   rw [if_neg h4] at hR
   generalize ak g f x=res at hR
   (refine Spec.hd (C:=T.cfg [] []) (rs:= [.t 4]) (T.aj _ _) Tryz.func164 rfl rfl Tryz.ntmps164 Tryz.results164 (by simp [AObj.isNest]) (by simp [AObj.isNest]) (by kernel_rfl) T.mixed fun X hX hP hC aJ b7=> ?_)
   repeat' (first|refine Rn.p ?_|(with_reducible apply And.intro)|((first|(refine hK _ ?_;clear hK K)|with_reducible intro K hK|refine Rs.p ?_|((with_reducible first|apply oP|apply oQ);exact rfl)|refine aa hX hC hP (bw f.pl x hp) rfl rfl rfl (by simp only [go_sem,simprocAttr,hb1,hb2,hb3,hb4,pR,bY]) rfl ?_|refine aa hX hC hP (bk g x false hl) rfl rfl rfl (by simp only [go_sem,simprocAttr,hb1,hb2,hb3,hb4,pR,bY]) rfl ?_);try simp only [go_sem,simprocAttr,hb1,hb2,hb3,hb4,pR,bY])|((with_reducible refine oD ?_ ?_);kernel_rfl)|((with_reducible intro h);try simp only [go_sem,simprocAttr,hb1,hb2,hb3,hb4,pR,bY] at h)|omega|intro h)
   refine ah (fun k:Nat=>k≤f.row.length∧∀j,j<k→l5 f.row x need j=false) (fun k=>⟨[(0, .ptr 10000 0),(1,eN x),(5,eN need),(6,eN (fm f.row x k)),(7,eN k)], [(10000, .rob [eN g.n, .d (sE g.es), .d (sT f.row), .d (sI f.pl)])]⟩) (fun k=>f.row.length - k) 0 (by simp) ?_ ?_
   ·refine Le.of ?_ ?_<;>simp [go_sem,simprocAttr,hb1,hb2,hb3,hb4,pR,bY,fm]
   rintro k ⟨hk,hg⟩
   rcases Nat.lt_or_ge k f.row.length with hlt|hge
   ·have hb:decide ((k:Int)<(f.row.length:Int))=true:=decide_eq_true (by omega)
    have hmk:=CZ (row:=f.row) (x:=x) k
    have b9:=dK (row:=f.row) (x:=x) (k:=k)
    have step:l5 f.row x need k=false→∀j,j<k+1→l5 f.row x need j=false:=fun h j hj=>by
     by_cases hjk:j=k
     ·subst hjk;exact h
     ·exact hg j (by omega)
    repeat' (first|refine Rn.p ?_|(with_reducible apply And.intro)|((first|(refine hK _ ?_;clear hK K)|with_reducible intro K hK|refine Rs.p ?_|((with_reducible first|apply oP|apply oQ);exact rfl)|refine aa hX hC hP (bw f.pl x hp) rfl rfl rfl (by simp only [go_sem,simprocAttr,hb]) rfl ?_|refine aa hX hC hP (bk g x false hl) rfl rfl rfl (by simp only [go_sem,simprocAttr,hb]) rfl ?_);try simp only [go_sem,simprocAttr,hb])|((with_reducible refine oD ?_ ?_);kernel_rfl)|((with_reducible intro h);try simp only [go_sem,simprocAttr,hb] at h)|omega|intro h)
    all_goals (first|(rw [hR,I0 hlt (ja.2 ⟨⟨by assumption,by assumption⟩,by assumption,by assumption⟩)];rfl)|skip)
    all_goals (first|rw [if_neg (by assumption)] at b9|rw [if_pos (by assumption)] at b9)
    all_goals (refine ⟨k+1,⟨by omega,step (by rw [← Bool.not_eq_true];intro hh;obtain ⟨⟨_,_⟩,_,_⟩:=ja.1 hh;contradiction)⟩, ?_,by omega⟩;refine Le.of ?_ ?_<;>simp [go_sem,simprocAttr,hb,b9])
   ·have hb:decide ((k:Int)<(f.row.length:Int))=false:=decide_eq_false (by omega)
    obtain rfl:k=f.row.length:=by omega
    rw [I1 hg] at hR
    repeat' (first|refine Rn.p ?_|(with_reducible apply And.intro)|((first|(refine hK _ ?_;clear hK K)|with_reducible intro K hK|refine Rs.p ?_|((with_reducible first|apply oP|apply oQ);exact rfl)|refine aa hX hC hP (bw f.pl x hp) rfl rfl rfl (by simp only [go_sem,simprocAttr,hb,hR]) rfl ?_|refine aa hX hC hP (bk g x false hl) rfl rfl rfl (by simp only [go_sem,simprocAttr,hb,hR]) rfl ?_);try simp only [go_sem,simprocAttr,hb,hR])|((with_reducible refine oD ?_ ?_);kernel_rfl)|((with_reducible intro h);try simp only [go_sem,simprocAttr,hb,hR] at h)|omega|intro h)
end Go.Ab
end
section
namespace Go.Ab
open Go.Proofs
attribute [local congr] ACall.congr gd.congr Nx.congr
set_option maxRecDepth 10000
set_option maxHeartbeats 4000000
end Go.Ab
end
section
namespace Go.Ab
open Go.Proofs
attribute [local congr] ACall.congr gd.congr Nx.congr
set_option maxRecDepth 10000
set_option maxHeartbeats 8000000
def aZ (g:Gr) (x:Int):List Int:=aK (·.1) g.es g.es.length x
def az (g:Gr) (f:Fr) (x:Int) (outs:List Int):(List It × Int) × Fr:=
 (((f.row.take (bh f.row x).2.1.toNat).drop (max (bh f.row x).1 0).toNat,0),⟨f.row.take (max (bh f.row x).1 0).toNat++aF g x outs++f.row.drop (bh f.row x).2.1.toNat,f.pl++ [x]⟩)
def cF (g:Gr) (f:Fr) (x:Int) (outs:List Int):(List It × Int) × Fr:=
 if ak g f x=false then (([],3),f) else
 if outs.length≠(aZ g x).length∨∃i∈aZ g x,i∉outs then (([],1),f) else az g f x outs
theorem cJ {f:Edge→Int} {es:List Edge} {k:Nat} {x:Int} :(aK f es k x).Nodup:=by
 unfold aK
 exact List.Pairwise.map _ (fun a b h e=>h (Int.ofNat.inj e)) (List.Pairwise.filter _ List.nodup_range)
theorem yF:∀ {ms os:List Int},ms.Nodup→(∀i∈ms,i∈os)→os.length=ms.length→∀i∈os,i∈ms
 | [],os,_,_,hl,i,hi=>by
   have:os= []:=List.eq_nil_of_length_eq_zero (by simpa using hl)
   rw [this] at hi;exact hi
 |m::ms,os,hn,hs,hl,i,hi=>by
  rw [List.nodup_cons] at hn
  have hm:=hs m (List.mem_cons_self ..)
  by_cases h:i=m
  ·rw [h];exact List.mem_cons_self ..
  ·refine List.mem_cons_of_mem _ (yF hn.2 (os:=os.erase m) (fun j hj=> ?_) ?_ i ?_)
   ·have:j≠m:=fun e=>hn.1 (e ▸ hj)
    exact (List.mem_erase_of_ne this).2 (hs j (List.mem_cons_of_mem _ hj))
   ·rw [List.length_erase_of_mem hm,hl];simp
   ·exact (List.mem_erase_of_ne h).2 hi
theorem Ad {g:Gr} {x:Int} :(aZ g x).length≤g.es.length:=gJ
theorem Ae (g:Gr) (hl:g.es.length≤1000) (f:Fr) (x:Int) (outs:List Int) (hr:f.row.length≤300000) (hp:f.pl.length≤100000) (ho:outs.length≤9223372036854775807):
 Spec Tryz.prog 111 (Args [.ptr 10000 0,eN x, .d (sI outs)]) [(10000, .box (kI g f))] (.tup [.d (sT (cF g f x outs).1.1),eN (cF g f x outs).1.2]) [(10000, .box (kI g (cF g f x outs).2))]:=by
 have iB:f.row.length≤1000000:=by omega
 have hp1:f.pl.length≤1000000:=by omega
 have vR:outs.length≤9223372036854775807:=by omega
 have hml:=Ad (g:=g) (x:=x)
 have By:aK (fun e=>e.1) g.es g.es.length x=aZ g x:=rfl
 cases hR:ak g f x with
 |false=>
  have hP:cF g f x outs=(([],3),f):=if_pos hR
  rw [hP]
  unfold kI
  (refine Spec.hd (C:=T.cfg [] []) (rs:= [.t 6, .t 7]) (T.aj _ _) Tryz.func111 rfl rfl Tryz.ntmps111 Tryz.results111 (by simp [AObj.isNest]) (by simp [AObj.isNest]) (by kernel_rfl) T.mixed fun X hX hP hC aJ b7=> ?_)
  repeat' (first|refine Rn.p ?_|(with_reducible apply And.intro)|((first|(refine hK _ ?_;clear hK K)|with_reducible intro K hK|refine Rs.p ?_|((with_reducible first|apply oP|apply oQ);exact rfl)|(refine aI hX hC hP [(10000,10000)] (bG g hl f x iB hp1) rfl rfl rfl ?_ ?_ ?_ ?_ ?_ ?_ rfl rfl ?_ ?_;(focus (simp only [go_sem,simprocAttr,hR,kI];done));(iterate 6 (focus (simp [go_sem,simprocAttr,hR,kI];done)));try simp only [List.map_cons,List.map_nil])|refine aa hX hC hP (bk g x true hl) rfl rfl rfl (by simp only [go_sem,simprocAttr,hR,kI]) rfl ?_|refine aa hX hC hP (bw outs ((aZ g x).getD k 0) vR) rfl rfl rfl (by simp only [go_sem,simprocAttr,hR,kI]) rfl ?_);try simp only [go_sem,simprocAttr,hR,kI])|((with_reducible refine oD ?_ ?_);kernel_rfl)|((with_reducible intro h);try simp only [go_sem,simprocAttr,hR,kI] at h)|omega|intro h)
 |true=>
 have K5:¬ak g f x=false:=by rw [hR];simp
 by_cases hlen:outs.length≠(aZ g x).length
 ·have hP:cF g f x outs=(([],1),f):=by unfold cF;rw [if_neg K5,if_pos (.inl hlen)]
  have hb1:decide ((outs.length:Int)=((aZ g x).length:Int))=false:=decide_eq_false (by omega)
  rw [hP]
  unfold kI
  (refine Spec.hd (C:=T.cfg [] []) (rs:= [.t 6, .t 7]) (T.aj _ _) Tryz.func111 rfl rfl Tryz.ntmps111 Tryz.results111 (by simp [AObj.isNest]) (by simp [AObj.isNest]) (by kernel_rfl) T.mixed fun X hX hP hC aJ b7=> ?_)
  repeat' (first|refine Rn.p ?_|(with_reducible apply And.intro)|((first|(refine hK _ ?_;clear hK K)|with_reducible intro K hK|refine Rs.p ?_|((with_reducible first|apply oP|apply oQ);exact rfl)|(refine aI hX hC hP [(10000,10000)] (bG g hl f x iB hp1) rfl rfl rfl ?_ ?_ ?_ ?_ ?_ ?_ rfl rfl ?_ ?_;(focus (simp only [go_sem,simprocAttr,hR,kI,kJ,By,hb1];done));(iterate 6 (focus (simp [go_sem,simprocAttr,hR,kI,kJ,By,hb1];done)));try simp only [List.map_cons,List.map_nil])|refine aa hX hC hP (bk g x true hl) rfl rfl rfl (by simp only [go_sem,simprocAttr,hR,kI,kJ,By,hb1]) rfl ?_|refine aa hX hC hP (bw outs ((aZ g x).getD k 0) vR) rfl rfl rfl (by simp only [go_sem,simprocAttr,hR,kI,kJ,By,hb1]) rfl ?_);try simp only [go_sem,simprocAttr,hR,kI,kJ,By,hb1])|((with_reducible refine oD ?_ ?_);kernel_rfl)|((with_reducible intro h);try simp only [go_sem,simprocAttr,hR,kI,kJ,By,hb1] at h)|omega|intro h)
 rw [ne_eq,Decidable.not_not] at hlen
 have hb1:decide ((outs.length:Int)=((aZ g x).length:Int))=true:=decide_eq_true (by omega)
 have hP:cF g f x outs=if ∃i∈aZ g x,i∉outs then (([],1),f) else az g f x outs:=by
  unfold cF
  rw [if_neg K5]
  by_cases hE:∃i∈aZ g x,i∉outs
  ·rw [if_pos (.inr hE),if_pos hE]
  ·rw [if_neg (fun h=>by rcases h with h|h;exact h hlen;exact hE h),if_neg hE]
 rw [hP]
 generalize Km:(if ∃i∈aZ g x,i∉outs then (([],1),f) else az g f x outs:(List It × Int) × Fr)=pp
 unfold kI
 (refine Spec.hd (C:=T.cfg [] []) (rs:= [.t 6, .t 7]) (T.aj _ _) Tryz.func111 rfl rfl Tryz.ntmps111 Tryz.results111 (by simp [AObj.isNest]) (by simp [AObj.isNest]) (by kernel_rfl) T.mixed fun X hX hP hC aJ b7=> ?_)
 repeat' (first|refine Rn.p ?_|(with_reducible apply And.intro)|((first|(refine hK _ ?_;clear hK K)|with_reducible intro K hK|refine Rs.p ?_|((with_reducible first|apply oP|apply oQ);exact rfl)|(refine aI hX hC hP [(10000,10000)] (bG g hl f x iB hp1) rfl rfl rfl ?_ ?_ ?_ ?_ ?_ ?_ rfl rfl ?_ ?_;(focus (simp only [go_sem,simprocAttr,hR,kI,kJ,By,hb1];done));(iterate 6 (focus (simp [go_sem,simprocAttr,hR,kI,kJ,By,hb1];done)));try simp only [List.map_cons,List.map_nil])|refine aa hX hC hP (bk g x true hl) rfl rfl rfl (by simp only [go_sem,simprocAttr,hR,kI,kJ,By,hb1]) rfl ?_|refine aa hX hC hP (bw outs ((aZ g x).getD k 0) vR) rfl rfl rfl (by simp only [go_sem,simprocAttr,hR,kI,kJ,By,hb1]) rfl ?_);try simp only [go_sem,simprocAttr,hR,kI,kJ,By,hb1])|((with_reducible refine oD ?_ ?_);kernel_rfl)|((with_reducible intro h);try simp only [go_sem,simprocAttr,hR,kI,kJ,By,hb1] at h)|omega|intro h)
 refine ah (fun k:Nat=>k≤(aZ g x).length∧∀j,j<k→(aZ g x).getD j 0∈outs) (fun k=>⟨[(0, .ptr 10000 0),(1,eN x),(2, .d (sI outs)),(8, .d (sI (aZ g x))),(9,eN k)], [(10000, .box [eN g.n, .d (sE g.es), .d (sT f.row), .d (sI f.pl)])]⟩) (fun k=>(aZ g x).length - k) 0 (by simp) ?_ ?_
 ·(refine Le.of ?_ ?_<;>simp [go_sem,simprocAttr,hR,kI,kJ,By,hb1])
 rintro k ⟨hk,hg⟩
 rcases Nat.lt_or_ge k (aZ g x).length with hlt|hge
 ·have hb:decide ((k:Int)<((aZ g x).length:Int))=true:=decide_eq_true (by omega)
  by_cases hin:(aZ g x).getD k 0∈outs
  ·have hb2:decide ((aZ g x).getD k 0∈outs)=true:=decide_eq_true hin
   repeat' (first|refine Rn.p ?_|(with_reducible apply And.intro)|((first|(refine hK _ ?_;clear hK K)|with_reducible intro K hK|refine Rs.p ?_|((with_reducible first|apply oP|apply oQ);exact rfl)|(refine aI hX hC hP [(10000,10000)] (bG g hl f x iB hp1) rfl rfl rfl ?_ ?_ ?_ ?_ ?_ ?_ rfl rfl ?_ ?_;(focus (simp only [go_sem,simprocAttr,hb,hb2];done));(iterate 6 (focus (simp [go_sem,simprocAttr,hb,hb2];done)));try simp only [List.map_cons,List.map_nil])|refine aa hX hC hP (bk g x true hl) rfl rfl rfl (by simp only [go_sem,simprocAttr,hb,hb2]) rfl ?_|refine aa hX hC hP (bw outs ((aZ g x).getD k 0) vR) rfl rfl rfl (by simp only [go_sem,simprocAttr,hb,hb2]) rfl ?_);try simp only [go_sem,simprocAttr,hb,hb2])|((with_reducible refine oD ?_ ?_);kernel_rfl)|((with_reducible intro h);try simp only [go_sem,simprocAttr,hb,hb2] at h)|omega|intro h)
   refine ⟨k+1,⟨by omega,fun j hj=> ?_⟩, ?_,by omega⟩
   ·by_cases hjk:j=k
    ·subst hjk;exact hin
    ·exact hg j (by omega)
   ·(refine Le.of ?_ ?_<;>simp [go_sem,simprocAttr,hb,hb2])
  ·have hb2:decide ((aZ g x).getD k 0∈outs)=false:=decide_eq_false hin
   rw [if_pos ⟨_,aE (d:=0) hlt,hin⟩] at Km
   subst Km
   repeat' (first|refine Rn.p ?_|(with_reducible apply And.intro)|((first|(refine hK _ ?_;clear hK K)|with_reducible intro K hK|refine Rs.p ?_|((with_reducible first|apply oP|apply oQ);exact rfl)|(refine aI hX hC hP [(10000,10000)] (bG g hl f x iB hp1) rfl rfl rfl ?_ ?_ ?_ ?_ ?_ ?_ rfl rfl ?_ ?_;(focus (simp only [go_sem,simprocAttr,hb,hb2];done));(iterate 6 (focus (simp [go_sem,simprocAttr,hb,hb2];done)));try simp only [List.map_cons,List.map_nil])|refine aa hX hC hP (bk g x true hl) rfl rfl rfl (by simp only [go_sem,simprocAttr,hb,hb2]) rfl ?_|refine aa hX hC hP (bw outs ((aZ g x).getD k 0) vR) rfl rfl rfl (by simp only [go_sem,simprocAttr,hb,hb2]) rfl ?_);try simp only [go_sem,simprocAttr,hb,hb2])|((with_reducible refine oD ?_ ?_);kernel_rfl)|((with_reducible intro h);try simp only [go_sem,simprocAttr,hb,hb2] at h)|omega|intro h)
 have hb:decide ((k:Int)<((aZ g x).length:Int))=false:=decide_eq_false (by omega)
 have hsub:∀i∈aZ g x,i∈outs:=fun i hi=>by
  obtain ⟨j,hj,rfl⟩:=List.mem_iff_getElem.1 hi
  have:=hg j (by omega)
  rwa [List.getD_eq_getElem?_getD,List.getElem?_eq_getElem hj] at this
 have IZ:∀i∈outs,0≤i∧i<g.es.length:=fun i hi=>(fV (yF cJ hsub hlen i hi)).1
 rw [if_neg (fun ⟨i,h1,h2⟩=>h2 (hsub i h1))] at Km
 subst Km
 clear hk hg hge hsub hP
 repeat' (first|refine Rn.p ?_|(with_reducible apply And.intro)|((first|(refine hK _ ?_;clear hK K)|with_reducible intro K hK|refine Rs.p ?_|((with_reducible first|apply oP|apply oQ);exact rfl)|(refine aI hX hC hP [(10000,10000)] (bG g hl f x iB hp1) rfl rfl rfl ?_ ?_ ?_ ?_ ?_ ?_ rfl rfl ?_ ?_;(focus (simp only [go_sem,simprocAttr,hb];done));(iterate 6 (focus (simp [go_sem,simprocAttr,hb];done)));try simp only [List.map_cons,List.map_nil])|refine aa hX hC hP (bk g x true hl) rfl rfl rfl (by simp only [go_sem,simprocAttr,hb]) rfl ?_|refine aa hX hC hP (bw outs ((aZ g x).getD k 0) vR) rfl rfl rfl (by simp only [go_sem,simprocAttr,hb]) rfl ?_);try simp only [go_sem,simprocAttr,hb])|((with_reducible refine oD ?_ ?_);kernel_rfl)|((with_reducible intro h);try simp only [go_sem,simprocAttr,hb] at h)|omega|intro h)
 (refine lB hX 10 45 72 (by simp only [go_sem,simprocAttr,hb]) rfl (by first|exact .inl rfl|exact .inr rfl) (by decide) ?_;simp only [go_sem,simprocAttr,hb])
 refine ah (fun k:Nat=>k≤outs.length) (fun k=>⟨[(0, .ptr 10000 0),(1,eN x),(2, .d (sI outs)),(11,eN k),(10, .ref 72)], [(10000, .box [eN g.n, .d (sE g.es), .d (sT f.row), .d (sI f.pl)]),(72, .tip 100 3 (((outs.take k).map (dJ g x)).map rT))]⟩) (fun k=>outs.length - k) 0 (by omega) ?_ ?_
 ·refine Le.of ?_ ?_<;>simp [go_sem,simprocAttr,hb]
 clear hb
 rintro k hk
 rcases Nat.lt_or_ge k outs.length with hlt|hge
 ·have hb:decide ((k:Int)<(outs.length:Int))=true:=decide_eq_true (by omega)
  have b9:=lN (f:=dJ g x) (d:=0) hlt
  have Mu:=IZ _ (aE (d:=0) hlt)
  have hlk:(outs.take k).length=k:=by simp;omega
  repeat' (first|refine Rn.p ?_|(with_reducible apply And.intro)|((first|(refine hK _ ?_;clear hK K)|with_reducible intro K hK|refine Rs.p ?_|((with_reducible first|apply oP|apply oQ);exact rfl)|(refine aI hX hC hP [(10000,10000)] (bG g hl f x iB hp1) rfl rfl rfl ?_ ?_ ?_ ?_ ?_ ?_ rfl rfl ?_ ?_;(focus (simp only [go_sem,simprocAttr,hb,hlk];done));(iterate 6 (focus (simp [go_sem,simprocAttr,hb,hlk];done)));try simp only [List.map_cons,List.map_nil])|refine aa hX hC hP (bk g x true hl) rfl rfl rfl (by simp only [go_sem,simprocAttr,hb,hlk]) rfl ?_|refine aa hX hC hP (bw outs ((aZ g x).getD k 0) vR) rfl rfl rfl (by simp only [go_sem,simprocAttr,hb,hlk]) rfl ?_);try simp only [go_sem,simprocAttr,hb,hlk])|((with_reducible refine oD ?_ ?_);kernel_rfl)|((with_reducible intro h);try simp only [go_sem,simprocAttr,hb,hlk] at h)|omega|intro h)
  refine ⟨k+1,by omega, ?_,by omega⟩
  refine Le.of ?_ ?_<;>simp [go_sem,simprocAttr,hb,hlk,b9,dJ]
 have hb:decide ((k:Int)<(outs.length:Int))=false:=decide_eq_false (by omega)
 obtain rfl:k=outs.length:=by omega
 have ht:outs.take outs.length=outs:=List.take_of_length_le (by omega)
 clear hk hge
 by_cases h0:outs= []
 ·have hA:aF g x outs= [(-1,x, -1)]:=if_pos h0
  have hb0:decide ((outs.length:Int)=0)=true:=decide_eq_true (by rw [h0];rfl)
  have hm0:(outs.map (dJ g x)).map rT= []:=by rw [h0];rfl
  repeat' (first|refine Rn.p ?_|(with_reducible apply And.intro)|((first|(refine hK _ ?_;clear hK K)|with_reducible intro K hK|refine Rs.p ?_|((with_reducible first|apply oP|apply oQ);exact rfl)|(refine aI hX hC hP [(10000,10000)] (bG g hl f x iB hp1) rfl rfl rfl ?_ ?_ ?_ ?_ ?_ ?_ rfl rfl ?_ ?_;(focus (simp only [go_sem,simprocAttr,hb,ht,hb0,hm0,List.nil_append];done));(iterate 6 (focus (simp [go_sem,simprocAttr,hb,ht,hb0,hm0,List.nil_append];done)));try simp only [List.map_cons,List.map_nil])|refine aa hX hC hP (bk g x true hl) rfl rfl rfl (by simp only [go_sem,simprocAttr,hb,ht,hb0,hm0,List.nil_append]) rfl ?_|refine aa hX hC hP (bw outs ((aZ g x).getD k 0) vR) rfl rfl rfl (by simp only [go_sem,simprocAttr,hb,ht,hb0,hm0,List.nil_append]) rfl ?_);try simp only [go_sem,simprocAttr,hb,ht,hb0,hm0,List.nil_append])|((with_reducible refine oD ?_ ?_);kernel_rfl)|((with_reducible intro h);try simp only [go_sem,simprocAttr,hb,ht,hb0,hm0,List.nil_append] at h)|omega|intro h)
  (refine lB hX 10 80 72 (by simp only [go_sem,simprocAttr,hb,ht,hb0,hm0,List.nil_append]) rfl (by first|exact .inl rfl|exact .inr rfl) (by decide) ?_;simp only [go_sem,simprocAttr,hb,ht,hb0,hm0,List.nil_append])
  refine ah (fun k:Nat=>k≤f.row.length) (fun k=>⟨[(0, .ptr 10000 0),(1,eN x),(10, .ref 72),(12,eN (cH f.row x k).1),(13,eN ((cH f.row x k).2.1 - 1)),(14,eN k)], [(10000, .box [eN g.n, .d (sE g.es), .d (sT f.row), .d (sI f.pl)]),(72, .tip 100 3 ((aF g x outs).map rT))]⟩) (fun k=>f.row.length - k) 0 (by omega) ?_ ?_
  ·refine Le.of ?_ ?_<;>simp [go_sem,simprocAttr,hb,ht,hb0,hm0,List.nil_append,cH,hA]
  rintro k hk
  rcases Nat.lt_or_ge k f.row.length with hlt|hge
  ·have hb:decide ((k:Int)<(f.row.length:Int))=true:=decide_eq_true (by omega)
   have hok:=di (row:=f.row) (x:=x) k
   have b9:=fE (row:=f.row) (x:=x) (k:=k)
   have tL:(cH f.row x k).1<0↔(cH f.row x k).1= -1:=by
    rcases hok with ⟨h1,_⟩|⟨a,b,c,h1,_⟩
    ·rw [h1];exact ⟨fun _=>rfl,fun _=>by decide⟩
    ·rw [h1];show (a:Int)<0↔(a:Int)= -1;omega
   repeat' (first|refine Rn.p ?_|(with_reducible apply And.intro)|((first|(refine hK _ ?_;clear hK K)|with_reducible intro K hK|refine Rs.p ?_|((with_reducible first|apply oP|apply oQ);exact rfl)|(refine aI hX hC hP [(10000,10000)] (bG g hl f x iB hp1) rfl rfl rfl ?_ ?_ ?_ ?_ ?_ ?_ rfl rfl ?_ ?_;(focus (simp only [go_sem,simprocAttr,hb];done));(iterate 6 (focus (simp [go_sem,simprocAttr,hb];done)));try simp only [List.map_cons,List.map_nil])|refine aa hX hC hP (bk g x true hl) rfl rfl rfl (by simp only [go_sem,simprocAttr,hb]) rfl ?_|refine aa hX hC hP (bw outs ((aZ g x).getD k 0) vR) rfl rfl rfl (by simp only [go_sem,simprocAttr,hb]) rfl ?_);try simp only [go_sem,simprocAttr,hb])|((with_reducible refine oD ?_ ?_);kernel_rfl)|((with_reducible intro h);try simp only [go_sem,simprocAttr,hb] at h)|omega|intro h)
   all_goals (try rw [tL] at*)
   all_goals (first|rw [if_neg (by assumption)] at b9|(rw [if_pos (by assumption)] at b9;first|rw [if_pos (by assumption)] at b9|rw [if_neg (by assumption)] at b9))
   all_goals (refine ⟨k+1,by omega, ?_,by omega⟩;refine Le.of ?_ ?_<;>simp [go_sem,simprocAttr,hb,b9])
  have hb:decide ((k:Int)<(f.row.length:Int))=false:=decide_eq_false (by omega)
  obtain rfl:k=f.row.length:=by omega
  clear hk hge
  have htr:List.take f.row.length (f.row.map rT)=f.row.map rT:=List.take_of_length_le (by simp)
  have ym:=jv (g:=g) (x:=x) (outs:=outs)
  rcases di (row:=f.row) (x:=x) f.row.length with ⟨hs,_⟩|⟨a,b,c,hs,hab,qY,_⟩
  ·have hS:az g f x outs=(([],0),⟨aF g x outs++f.row,f.pl++ [x]⟩):=by
    have e:bh f.row x=(-1,0,0):=hs
    unfold az
    rw [e];simp;exact .inl (by decide)
   repeat' (first|(show bW _ .ret _ _;(try simp only [go_sem,simprocAttr,hb,hs,hS,htr,List.map_append,List.map_cons,List.map_nil,rI,List.length_append,List.length_map,List.length_take,List.length_drop]);(refine ee hX 113 rfl ?_;simp only [go_sem,simprocAttr,hb,hs,hS,htr,List.map_append,List.map_cons,List.map_nil,rI,List.length_append,List.length_map,List.length_take,List.length_drop]);first|(refine ee hX 124 rfl ?_;simp only [go_sem,simprocAttr,hb,hs,hS,htr,List.map_append,List.map_cons,List.map_nil,rI,List.length_append,List.length_map,List.length_take,List.length_drop])|(refine ee hX 156 rfl ?_;simp only [go_sem,simprocAttr,hb,hs,hS,htr,List.map_append,List.map_cons,List.map_nil,rI,List.length_append,List.length_map,List.length_take,List.length_drop]))|refine Rn.p ?_|(with_reducible apply And.intro)|((first|(refine hK _ ?_;clear hK K)|with_reducible intro K hK|refine Rs.p ?_|((with_reducible first|apply oP|apply oQ);exact rfl)|(refine aI hX hC hP [(10000,10000)] (bG g hl f x iB hp1) rfl rfl rfl ?_ ?_ ?_ ?_ ?_ ?_ rfl rfl ?_ ?_;(focus (simp only [go_sem,simprocAttr,hb,hs,hS,htr,List.map_append,List.map_cons,List.map_nil,rI,List.length_append,List.length_map,List.length_take,List.length_drop];done));(iterate 6 (focus (simp [go_sem,simprocAttr,hb,hs,hS,htr,List.map_append,List.map_cons,List.map_nil,rI,List.length_append,List.length_map,List.length_take,List.length_drop];done)));try simp only [List.map_cons,List.map_nil])|refine aa hX hC hP (bk g x true hl) rfl rfl rfl (by simp only [go_sem,simprocAttr,hb,hs,hS,htr,List.map_append,List.map_cons,List.map_nil,rI,List.length_append,List.length_map,List.length_take,List.length_drop]) rfl ?_|refine aa hX hC hP (bw outs ((aZ g x).getD k 0) vR) rfl rfl rfl (by simp only [go_sem,simprocAttr,hb,hs,hS,htr,List.map_append,List.map_cons,List.map_nil,rI,List.length_append,List.length_map,List.length_take,List.length_drop]) rfl ?_);try simp only [go_sem,simprocAttr,hb,hs,hS,htr,List.map_append,List.map_cons,List.map_nil,rI,List.length_append,List.length_map,List.length_take,List.length_drop])|((with_reducible refine oD ?_ ?_);kernel_rfl)|((with_reducible intro h);try simp only [go_sem,simprocAttr,hb,hs,hS,htr,List.map_append,List.map_cons,List.map_nil,rI,List.length_append,List.length_map,List.length_take,List.length_drop] at h)|omega|intro h)
  ·have hS:az g f x outs=(((f.row.take b).drop a,0),⟨f.row.take a++aF g x outs++f.row.drop b,f.pl++ [x]⟩):=by
    have e:bh f.row x=((a:Int),(b:Int),(c:Int)):=hs
    unfold az
    rw [e]
    have e1:(max (a:Int) 0).toNat=a:=by omega
    simp only [e1,Int.toNat_natCast]
   have v7:((b:Int) - 1+1)=b:=by omega
   repeat' (first|(show bW _ .ret _ _;(try simp only [go_sem,simprocAttr,hb,hs,hS,v7,htr,List.map_append,List.map_cons,List.map_nil,List.map_take,List.map_drop,rI,List.length_append,List.length_map,List.length_take,List.length_drop]);(refine ee hX 113 rfl ?_;simp only [go_sem,simprocAttr,hb,hs,hS,v7,htr,List.map_append,List.map_cons,List.map_nil,List.map_take,List.map_drop,rI,List.length_append,List.length_map,List.length_take,List.length_drop]);first|(refine ee hX 124 rfl ?_;simp only [go_sem,simprocAttr,hb,hs,hS,v7,htr,List.map_append,List.map_cons,List.map_nil,List.map_take,List.map_drop,rI,List.length_append,List.length_map,List.length_take,List.length_drop])|(refine ee hX 156 rfl ?_;simp only [go_sem,simprocAttr,hb,hs,hS,v7,htr,List.map_append,List.map_cons,List.map_nil,List.map_take,List.map_drop,rI,List.length_append,List.length_map,List.length_take,List.length_drop]))|refine Rn.p ?_|(with_reducible apply And.intro)|((first|(refine hK _ ?_;clear hK K)|with_reducible intro K hK|refine Rs.p ?_|((with_reducible first|apply oP|apply oQ);exact rfl)|(refine aI hX hC hP [(10000,10000)] (bG g hl f x iB hp1) rfl rfl rfl ?_ ?_ ?_ ?_ ?_ ?_ rfl rfl ?_ ?_;(focus (simp only [go_sem,simprocAttr,hb,hs,hS,v7,htr,List.map_append,List.map_cons,List.map_nil,List.map_take,List.map_drop,rI,List.length_append,List.length_map,List.length_take,List.length_drop];done));(iterate 6 (focus (simp [go_sem,simprocAttr,hb,hs,hS,v7,htr,List.map_append,List.map_cons,List.map_nil,List.map_take,List.map_drop,rI,List.length_append,List.length_map,List.length_take,List.length_drop];done)));try simp only [List.map_cons,List.map_nil])|refine aa hX hC hP (bk g x true hl) rfl rfl rfl (by simp only [go_sem,simprocAttr,hb,hs,hS,v7,htr,List.map_append,List.map_cons,List.map_nil,List.map_take,List.map_drop,rI,List.length_append,List.length_map,List.length_take,List.length_drop]) rfl ?_|refine aa hX hC hP (bw outs ((aZ g x).getD k 0) vR) rfl rfl rfl (by simp only [go_sem,simprocAttr,hb,hs,hS,v7,htr,List.map_append,List.map_cons,List.map_nil,List.map_take,List.map_drop,rI,List.length_append,List.length_map,List.length_take,List.length_drop]) rfl ?_);try simp only [go_sem,simprocAttr,hb,hs,hS,v7,htr,List.map_append,List.map_cons,List.map_nil,List.map_take,List.map_drop,rI,List.length_append,List.length_map,List.length_take,List.length_drop])|((with_reducible refine oD ?_ ?_);kernel_rfl)|((with_reducible intro h);try simp only [go_sem,simprocAttr,hb,hs,hS,v7,htr,List.map_append,List.map_cons,List.map_nil,List.map_take,List.map_drop,rI,List.length_append,List.length_map,List.length_take,List.length_drop] at h)|omega|intro h)
 ·have hA:aF g x outs=outs.map (dJ g x):=if_neg h0
  have hb0:decide ((outs.length:Int)=0)=false:=decide_eq_false fun h=>h0 (List.eq_nil_of_length_eq_zero (by omega))
  repeat' (first|refine Rn.p ?_|(with_reducible apply And.intro)|((first|(refine hK _ ?_;clear hK K)|with_reducible intro K hK|refine Rs.p ?_|((with_reducible first|apply oP|apply oQ);exact rfl)|(refine aI hX hC hP [(10000,10000)] (bG g hl f x iB hp1) rfl rfl rfl ?_ ?_ ?_ ?_ ?_ ?_ rfl rfl ?_ ?_;(focus (simp only [go_sem,simprocAttr,hb,ht,hb0];done));(iterate 6 (focus (simp [go_sem,simprocAttr,hb,ht,hb0];done)));try simp only [List.map_cons,List.map_nil])|refine aa hX hC hP (bk g x true hl) rfl rfl rfl (by simp only [go_sem,simprocAttr,hb,ht,hb0]) rfl ?_|refine aa hX hC hP (bw outs ((aZ g x).getD k 0) vR) rfl rfl rfl (by simp only [go_sem,simprocAttr,hb,ht,hb0]) rfl ?_);try simp only [go_sem,simprocAttr,hb,ht,hb0])|((with_reducible refine oD ?_ ?_);kernel_rfl)|((with_reducible intro h);try simp only [go_sem,simprocAttr,hb,ht,hb0] at h)|omega|intro h)
  refine ah (fun k:Nat=>k≤f.row.length) (fun k=>⟨[(0, .ptr 10000 0),(1,eN x),(10, .ref 72),(12,eN (cH f.row x k).1),(13,eN ((cH f.row x k).2.1 - 1)),(14,eN k)], [(10000, .box [eN g.n, .d (sE g.es), .d (sT f.row), .d (sI f.pl)]),(72, .tip 100 3 ((aF g x outs).map rT))]⟩) (fun k=>f.row.length - k) 0 (by omega) ?_ ?_
  ·refine Le.of ?_ ?_<;>simp [go_sem,simprocAttr,hb,ht,hb0,cH,hA]
  rintro k hk
  rcases Nat.lt_or_ge k f.row.length with hlt|hge
  ·have hb:decide ((k:Int)<(f.row.length:Int))=true:=decide_eq_true (by omega)
   have hok:=di (row:=f.row) (x:=x) k
   have b9:=fE (row:=f.row) (x:=x) (k:=k)
   have tL:(cH f.row x k).1<0↔(cH f.row x k).1= -1:=by
    rcases hok with ⟨h1,_⟩|⟨a,b,c,h1,_⟩
    ·rw [h1];exact ⟨fun _=>rfl,fun _=>by decide⟩
    ·rw [h1];show (a:Int)<0↔(a:Int)= -1;omega
   repeat' (first|refine Rn.p ?_|(with_reducible apply And.intro)|((first|(refine hK _ ?_;clear hK K)|with_reducible intro K hK|refine Rs.p ?_|((with_reducible first|apply oP|apply oQ);exact rfl)|(refine aI hX hC hP [(10000,10000)] (bG g hl f x iB hp1) rfl rfl rfl ?_ ?_ ?_ ?_ ?_ ?_ rfl rfl ?_ ?_;(focus (simp only [go_sem,simprocAttr,hb];done));(iterate 6 (focus (simp [go_sem,simprocAttr,hb];done)));try simp only [List.map_cons,List.map_nil])|refine aa hX hC hP (bk g x true hl) rfl rfl rfl (by simp only [go_sem,simprocAttr,hb]) rfl ?_|refine aa hX hC hP (bw outs ((aZ g x).getD k 0) vR) rfl rfl rfl (by simp only [go_sem,simprocAttr,hb]) rfl ?_);try simp only [go_sem,simprocAttr,hb])|((with_reducible refine oD ?_ ?_);kernel_rfl)|((with_reducible intro h);try simp only [go_sem,simprocAttr,hb] at h)|omega|intro h)
   all_goals (try rw [tL] at*)
   all_goals (first|rw [if_neg (by assumption)] at b9|(rw [if_pos (by assumption)] at b9;first|rw [if_pos (by assumption)] at b9|rw [if_neg (by assumption)] at b9))
   all_goals (refine ⟨k+1,by omega, ?_,by omega⟩;refine Le.of ?_ ?_<;>simp [go_sem,simprocAttr,hb,b9])
  have hb:decide ((k:Int)<(f.row.length:Int))=false:=decide_eq_false (by omega)
  obtain rfl:k=f.row.length:=by omega
  clear hk hge
  have htr:List.take f.row.length (f.row.map rT)=f.row.map rT:=List.take_of_length_le (by simp)
  have ym:=jv (g:=g) (x:=x) (outs:=outs)
  rcases di (row:=f.row) (x:=x) f.row.length with ⟨hs,_⟩|⟨a,b,c,hs,hab,qY,_⟩
  ·have hS:az g f x outs=(([],0),⟨aF g x outs++f.row,f.pl++ [x]⟩):=by
    have e:bh f.row x=(-1,0,0):=hs
    unfold az
    rw [e];simp;exact .inl (by decide)
   repeat' (first|(show bW _ .ret _ _;(try simp only [go_sem,simprocAttr,hb,hs,hS,htr,List.map_append,List.map_cons,List.map_nil,rI,List.length_append,List.length_map,List.length_take,List.length_drop]);(refine ee hX 113 rfl ?_;simp only [go_sem,simprocAttr,hb,hs,hS,htr,List.map_append,List.map_cons,List.map_nil,rI,List.length_append,List.length_map,List.length_take,List.length_drop]);first|(refine ee hX 124 rfl ?_;simp only [go_sem,simprocAttr,hb,hs,hS,htr,List.map_append,List.map_cons,List.map_nil,rI,List.length_append,List.length_map,List.length_take,List.length_drop])|(refine ee hX 156 rfl ?_;simp only [go_sem,simprocAttr,hb,hs,hS,htr,List.map_append,List.map_cons,List.map_nil,rI,List.length_append,List.length_map,List.length_take,List.length_drop]))|refine Rn.p ?_|(with_reducible apply And.intro)|((first|(refine hK _ ?_;clear hK K)|with_reducible intro K hK|refine Rs.p ?_|((with_reducible first|apply oP|apply oQ);exact rfl)|(refine aI hX hC hP [(10000,10000)] (bG g hl f x iB hp1) rfl rfl rfl ?_ ?_ ?_ ?_ ?_ ?_ rfl rfl ?_ ?_;(focus (simp only [go_sem,simprocAttr,hb,hs,hS,htr,List.map_append,List.map_cons,List.map_nil,rI,List.length_append,List.length_map,List.length_take,List.length_drop];done));(iterate 6 (focus (simp [go_sem,simprocAttr,hb,hs,hS,htr,List.map_append,List.map_cons,List.map_nil,rI,List.length_append,List.length_map,List.length_take,List.length_drop];done)));try simp only [List.map_cons,List.map_nil])|refine aa hX hC hP (bk g x true hl) rfl rfl rfl (by simp only [go_sem,simprocAttr,hb,hs,hS,htr,List.map_append,List.map_cons,List.map_nil,rI,List.length_append,List.length_map,List.length_take,List.length_drop]) rfl ?_|refine aa hX hC hP (bw outs ((aZ g x).getD k 0) vR) rfl rfl rfl (by simp only [go_sem,simprocAttr,hb,hs,hS,htr,List.map_append,List.map_cons,List.map_nil,rI,List.length_append,List.length_map,List.length_take,List.length_drop]) rfl ?_);try simp only [go_sem,simprocAttr,hb,hs,hS,htr,List.map_append,List.map_cons,List.map_nil,rI,List.length_append,List.length_map,List.length_take,List.length_drop])|((with_reducible refine oD ?_ ?_);kernel_rfl)|((with_reducible intro h);try simp only [go_sem,simprocAttr,hb,hs,hS,htr,List.map_append,List.map_cons,List.map_nil,rI,List.length_append,List.length_map,List.length_take,List.length_drop] at h)|omega|intro h)
  ·have hS:az g f x outs=(((f.row.take b).drop a,0),⟨f.row.take a++aF g x outs++f.row.drop b,f.pl++ [x]⟩):=by
    have e:bh f.row x=((a:Int),(b:Int),(c:Int)):=hs
    unfold az
    rw [e]
    have e1:(max (a:Int) 0).toNat=a:=by omega
    simp only [e1,Int.toNat_natCast]
   have v7:((b:Int) - 1+1)=b:=by omega
   repeat' (first|(show bW _ .ret _ _;(try simp only [go_sem,simprocAttr,hb,hs,hS,v7,htr,List.map_append,List.map_cons,List.map_nil,List.map_take,List.map_drop,rI,List.length_append,List.length_map,List.length_take,List.length_drop]);(refine ee hX 113 rfl ?_;simp only [go_sem,simprocAttr,hb,hs,hS,v7,htr,List.map_append,List.map_cons,List.map_nil,List.map_take,List.map_drop,rI,List.length_append,List.length_map,List.length_take,List.length_drop]);first|(refine ee hX 124 rfl ?_;simp only [go_sem,simprocAttr,hb,hs,hS,v7,htr,List.map_append,List.map_cons,List.map_nil,List.map_take,List.map_drop,rI,List.length_append,List.length_map,List.length_take,List.length_drop])|(refine ee hX 156 rfl ?_;simp only [go_sem,simprocAttr,hb,hs,hS,v7,htr,List.map_append,List.map_cons,List.map_nil,List.map_take,List.map_drop,rI,List.length_append,List.length_map,List.length_take,List.length_drop]))|refine Rn.p ?_|(with_reducible apply And.intro)|((first|(refine hK _ ?_;clear hK K)|with_reducible intro K hK|refine Rs.p ?_|((with_reducible first|apply oP|apply oQ);exact rfl)|(refine aI hX hC hP [(10000,10000)] (bG g hl f x iB hp1) rfl rfl rfl ?_ ?_ ?_ ?_ ?_ ?_ rfl rfl ?_ ?_;(focus (simp only [go_sem,simprocAttr,hb,hs,hS,v7,htr,List.map_append,List.map_cons,List.map_nil,List.map_take,List.map_drop,rI,List.length_append,List.length_map,List.length_take,List.length_drop];done));(iterate 6 (focus (simp [go_sem,simprocAttr,hb,hs,hS,v7,htr,List.map_append,List.map_cons,List.map_nil,List.map_take,List.map_drop,rI,List.length_append,List.length_map,List.length_take,List.length_drop];done)));try simp only [List.map_cons,List.map_nil])|refine aa hX hC hP (bk g x true hl) rfl rfl rfl (by simp only [go_sem,simprocAttr,hb,hs,hS,v7,htr,List.map_append,List.map_cons,List.map_nil,List.map_take,List.map_drop,rI,List.length_append,List.length_map,List.length_take,List.length_drop]) rfl ?_|refine aa hX hC hP (bw outs ((aZ g x).getD k 0) vR) rfl rfl rfl (by simp only [go_sem,simprocAttr,hb,hs,hS,v7,htr,List.map_append,List.map_cons,List.map_nil,List.map_take,List.map_drop,rI,List.length_append,List.length_map,List.length_take,List.length_drop]) rfl ?_);try simp only [go_sem,simprocAttr,hb,hs,hS,v7,htr,List.map_append,List.map_cons,List.map_nil,List.map_take,List.map_drop,rI,List.length_append,List.length_map,List.length_take,List.length_drop])|((with_reducible refine oD ?_ ?_);kernel_rfl)|((with_reducible intro h);try simp only [go_sem,simprocAttr,hb,hs,hS,v7,htr,List.map_append,List.map_cons,List.map_nil,List.map_take,List.map_drop,rI,List.length_append,List.length_map,List.length_take,List.length_drop] at h)|omega|intro h)
end Go.Ab
end
section
namespace Go.Ab
open Go.Proofs
attribute [local congr] ACall.congr gd.congr Nx.congr
set_option maxRecDepth 10000
set_option maxHeartbeats 4000000
def vI (ls:List (List Int)):List (List D):=ls.map fun l=> [sI l]
theorem vI_length {ls:List (List Int)} :(vI ls).length=ls.length:=by simp [vI]
theorem eo {ls:List (List Int)} {k:Nat} (h:k<ls.length) (d:List D):(vI ls).getD k d= [sI (ls.getD k [])]:=by
 simp [vI,List.getD_eq_getElem?_getD,List.getElem?_eq_getElem h]
attribute [go_sem] vI_length
def C0 (l:List Int) (i:Nat):List Int:=l.take i++l.drop (i+1)
def I2:Nat→List Int→List (List Int)
 |0,_=> [[]]
 |n+1,l=>(List.range l.length).flatMap fun i=>(I2 n (C0 l i)).map fun t=>l.getD i 0::t
def SD (n:Nat) (l:List Int) (k:Nat):List (List Int):=(List.range k).flatMap fun i=>(I2 n (C0 l i)).map fun t=>l.getD i 0::t
def SE:Nat→Nat
 |0=>1
 |n+1=>(n+1)*SE n
end Go.Ab
end
section
namespace Go.Ab
open Go.Proofs
attribute [local congr] ACall.congr gd.congr Nx.congr
set_option maxRecDepth 10000
set_option maxHeartbeats 8000000
def Nb (g:Gr):Nat→Fr→Bool
 |0,f=>decide ((f.pl.length:Int)=g.n)
 |m+1,f=>decide ((f.pl.length:Int)=g.n)||(List.range g.n.toNat).any fun x=>ak g f (x:Int)&&(I2 (aZ g (x:Int)).length (aZ g (x:Int))).any fun o=>Nb g m (az g f (x:Int) o).2
def SF (g:Gr) (m:Nat) (f:Fr) (x:Nat):Bool:=ak g f (x:Int)&&(I2 (aZ g (x:Int)).length (aZ g (x:Int))).any fun o=>Nb g m (az g f (x:Int) o).2
theorem w8 {g:Gr} {f:Fr} {x:Int} {o:List Int} :(az g f x o).2.row.length≤f.row.length+o.length+1∧(az g f x o).2.pl.length=f.pl.length+1:=by
 obtain ⟨a,b,ha,hb,hab,qY⟩:=w6 f.row x
 have:=jv (g:=g) (x:=x) (outs:=o)
 have e:az g f x o=(((f.row.take b).drop a,0),⟨f.row.take a++aF g x o++f.row.drop b,f.pl++ [x]⟩):=by
  simp only [az,ha,hb,Int.toNat_natCast]
 rw [e]
 refine ⟨?_,by simp⟩
 show (f.row.take a++aF g x o++f.row.drop b).length≤_
 rw [List.length_append,List.length_append,List.length_take,List.length_drop]
 omega
end Go.Ab
end
section
namespace Go.Ab
open Go.Proofs
attribute [local congr] ACall.congr gd.congr Nx.congr
set_option maxRecDepth 10000
set_option maxHeartbeats 4000000
theorem uO (g:Gr) (hl:g.es.length≤9223372036854775807) (hm:aM g=false):Spec Tryz.prog 104 (Args [eG g]) [] (.tup [eN (gB g).1,eN (gB g).2.1, .d (sI (gB g).2.2)]) []:=by
 (refine Spec.hd (C:=T.cfg [] []) (rs:= [.t 2, .t 3, .t 4]) (T.aj _ _) Tryz.func104 rfl rfl Tryz.ntmps104 Tryz.results104 (by simp [AObj.isNest]) (by simp [AObj.isNest]) (by kernel_rfl) T.mixed fun X hX hP hC aJ b7=> ?_)
 repeat' (first|refine Rn.p ?_|(with_reducible apply And.intro)|((first|(refine hK _ ?_;clear hK K)|with_reducible intro K hK|refine Rs.p ?_|((with_reducible first|apply oP|apply oQ);exact rfl)|refine aa hX hC hP (c9 g hl) rfl rfl rfl (by simp only [go_sem,simprocAttr,hm]) rfl ?_);try simp only [go_sem,simprocAttr,hm])|((with_reducible refine oD ?_ ?_);kernel_rfl)|((with_reducible intro h);try simp only [go_sem,simprocAttr,hm] at h)|omega|intro h)
 all_goals simp [gB,fS,hm]
theorem uP (g:Gr) (hl:g.es.length≤9223372036854775807):Spec Tryz.prog 104 (Args [eG g]) [] (.tup [eN (gB g).1,eN (gB g).2.1, .d (sI (gB g).2.2)]) []:=by
 cases hm:aM g with
 |false=>exact uO g hl hm
 |true=>exact vZ g (by have:=aH hm;omega)
theorem bp (g:Gr) (hl:g.es.length≤9223372036854775807):Spec Tryz.prog 52 (Args [eG g]) [] (eB (decide ((bR g).1=0))) []:=by
 rw [K0]
 (refine Spec.hd (C:=T.cfg [] []) (rs:= [.t 2]) (T.aj _ _) Tryz.func52 rfl rfl Tryz.ntmps52 Tryz.results52 (by simp [AObj.isNest]) (by simp [AObj.isNest]) (by kernel_rfl) T.mixed fun X hX hP hC aJ b7=> ?_)
 repeat' (first|refine Rn.p ?_|(with_reducible apply And.intro)|((first|(refine hK _ ?_;clear hK K)|with_reducible intro K hK|refine Rs.p ?_|((with_reducible first|apply oP|apply oQ);exact rfl)|refine aa hX hC hP (uP g hl) rfl rfl rfl (by simp only [go_sem,simprocAttr]) rfl ?_);try simp only [go_sem,simprocAttr])|((with_reducible refine oD ?_ ?_);kernel_rfl)|((with_reducible intro h);try simp only [go_sem,simprocAttr] at h)|omega|intro h)
end Go.Ab
end
section
namespace Go.Ab
open Go.Proofs
attribute [local congr] ACall.congr gd.congr Nx.congr
set_option maxRecDepth 10000
set_option maxHeartbeats 4000000
def g9:Gr:=⟨3, [(0,1),(0,2),(1,2)]⟩
def Ub:Fr:=⟨[], []⟩
def Uc:Fr:=⟨[(0,0,1),(1,0,2)], [0]⟩
def Ud:Fr:=⟨[(2,1,2),(1,0,2)], [0,1]⟩
def Ue:Fr:=⟨[(-1,2, -1)], [0,1,2]⟩
end Go.Ab
end
section
namespace Go.Ab
open Go.Proofs
set_option maxRecDepth 10000
def Et (g:Gr) (t:It):Prop:=(t.1= -1∧t.2.2= -1)∨(0≤t.1∧t.1<g.es.length∧t.2.1=(g.es.getD t.1.toNat (0,0)).1∧t.2.2=(g.es.getD t.1.toNat (0,0)).2)
structure dR (g:Gr) (f:Fr):Prop where
 it:∀t∈f.row,Et g t
 pl:f.pl.Nodup
 qB:∀x∈f.pl,0≤x∧x<g.n
theorem kK {row:List It} {x:Int} :∀k:Nat,(cH row x k).2.2=fm row x k
 |0=>rfl
 |k+1=>by
  rw [fE,dK]
  split
  ·show (cH row x k).2.2+1=_
   rw [kK k]
  ·exact kK k
theorem qC {row:List It} {x:Int} {j:Nat} :∀d:Nat,fm row x j≤fm row x (j+d)
 |0=>Int.le_refl _
 |d+1=>by
  have:=qC (row:=row) (x:=x) (j:=j) d
  rw [← Nat.add_assoc,dK]
  split<;>omega
theorem kL {row:List It} {x:Int} :∀ {k:Nat},(∀j,j<k→(row.getD j (0,0,0)).2.2≠x)→fm row x k=0
 |0,_=>rfl
 |k+1,h=>by
  rw [dK,if_neg (h k (by omega))]
  exact kL fun j hj=>h j (by omega)
theorem qD {row:List It} {x:Int} {b:Nat} :∀ {d:Nat},(∀j,b≤j→j<b+d→(row.getD j (0,0,0)).2.2≠x)→fm row x (b+d)=fm row x b
 |0,_=>rfl
 |d+1,h=>by
  rw [← Nat.add_assoc,dK,if_neg (h (b+d) (by omega) (by omega))]
  exact qD fun j h1 h2=>h j h1 (by omega)
theorem gN {f:Edge→Int} {g:Gr} {x:Int} (h0:0≤x) (h1:x<g.n):bA f g x=aK f g.es g.es.length x:=if_pos ⟨h0,h1⟩
theorem nv {g:Gr} {e:Int} (h0:0≤e) (h1:e<g.es.length):0<aQ g (g.es.getD e.toNat (0,0)).2:=by
 refine List.length_pos_iff.2 fun h=> ?_
 have hm:e∈aK (·.2) g.es g.es.length (g.es.getD e.toNat (0,0)).2:=by
  simp only [aK,List.mem_map,List.mem_filter,List.mem_range,decide_eq_true_eq]
  exact ⟨e.toNat,⟨by omega,rfl⟩,by simp;omega⟩
 rw [h] at hm;cases hm
theorem w9 {row:List It} {p:It→Bool} {a b:Nat} (hb:b≤row.length):((row.take b).drop a).any p=true↔∃j,a≤j∧j<b∧p (row.getD j (0,0,0))=true:=by
 rw [List.any_eq_true]
 constructor
 ·rintro ⟨t,ht,hp⟩
  obtain ⟨k,hk,rfl⟩:=List.mem_iff_getElem.1 ht
  simp only [List.length_drop,List.length_take] at hk
  refine ⟨a+k,by omega,by omega, ?_⟩
  rw [List.getD_eq_getElem?_getD,List.getElem?_eq_getElem (show a+k<row.length by omega)]
  simpa using hp
 ·rintro ⟨j,h1,h2,hp⟩
  rw [List.getD_eq_getElem?_getD,List.getElem?_eq_getElem (show j<row.length by omega)] at hp
  refine ⟨row[j], ?_,hp⟩
  refine List.mem_iff_getElem.2 ⟨j - a,by simp;omega, ?_⟩
  simp only [List.getElem_drop,List.getElem_take]
  congr 1;omega
theorem Et.head {g:Gr} (hm:aM g=true) {t:It} (h:Et g t):(0≤t.1↔t.2.2≠ -1)∧ -1≤t.2.2:=by
 rcases h with ⟨h1,h2⟩|⟨h1,h2,_,h4⟩
 ·omega
 ·obtain ⟨_,h5,_⟩:=cT hm (k:=t.1.toNat) (by omega)
  omega
theorem fq {g:Gr} (hm:aM g=true) {f:Fr} (hi:dR g f) (x:Int):dZ g f x=ak g f x:=by
 by_cases hx:x<0∨g.n≤x∨x∈f.pl
 ·rw [dZ,ak,if_pos hx,if_pos hx]
 rw [dZ,ak,if_neg hx,if_neg hx]
 have hx0:0≤x∧x<g.n:=by
  constructor
  ·exact Int.not_lt.1 fun h=>hx (.inl h)
  ·exact Int.not_le.1 fun h=>hx (.inr (.inl h))
 have hmem:∀j,j<f.row.length→Et g (f.row.getD j (0,0,0)):=fun j hj=>hi.it _ (aE hj)
 rw [gN hx0.1 hx0.2]
 have hN:(aK (fun e=>e.2) g.es g.es.length x).length=aQ g x:=rfl
 rw [hN]
 have K6:(bh f.row x).2.2=fm f.row x f.row.length:=kK _
 by_cases h0:aQ g x=0
 ·rw [if_pos h0,h0,decide_eq_true rfl,Bool.true_or,Bool.and_true,decide_eq_true_eq,K6,kL]
  ·rfl
  ·intro j hj he
   rcases hmem j hj with ⟨_,h2⟩|⟨h1,h2,_,h4⟩
   ·omega
   ·have:=nv h1 h2
    rw [← h4,he] at this
    omega
 ·rw [if_neg h0,decide_eq_false h0,Bool.false_or,K6]
  generalize aQ g x=need at h0
  rcases di (row:=f.row) (x:=x) f.row.length with ⟨hs,hno⟩|⟨a,b,c,hs,hab,qY,hc0,hcl,ha,hb,hlo,hhi⟩
  ·rw [kL hno]
   have e1:decide ((0:Int)=(need:Int))=false:=decide_eq_false (by omega)
   rw [e1,Bool.false_and,Bool.and_false]
  ·have hs':bh f.row x=((a:Int),(b:Int),(c:Int)):=hs
   have JW:fm f.row x f.row.length=c:=by rw [← K6,hs']
   rw [hs',JW]
   simp only [Int.toNat_natCast]
   rw [Bool.and_comm]
   by_cases NR:¬(c:Int)=need
   ·rw [decide_eq_false NR,Bool.and_false,Bool.and_false]
   rw [Decidable.not_not] at NR
   rw [decide_eq_true NR,Bool.and_true,Bool.and_true,rK]
   congr 1
   rw [Bool.eq_iff_iff,w9 qY,List.any_eq_true]
   have ma:fm f.row x a=0:=kL hlo
   have Uf:fm f.row x (a+1)=1:=by rw [dK,if_pos ha,ma];rfl
   have mb:fm f.row x b=need:=by
    have h:=qD (row:=f.row) (x:=x) (b:=b) (d:=f.row.length - b) fun j h1 h2=>hhi j h1 (by omega)
    rw [show b+(f.row.length - b)=f.row.length by omega,JW] at h
    omega
   have Ug:fm f.row x (b - 1)+1=need:=by
    have h:=dK (row:=f.row) (x:=x) (k:=b - 1)
    rw [if_pos hb,show b - 1+1=b by omega,mb] at h
    omega
   constructor
   ·rintro ⟨j,h1,h2,hp⟩
    simp only [lM,Bool.and_eq_true,decide_eq_true_eq] at hp
    have hja:j≠a:=fun e=>hp.1 (by rw [e];exact ha)
    have hjb:j≠b - 1:=fun e=>hp.1 (by rw [e];exact hb)
    have g1:=qC (row:=f.row) (x:=x) (j:=a+1) (j - (a+1))
    rw [show a+1+(j - (a+1))=j by omega] at g1
    have g2:=qC (row:=f.row) (x:=x) (j:=j) (b - 1 - j)
    rw [show j+(b - 1 - j)=b - 1 by omega] at g2
    exact ⟨j,List.mem_range.2 (by omega),ja.2 ⟨⟨hp.1,((hmem j (by omega)).head hm).1.2 hp.2⟩,by omega,by omega⟩⟩
   ·rintro ⟨j,hj,hl⟩
    have hj:=List.mem_range.1 hj
    obtain ⟨⟨h1,h2⟩,h3,h4⟩:=ja.1 hl
    refine ⟨j, ?_, ?_, ?_⟩
    ·refine Nat.not_lt.1 fun h=> ?_
     have:=kL (row:=f.row) (x:=x) (k:=j) fun i hi=>hlo i (by omega)
     omega
    ·refine Nat.not_le.1 fun h=> ?_
     have:=qD (row:=f.row) (x:=x) (b:=b) (d:=j - b) fun i h1 h2=>hhi i h1 (by omega)
     rw [show b+(j - b)=j by omega] at this
     omega
    ·simp only [lM,Bool.and_eq_true,decide_eq_true_eq]
     exact ⟨h1,((hmem j hj).head hm).1.1 h2⟩
theorem sX:∀ {ms os:List Int},ms.Nodup→(∀i∈ms,i∈os)→os.length=ms.length→os.Perm ms
 | [],os,_,_,hl=>by
   have h:os= []:=List.eq_nil_of_length_eq_zero (by simpa using hl)
   rw [h]
 |m::ms,os,hn,hs,hl=>by
  rw [List.nodup_cons] at hn
  have hm:=hs m (List.mem_cons_self ..)
  refine (List.perm_cons_erase hm).trans (List.Perm.cons m (sX hn.2 (fun j hj=> ?_) ?_))
  ·have:j≠m:=fun e=>hn.1 (e ▸ hj)
   exact (List.mem_erase_of_ne this).2 (hs j (List.mem_cons_of_mem _ hj))
  ·rw [List.length_erase_of_mem hm,hl];simp
theorem rM {g:Gr} {x:Int} :(aZ g x).Pairwise (· ≤ ·):=by
 unfold aZ aK
 refine List.Pairwise.map _ (fun a b (h:a<b)=> ?_) (List.Pairwise.filter _ List.pairwise_lt_range)
 show (a:Int)≤b
 omega
theorem uQ {l m:List Int} (h:l.Perm m) (hm:m.Pairwise (· ≤ ·)):iE l=m:=by
 have h1:(iE l).Pairwise (· ≤ ·):=by
  have:=List.pairwise_mergeSort (le:=fun a b:Int=>decide (a≤b)) (by simp;omega) (by simp;omega) l
  simpa [iE] using this
 have h2:(iE l).Perm m:=(by unfold iE;exact (List.mergeSort_perm l _).trans h)
 exact h2.eq_of_pairwise (fun a b _ _ h1 h2=>Int.le_antisymm h1 h2) h1 hm
theorem aB {g:Gr} {f:Fr} {x:Int} (h:ak g f x=true):0≤x∧x<g.n∧x∉f.pl:=by
 unfold ak at h
 by_cases hx:x<0∨g.n≤x∨x∈f.pl
 ·rw [if_pos hx] at h;cases h
 ·exact ⟨Int.not_lt.1 fun h=>hx (.inl h),Int.not_le.1 fun h=>hx (.inr (.inl h)),fun h=>hx (.inr (.inr h))⟩
theorem GQ {g:Gr} (hm:aM g=true) {f:Fr} (hi:dR g f) (x:Int) (outs:List Int):j0 g f x outs=cF g f x outs:=by
 rw [j0,cF,fq hm hi]
 cases hR:ak g f x with
 |false=>rw [if_pos rfl,if_pos rfl]
 |true=>
  obtain ⟨h0,h1,h2⟩:=aB hR
  have ht:¬(true=false):=by simp
  rw [if_neg ht,if_neg ht,gN h0 h1]
  show (if iE outs≠aZ g x then _ else az g f x outs)=_
  by_cases hs:iE outs=aZ g x
  ·rw [if_neg (fun h=>h hs),if_neg]
   rintro (h|⟨i,h3,h4⟩)
   ·exact h (by rw [← hs,fC])
   ·exact h4 (z8.1 (hs ▸ h3))
  ·rw [if_pos hs,if_pos]
   refine Decidable.byContradiction fun h=>hs ?_
   have hl:outs.length=(aZ g x).length:=Decidable.byContradiction fun e=>h (.inl e)
   exact uQ (sX cJ (fun i hi=>Decidable.byContradiction fun e=>h (.inr ⟨i,hi,e⟩)) hl) rM
theorem GR {g:Gr} {x:Int} {outs:List Int} (ho:∀i∈outs,i∈aZ g x):∀t∈aF g x outs,Et g t:=by
 intro t ht
 unfold aF at ht
 split at ht
 ·rw [List.mem_singleton] at ht
  rw [ht];exact .inl ⟨rfl,rfl⟩
 ·obtain ⟨i,hi,rfl⟩:=List.mem_map.1 ht
  obtain ⟨⟨h1,h2⟩,h3⟩:=fV (ho i hi)
  exact .inr ⟨h1,h2,h3.symm,rfl⟩
theorem GS {g:Gr} {f:Fr} (hi:dR g f) {x:Int} (hR:ak g f x=true) {outs:List Int} (ho:∀i∈outs,i∈aZ g x):dR g (az g f x outs).2:=by
 obtain ⟨h0,h1,h2⟩:=aB hR
 refine ⟨fun t ht=> ?_, ?_,fun y hy=> ?_⟩
 ·simp only [az,List.mem_append] at ht
  rcases ht with (ht|ht)|ht
  ·exact hi.it t (List.mem_of_mem_take ht)
  ·exact GR ho t ht
  ·exact hi.it t (List.mem_of_mem_drop ht)
 ·show (f.pl++ [x]).Nodup
  rw [List.nodup_append]
  refine ⟨hi.pl,by simp,fun a ha b hb e=>h2 ?_⟩
  rw [List.mem_singleton] at hb
  rw [← hb, ← e];exact ha
 ·have hy:y∈f.pl++ [x]:=hy
  rcases List.mem_append.1 hy with h|h
  ·exact hi.qB y h
  ·rw [List.mem_singleton] at h
   rw [h];exact ⟨h0,h1⟩
end Go.Ab
end
section
namespace Go.Ab
open Go.Proofs
set_option maxRecDepth 10000
def jH (x:Int) (t:It):Bool:=decide (t.2.2=x)
structure Mid (x:Int) (X:List It):Prop where
 fst:∃p X',X=p::X'∧p.2.2=x
 KO:∃X' q,X=X'++ [q]∧q.2.2=x
 al:∀t∈X,t.2.2=x∨t.2.2= -1
def fW (x:Int) (l:List It):Prop:=∀t∈l,t.2.2≠x
theorem fW.app {x:Int} {l m:List It} (h:fW x l) (h':fW x m):fW x (l++m):=fun t ht=>(List.mem_append.1 ht).elim (h t) (h' t)
theorem fW.left {x:Int} {l m:List It} (h:fW x (l++m)):fW x l:=fun t ht=>h t (List.mem_append.2 (.inl ht))
theorem fW.right {x:Int} {l m:List It} (h:fW x (l++m)):fW x m:=fun t ht=>h t (List.mem_append.2 (.inr ht))
theorem Mid.Q0 {x y:Int} {X:List It} (h:Mid x X) (hxy:x≠y) (hy:0≤y):fW y X:=fun t ht e=>by
 rcases h.al t ht with h1|h1<;>omega
theorem lP {row:List It} {x:Int} :∀ {k:Nat},k≤row.length→fm row x k=((row.take k).countP (jH x):Nat)
 |0,_=>by simp [fm]
 |k+1,h=>by
  rw [dK,lP (k:=k) (by omega),List.take_add_one,List.getElem?_eq_getElem (show k<row.length by omega),List.countP_append]
  simp only [Option.toList,List.countP_cons,List.countP_nil,jH,decide_eq_true_eq,List.getD_eq_getElem?_getD,List.getElem?_eq_getElem (show k<row.length by omega),Option.getD_some]
  split<;>simp
theorem Eu {A X C:List It} {p:It} {X':List It} (h:X=p::X'):(A++X++C).getD A.length (0,0,0)=p:=by
 subst h;simp [List.getD_eq_getElem?_getD]
theorem Ev {A X C:List It} {q:It} {X':List It} (h:X=X'++ [q]):(A++X++C).getD (A.length+X.length - 1) (0,0,0)=q:=by
 subst h
 have e:A.length+(X'++ [q]).length - 1=(A++X').length:=by simp
 rw [e,show A++(X'++ [q])++C=(A++X')++([q]++C) by simp]
 simp [List.getD_eq_getElem?_getD]
theorem Ew {A L:List It} {j:Nat} (h:j<A.length):(A++L).getD j (0,0,0)∈A:=by
 rw [List.getD_eq_getElem?_getD,List.getElem?_append_left h,List.getElem?_eq_getElem h]
 exact List.getElem_mem h
theorem Ex {A L:List It} {j:Nat} (h:A.length≤j) (h':j<(A++L).length):(A++L).getD j (0,0,0)∈L:=by
 rw [List.length_append] at h'
 rw [List.getD_eq_getElem?_getD,List.getElem?_append_right h,List.getElem?_eq_getElem (by omega)]
 exact List.getElem_mem _
theorem C1 {A X C:List It} {x:Int} (hA:fW x A) (hC:fW x C) (hX:Mid x X):
 (bh (A++X++C) x).1=(A.length:Int)∧(bh (A++X++C) x).2.1=((A.length+X.length:Nat):Int)∧(bh (A++X++C) x).2.2=(X.countP (jH x):Nat):=by
 have vW:(bh (A++X++C) x).2.2=(X.countP (jH x):Nat):=by
  unfold bh
  rw [kK,lP (Nat.le_refl _),List.take_length,List.countP_append,List.countP_append]
  have h1:A.countP (jH x)=0:=List.countP_eq_zero.2 fun t ht=>by simp [jH,hA t ht]
  have h2:C.countP (jH x)=0:=List.countP_eq_zero.2 fun t ht=>by simp [jH,hC t ht]
  rw [h1,h2];simp
 obtain ⟨p,X',e1,hp⟩:=hX.fst
 obtain ⟨Uh,q,e2,hq⟩:=hX.KO
 have g1:=Eu (A:=A) (C:=C) e1
 have g2:=Ev (A:=A) (C:=C) e2
 have PV:0<X.length:=by rw [e1];simp
 have hlen:(A++X++C).length=A.length+X.length+C.length:=by simp;omega
 rcases di (row:=A++X++C) (x:=x) (A++X++C).length with ⟨_,hno⟩|⟨a,b,c,hs,hab,qY,hc0,hcl,ha,hb,hlo,hhi⟩
 ·exact absurd (by rw [g1];exact hp) (hno A.length (by omega))
 ·have hs':bh (A++X++C) x=((a:Int),(b:Int),(c:Int)):=hs
  refine ⟨?_, ?_,vW⟩
  ·rw [hs']
   have h1:¬A.length<a:=fun h=>hlo _ h (by rw [g1];exact hp)
   have h2:¬a<A.length:=fun h=>hA _ (by have:=Ew (L:=X++C) h;rw [← List.append_assoc] at this;exact this) ha
   simp only;omega
  ·rw [hs']
   have h1:¬b<A.length+X.length:=fun h=>hhi (A.length+X.length - 1) (by omega) (by omega) (by rw [g2];exact hq)
   have h2:¬A.length+X.length<b:=fun h=>hC _ (Ex (A:=A++X) (j:=b - 1) (by simp;omega) (by omega)) hb
   simp only;omega
theorem jx {g:Gr} (hm:aM g=true) {f:Fr} (hi:dR g f) {A X C:List It} {x:Int} (h0:0≤x) (h1:x<g.n) (hp:x∉f.pl) (hr:f.row=A++X++C) (hA:fW x A) (hC:fW x C) (hX:Mid x X)
 (hc:X.countP (jH x)=aQ g x):ak g f x=true:=by
 rw [← fq hm hi,dZ,if_neg (by rintro (h|h|h);omega;omega;exact hp h)]
 obtain ⟨e1,e2,e3⟩:=C1 hA hC hX
 rw [hr,e1,e2,e3,gN h0 h1,Bool.and_eq_true,decide_eq_true_eq]
 refine ⟨by rw [hc];rfl, ?_⟩
 rw [Bool.or_eq_true];right
 simp only [rK,Int.toNat_natCast]
 rw [List.take_append_of_le_length (by simp),List.take_of_length_le (by simp),List.drop_left,Bool.not_eq_true',List.any_eq_false]
 intro t ht
 simp only [lM,Bool.and_eq_true,decide_eq_true_eq]
 rcases hX.al t ht with h|h<;>simp [h]
theorem bP {g:Gr} (hm:aM g=true) {f:Fr} (hi:dR g f) {x:Int} (hR:ak g f x=true) (hn:aQ g x≠0):
 ∃A X C,f.row=A++X++C∧fW x A∧fW x C∧Mid x X∧X.countP (jH x)=aQ g x:=by
 obtain ⟨h0,h1,h2⟩:=aB hR
 rw [← fq hm hi,dZ,if_neg (by rintro (h|h|h);omega;omega;exact h2 h),gN h0 h1,Bool.and_eq_true,decide_eq_true_eq] at hR
 have hN:(aK (fun e=>e.2) g.es g.es.length x).length=aQ g x:=rfl
 rw [hN,decide_eq_false hn,Bool.false_or] at hR
 obtain ⟨hc,hb⟩:=hR
 have vW:(f.row.countP (jH x):Int)=aQ g x:=by
  rw [← hc];unfold bh
  rw [kK,lP (Nat.le_refl _),List.take_length]
 rcases di (row:=f.row) (x:=x) f.row.length with ⟨hs,hno⟩|⟨a,b,c,hs,hab,qY,hc0,hcl,ha,hb',hlo,hhi⟩
 ·have:bh f.row x=(-1,0,0):=hs
  rw [this] at hc
  exfalso;simp only at hc;omega
 ·have hs':bh f.row x=((a:Int),(b:Int),(c:Int)):=hs
  rw [hs'] at hb
  simp only [Int.toNat_natCast] at hb
  have hA:fW x (f.row.take a):=fun t ht=>by
   obtain ⟨j,hj,rfl⟩:=List.mem_iff_getElem.1 ht
   simp only [List.length_take] at hj
   have:=hlo j (by omega)
   rw [List.getD_eq_getElem?_getD,List.getElem?_eq_getElem (show j<f.row.length by omega)] at this
   simpa using this
  have hC:fW x (f.row.drop b):=fun t ht=>by
   obtain ⟨j,hj,rfl⟩:=List.mem_iff_getElem.1 ht
   simp only [List.length_drop] at hj
   have:=hhi (b+j) (by omega) (by omega)
   rw [List.getD_eq_getElem?_getD,List.getElem?_eq_getElem (show b+j<f.row.length by omega)] at this
   simpa using this
  have hrow:f.row=f.row.take a++(f.row.take b).drop a++f.row.drop b:=by
   have e1:f.row.take a=(f.row.take b).take a:=by rw [List.take_take,Nat.min_eq_left (by omega)]
   rw [e1,List.take_append_drop,List.take_append_drop]
  refine ⟨f.row.take a,(f.row.take b).drop a,f.row.drop b,hrow,hA,hC,⟨?_, ?_, ?_⟩, ?_⟩
  ·refine ⟨f.row.getD a (0,0,0),(f.row.take b).drop (a+1), ?_,ha⟩
   rw [List.drop_eq_getElem_cons (by simp;omega)]
   congr 1
   rw [List.getD_eq_getElem?_getD,List.getElem?_eq_getElem (show a<f.row.length by omega)]
   simp
  ·refine ⟨(f.row.take (b - 1)).drop a,f.row.getD (b - 1) (0,0,0), ?_,hb'⟩
   have e:f.row.take b=f.row.take (b - 1)++ [f.row.getD (b - 1) (0,0,0)]:=by
    conv=>lhs;rw [show b=b - 1+1 by omega]
    rw [List.take_add_one,List.getD_eq_getElem?_getD,List.getElem?_eq_getElem (show b - 1<f.row.length by omega)]
    rfl
   rw [e,List.drop_append_of_le_length (by simp;omega)]
  ·intro t ht
   rw [rK,Bool.not_eq_true',List.any_eq_false] at hb
   have:=hb t ht
   simp only [lM,Bool.and_eq_true,decide_eq_true_eq,not_and] at this
   by_cases h:t.2.2=x
   ·exact .inl h
   ·exact .inr (Decidable.byContradiction fun h'=>this h h')
  ·have h1:(f.row.take a).countP (jH x)=0:=List.countP_eq_zero.2 fun t ht=>by simp [jH,hA t ht]
   have h2:(f.row.drop b).countP (jH x)=0:=List.countP_eq_zero.2 fun t ht=>by simp [jH,hC t ht]
   rw [hrow,List.countP_append,List.countP_append,h1,h2] at vW
   omega
theorem eR {g:Gr} {f:Fr} {A X C:List It} {x:Int} (o:List Int) (hr:f.row=A++X++C) (hA:fW x A) (hC:fW x C) (hX:Mid x X):
 az g f x o=((X,0),⟨A++aF g x o++C,f.pl++ [x]⟩):=by
 obtain ⟨e1,e2,e3⟩:=C1 hA hC hX
 have e4:max (A.length:Int) 0=(A.length:Int):=by omega
 unfold az
 rw [hr,e1,e2,e4,Int.toNat_natCast,Int.toNat_natCast]
 rw [List.take_append_of_le_length (show A.length+X.length≤(A++X).length by simp),List.take_of_length_le (show (A++X).length≤A.length+X.length by simp),List.drop_left]
 rw [show (A++X++C).take A.length=A by rw [List.append_assoc,List.take_left]]
 rw [show (A++X++C).drop (A.length+X.length)=C by rw [← List.length_append,List.drop_left]]
theorem eS {g:Gr} {f:Fr} {x:Int} (o:List Int) (hr:fW x f.row):az g f x o=(([],0),⟨aF g x o++f.row,f.pl++ [x]⟩):=by
 have hs:bh f.row x=(-1,0,0):=by
  rcases di (row:=f.row) (x:=x) f.row.length with ⟨hs,_⟩|⟨a,b,c,hs,hab,qY,hc0,hcl,ha,hb',hlo,hhi⟩
  ·exact hs
  ·exact absurd ha (hr _ (aE (by omega)))
 have e4:max (-1:Int) 0=0:=by omega
 unfold az
 rw [hs]
 simp [e4]
end Go.Ab
end
section
namespace Go.Ab
open Go.Proofs
set_option maxRecDepth 10000
structure xb (g:Gr) (f:Fr):Prop extends dR g f where
 tail:∀t∈f.row,0≤t.1→t.2.1∈f.pl
 head:∀t∈f.row,0≤t.1→t.2.2∉f.pl
 once:f.row.Pairwise fun s t=>0≤s.1→s.1≠t.1
 low:∀i,i<g.es.length→hd g i∈f.pl→tl g i∈f.pl
 src:(f.pl= []∧f.row= [])∨∃s∈f.pl,aQ g s=0
theorem pS (g:Gr):xb g ⟨[], []⟩:=
 {it:=by simp,pl:=by simp,qB:=by simp,tail:=by simp,head:=by simp,once:=by simp,low:=by simp,src:= .inl ⟨rfl,rfl⟩}
theorem uR {g:Gr} (hm:aM g=true) {f:Fr} (hi:xb g f) {x:Int} (hR:ak g f x=true) {i:Nat} (hl:i<g.es.length) (hx:hd g i=x):∃t∈f.row,t.1=i∧t.2.1=tl g i∧t.2.2=x:=by
 have hn:aQ g x≠0:=by
  have:=nv (g:=g) (e:=(i:Int)) (by omega) (by omega)
  rw [Int.toNat_natCast,show (g.es.getD i (0,0)).2=x from hx] at this
  omega
 obtain ⟨A,X,C,hr,hA,hC,hX,hc⟩:=bP hm hi.todR hR hn
 have hN:(aK (fun e=>e.2) g.es g.es.length x).length=aQ g x:=rfl
 have hok:∀t∈f.row,t.2.2=x→0≤t.1∧t.1<g.es.length∧t.2.1=(g.es.getD t.1.toNat (0,0)).1∧t.2.2=(g.es.getD t.1.toNat (0,0)).2:=fun t ht he=>by
  rcases hi.it t ht with ⟨_,h2⟩|h
  ·have:=(aB hR).1;omega
  ·exact h
 have hmem:∀t∈X,t∈f.row:=fun t ht=>by rw [hr];simp [ht]
 have C2:=sX (ms:=(X.filter (jH x)).map (·.1)) (os:=aK (fun e=>e.2) g.es g.es.length x)
 have key:∀i∈aK (fun e=>e.2) g.es g.es.length x,i∈(X.filter (jH x)).map (·.1):=by
  refine yF (ms:=(X.filter (jH x)).map (·.1)) (os:=aK (fun e=>e.2) g.es g.es.length x) ?_ ?_ ?_
  ·have h1:X.Pairwise fun s t=>0≤s.1→s.1≠t.1:=by
    have:=hi.once
    rw [hr,List.pairwise_append,List.pairwise_append] at this
    exact this.1.2.1
   have h2:=h1.filter (jH x)
   rw [List.Nodup,List.pairwise_map]
   refine h2.imp_of_mem fun {a b} ha hb h=>h ?_
   obtain ⟨SG,PW⟩:=List.mem_filter.1 ha
   exact (hok a (hmem a SG) (by simpa [jH] using PW)).1
  ·intro e he
   obtain ⟨t,ht,rfl⟩:=List.mem_map.1 he
   obtain ⟨ht1,ht2⟩:=List.mem_filter.1 ht
   have ht2:t.2.2=x:=by simpa [jH] using ht2
   obtain ⟨h1,h2,h3,h4⟩:=hok t (hmem t ht1) ht2
   simp only [aK,List.mem_map,List.mem_filter,List.mem_range,decide_eq_true_eq]
   exact ⟨t.1.toNat,⟨by omega,by rw [← h4];exact ht2⟩,by simp;omega⟩
  ·rw [hN, ← hc,List.length_map,List.countP_eq_length_filter]
 have hie:(i:Int)∈aK (fun e=>e.2) g.es g.es.length x:=by
  simp only [aK,List.mem_map,List.mem_filter,List.mem_range,decide_eq_true_eq]
  exact ⟨i,⟨hl,hx⟩,rfl⟩
 obtain ⟨t,ht,he⟩:=List.mem_map.1 (key _ hie)
 obtain ⟨ht1,ht2⟩:=List.mem_filter.1 ht
 have ht2:t.2.2=x:=by simpa [jH] using ht2
 obtain ⟨h1,h2,h3,h4⟩:=hok t (hmem t ht1) ht2
 refine ⟨t,hmem t ht1,he, ?_,ht2⟩
 rw [h3,he,Int.toNat_natCast];rfl
theorem gO {g:Gr} (hm:aM g=true) {f:Fr} (hi:dR g f) {x:Int} (h0:0≤x) (hn:aQ g x=0):fW x f.row:=by
 intro t ht he
 rcases hi.it t ht with ⟨_,h2⟩|⟨h1,h2,_,h4⟩
 ·omega
 ·have:=nv h1 h2
  rw [← h4,he] at this
  omega
theorem fF {g:Gr} (hm:aM g=true) {f:Fr} (hi:dR g f) {x:Int} (hR:ak g f x=true):
 ∃A X C,f.row=A++X++C∧fW x A∧fW x C∧(∀t∈X,t.2.2=x∨t.2.2= -1)∧∀o,az g f x o=((X,0),⟨A++aF g x o++C,f.pl++ [x]⟩):=by
 by_cases hn:aQ g x=0
 ·have h:=gO hm hi (aB hR).1 hn
  exact ⟨[], [],f.row,by simp,fun t ht=>(by cases ht),h,fun t ht=>(by cases ht),fun o=>by rw [eS o h];simp⟩
 ·obtain ⟨A,X,C,hr,hA,hC,hX,_⟩:=bP hm hi hR hn
  exact ⟨A,X,C,hr,hA,hC,hX.al,fun o=>eR o hr hA hC hX⟩
theorem ij {g:Gr} {x i:Int} (h:i∈aZ g x):∃k:Nat,i=k∧k<g.es.length∧tl g k=x:=by
 obtain ⟨⟨h1,h2⟩,h3⟩:=fV h
 exact ⟨i.toNat,by omega,by omega,h3⟩
theorem kM {g:Gr} {x:Int} {o:List Int} (ho:∀i∈o,i∈aZ g x) {t:It} (h:t∈aF g x o):(t.1= -1∧t.2.2= -1)∨∃k:Nat,k<g.es.length∧t.1=k∧t.2.1=x∧t.2.2=hd g k∧tl g k=x∧t.1∈o:=by
 unfold aF at h
 split at h
 ·rw [List.mem_singleton] at h
  rw [h];exact .inl ⟨rfl,rfl⟩
 ·obtain ⟨i,Q1,rfl⟩:=List.mem_map.1 h
  obtain ⟨k,rfl,h1,h2⟩:=ij (ho i Q1)
  exact .inr ⟨k,h1,rfl,rfl,by simp [dJ];rfl,h2,Q1⟩
theorem qE {g:Gr} (hm:aM g=true) {f:Fr} (hi:xb g f) {x y:Int} (hx:x∉f.pl) (hR:ak g f y=true) {o:List Int} (ho:∀i∈o,i∈aZ g x):fW y (aF g x o):=by
 intro t ht he
 rcases kM ho ht with ⟨_,h⟩|⟨k,h1,h2,h3,h4,h5,_⟩
 ·have:=(aB hR).1;omega
 ·obtain ⟨s,hs,e1,e2,e3⟩:=uR hm hi hR h1 (by rw [← h4];exact he)
  refine hx ?_
  rw [← h5, ← e2]
  exact hi.tail s hs (by omega)
theorem iq {g:Gr} (hm:aM g=true) {f:Fr} (hi:xb g f) {x:Int} (hR:ak g f x=true) {o:List Int} (ho:o.Perm (aZ g x)):xb g (az g f x o).2:=by
 have IZ:∀i∈o,i∈aZ g x:=fun i h=>ho.mem_iff.1 h
 have hx:=(aB hR).2.2
 have h0:=GS hi.todR hR IZ
 obtain ⟨A,X,C,hr,hA,hC,hX,hs⟩:=fF hm hi.todR hR
 have dM:(az g f x o).2.pl=f.pl++ [x]:=rfl
 have hrow:(az g f x o).2.row=A++aF g x o++C:=by rw [hs o]
 have PX:∀t∈A,t∈f.row:=fun t ht=>by rw [hr];simp [ht]
 have PY:∀t∈C,t∈f.row:=fun t ht=>by rw [hr];simp [ht]
 have Nc:=qE hm hi hx hR IZ
 refine {todR:=h0,tail:= ?_,head:= ?_,once:= ?_,low:= ?_,src:= .inr ?_}
 ·intro t ht h1
  rw [dM]
  rw [hrow,List.mem_append,List.mem_append] at ht
  rcases ht with (ht|ht)|ht
  ·exact List.mem_append_left _ (hi.tail t (PX t ht) h1)
  ·rcases kM IZ ht with ⟨h,_⟩|⟨k,_,_,h3,_⟩
   ·omega
   ·rw [h3];simp
  ·exact List.mem_append_left _ (hi.tail t (PY t ht) h1)
 ·intro t ht h1
  rw [dM,List.mem_append,List.mem_singleton]
  rw [hrow,List.mem_append,List.mem_append] at ht
  rcases ht with (ht|ht)|ht
  ·rintro (h|h)
   ·exact hi.head t (PX t ht) h1 h
   ·exact hA t ht h
  ·rintro (h|h)
   ·rcases kM IZ ht with ⟨h',_⟩|⟨k,hk,_,_,h4,h5,_⟩
    ·omega
    ·rw [h4] at h
     have:=hi.low k hk h
     rw [h5] at this;exact hx this
   ·exact Nc t ht h
  ·rintro (h|h)
   ·exact hi.head t (PY t ht) h1 h
   ·exact hC t ht h
 ·have zg:=hi.once
  rw [hr,List.pairwise_append,List.pairwise_append] at zg
  obtain ⟨⟨SH,_,_⟩,SI,PZ⟩:=zg
  have old:∀s∈f.row,0≤s.1→∀t∈aF g x o,s.1≠t.1:=fun s hs h1 t ht e=>by
   rcases kM IZ ht with ⟨h,_⟩|⟨k,hk,h2,h3,h4,h5,_⟩
   ·omega
   ·rcases hi.it s hs with ⟨h,_⟩|⟨_,_,h6,_⟩
    ·omega
    ·have:=hi.tail s hs h1
     rw [h6,e,h2,Int.toNat_natCast] at this
     exact hx (h5 ▸ this)
  rw [hrow,List.pairwise_append,List.pairwise_append]
  refine ⟨⟨SH, ?_,fun s hs t ht h1=>old s (PX s hs) h1 t ht⟩,SI, ?_⟩
  ·unfold aF
   split
   ·simp
   ·refine List.pairwise_map.2 ((ho.nodup_iff.2 cJ).imp fun {i j} (h:i≠j) _=> ?_)
    exact h
  ·intro s hs t ht h1
   rcases List.mem_append.1 hs with hs|hs
   ·exact PZ s (List.mem_append_left _ hs) t ht h1
   ·intro e
    exact old t (PY t ht) (by omega) s hs e.symm
 ·intro i hl h
  rw [dM,List.mem_append,List.mem_singleton] at h ⊢
  left
  rcases h with h|h
  ·exact hi.low i hl h
  ·obtain ⟨t,ht,e1,e2,_⟩:=uR hm hi hR hl h
   rw [← e2]
   exact hi.tail t ht (by omega)
 ·rcases hi.src with ⟨h1,h2⟩|⟨s,hs,h⟩
  ·refine ⟨x,by rw [dM];simp, ?_⟩
   refine Decidable.byContradiction fun hn=> ?_
   obtain ⟨A,X,C,hr,_,_,hX,_⟩:=bP hm hi.todR hR hn
   obtain ⟨p,X',e,_⟩:=hX.fst
   rw [h2,e] at hr
   simp at hr
  ·exact ⟨s,by rw [dM];simp [hs],h⟩
theorem apart {x y:Int} (hx:0≤x) (hy:0≤y) (hxy:x≠y) {A X C B Y D:List It} (h:A++X++C=B++Y++D) (hX:Mid x X) (hY:Mid y Y):
 (∃M,B=A++X++M∧C=M++Y++D)∨(∃M,A=B++Y++M∧D=M++X++C):=by
 obtain ⟨p,X',K7,hp⟩:=hX.fst
 obtain ⟨q,Y',SJ,hq⟩:=hY.fst
 have nX:q∉X:=fun h=>hX.Q0 hxy hy q h hq
 have nY:p∉Y:=fun h=>hY.Q0 (Ne.symm hxy) hx p h hp
 rw [show B++Y++D=B++(Y++D) by simp,List.append_eq_append_iff] at h
 rcases h with ⟨es,h1,h2⟩|⟨cs,h1,h2⟩
 ·exact .inl ⟨es,h1,by rw [h2];simp⟩
 ·match cs,h1,h2 with
  | [],h1,h2=>exact .inl ⟨[],by simpa using h1.symm,by simpa using h2.symm⟩
  |c::cs,h1,h2=>
   have SK:c=q:=by rw [SJ] at h2;simp at h2;exact h2.1.symm
   rw [List.append_eq_append_iff] at h1
   rcases h1 with ⟨es,h3,h4⟩|⟨ds,h3,h4⟩
   ·exfalso;refine nX ?_
    rw [h4, ← SK];simp
   ·rw [h4,List.append_assoc,List.append_eq_append_iff] at h2
    rcases h2 with ⟨es,h5,h6⟩|⟨bs,h5,h6⟩
    ·exact .inr ⟨es,by rw [h3,h5];simp,by rw [h6];simp⟩
    ·match bs,h5,h6 with
     | [],h5,h6=>exact .inr ⟨[],by rw [h3,h5];simp,by simpa using h6.symm⟩
     |b::bs,h5,h6=>
      exfalso;refine nY ?_
      have SL:b=p:=by rw [K7] at h6;simp at h6;exact h6.1.symm
      rw [h5, ← SL];simp
theorem Af {g:Gr} (hm:aM g=true) {f:Fr} (hi:xb g f) {x y:Int} (hxy:x≠y) (C3:ak g f x=true) (sj:ak g f y=true)
 {a b:List Int} (ha:a.Perm (aZ g x)) (hb:b.Perm (aZ g y)) {A X M Y D:List It} (hr:f.row=A++X++M++Y++D) (hX:Mid x X) (hY:Mid y Y)
 (cX:X.countP (jH x)=aQ g x) (cY:Y.countP (jH y)=aQ g y)
 (nA:fW x A) (nC:fW x (M++Y++D)) (nB:fW y (A++X++M)) (nD:fW y D):
 ak g (az g f x a).2 y=true∧ak g (az g f y b).2 x=true∧(az g (az g f x a).2 y b).2.row=(az g (az g f y b).2 x a).2.row∧
 (az g f x a).1=(az g (az g f y b).2 x a).1∧(az g f y b).1=(az g (az g f x a).2 y b).1:=by
 obtain ⟨x0,x1,x2⟩:=aB C3
 obtain ⟨y0,y1,y2⟩:=aB sj
 have i1:=(iq hm hi C3 ha).todR
 have i2:=(iq hm hi sj hb).todR
 have ux:=qE hm hi x2 sj (fun i h=>ha.mem_iff.1 h)
 have uy:=qE hm hi y2 C3 (fun i h=>hb.mem_iff.1 h)
 have r1:f.row=A++X++(M++Y++D):=by rw [hr];simp
 have r2:f.row=(A++X++M)++Y++D:=by rw [hr]
 have e1:=eR (g:=g) a r1 nA nC hX
 have e2:=eR (g:=g) b r2 nB nD hY
 rw [e1] at i1 ⊢;rw [e2] at i2 ⊢
 have r3:A++aF g x a++(M++Y++D)=(A++aF g x a++M)++Y++D:=by simp
 have r4:A++X++M++aF g y b++D=A++X++(M++aF g y b++D):=by simp
 have n3:fW y (A++aF g x a++M):=((nB.left.left).app ux).app nB.right
 have n4:fW x (M++aF g y b++D):=(nC.left.left.app uy).app nC.right
 have e3:=eR (g:=g) (f:=⟨A++aF g x a++(M++Y++D),f.pl++ [x]⟩) b r3 n3 nD hY
 have e4:=eR (g:=g) (f:=⟨A++X++M++aF g y b++D,f.pl++ [y]⟩) a r4 nA n4 hX
 refine ⟨jx hm i1 y0 y1 ?_ r3 n3 nD hY cY,jx hm i2 x0 x1 ?_ r4 nA n4 hX cX, ?_, ?_, ?_⟩
 ·simp [y2,Ne.symm hxy]
 ·simp [x2,hxy]
 ·simp only [e3,e4];simp
 ·simp only [e4]
 ·simp only [e3]
theorem Ey {g:Gr} (hm:aM g=true) {f:Fr} (hi:xb g f) {x y:Int} (hxy:x≠y) (C3:ak g f x=true) (sj:ak g f y=true)
 {a b:List Int} (ha:a.Perm (aZ g x)) (hb:b.Perm (aZ g y)) (nx:aQ g x≠0) (ny:aQ g y≠0):
 ak g (az g f x a).2 y=true∧ak g (az g f y b).2 x=true∧(az g (az g f x a).2 y b).2.row=(az g (az g f y b).2 x a).2.row∧
 (az g f x a).1=(az g (az g f y b).2 x a).1∧(az g f y b).1=(az g (az g f x a).2 y b).1:=by
 obtain ⟨A,X,C,hr,hA,hC,hX,cX⟩:=bP hm hi.todR C3 nx
 obtain ⟨B,Y,D,hr',hB,hD,hY,cY⟩:=bP hm hi.todR sj ny
 rcases apart (aB C3).1 (aB sj).1 hxy (hr.symm.trans hr') hX hY with ⟨M,rfl,rfl⟩|⟨M,rfl,rfl⟩
 ·exact Af hm hi hxy C3 sj ha hb (by rw [hr];simp) hX hY cX cY hA hC hB hD
 ·obtain ⟨h1,h2,h3,h4,h5⟩:=Af hm hi (Ne.symm hxy) sj C3 hb ha (by rw [hr'];simp) hY hX cY cX hB hD hA hC
  exact ⟨h2,h1,h3.symm,h5,h4⟩
theorem nw {g:Gr} {y:Int} :y∈bN (·.2) g↔(0≤y∧y<g.n)∧aQ g y=0:=by
 simp only [bN,jm,List.mem_map,List.mem_filter,List.mem_range,decide_eq_true_eq]
 have he:∀x:Nat,x<g.n.toNat→(((dy (·.2) g).getD x []).length=aQ g (x:Int)):=by
  intro x hx
  have e:(dy (·.2) g).getD x []=aK (·.2) g.es g.es.length (x:Int):=by
   simp [dy,List.getD_eq_getElem?_getD,List.getElem?_range hx,mL]
  rw [e];rfl
 constructor
 ·rintro ⟨x,⟨hx,h0⟩,rfl⟩
  refine ⟨by simp;omega,by rw [he x hx] at h0;exact h0⟩
 ·rintro ⟨⟨h1,h2⟩,h3⟩
  have e:((y.toNat:Nat):Int)=y:=by omega
  exact ⟨y.toNat,⟨by omega,by rw [he _ (by omega),e];exact h3⟩,e⟩
theorem jO {g:Gr} (hc:(bR g).1=0) {x y:Int} (hx:0≤x∧x<g.n) (hy:0≤y∧y<g.n) (nx:aQ g x=0) (ny:aQ g y=0):x=y:=by
 have h1:(bN (·.2) g).length≤1:=by
  unfold bR fS at hc
  refine Nat.not_lt.1 fun h=> ?_
  split at hc
  ·cases hc
  split at hc
  ·cases hc
  split at hc
  ·cases hc
  split at hc
  ·cases hc
  cases hc
 have h2:=nw.2 ⟨hx,nx⟩
 have h3:=nw.2 ⟨hy,ny⟩
 match hb:bN (·.2) g with
 | []=>rw [hb] at h2;cases h2
 | [z]=>rw [hb,List.mem_singleton] at h2 h3;rw [h2,h3]
 |_::_::_=>rw [hb] at h1;simp at h1
theorem an {g:Gr} (hc:(bR g).1=0):aM g=true:=by
 unfold bR fS at hc
 split at hc
 ·cases hc
 ·rename_i h;simpa using h
theorem Ag {g:Gr} (hc:(bR g).1=0) {f:Fr} (hi:xb g f) {x y:Int} (hxy:x≠y) (C3:ak g f x=true) (sj:ak g f y=true):aQ g x≠0:=by
 intro nx
 have hm:=an hc
 obtain ⟨x0,x1,x2⟩:=aB C3
 obtain ⟨y0,y1,y2⟩:=aB sj
 rcases hi.src with ⟨h1,h2⟩|⟨s,hs,h⟩
 ·have ny:aQ g y≠0:=fun ny=>hxy (jO hc ⟨x0,x1⟩ ⟨y0,y1⟩ nx ny)
  obtain ⟨A,X,C,hr,_,_,hX,_⟩:=bP hm hi.todR sj ny
  obtain ⟨p,X',e,_⟩:=hX.fst
  rw [h2,e] at hr
  simp at hr
 ·exact x2 (jO hc (hi.qB s hs) ⟨x0,x1⟩ h nx ▸ hs)
theorem xd {g:Gr} (hc:(bR g).1=0) {f:Fr} (hi:xb g f) {x y:Int} (hxy:x≠y) (C3:ak g f x=true) (sj:ak g f y=true)
 {a b:List Int} (ha:a.Perm (aZ g x)) (hb:b.Perm (aZ g y)):
 ak g (az g f x a).2 y=true∧ak g (az g f y b).2 x=true∧(az g (az g f x a).2 y b).2.row=(az g (az g f y b).2 x a).2.row∧
 (az g f x a).1=(az g (az g f y b).2 x a).1∧(az g f y b).1=(az g (az g f x a).2 y b).1:=
 Ey (an hc) hi hxy C3 sj ha hb (Ag hc hi hxy C3 sj) (Ag hc hi (Ne.symm hxy) sj C3)
end Go.Ab
end
section
namespace Go.Ab
open Go.Proofs
attribute [local congr] ACall.congr gd.congr Nx.congr
set_option maxRecDepth 10000
set_option maxHeartbeats 4000000
def C4 (row:List It) (a b:Int):Nat→Int × Int
 |0=>(-1,0)
 |k+1=>if ((row.getD k (0,0,0)).2.2=a∨(row.getD k (0,0,0)).2.2=b)∧(row.getD k (0,0,0)).2.2≠(C4 row a b k).1 then ((row.getD k (0,0,0)).2.2,(C4 row a b k).2+1) else C4 row a b k
end Go.Ab
end
section
namespace Go.Ab
open Go.Proofs
attribute [local congr] ACall.congr gd.congr Nx.congr
set_option maxRecDepth 10000
set_option maxHeartbeats 4000000
def LN (row:List It) (i:Nat):Int:=(row.getD i (0,0,0)).2.2
def P3 (row:List It) (i j:Nat):Bool:=decide (LN row i≠ -1)&&decide (LN row j≠ -1)&&decide (LN row i≠LN row j)&&decide (4≤(C4 row (LN row i) (LN row j) row.length).2)
def Q2 (row:List It):Bool:=(List.range row.length).any fun i=>(List.range row.length).any (P3 row i)
end Go.Ab
end
section
namespace Go.Ab
open Go.Proofs
attribute [local congr] ACall.congr gd.congr Nx.congr
set_option maxRecDepth 10000
set_option maxHeartbeats 8000000
def T4 (row:List It) (a b c d:Nat):Prop:=0≤(row.getD a (0,0,0)).2.2∧0≤(row.getD b (0,0,0)).2.2∧(row.getD a (0,0,0)).2.2≠(row.getD b (0,0,0)).2.2∧(row.getD a (0,0,0)).2.2=(row.getD c (0,0,0)).2.2∧(row.getD b (0,0,0)).2.2=(row.getD d (0,0,0)).2.2
def SM (row:List It):Prop:=∃a b c d,a<b∧b<c∧c<d∧d<row.length∧T4 row a b c d
end Go.Ab
end
section
namespace Go.Ab
open Go.Proofs
set_option maxRecDepth 10000
theorem rN {g:Gr} {f f':Fr} (hr:f.row=f'.row) (hp:f.pl.Perm f'.pl) (x:Int):ak g f x=ak g f' x:=by
 unfold ak
 rw [hr]
 by_cases h:x<0∨g.n≤x∨x∈f.pl
 ·rw [if_pos h,if_pos (by rw [← hp.mem_iff];exact h)]
 ·have h':¬(x<0∨g.n≤x∨x∈f'.pl):=by rw [← hp.mem_iff];exact h
  rw [if_neg h,if_neg h']
theorem jy:∀ {l m:List Int},l.Nodup→(∀i∈l,i∈m)→l.length≤m.length
 | [],_,_,_=>by simp
 |a::l,m,hn,hs=>by
  rw [List.nodup_cons] at hn
  have ha:=hs a (List.mem_cons_self ..)
  have:=jy hn.2 (m:=m.erase a) fun i hi=>(List.mem_erase_of_ne (fun e:i=a=>hn.1 (e ▸ hi))).2 (hs i (List.mem_cons_of_mem _ hi))
  rw [List.length_erase_of_mem ha] at this
  have:=List.length_pos_of_mem ha
  rw [List.length_cons];omega
theorem kN {g:Gr} {f:Fr} (hi:dR g f) (hf:(f.pl.length:Int)=g.n) {x:Int} (hx:0≤x∧x<g.n):x∈f.pl:=by
 refine Decidable.byContradiction fun h=> ?_
 have h1:(x::f.pl).Nodup:=List.nodup_cons.2 ⟨h,hi.pl⟩
 have h2:((List.range g.n.toNat).map Int.ofNat).length=g.n.toNat:=by simp
 have h3:=jy h1 (m:=(List.range g.n.toNat).map Int.ofNat) (fun y hy=>by
  rw [List.mem_map]
  have:0≤y∧y<g.n:=by
   rcases List.mem_cons.1 hy with h|h
   ·rw [h];exact hx
   ·exact hi.qB y h
  exact ⟨y.toNat,List.mem_range.2 (by omega),by simp;omega⟩)
 rw [h2,List.length_cons] at h3
 omega
def Tg (a b:Int) (row:List It):Prop:=∃l:List It,l.Sublist row∧l.map (fun t=>t.2.2)= [a,b,a,b]
def GU (a b:Int) (t:It):Bool:=decide (t.2.2=a)||decide (t.2.2=b)
theorem Tg.P4 {a b:Int} {row:List It} :Tg a b row↔Tg a b (row.filter (GU a b)):=by
 constructor
 ·rintro ⟨l,h,e⟩
  refine ⟨l, ?_,e⟩
  have h1:=h.filter (GU a b)
  rw [List.filter_eq_self.2] at h1
  ·exact h1
  ·intro t ht
   have:t.2.2∈l.map (fun t=>t.2.2):=List.mem_map.2 ⟨t,ht,rfl⟩
   rw [e] at this
   simp only [GU,Bool.or_eq_true,decide_eq_true_eq]
   simp only [List.mem_cons,List.not_mem_nil,or_false] at this
   omega
 ·rintro ⟨l,h,e⟩
  exact ⟨l,h.trans List.filter_sublist,e⟩
theorem Tg.keep {a b x:Int} (ha:0≤a) (hb:0≤b) (HW:a≠x) (zL:b≠x) {A X C u:List It} (hX:∀t∈X,t.2.2=x∨t.2.2= -1) (h:Tg a b (A++X++C)):Tg a b (A++u++C):=by
 rw [Tg.P4] at h ⊢
 obtain ⟨l,h,e⟩:=h
 refine ⟨l,h.trans ?_,e⟩
 rw [List.filter_append,List.filter_append,List.filter_append,List.filter_append]
 have:X.filter (GU a b)= []:=List.filter_eq_nil_iff.2 fun t ht=>by
  simp only [GU,Bool.or_eq_true,decide_eq_true_eq]
  rcases hX t ht with h|h<;>omega
 rw [this,List.append_nil]
 exact List.Sublist.append_right (List.sublist_append_left _ _) _
theorem Tg.not {a b x:Int} (hab:a≠b) (hb0:0≤b) (ha0:0≤a) (hx:x=a∨x=b) {A X C:List It} (hA:fW x A) (hC:fW x C) (hX:∀t∈X,t.2.2=x∨t.2.2= -1):¬Tg a b (A++X++C):=by
 rintro ⟨l,h,e⟩
 rw [List.append_assoc,List.sublist_append_iff] at h
 obtain ⟨l1,l',rfl,h1,h'⟩:=h
 rw [List.sublist_append_iff] at h'
 obtain ⟨l2,l3,rfl,h2,h3⟩:=h'
 have k1:∀t∈l1,t.2.2≠x:=fun t ht=>hA t (h1.subset ht)
 have k2:∀t∈l2,t.2.2=x∨t.2.2= -1:=fun t ht=>hX t (h2.subset ht)
 have k3:∀t∈l3,t.2.2≠x:=fun t ht=>hC t (h3.subset ht)
 clear h1 h2 h3
 match l1,k1,e with
 |t1::t2::_,k1,e=>
  simp only [List.cons_append,List.map_cons,List.cons.injEq] at e
  rcases hx with h|h
  ·exact k1 t1 (by simp) (by omega)
  ·exact k1 t2 (by simp) (by omega)
 | [t1],k1,e=>
   simp only [List.cons_append,List.nil_append,List.map_cons,List.cons.injEq] at e
   rcases hx with h|h
   ·exact k1 t1 (by simp) (by omega)
   ·match l2,k2,e with
    | [],_,e=>
      match l3,k3,e with
      | [s1,s2,s3],k3,e=>
        simp only [List.nil_append,List.map_cons,List.map_nil,List.cons.injEq,and_true] at e
        exact k3 s1 (by simp) (by omega)
      | [],_,e=>simp at e
      | [_],_,e=>simp at e
      | [_,_],_,e=>simp at e
      |_::_::_::_::_,_,e=>simp at e
    |s1::s2::_,k2,e=>
     simp only [List.cons_append,List.map_cons,List.cons.injEq] at e
     rcases k2 s2 (by simp) with h|h<;>omega
    | [s1],k2,e=>
      match l3,k3,e with
      | [u1,u2],k3,e=>
        simp only [List.cons_append,List.nil_append,List.map_cons,List.map_nil,List.cons.injEq,and_true] at e
        exact k3 u2 (by simp) (by omega)
      | [],_,e=>simp at e
      | [_],_,e=>simp at e
      |_::_::_::_,_,e=>simp at e
 | [],_,e=>
   simp only [List.nil_append] at e
   match l2,k2,e with
   | [],_,e=>
     match l3,k3,e with
     | [],_,e=>simp at e
     | [_],_,e=>simp at e
     |s1::s2::_,k3,e=>
      simp only [List.nil_append,List.map_cons,List.cons.injEq] at e
      rcases hx with h|h
      ·exact k3 s1 (by simp) (by omega)
      ·exact k3 s2 (by simp) (by omega)
   |s1::s2::_,k2,e=>
    simp only [List.cons_append,List.map_cons,List.cons.injEq] at e
    have q1:=k2 s1 (by simp)
    have q2:=k2 s2 (by simp)
    omega
   | [s1],k2,e=>
     match l3,k3,e with
     | [],_,e=>simp at e
     | [_],_,e=>simp at e
     | [_,_],_,e=>simp at e
     |u1::u2::u3::_,k3,e=>
      simp only [List.cons_append,List.nil_append,List.map_cons,List.cons.injEq] at e
      have q1:=k2 s1 (by simp)
      exact k3 u2 (by simp) (by omega)
end Go.Ab
end
section
namespace Go.Ab
open Go.Proofs
set_option maxRecDepth 10000
theorem xe {row:List It} {k:Nat} (h:k<row.length):row.take (k+1)=row.take k++ [row.getD k (0,0,0)]:=by
 rw [List.take_add_one,List.getD_eq_getElem?_getD,List.getElem?_eq_getElem h];rfl
theorem GV {row:List It} {i j:Nat} (h:i≤j):(row.take i).Sublist (row.take j):=by
 rw [show row.take i=(row.take j).take i by rw [List.take_take,Nat.min_eq_left h]]
 exact List.take_sublist _ _
theorem uS {row l:List It} {i j:Nat} (h:l.Sublist (row.take i)) (hij:i≤j) (hj:j<row.length):(l++ [row.getD j (0,0,0)]).Sublist (row.take (j+1)):=by
 rw [xe hj]
 exact List.Sublist.append (h.trans (GV hij)) (List.Sublist.refl _)
def P5 (a b:Int):List It→Prop
 | []=>True
 | [t]=>t.2.2=a∨t.2.2=b
 |s::t::l=>(s.2.2=a∨s.2.2=b)∧s.2.2≠t.2.2∧P5 a b (t::l)
end Go.Ab
end
section
namespace Go.Ab
open Go.Proofs
attribute [local congr] ACall.congr gd.congr Nx.congr
set_option maxRecDepth 10000
end Go.Ab
end
section
namespace Go.Ab
open Go.Proofs
attribute [local congr] ACall.congr gd.congr Nx.congr
set_option maxRecDepth 10000
def P6 (g:Gr) (out:List Int) (x:Nat) (i:Nat):Bool:=(List.range i).all fun j=> !decide (hd g j=(x:Int))||decide (tl g j∈out)
def SN (g:Gr) (out:List Int) (k:Nat) (f:Bool):Prop:=k≤g.n.toNat∧(if f then 0<k∧wt g out (k - 1)=0∧∀j,j<k - 1→wt g out j≠0 else ∀j,j<k→wt g out j≠0)
def SO (out:List Int) (k:Nat) (f:Bool):List Int:=if f then out++ [((k - 1:Nat):Int)] else out
end Go.Ab
end
section
namespace Go.Ab
open Go.Proofs
attribute [local congr] ACall.congr gd.congr Nx.congr
set_option maxRecDepth 10000
end Go.Ab
end
section
namespace Go.Ab
open Go.Proofs
set_option maxRecDepth 10000
structure Pl where
 ord:List Int
 outs:List (List Int)
def aD (p:Pl) (k:Nat):Int:=p.ord.getD k 0
def bQ (p:Pl) (x:Int):List Int:=p.outs.getD x.toNat []
def aX (g:Gr) (p:Pl):Prop:=p.outs.length=g.n.toNat∧p.ord.Perm (eC g.n.toNat)∧∀x:Nat,x<g.n.toNat→(p.outs.getD x []).Perm (aZ g x)
def fK (g:Gr) (p:Pl):Nat→Fr
 |0=>⟨[], []⟩
 |k+1=>(az g (fK g p k) (aD p k) (bQ p (aD p k))).2
def cL (g:Gr) (p:Pl) (k:Nat):List It:=(az g (fK g p k) (aD p k) (bQ p (aD p k))).1.1
def oV (g:Gr) (p:Pl) (k:Nat):Bool:=ak g (fK g p k) (aD p k)
def eV (g:Gr) (p:Pl):Nat→List (List It)
 |0=>List.replicate g.n.toNat []
 |k+1=>(eV g p k).set (aD p k).toNat (cL g p k)
def jP (g:Gr) (p:Pl):Nat→Option Nat
 |0=>none
 |k+1=>match jP g p k with
  |some i=>some i
  |none=>if oV g p k=true then none else some k
def aR (g:Gr) (p:Pl):Prop:=(bR g).1=0∧aX g p∧∀k,k<g.n.toNat→oV g p k=true
theorem fG {g:Gr} {p:Pl} :∀ {k:Nat},jP g p k=none↔∀j,j<k→oV g p j=true
 |0=>by simp [jP]
 |k+1=>by
  rw [jP]
  cases h:jP g p k with
  |some i=>
   simp only [reduceCtorEq,false_iff]
   intro h2
   rw [fG.2 fun j hj=>h2 j (by omega)] at h
   cases h
  |none=>
   have ih:=fG.1 h
   simp only
   constructor
   ·intro h2 j hj
    by_cases hjk:j=k
    ·subst hjk
     refine Decidable.byContradiction fun hn=> ?_
     rw [if_neg hn] at h2;cases h2
    ·exact ih j (by omega)
   ·intro h2
    rw [if_pos (h2 k (by omega))]
theorem oJ {g:Gr} {p:Pl} {i:Nat} :∀ {k:Nat},jP g p k=some i↔i<k∧oV g p i=false∧∀j,j<i→oV g p j=true
 |0=>by simp [jP]
 |k+1=>by
  rw [jP]
  cases h:jP g p k with
  |some i'=>
   have ih:=(oJ (g:=g) (p:=p)).1 h
   simp only [Option.some.injEq]
   constructor
   ·rintro rfl
    exact ⟨by omega,ih.2⟩
   ·rintro ⟨h1,h2,h3⟩
    rcases Nat.lt_trichotomy i' i with h4|h4|h4
    ·rw [h3 i' h4] at ih;simp at ih
    ·exact h4
    ·rw [ih.2.2 i h4] at h2;cases h2
  |none=>
   have ih:=fG.1 h
   simp only
   constructor
   ·intro h2
    by_cases hk:oV g p k=true
    ·rw [if_pos hk] at h2;cases h2
    ·rw [if_neg hk] at h2
     cases h2
     exact ⟨by omega,by simpa using hk,ih⟩
   ·rintro ⟨h1,h2,h3⟩
    have:i=k:=by
     by_cases h4:i<k
     ·rw [ih i h4] at h2;cases h2
     ·omega
    subst this
    rw [if_neg (by rw [h2];simp)]
theorem kO {n:Nat} :(eC n).length=n:=by simp [eC]
theorem aS {g:Gr} {p:Pl} (h:aX g p):p.ord.length=g.n.toNat:=by rw [h.2.1.length_eq,kO]
theorem cP {g:Gr} {p:Pl} (h:aX g p):p.ord.Nodup:=h.2.1.nodup_iff.2 lJ
theorem bK {g:Gr} {p:Pl} (h:aX g p) {k:Nat} (hk:k<g.n.toNat):0≤aD p k∧aD p k<g.n:=by
 have h1:aD p k∈p.ord:=aE (by rw [aS h];exact hk)
 have:=dh.1 (h.2.1.mem_iff.1 h1)
 omega
theorem nE {g:Gr} {p:Pl} (h:aX g p) {i j:Nat} (hi:i<g.n.toNat) (hj:j<g.n.toNat) (e:aD p i=aD p j):i=j:=
 jt (cP h) (by rw [aS h];exact hi) (by rw [aS h];exact hj) e
theorem gQ {g:Gr} {p:Pl} (h:aX g p) {x:Int} (h0:0≤x) (h1:x<g.n):∃k,k<g.n.toNat∧aD p k=x:=by
 have:x∈p.ord:=h.2.1.mem_iff.2 (dh.2 (by omega))
 obtain ⟨k,hk,e⟩:=List.mem_iff_getElem.1 this
 refine ⟨k,by rw [← aS h];exact hk, ?_⟩
 rw [aD,List.getD_eq_getElem?_getD,List.getElem?_eq_getElem hk,Option.getD_some,e]
theorem bS {g:Gr} {p:Pl} (h:aX g p) {x:Int} (h0:0≤x) (h1:x<g.n):(bQ p x).Perm (aZ g x):=by
 have:=h.2.2 x.toNat (by omega)
 rwa [show ((x.toNat:Nat):Int)=x by omega] at this
theorem pT {g:Gr} {p:Pl} (h:aX g p) {x:Int} (h0:0≤x) (h1:x<g.n):(bQ p x).length≤g.es.length:=by
 rw [(bS h h0 h1).length_eq];exact Ad
theorem bV {g:Gr} (hm:aM g=true) {p:Pl} (h:aX g p):∀ {k:Nat},k≤g.n.toNat→(∀j,j<k→oV g p j=true)→xb g (fK g p k)∧(fK g p k).pl=p.ord.take k∧(fK g p k).row.length≤k*(g.es.length+1)
 |0,_,_=>⟨pS g,by simp [fK],by simp [fK]⟩
 |k+1,hk,hok=>by
  obtain ⟨h1,h2,h3⟩:=bV hm h (k:=k) (by omega) fun j hj=>hok j (by omega)
  obtain ⟨x0,x1⟩:=bK h (k:=k) (by omega)
  have hl:=w8 (g:=g) (f:=fK g p k) (x:=aD p k) (o:=bQ p (aD p k))
  have Gw:=pT h x0 x1
  refine ⟨iq hm h1 (hok k (by omega)) (bS h x0 x1), ?_, ?_⟩
  ·show (fK g p k).pl++ [aD p k]=_
   rw [h2,List.take_add_one,List.getElem?_eq_getElem (by rw [aS h];omega),aD,List.getD_eq_getElem?_getD,List.getElem?_eq_getElem (by rw [aS h];omega)]
   rfl
  ·show (az _ _ _ _).2.row.length≤_
   rw [Nat.add_mul];omega
theorem Ah {g:Gr} {p:Pl} (h:aX g p) {k:Nat} (hk:k<g.n.toNat) (hR:oV g p k=true):cF g (fK g p k) (aD p k) (bQ p (aD p k))=az g (fK g p k) (aD p k) (bQ p (aD p k)):=by
 have hp:=bS h (bK h hk).1 (bK h hk).2
 unfold cF
 have K5:ak g (fK g p k) (aD p k)=true:=hR
 rw [if_neg (by rw [K5];simp),if_neg]
 rintro (h|⟨i,h1,h2⟩)
 ·exact h hp.length_eq
 ·exact h2 (hp.mem_iff.2 h1)
theorem Ai {g:Gr} {p:Pl} {k:Nat} (hR:oV g p k=false):cF g (fK g p k) (aD p k) (bQ p (aD p k))=(([],3),fK g p k):=if_pos hR
theorem mP {g:Gr} {p:Pl} :∀ {k:Nat},(eV g p k).length=g.n.toNat
 |0=>by simp [eV]
 |k+1=>by rw [eV,List.length_set,mP]
theorem qF {α:Type} {l:List α} {i j:Nat} {a d:α} (hi:i<l.length):(l.set i a).getD j d=if j=i then a else l.getD j d:=by
 rw [List.getD_eq_getElem?_getD,List.getElem?_set,List.getD_eq_getElem?_getD]
 by_cases h:i=j
 ·subst h;simp [hi]
 ·rw [if_neg h,if_neg (Ne.symm h)]
theorem yG {g:Gr} {p:Pl} (h:aX g p):∀ {k:Nat},k≤g.n.toNat→∀ {i:Nat},i<k→(eV g p k).getD (aD p i).toNat []=cL g p i
 |0,_,i,hi=>by omega
 |k+1,hk,i,hi=>by
  have hm:=bK h (k:=k) (by omega)
  rw [eV,qF (by rw [mP];omega)]
  by_cases e:i=k
  ·subst e;rw [if_pos rfl]
  ·have LC:=bK h (k:=i) (by omega)
   rw [if_neg (fun h2=>e (nE h (by omega) (by omega) (by omega)))]
   exact yG h (by omega) (by omega)
theorem pU {l m:List Int} (h:iE l=m):l.Perm m:=by
 rw [← h];exact (List.mergeSort_perm l _).symm
theorem Aj {n:Nat} :(eC n).Pairwise (· ≤ ·):=by
 unfold eC
 refine List.Pairwise.map _ (fun a b (h:a<b)=> ?_) List.pairwise_lt_range
 show (a:Int)≤b
 omega
theorem I3 {g:Gr} (hm:aM g=true) {p:Pl} :(p.outs.length=g.n.toNat∧p.ord.length=g.n.toNat∧(∀i:Nat,i<(iE p.ord).length→(iE p.ord).getD i 0=i)∧∀x:Nat,x<p.outs.length→iE (p.outs.getD x [])=bA (·.1) g x)↔aX g p:=by
 constructor
 ·rintro ⟨h1,h2,h3,h4⟩
  refine ⟨h1,pU ?_,fun x hx=> ?_⟩
  ·refine List.ext_getElem (by rw [fC,h2,kO]) fun i h5 h6=> ?_
   have:=h3 i h5
   rw [List.getD_eq_getElem?_getD,List.getElem?_eq_getElem h5,Option.getD_some] at this
   rw [this];simp [eC]
  ·have:=h4 x (by omega)
   rw [gN (by omega) (by omega)] at this
   exact pU this
 ·intro h
  refine ⟨h.1,aS h, ?_,fun x hx=> ?_⟩
  ·rw [uQ h.2.1 Aj]
   intro i hi
   rw [kO] at hi
   simp [eC,List.getD_eq_getElem?_getD,List.getElem?_range hi]
  ·rw [gN (by omega) (by have:=h.1;omega)]
   exact uQ (h.2.2 x (by rw [← h.1];exact hx)) rM
theorem I4 {g:Gr} (hm:aM g=true) {p:Pl} :(gC p.ord g.n=true∧p.outs.length=g.n.toNat∧(∀x:Nat,x<p.outs.length→∀i∈p.outs.getD x [],i∈aZ g x)∧p.outs.flatten.Nodup∧∀i:Nat,i<g.es.length→(i:Int)∈p.outs.flatten)↔aX g p:=by
 have hn:=aH hm
 constructor
 ·rintro ⟨h1,h2,h3,h4,h5⟩
  refine ⟨h2, ?_,fun x hx=> ?_⟩
  ·obtain ⟨e1,e2⟩:=cl.1 h1
   exact sX lJ e2 (by rw [kO];omega)
  ·have hxl:x<p.outs.length:=by omega
   have hmem:p.outs.getD x []∈p.outs:=aE hxl
   have bY:(p.outs.getD x []).Nodup:=by
    rw [List.Nodup,List.pairwise_flatten] at h4
    exact h4.1 _ hmem
   refine (List.perm_ext_iff_of_nodup bY cJ).2 fun i=>⟨h3 x hxl i,fun hi=> ?_⟩
   obtain ⟨k,rfl,hk,ht⟩:=ij hi
   obtain ⟨l,hl,cm⟩:=List.mem_flatten.1 (h5 k hk)
   obtain ⟨y,hy,rfl⟩:=List.mem_iff_getElem.1 hl
   have e:p.outs.getD y []=p.outs[y]:=by rw [List.getD_eq_getElem?_getD,List.getElem?_eq_getElem hy];rfl
   rw [← e] at cm
   obtain ⟨k',e1,_,e2⟩:=ij (h3 y hy _ cm)
   have:k=k':=by omega
   subst this
   have:x=y:=by omega
   subst this
   exact cm
 ·intro h
  refine ⟨cl.2 ⟨?_,fun x hx=>h.2.1.mem_iff.2 hx⟩,h.1,fun x hx i hi=>(h.2.2 x (by rw [← h.1];exact hx)).mem_iff.1 hi, ?_,fun i hi=> ?_⟩
  ·have:=aS h;omega
  ·rw [List.Nodup,List.pairwise_flatten]
   constructor
   ·intro l hl
    obtain ⟨x,hx,rfl⟩:=List.mem_iff_getElem.1 hl
    have e:p.outs.getD x []=p.outs[x]:=by rw [List.getD_eq_getElem?_getD,List.getElem?_eq_getElem hx];rfl
    rw [← e]
    exact (h.2.2 x (by rw [← h.1];exact hx)).nodup_iff.2 cJ
   ·refine List.pairwise_iff_getElem.2 fun x y hx hy hxy a ha b hb e=> ?_
    subst e
    have ex:p.outs.getD x []=p.outs[x]:=by rw [List.getD_eq_getElem?_getD,List.getElem?_eq_getElem hx];rfl
    have ey:p.outs.getD y []=p.outs[y]:=by rw [List.getD_eq_getElem?_getD,List.getElem?_eq_getElem hy];rfl
    rw [← ex] at ha
    rw [← ey] at hb
    obtain ⟨k,e1,_,e2⟩:=ij ((h.2.2 x (by rw [← h.1];exact hx)).mem_iff.1 ha)
    obtain ⟨k',e3,_,e4⟩:=ij ((h.2.2 y (by rw [← h.1];exact hy)).mem_iff.1 hb)
    have:k=k':=by omega
    subst this
    omega
  ·have ht:=(cT hm hi).1
   refine List.mem_flatten.2 ⟨p.outs.getD (tl g i).toNat [],aE (by rw [h.1];have:0≤tl g i∧tl g i<g.n:=ht;omega), ?_⟩
   have:0≤tl g i∧tl g i<g.n:=ht
   refine (h.2.2 _ (by omega)).mem_iff.2 ?_
   simp only [aZ,aK,List.mem_map,List.mem_filter,List.mem_range,decide_eq_true_eq]
   exact ⟨i,⟨hi,by show tl g i=_;omega⟩,rfl⟩
end Go.Ab
end
