/- A part of the proof. -/
import Derived.Test.YtchjjbfhlchpfaaGreatL7P15
set_option linter.unusedSimpArgs false
set_option linter.unusedVariables false
section
namespace Go.Ab
open Go.Proofs
attribute [local congr] ACall.congr gd.congr Nx.congr
set_option maxRecDepth 10000
theorem count_le:∀(xs l:List Int),xs.Nodup→(∀x∈xs,x∈l)→xs.length≤l.countP (fun y=>decide (y∈xs))
 | [],_,_,_=>Nat.zero_le _
 |a::r,l,hd,h=>by
  obtain ⟨h1,h2⟩:=List.nodup_cons.1 hd
  have ih:=count_le r l h2 fun x hx=>h x (List.mem_cons_of_mem _ hx)
  have hp:=kE (p:=fun y=>decide (y∈a::r)) (q:=fun y=>decide (y∈r)) (r:=fun y=>decide (y=a)) (l:=l) (fun y _=>by
   by_cases hy:y=a
   ·subst hy;simp [h1]
   ·simp [hy])
  have ha:0<l.countP (fun y=>decide (y=a)):=List.countP_pos_iff.2 ⟨a,h a List.mem_cons_self,by simp⟩
  rw [hp,List.length_cons];omega
def dP (n:Nat):List Int:=(List.range n).map Int.ofNat
theorem cU {n:Nat} {x:Int} :x∈dP n↔0≤x∧x<n:=by
 simp only [dP,List.mem_map,List.mem_range]
 constructor
 ·rintro ⟨a,h,rfl⟩;simp;omega
 ·intro h;exact ⟨x.toNat,by omega,by simp;omega⟩
theorem nw {n:Nat} :(dP n).Nodup:=by
 unfold dP
 exact List.Pairwise.map _ (fun a b h e=>h (Int.ofNat.inj e)) List.nodup_range
theorem cw {l:List Int} {n:Int} :lN l n=true↔(l.length:Int)=n∧∀x∈dP n.toNat,x∈l:=by
 simp only [lN,Bool.and_eq_true,decide_eq_true_eq,List.all_eq_true,List.mem_range]
 constructor
 ·rintro ⟨h1,h2⟩
  refine ⟨h1,fun x hx=> ?_⟩
  obtain ⟨a,b⟩:=cU.1 hx
  have:=h2 x.toNat (by omega)
  rwa [show ((x.toNat:Nat):Int)=x from by omega] at this
 ·rintro ⟨h1,h2⟩
  exact ⟨h1,fun x hx=>h2 _ (cU.2 (by omega))⟩
theorem tN {l:List Int} {n:Int} (h:lN l n=true):∀x∈l,0≤x∧x<n:=by
 obtain ⟨h1,h2⟩:=cw.1 h
 have hc:=count_le (dP n.toNat) l nw h2
 have hlen:(dP n.toNat).length=n.toNat:=by simp [dP]
 have he:l.countP (fun y=>decide (y∈dP n.toNat))=l.length:=by
  have:=List.countP_le_length (p:=fun y=>decide (y∈dP n.toNat)) (l:=l)
  omega
 intro x hx
 have:=List.countP_eq_length.1 he x hx
 have:=cU.1 (of_decide_eq_true this)
 omega
def Ad (n:Nat) (l:List Int):Nat→List Int
 |0=>List.replicate n 0
 |k+1=>(Ad n l k).set (l.getD k 0).toNat k
theorem atK_length {n:Nat} {l:List Int} :∀ {k:Nat},(Ad n l k).length=n
 |0=>by simp [Ad]
 |k+1=>by simp [Ad,atK_length (k:=k)]
def Fq (g:Gr) (l:List Int) (j:Nat):Bool:=(List.range j).all fun i=>decide ((Ad g.n.toNat l l.length).getD (tl g i).toNat 0<(Ad g.n.toNat l l.length).getD (hd g i).toNat 0)
def xG (g:Gr) (l:List Int):Bool:=lN l g.n&&Fq g l g.es.length
attribute [go_sem] atK_length
end Go.Ab
end
section
namespace Go.Ab
def SR (g:Gr) (out:List Int):Prop:=∀p,p<out.length→out.getD p 0=fu (cy g (out.take p)) 0∧0≤out.getD p 0
theorem BP {g:Gr} (hm:aH g=true) (h:BO g=true):lN (aN g) g.n=true:=by
 obtain ⟨hP,_,_⟩:=gh hm
 have hn:=aB hm
 have hf:=hP.fuel
 have hok:=of_decide_eq_true h
 refine cw.2 ⟨by omega,fun x hx=> ?_⟩
 obtain ⟨h1,h2⟩:=cU.1 hx
 have h0:(List.range g.n.toNat).countP (fun y:Nat=> !decide ((y:Int)∈aN g))=0:=by omega
 have:=List.countP_eq_zero.1 h0 x.toNat (List.mem_range.2 (by omega))
 rw [show ((x.toNat:Nat):Int)=x from by omega] at this
 simpa using this
theorem BQ {g:Gr} (hm:aH g=true) (h:BO g=false):∃y:Nat,y<g.n.toNat∧(y:Int)∉aN g:=by
 obtain ⟨hP,_,_⟩:=gh hm
 have hn:=aB hm
 have hf:=hP.fuel
 have hok:=of_decide_eq_false h
 have h0:0<(List.range g.n.toNat).countP (fun y:Nat=> !decide ((y:Int)∈aN g)):=by omega
 obtain ⟨y,hy,hp⟩:=List.countP_pos_iff.1 h0
 exact ⟨y,List.mem_range.1 hy,by simpa using hp⟩
theorem Fs {g:Gr} {l:List Int} (h:xG g l=true) {i:Nat} (hi:i<g.es.length):(Ad g.n.toNat l l.length).getD (tl g i).toNat 0<(Ad g.n.toNat l l.length).getD (hd g i).toNat 0:=by
 simp only [xG,Bool.and_eq_true] at h
 have:=List.all_eq_true.1 h.2 i (List.mem_range.2 hi)
 exact of_decide_eq_true this
theorem tO {n:Nat} {l:List Int} :∀ {k:Nat} {y:Nat},0≤(Ad n l k).getD y 0
 |0,y=>by
  simp only [Ad,List.getD_eq_getElem?_getD,List.getElem?_replicate]
  split<;>simp
 |k+1,y=>by
  have ih:=tO (n:=n) (l:=l) (k:=k) (y:=y)
  simp only [Ad,List.getD_eq_getElem?_getD,List.getElem?_set] at ih ⊢
  split
  ·split<;>simp
  ·exact ih
theorem xH {l:List Int} {i j:Nat} (hij:i<j) (hj:j<l.length) (e:l.getD i 0=l.getD j 0):∀x∈l,x∈l.eraseIdx i:=by
 intro x hx
 obtain ⟨k,hk,rfl⟩:=List.getElem_of_mem hx
 rw [List.mem_iff_getElem?]
 rcases Nat.lt_trichotomy k i with h|h|h
 ·exact ⟨k,by rw [List.getElem?_eraseIdx,if_pos h,List.getElem?_eq_getElem hk]⟩
 ·subst h
  refine ⟨j - 1, ?_⟩
  rw [List.getElem?_eraseIdx,if_neg (by omega),show j - 1+1=j from by omega,List.getElem?_eq_getElem hj]
  rw [List.getD_eq_getElem?_getD,List.getD_eq_getElem?_getD,List.getElem?_eq_getElem hk,List.getElem?_eq_getElem hj] at e
  exact congrArg some e.symm
 ·exact ⟨k - 1,by rw [List.getElem?_eraseIdx,if_neg (by omega),show k - 1+1=k from by omega,List.getElem?_eq_getElem hk]⟩
theorem kI {l:List Int} {n:Int} (h:lN l n=true) {i j:Nat} (hi:i<l.length) (hj:j<l.length) (e:l.getD i 0=l.getD j 0):i=j:=by
 obtain ⟨h1,h2⟩:=cw.1 h
 have key:∀i j,i<j→j<l.length→l.getD i 0=l.getD j 0→False:=by
  intro i j hij hj e
  have hc:=count_le (dP n.toNat) (l.eraseIdx i) nw fun x hx=>xH hij hj e x (h2 x hx)
  have hlen:(dP n.toNat).length=n.toNat:=by simp [dP]
  have hle:=List.countP_le_length (p:=fun y=>decide (y∈dP n.toNat)) (l:=l.eraseIdx i)
  rw [List.length_eraseIdx_of_lt (by omega)] at hle
  omega
 rcases Nat.lt_trichotomy i j with h|h|h
 ·exact (key i j h hj e).elim
 ·exact h
 ·exact (key j i h hi e.symm).elim
theorem AS {l:List Int} {n:Int} (h:lN l n=true) {p:Nat} :∀ {k:Nat},p<k→k≤l.length→(Ad n.toNat l k).getD (l.getD p 0).toNat 0=p
 |0,hp,_=>by omega
 |k+1,hp,hk=>by
  have hlo:=tN h
  have hp1:=hlo _ (iP (l:=l) (m:=p) (by omega))
  have x7:=hlo _ (iP (l:=l) (m:=k) (by omega))
  simp only [Ad,List.getD_eq_getElem?_getD (l:=(Ad n.toNat l k).set _ _),List.getElem?_set,atK_length]
  by_cases hpk:p=k
  ·subst hpk
   rw [if_pos rfl,if_pos (by omega)];rfl
  ·have hne:¬(l.getD k 0).toNat=(l.getD p 0).toNat:=fun e=>hpk (kI h (i:=p) (j:=k) (by omega) (by omega) (by omega))
   rw [if_neg hne, ← List.getD_eq_getElem?_getD]
   exact AS h (by omega) (by omega)
theorem C7 {g:Gr} (hm:aH g=true) (h:BO g=true):xG g (aN g)=true:=by
 have he:=BP hm h
 obtain ⟨hP,hO,_⟩:=gh hm
 have hall:=(cw.1 he).2
 simp only [xG,he,Bool.true_and,Fq,List.all_eq_true,List.mem_range,decide_eq_true_eq]
 intro i hi
 have hh:=aZ hm hi
 obtain ⟨p,hp,e⟩:=List.getElem_of_mem (hall (hd g i) (cU.2 (by omega)))
 have e':(aN g).getD p 0=hd g i:=by rw [List.getD_eq_getElem?_getD,List.getElem?_eq_getElem hp];exact e
 have ht:=hO p hp i hi e'.symm
 rw [List.mem_iff_getElem?] at ht
 obtain ⟨q,hq⟩:=ht
 rw [List.getElem?_take] at hq
 split at hq
 ·rename_i Q9
  have e2:(aN g).getD q 0=tl g i:=by rw [List.getD_eq_getElem?_getD,hq];rfl
  rw [← e', ← e2,AS he hp (Nat.le_refl _),AS he (by omega) (Nat.le_refl _)]
  omega
 ·cases hq
end Go.Ab
end
section
namespace Go.Ab
open Go.Proofs
attribute [local congr] ACall.congr gd.congr Nx.congr
set_option maxRecDepth 10000
end Go.Ab
end
section
namespace Go.Ab
open Go.Proofs
attribute [local congr] ACall.congr gd.congr Nx.congr
set_option maxRecDepth 10000
def gz:Gr:=⟨0, []⟩
def vz:D:= .pt [.sc (.int .i64 0), .sl 2 [], .sl 1 [], .sl 1 []]
def bq (f:Edge→Int) (g:Gr) (x:Int):List Int:=if 0≤x∧x<g.n then aK f g.es g.es.length x else []
theorem tP (f:Edge→Int) (g:Gr) (hm:aH g=true) (x:Int):Spec Tryz.prog 98 (Args [.d (vw g), .d (.sl 1 (Hp f g)),eN x]) [] (.d (sI (bq f g x))) []:=by
 rw [au]
 have hn:=aB hm
 have hl':(aK f g.es g.es.length x).length≤1000000:=by have:=iw (f:=f) (es:=g.es) (k:=g.es.length) (x:=x);omega
 (refine Spec.hd (C:=T.cfg [] []) (rs:= [.t 6]) (T.ah _ _) Tryz.func98 rfl rfl Tryz.ntmps98 Tryz.results98 (by simp [AObj.isNest]) (by simp [AObj.isNest]) (by kernel_rfl) T.mixed fun X hX hP hC aJ bQ=> ?_)
 by_cases hx:0≤x∧x<g.n
 ·have hv:=ot (f:=f) (g:=g) (x:=x.toNat) (by omega)
  have he:eZ f g.es g.es.length x.toNat=aK f g.es g.es.length x:=by rw [lI,show ((x.toNat:Nat):Int)=x from by omega]
  rw [he] at hv
  have hb1:decide (x<0)=false:=decide_eq_false (by omega)
  have hb2:decide (g.n≤x)=false:=decide_eq_false (by omega)
  have ht:bq f g x=aK f g.es g.es.length x:=if_pos hx
  repeat' (first|refine Rn.p ?_|(with_reducible apply And.intro)|((first|(refine hK _ ?_;clear hK K)|with_reducible intro K hK|refine Rs.p ?_|((with_reducible first|apply oP|apply oQ);exact rfl)|refine aa hX hC hP (jg (aK f g.es g.es.length x) hl') rfl rfl rfl (by simp only [go_sem,simprocAttr,hv,hb1,hb2]) rfl ?_);try simp only [go_sem,simprocAttr,hv,hb1,hb2])|((with_reducible refine oD ?_ ?_);kernel_rfl)|((with_reducible intro h);try simp only [go_sem,simprocAttr,hv,hb1,hb2] at h)|omega|intro h)
  simp [ht]
 ·have ht:bq f g x= []:=if_neg hx
  repeat' (first|refine Rn.p ?_|(with_reducible apply And.intro)|((first|(refine hK _ ?_;clear hK K)|with_reducible intro K hK|refine Rs.p ?_|((with_reducible first|apply oP|apply oQ);exact rfl)|refine aa hX hC hP (jg (aK f g.es g.es.length x) hl') rfl rfl rfl (by simp only [go_sem,simprocAttr,ht]) rfl ?_);try simp only [go_sem,simprocAttr,ht])|((with_reducible refine oD ?_ ?_);kernel_rfl)|((with_reducible intro h);try simp only [go_sem,simprocAttr,ht] at h)|omega|intro h)
theorem iy (g:Gr) (hm:aH g=true) (x:Int):Spec Tryz.prog 45 (Args [.d (vw g),eN x]) [] (.d (sI (bq (·.1) g x))) []:=by
 (refine Spec.hd (C:=T.cfg [] []) (rs:= [.t 4]) (T.ah _ _) Tryz.func45 rfl rfl Tryz.ntmps45 Tryz.results45 (by simp [AObj.isNest]) (by simp [AObj.isNest]) (by kernel_rfl) T.mixed fun X hX hP hC aJ bQ=> ?_)
 repeat' (first|refine Rn.p ?_|(with_reducible apply And.intro)|((first|(refine hK _ ?_;clear hK K)|with_reducible intro K hK|refine Rs.p ?_|((with_reducible first|apply oP|apply oQ);exact rfl)|refine aa hX hC hP (tP (·.1) g hm x) rfl rfl rfl (by simp only [go_sem,simprocAttr,au]) rfl ?_);try simp only [go_sem,simprocAttr,au])|((with_reducible refine oD ?_ ?_);kernel_rfl)|((with_reducible intro h);try simp only [go_sem,simprocAttr,au] at h)|omega|intro h)
theorem jO (g:Gr) (hm:aH g=true) (x:Int):Spec Tryz.prog 172 (Args [.d (vw g),eN x]) [] (.d (sI (bq (·.2) g x))) []:=by
 (refine Spec.hd (C:=T.cfg [] []) (rs:= [.t 4]) (T.ah _ _) Tryz.func172 rfl rfl Tryz.ntmps172 Tryz.results172 (by simp [AObj.isNest]) (by simp [AObj.isNest]) (by kernel_rfl) T.mixed fun X hX hP hC aJ bQ=> ?_)
 repeat' (first|refine Rn.p ?_|(with_reducible apply And.intro)|((first|(refine hK _ ?_;clear hK K)|with_reducible intro K hK|refine Rs.p ?_|((with_reducible first|apply oP|apply oQ);exact rfl)|refine aa hX hC hP (tP (·.2) g hm x) rfl rfl rfl (by simp only [go_sem,simprocAttr,au]) rfl ?_);try simp only [go_sem,simprocAttr,au])|((with_reducible refine oD ?_ ?_);kernel_rfl)|((with_reducible intro h);try simp only [go_sem,simprocAttr,au] at h)|omega|intro h)
end Go.Ab
end
section
namespace Go.Ab
open Go.Proofs
attribute [local congr] ACall.congr gd.congr Nx.congr
set_option maxRecDepth 10000
abbrev It:=Int × Int × Int
def rT (t:It):List D:= [.sc (.int .i64 t.1), .sc (.int .i64 t.2.1), .sc (.int .i64 t.2.2)]
def eT (t:It):AV:= .agg [.d (.sc (.int .i64 t.1)), .d (.sc (.int .i64 t.2.1)), .d (.sc (.int .i64 t.2.2))]
def sT (ts:List It):D:= .sl 3 (ts.map rT)
theorem getD_rT (ps:List It) (i:Nat):(ps.map rT).getD i [.sc (.int .i64 0), .sc (.int .i64 0), .sc (.int .i64 0)]=rT (ps.getD i (0,0,0)):=by
 simp only [List.getD_eq_getElem?_getD,List.getElem?_map]
 cases ps[i]? <;>rfl
theorem rT_eq (t:It):rT t= [.sc (.int .i64 t.1), .sc (.int .i64 t.2.1), .sc (.int .i64 t.2.2)]:=rfl
attribute [go_sem] getD_rT rT_eq eT sT
theorem oy {l:List Int} :∀r∈l.map rI,∀x∈r,∃v,x=D.sc v:=by
 intro r hr x hx
 obtain ⟨y,_,rfl⟩:=List.mem_map.1 hr
 simp only [rI,List.mem_singleton] at hx
 exact ⟨_,hx⟩
theorem oz {l:List It} :∀r∈l.map rT,∀x∈r,∃v,x=D.sc v:=by
 intro r hr x hx
 obtain ⟨y,_,rfl⟩:=List.mem_map.1 hr
 simp only [rT,List.mem_cons,List.not_mem_nil,or_false] at hx
 rcases hx with h|h|h<;>exact ⟨_,h⟩
theorem aL {α:Type} {l:List α} {m:Nat} {d:α} (h:m<l.length):l.getD m d∈l:=by
 rw [List.getD_eq_getElem?_getD,List.getElem?_eq_getElem h];exact List.getElem_mem h
theorem qA (ps:List It) (hl:ps.length≤1000000):
 Spec Tryz.prog 127 (Args [.d (sT ps)]) [] (.ref 10000) [(10000, .tip 100 3 (ps.map rT))]:=by
 (refine Spec.s7 (C:=T.cfg [] []) (rs:= [.t 2]) [(10000,7)] (T.ah _ _) Tryz.func127 rfl rfl Tryz.ntmps127 Tryz.results127 (by simp [AObj.isNest]) (by simp [AObj.isNest]) (by first|(simp [look];done)|(simp [asN];done)|(intro l hl;simp only [asN];repeat (rw [if_neg (fun e=>by subst e;simp [look] at hl)]))) (by first|(simp [look];done)|(simp [asN];done)|(intro l hl;simp only [asN];repeat (rw [if_neg (fun e=>by subst e;simp [look] at hl)]))) (by kernel_rfl) T.mixed fun X hX hP hC aJ bQ=> ?_)
 repeat' (first|(show bV _ .ret _ _;(try simp only [go_sem,simprocAttr]);refine dD hX 2 7 (.tip 100 3 []) ?_ ?_ (by decide) ⟨100,3,by decide, .inr rfl⟩ ?_;(iterate 2 (focus (simp only [go_sem,simprocAttr];done)));simp only [go_sem,simprocAttr])|refine Rn.p ?_|(with_reducible apply And.intro)|((first|(refine hK _ ?_;clear hK K)|with_reducible intro K hK|refine Rs.p ?_|((with_reducible first|apply oP|apply oQ);exact rfl));try simp only [go_sem,simprocAttr])|((with_reducible refine oD ?_ ?_);kernel_rfl)|((with_reducible intro h);try simp only [go_sem,simprocAttr] at h)|omega|intro h)
 exact h.symm
theorem xI (ps:List Int) (hl:ps.length≤1000000):
 Spec Tryz.prog 71 (Args [.d (sI ps)]) [] (.ref 10000) [(10000, .tip 3 1 (ps.map rI))]:=by
 (refine Spec.s7 (C:=T.cfg [] []) (rs:= [.t 2]) [(10000,7)] (T.ah _ _) Tryz.func71 rfl rfl Tryz.ntmps71 Tryz.results71 (by simp [AObj.isNest]) (by simp [AObj.isNest]) (by first|(simp [look];done)|(simp [asN];done)|(intro l hl;simp only [asN];repeat (rw [if_neg (fun e=>by subst e;simp [look] at hl)]))) (by first|(simp [look];done)|(simp [asN];done)|(intro l hl;simp only [asN];repeat (rw [if_neg (fun e=>by subst e;simp [look] at hl)]))) (by kernel_rfl) T.mixed fun X hX hP hC aJ bQ=> ?_)
 repeat' (first|(show bV _ .ret _ _;(try simp only [go_sem,simprocAttr]);refine dD hX 2 7 (.tip 3 1 []) ?_ ?_ (by decide) ⟨3,1,by decide, .inr rfl⟩ ?_;(iterate 2 (focus (simp only [go_sem,simprocAttr];done)));simp only [go_sem,simprocAttr])|refine Rn.p ?_|(with_reducible apply And.intro)|((first|(refine hK _ ?_;clear hK K)|with_reducible intro K hK|refine Rs.p ?_|((with_reducible first|apply oP|apply oQ);exact rfl));try simp only [go_sem,simprocAttr])|((with_reducible refine oD ?_ ?_);kernel_rfl)|((with_reducible intro h);try simp only [go_sem,simprocAttr] at h)|omega|intro h)
 exact h.symm
theorem kX {m:List (Nat × AObj)} (hR:bz m) (f:Nat) (caps:List AV) (g:It→Bool) (ps:List It) (hf:∀p∈ps,Spec Tryz.prog f (Args (eT p::caps)) m (eB (g p)) m) (hl:ps.length≤9223372036854775807):
 Spec Tryz.prog 212 (Args [.d (sT ps), .fn f [] caps]) m (eN (bI g ps)) m:=by
 (refine Spec.hd (C:=T.cfg [] []) (rs:= [.t 4]) (T.ah _ _) Tryz.func212 rfl rfl Tryz.ntmps212 Tryz.results212 (fun p hp=>⟨(bz.low hR p hp).1,bz.nest hR p hp⟩) (fun p hp=>⟨(bz.low hR p hp).2,bz.nest hR p hp⟩) (by kernel_rfl) T.mixed fun X hX hP hC aJ bQ=> ?_)
 repeat' (first|refine Rn.p ?_|(with_reducible apply And.intro)|((first|(refine hK _ ?_;clear hK K)|with_reducible intro K hK|refine Rs.p ?_|((with_reducible first|apply oP|apply oQ);exact rfl));try simp only [go_sem,simprocAttr])|((with_reducible refine oD ?_ ?_);kernel_rfl)|((with_reducible intro h);try simp only [go_sem,simprocAttr] at h)|omega|intro h)
 refine ai (fun k:Nat=>k≤ps.length∧∀j,j<k→g (ps.getD j (0,0,0))=false) (fun k=>⟨[(0, .d (sT ps)),(1, .fn f [] caps),(7,eN ps.length),(8,eN k)],m⟩) (fun k=>ps.length - k) 0 (by simp) ?_ ?_
 ·(refine ⟨cP ?_,fun _ _ h=>h⟩;simp [go_sem,simprocAttr])
 rintro k ⟨hk,hg⟩
 rcases Nat.lt_or_ge k ps.length with hlt|hge
 ·have hb:decide ((k:Int)<(ps.length:Int))=true:=decide_eq_true (by omega)
  have hf':=hf (ps.getD k (0,0,0)) (aL hlt)
  repeat' (first|refine Rn.p ?_|(with_reducible apply And.intro)|((first|(refine hK _ ?_;clear hK K)|with_reducible intro K hK|refine Rs.p ?_|((with_reducible first|apply oP|apply oQ);exact rfl)|(first|(refine bg hX hC hP hR (hf') rfl rfl rfl ?_ ?_ rfl rfl ?_;(focus (simp only [go_sem,simprocAttr,hb];done));(focus (first|(intro p hp;exact aP (bz.nd hR) hp)|(simp [go_sem,simprocAttr,hb];done))))|(refine bg hX hC hP hR (hf') rfl rfl rfl ?_ ?_ ?_ rfl ?_;(focus (simp only [go_sem,simprocAttr,hb];done));(focus (first|(intro p hp;exact aP (bz.nd hR) hp)|(simp [go_sem,simprocAttr,hb];done)));(focus (simp [go_sem,simprocAttr,hb];done)))));try simp only [go_sem,simprocAttr,hb])|((with_reducible refine oD ?_ ?_);kernel_rfl)|((with_reducible intro h);try simp only [go_sem,simprocAttr,hb] at h)|omega|intro h)
  ·exact (cQ (by omega) hg h).symm
  ·exact fC hR
  ·refine ⟨k+1,⟨by omega,fun j hj=> ?_⟩, ?_,by omega⟩
   ·by_cases hjk:j=k
    ·subst hjk;exact h
    ·exact hg j (by omega)
   ·(refine ⟨cP ?_,fun _ _ h=>h⟩;simp [go_sem,simprocAttr,hb])
 ·have hb:decide ((k:Int)<(ps.length:Int))=false:=decide_eq_false (by omega)
  repeat' (first|refine Rn.p ?_|(with_reducible apply And.intro)|((first|(refine hK _ ?_;clear hK K)|with_reducible intro K hK|refine Rs.p ?_|((with_reducible first|apply oP|apply oQ);exact rfl)|(first|(refine bg hX hC hP hR (hf') rfl rfl rfl ?_ ?_ rfl rfl ?_;(focus (simp only [go_sem,simprocAttr,hb];done));(focus (first|(intro p hp;exact aP (bz.nd hR) hp)|(simp [go_sem,simprocAttr,hb];done))))|(refine bg hX hC hP hR (hf') rfl rfl rfl ?_ ?_ ?_ rfl ?_;(focus (simp only [go_sem,simprocAttr,hb];done));(focus (first|(intro p hp;exact aP (bz.nd hR) hp)|(simp [go_sem,simprocAttr,hb];done)));(focus (simp [go_sem,simprocAttr,hb];done)))));try simp only [go_sem,simprocAttr,hb])|((with_reducible refine oD ?_ ?_);kernel_rfl)|((with_reducible intro h);try simp only [go_sem,simprocAttr,hb] at h)|omega|intro h)
  ·exact (cA (0,0,0) fun j hj=>hg j (by omega)).symm
  ·exact fC hR
theorem nE {m:List (Nat × AObj)} (hR:bz m) (f:Nat) (caps:List AV) (g:It→Bool) (ps:List It) (hf:∀p∈ps,Spec Tryz.prog f (Args (eT p::caps)) m (eB (g p)) m) (hl:ps.length≤9223372036854775807):
 Spec Tryz.prog 197 (Args [.d (sT ps), .fn f [] caps]) m (eB (ps.any g)) m:=by
 (refine Spec.hd (C:=T.cfg [] []) (rs:= [.t 4]) (T.ah _ _) Tryz.func197 rfl rfl Tryz.ntmps197 Tryz.results197 (fun p hp=>⟨(bz.low hR p hp).1,bz.nest hR p hp⟩) (fun p hp=>⟨(bz.low hR p hp).2,bz.nest hR p hp⟩) (by kernel_rfl) T.mixed fun X hX hP hC aJ bQ=> ?_)
 repeat' (first|refine Rn.p ?_|(with_reducible apply And.intro)|((first|(refine hK _ ?_;clear hK K)|with_reducible intro K hK|refine Rs.p ?_|((with_reducible first|apply oP|apply oQ);exact rfl)|(first|(refine bg hX hC hP hR (kX hR f caps g ps hf hl) rfl rfl rfl ?_ ?_ rfl rfl ?_;(focus (simp only [go_sem,simprocAttr];done));(focus (first|(intro p hp;exact aP (bz.nd hR) hp)|(simp [go_sem,simprocAttr];done))))|(refine bg hX hC hP hR (kX hR f caps g ps hf hl) rfl rfl rfl ?_ ?_ ?_ rfl ?_;(focus (simp only [go_sem,simprocAttr];done));(focus (first|(intro p hp;exact aP (bz.nd hR) hp)|(simp [go_sem,simprocAttr];done)));(focus (simp [go_sem,simprocAttr];done)))));try simp only [go_sem,simprocAttr])|((with_reducible refine oD ?_ ?_);kernel_rfl)|((with_reducible intro h);try simp only [go_sem,simprocAttr] at h)|omega|intro h)
 ·exact eW g ps
 ·exact fC hR
theorem iR (n:Int) (h0:0<n) (hl:n≤1000000):Spec Tryz.prog 199 (Args [.nil 100,eN n]) [] (.ref 10000) [(10000, .own 100 3 [])]:=by
 (refine Spec.s7 (C:=T.cfg [] []) (rs:= [.t 4]) [(10000,25)] (T.ah _ _) Tryz.func199 rfl rfl Tryz.ntmps199 Tryz.results199 (by simp [AObj.isNest]) (by simp [AObj.isNest]) (by first|(simp [look];done)|(simp [asN];done)|(intro l hl;simp only [asN];repeat (rw [if_neg (fun e=>by subst e;simp [look] at hl)]))) (by first|(simp [look];done)|(simp [asN];done)|(intro l hl;simp only [asN];repeat (rw [if_neg (fun e=>by subst e;simp [look] at hl)]))) (by kernel_rfl) T.mixed fun X hX hP hC aJ bQ=> ?_)
 repeat' (first|refine Rn.p ?_|(with_reducible apply And.intro)|((first|(refine hK _ ?_;clear hK K)|with_reducible intro K hK|refine Rs.p ?_|((with_reducible first|apply oP|apply oQ);exact rfl));try simp only [go_sem,simprocAttr])|((with_reducible refine oD ?_ ?_);kernel_rfl)|((with_reducible intro h);try simp only [go_sem,simprocAttr] at h)|omega|intro h)
def vT (ls:List (List It)):List (List D):=ls.map fun l=> [sT l]
theorem vT_length {ls:List (List It)} :(vT ls).length=ls.length:=by simp [vT]
theorem rL {ls:List (List It)} {k:Nat} (h:k<ls.length) (d:List D):(vT ls).getD k d= [sT (ls.getD k [])]:=by
 simp [vT,List.getD_eq_getElem?_getD,List.getElem?_eq_getElem h]
attribute [go_sem] vT_length
theorem tQ {α:Type} {ls:List (List α)} {k:Nat} (h:k<ls.length):(ls.take (k+1)).flatten=(ls.take k).flatten++ls.getD k []:=by
 rw [List.take_add_one,List.flatten_append,List.getElem?_eq_getElem h,List.getD_eq_getElem?_getD,List.getElem?_eq_getElem h]
 simp
theorem oI {α:Type} {ls:List (List α)} {k:Nat} :(ls.take k).flatten.length≤ls.flatten.length:=by
 have:=congrArg (fun x=>x.flatten.length) (List.take_append_drop k ls)
 simp only [List.flatten_append,List.length_append] at this
 omega
theorem xJ (ls:List (List It)) (hn:ls.length≤1000) (h0:0<ls.flatten.length) (hl:ls.flatten.length≤1000000):Spec Tryz.prog 174 (Args [.d (.sl 1 (vT ls))]) [] (.d (sT ls.flatten)) []:=by
 (refine Spec.hd (C:=T.cfg [] []) (rs:= [.t 2]) (T.ah _ _) Tryz.func174 rfl rfl Tryz.ntmps174 Tryz.results174 (by simp [AObj.isNest]) (by simp [AObj.isNest]) (by kernel_rfl) T.mixed fun X hX hP hC aJ bQ=> ?_)
 repeat' (first|refine Rn.p ?_|(with_reducible apply And.intro)|((first|(refine hK _ ?_;clear hK K)|with_reducible intro K hK|refine Rs.p ?_|((with_reducible first|apply oP|apply oQ);exact rfl)|(refine ak hX hC hP [(10000,33)] (iR (ls.flatten.length:Int) (by omega) (by omega)) rfl rfl rfl ?_ ?_ ?_ ?_ ?_ ?_ ?_ ?_ ?_ ?_ ?_ ?_ ?_ ?_;(focus (simp only [go_sem,simprocAttr];done));(iterate 12 (focus (simp [go_sem,simprocAttr];done)));try simp only [List.map_cons,List.map_nil]));try simp only [go_sem,simprocAttr])|((with_reducible refine oD ?_ ?_);kernel_rfl)|((with_reducible intro h);try simp only [go_sem,simprocAttr] at h)|omega|intro h)
 refine ai (fun k:Nat=>k≤ls.length) (fun k=>⟨[(0, .d (.sl 1 (vT ls))),(9, .d (.sl 1 (vT ls))),(10,eN ls.length),(11,eN k),(3,eN ((ls.take k).flatten.length))], []⟩) (fun k=>ls.length - k) 0 (by omega) ?_ ?_
 ·(refine Le.of ?_ ?_<;>simp [go_sem,simprocAttr])
 ·rintro k hk
  rcases Nat.lt_or_ge k ls.length with hlt|hge
  ·have hb:decide ((k:Int)<(ls.length:Int))=true:=decide_eq_true (by omega)
   have hv:=rL hlt
   have hf:=tQ hlt
   have MC:=oI (ls:=ls) (k:=k)
   have Jo:=oI (ls:=ls) (k:=k+1)
   rw [hf,List.length_append] at Jo
   have hneg:decide (((ls.take k).flatten.length:Int)+((ls.getD k []).length:Int)<0)=false:=decide_eq_false (by omega)
   repeat' (first|refine Rn.p ?_|(with_reducible apply And.intro)|((first|(refine hK _ ?_;clear hK K)|with_reducible intro K hK|refine Rs.p ?_|((with_reducible first|apply oP|apply oQ);exact rfl)|(refine ak hX hC hP [(10000,33)] (iR (ls.flatten.length:Int) (by omega) (by omega)) rfl rfl rfl ?_ ?_ ?_ ?_ ?_ ?_ ?_ ?_ ?_ ?_ ?_ ?_ ?_ ?_;(focus (simp only [go_sem,simprocAttr,hb,hv,hneg];done));(iterate 12 (focus (simp [go_sem,simprocAttr,hb,hv,hneg];done)));try simp only [List.map_cons,List.map_nil]));try simp only [go_sem,simprocAttr,hb,hv,hneg])|((with_reducible refine oD ?_ ?_);kernel_rfl)|((with_reducible intro h);try simp only [go_sem,simprocAttr,hb,hv,hneg] at h)|omega|intro h)
   refine ⟨k+1,by omega, ?_,by omega⟩
   simp only [hf]
   refine Le.of ?_ ?_<;>simp [go_sem,simprocAttr,hb,hv,hneg]
  ·have hb:decide ((k:Int)<(ls.length:Int))=false:=decide_eq_false (by omega)
   have ht:ls.take k=ls:=List.take_of_length_le (by omega)
   repeat' (first|refine Rn.p ?_|(with_reducible apply And.intro)|((first|(refine hK _ ?_;clear hK K)|with_reducible intro K hK|refine Rs.p ?_|((with_reducible first|apply oP|apply oQ);exact rfl)|(refine ak hX hC hP [(10000,33)] (iR (ls.flatten.length:Int) (by omega) (by omega)) rfl rfl rfl ?_ ?_ ?_ ?_ ?_ ?_ ?_ ?_ ?_ ?_ ?_ ?_ ?_ ?_;(focus (simp only [go_sem,simprocAttr,hb,ht];done));(iterate 12 (focus (simp [go_sem,simprocAttr,hb,ht];done)));try simp only [List.map_cons,List.map_nil]));try simp only [go_sem,simprocAttr,hb,ht])|((with_reducible refine oD ?_ ?_);kernel_rfl)|((with_reducible intro h);try simp only [go_sem,simprocAttr,hb,ht] at h)|omega|intro h)
   refine ai (fun k:Nat=>k≤ls.length) (fun k=>⟨[(25, .d (.sl 1 (vT ls))),(26,eN ls.length),(27,eN k),(6, .ref 33)], [(33, .own 100 3 ((ls.take k).flatten.map rT))]⟩) (fun k=>ls.length - k) 0 (by omega) ?_ ?_
   ·(refine Le.of ?_ ?_<;>simp [go_sem,simprocAttr,hb,ht])
   ·clear hb ht hk hge
    rintro k hk
    rcases Nat.lt_or_ge k ls.length with hlt|hge
    ·have hb:decide ((k:Int)<(ls.length:Int))=true:=decide_eq_true (by omega)
     have hv:=rL hlt
     have hf:=tQ hlt
     have MC:=oI (ls:=ls) (k:=k)
     have Jo:=oI (ls:=ls) (k:=k+1)
     rw [hf,List.length_append] at Jo
     repeat' (first|refine Rn.p ?_|(with_reducible apply And.intro)|((first|(refine hK _ ?_;clear hK K)|with_reducible intro K hK|refine Rs.p ?_|((with_reducible first|apply oP|apply oQ);exact rfl)|(refine ak hX hC hP [(10000,33)] (iR (ls.flatten.length:Int) (by omega) (by omega)) rfl rfl rfl ?_ ?_ ?_ ?_ ?_ ?_ ?_ ?_ ?_ ?_ ?_ ?_ ?_ ?_;(focus (simp only [go_sem,simprocAttr,hb,hv];done));(iterate 12 (focus (simp [go_sem,simprocAttr,hb,hv];done)));try simp only [List.map_cons,List.map_nil]));try simp only [go_sem,simprocAttr,hb,hv])|((with_reducible refine oD ?_ ?_);kernel_rfl)|((with_reducible intro h);try simp only [go_sem,simprocAttr,hb,hv] at h)|omega|intro h)
     refine ⟨k+1,by omega, ?_,by omega⟩
     simp only [hf]
     refine Le.of ?_ ?_<;>simp [go_sem,simprocAttr,hb,hv]
    ·have hb:decide ((k:Int)<(ls.length:Int))=false:=decide_eq_false (by omega)
     have ht:ls.take k=ls:=List.take_of_length_le (by omega)
     repeat' (first|refine Rn.p ?_|(with_reducible apply And.intro)|((first|(refine hK _ ?_;clear hK K)|with_reducible intro K hK|refine Rs.p ?_|((with_reducible first|apply oP|apply oQ);exact rfl)|(refine ak hX hC hP [(10000,33)] (iR (ls.flatten.length:Int) (by omega) (by omega)) rfl rfl rfl ?_ ?_ ?_ ?_ ?_ ?_ ?_ ?_ ?_ ?_ ?_ ?_ ?_ ?_;(focus (simp only [go_sem,simprocAttr,hb,ht];done));(iterate 12 (focus (simp [go_sem,simprocAttr,hb,ht];done)));try simp only [List.map_cons,List.map_nil]));try simp only [go_sem,simprocAttr,hb,ht])|((with_reducible refine oD ?_ ?_);kernel_rfl)|((with_reducible intro h);try simp only [go_sem,simprocAttr,hb,ht] at h)|omega|intro h)
end Go.Ab
end
section
namespace Go.Ab
open Go.Proofs
attribute [local congr] ACall.congr gd.congr Nx.congr
set_option maxRecDepth 10000
set_option maxHeartbeats 1000000
structure Fr where
 row:List It
 pl:List Int
def fN (g:Gr) (f:Fr):D:= .pt [sT f.row,vw g,sI f.pl]
def fh (row:List It) (x:Int):Nat→Int × Int × Int
 |0=>(-1,0,0)
 |k+1=>if (row.getD k (0,0,0)).2.2=x then (if (fh row x k).1= -1 then (k:Int) else (fh row x k).1,(k:Int)+1,(fh row x k).2.2+1) else fh row x k
def bn (row:List It) (x:Int):Int × Int × Int:=fh row x row.length
theorem nF {row:List It} {x:Int} {k:Nat} :fh row x (k+1)=if (row.getD k (0,0,0)).2.2=x then (if (fh row x k).1= -1 then (k:Int) else (fh row x k).1,(k:Int)+1,(fh row x k).2.2+1) else fh row x k:=rfl
theorem eu {row:List It} {x:Int} :∀k:Nat,(fh row x k=(-1,0,0)∧∀j,j<k→(row.getD j (0,0,0)).2.2≠x)∨
 ∃a b c:Nat,fh row x k=((a:Int),(b:Int),(c:Int))∧a<b∧b≤k∧0<c∧c≤k∧(row.getD a (0,0,0)).2.2=x∧(row.getD (b - 1) (0,0,0)).2.2=x∧(∀j,j<a→(row.getD j (0,0,0)).2.2≠x)∧(∀j,b≤j→j<k→(row.getD j (0,0,0)).2.2≠x)
 |0=> .inl ⟨rfl,fun j hj=>by omega⟩
 |k+1=>by
  rw [nF]
  by_cases hx:(row.getD k (0,0,0)).2.2=x
  ·rw [if_pos hx]
   right
   rcases eu (row:=row) (x:=x) k with ⟨h1,h2⟩|⟨a,b,c,h1,h2,h3,h4,h5,h6,h7,h8,h9⟩
   ·refine ⟨k,k+1,1,by rw [h1];rfl,by omega,by omega,by omega,by omega,hx,hx,h2,fun j h1 h2=>by omega⟩
   ·refine ⟨a,k+1,c+1,by rw [h1];simp only [Prod.mk.injEq];exact ⟨by rw [if_neg (by omega)],by omega,by omega⟩,by omega,by omega,by omega,by omega,h6,hx,h8,fun j h1 h2=>by omega⟩
  ·rw [if_neg hx]
   rcases eu (row:=row) (x:=x) k with ⟨h1,h2⟩|⟨a,b,c,h1,h2,h3,h4,h5,h6,h7,h8,h9⟩
   ·refine .inl ⟨h1,fun j hj=> ?_⟩
    by_cases hjk:j=k
    ·subst hjk;exact hx
    ·exact h2 j (by omega)
   ·refine .inr ⟨a,b,c,h1,h2,by omega,h4,by omega,h6,h7,h8,fun j Pv Oh=> ?_⟩
    by_cases hjk:j=k
    ·subst hjk;exact hx
    ·exact h9 j Pv (by omega)
theorem dW (ds:List D) (row:List It) (x:Int) (hl:row.length≤1000000):Spec Tryz.prog 124 (Args [.d (.pt (sT row::ds)),eN x]) [] (.tup [eN (bn row x).1,eN (bn row x).2.1,eN (bn row x).2.2]) []:=by
 (refine Spec.hd (C:=T.cfg [] []) (rs:= [.t 4, .t 5, .t 6]) (T.ah _ _) Tryz.func124 rfl rfl Tryz.ntmps124 Tryz.results124 (by simp [AObj.isNest]) (by simp [AObj.isNest]) (by kernel_rfl) T.mixed fun X hX hP hC aJ bQ=> ?_)
 repeat' (first|refine Rn.p ?_|(with_reducible apply And.intro)|((first|(refine hK _ ?_;clear hK K)|with_reducible intro K hK|refine Rs.p ?_|((with_reducible first|apply oP|apply oQ);exact rfl));try simp only [go_sem,simprocAttr,bn])|((with_reducible refine oD ?_ ?_);kernel_rfl)|((with_reducible intro h);try simp only [go_sem,simprocAttr,bn] at h)|omega|intro h)
 refine ai (fun k:Nat=>k≤row.length) (fun k=>⟨[(1,eN x),(12, .d (sT row)),(13,eN row.length),(14,eN k),(4,eN (fh row x k).1),(5,eN (fh row x k).2.1),(6,eN (fh row x k).2.2)], []⟩) (fun k=>row.length - k) 0 (by simp) ?_ ?_
 ·refine Le.of ?_ ?_<;>simp [go_sem,simprocAttr,bn,fh]
 rintro k hk
 rcases Nat.lt_or_ge k row.length with hlt|hge
 ·have hb:decide ((k:Int)<(row.length:Int))=true:=decide_eq_true (by omega)
  have hok:=eu (row:=row) (x:=x) k
  have hc: -1≤(fh row x k).2.2∧(fh row x k).2.2≤k:=by
   rcases hok with ⟨h1,_⟩|⟨a,b,c,h1,_,_,_,_,_⟩<;>rw [h1]<;>simp only<;>omega
  have cn:=nF (row:=row) (x:=x) (k:=k)
  repeat' (first|refine Rn.p ?_|(with_reducible apply And.intro)|((first|(refine hK _ ?_;clear hK K)|with_reducible intro K hK|refine Rs.p ?_|((with_reducible first|apply oP|apply oQ);exact rfl));try simp only [go_sem,simprocAttr,hb])|((with_reducible refine oD ?_ ?_);kernel_rfl)|((with_reducible intro h);try simp only [go_sem,simprocAttr,hb] at h)|omega|intro h)
  all_goals (first|rw [if_neg (by assumption)] at cn|(rw [if_pos (by assumption)] at cn;first|rw [if_pos (by assumption)] at cn|rw [if_neg (by assumption)] at cn))
  all_goals (refine ⟨k+1,by omega, ?_,by omega⟩;refine Le.of ?_ ?_<;>simp [go_sem,simprocAttr,hb,cn])
 ·have hb:decide ((k:Int)<(row.length:Int))=false:=decide_eq_false (by omega)
  obtain rfl:k=row.length:=by omega
  repeat' (first|refine Rn.p ?_|(with_reducible apply And.intro)|((first|(refine hK _ ?_;clear hK K)|with_reducible intro K hK|refine Rs.p ?_|((with_reducible first|apply oP|apply oQ);exact rfl));try simp only [go_sem,simprocAttr,hb,bn])|((with_reducible refine oD ?_ ?_);kernel_rfl)|((with_reducible intro h);try simp only [go_sem,simprocAttr,hb,bn] at h)|omega|intro h)
def kJ (x:Int) (t:It):Bool:=decide (t.2.2≠x)&&decide (t.2.2≠ -1)
def qB (row:List It) (x:Int) (a b:Nat):Bool:= !((row.take b).drop a).any (kJ x)
theorem C8 (x:Int):bz [(10000, .rob [eN x])]:=⟨by simp [AObj.ro],by simp [nodupM,look],by simp,by simp [AObj.ids,AV.ids,AV.idss,eN]⟩
theorem AT (x:Int) (t:It):Spec Tryz.prog 198 (Args [eT t, .ptr 10000 0]) [(10000, .rob [eN x])] (eB (kJ x t)) [(10000, .rob [eN x])]:=by
 (refine Spec.hd (C:=T.cfg [] []) (rs:= [.t 3]) (T.ah _ _) Tryz.func198 rfl rfl Tryz.ntmps198 Tryz.results198 (fun p hp=>⟨(bz.low (C8 x) p hp).1,bz.nest (C8 x) p hp⟩) (fun p hp=>⟨(bz.low (C8 x) p hp).2,bz.nest (C8 x) p hp⟩) (by kernel_rfl) T.mixed fun X hX hP hC aJ bQ=> ?_)
 repeat' (first|refine Rn.p ?_|(with_reducible apply And.intro)|((first|(refine hK _ ?_;clear hK K)|with_reducible intro K hK|refine Rs.p ?_|((with_reducible first|apply oP|apply oQ);exact rfl));try simp only [go_sem,simprocAttr])|((with_reducible refine oD ?_ ?_);kernel_rfl)|((with_reducible intro h);try simp only [go_sem,simprocAttr] at h)|omega|intro h)
 all_goals (simp only [kJ];first|exact fC (C8 x)|simp [*])
theorem gi (ds:List D) (row:List It) (x:Int) (a b:Nat) (hab:a≤b) (hb:b≤row.length) (hl:row.length≤1000000):Spec Tryz.prog 173 (Args [.d (.pt (sT row::ds)),eN x,eN a,eN b]) [] (eB (qB row x a b)) []:=by
 have Gv:sT ((row.take b).drop a)= .sl 3 (((row.map rT).take b).drop a):=by simp [sT,List.map_take,List.map_drop]
 have jh:((row.take b).drop a).length≤9223372036854775807:=by simp;omega
 (refine Spec.hd (C:=T.cfg [] []) (rs:= [.t 8]) (T.ah _ _) Tryz.func173 rfl rfl Tryz.ntmps173 Tryz.results173 (by simp [AObj.isNest]) (by simp [AObj.isNest]) (by kernel_rfl) T.mixed fun X hX hP hC aJ bQ=> ?_)
 repeat' (first|refine Rn.p ?_|(with_reducible apply And.intro)|((first|(refine hK _ ?_;clear hK K)|with_reducible intro K hK|refine Rs.p ?_|((with_reducible first|apply oP|apply oQ);exact rfl)|(refine bt hX hC hP [(10000,5)] (nE (C8 x) _ [.ptr 10000 0] (kJ x) ((row.take b).drop a) (fun t _=>AT x t) jh) rfl rfl rfl ?_ ?_ ?_ ?_ ?_ ?_ rfl rfl ?_ ?_;(focus (simp only [go_sem,simprocAttr,List.map_take,List.map_drop];done));(iterate 6 (focus (simp [go_sem,simprocAttr,List.map_take,List.map_drop];done)));try simp only [List.map_cons,List.map_nil]));try simp only [go_sem,simprocAttr,List.map_take,List.map_drop])|((with_reducible refine oD ?_ ?_);kernel_rfl)|((with_reducible intro h);try simp only [go_sem,simprocAttr,List.map_take,List.map_drop] at h)|omega|intro h)
 rfl
end Go.Ab
end
section
namespace Go.Ab
open Go.Proofs
attribute [local congr] ACall.congr gd.congr Nx.congr
set_option maxRecDepth 10000
set_option maxHeartbeats 2000000
def eL (g:Gr) (f:Fr) (x:Int):Bool:=
 if x<0∨g.n≤x∨x∈f.pl then false else
 decide ((bn f.row x).2.2=((bq (·.2) g x).length:Int))&&(decide ((bq (·.2) g x).length=0)||qB f.row x (bn f.row x).1.toNat (bn f.row x).2.1.toNat)
theorem AU {f:Edge→Int} {g:Gr} {x:Int} :(bq f g x).length≤g.es.length:=by
 unfold bq
 split
 ·exact iw
 ·simp
theorem gj (g:Gr) (hm:aH g=true) (f:Fr) (x:Int) (hr:f.row.length≤1000000) (dn:f.pl.length≤1000000):Spec Tryz.prog 123 (Args [.d (fN g f),eN x]) [] (eB (eL g f x)) []:=by
 have hp:f.pl.length≤9223372036854775807:=by omega
 have hn:=aB hm
 unfold fN
 by_cases hx:x<0∨g.n≤x∨x∈f.pl
 ·have hR:eL g f x=false:=if_pos hx
  (refine Spec.hd (C:=T.cfg [] []) (rs:= [.t 4]) (T.ah _ _) Tryz.func123 rfl rfl Tryz.ntmps123 Tryz.results123 (by simp [AObj.isNest]) (by simp [AObj.isNest]) (by kernel_rfl) T.mixed fun X hX hP hC aJ bQ=> ?_)
  by_cases h1:x<0
  ·have hb1:decide (x<0)=true:=decide_eq_true h1
   repeat' (first|refine Rn.p ?_|(with_reducible apply And.intro)|((first|(refine hK _ ?_;clear hK K)|with_reducible intro K hK|refine Rs.p ?_|((with_reducible first|apply oP|apply oQ);exact rfl)|refine aa hX hC hP (jO g hm x) rfl rfl rfl (by simp only [go_sem,simprocAttr,au,hR,hb1]) rfl ?_|refine aa hX hC hP (aX f.pl x hp) rfl rfl rfl (by simp only [go_sem,simprocAttr,au,hR,hb1]) rfl ?_|refine aa hX hC hP (dW [vw g,sI f.pl] f.row x hr) rfl rfl rfl (by simp only [go_sem,simprocAttr,au,hR,hb1]) rfl ?_|refine aa hX hC hP (gi [vw g,sI f.pl] f.row x a b hab qZ hr) rfl rfl rfl (by simp only [go_sem,simprocAttr,au,hR,hb1]) rfl ?_);try simp only [go_sem,simprocAttr,au,hR,hb1])|((with_reducible refine oD ?_ ?_);kernel_rfl)|((with_reducible intro h);try simp only [go_sem,simprocAttr,au,hR,hb1] at h)|omega|intro h)
  have hb1:decide (x<0)=false:=decide_eq_false h1
  by_cases h2:g.n≤x
  ·have hb2:decide (g.n≤x)=true:=decide_eq_true h2
   repeat' (first|refine Rn.p ?_|(with_reducible apply And.intro)|((first|(refine hK _ ?_;clear hK K)|with_reducible intro K hK|refine Rs.p ?_|((with_reducible first|apply oP|apply oQ);exact rfl)|refine aa hX hC hP (jO g hm x) rfl rfl rfl (by simp only [go_sem,simprocAttr,au,hR,hb1,hb2]) rfl ?_|refine aa hX hC hP (aX f.pl x hp) rfl rfl rfl (by simp only [go_sem,simprocAttr,au,hR,hb1,hb2]) rfl ?_|refine aa hX hC hP (dW [vw g,sI f.pl] f.row x hr) rfl rfl rfl (by simp only [go_sem,simprocAttr,au,hR,hb1,hb2]) rfl ?_|refine aa hX hC hP (gi [vw g,sI f.pl] f.row x a b hab qZ hr) rfl rfl rfl (by simp only [go_sem,simprocAttr,au,hR,hb1,hb2]) rfl ?_);try simp only [go_sem,simprocAttr,au,hR,hb1,hb2])|((with_reducible refine oD ?_ ?_);kernel_rfl)|((with_reducible intro h);try simp only [go_sem,simprocAttr,au,hR,hb1,hb2] at h)|omega|intro h)
  have hb2:decide (g.n≤x)=false:=decide_eq_false h2
  have h3:x∈f.pl:=by rcases hx with h|h|h;exact absurd h h1;exact absurd h h2;exact h
  have hb3:decide (x∈f.pl)=true:=decide_eq_true h3
  repeat' (first|refine Rn.p ?_|(with_reducible apply And.intro)|((first|(refine hK _ ?_;clear hK K)|with_reducible intro K hK|refine Rs.p ?_|((with_reducible first|apply oP|apply oQ);exact rfl)|refine aa hX hC hP (jO g hm x) rfl rfl rfl (by simp only [go_sem,simprocAttr,au,hR,hb1,hb2,hb3]) rfl ?_|refine aa hX hC hP (aX f.pl x hp) rfl rfl rfl (by simp only [go_sem,simprocAttr,au,hR,hb1,hb2,hb3]) rfl ?_|refine aa hX hC hP (dW [vw g,sI f.pl] f.row x hr) rfl rfl rfl (by simp only [go_sem,simprocAttr,au,hR,hb1,hb2,hb3]) rfl ?_|refine aa hX hC hP (gi [vw g,sI f.pl] f.row x a b hab qZ hr) rfl rfl rfl (by simp only [go_sem,simprocAttr,au,hR,hb1,hb2,hb3]) rfl ?_);try simp only [go_sem,simprocAttr,au,hR,hb1,hb2,hb3])|((with_reducible refine oD ?_ ?_);kernel_rfl)|((with_reducible intro h);try simp only [go_sem,simprocAttr,au,hR,hb1,hb2,hb3] at h)|omega|intro h)
 ·have hb1:decide (x<0)=false:=decide_eq_false fun h=>hx (.inl h)
  have hb2:decide (g.n≤x)=false:=decide_eq_false fun h=>hx (.inr (.inl h))
  have hb3:decide (x∈f.pl)=false:=decide_eq_false fun h=>hx (.inr (.inr h))
  have hR:eL g f x=(decide ((bn f.row x).2.2=((bq (·.2) g x).length:Int))&&(decide ((bq (·.2) g x).length=0)||qB f.row x (bn f.row x).1.toNat (bn f.row x).2.1.toNat)):=if_neg hx
  by_cases h4:(bn f.row x).2.2=((bq (·.2) g x).length:Int)
  ·have hb4:decide ((bn f.row x).2.2=((bq (·.2) g x).length:Int))=true:=decide_eq_true h4
   by_cases h5:(bq (·.2) g x).length=0
   ·have C9:decide (((bq (·.2) g x).length:Int)=0)=true:=decide_eq_true (by omega)
    rw [hb4,decide_eq_true h5] at hR
    (refine Spec.hd (C:=T.cfg [] []) (rs:= [.t 4]) (T.ah _ _) Tryz.func123 rfl rfl Tryz.ntmps123 Tryz.results123 (by simp [AObj.isNest]) (by simp [AObj.isNest]) (by kernel_rfl) T.mixed fun X hX hP hC aJ bQ=> ?_)
    repeat' (first|refine Rn.p ?_|(with_reducible apply And.intro)|((first|(refine hK _ ?_;clear hK K)|with_reducible intro K hK|refine Rs.p ?_|((with_reducible first|apply oP|apply oQ);exact rfl)|refine aa hX hC hP (jO g hm x) rfl rfl rfl (by simp only [go_sem,simprocAttr,au,hR,hb1,hb2,hb3,hb4,C9]) rfl ?_|refine aa hX hC hP (aX f.pl x hp) rfl rfl rfl (by simp only [go_sem,simprocAttr,au,hR,hb1,hb2,hb3,hb4,C9]) rfl ?_|refine aa hX hC hP (dW [vw g,sI f.pl] f.row x hr) rfl rfl rfl (by simp only [go_sem,simprocAttr,au,hR,hb1,hb2,hb3,hb4,C9]) rfl ?_|refine aa hX hC hP (gi [vw g,sI f.pl] f.row x a b hab qZ hr) rfl rfl rfl (by simp only [go_sem,simprocAttr,au,hR,hb1,hb2,hb3,hb4,C9]) rfl ?_);try simp only [go_sem,simprocAttr,au,hR,hb1,hb2,hb3,hb4,C9])|((with_reducible refine oD ?_ ?_);kernel_rfl)|((with_reducible intro h);try simp only [go_sem,simprocAttr,au,hR,hb1,hb2,hb3,hb4,C9] at h)|omega|intro h)
   ·have C9:decide (((bq (·.2) g x).length:Int)=0)=false:=decide_eq_false (by omega)
    rcases eu (row:=f.row) (x:=x) f.row.length with ⟨h6,_⟩|⟨a,b,c,h6,hab,qZ,_⟩
    ·exfalso
     have:(bn f.row x).2.2=0:=by unfold bn;rw [h6]
     omega
    ·have hsp:bn f.row x=((a:Int),(b:Int),(c:Int)):=h6
     have hab:a≤b:=by omega
     rw [hb4,decide_eq_false h5,hsp] at hR
     simp only [Bool.true_and,Bool.false_or,Int.toNat_natCast] at hR
     rw [hsp] at hb4
     (refine Spec.hd (C:=T.cfg [] []) (rs:= [.t 4]) (T.ah _ _) Tryz.func123 rfl rfl Tryz.ntmps123 Tryz.results123 (by simp [AObj.isNest]) (by simp [AObj.isNest]) (by kernel_rfl) T.mixed fun X hX hP hC aJ bQ=> ?_)
     repeat' (first|refine Rn.p ?_|(with_reducible apply And.intro)|((first|(refine hK _ ?_;clear hK K)|with_reducible intro K hK|refine Rs.p ?_|((with_reducible first|apply oP|apply oQ);exact rfl)|refine aa hX hC hP (jO g hm x) rfl rfl rfl (by simp only [go_sem,simprocAttr,au,hR,hb1,hb2,hb3,hb4,C9,hsp]) rfl ?_|refine aa hX hC hP (aX f.pl x hp) rfl rfl rfl (by simp only [go_sem,simprocAttr,au,hR,hb1,hb2,hb3,hb4,C9,hsp]) rfl ?_|refine aa hX hC hP (dW [vw g,sI f.pl] f.row x hr) rfl rfl rfl (by simp only [go_sem,simprocAttr,au,hR,hb1,hb2,hb3,hb4,C9,hsp]) rfl ?_|refine aa hX hC hP (gi [vw g,sI f.pl] f.row x a b hab qZ hr) rfl rfl rfl (by simp only [go_sem,simprocAttr,au,hR,hb1,hb2,hb3,hb4,C9,hsp]) rfl ?_);try simp only [go_sem,simprocAttr,au,hR,hb1,hb2,hb3,hb4,C9,hsp])|((with_reducible refine oD ?_ ?_);kernel_rfl)|((with_reducible intro h);try simp only [go_sem,simprocAttr,au,hR,hb1,hb2,hb3,hb4,C9,hsp] at h)|omega|intro h)
  ·have hb4:decide ((bn f.row x).2.2=((bq (·.2) g x).length:Int))=false:=decide_eq_false h4
   rw [hb4,Bool.false_and] at hR
   (refine Spec.hd (C:=T.cfg [] []) (rs:= [.t 4]) (T.ah _ _) Tryz.func123 rfl rfl Tryz.ntmps123 Tryz.results123 (by simp [AObj.isNest]) (by simp [AObj.isNest]) (by kernel_rfl) T.mixed fun X hX hP hC aJ bQ=> ?_)
   repeat' (first|refine Rn.p ?_|(with_reducible apply And.intro)|((first|(refine hK _ ?_;clear hK K)|with_reducible intro K hK|refine Rs.p ?_|((with_reducible first|apply oP|apply oQ);exact rfl)|refine aa hX hC hP (jO g hm x) rfl rfl rfl (by simp only [go_sem,simprocAttr,au,hR,hb1,hb2,hb3,hb4]) rfl ?_|refine aa hX hC hP (aX f.pl x hp) rfl rfl rfl (by simp only [go_sem,simprocAttr,au,hR,hb1,hb2,hb3,hb4]) rfl ?_|refine aa hX hC hP (dW [vw g,sI f.pl] f.row x hr) rfl rfl rfl (by simp only [go_sem,simprocAttr,au,hR,hb1,hb2,hb3,hb4]) rfl ?_|refine aa hX hC hP (gi [vw g,sI f.pl] f.row x a b hab qZ hr) rfl rfl rfl (by simp only [go_sem,simprocAttr,au,hR,hb1,hb2,hb3,hb4]) rfl ?_);try simp only [go_sem,simprocAttr,au,hR,hb1,hb2,hb3,hb4])|((with_reducible refine oD ?_ ?_);kernel_rfl)|((with_reducible intro h);try simp only [go_sem,simprocAttr,au,hR,hb1,hb2,hb3,hb4] at h)|omega|intro h)
theorem Da (ds:List D) (row:List It) (hr:row.length≤1000000):Spec Tryz.prog 84 (Args [.d (.pt (sT row::ds))]) [] (.ref 10000) [(10000, .tip 100 3 (row.map rT))]:=by
 (refine Spec.s7 (C:=T.cfg [] []) (rs:= [.t 2]) [(10000,7)] (T.ah _ _) Tryz.func84 rfl rfl Tryz.ntmps84 Tryz.results84 (by simp [AObj.isNest]) (by simp [AObj.isNest]) (by first|(simp [look];done)|(simp [asN];done)|(intro l hl;simp only [asN];repeat (rw [if_neg (fun e=>by subst e;simp [look] at hl)]))) (by first|(simp [look];done)|(simp [asN];done)|(intro l hl;simp only [asN];repeat (rw [if_neg (fun e=>by subst e;simp [look] at hl)]))) (by kernel_rfl) T.mixed fun X hX hP hC aJ bQ=> ?_)
 repeat' (first|refine Rn.p ?_|(with_reducible apply And.intro)|((first|(refine hK _ ?_;clear hK K)|with_reducible intro K hK|refine Rs.p ?_|((with_reducible first|apply oP|apply oQ);exact rfl)|(refine ak hX hC hP [(10000,7)] (qA row hr) rfl rfl rfl ?_ ?_ ?_ ?_ ?_ ?_ ?_ ?_ ?_ ?_ ?_ ?_ ?_ ?_;(focus (simp only [go_sem,simprocAttr];done));(iterate 12 (focus (simp [go_sem,simprocAttr];done)));try simp only [List.map_cons,List.map_nil]));try simp only [go_sem,simprocAttr])|((with_reducible refine oD ?_ ?_);kernel_rfl)|((with_reducible intro h);try simp only [go_sem,simprocAttr] at h)|omega|intro h)
end Go.Ab
end
section
namespace Go.Ab
open Go.Proofs
attribute [local congr] ACall.congr gd.congr Nx.congr
set_option maxRecDepth 10000
set_option maxHeartbeats 2000000
theorem cr (l:List Int):Spec Tryz.prog 121 (Args [.d (sI l)]) [] (.fn 171 [] [.ptr 10000 0]) [(10000, .box [.d (sI l)])]:=by
 (refine Spec.s7 (C:=T.cfg [] []) (rs:= [.t 2]) [(10000,1)] (T.ah _ _) Tryz.func121 rfl rfl Tryz.ntmps121 Tryz.results121 (by simp [AObj.isNest]) (by simp [AObj.isNest]) (by first|(simp [look];done)|(simp [asN];done)|(intro l hl;simp only [asN];repeat (rw [if_neg (fun e=>by subst e;simp [look] at hl)]))) (by first|(simp [look];done)|(simp [asN];done)|(intro l hl;simp only [asN];repeat (rw [if_neg (fun e=>by subst e;simp [look] at hl)]))) (by kernel_rfl) T.mixed fun X hX hP hC aJ bQ=> ?_)
 repeat' (first|refine Rn.p ?_|(with_reducible apply And.intro)|((first|(refine hK _ ?_;clear hK K)|with_reducible intro K hK|refine Rs.p ?_|((with_reducible first|apply oP|apply oQ);exact rfl));try simp only [go_sem,simprocAttr])|((with_reducible refine oD ?_ ?_);kernel_rfl)|((with_reducible intro h);try simp only [go_sem,simprocAttr] at h)|omega|intro h)
theorem fk (xs ys:List Int) (hlen:xs.length≤9223372036854775807):Spec Tryz.prog 122 (Args [.d (sI xs), .d (sI ys)]) [] (eB (decide (xs=ys))) []:=by
 (refine Spec.hd (C:=T.cfg [] []) (rs:= [.t 4]) (T.ah _ _) Tryz.func122 rfl rfl Tryz.ntmps122 Tryz.results122 (by simp [AObj.isNest]) (by simp [AObj.isNest]) (by kernel_rfl) T.mixed fun X hX hP hC aJ bQ=> ?_)
 repeat' (first|refine Rn.p ?_|(with_reducible apply And.intro)|((first|(refine hK _ ?_;clear hK K)|with_reducible intro K hK|refine Rs.p ?_|((with_reducible first|apply oP|apply oQ);exact rfl));try simp only [go_sem,simprocAttr])|((with_reducible refine oD ?_ ?_);kernel_rfl)|((with_reducible intro h);try simp only [go_sem,simprocAttr] at h)|omega|intro h)
 ·have:xs≠ys:=fun e=>h (by rw [e])
  simp [this]
 refine ai (fun k:Nat=>k≤xs.length∧xs.take k=ys.take k) (fun k=>⟨[(0, .d (sI xs)),(1, .d (sI ys)),(12,eN xs.length),(13,eN k)], []⟩) (fun k=>xs.length - k) 0 (by simp) ?_ ?_
 ·(refine ⟨cP ?_,fun _ _ h=>h⟩;simp [go_sem,simprocAttr])
 rintro k ⟨hk,hp⟩
 have Ct:xs.length=ys.length:=by omega
 repeat' (first|refine Rn.p ?_|(with_reducible apply And.intro)|((first|(refine hK _ ?_;clear hK K)|with_reducible intro K hK|refine Rs.p ?_|((with_reducible first|apply oP|apply oQ);exact rfl));try simp only [go_sem,simprocAttr])|((with_reducible refine oD ?_ ?_);kernel_rfl)|((with_reducible intro h);try simp only [go_sem,simprocAttr] at h)|omega|intro h)
 ·have:xs≠ys:=fun e=>h (by rw [e])
  simp [this]
 ·refine ⟨k+1,⟨by omega,CM 0 (by omega) (by omega) hp h⟩, ?_,by omega⟩
  (refine ⟨cP ?_,fun _ _ h=>h⟩;simp [go_sem,simprocAttr])
 ·have:k=xs.length:=by omega
  subst this
  rw [List.take_of_length_le (Nat.le_refl _),List.take_of_length_le (by omega)] at hp
  simp [hp]
def fR (g:Gr) (x:Int) (i:Int):It:=(i,x,(g.es.getD i.toNat (0,0)).2)
def aO (g:Gr) (x:Int) (outs:List Int):List It:=if outs= [] then [(-1,x, -1)] else outs.map (fR g x)
theorem tT {α β:Type} {f:α→β} {l:List α} {d:α} {k:Nat} (h:k<l.length):(l.take (k+1)).map f=(l.take k).map f++ [f (l.getD k d)]:=by
 rw [List.take_add_one,List.map_append,List.getElem?_eq_getElem h,List.getD_eq_getElem?_getD,List.getElem?_eq_getElem h]
 rfl
theorem AW (g:Gr) (f:Fr) (x:Int) (outs:List Int) (hl:outs.length≤1000000) (ho:∀i∈outs,0≤i∧i<g.es.length):Spec Tryz.prog 126 (Args [.d (fN g f),eN x, .d (sI outs)]) [] (.ref 10000) [(10000, .tip 100 3 ((aO g x outs).map rT))]:=by
 unfold fN
 by_cases h0:outs= []
 ·subst h0
  have hA:aO g x []= [(-1,x, -1)]:=if_pos rfl
  rw [hA]
  (refine Spec.s7 (C:=T.cfg [] []) (rs:= [.t 6]) [(10000,14)] (T.ah _ _) Tryz.func126 rfl rfl Tryz.ntmps126 Tryz.results126 (by simp [AObj.isNest]) (by simp [AObj.isNest]) (by first|(simp [look];done)|(simp [asN];done)|(intro l hl;simp only [asN];repeat (rw [if_neg (fun e=>by subst e;simp [look] at hl)]))) (by first|(simp [look];done)|(simp [asN];done)|(intro l hl;simp only [asN];repeat (rw [if_neg (fun e=>by subst e;simp [look] at hl)]))) (by kernel_rfl) T.mixed fun X hX hP hC aJ bQ=> ?_)
  repeat' (first|refine Rn.p ?_|(with_reducible apply And.intro)|((first|(refine hK _ ?_;clear hK K)|with_reducible intro K hK|refine Rs.p ?_|((with_reducible first|apply oP|apply oQ);exact rfl));try simp only [go_sem,simprocAttr,au])|((with_reducible refine oD ?_ ?_);kernel_rfl)|((with_reducible intro h);try simp only [go_sem,simprocAttr,au] at h)|omega|intro h)
 ·have hA:aO g x outs=outs.map (fR g x):=if_neg h0
  rw [hA]
  have hb0:decide ((outs.length:Int)=0)=false:=decide_eq_false fun h=>h0 (List.eq_nil_of_length_eq_zero (by omega))
  (refine Spec.s7 (C:=T.cfg [] []) (rs:= [.t 6]) [(10000,38)] (T.ah _ _) Tryz.func126 rfl rfl Tryz.ntmps126 Tryz.results126 (by simp [AObj.isNest]) (by simp [AObj.isNest]) (by first|(simp [look];done)|(simp [asN];done)|(intro l hl;simp only [asN];repeat (rw [if_neg (fun e=>by subst e;simp [look] at hl)]))) (by first|(simp [look];done)|(simp [asN];done)|(intro l hl;simp only [asN];repeat (rw [if_neg (fun e=>by subst e;simp [look] at hl)]))) (by kernel_rfl) T.mixed fun X hX hP hC aJ bQ=> ?_)
  repeat' (first|refine Rn.p ?_|(with_reducible apply And.intro)|((first|(refine hK _ ?_;clear hK K)|with_reducible intro K hK|refine Rs.p ?_|((with_reducible first|apply oP|apply oQ);exact rfl));try simp only [go_sem,simprocAttr,au,hb0])|((with_reducible refine oD ?_ ?_);kernel_rfl)|((with_reducible intro h);try simp only [go_sem,simprocAttr,au,hb0] at h)|omega|intro h)
  (refine dD hX 6 38 (.tip 100 3 []) (by simp only [go_sem,simprocAttr,au,hb0]) (by simp only [go_sem,simprocAttr,au,hb0]) (by decide) ⟨100,3,by decide, .inr rfl⟩ ?_;simp only [go_sem,simprocAttr,au,hb0])
  refine ai (fun k:Nat=>k≤outs.length) (fun k=>⟨[(0, .d (fN g f)),(1,eN x),(15, .d (sI outs)),(16,eN outs.length),(17,eN k),(6, .ref 38)], [(38, .tip 100 3 (((outs.take k).map (fR g x)).map rT))]⟩) (fun k=>outs.length - k) 0 (by omega) ?_ ?_
  ·refine Le.of ?_ ?_<;>simp [go_sem,simprocAttr,au,hb0,fN]
  unfold fN
  rintro k hk
  rcases Nat.lt_or_ge k outs.length with hlt|hge
  ·have hb:decide ((k:Int)<(outs.length:Int))=true:=decide_eq_true (by omega)
   have cn:=tT (f:=fR g x) (d:=0) hlt
   have MA:=ho _ (aL (d:=0) hlt)
   have hlk:(outs.take k).length=k:=by simp;omega
   repeat' (first|refine Rn.p ?_|(with_reducible apply And.intro)|((first|(refine hK _ ?_;clear hK K)|with_reducible intro K hK|refine Rs.p ?_|((with_reducible first|apply oP|apply oQ);exact rfl));try simp only [go_sem,simprocAttr,au,hb,hlk])|((with_reducible refine oD ?_ ?_);kernel_rfl)|((with_reducible intro h);try simp only [go_sem,simprocAttr,au,hb,hlk] at h)|omega|intro h)
   refine ⟨k+1,by omega, ?_,by omega⟩
   refine Le.of ?_ ?_<;>simp [go_sem,simprocAttr,au,hb,hlk,cn,fR]
  ·have hb:decide ((k:Int)<(outs.length:Int))=false:=decide_eq_false (by omega)
   obtain rfl:k=outs.length:=by omega
   have ht:outs.take outs.length=outs:=List.take_of_length_le (by omega)
   repeat' (first|refine Rn.p ?_|(with_reducible apply And.intro)|((first|(refine hK _ ?_;clear hK K)|with_reducible intro K hK|refine Rs.p ?_|((with_reducible first|apply oP|apply oQ);exact rfl));try simp only [go_sem,simprocAttr,au,hb,ht])|((with_reducible refine oD ?_ ?_);kernel_rfl)|((with_reducible intro h);try simp only [go_sem,simprocAttr,au,hb,ht] at h)|omega|intro h)
def ja (g:Gr) (f:Fr):List (Nat × AObj):= [(10000, .box [.d (sT f.row), .d (vw g), .ref 10001]),(10001, .tip 3 1 (f.pl.map rI))]
theorem xK (row items:List It) (a b:Nat) (h0:0<items.length) (hr:row.length≤400000) (hi:items.length≤100000):Spec Tryz.prog 174 (Args [.d (.sl 1 [[.sl 3 (List.take a (row.map rT))], [.sl 3 (items.map rT)], [.sl 3 (List.drop b (row.map rT))]])]) [] (.d (sT (row.take a++items++row.drop b))) []:=by
 have hf: [row.take a,items,row.drop b].flatten=row.take a++items++row.drop b:=by simp
 have hlen: [row.take a,items,row.drop b].flatten.length=min a row.length+items.length+(row.length - b):=by simp;omega
 have:=xJ [row.take a,items,row.drop b] (by simp) (by omega) (by omega)
 rw [hf] at this
 simpa only [vT,List.map_cons,List.map_nil,sT,List.map_take,List.map_drop] using this
theorem Db (g:Gr) (row items:List It) (pl:List Int) (a b:Nat) (hab:a≤b) (hb:b≤row.length) (h0:0<items.length) (hr:row.length≤400000) (hi:items.length≤100000):
 Spec Tryz.prog 125 (Args [.ptr 10000 0,eN a,eN b, .ref 10003]) (ja g ⟨row,pl⟩++ [(10003, .tip 100 3 (items.map rT))]) (.d (sT ((row.take b).drop a))) (ja g ⟨row.take a++items++row.drop b,pl⟩):=by
 have hcl:((row.take b).drop a).length≤1000000:=by simp;omega
 have Ae:List.take row.length (row.map rT)=row.map rT:=List.take_of_length_le (by simp)
 unfold ja
 simp only [List.cons_append,List.nil_append]
 (refine Spec.hd (C:=T.cfg [] []) (rs:= [.t 8]) (T.ah _ _) Tryz.func125 rfl rfl Tryz.ntmps125 Tryz.results125 (by simp [AObj.isNest]) (by simp [AObj.isNest]) (by kernel_rfl) T.mixed fun X hX hP hC aJ bQ=> ?_)
 repeat' (first|refine Rn.p ?_|(with_reducible apply And.intro)|((first|(refine hK _ ?_;clear hK K)|with_reducible intro K hK|refine Rs.p ?_|((with_reducible first|apply oP|apply oQ);exact rfl)|(refine ak hX hC hP [(10000,17)] (qA ((row.take b).drop a) hcl) rfl rfl rfl ?_ ?_ ?_ ?_ ?_ ?_ ?_ ?_ ?_ ?_ ?_ ?_ ?_ ?_;(focus (simp only [go_sem,simprocAttr,List.map_take,List.map_drop,Ae];done));(iterate 12 (focus (simp [go_sem,simprocAttr,List.map_take,List.map_drop,Ae];done)));try simp only [List.map_cons,List.map_nil])|(refine cz hX hC hP (xK row items a b h0 hr hi) rfl rfl rfl ?_ ?_ rfl ?_;iterate 2 (focus (simp only [go_sem,simprocAttr,List.map_take,List.map_drop,Ae];done))));try simp only [go_sem,simprocAttr,List.map_take,List.map_drop,Ae])|((with_reducible refine oD ?_ ?_);kernel_rfl)|((with_reducible intro h);try simp only [go_sem,simprocAttr,List.map_take,List.map_drop,Ae] at h)|omega|intro h)
end Go.Ab
end
section
namespace Go.Ab
open Go.Proofs
attribute [local congr] ACall.congr gd.congr Nx.congr
set_option maxRecDepth 10000
set_option maxHeartbeats 4000000
def pq (g:Gr) (f:Fr):List (Nat × AObj):= [(10000, .box [.d (sT f.row), .d (vw g), .ref 10002]),(10002, .tip 3 1 (f.pl.map rI))]
def jw (g:Gr) (f:Fr) (x:Int) (outs:List Int):(List It × Int) × Fr:=
 if eL g f x=false then (([],3),f) else if gP outs≠bq (·.1) g x then (([],1),f) else
 (((f.row.take (bn f.row x).2.1.toNat).drop (max (bn f.row x).1 0).toNat,0),⟨f.row.take (max (bn f.row x).1 0).toNat++aO g x outs++f.row.drop (bn f.row x).2.1.toNat,f.pl++ [x]⟩)
theorem iz {f:Edge→Int} {es:List Edge} {k:Nat} {x i:Int} (h:i∈aK f es k x):(0≤i∧i<k)∧f (es.getD i.toNat (0,0))=x:=by
 simp only [aK,List.mem_map,List.mem_filter,List.mem_range,decide_eq_true_eq] at h
 obtain ⟨j,⟨h1,h2⟩,rfl⟩:=h
 exact ⟨⟨Int.natCast_nonneg j,by simp;omega⟩,h2⟩
theorem AX {f:Edge→Int} {g:Gr} {x i:Int} (h:i∈bq f g x):(0≤i∧i<g.es.length)∧f (g.es.getD i.toNat (0,0))=x:=by
 unfold bq at h
 split at h
 ·exact iz h
 ·cases h
theorem y9 {l:List Int} {x:Int} :x∈gP l↔x∈l:=by simp [gP]
theorem vE (row:List It) (x:Int):∃a b:Nat,max (bn row x).1 0=(a:Int)∧(bn row x).2.1=(b:Int)∧a≤b∧b≤row.length:=by
 rcases eu (row:=row) (x:=x) row.length with ⟨h,_⟩|⟨a,b,c,h,h1,h2,_⟩
 ·exact ⟨0,0,by unfold bn;rw [h];rfl,by unfold bn;rw [h];rfl,by omega,by omega⟩
 ·exact ⟨a,b,by unfold bn;rw [h];simp only;omega,by unfold bn;rw [h],by omega,by omega⟩
theorem nG {g:Gr} {x:Int} {outs:List Int} :0<(aO g x outs).length∧(aO g x outs).length≤outs.length+1:=by
 unfold aO
 split
 ·simp
 ·rename_i h
  have:=List.length_pos_iff.2 h
  simp;omega
theorem AY (g:Gr) (hm:aH g=true) (f:Fr) (x:Int) (outs:List Int) (hr:f.row.length≤300000) (hp:f.pl.length≤100000) (ho:outs.length≤17592186043904):
 Spec Tryz.prog 83 (Args [.ptr 10000 0,eN x, .d (sI outs)]) (ja g f) (.tup [.d (sT (jw g f x outs).1.1),eN (jw g f x outs).1.2]) (pq g (jw g f x outs).2):=by
 have nQ:f.row.length≤1000000:=by omega
 have hp1:f.pl.length≤1000000:=by omega
 have hs:(gP outs).length≤9223372036854775807:=by rw [eH];omega
 have hn:=aB hm
 cases hR:eL g f x with
 |false=>
  have hP:jw g f x outs=(([],3),f):=if_pos hR
  rw [hP]
  unfold ja pq
  (refine Spec.s7 (C:=T.cfg [] []) (rs:= [.t 6, .t 7]) [(10002,10001)] (T.ah _ _) Tryz.func83 rfl rfl Tryz.ntmps83 Tryz.results83 (by simp [AObj.isNest]) (by simp [AObj.isNest]) (by first|(simp [look];done)|(simp [asN];done)|(intro l hl;simp only [asN];repeat (rw [if_neg (fun e=>by subst e;simp [look] at hl)]))) (by first|(simp [look];done)|(simp [asN];done)|(intro l hl;simp only [asN];repeat (rw [if_neg (fun e=>by subst e;simp [look] at hl)]))) (by kernel_rfl) T.mixed fun X hX hP hC aJ bQ=> ?_)
  repeat' (first|refine Rn.p ?_|(with_reducible apply And.intro)|((first|(refine hK _ ?_;clear hK K)|with_reducible intro K hK|refine Rs.p ?_|((with_reducible first|apply oP|apply oQ);exact rfl)|(refine ag hX hC hP (gj g hm f x nQ hp1) rfl rfl rfl ?_ ?_ ?_ ?_;iterate 3 (focus (simp only [go_sem,simprocAttr,hR,fN];done)))|(refine ak hX hC hP [(10000,16)] (cr outs) rfl rfl rfl ?_ ?_ ?_ ?_ ?_ ?_ ?_ ?_ ?_ ?_ ?_ ?_ ?_ ?_;(focus (simp only [go_sem,simprocAttr,hR,fN];done));(iterate 12 (focus (simp [go_sem,simprocAttr,hR,fN];done)));try simp only [List.map_cons,List.map_nil])|(refine bt hX hC hP [(10000,16)] (bW outs ho) rfl rfl rfl ?_ ?_ ?_ ?_ ?_ ?_ rfl rfl ?_ ?_;(focus (simp only [go_sem,simprocAttr,hR,fN];done));(iterate 6 (focus (simp [go_sem,simprocAttr,hR,fN];done)));try simp only [List.map_cons,List.map_nil])|refine aa hX hC hP (iy g hm x) rfl rfl rfl (by simp only [go_sem,simprocAttr,hR,fN]) rfl ?_|refine aa hX hC hP (fk (gP outs) (bq (·.1) g x) hs) rfl rfl rfl (by simp only [go_sem,simprocAttr,hR,fN]) rfl ?_|(refine ag hX hC hP (dW [vw g,sI f.pl] f.row x nQ) rfl rfl rfl ?_ ?_ ?_ ?_;iterate 3 (focus (simp only [go_sem,simprocAttr,hR,fN];done))));try simp only [go_sem,simprocAttr,hR,fN])|((with_reducible refine oD ?_ ?_);kernel_rfl)|((with_reducible intro h);try simp only [go_sem,simprocAttr,hR,fN] at h)|omega|intro h)
 |true=>
 have MH:¬eL g f x=false:=by rw [hR];simp
 by_cases hE:¬gP outs=bq (·.1) g x
 ·have hb1:decide (gP outs=bq (·.1) g x)=false:=decide_eq_false hE
  have hP:jw g f x outs=(([],1),f):=by unfold jw;rw [if_neg MH,if_pos hE]
  rw [hP]
  unfold ja pq
  (refine Spec.s7 (C:=T.cfg [] []) (rs:= [.t 6, .t 7]) [(10002,10001)] (T.ah _ _) Tryz.func83 rfl rfl Tryz.ntmps83 Tryz.results83 (by simp [AObj.isNest]) (by simp [AObj.isNest]) (by first|(simp [look];done)|(simp [asN];done)|(intro l hl;simp only [asN];repeat (rw [if_neg (fun e=>by subst e;simp [look] at hl)]))) (by first|(simp [look];done)|(simp [asN];done)|(intro l hl;simp only [asN];repeat (rw [if_neg (fun e=>by subst e;simp [look] at hl)]))) (by kernel_rfl) T.mixed fun X hX hP hC aJ bQ=> ?_)
  repeat' (first|refine Rn.p ?_|(with_reducible apply And.intro)|((first|(refine hK _ ?_;clear hK K)|with_reducible intro K hK|refine Rs.p ?_|((with_reducible first|apply oP|apply oQ);exact rfl)|(refine ag hX hC hP (gj g hm f x nQ hp1) rfl rfl rfl ?_ ?_ ?_ ?_;iterate 3 (focus (simp only [go_sem,simprocAttr,hR,hb1,fN];done)))|(refine ak hX hC hP [(10000,16)] (cr outs) rfl rfl rfl ?_ ?_ ?_ ?_ ?_ ?_ ?_ ?_ ?_ ?_ ?_ ?_ ?_ ?_;(focus (simp only [go_sem,simprocAttr,hR,hb1,fN];done));(iterate 12 (focus (simp [go_sem,simprocAttr,hR,hb1,fN];done)));try simp only [List.map_cons,List.map_nil])|(refine bt hX hC hP [(10000,16)] (bW outs ho) rfl rfl rfl ?_ ?_ ?_ ?_ ?_ ?_ rfl rfl ?_ ?_;(focus (simp only [go_sem,simprocAttr,hR,hb1,fN];done));(iterate 6 (focus (simp [go_sem,simprocAttr,hR,hb1,fN];done)));try simp only [List.map_cons,List.map_nil])|refine aa hX hC hP (iy g hm x) rfl rfl rfl (by simp only [go_sem,simprocAttr,hR,hb1,fN]) rfl ?_|refine aa hX hC hP (fk (gP outs) (bq (·.1) g x) hs) rfl rfl rfl (by simp only [go_sem,simprocAttr,hR,hb1,fN]) rfl ?_|(refine ag hX hC hP (dW [vw g,sI f.pl] f.row x nQ) rfl rfl rfl ?_ ?_ ?_ ?_;iterate 3 (focus (simp only [go_sem,simprocAttr,hR,hb1,fN];done))));try simp only [go_sem,simprocAttr,hR,hb1,fN])|((with_reducible refine oD ?_ ?_);kernel_rfl)|((with_reducible intro h);try simp only [go_sem,simprocAttr,hR,hb1,fN] at h)|omega|intro h)
 rw [Decidable.not_not] at hE
 have hb1:decide (gP outs=bq (·.1) g x)=true:=decide_eq_true hE
 have hP:jw g f x outs=(((f.row.take (bn f.row x).2.1.toNat).drop (max (bn f.row x).1 0).toNat,0),⟨f.row.take (max (bn f.row x).1 0).toNat++aO g x outs++f.row.drop (bn f.row x).2.1.toNat,f.pl++ [x]⟩):=by
  unfold jw;rw [if_neg MH,if_neg (by rw [hE];simp)]
 rw [hP]
 obtain ⟨a,b,ha,hb,hab,qZ⟩:=vE f.row x
 rw [ha,hb]
 simp only [Int.toNat_natCast]
 have q9:outs.length≤128:=by
  have h1:=congrArg List.length hE
  rw [eH] at h1
  have h2:=AU (f:=(·.1)) (g:=g) (x:=x)
  omega
 have Jv:∀i∈outs,0≤i∧i<g.es.length:=fun i hi=>(AX (f:=(·.1)) (g:=g) (x:=x) (by rw [← hE];exact y9.2 hi)).1
 obtain ⟨h0,h1⟩:=nG (g:=g) (x:=x) (outs:=outs)
 have xx:(aO g x outs).length≤100000:=by omega
 have uU:f.row.length≤400000:=by omega
 have Oi:outs.length≤1000000:=by omega
 unfold ja pq
 (refine Spec.s7 (C:=T.cfg [] []) (rs:= [.t 6, .t 7]) [(10002,42)] (T.ah _ _) Tryz.func83 rfl rfl Tryz.ntmps83 Tryz.results83 (by simp [AObj.isNest]) (by simp [AObj.isNest]) (by first|(simp [look];done)|(simp [asN];done)|(intro l hl;simp only [asN];repeat (rw [if_neg (fun e=>by subst e;simp [look] at hl)]))) (by first|(simp [look];done)|(simp [asN];done)|(intro l hl;simp only [asN];repeat (rw [if_neg (fun e=>by subst e;simp [look] at hl)]))) (by kernel_rfl) T.mixed fun X hX hP hC aJ bQ=> ?_)
 repeat' (first|refine Rn.p ?_|(with_reducible apply And.intro)|((first|(refine hK _ ?_;clear hK K)|with_reducible intro K hK|refine Rs.p ?_|((with_reducible first|apply oP|apply oQ);exact rfl)|(refine ag hX hC hP (gj g hm f x nQ hp1) rfl rfl rfl ?_ ?_ ?_ ?_;iterate 3 (focus (simp only [go_sem,simprocAttr,hR,hb1,ha,hb,fN,List.length_map,List.map_append,List.map_cons,List.map_nil,rI,ja,List.cons_append,List.nil_append,List.map_take,List.map_drop];done)))|(refine ak hX hC hP [(10000,16)] (cr outs) rfl rfl rfl ?_ ?_ ?_ ?_ ?_ ?_ ?_ ?_ ?_ ?_ ?_ ?_ ?_ ?_;(focus (simp only [go_sem,simprocAttr,hR,hb1,ha,hb,fN,List.length_map,List.map_append,List.map_cons,List.map_nil,rI,ja,List.cons_append,List.nil_append,List.map_take,List.map_drop];done));(iterate 12 (focus (simp [go_sem,simprocAttr,hR,hb1,ha,hb,fN,List.length_map,List.map_append,List.map_cons,List.map_nil,rI,ja,List.cons_append,List.nil_append,List.map_take,List.map_drop];done)));try simp only [List.map_cons,List.map_nil])|(refine bt hX hC hP [(10000,16)] (bW outs ho) rfl rfl rfl ?_ ?_ ?_ ?_ ?_ ?_ rfl rfl ?_ ?_;(focus (simp only [go_sem,simprocAttr,hR,hb1,ha,hb,fN,List.length_map,List.map_append,List.map_cons,List.map_nil,rI,ja,List.cons_append,List.nil_append,List.map_take,List.map_drop];done));(iterate 6 (focus (simp [go_sem,simprocAttr,hR,hb1,ha,hb,fN,List.length_map,List.map_append,List.map_cons,List.map_nil,rI,ja,List.cons_append,List.nil_append,List.map_take,List.map_drop];done)));try simp only [List.map_cons,List.map_nil])|refine aa hX hC hP (iy g hm x) rfl rfl rfl (by simp only [go_sem,simprocAttr,hR,hb1,ha,hb,fN,List.length_map,List.map_append,List.map_cons,List.map_nil,rI,ja,List.cons_append,List.nil_append,List.map_take,List.map_drop]) rfl ?_|refine aa hX hC hP (fk (gP outs) (bq (·.1) g x) hs) rfl rfl rfl (by simp only [go_sem,simprocAttr,hR,hb1,ha,hb,fN,List.length_map,List.map_append,List.map_cons,List.map_nil,rI,ja,List.cons_append,List.nil_append,List.map_take,List.map_drop]) rfl ?_|(refine ag hX hC hP (dW [vw g,sI f.pl] f.row x nQ) rfl rfl rfl ?_ ?_ ?_ ?_;iterate 3 (focus (simp only [go_sem,simprocAttr,hR,hb1,ha,hb,fN,List.length_map,List.map_append,List.map_cons,List.map_nil,rI,ja,List.cons_append,List.nil_append,List.map_take,List.map_drop];done)))|(refine lD hX hC hP 54 (AW g ⟨f.row,f.pl++ [x]⟩ x outs Oi Jv) rfl rfl rfl ?_ ?_ (by first|exact ⟨_,_,_,rfl,oy⟩|exact ⟨_,_,_,rfl,oz⟩|exact ⟨_,_,_,rfl,oJ⟩) rfl (by decide) ?_;(iterate 2 (focus (simp only [go_sem,simprocAttr,hR,hb1,ha,hb,fN,List.length_map,List.map_append,List.map_cons,List.map_nil,rI,ja,List.cons_append,List.nil_append,List.map_take,List.map_drop];done)));simp only [go_sem,simprocAttr,hR,hb1,ha,hb,fN,List.length_map,List.map_append,List.map_cons,List.map_nil,rI,ja,List.cons_append,List.nil_append,List.map_take,List.map_drop])|(refine ak hX hC hP [(10001,42),(10003,54)] (Db g f.row (aO g x outs) (f.pl++ [x]) a b hab qZ h0 uU xx) rfl rfl rfl ?_ ?_ ?_ ?_ ?_ ?_ ?_ ?_ ?_ ?_ ?_ ?_ ?_ ?_;(focus (simp only [go_sem,simprocAttr,hR,hb1,ha,hb,fN,List.length_map,List.map_append,List.map_cons,List.map_nil,rI,ja,List.cons_append,List.nil_append,List.map_take,List.map_drop];done));(iterate 12 (focus (simp [go_sem,simprocAttr,hR,hb1,ha,hb,fN,List.length_map,List.map_append,List.map_cons,List.map_nil,rI,ja,List.cons_append,List.nil_append,List.map_take,List.map_drop];done)));try simp only [List.map_cons,List.map_nil]));try simp only [go_sem,simprocAttr,hR,hb1,ha,hb,fN,List.length_map,List.map_append,List.map_cons,List.map_nil,rI,ja,List.cons_append,List.nil_append,List.map_take,List.map_drop])|((with_reducible refine oD ?_ ?_);kernel_rfl)|((with_reducible intro h);try simp only [go_sem,simprocAttr,hR,hb1,ha,hb,fN,List.length_map,List.map_append,List.map_cons,List.map_nil,rI,ja,List.cons_append,List.nil_append,List.map_take,List.map_drop] at h)|omega|intro h)
end Go.Ab
end
section
namespace Go.Ab
open Go.Proofs
attribute [local congr] ACall.congr gd.congr Nx.congr
set_option maxRecDepth 10000
set_option maxHeartbeats 4000000
def kK (g:Gr) (f:Fr) (k:Nat):List Int:=((List.range k).filter fun x:Nat=>eL g f (x:Int)).map Int.ofNat
def eM (g:Gr) (f:Fr):List Int:=kK g f g.n.toNat
theorem za {g:Gr} {f:Fr} {k:Nat} :kK g f (k+1)=kK g f k++if eL g f (k:Int)=true then [(k:Int)] else []:=by
 simp only [kK,List.range_succ,List.filter_append,List.map_append,List.filter_cons,List.filter_nil]
 split<;>simp_all
theorem tU {g:Gr} {f:Fr} {k:Nat} :(kK g f k).length≤k:=by
 simpa [kK] using List.length_filter_le (fun x:Nat=>eL g f (x:Int)) (List.range k)
theorem zf (g:Gr) (hm:aH g=true) (f:Fr) (hr:f.row.length≤1000000) (hp:f.pl.length≤1000000):Spec Tryz.prog 113 (Args [.d (fN g f)]) [] (.ref 10000) [(10000, .tip 3 1 ((eM g f).map rI))]:=by
 have hn:=aB hm
 unfold fN
 (refine Spec.s7 (C:=T.cfg [] []) (rs:= [.t 2]) [(10000,21)] (T.ah _ _) Tryz.func113 rfl rfl Tryz.ntmps113 Tryz.results113 (by simp [AObj.isNest]) (by simp [AObj.isNest]) (by first|(simp [look];done)|(simp [asN];done)|(intro l hl;simp only [asN];repeat (rw [if_neg (fun e=>by subst e;simp [look] at hl)]))) (by first|(simp [look];done)|(simp [asN];done)|(intro l hl;simp only [asN];repeat (rw [if_neg (fun e=>by subst e;simp [look] at hl)]))) (by kernel_rfl) T.mixed fun X hX hP hC aJ bQ=> ?_)
 repeat' (first|refine Rn.p ?_|(with_reducible apply And.intro)|((first|(refine hK _ ?_;clear hK K)|with_reducible intro K hK|refine Rs.p ?_|((with_reducible first|apply oP|apply oQ);exact rfl)|refine aa hX hC hP (gj g hm f (k:Int) hr hp) rfl rfl rfl (by simp only [go_sem,simprocAttr,au]) rfl ?_);try simp only [go_sem,simprocAttr,au])|((with_reducible refine oD ?_ ?_);kernel_rfl)|((with_reducible intro h);try simp only [go_sem,simprocAttr,au] at h)|omega|intro h)
 (refine dD hX 2 21 (.tip 3 1 []) (by simp only [go_sem,simprocAttr,au]) (by simp only [go_sem,simprocAttr,au]) (by decide) ⟨3,1,by decide, .inr rfl⟩ ?_;simp only [go_sem,simprocAttr,au])
 refine ai (fun k:Nat=>k≤g.n.toNat) (fun k=>⟨[(0, .d (fN g f)),(11,eN g.n),(12,eN k),(2, .ref 21)], [(21, .tip 3 1 ((kK g f k).map rI))]⟩) (fun k=>g.n.toNat - k) 0 (by omega) ?_ ?_
 ·refine Le.of ?_ ?_<;>simp [go_sem,simprocAttr,au,fN,kK]
 rintro k hk
 rcases Nat.lt_or_ge k g.n.toNat with hlt|hge
 ·have hb:decide ((k:Int)<g.n)=true:=decide_eq_true (by omega)
  have cn:=za (g:=g) (f:=f) (k:=k)
  have hlk:=tU (g:=g) (f:=f) (k:=k)
  repeat' (first|refine Rn.p ?_|(with_reducible apply And.intro)|((first|(refine hK _ ?_;clear hK K)|with_reducible intro K hK|refine Rs.p ?_|((with_reducible first|apply oP|apply oQ);exact rfl)|refine aa hX hC hP (gj g hm f (k:Int) hr hp) rfl rfl rfl (by simp only [go_sem,simprocAttr,hb]) rfl ?_);try simp only [go_sem,simprocAttr,hb])|((with_reducible refine oD ?_ ?_);kernel_rfl)|((with_reducible intro h);try simp only [go_sem,simprocAttr,hb] at h)|omega|intro h)
  ·rw [if_pos (by assumption)] at cn
   refine ⟨k+1,by omega, ?_,by omega⟩
   refine Le.of ?_ ?_<;>simp [go_sem,simprocAttr,hb,cn,rI]
  ·rw [if_neg (by simp [*]),List.append_nil] at cn
   refine ⟨k+1,by omega, ?_,by omega⟩
   refine Le.of ?_ ?_<;>simp [go_sem,simprocAttr,hb,cn,rI]
 ·have hb:decide ((k:Int)<g.n)=false:=decide_eq_false (by omega)
  obtain rfl:k=g.n.toNat:=by omega
  repeat' (first|refine Rn.p ?_|(with_reducible apply And.intro)|((first|(refine hK _ ?_;clear hK K)|with_reducible intro K hK|refine Rs.p ?_|((with_reducible first|apply oP|apply oQ);exact rfl)|refine aa hX hC hP (gj g hm f (k:Int) hr hp) rfl rfl rfl (by simp only [go_sem,simprocAttr,hb,eM]) rfl ?_);try simp only [go_sem,simprocAttr,hb,eM])|((with_reducible refine oD ?_ ?_);kernel_rfl)|((with_reducible intro h);try simp only [go_sem,simprocAttr,hb,eM] at h)|omega|intro h)
theorem pS (g:Gr) (hl:g.es.length≤1000) (h0:(bN g).1=0) (hm:aH g=true):Spec Tryz.prog 81 (Args [eG g]) [] (.tup [.ptr 10000 0,eN 0]) [(10000, .box [.nil 100, .d (vw g), .nil 3])]:=by
 (refine Spec.s7 (C:=T.cfg [] []) (rs:= [.t 2, .t 3]) [(10000,11)] (T.ah _ _) Tryz.func81 rfl rfl Tryz.ntmps81 Tryz.results81 (by simp [AObj.isNest]) (by simp [AObj.isNest]) (by first|(simp [look];done)|(simp [asN];done)|(intro l hl;simp only [asN];repeat (rw [if_neg (fun e=>by subst e;simp [look] at hl)]))) (by first|(simp [look];done)|(simp [asN];done)|(intro l hl;simp only [asN];repeat (rw [if_neg (fun e=>by subst e;simp [look] at hl)]))) (by kernel_rfl) T.mixed fun X hX hP hC aJ bQ=> ?_)
 repeat' (first|refine Rn.p ?_|(with_reducible apply And.intro)|((first|(refine hK _ ?_;clear hK K)|with_reducible intro K hK|refine Rs.p ?_|((with_reducible first|apply oP|apply oQ);exact rfl)|refine aa hX hC hP (kG g hl) rfl rfl rfl (by simp only [go_sem,simprocAttr,h0]) rfl ?_|refine aa hX hC hP (gS g hm) rfl rfl rfl (by simp only [go_sem,simprocAttr,h0]) rfl ?_);try simp only [go_sem,simprocAttr,h0])|((with_reducible refine oD ?_ ?_);kernel_rfl)|((with_reducible intro h);try simp only [go_sem,simprocAttr,h0] at h)|omega|intro h)
theorem Dc (g:Gr) (hl:g.es.length≤1000) (h0:(bN g).1≠0):Spec Tryz.prog 81 (Args [eG g]) [] (.tup [.d (.sc (.pointer none)),eN 1]) []:=by
 have hb:decide ((bN g).1=0)=false:=decide_eq_false h0
 (refine Spec.hd (C:=T.cfg [] []) (rs:= [.t 2, .t 3]) (T.ah _ _) Tryz.func81 rfl rfl Tryz.ntmps81 Tryz.results81 (by simp [AObj.isNest]) (by simp [AObj.isNest]) (by kernel_rfl) T.mixed fun X hX hP hC aJ bQ=> ?_)
 repeat' (first|refine Rn.p ?_|(with_reducible apply And.intro)|((first|(refine hK _ ?_;clear hK K)|with_reducible intro K hK|refine Rs.p ?_|((with_reducible first|apply oP|apply oQ);exact rfl)|refine aa hX hC hP (kG g hl) rfl rfl rfl (by simp only [go_sem,simprocAttr,hb]) rfl ?_);try simp only [go_sem,simprocAttr,hb])|((with_reducible refine oD ?_ ?_);kernel_rfl)|((with_reducible intro h);try simp only [go_sem,simprocAttr,hb] at h)|omega|intro h)
end Go.Ab
end
section
namespace Go.Ab
open Go.Proofs
attribute [local congr] ACall.congr gd.congr Nx.congr
set_option maxRecDepth 10000
set_option maxHeartbeats 4000000
def Rb (g:Gr) (f:Fr):List AV:= [eN g.n, .d (sE g.es), .d (sT f.row), .d (sI f.pl)]
def gV (row:List It) (x:Int):Nat→Int
 |0=>0
 |k+1=>if (row.getD k (0,0,0)).2.2=x then gV row x k+1 else gV row x k
theorem gl {row:List It} {x:Int} {k:Nat} :gV row x (k+1)=if (row.getD k (0,0,0)).2.2=x then gV row x k+1 else gV row x k:=rfl
def Ft (row:List It) (x:Int) (need:Nat) (j:Nat):Bool:=decide ((row.getD j (0,0,0)).2.2≠x)&&decide (0≤(row.getD j (0,0,0)).1)&&decide (0<gV row x j)&&decide (gV row x j<need)
theorem vF {row:List It} {x:Int} {need j:Nat} :Ft row x need j=true↔((row.getD j (0,0,0)).2.2≠x∧0≤(row.getD j (0,0,0)).1)∧0<gV row x j∧gV row x j<need:=by
 simp only [Ft,Bool.and_eq_true,decide_eq_true_eq,and_assoc]
def bf (g:Gr) (x:Int):Nat:=(aK (·.2) g.es g.es.length x).length
def az (g:Gr) (f:Fr) (x:Int):Bool:=
 if x<0∨g.n≤x∨x∈f.pl then false else if bf g x=0 then true else
 !(List.range f.row.length).any (Ft f.row x (bf g x))&&decide (gV f.row x f.row.length=bf g x)
end Go.Ab
end
section
namespace Go.Ab
open Go.Proofs
attribute [local congr] ACall.congr gd.congr Nx.congr
set_option maxRecDepth 10000
set_option maxHeartbeats 4000000
end Go.Ab
end
section
namespace Go.Ab
open Go.Proofs
attribute [local congr] ACall.congr gd.congr Nx.congr
set_option maxRecDepth 10000
set_option maxHeartbeats 8000000
def cm (g:Gr) (x:Int):List Int:=aK (·.1) g.es g.es.length x
def aC (g:Gr) (f:Fr) (x:Int) (outs:List Int):(List It × Int) × Fr:=
 (((f.row.take (bn f.row x).2.1.toNat).drop (max (bn f.row x).1 0).toNat,0),⟨f.row.take (max (bn f.row x).1 0).toNat++aO g x outs++f.row.drop (bn f.row x).2.1.toNat,f.pl++ [x]⟩)
def fF (g:Gr) (f:Fr) (x:Int) (outs:List Int):(List It × Int) × Fr:=
 if az g f x=false then (([],3),f) else
 if outs.length≠(cm g x).length∨∃i∈cm g x,i∉outs then (([],1),f) else aC g f x outs
theorem dQ {f:Edge→Int} {es:List Edge} {k:Nat} {x:Int} :(aK f es k x).Nodup:=by
 unfold aK
 exact List.Pairwise.map _ (fun a b h e=>h (Int.ofNat.inj e)) (List.Pairwise.filter _ List.nodup_range)
theorem AZ:∀ {ms os:List Int},ms.Nodup→(∀i∈ms,i∈os)→os.length=ms.length→∀i∈os,i∈ms
 | [],os,_,_,hl,i,hi=>by
   have:os= []:=List.eq_nil_of_length_eq_zero (by simpa using hl)
   rw [this] at hi;exact hi
 |m::ms,os,hn,hs,hl,i,hi=>by
  rw [List.nodup_cons] at hn
  have hm:=hs m (List.mem_cons_self ..)
  by_cases h:i=m
  ·rw [h];exact List.mem_cons_self ..
  ·refine List.mem_cons_of_mem _ (AZ hn.2 (os:=os.erase m) (fun j hj=> ?_) ?_ i ?_)
   ·have:j≠m:=fun e=>hn.1 (e ▸ hj)
    exact (List.mem_erase_of_ne this).2 (hs j (List.mem_cons_of_mem _ hj))
   ·rw [List.length_erase_of_mem hm,hl];simp
   ·exact (List.mem_erase_of_ne h).2 hi
theorem Fu {g:Gr} {x:Int} :(cm g x).length≤g.es.length:=iw
end Go.Ab
end
section
namespace Go.Ab
open Go.Proofs
attribute [local congr] ACall.congr gd.congr Nx.congr
set_option maxRecDepth 10000
set_option maxHeartbeats 4000000
def vI (ls:List (List Int)):List (List D):=ls.map fun l=> [sI l]
theorem vI_length {ls:List (List Int)} :(vI ls).length=ls.length:=by simp [vI]
theorem fG {ls:List (List Int)} {k:Nat} (h:k<ls.length) (d:List D):(vI ls).getD k d= [sI (ls.getD k [])]:=by
 simp [vI,List.getD_eq_getElem?_getD,List.getElem?_eq_getElem h]
attribute [go_sem] vI_length
def BR (l:List Int) (i:Nat):List Int:=l.take i++l.drop (i+1)
def Ht:Nat→List Int→List (List Int)
 |0,_=> [[]]
 |n+1,l=>(List.range l.length).flatMap fun i=>(Ht n (BR l i)).map fun t=>l.getD i 0::t
def Rc (n:Nat) (l:List Int) (k:Nat):List (List Int):=(List.range k).flatMap fun i=>(Ht n (BR l i)).map fun t=>l.getD i 0::t
def Re:Nat→Nat
 |0=>1
 |n+1=>(n+1)*Re n
end Go.Ab
end
section
namespace Go.Ab
open Go.Proofs
attribute [local congr] ACall.congr gd.congr Nx.congr
set_option maxRecDepth 10000
set_option maxHeartbeats 8000000
def LF (g:Gr):Nat→Fr→Bool
 |0,f=>decide ((f.pl.length:Int)=g.n)
 |m+1,f=>decide ((f.pl.length:Int)=g.n)||(List.range g.n.toNat).any fun x=>az g f (x:Int)&&(Ht (cm g (x:Int)).length (cm g (x:Int))).any fun o=>LF g m (aC g f (x:Int) o).2
def Rg (g:Gr) (m:Nat) (f:Fr) (x:Nat):Bool:=az g f (x:Int)&&(Ht (cm g (x:Int)).length (cm g (x:Int))).any fun o=>LF g m (aC g f (x:Int) o).2
theorem vG {g:Gr} {f:Fr} {x:Int} {o:List Int} :(aC g f x o).2.row.length≤f.row.length+o.length+1∧(aC g f x o).2.pl.length=f.pl.length+1:=by
 obtain ⟨a,b,ha,hb,hab,qZ⟩:=vE f.row x
 have:=nG (g:=g) (x:=x) (outs:=o)
 have e:aC g f x o=(((f.row.take b).drop a,0),⟨f.row.take a++aO g x o++f.row.drop b,f.pl++ [x]⟩):=by
  simp only [aC,ha,hb,Int.toNat_natCast]
 rw [e]
 refine ⟨?_,by simp⟩
 show (f.row.take a++aO g x o++f.row.drop b).length≤_
 rw [List.length_append,List.length_append,List.length_take,List.length_drop]
 omega
end Go.Ab
end
section
namespace Go.Ab
open Go.Proofs
attribute [local congr] ACall.congr gd.congr Nx.congr
set_option maxRecDepth 10000
set_option maxHeartbeats 4000000
theorem tV (g:Gr) (hl:g.es.length≤9223372036854775807) (hm:aH g=false):Spec Tryz.prog 104 (Args [eG g]) [] (.tup [eN (fQ g).1,eN (fQ g).2.1, .d (sI (fQ g).2.2)]) []:=by
 (refine Spec.hd (C:=T.cfg [] []) (rs:= [.t 2, .t 3, .t 4]) (T.ah _ _) Tryz.func104 rfl rfl Tryz.ntmps104 Tryz.results104 (by simp [AObj.isNest]) (by simp [AObj.isNest]) (by kernel_rfl) T.mixed fun X hX hP hC aJ bQ=> ?_)
 repeat' (first|refine Rn.p ?_|(with_reducible apply And.intro)|((first|(refine hK _ ?_;clear hK K)|with_reducible intro K hK|refine Rs.p ?_|((with_reducible first|apply oP|apply oQ);exact rfl)|refine aa hX hC hP (cR g hl) rfl rfl rfl (by simp only [go_sem,simprocAttr,hm]) rfl ?_);try simp only [go_sem,simprocAttr,hm])|((with_reducible refine oD ?_ ?_);kernel_rfl)|((with_reducible intro h);try simp only [go_sem,simprocAttr,hm] at h)|omega|intro h)
 all_goals simp [fQ,fe,hm]
theorem tW (g:Gr) (hl:g.es.length≤9223372036854775807):Spec Tryz.prog 104 (Args [eG g]) [] (.tup [eN (fQ g).1,eN (fQ g).2.1, .d (sI (fQ g).2.2)]) []:=by
 cases hm:aH g with
 |false=>exact tV g hl hm
 |true=>exact u7 g (by have:=aB hm;omega)
theorem mR (g:Gr) (hl:g.es.length≤9223372036854775807):Spec Tryz.prog 52 (Args [eG g]) [] (eB (decide ((bN g).1=0))) []:=by
 rw [Ju]
 (refine Spec.hd (C:=T.cfg [] []) (rs:= [.t 2]) (T.ah _ _) Tryz.func52 rfl rfl Tryz.ntmps52 Tryz.results52 (by simp [AObj.isNest]) (by simp [AObj.isNest]) (by kernel_rfl) T.mixed fun X hX hP hC aJ bQ=> ?_)
 repeat' (first|refine Rn.p ?_|(with_reducible apply And.intro)|((first|(refine hK _ ?_;clear hK K)|with_reducible intro K hK|refine Rs.p ?_|((with_reducible first|apply oP|apply oQ);exact rfl)|refine aa hX hC hP (tW g hl) rfl rfl rfl (by simp only [go_sem,simprocAttr]) rfl ?_);try simp only [go_sem,simprocAttr])|((with_reducible refine oD ?_ ?_);kernel_rfl)|((with_reducible intro h);try simp only [go_sem,simprocAttr] at h)|omega|intro h)
end Go.Ab
end
section
namespace Go.Ab
open Go.Proofs
attribute [local congr] ACall.congr gd.congr Nx.congr
set_option maxRecDepth 10000
set_option maxHeartbeats 4000000
def g9:Gr:=⟨3, [(0,1),(0,2),(1,2)]⟩
def SS:Fr:=⟨[], []⟩
def SU:Fr:=⟨[(0,0,1),(1,0,2)], [0]⟩
def SV:Fr:=⟨[(2,1,2),(1,0,2)], [0,1]⟩
def SW:Fr:=⟨[(-1,2, -1)], [0,1,2]⟩
end Go.Ab
end
section
namespace Go.Ab
open Go.Proofs
set_option maxRecDepth 10000
def Dd (g:Gr) (t:It):Prop:=(t.1= -1∧t.2.2= -1)∨(0≤t.1∧t.1<g.es.length∧t.2.1=(g.es.getD t.1.toNat (0,0)).1∧t.2.2=(g.es.getD t.1.toNat (0,0)).2)
structure fH (g:Gr) (f:Fr):Prop where
 it:∀t∈f.row,Dd g t
 pl:f.pl.Nodup
 oK:∀x∈f.pl,0≤x∧x<g.n
theorem jP {row:List It} {x:Int} :∀k:Nat,(fh row x k).2.2=gV row x k
 |0=>rfl
 |k+1=>by
  rw [nF,gl]
  split
  ·show (fh row x k).2.2+1=_
   rw [jP k]
  ·exact jP k
theorem pT {row:List It} {x:Int} {j:Nat} :∀d:Nat,gV row x j≤gV row x (j+d)
 |0=>Int.le_refl _
 |d+1=>by
  have:=pT (row:=row) (x:=x) (j:=j) d
  rw [← Nat.add_assoc,gl]
  split<;>omega
theorem jQ {row:List It} {x:Int} :∀ {k:Nat},(∀j,j<k→(row.getD j (0,0,0)).2.2≠x)→gV row x k=0
 |0,_=>rfl
 |k+1,h=>by
  rw [gl,if_neg (h k (by omega))]
  exact jQ fun j hj=>h j (by omega)
theorem pU {row:List It} {x:Int} {b:Nat} :∀ {d:Nat},(∀j,b≤j→j<b+d→(row.getD j (0,0,0)).2.2≠x)→gV row x (b+d)=gV row x b
 |0,_=>rfl
 |d+1,h=>by
  rw [← Nat.add_assoc,gl,if_neg (h (b+d) (by omega) (by omega))]
  exact pU fun j h1 h2=>h j h1 (by omega)
theorem gm {f:Edge→Int} {g:Gr} {x:Int} (h0:0≤x) (h1:x<g.n):bq f g x=aK f g.es g.es.length x:=if_pos ⟨h0,h1⟩
theorem mA {g:Gr} {e:Int} (h0:0≤e) (h1:e<g.es.length):0<bf g (g.es.getD e.toNat (0,0)).2:=by
 refine List.length_pos_iff.2 fun h=> ?_
 have hm:e∈aK (·.2) g.es g.es.length (g.es.getD e.toNat (0,0)).2:=by
  simp only [aK,List.mem_map,List.mem_filter,List.mem_range,decide_eq_true_eq]
  exact ⟨e.toNat,⟨by omega,rfl⟩,by simp;omega⟩
 rw [h] at hm;cases hm
theorem vH {row:List It} {p:It→Bool} {a b:Nat} (hb:b≤row.length):((row.take b).drop a).any p=true↔∃j,a≤j∧j<b∧p (row.getD j (0,0,0))=true:=by
 rw [List.any_eq_true]
 constructor
 ·rintro ⟨t,ht,hp⟩
  obtain ⟨k,hk,rfl⟩:=List.mem_iff_getElem.1 ht
  simp only [List.length_drop,List.length_take] at hk
  refine ⟨a+k,by omega,by omega, ?_⟩
  rw [List.getD_eq_getElem?_getD,List.getElem?_eq_getElem (show a+k<row.length by omega)]
  simpa using hp
 ·rintro ⟨j,h1,h2,hp⟩
  rw [List.getD_eq_getElem?_getD,List.getElem?_eq_getElem (show j<row.length by omega)] at hp
  refine ⟨row[j], ?_,hp⟩
  refine List.mem_iff_getElem.2 ⟨j - a,by simp;omega, ?_⟩
  simp only [List.getElem_drop,List.getElem_take]
  congr 1;omega
theorem Dd.head {g:Gr} (hm:aH g=true) {t:It} (h:Dd g t):(0≤t.1↔t.2.2≠ -1)∧ -1≤t.2.2:=by
 rcases h with ⟨h1,h2⟩|⟨h1,h2,_,h4⟩
 ·omega
 ·obtain ⟨_,h5,_⟩:=cH hm (k:=t.1.toNat) (by omega)
  omega
theorem jR {g:Gr} (hm:aH g=true) {f:Fr} (hi:fH g f) (x:Int):eL g f x=az g f x:=by
 by_cases hx:x<0∨g.n≤x∨x∈f.pl
 ·rw [eL,az,if_pos hx,if_pos hx]
 rw [eL,az,if_neg hx,if_neg hx]
 have hx0:0≤x∧x<g.n:=by
  constructor
  ·exact Int.not_lt.1 fun h=>hx (.inl h)
  ·exact Int.not_le.1 fun h=>hx (.inr (.inl h))
 have hmem:∀j,j<f.row.length→Dd g (f.row.getD j (0,0,0)):=fun j hj=>hi.it _ (aL hj)
 rw [gm hx0.1 hx0.2]
 have hN:(aK (fun e=>e.2) g.es g.es.length x).length=bf g x:=rfl
 rw [hN]
 have Jw:(bn f.row x).2.2=gV f.row x f.row.length:=jP _
 by_cases h0:bf g x=0
 ·rw [if_pos h0,h0,decide_eq_true rfl,Bool.true_or,Bool.and_true,decide_eq_true_eq,Jw,jQ]
  ·rfl
  ·intro j hj he
   rcases hmem j hj with ⟨_,h2⟩|⟨h1,h2,_,h4⟩
   ·omega
   ·have:=mA h1 h2
    rw [← h4,he] at this
    omega
 ·rw [if_neg h0,decide_eq_false h0,Bool.false_or,Jw]
  generalize bf g x=need at h0
  rcases eu (row:=f.row) (x:=x) f.row.length with ⟨hs,hno⟩|⟨a,b,c,hs,hab,qZ,hc0,hcl,ha,hb,hlo,hhi⟩
  ·rw [jQ hno]
   have e1:decide ((0:Int)=(need:Int))=false:=decide_eq_false (by omega)
   rw [e1,Bool.false_and,Bool.and_false]
  ·have hs':bn f.row x=((a:Int),(b:Int),(c:Int)):=hs
   have Iw:gV f.row x f.row.length=c:=by rw [← Jw,hs']
   rw [hs',Iw]
   simp only [Int.toNat_natCast]
   rw [Bool.and_comm]
   by_cases Mt:¬(c:Int)=need
   ·rw [decide_eq_false Mt,Bool.and_false,Bool.and_false]
   rw [Decidable.not_not] at Mt
   rw [decide_eq_true Mt,Bool.and_true,Bool.and_true,qB]
   congr 1
   rw [Bool.eq_iff_iff,vH qZ,List.any_eq_true]
   have ma:gV f.row x a=0:=jQ hlo
   have SX:gV f.row x (a+1)=1:=by rw [gl,if_pos ha,ma];rfl
   have mb:gV f.row x b=need:=by
    have h:=pU (row:=f.row) (x:=x) (b:=b) (d:=f.row.length - b) fun j h1 h2=>hhi j h1 (by omega)
    rw [show b+(f.row.length - b)=f.row.length by omega,Iw] at h
    omega
   have SY:gV f.row x (b - 1)+1=need:=by
    have h:=gl (row:=f.row) (x:=x) (k:=b - 1)
    rw [if_pos hb,show b - 1+1=b by omega,mb] at h
    omega
   constructor
   ·rintro ⟨j,h1,h2,hp⟩
    simp only [kJ,Bool.and_eq_true,decide_eq_true_eq] at hp
    have hja:j≠a:=fun e=>hp.1 (by rw [e];exact ha)
    have hjb:j≠b - 1:=fun e=>hp.1 (by rw [e];exact hb)
    have g1:=pT (row:=f.row) (x:=x) (j:=a+1) (j - (a+1))
    rw [show a+1+(j - (a+1))=j by omega] at g1
    have g2:=pT (row:=f.row) (x:=x) (j:=j) (b - 1 - j)
    rw [show j+(b - 1 - j)=b - 1 by omega] at g2
    exact ⟨j,List.mem_range.2 (by omega),vF.2 ⟨⟨hp.1,((hmem j (by omega)).head hm).1.2 hp.2⟩,by omega,by omega⟩⟩
   ·rintro ⟨j,hj,hl⟩
    have hj:=List.mem_range.1 hj
    obtain ⟨⟨h1,h2⟩,h3,h4⟩:=vF.1 hl
    refine ⟨j, ?_, ?_, ?_⟩
    ·refine Nat.not_lt.1 fun h=> ?_
     have:=jQ (row:=f.row) (x:=x) (k:=j) fun i hi=>hlo i (by omega)
     omega
    ·refine Nat.not_le.1 fun h=> ?_
     have:=pU (row:=f.row) (x:=x) (b:=b) (d:=j - b) fun i h1 h2=>hhi i h1 (by omega)
     rw [show b+(j - b)=j by omega] at this
     omega
    ·simp only [kJ,Bool.and_eq_true,decide_eq_true_eq]
     exact ⟨h1,((hmem j hj).head hm).1.1 h2⟩
theorem xL:∀ {ms os:List Int},ms.Nodup→(∀i∈ms,i∈os)→os.length=ms.length→os.Perm ms
 | [],os,_,_,hl=>by
   have h:os= []:=List.eq_nil_of_length_eq_zero (by simpa using hl)
   rw [h]
 |m::ms,os,hn,hs,hl=>by
  rw [List.nodup_cons] at hn
  have hm:=hs m (List.mem_cons_self ..)
  refine (List.perm_cons_erase hm).trans (List.Perm.cons m (xL hn.2 (fun j hj=> ?_) ?_))
  ·have:j≠m:=fun e=>hn.1 (e ▸ hj)
   exact (List.mem_erase_of_ne this).2 (hs j (List.mem_cons_of_mem _ hj))
  ·rw [List.length_erase_of_mem hm,hl];simp
theorem qC {g:Gr} {x:Int} :(cm g x).Pairwise (· ≤ ·):=by
 unfold cm aK
 refine List.Pairwise.map _ (fun a b (h:a<b)=> ?_) (List.Pairwise.filter _ List.pairwise_lt_range)
 show (a:Int)≤b
 omega
theorem tX {l m:List Int} (h:l.Perm m) (hm:m.Pairwise (· ≤ ·)):gP l=m:=by
 have h1:(gP l).Pairwise (· ≤ ·):=by
  have:=List.pairwise_mergeSort (le:=fun a b:Int=>decide (a≤b)) (by simp;omega) (by simp;omega) l
  simpa [gP] using this
 have h2:(gP l).Perm m:=(by unfold gP;exact (List.mergeSort_perm l _).trans h)
 exact h2.eq_of_pairwise (fun a b _ _ h1 h2=>Int.le_antisymm h1 h2) h1 hm
theorem aE {g:Gr} {f:Fr} {x:Int} (h:az g f x=true):0≤x∧x<g.n∧x∉f.pl:=by
 unfold az at h
 by_cases hx:x<0∨g.n≤x∨x∈f.pl
 ·rw [if_pos hx] at h;cases h
 ·exact ⟨Int.not_lt.1 fun h=>hx (.inl h),Int.not_le.1 fun h=>hx (.inr (.inl h)),fun h=>hx (.inr (.inr h))⟩
theorem Fv {g:Gr} (hm:aH g=true) {f:Fr} (hi:fH g f) (x:Int) (outs:List Int):jw g f x outs=fF g f x outs:=by
 rw [jw,fF,jR hm hi]
 cases hR:az g f x with
 |false=>rw [if_pos rfl,if_pos rfl]
 |true=>
  obtain ⟨h0,h1,h2⟩:=aE hR
  have ht:¬(true=false):=by simp
  rw [if_neg ht,if_neg ht,gm h0 h1]
  show (if gP outs≠cm g x then _ else aC g f x outs)=_
  by_cases hs:gP outs=cm g x
  ·rw [if_neg (fun h=>h hs),if_neg]
   rintro (h|⟨i,h3,h4⟩)
   ·exact h (by rw [← hs,eH])
   ·exact h4 (y9.1 (hs ▸ h3))
  ·rw [if_pos hs,if_pos]
   refine Decidable.byContradiction fun h=>hs ?_
   have hl:outs.length=(cm g x).length:=Decidable.byContradiction fun e=>h (.inl e)
   exact tX (xL dQ (fun i hi=>Decidable.byContradiction fun e=>h (.inr ⟨i,hi,e⟩)) hl) qC
theorem Fw {g:Gr} {x:Int} {outs:List Int} (ho:∀i∈outs,i∈cm g x):∀t∈aO g x outs,Dd g t:=by
 intro t ht
 unfold aO at ht
 split at ht
 ·rw [List.mem_singleton] at ht
  rw [ht];exact .inl ⟨rfl,rfl⟩
 ·obtain ⟨i,hi,rfl⟩:=List.mem_map.1 ht
  obtain ⟨⟨h1,h2⟩,h3⟩:=iz (ho i hi)
  exact .inr ⟨h1,h2,h3.symm,rfl⟩
theorem Fx {g:Gr} {f:Fr} (hi:fH g f) {x:Int} (hR:az g f x=true) {outs:List Int} (ho:∀i∈outs,i∈cm g x):fH g (aC g f x outs).2:=by
 obtain ⟨h0,h1,h2⟩:=aE hR
 refine ⟨fun t ht=> ?_, ?_,fun y hy=> ?_⟩
 ·simp only [aC,List.mem_append] at ht
  rcases ht with (ht|ht)|ht
  ·exact hi.it t (List.mem_of_mem_take ht)
  ·exact Fw ho t ht
  ·exact hi.it t (List.mem_of_mem_drop ht)
 ·show (f.pl++ [x]).Nodup
  rw [List.nodup_append]
  refine ⟨hi.pl,by simp,fun a ha b hb e=>h2 ?_⟩
  rw [List.mem_singleton] at hb
  rw [← hb, ← e];exact ha
 ·have hy:y∈f.pl++ [x]:=hy
  rcases List.mem_append.1 hy with h|h
  ·exact hi.oK y h
  ·rw [List.mem_singleton] at h
   rw [h];exact ⟨h0,h1⟩
end Go.Ab
end
section
namespace Go.Ab
open Go.Proofs
set_option maxRecDepth 10000
def jb (x:Int) (t:It):Bool:=decide (t.2.2=x)
structure Mid (x:Int) (X:List It):Prop where
 fst:∃p X',X=p::X'∧p.2.2=x
 Jk:∃X' q,X=X'++ [q]∧q.2.2=x
 al:∀t∈X,t.2.2=x∨t.2.2= -1
def fz (x:Int) (l:List It):Prop:=∀t∈l,t.2.2≠x
theorem fz.app {x:Int} {l m:List It} (h:fz x l) (h':fz x m):fz x (l++m):=fun t ht=>(List.mem_append.1 ht).elim (h t) (h' t)
theorem fz.left {x:Int} {l m:List It} (h:fz x (l++m)):fz x l:=fun t ht=>h t (List.mem_append.2 (.inl ht))
theorem fz.right {x:Int} {l m:List It} (h:fz x (l++m)):fz x m:=fun t ht=>h t (List.mem_append.2 (.inr ht))
theorem Mid.Pw {x y:Int} {X:List It} (h:Mid x X) (hxy:x≠y) (hy:0≤y):fz y X:=fun t ht e=>by
 rcases h.al t ht with h1|h1<;>omega
theorem kL {row:List It} {x:Int} :∀ {k:Nat},k≤row.length→gV row x k=((row.take k).countP (jb x):Nat)
 |0,_=>by simp [gV]
 |k+1,h=>by
  rw [gl,kL (k:=k) (by omega),List.take_add_one,List.getElem?_eq_getElem (show k<row.length by omega),List.countP_append]
  simp only [Option.toList,List.countP_cons,List.countP_nil,jb,decide_eq_true_eq,List.getD_eq_getElem?_getD,List.getElem?_eq_getElem (show k<row.length by omega),Option.getD_some]
  split<;>simp
theorem De {A X C:List It} {p:It} {X':List It} (h:X=p::X'):(A++X++C).getD A.length (0,0,0)=p:=by
 subst h;simp [List.getD_eq_getElem?_getD]
theorem Df {A X C:List It} {q:It} {X':List It} (h:X=X'++ [q]):(A++X++C).getD (A.length+X.length - 1) (0,0,0)=q:=by
 subst h
 have e:A.length+(X'++ [q]).length - 1=(A++X').length:=by simp
 rw [e,show A++(X'++ [q])++C=(A++X')++([q]++C) by simp]
 simp [List.getD_eq_getElem?_getD]
theorem Dg {A L:List It} {j:Nat} (h:j<A.length):(A++L).getD j (0,0,0)∈A:=by
 rw [List.getD_eq_getElem?_getD,List.getElem?_append_left h,List.getElem?_eq_getElem h]
 exact List.getElem_mem h
theorem Dh {A L:List It} {j:Nat} (h:A.length≤j) (h':j<(A++L).length):(A++L).getD j (0,0,0)∈L:=by
 rw [List.length_append] at h'
 rw [List.getD_eq_getElem?_getD,List.getElem?_append_right h,List.getElem?_eq_getElem (by omega)]
 exact List.getElem_mem _
theorem BS {A X C:List It} {x:Int} (hA:fz x A) (hC:fz x C) (hX:Mid x X):
 (bn (A++X++C) x).1=(A.length:Int)∧(bn (A++X++C) x).2.1=((A.length+X.length:Nat):Int)∧(bn (A++X++C) x).2.2=(X.countP (jb x):Nat):=by
 have uZ:(bn (A++X++C) x).2.2=(X.countP (jb x):Nat):=by
  unfold bn
  rw [jP,kL (Nat.le_refl _),List.take_length,List.countP_append,List.countP_append]
  have h1:A.countP (jb x)=0:=List.countP_eq_zero.2 fun t ht=>by simp [jb,hA t ht]
  have h2:C.countP (jb x)=0:=List.countP_eq_zero.2 fun t ht=>by simp [jb,hC t ht]
  rw [h1,h2];simp
 obtain ⟨p,X',e1,hp⟩:=hX.fst
 obtain ⟨SZ,q,e2,hq⟩:=hX.Jk
 have g1:=De (A:=A) (C:=C) e1
 have g2:=Df (A:=A) (C:=C) e2
 have Oj:0<X.length:=by rw [e1];simp
 have hlen:(A++X++C).length=A.length+X.length+C.length:=by simp;omega
 rcases eu (row:=A++X++C) (x:=x) (A++X++C).length with ⟨_,hno⟩|⟨a,b,c,hs,hab,qZ,hc0,hcl,ha,hb,hlo,hhi⟩
 ·exact absurd (by rw [g1];exact hp) (hno A.length (by omega))
 ·have hs':bn (A++X++C) x=((a:Int),(b:Int),(c:Int)):=hs
  refine ⟨?_, ?_,uZ⟩
  ·rw [hs']
   have h1:¬A.length<a:=fun h=>hlo _ h (by rw [g1];exact hp)
   have h2:¬a<A.length:=fun h=>hA _ (by have:=Dg (L:=X++C) h;rw [← List.append_assoc] at this;exact this) ha
   simp only;omega
  ·rw [hs']
   have h1:¬b<A.length+X.length:=fun h=>hhi (A.length+X.length - 1) (by omega) (by omega) (by rw [g2];exact hq)
   have h2:¬A.length+X.length<b:=fun h=>hC _ (Dh (A:=A++X) (j:=b - 1) (by simp;omega) (by omega)) hb
   simp only;omega
theorem kM {g:Gr} (hm:aH g=true) {f:Fr} (hi:fH g f) {A X C:List It} {x:Int} (h0:0≤x) (h1:x<g.n) (hp:x∉f.pl) (hr:f.row=A++X++C) (hA:fz x A) (hC:fz x C) (hX:Mid x X)
 (hc:X.countP (jb x)=bf g x):az g f x=true:=by
 rw [← jR hm hi,eL,if_neg (by rintro (h|h|h);omega;omega;exact hp h)]
 obtain ⟨e1,e2,e3⟩:=BS hA hC hX
 rw [hr,e1,e2,e3,gm h0 h1,Bool.and_eq_true,decide_eq_true_eq]
 refine ⟨by rw [hc];rfl, ?_⟩
 rw [Bool.or_eq_true];right
 simp only [qB,Int.toNat_natCast]
 rw [List.take_append_of_le_length (by simp),List.take_of_length_le (by simp),List.drop_left,Bool.not_eq_true',List.any_eq_false]
 intro t ht
 simp only [kJ,Bool.and_eq_true,decide_eq_true_eq]
 rcases hX.al t ht with h|h<;>simp [h]
theorem bS {g:Gr} (hm:aH g=true) {f:Fr} (hi:fH g f) {x:Int} (hR:az g f x=true) (hn:bf g x≠0):
 ∃A X C,f.row=A++X++C∧fz x A∧fz x C∧Mid x X∧X.countP (jb x)=bf g x:=by
 obtain ⟨h0,h1,h2⟩:=aE hR
 rw [← jR hm hi,eL,if_neg (by rintro (h|h|h);omega;omega;exact h2 h),gm h0 h1,Bool.and_eq_true,decide_eq_true_eq] at hR
 have hN:(aK (fun e=>e.2) g.es g.es.length x).length=bf g x:=rfl
 rw [hN,decide_eq_false hn,Bool.false_or] at hR
 obtain ⟨hc,hb⟩:=hR
 have uZ:(f.row.countP (jb x):Int)=bf g x:=by
  rw [← hc];unfold bn
  rw [jP,kL (Nat.le_refl _),List.take_length]
 rcases eu (row:=f.row) (x:=x) f.row.length with ⟨hs,hno⟩|⟨a,b,c,hs,hab,qZ,hc0,hcl,ha,hb',hlo,hhi⟩
 ·have:bn f.row x=(-1,0,0):=hs
  rw [this] at hc
  exfalso;simp only at hc;omega
 ·have hs':bn f.row x=((a:Int),(b:Int),(c:Int)):=hs
  rw [hs'] at hb
  simp only [Int.toNat_natCast] at hb
  have hA:fz x (f.row.take a):=fun t ht=>by
   obtain ⟨j,hj,rfl⟩:=List.mem_iff_getElem.1 ht
   simp only [List.length_take] at hj
   have:=hlo j (by omega)
   rw [List.getD_eq_getElem?_getD,List.getElem?_eq_getElem (show j<f.row.length by omega)] at this
   simpa using this
  have hC:fz x (f.row.drop b):=fun t ht=>by
   obtain ⟨j,hj,rfl⟩:=List.mem_iff_getElem.1 ht
   simp only [List.length_drop] at hj
   have:=hhi (b+j) (by omega) (by omega)
   rw [List.getD_eq_getElem?_getD,List.getElem?_eq_getElem (show b+j<f.row.length by omega)] at this
   simpa using this
  have hrow:f.row=f.row.take a++(f.row.take b).drop a++f.row.drop b:=by
   have e1:f.row.take a=(f.row.take b).take a:=by rw [List.take_take,Nat.min_eq_left (by omega)]
   rw [e1,List.take_append_drop,List.take_append_drop]
  refine ⟨f.row.take a,(f.row.take b).drop a,f.row.drop b,hrow,hA,hC,⟨?_, ?_, ?_⟩, ?_⟩
  ·refine ⟨f.row.getD a (0,0,0),(f.row.take b).drop (a+1), ?_,ha⟩
   rw [List.drop_eq_getElem_cons (by simp;omega)]
   congr 1
   rw [List.getD_eq_getElem?_getD,List.getElem?_eq_getElem (show a<f.row.length by omega)]
   simp
  ·refine ⟨(f.row.take (b - 1)).drop a,f.row.getD (b - 1) (0,0,0), ?_,hb'⟩
   have e:f.row.take b=f.row.take (b - 1)++ [f.row.getD (b - 1) (0,0,0)]:=by
    conv=>lhs;rw [show b=b - 1+1 by omega]
    rw [List.take_add_one,List.getD_eq_getElem?_getD,List.getElem?_eq_getElem (show b - 1<f.row.length by omega)]
    rfl
   rw [e,List.drop_append_of_le_length (by simp;omega)]
  ·intro t ht
   rw [qB,Bool.not_eq_true',List.any_eq_false] at hb
   have:=hb t ht
   simp only [kJ,Bool.and_eq_true,decide_eq_true_eq,not_and] at this
   by_cases h:t.2.2=x
   ·exact .inl h
   ·exact .inr (Decidable.byContradiction fun h'=>this h h')
  ·have h1:(f.row.take a).countP (jb x)=0:=List.countP_eq_zero.2 fun t ht=>by simp [jb,hA t ht]
   have h2:(f.row.drop b).countP (jb x)=0:=List.countP_eq_zero.2 fun t ht=>by simp [jb,hC t ht]
   rw [hrow,List.countP_append,List.countP_append,h1,h2] at uZ
   omega
theorem fI {g:Gr} {f:Fr} {A X C:List It} {x:Int} (o:List Int) (hr:f.row=A++X++C) (hA:fz x A) (hC:fz x C) (hX:Mid x X):
 aC g f x o=((X,0),⟨A++aO g x o++C,f.pl++ [x]⟩):=by
 obtain ⟨e1,e2,e3⟩:=BS hA hC hX
 have e4:max (A.length:Int) 0=(A.length:Int):=by omega
 unfold aC
 rw [hr,e1,e2,e4,Int.toNat_natCast,Int.toNat_natCast]
 rw [List.take_append_of_le_length (show A.length+X.length≤(A++X).length by simp),List.take_of_length_le (show (A++X).length≤A.length+X.length by simp),List.drop_left]
 rw [show (A++X++C).take A.length=A by rw [List.append_assoc,List.take_left]]
 rw [show (A++X++C).drop (A.length+X.length)=C by rw [← List.length_append,List.drop_left]]
theorem gn {g:Gr} {f:Fr} {x:Int} (o:List Int) (hr:fz x f.row):aC g f x o=(([],0),⟨aO g x o++f.row,f.pl++ [x]⟩):=by
 have hs:bn f.row x=(-1,0,0):=by
  rcases eu (row:=f.row) (x:=x) f.row.length with ⟨hs,_⟩|⟨a,b,c,hs,hab,qZ,hc0,hcl,ha,hb',hlo,hhi⟩
  ·exact hs
  ·exact absurd ha (hr _ (aL (by omega)))
 have e4:max (-1:Int) 0=0:=by omega
 unfold aC
 rw [hs]
 simp [e4]
end Go.Ab
end
section
namespace Go.Ab
open Go.Proofs
set_option maxRecDepth 10000
structure xM (g:Gr) (f:Fr):Prop extends fH g f where
 tail:∀t∈f.row,0≤t.1→t.2.1∈f.pl
 head:∀t∈f.row,0≤t.1→t.2.2∉f.pl
 once:f.row.Pairwise fun s t=>0≤s.1→s.1≠t.1
 low:∀i,i<g.es.length→hd g i∈f.pl→tl g i∈f.pl
 src:(f.pl= []∧f.row= [])∨∃s∈f.pl,bf g s=0
theorem oL (g:Gr):xM g ⟨[], []⟩:=
 {it:=by simp,pl:=by simp,oK:=by simp,tail:=by simp,head:=by simp,once:=by simp,low:=by simp,src:= .inl ⟨rfl,rfl⟩}
theorem tY {g:Gr} (hm:aH g=true) {f:Fr} (hi:xM g f) {x:Int} (hR:az g f x=true) {i:Nat} (hl:i<g.es.length) (hx:hd g i=x):∃t∈f.row,t.1=i∧t.2.1=tl g i∧t.2.2=x:=by
 have hn:bf g x≠0:=by
  have:=mA (g:=g) (e:=(i:Int)) (by omega) (by omega)
  rw [Int.toNat_natCast,show (g.es.getD i (0,0)).2=x from hx] at this
  omega
 obtain ⟨A,X,C,hr,hA,hC,hX,hc⟩:=bS hm hi.tofH hR hn
 have hN:(aK (fun e=>e.2) g.es g.es.length x).length=bf g x:=rfl
 have hok:∀t∈f.row,t.2.2=x→0≤t.1∧t.1<g.es.length∧t.2.1=(g.es.getD t.1.toNat (0,0)).1∧t.2.2=(g.es.getD t.1.toNat (0,0)).2:=fun t ht he=>by
  rcases hi.it t ht with ⟨_,h2⟩|h
  ·have:=(aE hR).1;omega
  ·exact h
 have hmem:∀t∈X,t∈f.row:=fun t ht=>by rw [hr];simp [ht]
 have BT:=xL (ms:=(X.filter (jb x)).map (·.1)) (os:=aK (fun e=>e.2) g.es g.es.length x)
 have key:∀i∈aK (fun e=>e.2) g.es g.es.length x,i∈(X.filter (jb x)).map (·.1):=by
  refine AZ (ms:=(X.filter (jb x)).map (·.1)) (os:=aK (fun e=>e.2) g.es g.es.length x) ?_ ?_ ?_
  ·have h1:X.Pairwise fun s t=>0≤s.1→s.1≠t.1:=by
    have:=hi.once
    rw [hr,List.pairwise_append,List.pairwise_append] at this
    exact this.1.2.1
   have h2:=h1.filter (jb x)
   rw [List.Nodup,List.pairwise_map]
   refine h2.imp_of_mem fun {a b} ha hb h=>h ?_
   obtain ⟨Rh,Ol⟩:=List.mem_filter.1 ha
   exact (hok a (hmem a Rh) (by simpa [jb] using Ol)).1
  ·intro e he
   obtain ⟨t,ht,rfl⟩:=List.mem_map.1 he
   obtain ⟨ht1,ht2⟩:=List.mem_filter.1 ht
   have ht2:t.2.2=x:=by simpa [jb] using ht2
   obtain ⟨h1,h2,h3,h4⟩:=hok t (hmem t ht1) ht2
   simp only [aK,List.mem_map,List.mem_filter,List.mem_range,decide_eq_true_eq]
   exact ⟨t.1.toNat,⟨by omega,by rw [← h4];exact ht2⟩,by simp;omega⟩
  ·rw [hN, ← hc,List.length_map,List.countP_eq_length_filter]
 have hie:(i:Int)∈aK (fun e=>e.2) g.es g.es.length x:=by
  simp only [aK,List.mem_map,List.mem_filter,List.mem_range,decide_eq_true_eq]
  exact ⟨i,⟨hl,hx⟩,rfl⟩
 obtain ⟨t,ht,he⟩:=List.mem_map.1 (key _ hie)
 obtain ⟨ht1,ht2⟩:=List.mem_filter.1 ht
 have ht2:t.2.2=x:=by simpa [jb] using ht2
 obtain ⟨h1,h2,h3,h4⟩:=hok t (hmem t ht1) ht2
 refine ⟨t,hmem t ht1,he, ?_,ht2⟩
 rw [h3,he,Int.toNat_natCast];rfl
theorem gq {g:Gr} (hm:aH g=true) {f:Fr} (hi:fH g f) {x:Int} (h0:0≤x) (hn:bf g x=0):fz x f.row:=by
 intro t ht he
 rcases hi.it t ht with ⟨_,h2⟩|⟨h1,h2,_,h4⟩
 ·omega
 ·have:=mA h1 h2
  rw [← h4,he] at this
  omega
theorem eO {g:Gr} (hm:aH g=true) {f:Fr} (hi:fH g f) {x:Int} (hR:az g f x=true):
 ∃A X C,f.row=A++X++C∧fz x A∧fz x C∧(∀t∈X,t.2.2=x∨t.2.2= -1)∧∀o,aC g f x o=((X,0),⟨A++aO g x o++C,f.pl++ [x]⟩):=by
 by_cases hn:bf g x=0
 ·have h:=gq hm hi (aE hR).1 hn
  exact ⟨[], [],f.row,by simp,fun t ht=>(by cases ht),h,fun t ht=>(by cases ht),fun o=>by rw [gn o h];simp⟩
 ·obtain ⟨A,X,C,hr,hA,hC,hX,_⟩:=bS hm hi hR hn
  exact ⟨A,X,C,hr,hA,hC,hX.al,fun o=>fI o hr hA hC hX⟩
theorem oM {g:Gr} {x i:Int} (h:i∈cm g x):∃k:Nat,i=k∧k<g.es.length∧tl g k=x:=by
 obtain ⟨⟨h1,h2⟩,h3⟩:=iz h
 exact ⟨i.toNat,by omega,by omega,h3⟩
theorem jS {g:Gr} {x:Int} {o:List Int} (ho:∀i∈o,i∈cm g x) {t:It} (h:t∈aO g x o):(t.1= -1∧t.2.2= -1)∨∃k:Nat,k<g.es.length∧t.1=k∧t.2.1=x∧t.2.2=hd g k∧tl g k=x∧t.1∈o:=by
 unfold aO at h
 split at h
 ·rw [List.mem_singleton] at h
  rw [h];exact .inl ⟨rfl,rfl⟩
 ·obtain ⟨i,Px,rfl⟩:=List.mem_map.1 h
  obtain ⟨k,rfl,h1,h2⟩:=oM (ho i Px)
  exact .inr ⟨k,h1,rfl,rfl,by simp [fR];rfl,h2,Px⟩
theorem pV {g:Gr} (hm:aH g=true) {f:Fr} (hi:xM g f) {x y:Int} (hx:x∉f.pl) (hR:az g f y=true) {o:List Int} (ho:∀i∈o,i∈cm g x):fz y (aO g x o):=by
 intro t ht he
 rcases jS ho ht with ⟨_,h⟩|⟨k,h1,h2,h3,h4,h5,_⟩
 ·have:=(aE hR).1;omega
 ·obtain ⟨s,hs,e1,e2,e3⟩:=tY hm hi hR h1 (by rw [← h4];exact he)
  refine hx ?_
  rw [← h5, ← e2]
  exact hi.tail s hs (by omega)
theorem gH {g:Gr} (hm:aH g=true) {f:Fr} (hi:xM g f) {x:Int} (hR:az g f x=true) {o:List Int} (ho:o.Perm (cm g x)):xM g (aC g f x o).2:=by
 have Jv:∀i∈o,i∈cm g x:=fun i h=>ho.mem_iff.1 h
 have hx:=(aE hR).2.2
 have h0:=Fx hi.tofH hR Jv
 obtain ⟨A,X,C,hr,hA,hC,hX,hs⟩:=eO hm hi.tofH hR
 have dn:(aC g f x o).2.pl=f.pl++ [x]:=rfl
 have hrow:(aC g f x o).2.row=A++aO g x o++C:=by rw [hs o]
 have Om:∀t∈A,t∈f.row:=fun t ht=>by rw [hr];simp [ht]
 have On:∀t∈C,t∈f.row:=fun t ht=>by rw [hr];simp [ht]
 have LG:=pV hm hi hx hR Jv
 refine {tofH:=h0,tail:= ?_,head:= ?_,once:= ?_,low:= ?_,src:= .inr ?_}
 ·intro t ht h1
  rw [dn]
  rw [hrow,List.mem_append,List.mem_append] at ht
  rcases ht with (ht|ht)|ht
  ·exact List.mem_append_left _ (hi.tail t (Om t ht) h1)
  ·rcases jS Jv ht with ⟨h,_⟩|⟨k,_,_,h3,_⟩
   ·omega
   ·rw [h3];simp
  ·exact List.mem_append_left _ (hi.tail t (On t ht) h1)
 ·intro t ht h1
  rw [dn,List.mem_append,List.mem_singleton]
  rw [hrow,List.mem_append,List.mem_append] at ht
  rcases ht with (ht|ht)|ht
  ·rintro (h|h)
   ·exact hi.head t (Om t ht) h1 h
   ·exact hA t ht h
  ·rintro (h|h)
   ·rcases jS Jv ht with ⟨h',_⟩|⟨k,hk,_,_,h4,h5,_⟩
    ·omega
    ·rw [h4] at h
     have:=hi.low k hk h
     rw [h5] at this;exact hx this
   ·exact LG t ht h
  ·rintro (h|h)
   ·exact hi.head t (On t ht) h1 h
   ·exact hC t ht h
 ·have yj:=hi.once
  rw [hr,List.pairwise_append,List.pairwise_append] at yj
  obtain ⟨⟨Ri,_,_⟩,Rj,Oo⟩:=yj
  have old:∀s∈f.row,0≤s.1→∀t∈aO g x o,s.1≠t.1:=fun s hs h1 t ht e=>by
   rcases jS Jv ht with ⟨h,_⟩|⟨k,hk,h2,h3,h4,h5,_⟩
   ·omega
   ·rcases hi.it s hs with ⟨h,_⟩|⟨_,_,h6,_⟩
    ·omega
    ·have:=hi.tail s hs h1
     rw [h6,e,h2,Int.toNat_natCast] at this
     exact hx (h5 ▸ this)
  rw [hrow,List.pairwise_append,List.pairwise_append]
  refine ⟨⟨Ri, ?_,fun s hs t ht h1=>old s (Om s hs) h1 t ht⟩,Rj, ?_⟩
  ·unfold aO
   split
   ·simp
   ·refine List.pairwise_map.2 ((ho.nodup_iff.2 dQ).imp fun {i j} (h:i≠j) _=> ?_)
    exact h
  ·intro s hs t ht h1
   rcases List.mem_append.1 hs with hs|hs
   ·exact Oo s (List.mem_append_left _ hs) t ht h1
   ·intro e
    exact old t (On t ht) (by omega) s hs e.symm
 ·intro i hl h
  rw [dn,List.mem_append,List.mem_singleton] at h ⊢
  left
  rcases h with h|h
  ·exact hi.low i hl h
  ·obtain ⟨t,ht,e1,e2,_⟩:=tY hm hi hR hl h
   rw [← e2]
   exact hi.tail t ht (by omega)
 ·rcases hi.src with ⟨h1,h2⟩|⟨s,hs,h⟩
  ·refine ⟨x,by rw [dn];simp, ?_⟩
   refine Decidable.byContradiction fun hn=> ?_
   obtain ⟨A,X,C,hr,_,_,hX,_⟩:=bS hm hi.tofH hR hn
   obtain ⟨p,X',e,_⟩:=hX.fst
   rw [h2,e] at hr
   simp at hr
  ·exact ⟨s,by rw [dn];simp [hs],h⟩
theorem apart {x y:Int} (hx:0≤x) (hy:0≤y) (hxy:x≠y) {A X C B Y D:List It} (h:A++X++C=B++Y++D) (hX:Mid x X) (hY:Mid y Y):
 (∃M,B=A++X++M∧C=M++Y++D)∨(∃M,A=B++Y++M∧D=M++X++C):=by
 obtain ⟨p,X',Jy,hp⟩:=hX.fst
 obtain ⟨q,Y',Rk,hq⟩:=hY.fst
 have nX:q∉X:=fun h=>hX.Pw hxy hy q h hq
 have nY:p∉Y:=fun h=>hY.Pw (Ne.symm hxy) hx p h hp
 rw [show B++Y++D=B++(Y++D) by simp,List.append_eq_append_iff] at h
 rcases h with ⟨es,h1,h2⟩|⟨cs,h1,h2⟩
 ·exact .inl ⟨es,h1,by rw [h2];simp⟩
 ·match cs,h1,h2 with
  | [],h1,h2=>exact .inl ⟨[],by simpa using h1.symm,by simpa using h2.symm⟩
  |c::cs,h1,h2=>
   have Rl:c=q:=by rw [Rk] at h2;simp at h2;exact h2.1.symm
   rw [List.append_eq_append_iff] at h1
   rcases h1 with ⟨es,h3,h4⟩|⟨ds,h3,h4⟩
   ·exfalso;refine nX ?_
    rw [h4, ← Rl];simp
   ·rw [h4,List.append_assoc,List.append_eq_append_iff] at h2
    rcases h2 with ⟨es,h5,h6⟩|⟨bs,h5,h6⟩
    ·exact .inr ⟨es,by rw [h3,h5];simp,by rw [h6];simp⟩
    ·match bs,h5,h6 with
     | [],h5,h6=>exact .inr ⟨[],by rw [h3,h5];simp,by simpa using h6.symm⟩
     |b::bs,h5,h6=>
      exfalso;refine nY ?_
      have Rm:b=p:=by rw [Jy] at h6;simp at h6;exact h6.1.symm
      rw [h5, ← Rm];simp
theorem zg {g:Gr} (hm:aH g=true) {f:Fr} (hi:xM g f) {x y:Int} (hxy:x≠y) (BU:az g f x=true) (qP:az g f y=true)
 {a b:List Int} (ha:a.Perm (cm g x)) (hb:b.Perm (cm g y)) {A X M Y D:List It} (hr:f.row=A++X++M++Y++D) (hX:Mid x X) (hY:Mid y Y)
 (cX:X.countP (jb x)=bf g x) (cY:Y.countP (jb y)=bf g y)
 (nA:fz x A) (nC:fz x (M++Y++D)) (nB:fz y (A++X++M)) (nD:fz y D):
 az g (aC g f x a).2 y=true∧az g (aC g f y b).2 x=true∧(aC g (aC g f x a).2 y b).2.row=(aC g (aC g f y b).2 x a).2.row∧
 (aC g f x a).1=(aC g (aC g f y b).2 x a).1∧(aC g f y b).1=(aC g (aC g f x a).2 y b).1:=by
 obtain ⟨x0,x1,x2⟩:=aE BU
 obtain ⟨y0,y1,y2⟩:=aE qP
 have i1:=(gH hm hi BU ha).tofH
 have i2:=(gH hm hi qP hb).tofH
 have ux:=pV hm hi x2 qP (fun i h=>ha.mem_iff.1 h)
 have uy:=pV hm hi y2 BU (fun i h=>hb.mem_iff.1 h)
 have r1:f.row=A++X++(M++Y++D):=by rw [hr];simp
 have r2:f.row=(A++X++M)++Y++D:=by rw [hr]
 have e1:=fI (g:=g) a r1 nA nC hX
 have e2:=fI (g:=g) b r2 nB nD hY
 rw [e1] at i1 ⊢;rw [e2] at i2 ⊢
 have r3:A++aO g x a++(M++Y++D)=(A++aO g x a++M)++Y++D:=by simp
 have r4:A++X++M++aO g y b++D=A++X++(M++aO g y b++D):=by simp
 have n3:fz y (A++aO g x a++M):=((nB.left.left).app ux).app nB.right
 have n4:fz x (M++aO g y b++D):=(nC.left.left.app uy).app nC.right
 have e3:=fI (g:=g) (f:=⟨A++aO g x a++(M++Y++D),f.pl++ [x]⟩) b r3 n3 nD hY
 have e4:=fI (g:=g) (f:=⟨A++X++M++aO g y b++D,f.pl++ [y]⟩) a r4 nA n4 hX
 refine ⟨kM hm i1 y0 y1 ?_ r3 n3 nD hY cY,kM hm i2 x0 x1 ?_ r4 nA n4 hX cX, ?_, ?_, ?_⟩
 ·simp [y2,Ne.symm hxy]
 ·simp [x2,hxy]
 ·simp only [e3,e4];simp
 ·simp only [e4]
 ·simp only [e3]
theorem Di {g:Gr} (hm:aH g=true) {f:Fr} (hi:xM g f) {x y:Int} (hxy:x≠y) (BU:az g f x=true) (qP:az g f y=true)
 {a b:List Int} (ha:a.Perm (cm g x)) (hb:b.Perm (cm g y)) (nx:bf g x≠0) (ny:bf g y≠0):
 az g (aC g f x a).2 y=true∧az g (aC g f y b).2 x=true∧(aC g (aC g f x a).2 y b).2.row=(aC g (aC g f y b).2 x a).2.row∧
 (aC g f x a).1=(aC g (aC g f y b).2 x a).1∧(aC g f y b).1=(aC g (aC g f x a).2 y b).1:=by
 obtain ⟨A,X,C,hr,hA,hC,hX,cX⟩:=bS hm hi.tofH BU nx
 obtain ⟨B,Y,D,hr',hB,hD,hY,cY⟩:=bS hm hi.tofH qP ny
 rcases apart (aE BU).1 (aE qP).1 hxy (hr.symm.trans hr') hX hY with ⟨M,rfl,rfl⟩|⟨M,rfl,rfl⟩
 ·exact zg hm hi hxy BU qP ha hb (by rw [hr];simp) hX hY cX cY hA hC hB hD
 ·obtain ⟨h1,h2,h3,h4,h5⟩:=zg hm hi (Ne.symm hxy) qP BU hb ha (by rw [hr'];simp) hY hX cY cX hB hD hA hC
  exact ⟨h2,h1,h3.symm,h5,h4⟩
theorem mB {g:Gr} {y:Int} :y∈bC (·.2) g↔(0≤y∧y<g.n)∧bf g y=0:=by
 simp only [bC,iK,List.mem_map,List.mem_filter,List.mem_range,decide_eq_true_eq]
 have he:∀x:Nat,x<g.n.toNat→(((c7 (·.2) g).getD x []).length=bf g (x:Int)):=by
  intro x hx
  have e:(c7 (·.2) g).getD x []=aK (·.2) g.es g.es.length (x:Int):=by
   simp [c7,List.getD_eq_getElem?_getD,List.getElem?_range hx,lI]
  rw [e];rfl
 constructor
 ·rintro ⟨x,⟨hx,h0⟩,rfl⟩
  refine ⟨by simp;omega,by rw [he x hx] at h0;exact h0⟩
 ·rintro ⟨⟨h1,h2⟩,h3⟩
  have e:((y.toNat:Nat):Int)=y:=by omega
  exact ⟨y.toNat,⟨by omega,by rw [he _ (by omega),e];exact h3⟩,e⟩
theorem kN {g:Gr} (hc:(bN g).1=0) {x y:Int} (hx:0≤x∧x<g.n) (hy:0≤y∧y<g.n) (nx:bf g x=0) (ny:bf g y=0):x=y:=by
 have h1:(bC (·.2) g).length≤1:=by
  unfold bN fe at hc
  refine Nat.not_lt.1 fun h=> ?_
  split at hc
  ·cases hc
  split at hc
  ·cases hc
  split at hc
  ·cases hc
  split at hc
  ·cases hc
  cases hc
 have h2:=mB.2 ⟨hx,nx⟩
 have h3:=mB.2 ⟨hy,ny⟩
 match hb:bC (·.2) g with
 | []=>rw [hb] at h2;cases h2
 | [z]=>rw [hb,List.mem_singleton] at h2 h3;rw [h2,h3]
 |_::_::_=>rw [hb] at h1;simp at h1
theorem an {g:Gr} (hc:(bN g).1=0):aH g=true:=by
 unfold bN fe at hc
 split at hc
 ·cases hc
 ·rename_i h;simpa using h
theorem zh {g:Gr} (hc:(bN g).1=0) {f:Fr} (hi:xM g f) {x y:Int} (hxy:x≠y) (BU:az g f x=true) (qP:az g f y=true):bf g x≠0:=by
 intro nx
 have hm:=an hc
 obtain ⟨x0,x1,x2⟩:=aE BU
 obtain ⟨y0,y1,y2⟩:=aE qP
 rcases hi.src with ⟨h1,h2⟩|⟨s,hs,h⟩
 ·have ny:bf g y≠0:=fun ny=>hxy (kN hc ⟨x0,x1⟩ ⟨y0,y1⟩ nx ny)
  obtain ⟨A,X,C,hr,_,_,hX,_⟩:=bS hm hi.tofH qP ny
  obtain ⟨p,X',e,_⟩:=hX.fst
  rw [h2,e] at hr
  simp at hr
 ·exact x2 (kN hc (hi.oK s hs) ⟨x0,x1⟩ h nx ▸ hs)
theorem vJ {g:Gr} (hc:(bN g).1=0) {f:Fr} (hi:xM g f) {x y:Int} (hxy:x≠y) (BU:az g f x=true) (qP:az g f y=true)
 {a b:List Int} (ha:a.Perm (cm g x)) (hb:b.Perm (cm g y)):
 az g (aC g f x a).2 y=true∧az g (aC g f y b).2 x=true∧(aC g (aC g f x a).2 y b).2.row=(aC g (aC g f y b).2 x a).2.row∧
 (aC g f x a).1=(aC g (aC g f y b).2 x a).1∧(aC g f y b).1=(aC g (aC g f x a).2 y b).1:=
 Di (an hc) hi hxy BU qP ha hb (zh hc hi hxy BU qP) (zh hc hi (Ne.symm hxy) qP BU)
end Go.Ab
end
section
namespace Go.Ab
open Go.Proofs
attribute [local congr] ACall.congr gd.congr Nx.congr
set_option maxRecDepth 10000
set_option maxHeartbeats 4000000
def BW (row:List It) (a b:Int):Nat→Int × Int
 |0=>(-1,0)
 |k+1=>if ((row.getD k (0,0,0)).2.2=a∨(row.getD k (0,0,0)).2.2=b)∧(row.getD k (0,0,0)).2.2≠(BW row a b k).1 then ((row.getD k (0,0,0)).2.2,(BW row a b k).2+1) else BW row a b k
end Go.Ab
end
section
namespace Go.Ab
open Go.Proofs
attribute [local congr] ACall.congr gd.congr Nx.congr
set_option maxRecDepth 10000
set_option maxHeartbeats 4000000
def J7 (row:List It) (i:Nat):Int:=(row.getD i (0,0,0)).2.2
def Oq (row:List It) (i j:Nat):Bool:=decide (J7 row i≠ -1)&&decide (J7 row j≠ -1)&&decide (J7 row i≠J7 row j)&&decide (4≤(BW row (J7 row i) (J7 row j) row.length).2)
def Py (row:List It):Bool:=(List.range row.length).any fun i=>(List.range row.length).any (Oq row i)
end Go.Ab
end
section
namespace Go.Ab
open Go.Proofs
attribute [local congr] ACall.congr gd.congr Nx.congr
set_option maxRecDepth 10000
set_option maxHeartbeats 8000000
def T4 (row:List It) (a b c d:Nat):Prop:=0≤(row.getD a (0,0,0)).2.2∧0≤(row.getD b (0,0,0)).2.2∧(row.getD a (0,0,0)).2.2≠(row.getD b (0,0,0)).2.2∧(row.getD a (0,0,0)).2.2=(row.getD c (0,0,0)).2.2∧(row.getD b (0,0,0)).2.2=(row.getD d (0,0,0)).2.2
def Ro (row:List It):Prop:=∃a b c d,a<b∧b<c∧c<d∧d<row.length∧T4 row a b c d
end Go.Ab
end
section
namespace Go.Ab
open Go.Proofs
set_option maxRecDepth 10000
theorem qD {g:Gr} {f f':Fr} (hr:f.row=f'.row) (hp:f.pl.Perm f'.pl) (x:Int):az g f x=az g f' x:=by
 unfold az
 rw [hr]
 by_cases h:x<0∨g.n≤x∨x∈f.pl
 ·rw [if_pos h,if_pos (by rw [← hp.mem_iff];exact h)]
 ·have h':¬(x<0∨g.n≤x∨x∈f'.pl):=by rw [← hp.mem_iff];exact h
  rw [if_neg h,if_neg h']
theorem iS:∀ {l m:List Int},l.Nodup→(∀i∈l,i∈m)→l.length≤m.length
 | [],_,_,_=>by simp
 |a::l,m,hn,hs=>by
  rw [List.nodup_cons] at hn
  have ha:=hs a (List.mem_cons_self ..)
  have:=iS hn.2 (m:=m.erase a) fun i hi=>(List.mem_erase_of_ne (fun e:i=a=>hn.1 (e ▸ hi))).2 (hs i (List.mem_cons_of_mem _ hi))
  rw [List.length_erase_of_mem ha] at this
  have:=List.length_pos_of_mem ha
  rw [List.length_cons];omega
theorem jT {g:Gr} {f:Fr} (hi:fH g f) (hf:(f.pl.length:Int)=g.n) {x:Int} (hx:0≤x∧x<g.n):x∈f.pl:=by
 refine Decidable.byContradiction fun h=> ?_
 have h1:(x::f.pl).Nodup:=List.nodup_cons.2 ⟨h,hi.pl⟩
 have h2:((List.range g.n.toNat).map Int.ofNat).length=g.n.toNat:=by simp
 have h3:=iS h1 (m:=(List.range g.n.toNat).map Int.ofNat) (fun y hy=>by
  rw [List.mem_map]
  have:0≤y∧y<g.n:=by
   rcases List.mem_cons.1 hy with h|h
   ·rw [h];exact hx
   ·exact hi.oK y h
  exact ⟨y.toNat,List.mem_range.2 (by omega),by simp;omega⟩)
 rw [h2,List.length_cons] at h3
 omega
def Tg (a b:Int) (row:List It):Prop:=∃l:List It,l.Sublist row∧l.map (fun t=>t.2.2)= [a,b,a,b]
def Fy (a b:Int) (t:It):Bool:=decide (t.2.2=a)||decide (t.2.2=b)
theorem Tg.Ot {a b:Int} {row:List It} :Tg a b row↔Tg a b (row.filter (Fy a b)):=by
 constructor
 ·rintro ⟨l,h,e⟩
  refine ⟨l, ?_,e⟩
  have h1:=h.filter (Fy a b)
  rw [List.filter_eq_self.2] at h1
  ·exact h1
  ·intro t ht
   have:t.2.2∈l.map (fun t=>t.2.2):=List.mem_map.2 ⟨t,ht,rfl⟩
   rw [e] at this
   simp only [Fy,Bool.or_eq_true,decide_eq_true_eq]
   simp only [List.mem_cons,List.not_mem_nil,or_false] at this
   omega
 ·rintro ⟨l,h,e⟩
  exact ⟨l,h.trans List.filter_sublist,e⟩
theorem Tg.keep {a b x:Int} (ha:0≤a) (hb:0≤b) (Gw:a≠x) (yO:b≠x) {A X C u:List It} (hX:∀t∈X,t.2.2=x∨t.2.2= -1) (h:Tg a b (A++X++C)):Tg a b (A++u++C):=by
 rw [Tg.Ot] at h ⊢
 obtain ⟨l,h,e⟩:=h
 refine ⟨l,h.trans ?_,e⟩
 rw [List.filter_append,List.filter_append,List.filter_append,List.filter_append]
 have:X.filter (Fy a b)= []:=List.filter_eq_nil_iff.2 fun t ht=>by
  simp only [Fy,Bool.or_eq_true,decide_eq_true_eq]
  rcases hX t ht with h|h<;>omega
 rw [this,List.append_nil]
 exact List.Sublist.append_right (List.sublist_append_left _ _) _
theorem Tg.not {a b x:Int} (hab:a≠b) (hb0:0≤b) (ha0:0≤a) (hx:x=a∨x=b) {A X C:List It} (hA:fz x A) (hC:fz x C) (hX:∀t∈X,t.2.2=x∨t.2.2= -1):¬Tg a b (A++X++C):=by
 rintro ⟨l,h,e⟩
 rw [List.append_assoc,List.sublist_append_iff] at h
 obtain ⟨l1,l',rfl,h1,h'⟩:=h
 rw [List.sublist_append_iff] at h'
 obtain ⟨l2,l3,rfl,h2,h3⟩:=h'
 have k1:∀t∈l1,t.2.2≠x:=fun t ht=>hA t (h1.subset ht)
 have k2:∀t∈l2,t.2.2=x∨t.2.2= -1:=fun t ht=>hX t (h2.subset ht)
 have k3:∀t∈l3,t.2.2≠x:=fun t ht=>hC t (h3.subset ht)
 clear h1 h2 h3
 match l1,k1,e with
 |t1::t2::_,k1,e=>
  simp only [List.cons_append,List.map_cons,List.cons.injEq] at e
  rcases hx with h|h
  ·exact k1 t1 (by simp) (by omega)
  ·exact k1 t2 (by simp) (by omega)
 | [t1],k1,e=>
   simp only [List.cons_append,List.nil_append,List.map_cons,List.cons.injEq] at e
   rcases hx with h|h
   ·exact k1 t1 (by simp) (by omega)
   ·match l2,k2,e with
    | [],_,e=>
      match l3,k3,e with
      | [s1,s2,s3],k3,e=>
        simp only [List.nil_append,List.map_cons,List.map_nil,List.cons.injEq,and_true] at e
        exact k3 s1 (by simp) (by omega)
      | [],_,e=>simp at e
      | [_],_,e=>simp at e
      | [_,_],_,e=>simp at e
      |_::_::_::_::_,_,e=>simp at e
    |s1::s2::_,k2,e=>
     simp only [List.cons_append,List.map_cons,List.cons.injEq] at e
     rcases k2 s2 (by simp) with h|h<;>omega
    | [s1],k2,e=>
      match l3,k3,e with
      | [u1,u2],k3,e=>
        simp only [List.cons_append,List.nil_append,List.map_cons,List.map_nil,List.cons.injEq,and_true] at e
        exact k3 u2 (by simp) (by omega)
      | [],_,e=>simp at e
      | [_],_,e=>simp at e
      |_::_::_::_,_,e=>simp at e
 | [],_,e=>
   simp only [List.nil_append] at e
   match l2,k2,e with
   | [],_,e=>
     match l3,k3,e with
     | [],_,e=>simp at e
     | [_],_,e=>simp at e
     |s1::s2::_,k3,e=>
      simp only [List.nil_append,List.map_cons,List.cons.injEq] at e
      rcases hx with h|h
      ·exact k3 s1 (by simp) (by omega)
      ·exact k3 s2 (by simp) (by omega)
   |s1::s2::_,k2,e=>
    simp only [List.cons_append,List.map_cons,List.cons.injEq] at e
    have q1:=k2 s1 (by simp)
    have q2:=k2 s2 (by simp)
    omega
   | [s1],k2,e=>
     match l3,k3,e with
     | [],_,e=>simp at e
     | [_],_,e=>simp at e
     | [_,_],_,e=>simp at e
     |u1::u2::u3::_,k3,e=>
      simp only [List.cons_append,List.nil_append,List.map_cons,List.cons.injEq] at e
      have q1:=k2 s1 (by simp)
      exact k3 u2 (by simp) (by omega)
end Go.Ab
end
section
namespace Go.Ab
open Go.Proofs
set_option maxRecDepth 10000
theorem vK {row:List It} {k:Nat} (h:k<row.length):row.take (k+1)=row.take k++ [row.getD k (0,0,0)]:=by
 rw [List.take_add_one,List.getD_eq_getElem?_getD,List.getElem?_eq_getElem h];rfl
theorem Fz {row:List It} {i j:Nat} (h:i≤j):(row.take i).Sublist (row.take j):=by
 rw [show row.take i=(row.take j).take i by rw [List.take_take,Nat.min_eq_left h]]
 exact List.take_sublist _ _
theorem tZ {row l:List It} {i j:Nat} (h:l.Sublist (row.take i)) (hij:i≤j) (hj:j<row.length):(l++ [row.getD j (0,0,0)]).Sublist (row.take (j+1)):=by
 rw [vK hj]
 exact List.Sublist.append (h.trans (Fz hij)) (List.Sublist.refl _)
def Ou (a b:Int):List It→Prop
 | []=>True
 | [t]=>t.2.2=a∨t.2.2=b
 |s::t::l=>(s.2.2=a∨s.2.2=b)∧s.2.2≠t.2.2∧Ou a b (t::l)
end Go.Ab
end
section
namespace Go.Ab
open Go.Proofs
attribute [local congr] ACall.congr gd.congr Nx.congr
set_option maxRecDepth 10000
end Go.Ab
end
section
namespace Go.Ab
open Go.Proofs
attribute [local congr] ACall.congr gd.congr Nx.congr
set_option maxRecDepth 10000
def Ov (g:Gr) (out:List Int) (x:Nat) (i:Nat):Bool:=(List.range i).all fun j=> !decide (hd g j=(x:Int))||decide (tl g j∈out)
def Rp (g:Gr) (out:List Int) (k:Nat) (f:Bool):Prop:=k≤g.n.toNat∧(if f then 0<k∧wt g out (k - 1)=0∧∀j,j<k - 1→wt g out j≠0 else ∀j,j<k→wt g out j≠0)
def Rq (out:List Int) (k:Nat) (f:Bool):List Int:=if f then out++ [((k - 1:Nat):Int)] else out
end Go.Ab
end
section
namespace Go.Ab
open Go.Proofs
attribute [local congr] ACall.congr gd.congr Nx.congr
set_option maxRecDepth 10000
end Go.Ab
end
section
namespace Go.Ab
open Go.Proofs
set_option maxRecDepth 10000
structure Pl where
 ord:List Int
 outs:List (List Int)
def aG (p:Pl) (k:Nat):Int:=p.ord.getD k 0
def b8 (p:Pl) (x:Int):List Int:=p.outs.getD x.toNat []
def bk (g:Gr) (p:Pl):Prop:=p.outs.length=g.n.toNat∧p.ord.Perm (dP g.n.toNat)∧∀x:Nat,x<g.n.toNat→(p.outs.getD x []).Perm (cm g x)
def fK (g:Gr) (p:Pl):Nat→Fr
 |0=>⟨[], []⟩
 |k+1=>(aC g (fK g p k) (aG p k) (b8 p (aG p k))).2
def dy (g:Gr) (p:Pl) (k:Nat):List It:=(aC g (fK g p k) (aG p k) (b8 p (aG p k))).1.1
def qQ (g:Gr) (p:Pl) (k:Nat):Bool:=az g (fK g p k) (aG p k)
def fO (g:Gr) (p:Pl):Nat→List (List It)
 |0=>List.replicate g.n.toNat []
 |k+1=>(fO g p k).set (aG p k).toNat (dy g p k)
def jU (g:Gr) (p:Pl):Nat→Option Nat
 |0=>none
 |k+1=>match jU g p k with
  |some i=>some i
  |none=>if qQ g p k=true then none else some k
def aY (g:Gr) (p:Pl):Prop:=(bN g).1=0∧bk g p∧∀k,k<g.n.toNat→qQ g p k=true
theorem gr {g:Gr} {p:Pl} :∀ {k:Nat},jU g p k=none↔∀j,j<k→qQ g p j=true
 |0=>by simp [jU]
 |k+1=>by
  rw [jU]
  cases h:jU g p k with
  |some i=>
   simp only [reduceCtorEq,false_iff]
   intro h2
   rw [gr.2 fun j hj=>h2 j (by omega)] at h
   cases h
  |none=>
   have ih:=gr.1 h
   simp only
   constructor
   ·intro h2 j hj
    by_cases hjk:j=k
    ·subst hjk
     refine Decidable.byContradiction fun hn=> ?_
     rw [if_neg hn] at h2;cases h2
    ·exact ih j (by omega)
   ·intro h2
    rw [if_pos (h2 k (by omega))]
theorem ua {g:Gr} {p:Pl} {i:Nat} :∀ {k:Nat},jU g p k=some i↔i<k∧qQ g p i=false∧∀j,j<i→qQ g p j=true
 |0=>by simp [jU]
 |k+1=>by
  rw [jU]
  cases h:jU g p k with
  |some i'=>
   have ih:=(ua (g:=g) (p:=p)).1 h
   simp only [Option.some.injEq]
   constructor
   ·rintro rfl
    exact ⟨by omega,ih.2⟩
   ·rintro ⟨h1,h2,h3⟩
    rcases Nat.lt_trichotomy i' i with h4|h4|h4
    ·rw [h3 i' h4] at ih;simp at ih
    ·exact h4
    ·rw [ih.2.2 i h4] at h2;cases h2
  |none=>
   have ih:=gr.1 h
   simp only
   constructor
   ·intro h2
    by_cases hk:qQ g p k=true
    ·rw [if_pos hk] at h2;cases h2
    ·rw [if_neg hk] at h2
     cases h2
     exact ⟨by omega,by simpa using hk,ih⟩
   ·rintro ⟨h1,h2,h3⟩
    have:i=k:=by
     by_cases h4:i<k
     ·rw [ih i h4] at h2;cases h2
     ·omega
    subst this
    rw [if_neg (by rw [h2];simp)]
theorem lP {n:Nat} :(dP n).length=n:=by simp [dP]
theorem aS {g:Gr} {p:Pl} (h:bk g p):p.ord.length=g.n.toNat:=by rw [h.2.1.length_eq,lP]
theorem cB {g:Gr} {p:Pl} (h:bk g p):p.ord.Nodup:=h.2.1.nodup_iff.2 nw
theorem bF {g:Gr} {p:Pl} (h:bk g p) {k:Nat} (hk:k<g.n.toNat):0≤aG p k∧aG p k<g.n:=by
 have h1:aG p k∈p.ord:=aL (by rw [aS h];exact hk)
 have:=cU.1 (h.2.1.mem_iff.1 h1)
 omega
theorem mC {g:Gr} {p:Pl} (h:bk g p) {i j:Nat} (hi:i<g.n.toNat) (hj:j<g.n.toNat) (e:aG p i=aG p j):i=j:=
 iQ (cB h) (by rw [aS h];exact hi) (by rw [aS h];exact hj) e
theorem gy {g:Gr} {p:Pl} (h:bk g p) {x:Int} (h0:0≤x) (h1:x<g.n):∃k,k<g.n.toNat∧aG p k=x:=by
 have:x∈p.ord:=h.2.1.mem_iff.2 (cU.2 (by omega))
 obtain ⟨k,hk,e⟩:=List.mem_iff_getElem.1 this
 refine ⟨k,by rw [← aS h];exact hk, ?_⟩
 rw [aG,List.getD_eq_getElem?_getD,List.getElem?_eq_getElem hk,Option.getD_some,e]
theorem bJ {g:Gr} {p:Pl} (h:bk g p) {x:Int} (h0:0≤x) (h1:x<g.n):(b8 p x).Perm (cm g x):=by
 have:=h.2.2 x.toNat (by omega)
 rwa [show ((x.toNat:Nat):Int)=x by omega] at this
theorem rM {g:Gr} {p:Pl} (h:bk g p) {x:Int} (h0:0≤x) (h1:x<g.n):(b8 p x).length≤g.es.length:=by
 rw [(bJ h h0 h1).length_eq];exact Fu
theorem bT {g:Gr} (hm:aH g=true) {p:Pl} (h:bk g p):∀ {k:Nat},k≤g.n.toNat→(∀j,j<k→qQ g p j=true)→xM g (fK g p k)∧(fK g p k).pl=p.ord.take k∧(fK g p k).row.length≤k*(g.es.length+1)
 |0,_,_=>⟨oL g,by simp [fK],by simp [fK]⟩
 |k+1,hk,hok=>by
  obtain ⟨h1,h2,h3⟩:=bT hm h (k:=k) (by omega) fun j hj=>hok j (by omega)
  obtain ⟨x0,x1⟩:=bF h (k:=k) (by omega)
  have hl:=vG (g:=g) (f:=fK g p k) (x:=aG p k) (o:=b8 p (aG p k))
  have CX:=rM h x0 x1
  refine ⟨gH hm h1 (hok k (by omega)) (bJ h x0 x1), ?_, ?_⟩
  ·show (fK g p k).pl++ [aG p k]=_
   rw [h2,List.take_add_one,List.getElem?_eq_getElem (by rw [aS h];omega),aG,List.getD_eq_getElem?_getD,List.getElem?_eq_getElem (by rw [aS h];omega)]
   rfl
  ·show (aC _ _ _ _).2.row.length≤_
   rw [Nat.add_mul];omega
theorem FA {g:Gr} {p:Pl} (h:bk g p) {k:Nat} (hk:k<g.n.toNat) (hR:qQ g p k=true):fF g (fK g p k) (aG p k) (b8 p (aG p k))=aC g (fK g p k) (aG p k) (b8 p (aG p k)):=by
 have hp:=bJ h (bF h hk).1 (bF h hk).2
 unfold fF
 have MH:az g (fK g p k) (aG p k)=true:=hR
 rw [if_neg (by rw [MH];simp),if_neg]
 rintro (h|⟨i,h1,h2⟩)
 ·exact h hp.length_eq
 ·exact h2 (hp.mem_iff.2 h1)
theorem FB {g:Gr} {p:Pl} {k:Nat} (hR:qQ g p k=false):fF g (fK g p k) (aG p k) (b8 p (aG p k))=(([],3),fK g p k):=if_pos hR
theorem oN {g:Gr} {p:Pl} :∀ {k:Nat},(fO g p k).length=g.n.toNat
 |0=>by simp [fO]
 |k+1=>by rw [fO,List.length_set,oN]
theorem pW {α:Type} {l:List α} {i j:Nat} {a d:α} (hi:i<l.length):(l.set i a).getD j d=if j=i then a else l.getD j d:=by
 rw [List.getD_eq_getElem?_getD,List.getElem?_set,List.getD_eq_getElem?_getD]
 by_cases h:i=j
 ·subst h;simp [hi]
 ·rw [if_neg h,if_neg (Ne.symm h)]
theorem xN {g:Gr} {p:Pl} (h:bk g p):∀ {k:Nat},k≤g.n.toNat→∀ {i:Nat},i<k→(fO g p k).getD (aG p i).toNat []=dy g p i
 |0,_,i,hi=>by omega
 |k+1,hk,i,hi=>by
  have hm:=bF h (k:=k) (by omega)
  rw [fO,pW (by rw [oN];omega)]
  by_cases e:i=k
  ·subst e;rw [if_pos rfl]
  ·have Mv:=bF h (k:=i) (by omega)
   rw [if_neg (fun h2=>e (mC h (by omega) (by omega) (by omega)))]
   exact xN h (by omega) (by omega)
theorem oO {l m:List Int} (h:gP l=m):l.Perm m:=by
 rw [← h];exact (List.mergeSort_perm l _).symm
theorem zi {n:Nat} :(dP n).Pairwise (· ≤ ·):=by
 unfold dP
 refine List.Pairwise.map _ (fun a b (h:a<b)=> ?_) List.pairwise_lt_range
 show (a:Int)≤b
 omega
theorem Hu {g:Gr} (hm:aH g=true) {p:Pl} :(p.outs.length=g.n.toNat∧p.ord.length=g.n.toNat∧(∀i:Nat,i<(gP p.ord).length→(gP p.ord).getD i 0=i)∧∀x:Nat,x<p.outs.length→gP (p.outs.getD x [])=bq (·.1) g x)↔bk g p:=by
 constructor
 ·rintro ⟨h1,h2,h3,h4⟩
  refine ⟨h1,oO ?_,fun x hx=> ?_⟩
  ·refine List.ext_getElem (by rw [eH,h2,lP]) fun i h5 h6=> ?_
   have:=h3 i h5
   rw [List.getD_eq_getElem?_getD,List.getElem?_eq_getElem h5,Option.getD_some] at this
   rw [this];simp [dP]
  ·have:=h4 x (by omega)
   rw [gm (by omega) (by omega)] at this
   exact oO this
 ·intro h
  refine ⟨h.1,aS h, ?_,fun x hx=> ?_⟩
  ·rw [tX h.2.1 zi]
   intro i hi
   rw [lP] at hi
   simp [dP,List.getD_eq_getElem?_getD,List.getElem?_range hi]
  ·rw [gm (by omega) (by have:=h.1;omega)]
   exact tX (h.2.2 x (by rw [← h.1];exact hx)) qC
end Go.Ab
end
section
namespace Go.Ab
open Go.Proofs
set_option maxRecDepth 10000
def qE (g:Gr) (p:Pl) (f:Fr) (x:Int):Fr:=(aC g f x (b8 p x)).2
def uc (g:Gr) (p:Pl):Nat→Fr→Prop
 |0,f=>(f.pl.length:Int)=g.n
 |m+1,f=>∃x,az g f x=true∧uc g p m (qE g p f x)
theorem ud {g:Gr} {p:Pl} :∀ {m:Nat} {f f':Fr},f.row=f'.row→f.pl.Perm f'.pl→uc g p m f→uc g p m f'
 |0,f,f',_,hp,h=>by
  have h:(f.pl.length:Int)=g.n:=h
  show (f'.pl.length:Int)=g.n
  rw [← hp.length_eq];exact h
 |m+1,f,f',hr,hp,⟨x,h1,h2⟩=>by
  refine ⟨x,by rw [← qD hr hp];exact h1,ud ?_ ?_ h2⟩
  ·simp only [qE,aC,hr]
  ·exact hp.append_right _
theorem zj {g:Gr} (hc:(bN g).1=0) {p:Pl} (hp:bk g p):∀ {m:Nat} {f:Fr},xM g f→(f.pl.length:Int)+(m+1:Nat)=g.n→uc g p (m+1) f→∀ {x:Int},az g f x=true→uc g p m (qE g p f x)
 |m,f,hi,hl,⟨y,qP,hcan⟩,x,hR=>by
  have hm:=an hc
  by_cases hxy:x=y
  ·subst hxy;exact hcan
  have py:=bJ hp (aE qP).1 (aE qP).2.1
  have px:=bJ hp (aE hR).1 (aE hR).2.1
  have i2:=gH hm hi qP py
  match m,hl,hcan with
  |0,hl,hcan=>
   exfalso
   have h1:=jT i2.tofH (by show ((f.pl++ [y]).length:Int)=g.n;simp;omega) (x:=x) ⟨(aE hR).1,(aE hR).2.1⟩
   have h2:x∈f.pl++ [y]:=h1
   simp [(aE hR).2.2,hxy] at h2
  |m+1,hl,hcan=>
   obtain ⟨h4,h5,h6,_⟩:=vJ hc hi hxy hR qP px py
   have h3:=zj hc hp i2 (by show (((f.pl++ [y]).length:Nat):Int)+_=_;simp;omega) hcan h5
   refine ⟨y,h4,ud h6.symm ?_ h3⟩
   show (f.pl++ [y]++ [x]).Perm (f.pl++ [x]++ [y])
   rw [List.append_assoc,List.append_assoc]
   exact List.Perm.append_left _ (List.Perm.swap ..)
theorem zk {g:Gr} {p:Pl} (h:aY g p):∀ {d k:Nat},k+d=g.n.toNat→uc g p d (fK g p k)
 |0,k,hk=>by
  have hn:=aB (an h.1)
  obtain ⟨_,dn,_⟩:=bT (an h.1) h.2.1 (k:=k) (by omega) fun j hj=>h.2.2 j (by omega)
  show ((fK g p k).pl.length:Int)=g.n
  rw [dn,List.length_take,aS h.2.1];omega
 |d+1,k,hk=>⟨aG p k,h.2.2 k (by omega),zk h (k:=k+1) (by omega)⟩
def jl (rev:Bool) (l:List It):List It:=if rev=true then l.reverse else l
def jm (g:Gr) (f:Fr) (rev:Bool):Int:=match (jl rev f.row).find? (fun t=>az g f t.2.2) with
 |some t=>t.2.2
 |none=>(eM g f).headD (-1)
def bK (g:Gr) (p:Pl) (rev:Bool):Nat→Fr
 |0=>⟨[], []⟩
 |k+1=>qE g p (bK g p rev k) (jm g (bK g p rev k) rev)
def fS (g:Gr) (p:Pl) (rev:Bool):Nat→List Int
 |0=>List.replicate g.n.toNat 0
 |k+1=>(fS g p rev k).set (jm g (bK g p rev k) rev).toNat (k:Int)
theorem pY {g:Gr} {p:Pl} {rev:Bool} :∀ {k:Nat},(fS g p rev k).length=g.n.toNat
 |0=>by simp [fS]
 |k+1=>by rw [fS,List.length_set,pY]
theorem gI {g:Gr} (hm:aH g=true) {f:Fr} (hi:fH g f) {x:Int} :x∈eM g f↔az g f x=true:=by
 simp only [eM,kK,List.mem_map,List.mem_filter,List.mem_range]
 constructor
 ·rintro ⟨k,⟨h1,h2⟩,rfl⟩
  rw [← jR hm hi];exact h2
 ·intro h
  obtain ⟨h1,h2,_⟩:=aE h
  have e:((x.toNat:Nat):Int)=x:=by omega
  refine ⟨x.toNat,⟨by omega, ?_⟩,e⟩
  rw [e,jR hm hi];exact h
theorem ue {g:Gr} (hm:aH g=true) {f:Fr} (hi:fH g f) (h:∃x,az g f x=true) (rev:Bool):az g f (jm g f rev)=true:=by
 unfold jm
 cases hf:(jl rev f.row).find? (fun t=>az g f t.2.2) with
 |some t=>
  have h2:=List.find?_some (p:=fun t:It=>az g f t.2.2) hf
  exact h2
 |none=>
  obtain ⟨x,hx⟩:=h
  have hx:=(gI hm hi).2 hx
  match hL:eM g f with
  | []=>rw [hL] at hx;cases hx
  |y::l=>exact (gI hm hi).1 (by rw [hL];simp)
theorem uf {g:Gr} {p:Pl} (h:aY g p) (rev:Bool):∀ {k:Nat},k≤g.n.toNat→xM g (bK g p rev k)∧(bK g p rev k).pl.length=k∧uc g p (g.n.toNat - k) (bK g p rev k)∧(bK g p rev k).row.length≤k*(g.es.length+1)
 |0,_=>⟨oL g,rfl,zk h (k:=0) (by omega),by simp [bK]⟩
 |k+1,hk=>by
  have hm:=an h.1
  have hn:=aB hm
  obtain ⟨h1,h2,h3,h4⟩:=uf h rev (k:=k) (by omega)
  obtain ⟨m,hmm⟩:∃m,g.n.toNat - k=m+1:=⟨g.n.toNat - k - 1,by omega⟩
  rw [hmm] at h3
  have hR:=ue hm h1.tofH (by obtain ⟨x,hx,_⟩:=h3;exact ⟨x,hx⟩) rev
  have hx:=aE hR
  have hp:=bJ h.2.1 hx.1 hx.2.1
  have hl:=vG (g:=g) (f:=bK g p rev k) (x:=jm g (bK g p rev k) rev) (o:=b8 p (jm g (bK g p rev k) rev))
  have CX:=rM h.2.1 hx.1 hx.2.1
  refine ⟨gH hm h1 hR hp,hl.2.trans (by rw [h2]), ?_, ?_⟩
  ·rw [show g.n.toNat - (k+1)=m by omega]
   exact zj h.1 h.2.1 h1 (by omega) h3 hR
  ·show (aC _ _ _ _).2.row.length≤_
   rw [Nat.add_mul];omega
theorem A0 {g:Gr} {p:Pl} (h:aY g p) (rev:Bool) {k:Nat} (hk:k<g.n.toNat):az g (bK g p rev k) (jm g (bK g p rev k) rev)=true∧eM g (bK g p rev k)≠ []:=by
 have hm:=an h.1
 obtain ⟨h1,h2,h3,_⟩:=uf h rev (k:=k) (by omega)
 obtain ⟨m,hmm⟩:∃m,g.n.toNat - k=m+1:=⟨g.n.toNat - k - 1,by omega⟩
 rw [hmm] at h3
 have hR:=ue hm h1.tofH (by obtain ⟨x,hx,_⟩:=h3;exact ⟨x,hx⟩) rev
 exact ⟨hR,fun e=>by
  have:=(gI hm h1.tofH).2 hR
  rw [e] at this;cases this⟩
def Rr (g:Gr) (p:Pl) (rev:Bool):List Int:=(List.range g.n.toNat).map fun k=>jm g (bK g p rev k) rev
end Go.Ab
end
section
namespace Go.Ab
open Go.Proofs
set_option maxRecDepth 10000
def Rt (f:Fr):Fr:=⟨f.row.reverse,f.pl⟩
def Ru (p:Pl):Pl:=⟨p.ord,p.outs.map List.reverse⟩
theorem fz.rev {x:Int} {l:List It} (h:fz x l):fz x l.reverse:=fun t ht=>h t (List.mem_reverse.1 ht)
theorem Mid.rev {x:Int} {X:List It} (h:Mid x X):Mid x X.reverse:=
 ⟨by obtain ⟨X',q,h1,h2⟩:=h.Jk;exact ⟨q,X'.reverse,by simp [h1],h2⟩,by obtain ⟨p,X',h1,h2⟩:=h.fst;exact ⟨X'.reverse,p,by simp [h1],h2⟩,fun t ht=>h.al t (List.mem_reverse.1 ht)⟩
end Go.Ab
end
section
namespace Go.Ab
open Go.Proofs
set_option maxRecDepth 10000
def loose (l:List It):List Int:=(l.filter fun t=>decide (t.1<0)).map fun t=>t.2.1
theorem bL {a b:List It} :loose (a++b)=loose a++loose b:=by simp [loose]
def cx (g:Gr) (p:Pl):Nat→List Edge
 |0=> []
 |k+1=>cx g p k++(loose (dy g p k)).map fun v=>(v,aG p k)
def aW (g:Gr) (p:Pl):List It:=(fK g p g.n.toNat).row
def newL (g:Gr) (p:Pl):List Edge:=if 1<(aW g p).length then (loose (aW g p)).map fun v=>(v,g.n) else []
def bh (g:Gr) (p:Pl):List Edge:=cx g p g.n.toNat++newL g p
def aq (g:Gr) (p:Pl):Gr:=⟨if 1<(aW g p).length then g.n+1 else g.n,g.es++bh g p⟩
def cZ:Nat→List Edge→List (List Int)→List (List Int)
 |_, [],O=>O
 |m,e::N,O=>cZ (m+1) N (O.set e.1.toNat [(m:Int)])
def bG (g:Gr) (p:Pl):Pl:=⟨if 1<(aW g p).length then p.ord++ [g.n] else p.ord,cZ g.es.length (bh g p) (if 1<(aW g p).length then p.outs++ [[]] else p.outs)⟩
def A1 (g:Gr) (p:Pl) (x:Gr):List (List Int):=(List.range x.n.toNat).map fun v=>if 0<(p.outs.getD v []).length then p.outs.getD v [] else cm x (v:Int)
theorem gJ:∀ {m:Nat} {N:List Edge} {O:List (List Int)},(cZ m N O).length=O.length
 |_, [],_=>rfl
 |m,e::N,O=>by rw [cZ,gJ,List.length_set]
theorem oR:∀ {m:Nat} {N M:List Edge} {O:List (List Int)},cZ m (N++M) O=cZ (m+N.length) M (cZ m N O)
 |_, [],_,_=>rfl
 |m,e::N,M,O=>by
  rw [List.cons_append,cZ,cZ,oR,List.length_cons]
  congr 1
  omega
theorem vM:∀ {m:Nat} {N:List Edge} {O:List (List Int)},(∀e∈N,e.1.toNat<O.length)→cZ m N (O++ [[]])=cZ m N O++ [[]]
 |_, [],_,_=>rfl
 |m,e::N,O,h=>by
  rw [cZ,cZ,List.set_append_left _ _ (h e (List.mem_cons_self ..))]
  exact vM fun e' he=>by rw [List.length_set];exact h e' (List.mem_cons_of_mem _ he)
theorem ug {v:Nat} :∀ {m:Nat} {N:List Edge} {O:List (List Int)},(∀e∈N,e.1.toNat<O.length)→(∀e∈N,e.1.toNat≠v)→(cZ m N O).getD v []=O.getD v []
 |_, [],_,_,_=>rfl
 |m,e::N,O,h,hv=>by
  rw [cZ,ug (fun e' he=>by rw [List.length_set];exact h e' (List.mem_cons_of_mem _ he)) fun e' he=>hv e' (List.mem_cons_of_mem _ he),pW (h e (List.mem_cons_self ..)),if_neg (Ne.symm (hv e (List.mem_cons_self ..)))]
theorem BX:∀ {m:Nat} {N:List Edge} {O:List (List Int)},(∀e∈N,0≤e.1∧e.1.toNat<O.length)→(N.map (·.1)).Nodup→∀ {j:Nat},j<N.length→(cZ m N O).getD (N.getD j (0,0)).1.toNat []= [((m+j:Nat):Int)]
 |m,e::N,O,h,hd,0,_=>by
  rw [List.map_cons,List.nodup_cons] at hd
  rw [cZ,List.getD_cons_zero,ug (fun e' he=>by rw [List.length_set];exact (h e' (List.mem_cons_of_mem _ he)).2) (fun e' he h2=>hd.1 ?_),pW (h e (List.mem_cons_self ..)).2,if_pos rfl]
  ·rfl
  ·have h3:=(h e (List.mem_cons_self ..)).1
   have h4:=(h e' (List.mem_cons_of_mem _ he)).1
   exact List.mem_map.2 ⟨e',he,by omega⟩
 |m,e::N,O,h,hd,j+1,hj=>by
  rw [List.map_cons,List.nodup_cons] at hd
  rw [cZ,List.getD_cons_succ,BX (fun e' he=>by rw [List.length_set];exact h e' (List.mem_cons_of_mem _ he)) hd.2 (by simpa using hj)]
  congr 2
  omega
theorem pZ {f:Edge→Int} {es N:List Edge} {x:Int} :aK f (es++N) (es++N).length x=aK f es es.length x++(aK f N N.length x).map (· +(es.length:Int)):=by
 unfold aK
 rw [List.length_append,List.range_add,List.filter_append,List.map_append,List.filter_map,List.map_map,List.map_map]
 congr 1
 ·congr 1
  refine List.filter_congr fun i hi=> ?_
  have:=List.mem_range.1 hi
  rw [List.getD_eq_getElem?_getD,List.getElem?_append_left this, ← List.getD_eq_getElem?_getD]
 ·have e1:(List.range N.length).filter ((fun i=>decide (f ((es++N).getD i (0,0))=x)) ∘ fun x=>es.length+x)=(List.range N.length).filter fun i=>decide (f (N.getD i (0,0))=x):=by
   refine List.filter_congr fun i hi=> ?_
   simp only [Function.comp]
   rw [List.getD_eq_getElem?_getD,List.getElem?_append_right (by omega),Nat.add_sub_cancel_left, ← List.getD_eq_getElem?_getD]
  rw [e1]
  refine List.map_congr_left fun i _=> ?_
  simp only [Function.comp]
  show ((es.length+i:Nat):Int)=(i:Int)+(es.length:Int)
  omega
theorem filter_one {j:Nat} :∀ {n:Nat},j<n→(List.range n).filter (fun i=>decide (i=j))= [j]
 |n+1,h=>by
  rw [List.range_succ,List.filter_append]
  by_cases e:j=n
  ·subst e
   have:(List.range j).filter (fun i=>decide (i=j))= []:=List.filter_eq_nil_iff.2 fun i hi=>by
    have:=List.mem_range.1 hi
    simp;omega
   rw [this];simp
  ·rw [filter_one (by omega)]
   have: [n].filter (fun i=>decide (i=j))= []:=List.filter_eq_nil_iff.2 fun i hi=>by
    rw [List.mem_singleton] at hi
    simp;omega
   rw [this];simp
theorem zm {N:List Edge} (hd:(N.map (·.1)).Nodup) {j:Nat} (hj:j<N.length):aK (·.1) N N.length (N.getD j (0,0)).1= [(j:Int)]:=by
 unfold aK
 have:(List.range N.length).filter (fun i=>decide ((N.getD i (0,0)).1=(N.getD j (0,0)).1))=(List.range N.length).filter (fun i=>decide (i=j)):=by
  refine List.filter_congr fun i hi=> ?_
  have hi:=List.mem_range.1 hi
  rw [decide_eq_decide]
  constructor
  ·intro h
   have e1:∀k,k<N.length→(N.map (·.1)).getD k 0=(N.getD k (0,0)).1:=fun k hk=>by
    simp [List.getD_eq_getElem?_getD,List.getElem?_eq_getElem hk]
   refine iQ hd (by simpa using hi) (by simpa using hj) ?_
   rw [e1 i hi,e1 j hj,h]
  ·rintro rfl;rfl
 rw [this,filter_one hj]
 rfl
theorem iA {f:Edge→Int} {N:List Edge} {v:Int} (h:∀e∈N,f e≠v):aK f N N.length v= []:=by
 unfold aK
 rw [List.map_eq_nil_iff,List.filter_eq_nil_iff]
 intro i hi
 have:=h _ (aL (d:=(0,0)) (List.mem_range.1 hi))
 simpa using this
theorem zn {g:Gr} {x:Int} {o:List Int} (ho:∀i∈o,i∈cm g x):loose (aO g x o)=if o= [] then [x] else []:=by
 unfold aO
 split
 ·rfl
 ·simp only [loose,List.map_eq_nil_iff,List.filter_eq_nil_iff,List.mem_map]
  rintro t ⟨i,hi,rfl⟩
  obtain ⟨k,rfl,_⟩:=oM (ho i hi)
  simp [fR]
theorem jV {g:Gr} (hm:aH g=true) {p:Pl} (h:bk g p):∀ {k:Nat},k≤g.n.toNat→(∀j,j<k→qQ g p j=true)→
 ((cx g p k).map (·.1)++loose (fK g p k).row).Nodup∧∀v∈(cx g p k).map (·.1)++loose (fK g p k).row,v∈(fK g p k).pl∧b8 p v= []
 |0,_,_=>by simp [cx,fK,loose]
 |k+1,hk,hok=>by
  obtain ⟨h1,h2⟩:=jV hm h (k:=k) (by omega) fun j hj=>hok j (by omega)
  obtain ⟨hi,dn,_⟩:=bT hm h (k:=k) (by omega) fun j hj=>hok j (by omega)
  have hR:az g (fK g p k) (aG p k)=true:=hok k (by omega)
  obtain ⟨x0,x1⟩:=bF h (k:=k) (by omega)
  have hx:=(aE hR).2.2
  have BT:=bJ h x0 x1
  obtain ⟨A,X,C,hr,_,_,_,hs⟩:=eO hm hi.tofH hR
  have LH:dy g p k=X:=by unfold dy;rw [hs]
  have hrow:(fK g p (k+1)).row=A++aO g (aG p k) (b8 p (aG p k))++C:=by show (aC _ _ _ _).2.row=_;rw [hs]
  have pI:(fK g p (k+1)).pl=(fK g p k).pl++ [aG p k]:=rfl
  have hla:=zn (g:=g) (x:=aG p k) (o:=b8 p (aG p k)) fun i hi=>BT.mem_iff.1 hi
  have e1:(cx g p (k+1)).map (·.1)=(cx g p k).map (·.1)++loose X:=by
   rw [cx,LH,List.map_append,List.map_map]
   congr 1
   simp [Function.comp_def]
  have e2:loose (fK g p (k+1)).row=loose A++(if b8 p (aG p k)= [] then [aG p k] else [])++loose C:=by rw [hrow,bL,bL,hla]
  have e3:loose (fK g p k).row=loose A++loose X++loose C:=by rw [hr,bL,bL]
  rw [e3] at h1 h2
  have hP:((cx g p (k+1)).map (·.1)++loose (fK g p (k+1)).row).Perm (((cx g p k).map (·.1)++(loose A++loose X++loose C))++(if b8 p (aG p k)= [] then [aG p k] else [])):=by
   rw [e1,e2,List.perm_iff_count]
   intro a
   simp only [List.count_append]
   omega
  constructor
  ·rw [hP.nodup_iff,List.nodup_append]
   refine ⟨h1,by split<;>simp,fun a ha b hb e=>hx ?_⟩
   split at hb
   ·rw [List.mem_singleton] at hb
    rw [← hb, ← e]
    exact (h2 a ha).1
   ·cases hb
  ·intro v hv
   rw [hP.mem_iff,List.mem_append] at hv
   rw [pI,List.mem_append,List.mem_singleton]
   rcases hv with hv|hv
   ·exact ⟨.inl (h2 v hv).1,(h2 v hv).2⟩
   ·split at hv
    ·rw [List.mem_singleton] at hv
     subst hv
     exact ⟨.inr rfl,by assumption⟩
    ·cases hv
theorem fJ {g:Gr} {p:Pl} (hr:aY g p):((bh g p).map (·.1)).Nodup∧∀e∈bh g p,(0≤e.1∧e.1<g.n)∧b8 p e.1= []:=by
 obtain ⟨hc,h,hok⟩:=hr
 have hm:=an hc
 obtain ⟨h1,h2⟩:=jV hm h (k:=g.n.toNat) (Nat.le_refl _) hok
 obtain ⟨hi,_⟩:=bT hm h (k:=g.n.toNat) (Nat.le_refl _) hok
 have e1:(bh g p).map (·.1)=(cx g p g.n.toNat).map (·.1)++if 1<(aW g p).length then loose (aW g p) else []:=by
  rw [bh,newL,List.map_append]
  congr 1
  split
  ·rw [List.map_map];simp [Function.comp_def]
  ·rfl
 have hsub:∀v∈(bh g p).map (·.1),v∈(cx g p g.n.toNat).map (·.1)++loose (aW g p):=by
  intro v hv
  rw [e1,List.mem_append] at hv
  rw [List.mem_append]
  rcases hv with hv|hv
  ·exact .inl hv
  ·split at hv
   ·exact .inr hv
   ·cases hv
 constructor
 ·rw [e1]
  split
  ·exact h1
  ·rw [List.append_nil]
   exact (List.nodup_append.1 h1).1
 ·intro e he
  have:=h2 e.1 (hsub _ (List.mem_map.2 ⟨e,he,rfl⟩))
  exact ⟨hi.oK _ this.1,this.2⟩
theorem lQ {g:Gr} {p:Pl} (h:bk g p) {v:Int} (h0:0≤v) (h1:v<g.n):cm g v= []↔b8 p v= []:=by
 have hp:=bJ h h0 h1
 constructor
 ·intro e;rw [e] at hp;exact hp.eq_nil
 ·intro e;rw [e] at hp;exact hp.symm.eq_nil
theorem uh {g:Gr} {p:Pl} (hr:aY g p):(bG g p).outs=A1 g p (aq g p):=by
 obtain ⟨sy,Af⟩:=fJ hr
 have h:=hr.2.1
 have hm:=an hr.1
 have hn:=aB hm
 generalize hO:(if 1<(aW g p).length then p.outs++ [[]] else p.outs)=O
 have MI:O.length=(aq g p).n.toNat:=by
  rw [← hO]
  unfold aq
  split
  ·rw [List.length_append,h.1];simp;omega
  ·rw [h.1]
 have Rv:∀v,O.getD v []=p.outs.getD v []:=by
  intro v
  rw [← hO]
  split
  ·rw [List.getD_eq_getElem?_getD,List.getD_eq_getElem?_getD,List.getElem?_append]
   split
   ·rfl
   ·rename_i hv
    rw [List.getElem?_eq_none (by omega:p.outs.length≤v)]
    cases Pz:v - p.outs.length<;>simp
  ·rfl
 have S0:g.n.toNat≤O.length:=by rw [← hO];split<;>simp [h.1]
 have nH:∀e∈bh g p,0≤e.1∧e.1.toNat<O.length:=fun e he=>by
  have:=(Af e he).1;omega
 have Of:∀e∈bh g p,e.1.toNat<O.length:=fun e he=>(nH e he).2
 show cZ g.es.length (bh g p) (if 1<(aW g p).length then p.outs++ [[]] else p.outs)=_
 rw [hO]
 refine List.ext_getElem (by rw [gJ,MI];simp [A1]) fun v CH EN=> ?_
 rw [gJ] at CH
 have hL:(cZ g.es.length (bh g p) O).getD v []=(cZ g.es.length (bh g p) O)[v]'(by rw [gJ];exact CH):=by
  rw [List.getD_eq_getElem?_getD,List.getElem?_eq_getElem (by rw [gJ];exact CH)];rfl
 rw [← hL]
 have hD:(A1 g p (aq g p))[v]=if 0<(p.outs.getD v []).length then p.outs.getD v [] else cm (aq g p) (v:Int):=by simp [A1]
 rw [hD]
 have hlv:b8 p (v:Int)=p.outs.getD v []:=by unfold b8;rw [Int.toNat_natCast]
 have hout:cm (aq g p) (v:Int)=cm g (v:Int)++(aK (·.1) (bh g p) (bh g p).length (v:Int)).map (· +(g.es.length:Int)):=pZ
 by_cases hin:∃j,j<(bh g p).length∧((bh g p).getD j (0,0)).1=v
 ·obtain ⟨j,hj,e⟩:=hin
  have hmem:=aL (d:=(0,0)) hj
  obtain ⟨⟨q0,q1⟩,q2⟩:=Af _ hmem
  rw [e] at q0 q1 q2
  rw [hlv] at q2
  rw [q2,if_neg (by simp),hout,(lQ h q0 q1).2 (by rw [hlv];exact q2), ← e,zm sy hj]
  have:=BX (m:=g.es.length) nH sy hj
  rw [e,Int.toNat_natCast] at this
  rw [this]
  simp
  omega
 ·have hno:∀e∈bh g p,e.1≠(v:Int):=fun e he h2=>hin (by
   obtain ⟨j,hj,e1⟩:=List.mem_iff_getElem.1 he
   exact ⟨j,hj,by rw [List.getD_eq_getElem?_getD,List.getElem?_eq_getElem hj,Option.getD_some,e1,h2]⟩)
  rw [ug Of (fun e he h2=>hno e he (by have:=(nH e he).1;omega)),Rv,hout,iA hno]
  simp only [List.map_nil,List.append_nil]
  split
  ·rfl
  ·rename_i hl
   have hl:p.outs.getD v []= []:=List.eq_nil_of_length_eq_zero (by omega)
   rw [hl]
   by_cases Jz:v<g.n.toNat
   ·exact ((lQ h (v:=(v:Int)) (by omega) (by omega)).2 (by rw [hlv];exact hl)).symm
   ·symm
    refine iA fun e he h2=> ?_
    obtain ⟨i,hi,rfl⟩:=List.mem_iff_getElem.1 he
    have:=(cH hm hi).1
    rw [List.getD_eq_getElem?_getD,List.getElem?_eq_getElem hi,Option.getD_some] at this
    omega
end Go.Ab
end
section
namespace Go.Ab
open Go.Proofs
set_option maxRecDepth 10000
abbrev Act:=Int × List Int
def rA (a:Act):List D:= [.sc (.int .i64 a.1),sI a.2]
def sA (as':List Act):D:= .sl 2 (as'.map rA)
attribute [go_sem] sA
def LI (g:Gr) (JA:List Act):Nat→Fr
 |0=>⟨[], []⟩
 |k+1=>(fF g (LI g JA k) (JA.getD k (0, [])).1 (JA.getD k (0, [])).2).2
theorem LJ {g:Gr} {f:Fr} (hi:fH g f):(f.pl.length:Int)≤g.n∨f.pl= []:=by
 by_cases h:f.pl= []
 ·exact .inr h
 ·left
  obtain ⟨y,hy⟩:=List.exists_mem_of_ne_nil _ h
  have:=hi.oK y hy
  have h3:=iS hi.pl (m:=(List.range g.n.toNat).map Int.ofNat) (fun y hy=>by
   rw [List.mem_map]
   have:=hi.oK y hy
   exact ⟨y.toNat,List.mem_range.2 (by omega),by simp;omega⟩)
  simp at h3
  omega
theorem qF (g:Gr) (hm:aH g=true) (f:Fr) (hi:xM g f) (x:Int) (outs:List Int) (hr:f.row.length≤300000) (hp:f.pl.length≤100000) (ho:outs.length≤17592186043904):
 Spec Tryz.prog 83 (Args [.ptr 10000 0,eN x, .d (sI outs)]) (ja g f) (.tup [.d (sT (fF g f x outs).1.1),eN (fF g f x outs).1.2]) (pq g (fF g f x outs).2):=by
 rw [← Fv hm hi.tofH]
 exact AY g hm f x outs hr hp ho
end Go.Ab
end
section
namespace Go.Ab
open Go.Proofs
attribute [local congr] ACall.congr gd.congr Nx.congr
set_option maxRecDepth 10000
set_option maxHeartbeats 4000000
def ePl (p:Pl):AV:= .agg [.d (sI p.ord), .d (.sl 1 (vI p.outs))]
attribute [go_sem] ePl
structure lR (p:Pl):Prop where
 ord:p.ord.length≤17592186043904
 outs:p.outs.length≤9223372036854775807
 each:∀l∈p.outs,l.length≤17592186043904
theorem FC (g:Gr) (hm:aH g=true) (p:Pl) (hp:lR p) (res:Bool) (hr:res=true↔bk g p):Spec Tryz.prog 82 (Args [.d (vw g),ePl p]) [] (eB res) []:=by
 rw [← Hu hm] at hr
 have hn:=aB hm
 have ho:=hp.ord
 have Mp:=hp.outs
 by_cases h1:p.outs.length=g.n.toNat∧p.ord.length=g.n.toNat
 rotate_left
 ·have hres:res=false:=by
   rw [← Bool.not_eq_true,hr]
   rintro ⟨h2,h3,_⟩
   exact h1 ⟨h2,h3⟩
  subst hres
  by_cases h2:(p.outs.length:Int)=g.n
  ·have hb1:decide ((p.outs.length:Int)=g.n)=true:=decide_eq_true h2
   have hb2:decide ((p.ord.length:Int)=g.n)=false:=decide_eq_false fun h3=>h1 ⟨by omega,by omega⟩
   (refine Spec.hd (C:=T.cfg [] []) (rs:= [.t 4]) (T.ah _ _) Tryz.func82 rfl rfl Tryz.ntmps82 Tryz.results82 (by simp [AObj.isNest]) (by simp [AObj.isNest]) (by kernel_rfl) T.mixed fun X hX hP hC aJ bQ=> ?_)
   repeat' (first|refine Rn.p ?_|(with_reducible apply And.intro)|((first|(refine hK _ ?_;clear hK K)|with_reducible intro K hK|refine Rs.p ?_|((with_reducible first|apply oP|apply oQ);exact rfl));try simp only [go_sem,simprocAttr,au,hb1,hb2])|((with_reducible refine oD ?_ ?_);kernel_rfl)|((with_reducible intro h);try simp only [go_sem,simprocAttr,au,hb1,hb2] at h)|omega|intro h)
  ·have hb1:decide ((p.outs.length:Int)=g.n)=false:=decide_eq_false h2
   (refine Spec.hd (C:=T.cfg [] []) (rs:= [.t 4]) (T.ah _ _) Tryz.func82 rfl rfl Tryz.ntmps82 Tryz.results82 (by simp [AObj.isNest]) (by simp [AObj.isNest]) (by kernel_rfl) T.mixed fun X hX hP hC aJ bQ=> ?_)
   repeat' (first|refine Rn.p ?_|(with_reducible apply And.intro)|((first|(refine hK _ ?_;clear hK K)|with_reducible intro K hK|refine Rs.p ?_|((with_reducible first|apply oP|apply oQ);exact rfl));try simp only [go_sem,simprocAttr,au,hb1])|((with_reducible refine oD ?_ ?_);kernel_rfl)|((with_reducible intro h);try simp only [go_sem,simprocAttr,au,hb1] at h)|omega|intro h)
 have hb1:decide ((p.outs.length:Int)=g.n)=true:=decide_eq_true (by omega)
 have hb2:decide ((p.ord.length:Int)=g.n)=true:=decide_eq_true (by omega)
 have Gv:=eH p.ord
 (refine Spec.hd (C:=T.cfg [] []) (rs:= [.t 4]) (T.ah _ _) Tryz.func82 rfl rfl Tryz.ntmps82 Tryz.results82 (by simp [AObj.isNest]) (by simp [AObj.isNest]) (by kernel_rfl) T.mixed fun X hX hP hC aJ bQ=> ?_)
 repeat' (first|refine Rn.p ?_|(with_reducible apply And.intro)|((first|(refine hK _ ?_;clear hK K)|with_reducible intro K hK|refine Rs.p ?_|((with_reducible first|apply oP|apply oQ);exact rfl)|(refine ak hX hC hP [(10000,31)] (cr p.ord) rfl rfl rfl ?_ ?_ ?_ ?_ ?_ ?_ ?_ ?_ ?_ ?_ ?_ ?_ ?_ ?_;(focus (simp only [go_sem,simprocAttr,au,hb1,hb2];done));(iterate 12 (focus (simp [go_sem,simprocAttr,au,hb1,hb2];done)));try simp only [List.map_cons,List.map_nil])|(refine bt hX hC hP [(10000,31)] (bW p.ord ho) rfl rfl rfl ?_ ?_ ?_ ?_ ?_ ?_ rfl rfl ?_ ?_;(focus (simp only [go_sem,simprocAttr,au,hb1,hb2];done));(iterate 6 (focus (simp [go_sem,simprocAttr,au,hb1,hb2];done)));try simp only [List.map_cons,List.map_nil]));try simp only [go_sem,simprocAttr,au,hb1,hb2])|((with_reducible refine oD ?_ ?_);kernel_rfl)|((with_reducible intro h);try simp only [go_sem,simprocAttr,au,hb1,hb2] at h)|omega|intro h)
 clear hb1 hb2
 refine ai (fun k:Nat=>k≤(gP p.ord).length∧∀i:Nat,i<k→(gP p.ord).getD i 0=i) (fun k=>⟨[(0, .d (vw g)),(3, .ptr 3 0),(32, .d (sI (gP p.ord))),(33,eN (gP p.ord).length),(34,eN k)], [(3, .box [.d (sI p.ord), .d (.sl 1 (vI p.outs))])]⟩) (fun k=>(gP p.ord).length - k) 0 (by simp) ?_ ?_
 ·(refine Le.of ?_ ?_<;>simp [go_sem,simprocAttr,au])
 rintro k ⟨hk,hg⟩
 rcases Nat.lt_or_ge k (gP p.ord).length with hlt|hge
 ·have hb:decide ((k:Int)<((gP p.ord).length:Int))=true:=decide_eq_true (by omega)
  by_cases he:(gP p.ord).getD k 0=k
  ·have hb2:decide ((gP p.ord).getD k 0=(k:Int))=true:=decide_eq_true he
   repeat' (first|refine Rn.p ?_|(with_reducible apply And.intro)|((first|(refine hK _ ?_;clear hK K)|with_reducible intro K hK|refine Rs.p ?_|((with_reducible first|apply oP|apply oQ);exact rfl)|(refine ak hX hC hP [(10000,31)] (cr p.ord) rfl rfl rfl ?_ ?_ ?_ ?_ ?_ ?_ ?_ ?_ ?_ ?_ ?_ ?_ ?_ ?_;(focus (simp only [go_sem,simprocAttr,au,hb,hb2];done));(iterate 12 (focus (simp [go_sem,simprocAttr,au,hb,hb2];done)));try simp only [List.map_cons,List.map_nil])|(refine bt hX hC hP [(10000,31)] (bW p.ord ho) rfl rfl rfl ?_ ?_ ?_ ?_ ?_ ?_ rfl rfl ?_ ?_;(focus (simp only [go_sem,simprocAttr,au,hb,hb2];done));(iterate 6 (focus (simp [go_sem,simprocAttr,au,hb,hb2];done)));try simp only [List.map_cons,List.map_nil]));try simp only [go_sem,simprocAttr,au,hb,hb2])|((with_reducible refine oD ?_ ?_);kernel_rfl)|((with_reducible intro h);try simp only [go_sem,simprocAttr,au,hb,hb2] at h)|omega|intro h)
   refine ⟨k+1,⟨by omega,fun i hi=> ?_⟩, ?_,by omega⟩
   ·by_cases hik:i=k
    ·subst hik;exact he
    ·exact hg i (by omega)
   ·(refine Le.of ?_ ?_<;>simp [go_sem,simprocAttr,au,hb,hb2])
  ·have hb2:decide ((gP p.ord).getD k 0=(k:Int))=false:=decide_eq_false he
   have hres:res=false:=by
    rw [← Bool.not_eq_true,hr]
    rintro ⟨_,_,h3,_⟩
    exact he (h3 k hlt)
   subst hres
   repeat' (first|refine Rn.p ?_|(with_reducible apply And.intro)|((first|(refine hK _ ?_;clear hK K)|with_reducible intro K hK|refine Rs.p ?_|((with_reducible first|apply oP|apply oQ);exact rfl)|(refine ak hX hC hP [(10000,31)] (cr p.ord) rfl rfl rfl ?_ ?_ ?_ ?_ ?_ ?_ ?_ ?_ ?_ ?_ ?_ ?_ ?_ ?_;(focus (simp only [go_sem,simprocAttr,au,hb,hb2];done));(iterate 12 (focus (simp [go_sem,simprocAttr,au,hb,hb2];done)));try simp only [List.map_cons,List.map_nil])|(refine bt hX hC hP [(10000,31)] (bW p.ord ho) rfl rfl rfl ?_ ?_ ?_ ?_ ?_ ?_ rfl rfl ?_ ?_;(focus (simp only [go_sem,simprocAttr,au,hb,hb2];done));(iterate 6 (focus (simp [go_sem,simprocAttr,au,hb,hb2];done)));try simp only [List.map_cons,List.map_nil]));try simp only [go_sem,simprocAttr,au,hb,hb2])|((with_reducible refine oD ?_ ?_);kernel_rfl)|((with_reducible intro h);try simp only [go_sem,simprocAttr,au,hb,hb2] at h)|omega|intro h)
 have hb:decide ((k:Int)<((gP p.ord).length:Int))=false:=decide_eq_false (by omega)
 repeat' (first|refine Rn.p ?_|(with_reducible apply And.intro)|((first|(refine hK _ ?_;clear hK K)|with_reducible intro K hK|refine Rs.p ?_|((with_reducible first|apply oP|apply oQ);exact rfl)|(refine ak hX hC hP [(10000,31)] (cr p.ord) rfl rfl rfl ?_ ?_ ?_ ?_ ?_ ?_ ?_ ?_ ?_ ?_ ?_ ?_ ?_ ?_;(focus (simp only [go_sem,simprocAttr,au,hb];done));(iterate 12 (focus (simp [go_sem,simprocAttr,au,hb];done)));try simp only [List.map_cons,List.map_nil])|(refine bt hX hC hP [(10000,31)] (bW p.ord ho) rfl rfl rfl ?_ ?_ ?_ ?_ ?_ ?_ rfl rfl ?_ ?_;(focus (simp only [go_sem,simprocAttr,au,hb];done));(iterate 6 (focus (simp [go_sem,simprocAttr,au,hb];done)));try simp only [List.map_cons,List.map_nil]));try simp only [go_sem,simprocAttr,au,hb])|((with_reducible refine oD ?_ ?_);kernel_rfl)|((with_reducible intro h);try simp only [go_sem,simprocAttr,au,hb] at h)|omega|intro h)
 obtain rfl:k=(gP p.ord).length:=by omega
 clear hb hk
 refine ai (fun x:Nat=>x≤p.outs.length∧∀i:Nat,i<x→gP (p.outs.getD i [])=bq (·.1) g i) (fun x=>⟨[(0, .d (vw g)),(44, .d (.sl 1 (vI p.outs))),(45,eN p.outs.length),(46,eN x)], []⟩) (fun x=>p.outs.length - x) 0 (by simp) ?_ ?_
 ·refine Le.of ?_ ?_<;>simp [go_sem,simprocAttr,au]
 rintro x ⟨hx,FD⟩
 rcases Nat.lt_or_ge x p.outs.length with hxl|Rw
 ·have hb:decide ((x:Int)<(p.outs.length:Int))=true:=decide_eq_true (by omega)
  have hv:=fG hxl
  have hl:=hp.each _ (aL (d:= []) hxl)
  have hn2:∀h:gP (p.outs.getD x [])=bq (·.1) g x,∀i:Nat,i<x+1→gP (p.outs.getD i [])=bq (·.1) g i:=fun h i hi=>by
   by_cases Ow:i=x
   ·subst Ow;exact h
   ·exact FD i (by omega)
  have uU:¬gP (p.outs.getD x [])=bq (·.1) g x→res=false:=fun h=>by
   rw [← Bool.not_eq_true,hr]
   rintro ⟨_,_,_,h4⟩
   exact h (h4 x hxl)
  generalize p.outs.getD x []=l at hv hl hn2 uU
  have Rx:=eH l
  by_cases he:gP l=bq (·.1) g x
  ·have hb2:decide (gP l=bq (·.1) g (x:Int))=true:=decide_eq_true he
   repeat' (first|refine Rn.p ?_|(with_reducible apply And.intro)|((first|(refine hK _ ?_;clear hK K)|with_reducible intro K hK|refine Rs.p ?_|((with_reducible first|apply oP|apply oQ);exact rfl)|(refine ak hX hC hP [(10000,52)] (cr l) rfl rfl rfl ?_ ?_ ?_ ?_ ?_ ?_ ?_ ?_ ?_ ?_ ?_ ?_ ?_ ?_;(focus (simp only [go_sem,simprocAttr,hb,hv,hb2];done));(iterate 12 (focus (simp [go_sem,simprocAttr,hb,hv,hb2];done)));try simp only [List.map_cons,List.map_nil])|(refine bt hX hC hP [(10000,52)] (bW l hl) rfl rfl rfl ?_ ?_ ?_ ?_ ?_ ?_ rfl rfl ?_ ?_;(focus (simp only [go_sem,simprocAttr,hb,hv,hb2];done));(iterate 6 (focus (simp [go_sem,simprocAttr,hb,hv,hb2];done)));try simp only [List.map_cons,List.map_nil])|refine aa hX hC hP (iy g hm (x:Int)) rfl rfl rfl (by simp only [go_sem,simprocAttr,hb,hv,hb2]) rfl ?_|refine aa hX hC hP (fk (gP l) (bq (·.1) g x) (by omega)) rfl rfl rfl (by simp only [go_sem,simprocAttr,hb,hv,hb2]) rfl ?_);try simp only [go_sem,simprocAttr,hb,hv,hb2])|((with_reducible refine oD ?_ ?_);kernel_rfl)|((with_reducible intro h);try simp only [go_sem,simprocAttr,hb,hv,hb2] at h)|omega|intro h)
   refine ⟨x+1,⟨by omega,hn2 he⟩, ?_,by omega⟩
   (refine Le.of ?_ ?_<;>simp [go_sem,simprocAttr,hb,hv,hb2])
  ·have hb2:decide (gP l=bq (·.1) g (x:Int))=false:=decide_eq_false he
   have hres:=uU he
   subst hres
   repeat' (first|refine Rn.p ?_|(with_reducible apply And.intro)|((first|(refine hK _ ?_;clear hK K)|with_reducible intro K hK|refine Rs.p ?_|((with_reducible first|apply oP|apply oQ);exact rfl)|(refine ak hX hC hP [(10000,52)] (cr l) rfl rfl rfl ?_ ?_ ?_ ?_ ?_ ?_ ?_ ?_ ?_ ?_ ?_ ?_ ?_ ?_;(focus (simp only [go_sem,simprocAttr,hb,hv,hb2];done));(iterate 12 (focus (simp [go_sem,simprocAttr,hb,hv,hb2];done)));try simp only [List.map_cons,List.map_nil])|(refine bt hX hC hP [(10000,52)] (bW l hl) rfl rfl rfl ?_ ?_ ?_ ?_ ?_ ?_ rfl rfl ?_ ?_;(focus (simp only [go_sem,simprocAttr,hb,hv,hb2];done));(iterate 6 (focus (simp [go_sem,simprocAttr,hb,hv,hb2];done)));try simp only [List.map_cons,List.map_nil])|refine aa hX hC hP (iy g hm (x:Int)) rfl rfl rfl (by simp only [go_sem,simprocAttr,hb,hv,hb2]) rfl ?_|refine aa hX hC hP (fk (gP l) (bq (·.1) g x) (by omega)) rfl rfl rfl (by simp only [go_sem,simprocAttr,hb,hv,hb2]) rfl ?_);try simp only [go_sem,simprocAttr,hb,hv,hb2])|((with_reducible refine oD ?_ ?_);kernel_rfl)|((with_reducible intro h);try simp only [go_sem,simprocAttr,hb,hv,hb2] at h)|omega|intro h)
 ·have hb:decide ((x:Int)<(p.outs.length:Int))=false:=decide_eq_false (by omega)
  obtain rfl:x=p.outs.length:=by omega
  have hres:res=true:=hr.2 ⟨h1.1,h1.2,fun i hi=>hg i (by omega),FD⟩
  subst hres
  repeat' (first|refine Rn.p ?_|(with_reducible apply And.intro)|((first|(refine hK _ ?_;clear hK K)|with_reducible intro K hK|refine Rs.p ?_|((with_reducible first|apply oP|apply oQ);exact rfl)|(refine ak hX hC hP [(10000,52)] (cr l) rfl rfl rfl ?_ ?_ ?_ ?_ ?_ ?_ ?_ ?_ ?_ ?_ ?_ ?_ ?_ ?_;(focus (simp only [go_sem,simprocAttr,hb];done));(iterate 12 (focus (simp [go_sem,simprocAttr,hb];done)));try simp only [List.map_cons,List.map_nil])|(refine bt hX hC hP [(10000,52)] (bW l hl) rfl rfl rfl ?_ ?_ ?_ ?_ ?_ ?_ rfl rfl ?_ ?_;(focus (simp only [go_sem,simprocAttr,hb];done));(iterate 6 (focus (simp [go_sem,simprocAttr,hb];done)));try simp only [List.map_cons,List.map_nil])|refine aa hX hC hP (iy g hm (x:Int)) rfl rfl rfl (by simp only [go_sem,simprocAttr,hb]) rfl ?_|refine aa hX hC hP (fk (gP l) (bq (·.1) g x) (by omega)) rfl rfl rfl (by simp only [go_sem,simprocAttr,hb]) rfl ?_);try simp only [go_sem,simprocAttr,hb])|((with_reducible refine oD ?_ ?_);kernel_rfl)|((with_reducible intro h);try simp only [go_sem,simprocAttr,hb] at h)|omega|intro h)
end Go.Ab
end
section
namespace Go.Ab
open Go.Proofs
attribute [local congr] ACall.congr gd.congr Nx.congr
set_option maxRecDepth 10000
set_option maxHeartbeats 8000000
def Ry (m:Nat) (fl:List Int):List Int:=(List.range m).map fun i:Nat=>if (i:Int)∈fl then (1:Int) else 0
theorem FE {g:Gr} {x i:Int} :i∈cm g x↔(0≤i∧i<g.es.length)∧(g.es.getD i.toNat (0,0)).1=x:=by
 constructor
 ·exact iz
 ·rintro ⟨⟨h1,h2⟩,h3⟩
  simp only [cm,aK,List.mem_map,List.mem_filter,List.mem_range,decide_eq_true_eq]
  exact ⟨i.toNat,⟨by omega,h3⟩,by simp;omega⟩
end Go.Ab
end
section
namespace Go.Ab
open Go.Proofs
attribute [local congr] ACall.congr gd.congr Nx.congr
set_option maxRecDepth 10000
set_option maxHeartbeats 8000000
def bP (b:Bool) (g:Gr) (p:Pl):(List (List It) × List It) × Int × Int:=
 if b=false then (([], []),(1,0)) else
 match jU g p g.n.toNat with
 |some i=>(([], []),(3,(i:Int)))
 |none=>((fO g p g.n.toNat,(fK g p g.n.toNat).row),(0,0))
theorem JB {n:Nat} :List.replicate n [D.sl 3 []]=vT (List.replicate n []):=by simp [vT,sT]
theorem JC {ls:List (List It)} {k:Nat} {l:List It} :(vT ls).set k [sT l]=vT (ls.set k l):=by simp [vT,List.map_set]
theorem Dj {g:Gr} {p:Pl} {k:Nat} :fO g p (k+1)=(fO g p k).set (aG p k).toNat (dy g p k):=rfl
end Go.Ab
end
section
namespace Go.Ab
open Go.Proofs
attribute [local congr] ACall.congr gd.congr Nx.congr
set_option maxRecDepth 10000
set_option maxHeartbeats 8000000
theorem dG (g:Gr) (hl:g.es.length≤1000) (p:Pl) (hp:lR p) (b:Bool) (hr:b=true↔(bN g).1=0∧bk g p):
 Spec Tryz.prog 37 (Args [eG g,ePl p]) [] (.tup [.d (.sl 1 (vT (bP b g p).1.1)), .d (sT (bP b g p).1.2),eF ((bP b g p).2.1,(bP b g p).2.2, [])]) []:=by
 by_cases hc:(bN g).1=0
 rotate_left
 ·obtain rfl:b=false:=by
   rw [← Bool.not_eq_true,hr]
   exact fun h=>hc h.1
  have hR:bP false g p=(([], []),(1,0)):=rfl
  rw [hR]
  (refine Spec.hd (C:=T.cfg [] []) (rs:= [.t 4, .t 5, .c 6 66]) (T.ah _ _) Tryz.func37 rfl rfl Tryz.ntmps37 Tryz.results37 (by simp [AObj.isNest]) (by simp [AObj.isNest]) (by kernel_rfl) T.mixed fun X hX hP hC aJ bQ=> ?_)
  repeat' (first|refine Rn.p ?_|(with_reducible apply And.intro)|((first|(refine hK _ ?_;clear hK K)|with_reducible intro K hK|refine Rs.p ?_|((with_reducible first|apply oP|apply oQ);exact rfl)|refine aa hX hC hP (Dc g hl hc) rfl rfl rfl (by simp only [go_sem,simprocAttr,vT,List.map_nil]) rfl ?_);try simp only [go_sem,simprocAttr,vT,List.map_nil])|((with_reducible refine oD ?_ ?_);kernel_rfl)|((with_reducible intro h);try simp only [go_sem,simprocAttr,vT,List.map_nil] at h)|omega|intro h)
 have hm:=an hc
 have hn:=aB hm
 have hr:b=true↔bk g p:=by rw [hr];exact ⟨fun h=>h.2,fun h=>⟨hc,h⟩⟩
 have hO:=FC g hm p hp b hr
 cases b with
 |false=>
  have hR:bP false g p=(([], []),(1,0)):=rfl
  rw [hR]
  (refine Spec.hd (C:=T.cfg [] []) (rs:= [.t 4, .t 5, .c 6 66]) (T.ah _ _) Tryz.func37 rfl rfl Tryz.ntmps37 Tryz.results37 (by simp [AObj.isNest]) (by simp [AObj.isNest]) (by kernel_rfl) T.mixed fun X hX hP hC aJ bQ=> ?_)
  repeat' (first|refine Rn.p ?_|(with_reducible apply And.intro)|((first|(refine hK _ ?_;clear hK K)|with_reducible intro K hK|refine Rs.p ?_|((with_reducible first|apply oP|apply oQ);exact rfl)|(refine iI hX hC hP [(10000,13)] (pS g hl hc hm) rfl rfl rfl ?_ ?_ ?_ ?_ ?_ ?_ ?_ ?_ ?_ ?_ ?_ ?_ ?_ ?_;(focus (simp only [go_sem,simprocAttr,vT,List.map_nil];done));(iterate 12 (focus (simp [go_sem,simprocAttr,vT,List.map_nil];done)));try simp only [List.map_cons,List.map_nil])|refine aa hX hC hP (gS g hm) rfl rfl rfl (by simp only [go_sem,simprocAttr,vT,List.map_nil]) rfl ?_|refine aa hX hC hP (hO) rfl rfl rfl (by simp only [go_sem,simprocAttr,vT,List.map_nil]) rfl ?_);try simp only [go_sem,simprocAttr,vT,List.map_nil])|((with_reducible refine oD ?_ ?_);kernel_rfl)|((with_reducible intro h);try simp only [go_sem,simprocAttr,vT,List.map_nil] at h)|omega|intro h)
 |true=>
 have x9:=hr.1 rfl
 have hle:=aS x9
 have hR:bP true g p=match jU g p g.n.toNat with
  |some i=>(([], []),(3,(i:Int)))
  |none=>((fO g p g.n.toNat,(fK g p g.n.toNat).row),(0,0)):=rfl
 generalize bP true g p=R at hR
 (refine Spec.hd (C:=T.cfg [] []) (rs:= [.t 4, .t 5, .c 6 66]) (T.ah _ _) Tryz.func37 rfl rfl Tryz.ntmps37 Tryz.results37 (by simp [AObj.isNest]) (by simp [AObj.isNest]) (by kernel_rfl) T.mixed fun X hX hP hC aJ bQ=> ?_)
 repeat' (first|(show bV _ (.seq (.region 5 _ _) _) _ _;(refine yQ 13 0 3 rfl rfl rfl ?_;simp only [List.set_cons_zero,List.set_cons_succ,go_sem,simprocAttr]);(refine jD hX 13 2 100 (.tip 3 1 []) rfl rfl rfl (by simp only [go_sem,simprocAttr]) (by decide) (by simp [go_sem,simprocAttr]) ⟨3,1,by decide, .inr rfl⟩ ?_;simp only [List.set_cons_zero,List.set_cons_succ,go_sem,simprocAttr]))|refine Rn.p ?_|(with_reducible apply And.intro)|((first|(refine hK _ ?_;clear hK K)|with_reducible intro K hK|refine Rs.p ?_|((with_reducible first|apply oP|apply oQ);exact rfl)|(refine iI hX hC hP [(10000,13)] (pS g hl hc hm) rfl rfl rfl ?_ ?_ ?_ ?_ ?_ ?_ ?_ ?_ ?_ ?_ ?_ ?_ ?_ ?_;(focus (simp only [go_sem,simprocAttr];done));(iterate 12 (focus (simp [go_sem,simprocAttr];done)));try simp only [List.map_cons,List.map_nil])|refine aa hX hC hP (gS g hm) rfl rfl rfl (by simp only [go_sem,simprocAttr]) rfl ?_|refine aa hX hC hP (hO) rfl rfl rfl (by simp only [go_sem,simprocAttr]) rfl ?_);try simp only [go_sem,simprocAttr])|((with_reducible refine oD ?_ ?_);kernel_rfl)|((with_reducible intro h);try simp only [go_sem,simprocAttr] at h)|omega|intro h)
 rw [JB]
 refine ai (fun k:Nat=>k≤g.n.toNat∧∀j,j<k→qQ g p j=true) (fun k=>⟨[(3, .ptr 3 0),(4, .ref 28),(6, .ptr 6 0),(7, .ptr 13 0),(30, .d (sI p.ord)),(31,eN p.ord.length),(32,eN k)], [(28, .own 64 1 (vT (fO g p k))),(13, .box [.d (sT (fK g p k).row), .d (vw g), .ref 100]),(100, .tip 3 1 ((fK g p k).pl.map rI)),(6, .box [eN 0,eN 0, .nil 3]),(3, .box [.d (sI p.ord), .d (.sl 1 (vI p.outs))])]⟩) (fun k=>g.n.toNat - k) 0 (by simp) ?_ ?_
 ·refine Le.of ?_ ?_<;>simp [go_sem,simprocAttr,Rb,fK,fO]
 rintro k ⟨hk,hok⟩
 obtain ⟨hi,_,hrl⟩:=bT hm x9 hk hok
 have hel:=oN (g:=g) (p:=p) (k:=k)
 have hmul:k*(g.es.length+1)≤64*129:=Nat.mul_le_mul (by omega) (by omega)
 rcases Nat.lt_or_ge k g.n.toNat with hlt|hge
 ·have hb:decide ((k:Int)<(p.ord.length:Int))=true:=decide_eq_true (by omega)
  have LL:=bF x9 hlt
  have cn:=Dj (g:=g) (p:=p) (k:=k)
  have J8:fK g p (k+1)=(aC g (fK g p k) (aG p k) (b8 p (aG p k))).2:=rfl
  have FD:dy g p k=(aC g (fK g p k) (aG p k) (b8 p (aG p k))).1.1:=rfl
  have hpk:=FA x9 hlt
  have LM:=FB (g:=g) (p:=p) (k:=k)
  have hsk:qQ g p k=false→R=(([], []),(3,(k:Int))):=fun h=>by
   rw [hR,ua.2 ⟨hlt,h,hok⟩]
  have jh:=rM x9 LL.1 LL.2
  have k6:p.ord.getD k 0=aG p k:=rfl
  have LN:(fK g p k).pl.length≤64:=by
   rcases LJ hi.tofH with h|h
   ·omega
   ·rw [h];simp
  obtain ⟨x,hx⟩:∃x:Nat,aG p k=x:=⟨(aG p k).toNat,by omega⟩
  rw [hx] at k6 J8 FD hpk LM LL jh cn
  have hxl:x<p.outs.length:=by have:=x9.1;omega
  have hv:=fG hxl
  have hla:b8 p (x:Int)=p.outs.getD x []:=by unfold b8;rw [Int.toNat_natCast]
  rw [hla] at J8 FD hpk LM jh
  rw [Int.toNat_natCast] at cn
  have Dk:=qF g hm (fK g p k) hi (x:Int) (p.outs.getD x []) (by omega) (by omega) (by omega)
  have dH:=JC (ls:=fO g p k) (k:=x) (l:=dy g p k)
  generalize p.outs.getD x []=o at hv J8 FD hpk LM Dk
  rw [← cn] at dH
  generalize fK g p k=f at J8 FD hpk LM Dk hi hrl LN
  have MJ:x<(fO g p k).length:=by omega
  have hvl:(vT (fO g p k)).length=(fO g p k).length:=vT_length
  cases Hv:qQ g p k with
  |false=>
   rw [LM Hv] at Dk
   simp only at Dk
   have Rz:=hsk Hv
   subst Rz
   repeat' (first|refine Rn.p ?_|(with_reducible apply And.intro)|((first|(refine hK _ ?_;clear hK K)|with_reducible intro K hK|refine Rs.p ?_|((with_reducible first|apply oP|apply oQ);exact rfl)|(refine ak hX hC hP [(10000,13),(10001,100),(10002,101)] (Dk) rfl rfl rfl ?_ ?_ ?_ ?_ ?_ ?_ ?_ ?_ ?_ ?_ ?_ ?_ ?_ ?_;(focus (simp only [go_sem,simprocAttr,hb,k6,hv,ja,pq,List.map_nil];done));(iterate 12 (focus (simp [go_sem,simprocAttr,hb,k6,hv,ja,pq,List.map_nil];done)));try simp only [List.map_cons,List.map_nil]));try simp only [go_sem,simprocAttr,hb,k6,hv,ja,pq,List.map_nil])|((with_reducible refine oD ?_ ?_);kernel_rfl)|((with_reducible intro h);try simp only [go_sem,simprocAttr,hb,k6,hv,ja,pq,List.map_nil] at h)|omega|intro h)
   all_goals rfl
  |true=>
   rw [hpk Hv] at Dk
   have uj:(aC g f (x:Int) o).1.2=0:=rfl
   rw [FD] at dH
   generalize aC g f (x:Int) o=su at J8 FD Dk uj dH
   generalize S1:fO g p k=E at dH MJ hel hvl
   have FF:=fun d=>rL MJ d
   repeat' (first|(show bV _ (.region 11 _ _) _ _;(refine dJ hX 13 2 101 100 rfl rfl rfl (by first|exact .inl rfl|exact .inr rfl) (by decide) (by decide) ?_;simp only [List.set_cons_zero,List.set_cons_succ,go_sem,simprocAttr,hb,k6,hv,ja,pq,uj,dH,FF,List.drop_succ_cons,List.drop_zero]))|refine Rn.p ?_|(with_reducible apply And.intro)|((first|(refine hK _ ?_;clear hK K)|with_reducible intro K hK|refine Rs.p ?_|((with_reducible first|apply oP|apply oQ);exact rfl)|(refine ak hX hC hP [(10000,13),(10001,100),(10002,101)] (Dk) rfl rfl rfl ?_ ?_ ?_ ?_ ?_ ?_ ?_ ?_ ?_ ?_ ?_ ?_ ?_ ?_;(focus (simp only [go_sem,simprocAttr,hb,k6,hv,ja,pq,uj,dH,FF,List.drop_succ_cons,List.drop_zero];done));(iterate 12 (focus (simp [go_sem,simprocAttr,hb,k6,hv,ja,pq,uj,dH,FF,List.drop_succ_cons,List.drop_zero];done)));try simp only [List.map_cons,List.map_nil]));try simp only [go_sem,simprocAttr,hb,k6,hv,ja,pq,uj,dH,FF,List.drop_succ_cons,List.drop_zero])|((with_reducible refine oD ?_ ?_);kernel_rfl)|((with_reducible intro h);try simp only [go_sem,simprocAttr,hb,k6,hv,ja,pq,uj,dH,FF,List.drop_succ_cons,List.drop_zero] at h)|omega|intro h)
   refine ⟨k+1,⟨by omega,fun j hj=> ?_⟩, ?_,by omega⟩
   ·by_cases e:j=k
    ·subst e;exact Hv
    ·exact hok j (by omega)
   ·rw [J8]
    have LO:(vT E).set x [D.sl 3 (List.map rT su.1.1)]=vT (fO g p (k+1)):=dH
    refine Le.of ?_ ?_<;>simp [go_sem,simprocAttr,hb,k6,hv,ja,pq,uj,dH,FF,List.drop_succ_cons,List.drop_zero,LO]
 have hb:decide ((k:Int)<(p.ord.length:Int))=false:=decide_eq_false (by omega)
 obtain rfl:k=g.n.toNat:=by omega
 rw [gr.2 hok] at hR
 subst hR
 repeat' (first|refine Rn.p ?_|(with_reducible apply And.intro)|((first|(refine hK _ ?_;clear hK K)|with_reducible intro K hK|refine Rs.p ?_|((with_reducible first|apply oP|apply oQ);exact rfl)|(refine lD hX hC hP 60 (Da [vw g,sI (fK g p g.n.toNat).pl] (fK g p g.n.toNat).row (by omega)) rfl rfl rfl ?_ ?_ (by first|exact ⟨_,_,_,rfl,oy⟩|exact ⟨_,_,_,rfl,oz⟩|exact ⟨_,_,_,rfl,oJ⟩) rfl (by decide) ?_;(iterate 2 (focus (simp only [go_sem,simprocAttr,hb];done)));simp only [go_sem,simprocAttr,hb]));try simp only [go_sem,simprocAttr,hb])|((with_reducible refine oD ?_ ?_);kernel_rfl)|((with_reducible intro h);try simp only [go_sem,simprocAttr,hb] at h)|omega|intro h)
end Go.Ab
end
