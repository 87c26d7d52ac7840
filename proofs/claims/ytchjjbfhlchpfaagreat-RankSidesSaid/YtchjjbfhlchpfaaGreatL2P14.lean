/- A part of the proof. -/
import Derived.Test.YtchjjbfhlchpfaaGreatL2P13
set_option linter.unusedSimpArgs false
set_option linter.unusedVariables false
section
namespace Go.Ab
open Go.Proofs
attribute [local congr] ACall.congr
set_option maxRecDepth 10000
set_option maxHeartbeats 4000000
theorem bn (ps:List Int) (x:Int) (hl:ps.length≤9223372036854775807):Spec Tryz.prog 165 (Args [.d (sI ps),eN x]) [] (eB (decide (x∈ps))) []:=by
 (refine Spec.intro (C:=T.cfg [] []) (rs:= [.t 4]) (T.ai _ _) Tryz.func165 rfl rfl Tryz.ntmps165 Tryz.results165 (by simp [AObj.isNest]) (by simp [AObj.isNest]) (by kernel_rfl) ?_;intro X hX hP hC aG aH vals hA;refine ⟨_,by simp,hA, ?_⟩;have af:X.P.follows .mixedOrders=true:=(by rw [hP];exact T.mixed);clear aG aH)
 repeat' (first|((first|((with_reducible (first|apply oA|apply oB));exact rfl;intro K hK)|(refine hK _ ?_;clear hK K)|((with_reducible (first|apply oG|apply oH));iterate 3 exact rfl)|((with_reducible apply oI);(iterate 2 exact rfl);intro K hK)|(with_reducible (first|apply wI|apply wJ|apply wK)));try simp only [go_sem,simprocAttr])|(with_reducible (first|apply oC|apply oJ|exact oK|apply wA|apply wB|apply wC hX hC|apply wD hX hC|apply wE hX hC af|apply wF hX hC af|apply wG|apply wH|apply And.intro))|((with_reducible refine oD ?_ ?_);kernel_rfl)|((with_reducible (first|apply oE|apply oF));(iterate 3 exact rfl);all_goals (intro h;first|(exact absurd h (by decide))|((try simp only [go_sem,simprocAttr] at h);(try with_reducible intro K hK);simp only [go_sem,simprocAttr])))|((first|((with_reducible apply wL);exact rfl)|((with_reducible apply wM);exact rfl));all_goals (try ((with_reducible intro h);first|(exact absurd h (by decide))|(try simp only [go_sem,simprocAttr] at h))))|omega|(intro h))
 refine aj (fun k:Nat=>k≤ps.length∧∀j,j<k→ps.getD j 0≠x) (fun k=>⟨[(0, .d (sI ps)),(1,eN x),(5,eN k)], []⟩) (fun k=>ps.length - k) 0 (by simp) ?_ ?_
 ·(refine ⟨bQ ?_,fun _ _ h=>h⟩;simp [go_sem,simprocAttr])
 rintro k ⟨hk,hg⟩
 rcases Nat.lt_or_ge k ps.length with hlt|hge
 ·have hb:decide ((k:Int)<(ps.length:Int))=true:=decide_eq_true (by omega)
  repeat' (first|((first|((with_reducible (first|apply oA|apply oB));exact rfl;intro K hK)|(refine hK _ ?_;clear hK K)|((with_reducible (first|apply oG|apply oH));iterate 3 exact rfl)|((with_reducible apply oI);(iterate 2 exact rfl);intro K hK)|(with_reducible (first|apply wI|apply wJ|apply wK)));try simp only [go_sem,simprocAttr,hb])|(with_reducible (first|apply oC|apply oJ|exact oK|apply wA|apply wB|apply wC hX hC|apply wD hX hC|apply wE hX hC af|apply wF hX hC af|apply wG|apply wH|apply And.intro))|((with_reducible refine oD ?_ ?_);kernel_rfl)|((with_reducible (first|apply oE|apply oF));(iterate 3 exact rfl);all_goals (intro h;first|(exact absurd h (by decide))|((try simp only [go_sem,simprocAttr,hb] at h);(try with_reducible intro K hK);simp only [go_sem,simprocAttr,hb])))|((first|((with_reducible apply wL);exact rfl)|((with_reducible apply wM);exact rfl));all_goals (try ((with_reducible intro h);first|(exact absurd h (by decide))|(try simp only [go_sem,simprocAttr,hb] at h))))|omega|(intro h))
  ·have hm:=bz (d:=0) hlt
   rw [h] at hm
   exact (decide_eq_true hm).symm
  ·refine ⟨k+1,⟨by omega,fun j hj=> ?_⟩, ?_,by omega⟩
   ·by_cases hjk:j=k
    ·subst hjk;assumption
    ·exact hg j (by omega)
   ·(refine ⟨bQ ?_,fun _ _ h=>h⟩;simp [go_sem,simprocAttr,hb])
 ·have hb:decide ((k:Int)<(ps.length:Int))=false:=decide_eq_false (by omega)
  repeat' (first|((first|((with_reducible (first|apply oA|apply oB));exact rfl;intro K hK)|(refine hK _ ?_;clear hK K)|((with_reducible (first|apply oG|apply oH));iterate 3 exact rfl)|((with_reducible apply oI);(iterate 2 exact rfl);intro K hK)|(with_reducible (first|apply wI|apply wJ|apply wK)));try simp only [go_sem,simprocAttr,hb])|(with_reducible (first|apply oC|apply oJ|exact oK|apply wA|apply wB|apply wC hX hC|apply wD hX hC|apply wE hX hC af|apply wF hX hC af|apply wG|apply wH|apply And.intro))|((with_reducible refine oD ?_ ?_);kernel_rfl)|((with_reducible (first|apply oE|apply oF));(iterate 3 exact rfl);all_goals (intro h;first|(exact absurd h (by decide))|((try simp only [go_sem,simprocAttr,hb] at h);(try with_reducible intro K hK);simp only [go_sem,simprocAttr,hb])))|((first|((with_reducible apply wL);exact rfl)|((with_reducible apply wM);exact rfl));all_goals (try ((with_reducible intro h);first|(exact absurd h (by decide))|(try simp only [go_sem,simprocAttr,hb] at h))))|omega|(intro h))
  refine (decide_eq_false fun hm=> ?_).symm
  obtain ⟨j,hj,hx⟩:=List.mem_iff_getElem.1 hm
  exact hg j (by omega) (by rw [List.getD_eq_getElem?_getD,List.getElem?_eq_getElem hj];exact hx)
def fA (g:Gr) (f:Fr):List AV:= [eN g.n, .d (sE g.es), .d (sT f.row), .d (sI f.pl)]
def fU (row:List It) (x:Int):Nat→Int
 |0=>0
 |k+1=>if (row.getD k (0,0,0)).2.2=x then fU row x k+1 else fU row x k
theorem eO {row:List It} {x:Int} {k:Nat} :fU row x (k+1)=if (row.getD k (0,0,0)).2.2=x then fU row x k+1 else fU row x k:=rfl
theorem AT {row:List It} {x:Int} :∀k:Nat,0≤fU row x k∧fU row x k≤k
 |0=>by simp [fU]
 |k+1=>by
  have:=AT (row:=row) (x:=x) k
  rw [eO]
  split<;>omega
def tA (row:List It) (x:Int) (need:Nat) (j:Nat):Bool:=decide ((row.getD j (0,0,0)).2.2≠x)&&decide (0≤(row.getD j (0,0,0)).1)&&decide (0<fU row x j)&&decide (fU row x j<need)
theorem mH {row:List It} {x:Int} {need j:Nat} :tA row x need j=true↔((row.getD j (0,0,0)).2.2≠x∧0≤(row.getD j (0,0,0)).1)∧0<fU row x j∧fU row x j<need:=by
 simp only [tA,Bool.and_eq_true,decide_eq_true_eq,and_assoc]
def bh (g:Gr) (x:Int):Nat:=(bg (·.2) g.es g.es.length x).length
def aq (g:Gr) (f:Fr) (x:Int):Bool:=
 if x<0∨g.n≤x∨x∈f.pl then false else if bh g x=0 then true else
 !(List.range f.row.length).any (tA f.row x (bh g x))&&decide (fU f.row x f.row.length=bh g x)
theorem jd:j4 false=(fun e:Edge=>e.2):=rfl
theorem e8:j4 true=(fun e:Edge=>e.1):=rfl
theorem Ga {n j:Nat} {p:Nat→Bool} (h:j<n) (hp:p j=true):(List.range n).any p=true:=List.any_eq_true.2 ⟨j,List.mem_range.2 h,hp⟩
theorem Gb {n:Nat} {p:Nat→Bool} (h:∀j,j<n→p j=false):(List.range n).any p=false:=by
 rw [List.any_eq_false]
 intro j hj
 rw [h j (List.mem_range.1 hj)];simp
theorem bG (g:Gr) (hl:g.es.length≤1000) (f:Fr) (x:Int) (hr:f.row.length≤1000000) (fG:f.pl.length≤1000000):Spec Tryz.prog 164 (Args [.ptr 10000 0,eN x]) [(10000, .rob (fA g f))] (eB (aq g f x)) [(10000, .rob (fA g f))]:=by
 have hp:f.pl.length≤9223372036854775807:=by omega
 unfold fA
 by_cases hx:x<0∨g.n≤x∨x∈f.pl
 ·have hR:aq g f x=false:=if_pos hx
  (refine Spec.intro (C:=T.cfg [] []) (rs:= [.t 4]) (T.ai _ _) Tryz.func164 rfl rfl Tryz.ntmps164 Tryz.results164 (by simp [AObj.isNest]) (by simp [AObj.isNest]) (by kernel_rfl) ?_;intro X hX hP hC aG aH vals hA;refine ⟨_,by simp,hA, ?_⟩;have af:X.P.follows .mixedOrders=true:=(by rw [hP];exact T.mixed);clear aG aH)
  by_cases h1:x<0
  ·have ak:decide (x<0)=true:=decide_eq_true h1
   repeat' (first|((first|((with_reducible (first|apply oA|apply oB));exact rfl;intro K hK)|(refine hK _ ?_;clear hK K)|((with_reducible (first|apply oG|apply oH));iterate 3 exact rfl)|((with_reducible apply oI);(iterate 2 exact rfl);intro K hK)|(with_reducible (first|apply wI|apply wJ|apply wK)));try simp only [go_sem,simprocAttr,hR,ak])|(with_reducible (first|apply oC|apply oJ|exact oK|apply wA|apply wB|apply wC hX hC|apply wD hX hC|apply wE hX hC af|apply wF hX hC af|apply wG|apply wH|apply And.intro))|((with_reducible refine oD ?_ ?_);kernel_rfl)|((with_reducible (first|apply oE|apply oF));(iterate 3 exact rfl);all_goals (intro h;first|(exact absurd h (by decide))|((try simp only [go_sem,simprocAttr,hR,ak] at h);(try with_reducible intro K hK);simp only [go_sem,simprocAttr,hR,ak])))|((first|((with_reducible apply wL);exact rfl)|((with_reducible apply wM);exact rfl));all_goals (try ((with_reducible intro h);first|(exact absurd h (by decide))|(try simp only [go_sem,simprocAttr,hR,ak] at h))))|omega|((first|refine aa hX hC hP (bn f.pl x hp) rfl rfl rfl (by simp only [go_sem,simprocAttr,hR,ak]) rfl ?_|refine aa hX hC hP (aX g x false hl) rfl rfl rfl (by simp only [go_sem,simprocAttr,hR,ak]) rfl ?_);try simp only [go_sem,simprocAttr,hR,ak])|(intro h))
  have ak:decide (x<0)=false:=decide_eq_false h1
  by_cases h2:g.n≤x
  ·have an:decide (g.n≤x)=true:=decide_eq_true h2
   repeat' (first|((first|((with_reducible (first|apply oA|apply oB));exact rfl;intro K hK)|(refine hK _ ?_;clear hK K)|((with_reducible (first|apply oG|apply oH));iterate 3 exact rfl)|((with_reducible apply oI);(iterate 2 exact rfl);intro K hK)|(with_reducible (first|apply wI|apply wJ|apply wK)));try simp only [go_sem,simprocAttr,hR,ak,an])|(with_reducible (first|apply oC|apply oJ|exact oK|apply wA|apply wB|apply wC hX hC|apply wD hX hC|apply wE hX hC af|apply wF hX hC af|apply wG|apply wH|apply And.intro))|((with_reducible refine oD ?_ ?_);kernel_rfl)|((with_reducible (first|apply oE|apply oF));(iterate 3 exact rfl);all_goals (intro h;first|(exact absurd h (by decide))|((try simp only [go_sem,simprocAttr,hR,ak,an] at h);(try with_reducible intro K hK);simp only [go_sem,simprocAttr,hR,ak,an])))|((first|((with_reducible apply wL);exact rfl)|((with_reducible apply wM);exact rfl));all_goals (try ((with_reducible intro h);first|(exact absurd h (by decide))|(try simp only [go_sem,simprocAttr,hR,ak,an] at h))))|omega|((first|refine aa hX hC hP (bn f.pl x hp) rfl rfl rfl (by simp only [go_sem,simprocAttr,hR,ak,an]) rfl ?_|refine aa hX hC hP (aX g x false hl) rfl rfl rfl (by simp only [go_sem,simprocAttr,hR,ak,an]) rfl ?_);try simp only [go_sem,simprocAttr,hR,ak,an])|(intro h))
  have an:decide (g.n≤x)=false:=decide_eq_false h2
  have h3:x∈f.pl:=by rcases hx with h|h|h;exact absurd h h1;exact absurd h h2;exact h
  have bD:decide (x∈f.pl)=true:=decide_eq_true h3
  repeat' (first|((first|((with_reducible (first|apply oA|apply oB));exact rfl;intro K hK)|(refine hK _ ?_;clear hK K)|((with_reducible (first|apply oG|apply oH));iterate 3 exact rfl)|((with_reducible apply oI);(iterate 2 exact rfl);intro K hK)|(with_reducible (first|apply wI|apply wJ|apply wK)));try simp only [go_sem,simprocAttr,hR,ak,an,bD])|(with_reducible (first|apply oC|apply oJ|exact oK|apply wA|apply wB|apply wC hX hC|apply wD hX hC|apply wE hX hC af|apply wF hX hC af|apply wG|apply wH|apply And.intro))|((with_reducible refine oD ?_ ?_);kernel_rfl)|((with_reducible (first|apply oE|apply oF));(iterate 3 exact rfl);all_goals (intro h;first|(exact absurd h (by decide))|((try simp only [go_sem,simprocAttr,hR,ak,an,bD] at h);(try with_reducible intro K hK);simp only [go_sem,simprocAttr,hR,ak,an,bD])))|((first|((with_reducible apply wL);exact rfl)|((with_reducible apply wM);exact rfl));all_goals (try ((with_reducible intro h);first|(exact absurd h (by decide))|(try simp only [go_sem,simprocAttr,hR,ak,an,bD] at h))))|omega|((first|refine aa hX hC hP (bn f.pl x hp) rfl rfl rfl (by simp only [go_sem,simprocAttr,hR,ak,an,bD]) rfl ?_|refine aa hX hC hP (aX g x false hl) rfl rfl rfl (by simp only [go_sem,simprocAttr,hR,ak,an,bD]) rfl ?_);try simp only [go_sem,simprocAttr,hR,ak,an,bD])|(intro h))
 ·have ak:decide (x<0)=false:=decide_eq_false fun h=>hx (.inl h)
  have an:decide (g.n≤x)=false:=decide_eq_false fun h=>hx (.inr (.inl h))
  have bD:decide (x∈f.pl)=false:=decide_eq_false fun h=>hx (.inr (.inr h))
  have hR:aq g f x=if bh g x=0 then true else !(List.range f.row.length).any (tA f.row x (bh g x))&&decide (fU f.row x f.row.length=bh g x):=if_neg hx
  have bT:(bg (·.2) g.es g.es.length x).length=bh g x:=rfl
  have hnl:bh g x≤1000:=Nat.le_trans j3 hl
  generalize bh g x=need at hR bT hnl
  by_cases h4:need=0
  ·have hb4:decide ((need:Int)=0)=true:=decide_eq_true (by omega)
   rw [if_pos h4] at hR
   (refine Spec.intro (C:=T.cfg [] []) (rs:= [.t 4]) (T.ai _ _) Tryz.func164 rfl rfl Tryz.ntmps164 Tryz.results164 (by simp [AObj.isNest]) (by simp [AObj.isNest]) (by kernel_rfl) ?_;intro X hX hP hC aG aH vals hA;refine ⟨_,by simp,hA, ?_⟩;have af:X.P.follows .mixedOrders=true:=(by rw [hP];exact T.mixed);clear aG aH)
   repeat' (first|((first|((with_reducible (first|apply oA|apply oB));exact rfl;intro K hK)|(refine hK _ ?_;clear hK K)|((with_reducible (first|apply oG|apply oH));iterate 3 exact rfl)|((with_reducible apply oI);(iterate 2 exact rfl);intro K hK)|(with_reducible (first|apply wI|apply wJ|apply wK)));try simp only [go_sem,simprocAttr,hR,ak,an,bD,hb4,jd,bT])|(with_reducible (first|apply oC|apply oJ|exact oK|apply wA|apply wB|apply wC hX hC|apply wD hX hC|apply wE hX hC af|apply wF hX hC af|apply wG|apply wH|apply And.intro))|((with_reducible refine oD ?_ ?_);kernel_rfl)|((with_reducible (first|apply oE|apply oF));(iterate 3 exact rfl);all_goals (intro h;first|(exact absurd h (by decide))|((try simp only [go_sem,simprocAttr,hR,ak,an,bD,hb4,jd,bT] at h);(try with_reducible intro K hK);simp only [go_sem,simprocAttr,hR,ak,an,bD,hb4,jd,bT])))|((first|((with_reducible apply wL);exact rfl)|((with_reducible apply wM);exact rfl));all_goals (try ((with_reducible intro h);first|(exact absurd h (by decide))|(try simp only [go_sem,simprocAttr,hR,ak,an,bD,hb4,jd,bT] at h))))|omega|((first|refine aa hX hC hP (bn f.pl x hp) rfl rfl rfl (by simp only [go_sem,simprocAttr,hR,ak,an,bD,hb4,jd,bT]) rfl ?_|refine aa hX hC hP (aX g x false hl) rfl rfl rfl (by simp only [go_sem,simprocAttr,hR,ak,an,bD,hb4,jd,bT]) rfl ?_);try simp only [go_sem,simprocAttr,hR,ak,an,bD,hb4,jd,bT])|(intro h))
  ·have hb4:decide ((need:Int)=0)=false:=decide_eq_false (by omega)
   rw [if_neg h4] at hR
   generalize aq g f x=res at hR
   (refine Spec.intro (C:=T.cfg [] []) (rs:= [.t 4]) (T.ai _ _) Tryz.func164 rfl rfl Tryz.ntmps164 Tryz.results164 (by simp [AObj.isNest]) (by simp [AObj.isNest]) (by kernel_rfl) ?_;intro X hX hP hC aG aH vals hA;refine ⟨_,by simp,hA, ?_⟩;have af:X.P.follows .mixedOrders=true:=(by rw [hP];exact T.mixed);clear aG aH)
   repeat' (first|((first|((with_reducible (first|apply oA|apply oB));exact rfl;intro K hK)|(refine hK _ ?_;clear hK K)|((with_reducible (first|apply oG|apply oH));iterate 3 exact rfl)|((with_reducible apply oI);(iterate 2 exact rfl);intro K hK)|(with_reducible (first|apply wI|apply wJ|apply wK)));try simp only [go_sem,simprocAttr,ak,an,bD,hb4,jd,bT])|(with_reducible (first|apply oC|apply oJ|exact oK|apply wA|apply wB|apply wC hX hC|apply wD hX hC|apply wE hX hC af|apply wF hX hC af|apply wG|apply wH|apply And.intro))|((with_reducible refine oD ?_ ?_);kernel_rfl)|((with_reducible (first|apply oE|apply oF));(iterate 3 exact rfl);all_goals (intro h;first|(exact absurd h (by decide))|((try simp only [go_sem,simprocAttr,ak,an,bD,hb4,jd,bT] at h);(try with_reducible intro K hK);simp only [go_sem,simprocAttr,ak,an,bD,hb4,jd,bT])))|((first|((with_reducible apply wL);exact rfl)|((with_reducible apply wM);exact rfl));all_goals (try ((with_reducible intro h);first|(exact absurd h (by decide))|(try simp only [go_sem,simprocAttr,ak,an,bD,hb4,jd,bT] at h))))|omega|((first|refine aa hX hC hP (bn f.pl x hp) rfl rfl rfl (by simp only [go_sem,simprocAttr,ak,an,bD,hb4,jd,bT]) rfl ?_|refine aa hX hC hP (aX g x false hl) rfl rfl rfl (by simp only [go_sem,simprocAttr,ak,an,bD,hb4,jd,bT]) rfl ?_);try simp only [go_sem,simprocAttr,ak,an,bD,hb4,jd,bT])|(intro h))
   refine aj (fun k:Nat=>k≤f.row.length∧∀j,j<k→tA f.row x need j=false) (fun k=>⟨[(0, .ptr 10000 0),(1,eN x),(5,eN need),(6,eN (fU f.row x k)),(7,eN k)], [(10000, .rob [eN g.n, .d (sE g.es), .d (sT f.row), .d (sI f.pl)])]⟩) (fun k=>f.row.length - k) 0 (by simp) ?_ ?_
   ·refine Le.of ?_ ?_<;>simp [go_sem,simprocAttr,ak,an,bD,hb4,jd,bT,fU]
   rintro k ⟨hk,hg⟩
   rcases Nat.lt_or_ge k f.row.length with hlt|hge
   ·have hb:decide ((k:Int)<(f.row.length:Int))=true:=decide_eq_true (by omega)
    have hmk:=AT (row:=f.row) (x:=x) k
    have cO:=eO (row:=f.row) (x:=x) (k:=k)
    have step:tA f.row x need k=false→∀j,j<k+1→tA f.row x need j=false:=fun h j hj=>by
     by_cases hjk:j=k
     ·subst hjk;exact h
     ·exact hg j (by omega)
    repeat' (first|((first|((with_reducible (first|apply oA|apply oB));exact rfl;intro K hK)|(refine hK _ ?_;clear hK K)|((with_reducible (first|apply oG|apply oH));iterate 3 exact rfl)|((with_reducible apply oI);(iterate 2 exact rfl);intro K hK)|(with_reducible (first|apply wI|apply wJ|apply wK)));try simp only [go_sem,simprocAttr,hb])|(with_reducible (first|apply oC|apply oJ|exact oK|apply wA|apply wB|apply wC hX hC|apply wD hX hC|apply wE hX hC af|apply wF hX hC af|apply wG|apply wH|apply And.intro))|((with_reducible refine oD ?_ ?_);kernel_rfl)|((with_reducible (first|apply oE|apply oF));(iterate 3 exact rfl);all_goals (intro h;first|(exact absurd h (by decide))|((try simp only [go_sem,simprocAttr,hb] at h);(try with_reducible intro K hK);simp only [go_sem,simprocAttr,hb])))|((first|((with_reducible apply wL);exact rfl)|((with_reducible apply wM);exact rfl));all_goals (try ((with_reducible intro h);first|(exact absurd h (by decide))|(try simp only [go_sem,simprocAttr,hb] at h))))|omega|((first|refine aa hX hC hP (bn f.pl x hp) rfl rfl rfl (by simp only [go_sem,simprocAttr,hb]) rfl ?_|refine aa hX hC hP (aX g x false hl) rfl rfl rfl (by simp only [go_sem,simprocAttr,hb]) rfl ?_);try simp only [go_sem,simprocAttr,hb])|(intro h))
    all_goals (first|(rw [hR,Ga hlt (mH.2 ⟨⟨by assumption,by assumption⟩,by assumption,by assumption⟩)];rfl)|skip)
    all_goals (first|rw [if_neg (by assumption)] at cO|rw [if_pos (by assumption)] at cO)
    all_goals (refine ⟨k+1,⟨by omega,step (by rw [← Bool.not_eq_true];intro hh;obtain ⟨⟨_,_⟩,_,_⟩:=mH.1 hh;contradiction)⟩, ?_,by omega⟩;refine Le.of ?_ ?_<;>simp [go_sem,simprocAttr,hb,cO])
   ·have hb:decide ((k:Int)<(f.row.length:Int))=false:=decide_eq_false (by omega)
    obtain rfl:k=f.row.length:=by omega
    rw [Gb hg] at hR
    repeat' (first|((first|((with_reducible (first|apply oA|apply oB));exact rfl;intro K hK)|(refine hK _ ?_;clear hK K)|((with_reducible (first|apply oG|apply oH));iterate 3 exact rfl)|((with_reducible apply oI);(iterate 2 exact rfl);intro K hK)|(with_reducible (first|apply wI|apply wJ|apply wK)));try simp only [go_sem,simprocAttr,hb,hR])|(with_reducible (first|apply oC|apply oJ|exact oK|apply wA|apply wB|apply wC hX hC|apply wD hX hC|apply wE hX hC af|apply wF hX hC af|apply wG|apply wH|apply And.intro))|((with_reducible refine oD ?_ ?_);kernel_rfl)|((with_reducible (first|apply oE|apply oF));(iterate 3 exact rfl);all_goals (intro h;first|(exact absurd h (by decide))|((try simp only [go_sem,simprocAttr,hb,hR] at h);(try with_reducible intro K hK);simp only [go_sem,simprocAttr,hb,hR])))|((first|((with_reducible apply wL);exact rfl)|((with_reducible apply wM);exact rfl));all_goals (try ((with_reducible intro h);first|(exact absurd h (by decide))|(try simp only [go_sem,simprocAttr,hb,hR] at h))))|omega|((first|refine aa hX hC hP (bn f.pl x hp) rfl rfl rfl (by simp only [go_sem,simprocAttr,hb,hR]) rfl ?_|refine aa hX hC hP (aX g x false hl) rfl rfl rfl (by simp only [go_sem,simprocAttr,hb,hR]) rfl ?_);try simp only [go_sem,simprocAttr,hb,hR])|(intro h))
end Go.Ab
end
section
namespace Go.Ab
open Go.Proofs
attribute [local congr] ACall.congr
set_option maxRecDepth 10000
set_option maxHeartbeats 4000000
end Go.Ab
end
section
namespace Go.Ab
open Go.Proofs
attribute [local congr] ACall.congr
set_option maxRecDepth 10000
set_option maxHeartbeats 8000000
def bE (g:Gr) (x:Int):List Int:=bg (·.1) g.es g.es.length x
def aA (g:Gr) (f:Fr) (x:Int) (outs:List Int):(List It × Int) × Fr:=
 (((f.row.take (aW f.row x).2.1.toNat).drop (max (aW f.row x).1 0).toNat,0),⟨f.row.take (max (aW f.row x).1 0).toNat++aO g x outs++f.row.drop (aW f.row x).2.1.toNat,f.pl++ [x]⟩)
def cF (g:Gr) (f:Fr) (x:Int) (outs:List Int):(List It × Int) × Fr:=
 if aq g f x=false then (([],3),f) else
 if outs.length≠(bE g x).length∨∃i∈bE g x,i∉outs then (([],1),f) else aA g f x outs
theorem de {f:Edge→Int} {es:List Edge} {k:Nat} {x:Int} :(bg f es k x).Nodup:=by
 unfold bg
 exact List.Pairwise.map _ (fun a b h e=>h (Int.ofNat.inj e)) (List.Pairwise.filter _ List.nodup_range)
theorem xd:∀ {ms os:List Int},ms.Nodup→(∀i∈ms,i∈os)→os.length=ms.length→∀i∈os,i∈ms
 | [],os,_,_,hl,i,hi=>by
   have:os= []:=List.eq_nil_of_length_eq_zero (by simpa using hl)
   rw [this] at hi;exact hi
 |m::ms,os,hn,hs,hl,i,hi=>by
  rw [List.nodup_cons] at hn
  have hm:=hs m (List.mem_cons_self ..)
  by_cases h:i=m
  ·rw [h];exact List.mem_cons_self ..
  ·refine List.mem_cons_of_mem _ (xd hn.2 (os:=os.erase m) (fun j hj=> ?_) ?_ i ?_)
   ·have:j≠m:=fun e=>hn.1 (e ▸ hj)
    exact (List.mem_erase_of_ne this).2 (hs j (List.mem_cons_of_mem _ hj))
   ·rw [List.length_erase_of_mem hm,hl];simp
   ·exact (List.mem_erase_of_ne h).2 hi
theorem tB {g:Gr} {x:Int} :(bE g x).length≤g.es.length:=j3
theorem yE (g:Gr) (hl:g.es.length≤1000) (f:Fr) (x:Int) (outs:List Int) (hr:f.row.length≤300000) (hp:f.pl.length≤100000) (ho:outs.length≤9223372036854775807):
 Spec Tryz.prog 111 (Args [.ptr 10000 0,eN x, .d (sI outs)]) [(10000, .box (fA g f))] (.tup [.d (sT (cF g f x outs).1.1),eN (cF g f x outs).1.2]) [(10000, .box (fA g (cF g f x outs).2))]:=by
 have jy:f.row.length≤1000000:=by omega
 have hp1:f.pl.length≤1000000:=by omega
 have um:outs.length≤9223372036854775807:=by omega
 have hml:=tB (g:=g) (x:=x)
 have r7:bg (fun e=>e.1) g.es g.es.length x=bE g x:=rfl
 cases hR:aq g f x with
 |false=>
  have hP:cF g f x outs=(([],3),f):=if_pos hR
  rw [hP]
  unfold fA
  (refine Spec.intro (C:=T.cfg [] []) (rs:= [.t 6, .t 7]) (T.ai _ _) Tryz.func111 rfl rfl Tryz.ntmps111 Tryz.results111 (by simp [AObj.isNest]) (by simp [AObj.isNest]) (by kernel_rfl) ?_;intro X hX hP hC aG aH vals hA;refine ⟨_,by simp,hA, ?_⟩;have af:X.P.follows .mixedOrders=true:=(by rw [hP];exact T.mixed);clear aG aH)
  repeat' (first|((first|((with_reducible (first|apply oA|apply oB));exact rfl;intro K hK)|(refine hK _ ?_;clear hK K)|((with_reducible (first|apply oG|apply oH));iterate 3 exact rfl)|((with_reducible apply oI);(iterate 2 exact rfl);intro K hK)|(with_reducible (first|apply wI|apply wJ|apply wK)));try simp only [go_sem,simprocAttr,hR,fA])|(with_reducible (first|apply oC|apply oJ|exact oK|apply wA|apply wB|apply wC hX hC|apply wD hX hC|apply wE hX hC af|apply wF hX hC af|apply wG|apply wH|apply And.intro))|((with_reducible refine oD ?_ ?_);kernel_rfl)|((with_reducible (first|apply oE|apply oF));(iterate 3 exact rfl);all_goals (intro h;first|(exact absurd h (by decide))|((try simp only [go_sem,simprocAttr,hR,fA] at h);(try with_reducible intro K hK);simp only [go_sem,simprocAttr,hR,fA])))|((first|((with_reducible apply wL);exact rfl)|((with_reducible apply wM);exact rfl));all_goals (try ((with_reducible intro h);first|(exact absurd h (by decide))|(try simp only [go_sem,simprocAttr,hR,fA] at h))))|omega|((first|(refine aF hX hC hP [(10000,10000)] (bG g hl f x jy hp1) rfl rfl rfl ?_ ?_ ?_ ?_ ?_ ?_ rfl rfl ?_ ?_;(focus (simp only [go_sem,simprocAttr,hR,fA];done));(iterate 6 (focus (simp [go_sem,simprocAttr,hR,fA];done)));simp only [go_sem,simprocAttr,hR,fA,List.map_cons,List.map_nil])|refine aa hX hC hP (aX g x true hl) rfl rfl rfl (by simp only [go_sem,simprocAttr,hR,fA]) rfl ?_|refine aa hX hC hP (bn outs ((bE g x).getD k 0) um) rfl rfl rfl (by simp only [go_sem,simprocAttr,hR,fA]) rfl ?_);try simp only [go_sem,simprocAttr,hR,fA])|(intro h))
 |true=>
 have HU:¬aq g f x=false:=by rw [hR];simp
 by_cases hlen:outs.length≠(bE g x).length
 ·have hP:cF g f x outs=(([],1),f):=by unfold cF;rw [if_neg HU,if_pos (.inl hlen)]
  have ak:decide ((outs.length:Int)=((bE g x).length:Int))=false:=decide_eq_false (by omega)
  rw [hP]
  unfold fA
  (refine Spec.intro (C:=T.cfg [] []) (rs:= [.t 6, .t 7]) (T.ai _ _) Tryz.func111 rfl rfl Tryz.ntmps111 Tryz.results111 (by simp [AObj.isNest]) (by simp [AObj.isNest]) (by kernel_rfl) ?_;intro X hX hP hC aG aH vals hA;refine ⟨_,by simp,hA, ?_⟩;have af:X.P.follows .mixedOrders=true:=(by rw [hP];exact T.mixed);clear aG aH)
  repeat' (first|((first|((with_reducible (first|apply oA|apply oB));exact rfl;intro K hK)|(refine hK _ ?_;clear hK K)|((with_reducible (first|apply oG|apply oH));iterate 3 exact rfl)|((with_reducible apply oI);(iterate 2 exact rfl);intro K hK)|(with_reducible (first|apply wI|apply wJ|apply wK)));try simp only [go_sem,simprocAttr,hR,fA,e8,r7,ak])|(with_reducible (first|apply oC|apply oJ|exact oK|apply wA|apply wB|apply wC hX hC|apply wD hX hC|apply wE hX hC af|apply wF hX hC af|apply wG|apply wH|apply And.intro))|((with_reducible refine oD ?_ ?_);kernel_rfl)|((with_reducible (first|apply oE|apply oF));(iterate 3 exact rfl);all_goals (intro h;first|(exact absurd h (by decide))|((try simp only [go_sem,simprocAttr,hR,fA,e8,r7,ak] at h);(try with_reducible intro K hK);simp only [go_sem,simprocAttr,hR,fA,e8,r7,ak])))|((first|((with_reducible apply wL);exact rfl)|((with_reducible apply wM);exact rfl));all_goals (try ((with_reducible intro h);first|(exact absurd h (by decide))|(try simp only [go_sem,simprocAttr,hR,fA,e8,r7,ak] at h))))|omega|((first|(refine aF hX hC hP [(10000,10000)] (bG g hl f x jy hp1) rfl rfl rfl ?_ ?_ ?_ ?_ ?_ ?_ rfl rfl ?_ ?_;(focus (simp only [go_sem,simprocAttr,hR,fA,e8,r7,ak];done));(iterate 6 (focus (simp [go_sem,simprocAttr,hR,fA,e8,r7,ak];done)));simp only [go_sem,simprocAttr,hR,fA,e8,r7,ak,List.map_cons,List.map_nil])|refine aa hX hC hP (aX g x true hl) rfl rfl rfl (by simp only [go_sem,simprocAttr,hR,fA,e8,r7,ak]) rfl ?_|refine aa hX hC hP (bn outs ((bE g x).getD k 0) um) rfl rfl rfl (by simp only [go_sem,simprocAttr,hR,fA,e8,r7,ak]) rfl ?_);try simp only [go_sem,simprocAttr,hR,fA,e8,r7,ak])|(intro h))
 rw [ne_eq,Decidable.not_not] at hlen
 have ak:decide ((outs.length:Int)=((bE g x).length:Int))=true:=decide_eq_true (by omega)
 have hP:cF g f x outs=if ∃i∈bE g x,i∉outs then (([],1),f) else aA g f x outs:=by
  unfold cF
  rw [if_neg HU]
  by_cases hE:∃i∈bE g x,i∉outs
  ·rw [if_pos (.inr hE),if_pos hE]
  ·rw [if_neg (fun h=>by rcases h with h|h;exact h hlen;exact hE h),if_neg hE]
 rw [hP]
 generalize Ip:(if ∃i∈bE g x,i∉outs then (([],1),f) else aA g f x outs:(List It × Int) × Fr)=pp
 unfold fA
 (refine Spec.intro (C:=T.cfg [] []) (rs:= [.t 6, .t 7]) (T.ai _ _) Tryz.func111 rfl rfl Tryz.ntmps111 Tryz.results111 (by simp [AObj.isNest]) (by simp [AObj.isNest]) (by kernel_rfl) ?_;intro X hX hP hC aG aH vals hA;refine ⟨_,by simp,hA, ?_⟩;have af:X.P.follows .mixedOrders=true:=(by rw [hP];exact T.mixed);clear aG aH)
 repeat' (first|((first|((with_reducible (first|apply oA|apply oB));exact rfl;intro K hK)|(refine hK _ ?_;clear hK K)|((with_reducible (first|apply oG|apply oH));iterate 3 exact rfl)|((with_reducible apply oI);(iterate 2 exact rfl);intro K hK)|(with_reducible (first|apply wI|apply wJ|apply wK)));try simp only [go_sem,simprocAttr,hR,fA,e8,r7,ak])|(with_reducible (first|apply oC|apply oJ|exact oK|apply wA|apply wB|apply wC hX hC|apply wD hX hC|apply wE hX hC af|apply wF hX hC af|apply wG|apply wH|apply And.intro))|((with_reducible refine oD ?_ ?_);kernel_rfl)|((with_reducible (first|apply oE|apply oF));(iterate 3 exact rfl);all_goals (intro h;first|(exact absurd h (by decide))|((try simp only [go_sem,simprocAttr,hR,fA,e8,r7,ak] at h);(try with_reducible intro K hK);simp only [go_sem,simprocAttr,hR,fA,e8,r7,ak])))|((first|((with_reducible apply wL);exact rfl)|((with_reducible apply wM);exact rfl));all_goals (try ((with_reducible intro h);first|(exact absurd h (by decide))|(try simp only [go_sem,simprocAttr,hR,fA,e8,r7,ak] at h))))|omega|((first|(refine aF hX hC hP [(10000,10000)] (bG g hl f x jy hp1) rfl rfl rfl ?_ ?_ ?_ ?_ ?_ ?_ rfl rfl ?_ ?_;(focus (simp only [go_sem,simprocAttr,hR,fA,e8,r7,ak];done));(iterate 6 (focus (simp [go_sem,simprocAttr,hR,fA,e8,r7,ak];done)));simp only [go_sem,simprocAttr,hR,fA,e8,r7,ak,List.map_cons,List.map_nil])|refine aa hX hC hP (aX g x true hl) rfl rfl rfl (by simp only [go_sem,simprocAttr,hR,fA,e8,r7,ak]) rfl ?_|refine aa hX hC hP (bn outs ((bE g x).getD k 0) um) rfl rfl rfl (by simp only [go_sem,simprocAttr,hR,fA,e8,r7,ak]) rfl ?_);try simp only [go_sem,simprocAttr,hR,fA,e8,r7,ak])|(intro h))
 refine aj (fun k:Nat=>k≤(bE g x).length∧∀j,j<k→(bE g x).getD j 0∈outs) (fun k=>⟨[(0, .ptr 10000 0),(1,eN x),(2, .d (sI outs)),(8, .d (sI (bE g x))),(9,eN k)], [(10000, .box [eN g.n, .d (sE g.es), .d (sT f.row), .d (sI f.pl)])]⟩) (fun k=>(bE g x).length - k) 0 (by simp) ?_ ?_
 ·(refine Le.of ?_ ?_<;>simp [go_sem,simprocAttr,hR,fA,e8,r7,ak])
 rintro k ⟨hk,hg⟩
 rcases Nat.lt_or_ge k (bE g x).length with hlt|hge
 ·have hb:decide ((k:Int)<((bE g x).length:Int))=true:=decide_eq_true (by omega)
  by_cases hin:(bE g x).getD k 0∈outs
  ·have an:decide ((bE g x).getD k 0∈outs)=true:=decide_eq_true hin
   repeat' (first|((first|((with_reducible (first|apply oA|apply oB));exact rfl;intro K hK)|(refine hK _ ?_;clear hK K)|((with_reducible (first|apply oG|apply oH));iterate 3 exact rfl)|((with_reducible apply oI);(iterate 2 exact rfl);intro K hK)|(with_reducible (first|apply wI|apply wJ|apply wK)));try simp only [go_sem,simprocAttr,hb,an])|(with_reducible (first|apply oC|apply oJ|exact oK|apply wA|apply wB|apply wC hX hC|apply wD hX hC|apply wE hX hC af|apply wF hX hC af|apply wG|apply wH|apply And.intro))|((with_reducible refine oD ?_ ?_);kernel_rfl)|((with_reducible (first|apply oE|apply oF));(iterate 3 exact rfl);all_goals (intro h;first|(exact absurd h (by decide))|((try simp only [go_sem,simprocAttr,hb,an] at h);(try with_reducible intro K hK);simp only [go_sem,simprocAttr,hb,an])))|((first|((with_reducible apply wL);exact rfl)|((with_reducible apply wM);exact rfl));all_goals (try ((with_reducible intro h);first|(exact absurd h (by decide))|(try simp only [go_sem,simprocAttr,hb,an] at h))))|omega|((first|(refine aF hX hC hP [(10000,10000)] (bG g hl f x jy hp1) rfl rfl rfl ?_ ?_ ?_ ?_ ?_ ?_ rfl rfl ?_ ?_;(focus (simp only [go_sem,simprocAttr,hb,an];done));(iterate 6 (focus (simp [go_sem,simprocAttr,hb,an];done)));simp only [go_sem,simprocAttr,hb,an,List.map_cons,List.map_nil])|refine aa hX hC hP (aX g x true hl) rfl rfl rfl (by simp only [go_sem,simprocAttr,hb,an]) rfl ?_|refine aa hX hC hP (bn outs ((bE g x).getD k 0) um) rfl rfl rfl (by simp only [go_sem,simprocAttr,hb,an]) rfl ?_);try simp only [go_sem,simprocAttr,hb,an])|(intro h))
   refine ⟨k+1,⟨by omega,fun j hj=> ?_⟩, ?_,by omega⟩
   ·by_cases hjk:j=k
    ·subst hjk;exact hin
    ·exact hg j (by omega)
   ·(refine Le.of ?_ ?_<;>simp [go_sem,simprocAttr,hb,an])
  ·have an:decide ((bE g x).getD k 0∈outs)=false:=decide_eq_false hin
   rw [if_pos ⟨_,bz (d:=0) hlt,hin⟩] at Ip
   subst Ip
   repeat' (first|((first|((with_reducible (first|apply oA|apply oB));exact rfl;intro K hK)|(refine hK _ ?_;clear hK K)|((with_reducible (first|apply oG|apply oH));iterate 3 exact rfl)|((with_reducible apply oI);(iterate 2 exact rfl);intro K hK)|(with_reducible (first|apply wI|apply wJ|apply wK)));try simp only [go_sem,simprocAttr,hb,an])|(with_reducible (first|apply oC|apply oJ|exact oK|apply wA|apply wB|apply wC hX hC|apply wD hX hC|apply wE hX hC af|apply wF hX hC af|apply wG|apply wH|apply And.intro))|((with_reducible refine oD ?_ ?_);kernel_rfl)|((with_reducible (first|apply oE|apply oF));(iterate 3 exact rfl);all_goals (intro h;first|(exact absurd h (by decide))|((try simp only [go_sem,simprocAttr,hb,an] at h);(try with_reducible intro K hK);simp only [go_sem,simprocAttr,hb,an])))|((first|((with_reducible apply wL);exact rfl)|((with_reducible apply wM);exact rfl));all_goals (try ((with_reducible intro h);first|(exact absurd h (by decide))|(try simp only [go_sem,simprocAttr,hb,an] at h))))|omega|((first|(refine aF hX hC hP [(10000,10000)] (bG g hl f x jy hp1) rfl rfl rfl ?_ ?_ ?_ ?_ ?_ ?_ rfl rfl ?_ ?_;(focus (simp only [go_sem,simprocAttr,hb,an];done));(iterate 6 (focus (simp [go_sem,simprocAttr,hb,an];done)));simp only [go_sem,simprocAttr,hb,an,List.map_cons,List.map_nil])|refine aa hX hC hP (aX g x true hl) rfl rfl rfl (by simp only [go_sem,simprocAttr,hb,an]) rfl ?_|refine aa hX hC hP (bn outs ((bE g x).getD k 0) um) rfl rfl rfl (by simp only [go_sem,simprocAttr,hb,an]) rfl ?_);try simp only [go_sem,simprocAttr,hb,an])|(intro h))
 have hb:decide ((k:Int)<((bE g x).length:Int))=false:=decide_eq_false (by omega)
 have hsub:∀i∈bE g x,i∈outs:=fun i hi=>by
  obtain ⟨j,hj,rfl⟩:=List.mem_iff_getElem.1 hi
  have:=hg j (by omega)
  rwa [List.getD_eq_getElem?_getD,List.getElem?_eq_getElem hj] at this
 have F9:∀i∈outs,0≤i∧i<g.es.length:=fun i hi=>(fR (xd de hsub hlen i hi)).1
 rw [if_neg (fun ⟨i,h1,h2⟩=>h2 (hsub i h1))] at Ip
 subst Ip
 clear hk hg hge hsub hP
 repeat' (first|((first|((with_reducible (first|apply oA|apply oB));exact rfl;intro K hK)|(refine hK _ ?_;clear hK K)|((with_reducible (first|apply oG|apply oH));iterate 3 exact rfl)|((with_reducible apply oI);(iterate 2 exact rfl);intro K hK)|(with_reducible (first|apply wI|apply wJ|apply wK)));try simp only [go_sem,simprocAttr,hb])|(with_reducible (first|apply oC|apply oJ|exact oK|apply wA|apply wB|apply wC hX hC|apply wD hX hC|apply wE hX hC af|apply wF hX hC af|apply wG|apply wH|apply And.intro))|((with_reducible refine oD ?_ ?_);kernel_rfl)|((with_reducible (first|apply oE|apply oF));(iterate 3 exact rfl);all_goals (intro h;first|(exact absurd h (by decide))|((try simp only [go_sem,simprocAttr,hb] at h);(try with_reducible intro K hK);simp only [go_sem,simprocAttr,hb])))|((first|((with_reducible apply wL);exact rfl)|((with_reducible apply wM);exact rfl));all_goals (try ((with_reducible intro h);first|(exact absurd h (by decide))|(try simp only [go_sem,simprocAttr,hb] at h))))|omega|((first|(refine aF hX hC hP [(10000,10000)] (bG g hl f x jy hp1) rfl rfl rfl ?_ ?_ ?_ ?_ ?_ ?_ rfl rfl ?_ ?_;(focus (simp only [go_sem,simprocAttr,hb];done));(iterate 6 (focus (simp [go_sem,simprocAttr,hb];done)));simp only [go_sem,simprocAttr,hb,List.map_cons,List.map_nil])|refine aa hX hC hP (aX g x true hl) rfl rfl rfl (by simp only [go_sem,simprocAttr,hb]) rfl ?_|refine aa hX hC hP (bn outs ((bE g x).getD k 0) um) rfl rfl rfl (by simp only [go_sem,simprocAttr,hb]) rfl ?_);try simp only [go_sem,simprocAttr,hb])|(intro h))
 (refine lI hX 10 45 72 (by simp only [go_sem,simprocAttr,hb]) rfl (by first|exact .inl rfl|exact .inr rfl) (by decide) ?_;simp only [go_sem,simprocAttr,hb])
 refine aj (fun k:Nat=>k≤outs.length) (fun k=>⟨[(0, .ptr 10000 0),(1,eN x),(2, .d (sI outs)),(11,eN k),(10, .ref 72)], [(10000, .box [eN g.n, .d (sE g.es), .d (sT f.row), .d (sI f.pl)]),(72, .tip 100 3 (((outs.take k).map (fQ g x)).map rT))]⟩) (fun k=>outs.length - k) 0 (by omega) ?_ ?_
 ·refine Le.of ?_ ?_<;>simp [go_sem,simprocAttr,hb]
 clear hb
 rintro k hk
 rcases Nat.lt_or_ge k outs.length with hlt|hge
 ·have hb:decide ((k:Int)<(outs.length:Int))=true:=decide_eq_true (by omega)
  have cO:=tv (f:=fQ g x) (d:=0) hlt
  have Ji:=F9 _ (bz (d:=0) hlt)
  have hlk:(outs.take k).length=k:=by simp;omega
  repeat' (first|((first|((with_reducible (first|apply oA|apply oB));exact rfl;intro K hK)|(refine hK _ ?_;clear hK K)|((with_reducible (first|apply oG|apply oH));iterate 3 exact rfl)|((with_reducible apply oI);(iterate 2 exact rfl);intro K hK)|(with_reducible (first|apply wI|apply wJ|apply wK)));try simp only [go_sem,simprocAttr,hb,hlk])|(with_reducible (first|apply oC|apply oJ|exact oK|apply wA|apply wB|apply wC hX hC|apply wD hX hC|apply wE hX hC af|apply wF hX hC af|apply wG|apply wH|apply And.intro))|((with_reducible refine oD ?_ ?_);kernel_rfl)|((with_reducible (first|apply oE|apply oF));(iterate 3 exact rfl);all_goals (intro h;first|(exact absurd h (by decide))|((try simp only [go_sem,simprocAttr,hb,hlk] at h);(try with_reducible intro K hK);simp only [go_sem,simprocAttr,hb,hlk])))|((first|((with_reducible apply wL);exact rfl)|((with_reducible apply wM);exact rfl));all_goals (try ((with_reducible intro h);first|(exact absurd h (by decide))|(try simp only [go_sem,simprocAttr,hb,hlk] at h))))|omega|((first|(refine aF hX hC hP [(10000,10000)] (bG g hl f x jy hp1) rfl rfl rfl ?_ ?_ ?_ ?_ ?_ ?_ rfl rfl ?_ ?_;(focus (simp only [go_sem,simprocAttr,hb,hlk];done));(iterate 6 (focus (simp [go_sem,simprocAttr,hb,hlk];done)));simp only [go_sem,simprocAttr,hb,hlk,List.map_cons,List.map_nil])|refine aa hX hC hP (aX g x true hl) rfl rfl rfl (by simp only [go_sem,simprocAttr,hb,hlk]) rfl ?_|refine aa hX hC hP (bn outs ((bE g x).getD k 0) um) rfl rfl rfl (by simp only [go_sem,simprocAttr,hb,hlk]) rfl ?_);try simp only [go_sem,simprocAttr,hb,hlk])|(intro h))
  refine ⟨k+1,by omega, ?_,by omega⟩
  refine Le.of ?_ ?_<;>simp [go_sem,simprocAttr,hb,hlk,cO,fQ]
 have hb:decide ((k:Int)<(outs.length:Int))=false:=decide_eq_false (by omega)
 obtain rfl:k=outs.length:=by omega
 have ht:outs.take outs.length=outs:=List.take_of_length_le (by omega)
 clear hk hge
 by_cases h0:outs= []
 ·have hA:aO g x outs= [(-1,x, -1)]:=if_pos h0
  have hb0:decide ((outs.length:Int)=0)=true:=decide_eq_true (by rw [h0];rfl)
  have hm0:(outs.map (fQ g x)).map rT= []:=by rw [h0];rfl
  repeat' (first|((first|((with_reducible (first|apply oA|apply oB));exact rfl;intro K hK)|(refine hK _ ?_;clear hK K)|((with_reducible (first|apply oG|apply oH));iterate 3 exact rfl)|((with_reducible apply oI);(iterate 2 exact rfl);intro K hK)|(with_reducible (first|apply wI|apply wJ|apply wK)));try simp only [go_sem,simprocAttr,hb,ht,hb0,hm0,List.nil_append])|(with_reducible (first|apply oC|apply oJ|exact oK|apply wA|apply wB|apply wC hX hC|apply wD hX hC|apply wE hX hC af|apply wF hX hC af|apply wG|apply wH|apply And.intro))|((with_reducible refine oD ?_ ?_);kernel_rfl)|((with_reducible (first|apply oE|apply oF));(iterate 3 exact rfl);all_goals (intro h;first|(exact absurd h (by decide))|((try simp only [go_sem,simprocAttr,hb,ht,hb0,hm0,List.nil_append] at h);(try with_reducible intro K hK);simp only [go_sem,simprocAttr,hb,ht,hb0,hm0,List.nil_append])))|((first|((with_reducible apply wL);exact rfl)|((with_reducible apply wM);exact rfl));all_goals (try ((with_reducible intro h);first|(exact absurd h (by decide))|(try simp only [go_sem,simprocAttr,hb,ht,hb0,hm0,List.nil_append] at h))))|omega|((first|(refine aF hX hC hP [(10000,10000)] (bG g hl f x jy hp1) rfl rfl rfl ?_ ?_ ?_ ?_ ?_ ?_ rfl rfl ?_ ?_;(focus (simp only [go_sem,simprocAttr,hb,ht,hb0,hm0,List.nil_append];done));(iterate 6 (focus (simp [go_sem,simprocAttr,hb,ht,hb0,hm0,List.nil_append];done)));simp only [go_sem,simprocAttr,hb,ht,hb0,hm0,List.nil_append,List.map_cons,List.map_nil])|refine aa hX hC hP (aX g x true hl) rfl rfl rfl (by simp only [go_sem,simprocAttr,hb,ht,hb0,hm0,List.nil_append]) rfl ?_|refine aa hX hC hP (bn outs ((bE g x).getD k 0) um) rfl rfl rfl (by simp only [go_sem,simprocAttr,hb,ht,hb0,hm0,List.nil_append]) rfl ?_);try simp only [go_sem,simprocAttr,hb,ht,hb0,hm0,List.nil_append])|(intro h))
  (refine lI hX 10 80 72 (by simp only [go_sem,simprocAttr,hb,ht,hb0,hm0,List.nil_append]) rfl (by first|exact .inl rfl|exact .inr rfl) (by decide) ?_;simp only [go_sem,simprocAttr,hb,ht,hb0,hm0,List.nil_append])
  refine aj (fun k:Nat=>k≤f.row.length) (fun k=>⟨[(0, .ptr 10000 0),(1,eN x),(10, .ref 72),(12,eN (cR f.row x k).1),(13,eN ((cR f.row x k).2.1 - 1)),(14,eN k)], [(10000, .box [eN g.n, .d (sE g.es), .d (sT f.row), .d (sI f.pl)]),(72, .tip 100 3 ((aO g x outs).map rT))]⟩) (fun k=>f.row.length - k) 0 (by omega) ?_ ?_
  ·refine Le.of ?_ ?_<;>simp [go_sem,simprocAttr,hb,ht,hb0,hm0,List.nil_append,cR,hA]
  rintro k hk
  rcases Nat.lt_or_ge k f.row.length with hlt|hge
  ·have hb:decide ((k:Int)<(f.row.length:Int))=true:=decide_eq_true (by omega)
   have hok:=dc (row:=f.row) (x:=x) k
   have cO:=jc (row:=f.row) (x:=x) (k:=k)
   have uf:(cR f.row x k).1<0↔(cR f.row x k).1= -1:=by
    rcases hok with ⟨h1,_⟩|⟨a,b,c,h1,_⟩
    ·rw [h1];exact ⟨fun _=>rfl,fun _=>by decide⟩
    ·rw [h1];show (a:Int)<0↔(a:Int)= -1;omega
   repeat' (first|((first|((with_reducible (first|apply oA|apply oB));exact rfl;intro K hK)|(refine hK _ ?_;clear hK K)|((with_reducible (first|apply oG|apply oH));iterate 3 exact rfl)|((with_reducible apply oI);(iterate 2 exact rfl);intro K hK)|(with_reducible (first|apply wI|apply wJ|apply wK)));try simp only [go_sem,simprocAttr,hb])|(with_reducible (first|apply oC|apply oJ|exact oK|apply wA|apply wB|apply wC hX hC|apply wD hX hC|apply wE hX hC af|apply wF hX hC af|apply wG|apply wH|apply And.intro))|((with_reducible refine oD ?_ ?_);kernel_rfl)|((with_reducible (first|apply oE|apply oF));(iterate 3 exact rfl);all_goals (intro h;first|(exact absurd h (by decide))|((try simp only [go_sem,simprocAttr,hb] at h);(try with_reducible intro K hK);simp only [go_sem,simprocAttr,hb])))|((first|((with_reducible apply wL);exact rfl)|((with_reducible apply wM);exact rfl));all_goals (try ((with_reducible intro h);first|(exact absurd h (by decide))|(try simp only [go_sem,simprocAttr,hb] at h))))|omega|((first|(refine aF hX hC hP [(10000,10000)] (bG g hl f x jy hp1) rfl rfl rfl ?_ ?_ ?_ ?_ ?_ ?_ rfl rfl ?_ ?_;(focus (simp only [go_sem,simprocAttr,hb];done));(iterate 6 (focus (simp [go_sem,simprocAttr,hb];done)));simp only [go_sem,simprocAttr,hb,List.map_cons,List.map_nil])|refine aa hX hC hP (aX g x true hl) rfl rfl rfl (by simp only [go_sem,simprocAttr,hb]) rfl ?_|refine aa hX hC hP (bn outs ((bE g x).getD k 0) um) rfl rfl rfl (by simp only [go_sem,simprocAttr,hb]) rfl ?_);try simp only [go_sem,simprocAttr,hb])|(intro h))
   all_goals (try rw [uf] at*)
   all_goals (first|rw [if_neg (by assumption)] at cO|(rw [if_pos (by assumption)] at cO;first|rw [if_pos (by assumption)] at cO|rw [if_neg (by assumption)] at cO))
   all_goals (refine ⟨k+1,by omega, ?_,by omega⟩;refine Le.of ?_ ?_<;>simp [go_sem,simprocAttr,hb,cO])
  have hb:decide ((k:Int)<(f.row.length:Int))=false:=decide_eq_false (by omega)
  obtain rfl:k=f.row.length:=by omega
  clear hk hge
  have htr:List.take f.row.length (f.row.map rT)=f.row.map rT:=List.take_of_length_le (by simp)
  have ug:=kR (g:=g) (x:=x) (outs:=outs)
  rcases dc (row:=f.row) (x:=x) f.row.length with ⟨hs,_⟩|⟨a,b,c,hs,hab,jM,_⟩
  ·have hS:aA g f x outs=(([],0),⟨aO g x outs++f.row,f.pl++ [x]⟩):=by
    have e:aW f.row x=(-1,0,0):=hs
    unfold aA
    rw [e];simp;exact .inl (by decide)
   repeat' (first|(show dK _ .ret _ _;(try simp only [go_sem,simprocAttr,hb,hs,hS,htr,List.map_append,List.map_cons,List.map_nil,rI,List.length_append,List.length_map,List.length_take,List.length_drop]);(refine dF hX 113 rfl ?_;simp only [go_sem,simprocAttr,hb,hs,hS,htr,List.map_append,List.map_cons,List.map_nil,rI,List.length_append,List.length_map,List.length_take,List.length_drop]);first|(refine dF hX 124 rfl ?_;simp only [go_sem,simprocAttr,hb,hs,hS,htr,List.map_append,List.map_cons,List.map_nil,rI,List.length_append,List.length_map,List.length_take,List.length_drop])|(refine dF hX 156 rfl ?_;simp only [go_sem,simprocAttr,hb,hs,hS,htr,List.map_append,List.map_cons,List.map_nil,rI,List.length_append,List.length_map,List.length_take,List.length_drop]))|((first|((with_reducible (first|apply oA|apply oB));exact rfl;intro K hK)|(refine hK _ ?_;clear hK K)|((with_reducible (first|apply oG|apply oH));iterate 3 exact rfl)|((with_reducible apply oI);(iterate 2 exact rfl);intro K hK)|(with_reducible (first|apply wI|apply wJ|apply wK)));try simp only [go_sem,simprocAttr,hb,hs,hS,htr,List.map_append,List.map_cons,List.map_nil,rI,List.length_append,List.length_map,List.length_take,List.length_drop])|(with_reducible (first|apply oC|apply oJ|exact oK|apply wA|apply wB|apply wC hX hC|apply wD hX hC|apply wE hX hC af|apply wF hX hC af|apply wG|apply wH|apply And.intro))|((with_reducible refine oD ?_ ?_);kernel_rfl)|((with_reducible (first|apply oE|apply oF));(iterate 3 exact rfl);all_goals (intro h;first|(exact absurd h (by decide))|((try simp only [go_sem,simprocAttr,hb,hs,hS,htr,List.map_append,List.map_cons,List.map_nil,rI,List.length_append,List.length_map,List.length_take,List.length_drop] at h);(try with_reducible intro K hK);simp only [go_sem,simprocAttr,hb,hs,hS,htr,List.map_append,List.map_cons,List.map_nil,rI,List.length_append,List.length_map,List.length_take,List.length_drop])))|((first|((with_reducible apply wL);exact rfl)|((with_reducible apply wM);exact rfl));all_goals (try ((with_reducible intro h);first|(exact absurd h (by decide))|(try simp only [go_sem,simprocAttr,hb,hs,hS,htr,List.map_append,List.map_cons,List.map_nil,rI,List.length_append,List.length_map,List.length_take,List.length_drop] at h))))|omega|((first|(refine aF hX hC hP [(10000,10000)] (bG g hl f x jy hp1) rfl rfl rfl ?_ ?_ ?_ ?_ ?_ ?_ rfl rfl ?_ ?_;(focus (simp only [go_sem,simprocAttr,hb,hs,hS,htr,List.map_append,List.map_cons,List.map_nil,rI,List.length_append,List.length_map,List.length_take,List.length_drop];done));(iterate 6 (focus (simp [go_sem,simprocAttr,hb,hs,hS,htr,List.map_append,List.map_cons,List.map_nil,rI,List.length_append,List.length_map,List.length_take,List.length_drop];done)));simp only [go_sem,simprocAttr,hb,hs,hS,htr,List.map_append,List.map_cons,List.map_nil,rI,List.length_append,List.length_map,List.length_take,List.length_drop,List.map_cons,List.map_nil])|refine aa hX hC hP (aX g x true hl) rfl rfl rfl (by simp only [go_sem,simprocAttr,hb,hs,hS,htr,List.map_append,List.map_cons,List.map_nil,rI,List.length_append,List.length_map,List.length_take,List.length_drop]) rfl ?_|refine aa hX hC hP (bn outs ((bE g x).getD k 0) um) rfl rfl rfl (by simp only [go_sem,simprocAttr,hb,hs,hS,htr,List.map_append,List.map_cons,List.map_nil,rI,List.length_append,List.length_map,List.length_take,List.length_drop]) rfl ?_);try simp only [go_sem,simprocAttr,hb,hs,hS,htr,List.map_append,List.map_cons,List.map_nil,rI,List.length_append,List.length_map,List.length_take,List.length_drop])|(intro h))
  ·have hS:aA g f x outs=(((f.row.take b).drop a,0),⟨f.row.take a++aO g x outs++f.row.drop b,f.pl++ [x]⟩):=by
    have e:aW f.row x=((a:Int),(b:Int),(c:Int)):=hs
    unfold aA
    rw [e]
    have e1:(max (a:Int) 0).toNat=a:=by omega
    simp only [e1,Int.toNat_natCast]
   have nc:((b:Int) - 1+1)=b:=by omega
   repeat' (first|(show dK _ .ret _ _;(try simp only [go_sem,simprocAttr,hb,hs,hS,nc,htr,List.map_append,List.map_cons,List.map_nil,List.map_take,List.map_drop,rI,List.length_append,List.length_map,List.length_take,List.length_drop]);(refine dF hX 113 rfl ?_;simp only [go_sem,simprocAttr,hb,hs,hS,nc,htr,List.map_append,List.map_cons,List.map_nil,List.map_take,List.map_drop,rI,List.length_append,List.length_map,List.length_take,List.length_drop]);first|(refine dF hX 124 rfl ?_;simp only [go_sem,simprocAttr,hb,hs,hS,nc,htr,List.map_append,List.map_cons,List.map_nil,List.map_take,List.map_drop,rI,List.length_append,List.length_map,List.length_take,List.length_drop])|(refine dF hX 156 rfl ?_;simp only [go_sem,simprocAttr,hb,hs,hS,nc,htr,List.map_append,List.map_cons,List.map_nil,List.map_take,List.map_drop,rI,List.length_append,List.length_map,List.length_take,List.length_drop]))|((first|((with_reducible (first|apply oA|apply oB));exact rfl;intro K hK)|(refine hK _ ?_;clear hK K)|((with_reducible (first|apply oG|apply oH));iterate 3 exact rfl)|((with_reducible apply oI);(iterate 2 exact rfl);intro K hK)|(with_reducible (first|apply wI|apply wJ|apply wK)));try simp only [go_sem,simprocAttr,hb,hs,hS,nc,htr,List.map_append,List.map_cons,List.map_nil,List.map_take,List.map_drop,rI,List.length_append,List.length_map,List.length_take,List.length_drop])|(with_reducible (first|apply oC|apply oJ|exact oK|apply wA|apply wB|apply wC hX hC|apply wD hX hC|apply wE hX hC af|apply wF hX hC af|apply wG|apply wH|apply And.intro))|((with_reducible refine oD ?_ ?_);kernel_rfl)|((with_reducible (first|apply oE|apply oF));(iterate 3 exact rfl);all_goals (intro h;first|(exact absurd h (by decide))|((try simp only [go_sem,simprocAttr,hb,hs,hS,nc,htr,List.map_append,List.map_cons,List.map_nil,List.map_take,List.map_drop,rI,List.length_append,List.length_map,List.length_take,List.length_drop] at h);(try with_reducible intro K hK);simp only [go_sem,simprocAttr,hb,hs,hS,nc,htr,List.map_append,List.map_cons,List.map_nil,List.map_take,List.map_drop,rI,List.length_append,List.length_map,List.length_take,List.length_drop])))|((first|((with_reducible apply wL);exact rfl)|((with_reducible apply wM);exact rfl));all_goals (try ((with_reducible intro h);first|(exact absurd h (by decide))|(try simp only [go_sem,simprocAttr,hb,hs,hS,nc,htr,List.map_append,List.map_cons,List.map_nil,List.map_take,List.map_drop,rI,List.length_append,List.length_map,List.length_take,List.length_drop] at h))))|omega|((first|(refine aF hX hC hP [(10000,10000)] (bG g hl f x jy hp1) rfl rfl rfl ?_ ?_ ?_ ?_ ?_ ?_ rfl rfl ?_ ?_;(focus (simp only [go_sem,simprocAttr,hb,hs,hS,nc,htr,List.map_append,List.map_cons,List.map_nil,List.map_take,List.map_drop,rI,List.length_append,List.length_map,List.length_take,List.length_drop];done));(iterate 6 (focus (simp [go_sem,simprocAttr,hb,hs,hS,nc,htr,List.map_append,List.map_cons,List.map_nil,List.map_take,List.map_drop,rI,List.length_append,List.length_map,List.length_take,List.length_drop];done)));simp only [go_sem,simprocAttr,hb,hs,hS,nc,htr,List.map_append,List.map_cons,List.map_nil,List.map_take,List.map_drop,rI,List.length_append,List.length_map,List.length_take,List.length_drop,List.map_cons,List.map_nil])|refine aa hX hC hP (aX g x true hl) rfl rfl rfl (by simp only [go_sem,simprocAttr,hb,hs,hS,nc,htr,List.map_append,List.map_cons,List.map_nil,List.map_take,List.map_drop,rI,List.length_append,List.length_map,List.length_take,List.length_drop]) rfl ?_|refine aa hX hC hP (bn outs ((bE g x).getD k 0) um) rfl rfl rfl (by simp only [go_sem,simprocAttr,hb,hs,hS,nc,htr,List.map_append,List.map_cons,List.map_nil,List.map_take,List.map_drop,rI,List.length_append,List.length_map,List.length_take,List.length_drop]) rfl ?_);try simp only [go_sem,simprocAttr,hb,hs,hS,nc,htr,List.map_append,List.map_cons,List.map_nil,List.map_take,List.map_drop,rI,List.length_append,List.length_map,List.length_take,List.length_drop])|(intro h))
 ·have hA:aO g x outs=outs.map (fQ g x):=if_neg h0
  have hb0:decide ((outs.length:Int)=0)=false:=decide_eq_false fun h=>h0 (List.eq_nil_of_length_eq_zero (by omega))
  repeat' (first|((first|((with_reducible (first|apply oA|apply oB));exact rfl;intro K hK)|(refine hK _ ?_;clear hK K)|((with_reducible (first|apply oG|apply oH));iterate 3 exact rfl)|((with_reducible apply oI);(iterate 2 exact rfl);intro K hK)|(with_reducible (first|apply wI|apply wJ|apply wK)));try simp only [go_sem,simprocAttr,hb,ht,hb0])|(with_reducible (first|apply oC|apply oJ|exact oK|apply wA|apply wB|apply wC hX hC|apply wD hX hC|apply wE hX hC af|apply wF hX hC af|apply wG|apply wH|apply And.intro))|((with_reducible refine oD ?_ ?_);kernel_rfl)|((with_reducible (first|apply oE|apply oF));(iterate 3 exact rfl);all_goals (intro h;first|(exact absurd h (by decide))|((try simp only [go_sem,simprocAttr,hb,ht,hb0] at h);(try with_reducible intro K hK);simp only [go_sem,simprocAttr,hb,ht,hb0])))|((first|((with_reducible apply wL);exact rfl)|((with_reducible apply wM);exact rfl));all_goals (try ((with_reducible intro h);first|(exact absurd h (by decide))|(try simp only [go_sem,simprocAttr,hb,ht,hb0] at h))))|omega|((first|(refine aF hX hC hP [(10000,10000)] (bG g hl f x jy hp1) rfl rfl rfl ?_ ?_ ?_ ?_ ?_ ?_ rfl rfl ?_ ?_;(focus (simp only [go_sem,simprocAttr,hb,ht,hb0];done));(iterate 6 (focus (simp [go_sem,simprocAttr,hb,ht,hb0];done)));simp only [go_sem,simprocAttr,hb,ht,hb0,List.map_cons,List.map_nil])|refine aa hX hC hP (aX g x true hl) rfl rfl rfl (by simp only [go_sem,simprocAttr,hb,ht,hb0]) rfl ?_|refine aa hX hC hP (bn outs ((bE g x).getD k 0) um) rfl rfl rfl (by simp only [go_sem,simprocAttr,hb,ht,hb0]) rfl ?_);try simp only [go_sem,simprocAttr,hb,ht,hb0])|(intro h))
  refine aj (fun k:Nat=>k≤f.row.length) (fun k=>⟨[(0, .ptr 10000 0),(1,eN x),(10, .ref 72),(12,eN (cR f.row x k).1),(13,eN ((cR f.row x k).2.1 - 1)),(14,eN k)], [(10000, .box [eN g.n, .d (sE g.es), .d (sT f.row), .d (sI f.pl)]),(72, .tip 100 3 ((aO g x outs).map rT))]⟩) (fun k=>f.row.length - k) 0 (by omega) ?_ ?_
  ·refine Le.of ?_ ?_<;>simp [go_sem,simprocAttr,hb,ht,hb0,cR,hA]
  rintro k hk
  rcases Nat.lt_or_ge k f.row.length with hlt|hge
  ·have hb:decide ((k:Int)<(f.row.length:Int))=true:=decide_eq_true (by omega)
   have hok:=dc (row:=f.row) (x:=x) k
   have cO:=jc (row:=f.row) (x:=x) (k:=k)
   have uf:(cR f.row x k).1<0↔(cR f.row x k).1= -1:=by
    rcases hok with ⟨h1,_⟩|⟨a,b,c,h1,_⟩
    ·rw [h1];exact ⟨fun _=>rfl,fun _=>by decide⟩
    ·rw [h1];show (a:Int)<0↔(a:Int)= -1;omega
   repeat' (first|((first|((with_reducible (first|apply oA|apply oB));exact rfl;intro K hK)|(refine hK _ ?_;clear hK K)|((with_reducible (first|apply oG|apply oH));iterate 3 exact rfl)|((with_reducible apply oI);(iterate 2 exact rfl);intro K hK)|(with_reducible (first|apply wI|apply wJ|apply wK)));try simp only [go_sem,simprocAttr,hb])|(with_reducible (first|apply oC|apply oJ|exact oK|apply wA|apply wB|apply wC hX hC|apply wD hX hC|apply wE hX hC af|apply wF hX hC af|apply wG|apply wH|apply And.intro))|((with_reducible refine oD ?_ ?_);kernel_rfl)|((with_reducible (first|apply oE|apply oF));(iterate 3 exact rfl);all_goals (intro h;first|(exact absurd h (by decide))|((try simp only [go_sem,simprocAttr,hb] at h);(try with_reducible intro K hK);simp only [go_sem,simprocAttr,hb])))|((first|((with_reducible apply wL);exact rfl)|((with_reducible apply wM);exact rfl));all_goals (try ((with_reducible intro h);first|(exact absurd h (by decide))|(try simp only [go_sem,simprocAttr,hb] at h))))|omega|((first|(refine aF hX hC hP [(10000,10000)] (bG g hl f x jy hp1) rfl rfl rfl ?_ ?_ ?_ ?_ ?_ ?_ rfl rfl ?_ ?_;(focus (simp only [go_sem,simprocAttr,hb];done));(iterate 6 (focus (simp [go_sem,simprocAttr,hb];done)));simp only [go_sem,simprocAttr,hb,List.map_cons,List.map_nil])|refine aa hX hC hP (aX g x true hl) rfl rfl rfl (by simp only [go_sem,simprocAttr,hb]) rfl ?_|refine aa hX hC hP (bn outs ((bE g x).getD k 0) um) rfl rfl rfl (by simp only [go_sem,simprocAttr,hb]) rfl ?_);try simp only [go_sem,simprocAttr,hb])|(intro h))
   all_goals (try rw [uf] at*)
   all_goals (first|rw [if_neg (by assumption)] at cO|(rw [if_pos (by assumption)] at cO;first|rw [if_pos (by assumption)] at cO|rw [if_neg (by assumption)] at cO))
   all_goals (refine ⟨k+1,by omega, ?_,by omega⟩;refine Le.of ?_ ?_<;>simp [go_sem,simprocAttr,hb,cO])
  have hb:decide ((k:Int)<(f.row.length:Int))=false:=decide_eq_false (by omega)
  obtain rfl:k=f.row.length:=by omega
  clear hk hge
  have htr:List.take f.row.length (f.row.map rT)=f.row.map rT:=List.take_of_length_le (by simp)
  have ug:=kR (g:=g) (x:=x) (outs:=outs)
  rcases dc (row:=f.row) (x:=x) f.row.length with ⟨hs,_⟩|⟨a,b,c,hs,hab,jM,_⟩
  ·have hS:aA g f x outs=(([],0),⟨aO g x outs++f.row,f.pl++ [x]⟩):=by
    have e:aW f.row x=(-1,0,0):=hs
    unfold aA
    rw [e];simp;exact .inl (by decide)
   repeat' (first|(show dK _ .ret _ _;(try simp only [go_sem,simprocAttr,hb,hs,hS,htr,List.map_append,List.map_cons,List.map_nil,rI,List.length_append,List.length_map,List.length_take,List.length_drop]);(refine dF hX 113 rfl ?_;simp only [go_sem,simprocAttr,hb,hs,hS,htr,List.map_append,List.map_cons,List.map_nil,rI,List.length_append,List.length_map,List.length_take,List.length_drop]);first|(refine dF hX 124 rfl ?_;simp only [go_sem,simprocAttr,hb,hs,hS,htr,List.map_append,List.map_cons,List.map_nil,rI,List.length_append,List.length_map,List.length_take,List.length_drop])|(refine dF hX 156 rfl ?_;simp only [go_sem,simprocAttr,hb,hs,hS,htr,List.map_append,List.map_cons,List.map_nil,rI,List.length_append,List.length_map,List.length_take,List.length_drop]))|((first|((with_reducible (first|apply oA|apply oB));exact rfl;intro K hK)|(refine hK _ ?_;clear hK K)|((with_reducible (first|apply oG|apply oH));iterate 3 exact rfl)|((with_reducible apply oI);(iterate 2 exact rfl);intro K hK)|(with_reducible (first|apply wI|apply wJ|apply wK)));try simp only [go_sem,simprocAttr,hb,hs,hS,htr,List.map_append,List.map_cons,List.map_nil,rI,List.length_append,List.length_map,List.length_take,List.length_drop])|(with_reducible (first|apply oC|apply oJ|exact oK|apply wA|apply wB|apply wC hX hC|apply wD hX hC|apply wE hX hC af|apply wF hX hC af|apply wG|apply wH|apply And.intro))|((with_reducible refine oD ?_ ?_);kernel_rfl)|((with_reducible (first|apply oE|apply oF));(iterate 3 exact rfl);all_goals (intro h;first|(exact absurd h (by decide))|((try simp only [go_sem,simprocAttr,hb,hs,hS,htr,List.map_append,List.map_cons,List.map_nil,rI,List.length_append,List.length_map,List.length_take,List.length_drop] at h);(try with_reducible intro K hK);simp only [go_sem,simprocAttr,hb,hs,hS,htr,List.map_append,List.map_cons,List.map_nil,rI,List.length_append,List.length_map,List.length_take,List.length_drop])))|((first|((with_reducible apply wL);exact rfl)|((with_reducible apply wM);exact rfl));all_goals (try ((with_reducible intro h);first|(exact absurd h (by decide))|(try simp only [go_sem,simprocAttr,hb,hs,hS,htr,List.map_append,List.map_cons,List.map_nil,rI,List.length_append,List.length_map,List.length_take,List.length_drop] at h))))|omega|((first|(refine aF hX hC hP [(10000,10000)] (bG g hl f x jy hp1) rfl rfl rfl ?_ ?_ ?_ ?_ ?_ ?_ rfl rfl ?_ ?_;(focus (simp only [go_sem,simprocAttr,hb,hs,hS,htr,List.map_append,List.map_cons,List.map_nil,rI,List.length_append,List.length_map,List.length_take,List.length_drop];done));(iterate 6 (focus (simp [go_sem,simprocAttr,hb,hs,hS,htr,List.map_append,List.map_cons,List.map_nil,rI,List.length_append,List.length_map,List.length_take,List.length_drop];done)));simp only [go_sem,simprocAttr,hb,hs,hS,htr,List.map_append,List.map_cons,List.map_nil,rI,List.length_append,List.length_map,List.length_take,List.length_drop,List.map_cons,List.map_nil])|refine aa hX hC hP (aX g x true hl) rfl rfl rfl (by simp only [go_sem,simprocAttr,hb,hs,hS,htr,List.map_append,List.map_cons,List.map_nil,rI,List.length_append,List.length_map,List.length_take,List.length_drop]) rfl ?_|refine aa hX hC hP (bn outs ((bE g x).getD k 0) um) rfl rfl rfl (by simp only [go_sem,simprocAttr,hb,hs,hS,htr,List.map_append,List.map_cons,List.map_nil,rI,List.length_append,List.length_map,List.length_take,List.length_drop]) rfl ?_);try simp only [go_sem,simprocAttr,hb,hs,hS,htr,List.map_append,List.map_cons,List.map_nil,rI,List.length_append,List.length_map,List.length_take,List.length_drop])|(intro h))
  ·have hS:aA g f x outs=(((f.row.take b).drop a,0),⟨f.row.take a++aO g x outs++f.row.drop b,f.pl++ [x]⟩):=by
    have e:aW f.row x=((a:Int),(b:Int),(c:Int)):=hs
    unfold aA
    rw [e]
    have e1:(max (a:Int) 0).toNat=a:=by omega
    simp only [e1,Int.toNat_natCast]
   have nc:((b:Int) - 1+1)=b:=by omega
   repeat' (first|(show dK _ .ret _ _;(try simp only [go_sem,simprocAttr,hb,hs,hS,nc,htr,List.map_append,List.map_cons,List.map_nil,List.map_take,List.map_drop,rI,List.length_append,List.length_map,List.length_take,List.length_drop]);(refine dF hX 113 rfl ?_;simp only [go_sem,simprocAttr,hb,hs,hS,nc,htr,List.map_append,List.map_cons,List.map_nil,List.map_take,List.map_drop,rI,List.length_append,List.length_map,List.length_take,List.length_drop]);first|(refine dF hX 124 rfl ?_;simp only [go_sem,simprocAttr,hb,hs,hS,nc,htr,List.map_append,List.map_cons,List.map_nil,List.map_take,List.map_drop,rI,List.length_append,List.length_map,List.length_take,List.length_drop])|(refine dF hX 156 rfl ?_;simp only [go_sem,simprocAttr,hb,hs,hS,nc,htr,List.map_append,List.map_cons,List.map_nil,List.map_take,List.map_drop,rI,List.length_append,List.length_map,List.length_take,List.length_drop]))|((first|((with_reducible (first|apply oA|apply oB));exact rfl;intro K hK)|(refine hK _ ?_;clear hK K)|((with_reducible (first|apply oG|apply oH));iterate 3 exact rfl)|((with_reducible apply oI);(iterate 2 exact rfl);intro K hK)|(with_reducible (first|apply wI|apply wJ|apply wK)));try simp only [go_sem,simprocAttr,hb,hs,hS,nc,htr,List.map_append,List.map_cons,List.map_nil,List.map_take,List.map_drop,rI,List.length_append,List.length_map,List.length_take,List.length_drop])|(with_reducible (first|apply oC|apply oJ|exact oK|apply wA|apply wB|apply wC hX hC|apply wD hX hC|apply wE hX hC af|apply wF hX hC af|apply wG|apply wH|apply And.intro))|((with_reducible refine oD ?_ ?_);kernel_rfl)|((with_reducible (first|apply oE|apply oF));(iterate 3 exact rfl);all_goals (intro h;first|(exact absurd h (by decide))|((try simp only [go_sem,simprocAttr,hb,hs,hS,nc,htr,List.map_append,List.map_cons,List.map_nil,List.map_take,List.map_drop,rI,List.length_append,List.length_map,List.length_take,List.length_drop] at h);(try with_reducible intro K hK);simp only [go_sem,simprocAttr,hb,hs,hS,nc,htr,List.map_append,List.map_cons,List.map_nil,List.map_take,List.map_drop,rI,List.length_append,List.length_map,List.length_take,List.length_drop])))|((first|((with_reducible apply wL);exact rfl)|((with_reducible apply wM);exact rfl));all_goals (try ((with_reducible intro h);first|(exact absurd h (by decide))|(try simp only [go_sem,simprocAttr,hb,hs,hS,nc,htr,List.map_append,List.map_cons,List.map_nil,List.map_take,List.map_drop,rI,List.length_append,List.length_map,List.length_take,List.length_drop] at h))))|omega|((first|(refine aF hX hC hP [(10000,10000)] (bG g hl f x jy hp1) rfl rfl rfl ?_ ?_ ?_ ?_ ?_ ?_ rfl rfl ?_ ?_;(focus (simp only [go_sem,simprocAttr,hb,hs,hS,nc,htr,List.map_append,List.map_cons,List.map_nil,List.map_take,List.map_drop,rI,List.length_append,List.length_map,List.length_take,List.length_drop];done));(iterate 6 (focus (simp [go_sem,simprocAttr,hb,hs,hS,nc,htr,List.map_append,List.map_cons,List.map_nil,List.map_take,List.map_drop,rI,List.length_append,List.length_map,List.length_take,List.length_drop];done)));simp only [go_sem,simprocAttr,hb,hs,hS,nc,htr,List.map_append,List.map_cons,List.map_nil,List.map_take,List.map_drop,rI,List.length_append,List.length_map,List.length_take,List.length_drop,List.map_cons,List.map_nil])|refine aa hX hC hP (aX g x true hl) rfl rfl rfl (by simp only [go_sem,simprocAttr,hb,hs,hS,nc,htr,List.map_append,List.map_cons,List.map_nil,List.map_take,List.map_drop,rI,List.length_append,List.length_map,List.length_take,List.length_drop]) rfl ?_|refine aa hX hC hP (bn outs ((bE g x).getD k 0) um) rfl rfl rfl (by simp only [go_sem,simprocAttr,hb,hs,hS,nc,htr,List.map_append,List.map_cons,List.map_nil,List.map_take,List.map_drop,rI,List.length_append,List.length_map,List.length_take,List.length_drop]) rfl ?_);try simp only [go_sem,simprocAttr,hb,hs,hS,nc,htr,List.map_append,List.map_cons,List.map_nil,List.map_take,List.map_drop,rI,List.length_append,List.length_map,List.length_take,List.length_drop])|(intro h))
end Go.Ab
end
section
namespace Go.Ab
open Go.Proofs
attribute [local congr] ACall.congr
set_option maxRecDepth 10000
set_option maxHeartbeats 4000000
def vI (ls:List (List Int)):List (List D):=ls.map fun l=> [sI l]
theorem vI_length {ls:List (List Int)} :(vI ls).length=ls.length:=by simp [vI]
theorem gR {ls:List (List Int)} {k:Nat} (h:k<ls.length) (d:List D):(vI ls).getD k d= [sI (ls.getD k [])]:=by
 simp [vI,List.getD_eq_getElem?_getD,List.getElem?_eq_getElem h]
attribute [go_sem] vI_length
def AU (l:List Int) (i:Nat):List Int:=l.take i++l.drop (i+1)
def Gc:Nat→List Int→List (List Int)
 |0,_=> [[]]
 |n+1,l=>(List.range l.length).flatMap fun i=>(Gc n (AU l i)).map fun t=>l.getD i 0::t
def Oz (n:Nat) (l:List Int) (k:Nat):List (List Int):=(List.range k).flatMap fun i=>(Gc n (AU l i)).map fun t=>l.getD i 0::t
def OA:Nat→Nat
 |0=>1
 |n+1=>(n+1)*OA n
end Go.Ab
end
section
namespace Go.Ab
open Go.Proofs
attribute [local congr] ACall.congr
set_option maxRecDepth 10000
set_option maxHeartbeats 8000000
def JY (g:Gr):Nat→Fr→Bool
 |0,f=>decide ((f.pl.length:Int)=g.n)
 |m+1,f=>decide ((f.pl.length:Int)=g.n)||(List.range g.n.toNat).any fun x=>aq g f (x:Int)&&(Gc (bE g (x:Int)).length (bE g (x:Int))).any fun o=>JY g m (aA g f (x:Int) o).2
def OB (g:Gr) (m:Nat) (f:Fr) (x:Nat):Bool:=aq g f (x:Int)&&(Gc (bE g (x:Int)).length (bE g (x:Int))).any fun o=>JY g m (aA g f (x:Int) o).2
theorem vf {g:Gr} {f:Fr} {x:Int} {o:List Int} :(aA g f x o).2.row.length≤f.row.length+o.length+1∧(aA g f x o).2.pl.length=f.pl.length+1:=by
 obtain ⟨a,b,ha,hb,hab,jM⟩:=vb f.row x
 have:=kR (g:=g) (x:=x) (outs:=o)
 have e:aA g f x o=(((f.row.take b).drop a,0),⟨f.row.take a++aO g x o++f.row.drop b,f.pl++ [x]⟩):=by
  simp only [aA,ha,hb,Int.toNat_natCast]
 rw [e]
 refine ⟨?_,by simp⟩
 show (f.row.take a++aO g x o++f.row.drop b).length≤_
 rw [List.length_append,List.length_append,List.length_take,List.length_drop]
 omega
end Go.Ab
end
section
namespace Go.Ab
open Go.Proofs
attribute [local congr] ACall.congr
set_option maxRecDepth 10000
set_option maxHeartbeats 4000000
theorem tC (g:Gr) (hl:g.es.length≤9223372036854775807) (hm:aN g=false):Spec Tryz.prog 104 (Args [eG g]) [] (.tup [eN (gA g).1,eN (gA g).2.1, .d (sI (gA g).2.2)]) []:=by
 (refine Spec.intro (C:=T.cfg [] []) (rs:= [.t 2, .t 3, .t 4]) (T.ai _ _) Tryz.func104 rfl rfl Tryz.ntmps104 Tryz.results104 (by simp [AObj.isNest]) (by simp [AObj.isNest]) (by kernel_rfl) ?_;intro X hX hP hC aG aH vals hA;refine ⟨_,by simp,hA, ?_⟩;have af:X.P.follows .mixedOrders=true:=(by rw [hP];exact T.mixed);clear aG aH)
 repeat' (first|((first|((with_reducible (first|apply oA|apply oB));exact rfl;intro K hK)|(refine hK _ ?_;clear hK K)|((with_reducible (first|apply oG|apply oH));iterate 3 exact rfl)|((with_reducible apply oI);(iterate 2 exact rfl);intro K hK)|(with_reducible (first|apply wI|apply wJ|apply wK)));try simp only [go_sem,simprocAttr,hm])|(with_reducible (first|apply oC|apply oJ|exact oK|apply wA|apply wB|apply wC hX hC|apply wD hX hC|apply wE hX hC af|apply wF hX hC af|apply wG|apply wH|apply And.intro))|((with_reducible refine oD ?_ ?_);kernel_rfl)|((with_reducible (first|apply oE|apply oF));(iterate 3 exact rfl);all_goals (intro h;first|(exact absurd h (by decide))|((try simp only [go_sem,simprocAttr,hm] at h);(try with_reducible intro K hK);simp only [go_sem,simprocAttr,hm])))|((first|((with_reducible apply wL);exact rfl)|((with_reducible apply wM);exact rfl));all_goals (try ((with_reducible intro h);first|(exact absurd h (by decide))|(try simp only [go_sem,simprocAttr,hm] at h))))|omega|((first|refine aa hX hC hP (c8 g hl) rfl rfl rfl (by simp only [go_sem,simprocAttr,hm]) rfl ?_);try simp only [go_sem,simprocAttr,hm])|(intro h))
 all_goals simp [gA,iA,hm]
theorem tD (g:Gr) (hl:g.es.length≤9223372036854775807):Spec Tryz.prog 104 (Args [eG g]) [] (.tup [eN (gA g).1,eN (gA g).2.1, .d (sI (gA g).2.2)]) []:=by
 cases hm:aN g with
 |false=>exact tC g hl hm
 |true=>exact uz g (by have:=aL hm;omega)
theorem aU (g:Gr) (hl:g.es.length≤9223372036854775807):Spec Tryz.prog 52 (Args [eG g]) [] (eB (decide ((b9 g).1=0))) []:=by
 rw [HT]
 (refine Spec.intro (C:=T.cfg [] []) (rs:= [.t 2]) (T.ai _ _) Tryz.func52 rfl rfl Tryz.ntmps52 Tryz.results52 (by simp [AObj.isNest]) (by simp [AObj.isNest]) (by kernel_rfl) ?_;intro X hX hP hC aG aH vals hA;refine ⟨_,by simp,hA, ?_⟩;have af:X.P.follows .mixedOrders=true:=(by rw [hP];exact T.mixed);clear aG aH)
 repeat' (first|((first|((with_reducible (first|apply oA|apply oB));exact rfl;intro K hK)|(refine hK _ ?_;clear hK K)|((with_reducible (first|apply oG|apply oH));iterate 3 exact rfl)|((with_reducible apply oI);(iterate 2 exact rfl);intro K hK)|(with_reducible (first|apply wI|apply wJ|apply wK)));try simp only [go_sem,simprocAttr])|(with_reducible (first|apply oC|apply oJ|exact oK|apply wA|apply wB|apply wC hX hC|apply wD hX hC|apply wE hX hC af|apply wF hX hC af|apply wG|apply wH|apply And.intro))|((with_reducible refine oD ?_ ?_);kernel_rfl)|((with_reducible (first|apply oE|apply oF));(iterate 3 exact rfl);all_goals (intro h;first|(exact absurd h (by decide))|((try simp only [go_sem,simprocAttr] at h);(try with_reducible intro K hK);simp only [go_sem,simprocAttr])))|((first|((with_reducible apply wL);exact rfl)|((with_reducible apply wM);exact rfl));all_goals (try ((with_reducible intro h);first|(exact absurd h (by decide))|(try simp only [go_sem,simprocAttr] at h))))|omega|((first|refine aa hX hC hP (tD g hl) rfl rfl rfl (by simp only [go_sem,simprocAttr]) rfl ?_);try simp only [go_sem,simprocAttr])|(intro h))
end Go.Ab
end
section
namespace Go.Ab
open Go.Proofs
attribute [local congr] ACall.congr
set_option maxRecDepth 10000
set_option maxHeartbeats 4000000
def g9:Gr:=⟨3, [(0,1),(0,2),(1,2)]⟩
def PO:Fr:=⟨[], []⟩
def PR:Fr:=⟨[(0,0,1),(1,0,2)], [0]⟩
def PT:Fr:=⟨[(2,1,2),(1,0,2)], [0,1]⟩
def PU:Fr:=⟨[(-1,2, -1)], [0,1,2]⟩
end Go.Ab
end
section
namespace Go.Ab
open Go.Proofs
set_option maxRecDepth 10000
def Cj (g:Gr) (t:It):Prop:=(t.1= -1∧t.2.2= -1)∨(0≤t.1∧t.1<g.es.length∧t.2.1=(g.es.getD t.1.toNat (0,0)).1∧t.2.2=(g.es.getD t.1.toNat (0,0)).2)
structure dY (g:Gr) (f:Fr):Prop where
 it:∀t∈f.row,Cj g t
 pl:f.pl.Nodup
 Ep:∀x∈f.pl,0≤x∧x<g.n
theorem j7 {row:List It} {x:Int} :∀k:Nat,(cR row x k).2.2=fU row x k
 |0=>rfl
 |k+1=>by
  rw [jc,eO]
  split
  ·show (cR row x k).2.2+1=_
   rw [j7 k]
  ·exact j7 k
theorem pW {row:List It} {x:Int} {j:Nat} :∀d:Nat,fU row x j≤fU row x (j+d)
 |0=>Int.le_refl _
 |d+1=>by
  have:=pW (row:=row) (x:=x) (j:=j) d
  rw [← Nat.add_assoc,eO]
  split<;>omega
theorem j8 {row:List It} {x:Int} :∀ {k:Nat},(∀j,j<k→(row.getD j (0,0,0)).2.2≠x)→fU row x k=0
 |0,_=>rfl
 |k+1,h=>by
  rw [eO,if_neg (h k (by omega))]
  exact j8 fun j hj=>h j (by omega)
theorem pX {row:List It} {x:Int} {b:Nat} :∀ {d:Nat},(∀j,b≤j→j<b+d→(row.getD j (0,0,0)).2.2≠x)→fU row x (b+d)=fU row x b
 |0,_=>rfl
 |d+1,h=>by
  rw [← Nat.add_assoc,eO,if_neg (h (b+d) (by omega) (by omega))]
  exact pX fun j h1 h2=>h j h1 (by omega)
theorem gM {f:Edge→Int} {g:Gr} {x:Int} (h0:0≤x) (h1:x<g.n):bq f g x=bg f g.es g.es.length x:=if_pos ⟨h0,h1⟩
theorem pY {g:Gr} {e:Int} (h0:0≤e) (h1:e<g.es.length):0<bh g (g.es.getD e.toNat (0,0)).2:=by
 refine List.length_pos_iff.2 fun h=> ?_
 have hm:e∈bg (·.2) g.es g.es.length (g.es.getD e.toNat (0,0)).2:=by
  simp only [bg,List.mem_map,List.mem_filter,List.mem_range,decide_eq_true_eq]
  exact ⟨e.toNat,⟨by omega,rfl⟩,by simp;omega⟩
 rw [h] at hm;cases hm
theorem vg {row:List It} {p:It→Bool} {a b:Nat} (hb:b≤row.length):((row.take b).drop a).any p=true↔∃j,a≤j∧j<b∧p (row.getD j (0,0,0))=true:=by
 rw [List.any_eq_true]
 constructor
 ·rintro ⟨t,ht,hp⟩
  obtain ⟨k,hk,rfl⟩:=List.mem_iff_getElem.1 ht
  simp only [List.length_drop,List.length_take] at hk
  refine ⟨a+k,by omega,by omega, ?_⟩
  rw [List.getD_eq_getElem?_getD,List.getElem?_eq_getElem (show a+k<row.length by omega)]
  simpa using hp
 ·rintro ⟨j,h1,h2,hp⟩
  rw [List.getD_eq_getElem?_getD,List.getElem?_eq_getElem (show j<row.length by omega)] at hp
  refine ⟨row[j], ?_,hp⟩
  refine List.mem_iff_getElem.2 ⟨j - a,by simp;omega, ?_⟩
  simp only [List.getElem_drop,List.getElem_take]
  congr 1;omega
theorem Cj.head {g:Gr} (hm:aN g=true) {t:It} (h:Cj g t):(0≤t.1↔t.2.2≠ -1)∧ -1≤t.2.2:=by
 rcases h with ⟨h1,h2⟩|⟨h1,h2,_,h4⟩
 ·omega
 ·obtain ⟨_,h5,_⟩:=eS hm (k:=t.1.toNat) (by omega)
  omega
theorem gX {g:Gr} (hm:aN g=true) {f:Fr} (hi:dY g f) (x:Int):eA g f x=aq g f x:=by
 by_cases hx:x<0∨g.n≤x∨x∈f.pl
 ·rw [eA,aq,if_pos hx,if_pos hx]
 rw [eA,aq,if_neg hx,if_neg hx]
 have hx0:0≤x∧x<g.n:=by
  constructor
  ·exact Int.not_lt.1 fun h=>hx (.inl h)
  ·exact Int.not_le.1 fun h=>hx (.inr (.inl h))
 have hmem:∀j,j<f.row.length→Cj g (f.row.getD j (0,0,0)):=fun j hj=>hi.it _ (bz hj)
 rw [gM hx0.1 hx0.2]
 have hN:(bg (fun e=>e.2) g.es g.es.length x).length=bh g x:=rfl
 rw [hN]
 have HV:(aW f.row x).2.2=fU f.row x f.row.length:=j7 _
 by_cases h0:bh g x=0
 ·rw [if_pos h0,h0,decide_eq_true rfl,Bool.true_or,Bool.and_true,decide_eq_true_eq,HV,j8]
  ·rfl
  ·intro j hj he
   rcases hmem j hj with ⟨_,h2⟩|⟨h1,h2,_,h4⟩
   ·omega
   ·have:=pY h1 h2
    rw [← h4,he] at this
    omega
 ·rw [if_neg h0,decide_eq_false h0,Bool.false_or,HV]
  generalize bh g x=need at h0
  rcases dc (row:=f.row) (x:=x) f.row.length with ⟨hs,hno⟩|⟨a,b,c,hs,hab,jM,hc0,dW,ha,hb,hlo,hhi⟩
  ·rw [j8 hno]
   have e1:decide ((0:Int)=(need:Int))=false:=decide_eq_false (by omega)
   rw [e1,Bool.false_and,Bool.and_false]
  ·have hs':aW f.row x=((a:Int),(b:Int),(c:Int)):=hs
   have Ng:fU f.row x f.row.length=c:=by rw [← HV,hs']
   rw [hs',Ng]
   simp only [Int.toNat_natCast]
   rw [Bool.and_comm]
   by_cases I1:¬(c:Int)=need
   ·rw [decide_eq_false I1,Bool.and_false,Bool.and_false]
   rw [Decidable.not_not] at I1
   rw [decide_eq_true I1,Bool.and_true,Bool.and_true,qB]
   congr 1
   rw [Bool.eq_iff_iff,vg jM,List.any_eq_true]
   have ma:fU f.row x a=0:=j8 hlo
   have PV:fU f.row x (a+1)=1:=by rw [eO,if_pos ha,ma];rfl
   have mb:fU f.row x b=need:=by
    have h:=pX (row:=f.row) (x:=x) (b:=b) (d:=f.row.length - b) fun j h1 h2=>hhi j h1 (by omega)
    rw [show b+(f.row.length - b)=f.row.length by omega,Ng] at h
    omega
   have PW:fU f.row x (b - 1)+1=need:=by
    have h:=eO (row:=f.row) (x:=x) (k:=b - 1)
    rw [if_pos hb,show b - 1+1=b by omega,mb] at h
    omega
   constructor
   ·rintro ⟨j,h1,h2,hp⟩
    simp only [kQ,Bool.and_eq_true,decide_eq_true_eq] at hp
    have hja:j≠a:=fun e=>hp.1 (by rw [e];exact ha)
    have hjb:j≠b - 1:=fun e=>hp.1 (by rw [e];exact hb)
    have g1:=pW (row:=f.row) (x:=x) (j:=a+1) (j - (a+1))
    rw [show a+1+(j - (a+1))=j by omega] at g1
    have g2:=pW (row:=f.row) (x:=x) (j:=j) (b - 1 - j)
    rw [show j+(b - 1 - j)=b - 1 by omega] at g2
    exact ⟨j,List.mem_range.2 (by omega),mH.2 ⟨⟨hp.1,((hmem j (by omega)).head hm).1.2 hp.2⟩,by omega,by omega⟩⟩
   ·rintro ⟨j,hj,hl⟩
    have hj:=List.mem_range.1 hj
    obtain ⟨⟨h1,h2⟩,h3,h4⟩:=mH.1 hl
    refine ⟨j, ?_, ?_, ?_⟩
    ·refine Nat.not_lt.1 fun h=> ?_
     have:=j8 (row:=f.row) (x:=x) (k:=j) fun i hi=>hlo i (by omega)
     omega
    ·refine Nat.not_le.1 fun h=> ?_
     have:=pX (row:=f.row) (x:=x) (b:=b) (d:=j - b) fun i h1 h2=>hhi i h1 (by omega)
     rw [show b+(j - b)=j by omega] at this
     omega
    ·simp only [kQ,Bool.and_eq_true,decide_eq_true_eq]
     exact ⟨h1,((hmem j hj).head hm).1.1 h2⟩
theorem o3:∀ {ms os:List Int},ms.Nodup→(∀i∈ms,i∈os)→os.length=ms.length→os.Perm ms
 | [],os,_,_,hl=>by
   have h:os= []:=List.eq_nil_of_length_eq_zero (by simpa using hl)
   rw [h]
 |m::ms,os,hn,hs,hl=>by
  rw [List.nodup_cons] at hn
  have hm:=hs m (List.mem_cons_self ..)
  refine (List.perm_cons_erase hm).trans (List.Perm.cons m (o3 hn.2 (fun j hj=> ?_) ?_))
  ·have:j≠m:=fun e=>hn.1 (e ▸ hj)
   exact (List.mem_erase_of_ne this).2 (hs j (List.mem_cons_of_mem _ hj))
  ·rw [List.length_erase_of_mem hm,hl];simp
theorem qC {g:Gr} {x:Int} :(bE g x).Pairwise (· ≤ ·):=by
 unfold bE bg
 refine List.Pairwise.map _ (fun a b (h:a<b)=> ?_) (List.Pairwise.filter _ List.pairwise_lt_range)
 show (a:Int)≤b
 omega
theorem tE {l m:List Int} (h:l.Perm m) (hm:m.Pairwise (· ≤ ·)):iz l=m:=by
 have h1:(iz l).Pairwise (· ≤ ·):=by
  have:=List.pairwise_mergeSort (le:=fun a b:Int=>decide (a≤b)) (by simp;omega) (by simp;omega) l
  simpa [iz] using this
 have h2:(iz l).Perm m:=(by unfold iz;exact (List.mergeSort_perm l _).trans h)
 exact h2.eq_of_pairwise (fun a b _ _ h1 h2=>Int.le_antisymm h1 h2) h1 hm
theorem aC {g:Gr} {f:Fr} {x:Int} (h:aq g f x=true):0≤x∧x<g.n∧x∉f.pl:=by
 unfold aq at h
 by_cases hx:x<0∨g.n≤x∨x∈f.pl
 ·rw [if_pos hx] at h;cases h
 ·exact ⟨Int.not_lt.1 fun h=>hx (.inl h),Int.not_le.1 fun h=>hx (.inr (.inl h)),fun h=>hx (.inr (.inr h))⟩
theorem Er {g:Gr} (hm:aN g=true) {f:Fr} (hi:dY g f) (x:Int) (outs:List Int):jC g f x outs=cF g f x outs:=by
 rw [jC,cF,gX hm hi]
 cases hR:aq g f x with
 |false=>rw [if_pos rfl,if_pos rfl]
 |true=>
  obtain ⟨h0,h1,h2⟩:=aC hR
  have ht:¬(true=false):=by simp
  rw [if_neg ht,if_neg ht,gM h0 h1]
  show (if iz outs≠bE g x then _ else aA g f x outs)=_
  by_cases hs:iz outs=bE g x
  ·rw [if_neg (fun h=>h hs),if_neg]
   rintro (h|⟨i,h3,h4⟩)
   ·exact h (by rw [← hs,fu])
   ·exact h4 (yB.1 (hs ▸ h3))
  ·rw [if_pos hs,if_pos]
   refine Decidable.byContradiction fun h=>hs ?_
   have hl:outs.length=(bE g x).length:=Decidable.byContradiction fun e=>h (.inl e)
   exact tE (o3 de (fun i hi=>Decidable.byContradiction fun e=>h (.inr ⟨i,hi,e⟩)) hl) qC
theorem Es {g:Gr} {x:Int} {outs:List Int} (ho:∀i∈outs,i∈bE g x):∀t∈aO g x outs,Cj g t:=by
 intro t ht
 unfold aO at ht
 split at ht
 ·rw [List.mem_singleton] at ht
  rw [ht];exact .inl ⟨rfl,rfl⟩
 ·obtain ⟨i,hi,rfl⟩:=List.mem_map.1 ht
  obtain ⟨⟨h1,h2⟩,h3⟩:=fR (ho i hi)
  exact .inr ⟨h1,h2,h3.symm,rfl⟩
theorem Et {g:Gr} {f:Fr} (hi:dY g f) {x:Int} (hR:aq g f x=true) {outs:List Int} (ho:∀i∈outs,i∈bE g x):dY g (aA g f x outs).2:=by
 obtain ⟨h0,h1,h2⟩:=aC hR
 refine ⟨fun t ht=> ?_, ?_,fun y hy=> ?_⟩
 ·simp only [aA,List.mem_append] at ht
  rcases ht with (ht|ht)|ht
  ·exact hi.it t (List.mem_of_mem_take ht)
  ·exact Es ho t ht
  ·exact hi.it t (List.mem_of_mem_drop ht)
 ·show (f.pl++ [x]).Nodup
  rw [List.nodup_append]
  refine ⟨hi.pl,by simp,fun a ha b hb e=>h2 ?_⟩
  rw [List.mem_singleton] at hb
  rw [← hb, ← e];exact ha
 ·have hy:y∈f.pl++ [x]:=hy
  rcases List.mem_append.1 hy with h|h
  ·exact hi.Ep y h
  ·rw [List.mem_singleton] at h
   rw [h];exact ⟨h0,h1⟩
end Go.Ab
end
section
namespace Go.Ab
open Go.Proofs
set_option maxRecDepth 10000
def lu (x:Int) (t:It):Bool:=decide (t.2.2=x)
structure Ck (x:Int) (X:List It):Prop where
 fst:∃p X',X=p::X'∧p.2.2=x
 BS:∃X' q,X=X'++ [q]∧q.2.2=x
 al:∀t∈X,t.2.2=x∨t.2.2= -1
def fB (x:Int) (l:List It):Prop:=∀t∈l,t.2.2≠x
theorem fB.app {x:Int} {l m:List It} (h:fB x l) (h':fB x m):fB x (l++m):=fun t ht=>(List.mem_append.1 ht).elim (h t) (h' t)
theorem fB.left {x:Int} {l m:List It} (h:fB x (l++m)):fB x l:=fun t ht=>h t (List.mem_append.2 (.inl ht))
theorem fB.right {x:Int} {l m:List It} (h:fB x (l++m)):fB x m:=fun t ht=>h t (List.mem_append.2 (.inr ht))
theorem Ck.Nh {x y:Int} {X:List It} (h:Ck x X) (hxy:x≠y) (hy:0≤y):fB y X:=fun t ht e=>by
 rcases h.al t ht with h1|h1<;>omega
theorem kS {row:List It} {x:Int} :∀ {k:Nat},k≤row.length→fU row x k=((row.take k).countP (lu x):Nat)
 |0,_=>by simp [fU]
 |k+1,h=>by
  rw [eO,kS (k:=k) (by omega),List.take_add_one,List.getElem?_eq_getElem (show k<row.length by omega),List.countP_append]
  simp only [Option.toList,List.countP_cons,List.countP_nil,lu,decide_eq_true_eq,List.getD_eq_getElem?_getD,List.getElem?_eq_getElem (show k<row.length by omega),Option.getD_some]
  split<;>simp
theorem Cl {A X C:List It} {p:It} {X':List It} (h:X=p::X'):(A++X++C).getD A.length (0,0,0)=p:=by
 subst h;simp [List.getD_eq_getElem?_getD]
theorem Cm {A X C:List It} {q:It} {X':List It} (h:X=X'++ [q]):(A++X++C).getD (A.length+X.length - 1) (0,0,0)=q:=by
 subst h
 have e:A.length+(X'++ [q]).length - 1=(A++X').length:=by simp
 rw [e,show A++(X'++ [q])++C=(A++X')++([q]++C) by simp]
 simp [List.getD_eq_getElem?_getD]
theorem Cn {A L:List It} {j:Nat} (h:j<A.length):(A++L).getD j (0,0,0)∈A:=by
 rw [List.getD_eq_getElem?_getD,List.getElem?_append_left h,List.getElem?_eq_getElem h]
 exact List.getElem_mem h
theorem Co {A L:List It} {j:Nat} (h:A.length≤j) (h':j<(A++L).length):(A++L).getD j (0,0,0)∈L:=by
 rw [List.length_append] at h'
 rw [List.getD_eq_getElem?_getD,List.getElem?_append_right h,List.getElem?_eq_getElem (by omega)]
 exact List.getElem_mem _
theorem AW {A X C:List It} {x:Int} (hA:fB x A) (hC:fB x C) (hX:Ck x X):
 (aW (A++X++C) x).1=(A.length:Int)∧(aW (A++X++C) x).2.1=((A.length+X.length:Nat):Int)∧(aW (A++X++C) x).2.2=(X.countP (lu x):Nat):=by
 have BK:(aW (A++X++C) x).2.2=(X.countP (lu x):Nat):=by
  unfold aW
  rw [j7,kS (Nat.le_refl _),List.take_length,List.countP_append,List.countP_append]
  have h1:A.countP (lu x)=0:=List.countP_eq_zero.2 fun t ht=>by simp [lu,hA t ht]
  have h2:C.countP (lu x)=0:=List.countP_eq_zero.2 fun t ht=>by simp [lu,hC t ht]
  rw [h1,h2];simp
 obtain ⟨p,X',e1,hp⟩:=hX.fst
 obtain ⟨PX,q,e2,hq⟩:=hX.BS
 have g1:=Cl (A:=A) (C:=C) e1
 have g2:=Cm (A:=A) (C:=C) e2
 have Iz:0<X.length:=by rw [e1];simp
 have hlen:(A++X++C).length=A.length+X.length+C.length:=by simp;omega
 rcases dc (row:=A++X++C) (x:=x) (A++X++C).length with ⟨_,hno⟩|⟨a,b,c,hs,hab,jM,hc0,dW,ha,hb,hlo,hhi⟩
 ·exact absurd (by rw [g1];exact hp) (hno A.length (by omega))
 ·have hs':aW (A++X++C) x=((a:Int),(b:Int),(c:Int)):=hs
  refine ⟨?_, ?_,BK⟩
  ·rw [hs']
   have h1:¬A.length<a:=fun h=>hlo _ h (by rw [g1];exact hp)
   have h2:¬a<A.length:=fun h=>hA _ (by have:=Cn (L:=X++C) h;rw [← List.append_assoc] at this;exact this) ha
   simp only;omega
  ·rw [hs']
   have h1:¬b<A.length+X.length:=fun h=>hhi (A.length+X.length - 1) (by omega) (by omega) (by rw [g2];exact hq)
   have h2:¬A.length+X.length<b:=fun h=>hC _ (Co (A:=A++X) (j:=b - 1) (by simp;omega) (by omega)) hb
   simp only;omega
theorem nP {g:Gr} (hm:aN g=true) {f:Fr} (hi:dY g f) {A X C:List It} {x:Int} (h0:0≤x) (h1:x<g.n) (hp:x∉f.pl) (hr:f.row=A++X++C) (hA:fB x A) (hC:fB x C) (hX:Ck x X)
 (hc:X.countP (lu x)=bh g x):aq g f x=true:=by
 rw [← gX hm hi,eA,if_neg (by rintro (h|h|h);omega;omega;exact hp h)]
 obtain ⟨e1,e2,e3⟩:=AW hA hC hX
 rw [hr,e1,e2,e3,gM h0 h1,Bool.and_eq_true,decide_eq_true_eq]
 refine ⟨by rw [hc];rfl, ?_⟩
 rw [Bool.or_eq_true];right
 simp only [qB,Int.toNat_natCast]
 rw [List.take_append_of_le_length (by simp),List.take_of_length_le (by simp),List.drop_left,Bool.not_eq_true',List.any_eq_false]
 intro t ht
 simp only [kQ,Bool.and_eq_true,decide_eq_true_eq]
 rcases hX.al t ht with h|h<;>simp [h]
theorem cq {g:Gr} (hm:aN g=true) {f:Fr} (hi:dY g f) {x:Int} (hR:aq g f x=true) (hn:bh g x≠0):
 ∃A X C,f.row=A++X++C∧fB x A∧fB x C∧Ck x X∧X.countP (lu x)=bh g x:=by
 obtain ⟨h0,h1,h2⟩:=aC hR
 rw [← gX hm hi,eA,if_neg (by rintro (h|h|h);omega;omega;exact h2 h),gM h0 h1,Bool.and_eq_true,decide_eq_true_eq] at hR
 have hN:(bg (fun e=>e.2) g.es g.es.length x).length=bh g x:=rfl
 rw [hN,decide_eq_false hn,Bool.false_or] at hR
 obtain ⟨hc,hb⟩:=hR
 have BK:(f.row.countP (lu x):Int)=bh g x:=by
  rw [← hc];unfold aW
  rw [j7,kS (Nat.le_refl _),List.take_length]
 rcases dc (row:=f.row) (x:=x) f.row.length with ⟨hs,hno⟩|⟨a,b,c,hs,hab,jM,hc0,dW,ha,hb',hlo,hhi⟩
 ·have:aW f.row x=(-1,0,0):=hs
  rw [this] at hc
  exfalso;simp only at hc;omega
 ·have hs':aW f.row x=((a:Int),(b:Int),(c:Int)):=hs
  rw [hs'] at hb
  simp only [Int.toNat_natCast] at hb
  have hA:fB x (f.row.take a):=fun t ht=>by
   obtain ⟨j,hj,rfl⟩:=List.mem_iff_getElem.1 ht
   simp only [List.length_take] at hj
   have:=hlo j (by omega)
   rw [List.getD_eq_getElem?_getD,List.getElem?_eq_getElem (show j<f.row.length by omega)] at this
   simpa using this
  have hC:fB x (f.row.drop b):=fun t ht=>by
   obtain ⟨j,hj,rfl⟩:=List.mem_iff_getElem.1 ht
   simp only [List.length_drop] at hj
   have:=hhi (b+j) (by omega) (by omega)
   rw [List.getD_eq_getElem?_getD,List.getElem?_eq_getElem (show b+j<f.row.length by omega)] at this
   simpa using this
  have hrow:f.row=f.row.take a++(f.row.take b).drop a++f.row.drop b:=by
   have e1:f.row.take a=(f.row.take b).take a:=by rw [List.take_take,Nat.min_eq_left (by omega)]
   rw [e1,List.take_append_drop,List.take_append_drop]
  refine ⟨f.row.take a,(f.row.take b).drop a,f.row.drop b,hrow,hA,hC,⟨?_, ?_, ?_⟩, ?_⟩
  ·refine ⟨f.row.getD a (0,0,0),(f.row.take b).drop (a+1), ?_,ha⟩
   rw [List.drop_eq_getElem_cons (by simp;omega)]
   congr 1
   rw [List.getD_eq_getElem?_getD,List.getElem?_eq_getElem (show a<f.row.length by omega)]
   simp
  ·refine ⟨(f.row.take (b - 1)).drop a,f.row.getD (b - 1) (0,0,0), ?_,hb'⟩
   have e:f.row.take b=f.row.take (b - 1)++ [f.row.getD (b - 1) (0,0,0)]:=by
    conv=>lhs;rw [show b=b - 1+1 by omega]
    rw [List.take_add_one,List.getD_eq_getElem?_getD,List.getElem?_eq_getElem (show b - 1<f.row.length by omega)]
    rfl
   rw [e,List.drop_append_of_le_length (by simp;omega)]
  ·intro t ht
   rw [qB,Bool.not_eq_true',List.any_eq_false] at hb
   have:=hb t ht
   simp only [kQ,Bool.and_eq_true,decide_eq_true_eq,not_and] at this
   by_cases h:t.2.2=x
   ·exact .inl h
   ·exact .inr (Decidable.byContradiction fun h'=>this h h')
  ·have h1:(f.row.take a).countP (lu x)=0:=List.countP_eq_zero.2 fun t ht=>by simp [lu,hA t ht]
   have h2:(f.row.drop b).countP (lu x)=0:=List.countP_eq_zero.2 fun t ht=>by simp [lu,hC t ht]
   rw [hrow,List.countP_append,List.countP_append,h1,h2] at BK
   omega
theorem iI {g:Gr} {f:Fr} {A X C:List It} {x:Int} (o:List Int) (hr:f.row=A++X++C) (hA:fB x A) (hC:fB x C) (hX:Ck x X):
 aA g f x o=((X,0),⟨A++aO g x o++C,f.pl++ [x]⟩):=by
 obtain ⟨e1,e2,e3⟩:=AW hA hC hX
 have e4:max (A.length:Int) 0=(A.length:Int):=by omega
 unfold aA
 rw [hr,e1,e2,e4,Int.toNat_natCast,Int.toNat_natCast]
 rw [List.take_append_of_le_length (show A.length+X.length≤(A++X).length by simp),List.take_of_length_le (show (A++X).length≤A.length+X.length by simp),List.drop_left]
 rw [show (A++X++C).take A.length=A by rw [List.append_assoc,List.take_left]]
 rw [show (A++X++C).drop (A.length+X.length)=C by rw [← List.length_append,List.drop_left]]
theorem iR {g:Gr} {f:Fr} {x:Int} (o:List Int) (hr:fB x f.row):aA g f x o=(([],0),⟨aO g x o++f.row,f.pl++ [x]⟩):=by
 have hs:aW f.row x=(-1,0,0):=by
  rcases dc (row:=f.row) (x:=x) f.row.length with ⟨hs,_⟩|⟨a,b,c,hs,hab,jM,hc0,dW,ha,hb',hlo,hhi⟩
  ·exact hs
  ·exact absurd ha (hr _ (bz (by omega)))
 have e4:max (-1:Int) 0=0:=by omega
 unfold aA
 rw [hs]
 simp [e4]
end Go.Ab
end
section
namespace Go.Ab
open Go.Proofs
set_option maxRecDepth 10000
structure uh (g:Gr) (f:Fr):Prop extends dY g f where
 tail:∀t∈f.row,0≤t.1→t.2.1∈f.pl
 head:∀t∈f.row,0≤t.1→t.2.2∉f.pl
 once:f.row.Pairwise fun s t=>0≤s.1→s.1≠t.1
 low:∀i,i<g.es.length→hd g i∈f.pl→tl g i∈f.pl
 src:(f.pl= []∧f.row= [])∨∃s∈f.pl,bh g s=0
theorem xe (g:Gr):uh g ⟨[], []⟩:=
 {it:=by simp,pl:=by simp,Ep:=by simp,tail:=by simp,head:=by simp,once:=by simp,low:=by simp,src:= .inl ⟨rfl,rfl⟩}
theorem xg {g:Gr} (hm:aN g=true) {f:Fr} (hi:uh g f) {x:Int} (hR:aq g f x=true) {i:Nat} (hl:i<g.es.length) (hx:hd g i=x):∃t∈f.row,t.1=i∧t.2.1=tl g i∧t.2.2=x:=by
 have hn:bh g x≠0:=by
  have:=pY (g:=g) (e:=(i:Int)) (by omega) (by omega)
  rw [Int.toNat_natCast,show (g.es.getD i (0,0)).2=x from hx] at this
  omega
 obtain ⟨A,X,C,hr,hA,hC,hX,hc⟩:=cq hm hi.todY hR hn
 have hN:(bg (fun e=>e.2) g.es g.es.length x).length=bh g x:=rfl
 have hok:∀t∈f.row,t.2.2=x→0≤t.1∧t.1<g.es.length∧t.2.1=(g.es.getD t.1.toNat (0,0)).1∧t.2.2=(g.es.getD t.1.toNat (0,0)).2:=fun t ht he=>by
  rcases hi.it t ht with ⟨_,h2⟩|h
  ·have:=(aC hR).1;omega
  ·exact h
 have hmem:∀t∈X,t∈f.row:=fun t ht=>by rw [hr];simp [ht]
 have Ni:=o3 (ms:=(X.filter (lu x)).map (·.1)) (os:=bg (fun e=>e.2) g.es g.es.length x)
 have key:∀i∈bg (fun e=>e.2) g.es g.es.length x,i∈(X.filter (lu x)).map (·.1):=by
  refine xd (ms:=(X.filter (lu x)).map (·.1)) (os:=bg (fun e=>e.2) g.es g.es.length x) ?_ ?_ ?_
  ·have h1:X.Pairwise fun s t=>0≤s.1→s.1≠t.1:=by
    have:=hi.once
    rw [hr,List.pairwise_append,List.pairwise_append] at this
    exact this.1.2.1
   have h2:=h1.filter (lu x)
   rw [List.Nodup,List.pairwise_map]
   refine h2.imp_of_mem fun {a b} ha hb h=>h ?_
   obtain ⟨rq,OC⟩:=List.mem_filter.1 ha
   exact (hok a (hmem a rq) (by simpa [lu] using OC)).1
  ·intro e he
   obtain ⟨t,ht,rfl⟩:=List.mem_map.1 he
   obtain ⟨ht1,ht2⟩:=List.mem_filter.1 ht
   have ht2:t.2.2=x:=by simpa [lu] using ht2
   obtain ⟨h1,h2,h3,h4⟩:=hok t (hmem t ht1) ht2
   simp only [bg,List.mem_map,List.mem_filter,List.mem_range,decide_eq_true_eq]
   exact ⟨t.1.toNat,⟨by omega,by rw [← h4];exact ht2⟩,by simp;omega⟩
  ·rw [hN, ← hc,List.length_map,List.countP_eq_length_filter]
 have hie:(i:Int)∈bg (fun e=>e.2) g.es g.es.length x:=by
  simp only [bg,List.mem_map,List.mem_filter,List.mem_range,decide_eq_true_eq]
  exact ⟨i,⟨hl,hx⟩,rfl⟩
 obtain ⟨t,ht,he⟩:=List.mem_map.1 (key _ hie)
 obtain ⟨ht1,ht2⟩:=List.mem_filter.1 ht
 have ht2:t.2.2=x:=by simpa [lu] using ht2
 obtain ⟨h1,h2,h3,h4⟩:=hok t (hmem t ht1) ht2
 refine ⟨t,hmem t ht1,he, ?_,ht2⟩
 rw [h3,he,Int.toNat_natCast];rfl
theorem tF {g:Gr} (hm:aN g=true) {f:Fr} (hi:dY g f) {x:Int} (h0:0≤x) (hn:bh g x=0):fB x f.row:=by
 intro t ht he
 rcases hi.it t ht with ⟨_,h2⟩|⟨h1,h2,_,h4⟩
 ·omega
 ·have:=pY h1 h2
  rw [← h4,he] at this
  omega
theorem je {g:Gr} (hm:aN g=true) {f:Fr} (hi:dY g f) {x:Int} (hR:aq g f x=true):
 ∃A X C,f.row=A++X++C∧fB x A∧fB x C∧(∀t∈X,t.2.2=x∨t.2.2= -1)∧∀o,aA g f x o=((X,0),⟨A++aO g x o++C,f.pl++ [x]⟩):=by
 by_cases hn:bh g x=0
 ·have h:=tF hm hi (aC hR).1 hn
  exact ⟨[], [],f.row,by simp,fun t ht=>(by cases ht),h,fun t ht=>(by cases ht),fun o=>by rw [iR o h];simp⟩
 ·obtain ⟨A,X,C,hr,hA,hC,hX,_⟩:=cq hm hi hR hn
  exact ⟨A,X,C,hr,hA,hC,hX.al,fun o=>iI o hr hA hC hX⟩
theorem j9 {g:Gr} {x i:Int} (h:i∈bE g x):∃k:Nat,i=k∧k<g.es.length∧tl g k=x:=by
 obtain ⟨⟨h1,h2⟩,h3⟩:=fR h
 exact ⟨i.toNat,by omega,by omega,h3⟩
theorem ke {g:Gr} {x:Int} {o:List Int} (ho:∀i∈o,i∈bE g x) {t:It} (h:t∈aO g x o):(t.1= -1∧t.2.2= -1)∨∃k:Nat,k<g.es.length∧t.1=k∧t.2.1=x∧t.2.2=hd g k∧tl g k=x∧t.1∈o:=by
 unfold aO at h
 split at h
 ·rw [List.mem_singleton] at h
  rw [h];exact .inl ⟨rfl,rfl⟩
 ·obtain ⟨i,Nj,rfl⟩:=List.mem_map.1 h
  obtain ⟨k,rfl,h1,h2⟩:=j9 (ho i Nj)
  exact .inr ⟨k,h1,rfl,rfl,by simp [fQ];rfl,h2,Nj⟩
theorem pZ {g:Gr} (hm:aN g=true) {f:Fr} (hi:uh g f) {x y:Int} (hx:x∉f.pl) (hR:aq g f y=true) {o:List Int} (ho:∀i∈o,i∈bE g x):fB y (aO g x o):=by
 intro t ht he
 rcases ke ho ht with ⟨_,h⟩|⟨k,h1,h2,h3,h4,h5,_⟩
 ·have:=(aC hR).1;omega
 ·obtain ⟨s,hs,e1,e2,e3⟩:=xg hm hi hR h1 (by rw [← h4];exact he)
  refine hx ?_
  rw [← h5, ← e2]
  exact hi.tail s hs (by omega)
theorem gY {g:Gr} (hm:aN g=true) {f:Fr} (hi:uh g f) {x:Int} (hR:aq g f x=true) {o:List Int} (ho:o.Perm (bE g x)):uh g (aA g f x o).2:=by
 have F9:∀i∈o,i∈bE g x:=fun i h=>ho.mem_iff.1 h
 have hx:=(aC hR).2.2
 have h0:=Et hi.todY hR F9
 obtain ⟨A,X,C,hr,hA,hC,hX,hs⟩:=je hm hi.todY hR
 have fG:(aA g f x o).2.pl=f.pl++ [x]:=rfl
 have hrow:(aA g f x o).2.row=A++aO g x o++C:=by rw [hs o]
 have Mb:∀t∈A,t∈f.row:=fun t ht=>by rw [hr];simp [ht]
 have Mc:∀t∈C,t∈f.row:=fun t ht=>by rw [hr];simp [ht]
 have JZ:=pZ hm hi hx hR F9
 refine {todY:=h0,tail:= ?_,head:= ?_,once:= ?_,low:= ?_,src:= .inr ?_}
 ·intro t ht h1
  rw [fG]
  rw [hrow,List.mem_append,List.mem_append] at ht
  rcases ht with (ht|ht)|ht
  ·exact List.mem_append_left _ (hi.tail t (Mb t ht) h1)
  ·rcases ke F9 ht with ⟨h,_⟩|⟨k,_,_,h3,_⟩
   ·omega
   ·rw [h3];simp
  ·exact List.mem_append_left _ (hi.tail t (Mc t ht) h1)
 ·intro t ht h1
  rw [fG,List.mem_append,List.mem_singleton]
  rw [hrow,List.mem_append,List.mem_append] at ht
  rcases ht with (ht|ht)|ht
  ·rintro (h|h)
   ·exact hi.head t (Mb t ht) h1 h
   ·exact hA t ht h
  ·rintro (h|h)
   ·rcases ke F9 ht with ⟨h',_⟩|⟨k,hk,_,_,h4,h5,_⟩
    ·omega
    ·rw [h4] at h
     have:=hi.low k hk h
     rw [h5] at this;exact hx this
   ·exact JZ t ht h
  ·rintro (h|h)
   ·exact hi.head t (Mc t ht) h1 h
   ·exact hC t ht h
 ·have xM:=hi.once
  rw [hr,List.pairwise_append,List.pairwise_append] at xM
  obtain ⟨⟨OD,_,_⟩,OE,Md⟩:=xM
  have old:∀s∈f.row,0≤s.1→∀t∈aO g x o,s.1≠t.1:=fun s hs h1 t ht e=>by
   rcases ke F9 ht with ⟨h,_⟩|⟨k,hk,h2,h3,h4,h5,_⟩
   ·omega
   ·rcases hi.it s hs with ⟨h,_⟩|⟨_,_,h6,_⟩
    ·omega
    ·have:=hi.tail s hs h1
     rw [h6,e,h2,Int.toNat_natCast] at this
     exact hx (h5 ▸ this)
  rw [hrow,List.pairwise_append,List.pairwise_append]
  refine ⟨⟨OD, ?_,fun s hs t ht h1=>old s (Mb s hs) h1 t ht⟩,OE, ?_⟩
  ·unfold aO
   split
   ·simp
   ·refine List.pairwise_map.2 ((ho.nodup_iff.2 de).imp fun {i j} (h:i≠j) _=> ?_)
    exact h
  ·intro s hs t ht h1
   rcases List.mem_append.1 hs with hs|hs
   ·exact Md s (List.mem_append_left _ hs) t ht h1
   ·intro e
    exact old t (Mc t ht) (by omega) s hs e.symm
 ·intro i hl h
  rw [fG,List.mem_append,List.mem_singleton] at h ⊢
  left
  rcases h with h|h
  ·exact hi.low i hl h
  ·obtain ⟨t,ht,e1,e2,_⟩:=xg hm hi hR hl h
   rw [← e2]
   exact hi.tail t ht (by omega)
 ·rcases hi.src with ⟨h1,h2⟩|⟨s,hs,h⟩
  ·refine ⟨x,by rw [fG];simp, ?_⟩
   refine Decidable.byContradiction fun hn=> ?_
   obtain ⟨A,X,C,hr,_,_,hX,_⟩:=cq hm hi.todY hR hn
   obtain ⟨p,X',e,_⟩:=hX.fst
   rw [h2,e] at hr
   simp at hr
  ·exact ⟨s,by rw [fG];simp [hs],h⟩
theorem apart {x y:Int} (hx:0≤x) (hy:0≤y) (hxy:x≠y) {A X C B Y D:List It} (h:A++X++C=B++Y++D) (hX:Ck x X) (hY:Ck y Y):
 (∃M,B=A++X++M∧C=M++Y++D)∨(∃M,A=B++Y++M∧D=M++X++C):=by
 obtain ⟨p,X',OF,hp⟩:=hX.fst
 obtain ⟨q,Y',OG,hq⟩:=hY.fst
 have nX:q∉X:=fun h=>hX.Nh hxy hy q h hq
 have nY:p∉Y:=fun h=>hY.Nh (Ne.symm hxy) hx p h hp
 rw [show B++Y++D=B++(Y++D) by simp,List.append_eq_append_iff] at h
 rcases h with ⟨es,h1,h2⟩|⟨cs,h1,h2⟩
 ·exact .inl ⟨es,h1,by rw [h2];simp⟩
 ·match cs,h1,h2 with
  | [],h1,h2=>exact .inl ⟨[],by simpa using h1.symm,by simpa using h2.symm⟩
  |c::cs,h1,h2=>
   have OH:c=q:=by rw [OG] at h2;simp at h2;exact h2.1.symm
   rw [List.append_eq_append_iff] at h1
   rcases h1 with ⟨es,h3,h4⟩|⟨ds,h3,h4⟩
   ·exfalso;refine nX ?_
    rw [h4, ← OH];simp
   ·rw [h4,List.append_assoc,List.append_eq_append_iff] at h2
    rcases h2 with ⟨es,h5,h6⟩|⟨bs,h5,h6⟩
    ·exact .inr ⟨es,by rw [h3,h5];simp,by rw [h6];simp⟩
    ·match bs,h5,h6 with
     | [],h5,h6=>exact .inr ⟨[],by rw [h3,h5];simp,by simpa using h6.symm⟩
     |b::bs,h5,h6=>
      exfalso;refine nY ?_
      have OI:b=p:=by rw [OF] at h6;simp at h6;exact h6.1.symm
      rw [h5, ← OI];simp
theorem yF {g:Gr} (hm:aN g=true) {f:Fr} (hi:uh g f) {x y:Int} (hxy:x≠y) (AX:aq g f x=true) (qP:aq g f y=true)
 {a b:List Int} (ha:a.Perm (bE g x)) (hb:b.Perm (bE g y)) {A X M Y D:List It} (hr:f.row=A++X++M++Y++D) (hX:Ck x X) (hY:Ck y Y)
 (cX:X.countP (lu x)=bh g x) (cY:Y.countP (lu y)=bh g y)
 (nA:fB x A) (nC:fB x (M++Y++D)) (nB:fB y (A++X++M)) (nD:fB y D):
 aq g (aA g f x a).2 y=true∧aq g (aA g f y b).2 x=true∧(aA g (aA g f x a).2 y b).2.row=(aA g (aA g f y b).2 x a).2.row∧
 (aA g f x a).1=(aA g (aA g f y b).2 x a).1∧(aA g f y b).1=(aA g (aA g f x a).2 y b).1:=by
 obtain ⟨x0,x1,x2⟩:=aC AX
 obtain ⟨y0,y1,y2⟩:=aC qP
 have i1:=(gY hm hi AX ha).todY
 have i2:=(gY hm hi qP hb).todY
 have ux:=pZ hm hi x2 qP (fun i h=>ha.mem_iff.1 h)
 have uy:=pZ hm hi y2 AX (fun i h=>hb.mem_iff.1 h)
 have r1:f.row=A++X++(M++Y++D):=by rw [hr];simp
 have r2:f.row=(A++X++M)++Y++D:=by rw [hr]
 have e1:=iI (g:=g) a r1 nA nC hX
 have e2:=iI (g:=g) b r2 nB nD hY
 rw [e1] at i1 ⊢;rw [e2] at i2 ⊢
 have r3:A++aO g x a++(M++Y++D)=(A++aO g x a++M)++Y++D:=by simp
 have r4:A++X++M++aO g y b++D=A++X++(M++aO g y b++D):=by simp
 have n3:fB y (A++aO g x a++M):=((nB.left.left).app ux).app nB.right
 have n4:fB x (M++aO g y b++D):=(nC.left.left.app uy).app nC.right
 have e3:=iI (g:=g) (f:=⟨A++aO g x a++(M++Y++D),f.pl++ [x]⟩) b r3 n3 nD hY
 have e4:=iI (g:=g) (f:=⟨A++X++M++aO g y b++D,f.pl++ [y]⟩) a r4 nA n4 hX
 refine ⟨nP hm i1 y0 y1 ?_ r3 n3 nD hY cY,nP hm i2 x0 x1 ?_ r4 nA n4 hX cX, ?_, ?_, ?_⟩
 ·simp [y2,Ne.symm hxy]
 ·simp [x2,hxy]
 ·simp only [e3,e4];simp
 ·simp only [e4]
 ·simp only [e3]
theorem Cp {g:Gr} (hm:aN g=true) {f:Fr} (hi:uh g f) {x y:Int} (hxy:x≠y) (AX:aq g f x=true) (qP:aq g f y=true)
 {a b:List Int} (ha:a.Perm (bE g x)) (hb:b.Perm (bE g y)) (nx:bh g x≠0) (ny:bh g y≠0):
 aq g (aA g f x a).2 y=true∧aq g (aA g f y b).2 x=true∧(aA g (aA g f x a).2 y b).2.row=(aA g (aA g f y b).2 x a).2.row∧
 (aA g f x a).1=(aA g (aA g f y b).2 x a).1∧(aA g f y b).1=(aA g (aA g f x a).2 y b).1:=by
 obtain ⟨A,X,C,hr,hA,hC,hX,cX⟩:=cq hm hi.todY AX nx
 obtain ⟨B,Y,D,hr',hB,hD,hY,cY⟩:=cq hm hi.todY qP ny
 rcases apart (aC AX).1 (aC qP).1 hxy (hr.symm.trans hr') hX hY with ⟨M,rfl,rfl⟩|⟨M,rfl,rfl⟩
 ·exact yF hm hi hxy AX qP ha hb (by rw [hr];simp) hX hY cX cY hA hC hB hD
 ·obtain ⟨h1,h2,h3,h4,h5⟩:=yF hm hi (Ne.symm hxy) qP AX hb ha (by rw [hr'];simp) hY hX cY cX hB hD hA hC
  exact ⟨h2,h1,h3.symm,h5,h4⟩
theorem iS {g:Gr} {y:Int} :y∈bF (·.2) g↔(0≤y∧y<g.n)∧bh g y=0:=by
 simp only [bF,iX,List.mem_map,List.mem_filter,List.mem_range,decide_eq_true_eq]
 have he:∀x:Nat,x<g.n.toNat→(((dm (·.2) g).getD x []).length=bh g (x:Int)):=by
  intro x hx
  have e:(dm (·.2) g).getD x []=bg (·.2) g.es g.es.length (x:Int):=by
   simp [dm,List.getD_eq_getElem?_getD,List.getElem?_range hx,lU]
  rw [e];rfl
 constructor
 ·rintro ⟨x,⟨hx,h0⟩,rfl⟩
  refine ⟨by simp;omega,by rw [he x hx] at h0;exact h0⟩
 ·rintro ⟨⟨h1,h2⟩,h3⟩
  have e:((y.toNat:Nat):Int)=y:=by omega
  exact ⟨y.toNat,⟨by omega,by rw [he _ (by omega),e];exact h3⟩,e⟩
theorem gl {g:Gr} (hc:(b9 g).1=0) {x y:Int} (hx:0≤x∧x<g.n) (hy:0≤y∧y<g.n) (nx:bh g x=0) (ny:bh g y=0):x=y:=by
 have h1:(bF (·.2) g).length≤1:=by
  unfold b9 iA at hc
  refine Nat.not_lt.1 fun h=> ?_
  split at hc
  ·cases hc
  split at hc
  ·cases hc
  split at hc
  ·cases hc
  split at hc
  ·cases hc
  cases hc
 have h2:=iS.2 ⟨hx,nx⟩
 have h3:=iS.2 ⟨hy,ny⟩
 match hb:bF (·.2) g with
 | []=>rw [hb] at h2;cases h2
 | [z]=>rw [hb,List.mem_singleton] at h2 h3;rw [h2,h3]
 |_::_::_=>rw [hb] at h1;simp at h1
theorem au {g:Gr} (hc:(b9 g).1=0):aN g=true:=by
 unfold b9 iA at hc
 split at hc
 ·cases hc
 ·rename_i h;simpa using h
theorem yG {g:Gr} (hc:(b9 g).1=0) {f:Fr} (hi:uh g f) {x y:Int} (hxy:x≠y) (AX:aq g f x=true) (qP:aq g f y=true):bh g x≠0:=by
 intro nx
 have hm:=au hc
 obtain ⟨x0,x1,x2⟩:=aC AX
 obtain ⟨y0,y1,y2⟩:=aC qP
 rcases hi.src with ⟨h1,h2⟩|⟨s,hs,h⟩
 ·have ny:bh g y≠0:=fun ny=>hxy (gl hc ⟨x0,x1⟩ ⟨y0,y1⟩ nx ny)
  obtain ⟨A,X,C,hr,_,_,hX,_⟩:=cq hm hi.todY qP ny
  obtain ⟨p,X',e,_⟩:=hX.fst
  rw [h2,e] at hr
  simp at hr
 ·exact x2 (gl hc (hi.Ep s hs) ⟨x0,x1⟩ h nx ▸ hs)
theorem vh {g:Gr} (hc:(b9 g).1=0) {f:Fr} (hi:uh g f) {x y:Int} (hxy:x≠y) (AX:aq g f x=true) (qP:aq g f y=true)
 {a b:List Int} (ha:a.Perm (bE g x)) (hb:b.Perm (bE g y)):
 aq g (aA g f x a).2 y=true∧aq g (aA g f y b).2 x=true∧(aA g (aA g f x a).2 y b).2.row=(aA g (aA g f y b).2 x a).2.row∧
 (aA g f x a).1=(aA g (aA g f y b).2 x a).1∧(aA g f y b).1=(aA g (aA g f x a).2 y b).1:=
 Cp (au hc) hi hxy AX qP ha hb (yG hc hi hxy AX qP) (yG hc hi (Ne.symm hxy) qP AX)
end Go.Ab
end
section
namespace Go.Ab
open Go.Proofs
attribute [local congr] ACall.congr
set_option maxRecDepth 10000
set_option maxHeartbeats 4000000
def AY (row:List It) (a b:Int):Nat→Int × Int
 |0=>(-1,0)
 |k+1=>if ((row.getD k (0,0,0)).2.2=a∨(row.getD k (0,0,0)).2.2=b)∧(row.getD k (0,0,0)).2.2≠(AY row a b k).1 then ((row.getD k (0,0,0)).2.2,(AY row a b k).2+1) else AY row a b k
end Go.Ab
end
section
namespace Go.Ab
open Go.Proofs
attribute [local congr] ACall.congr
set_option maxRecDepth 10000
set_option maxHeartbeats 4000000
def IA (row:List It) (i:Nat):Int:=(row.getD i (0,0,0)).2.2
def Me (row:List It) (i j:Nat):Bool:=decide (IA row i≠ -1)&&decide (IA row j≠ -1)&&decide (IA row i≠IA row j)&&decide (4≤(AY row (IA row i) (IA row j) row.length).2)
def Nk (row:List It):Bool:=(List.range row.length).any fun i=>(List.range row.length).any (Me row i)
end Go.Ab
end
section
namespace Go.Ab
open Go.Proofs
attribute [local congr] ACall.congr
set_option maxRecDepth 10000
set_option maxHeartbeats 8000000
def T4 (row:List It) (a b c d:Nat):Prop:=0≤(row.getD a (0,0,0)).2.2∧0≤(row.getD b (0,0,0)).2.2∧(row.getD a (0,0,0)).2.2≠(row.getD b (0,0,0)).2.2∧(row.getD a (0,0,0)).2.2=(row.getD c (0,0,0)).2.2∧(row.getD b (0,0,0)).2.2=(row.getD d (0,0,0)).2.2
def OJ (row:List It):Prop:=∃a b c d,a<b∧b<c∧c<d∧d<row.length∧T4 row a b c d
end Go.Ab
end
section
namespace Go.Ab
open Go.Proofs
set_option maxRecDepth 10000
theorem qD {g:Gr} {f f':Fr} (hr:f.row=f'.row) (hp:f.pl.Perm f'.pl) (x:Int):aq g f x=aq g f' x:=by
 unfold aq
 rw [hr]
 by_cases h:x<0∨g.n≤x∨x∈f.pl
 ·rw [if_pos h,if_pos (by rw [← hp.mem_iff];exact h)]
 ·have h':¬(x<0∨g.n≤x∨x∈f'.pl):=by rw [← hp.mem_iff];exact h
  rw [if_neg h,if_neg h']
theorem nQ:∀ {l m:List Int},l.Nodup→(∀i∈l,i∈m)→l.length≤m.length
 | [],_,_,_=>by simp
 |a::l,m,hn,hs=>by
  rw [List.nodup_cons] at hn
  have ha:=hs a (List.mem_cons_self ..)
  have:=nQ hn.2 (m:=m.erase a) fun i hi=>(List.mem_erase_of_ne (fun e:i=a=>hn.1 (e ▸ hi))).2 (hs i (List.mem_cons_of_mem _ hi))
  rw [List.length_erase_of_mem ha] at this
  have:=List.length_pos_of_mem ha
  rw [List.length_cons];omega
theorem gN {g:Gr} {f:Fr} (hi:dY g f) (hf:(f.pl.length:Int)=g.n) {x:Int} (hx:0≤x∧x<g.n):x∈f.pl:=by
 refine Decidable.byContradiction fun h=> ?_
 have h1:(x::f.pl).Nodup:=List.nodup_cons.2 ⟨h,hi.pl⟩
 have h2:((List.range g.n.toNat).map Int.ofNat).length=g.n.toNat:=by simp
 have h3:=nQ h1 (m:=(List.range g.n.toNat).map Int.ofNat) (fun y hy=>by
  rw [List.mem_map]
  have:0≤y∧y<g.n:=by
   rcases List.mem_cons.1 hy with h|h
   ·rw [h];exact hx
   ·exact hi.Ep y h
  exact ⟨y.toNat,List.mem_range.2 (by omega),by simp;omega⟩)
 rw [h2,List.length_cons] at h3
 omega
def Tg (a b:Int) (row:List It):Prop:=∃l:List It,l.Sublist row∧l.map (fun t=>t.2.2)= [a,b,a,b]
def Eu (a b:Int) (t:It):Bool:=decide (t.2.2=a)||decide (t.2.2=b)
theorem Tg.Mf {a b:Int} {row:List It} :Tg a b row↔Tg a b (row.filter (Eu a b)):=by
 constructor
 ·rintro ⟨l,h,e⟩
  refine ⟨l, ?_,e⟩
  have h1:=h.filter (Eu a b)
  rw [List.filter_eq_self.2] at h1
  ·exact h1
  ·intro t ht
   have:t.2.2∈l.map (fun t=>t.2.2):=List.mem_map.2 ⟨t,ht,rfl⟩
   rw [e] at this
   simp only [Eu,Bool.or_eq_true,decide_eq_true_eq]
   simp only [List.mem_cons,List.not_mem_nil,or_false] at this
   omega
 ·rintro ⟨l,h,e⟩
  exact ⟨l,h.trans List.filter_sublist,e⟩
theorem Tg.keep {a b x:Int} (ha:0≤a) (hb:0≤b) (Fg:a≠x) (ye:b≠x) {A X C u:List It} (hX:∀t∈X,t.2.2=x∨t.2.2= -1) (h:Tg a b (A++X++C)):Tg a b (A++u++C):=by
 rw [Tg.Mf] at h ⊢
 obtain ⟨l,h,e⟩:=h
 refine ⟨l,h.trans ?_,e⟩
 rw [List.filter_append,List.filter_append,List.filter_append,List.filter_append]
 have:X.filter (Eu a b)= []:=List.filter_eq_nil_iff.2 fun t ht=>by
  simp only [Eu,Bool.or_eq_true,decide_eq_true_eq]
  rcases hX t ht with h|h<;>omega
 rw [this,List.append_nil]
 exact List.Sublist.append_right (List.sublist_append_left _ _) _
theorem Tg.not {a b x:Int} (hab:a≠b) (hb0:0≤b) (ha0:0≤a) (hx:x=a∨x=b) {A X C:List It} (hA:fB x A) (hC:fB x C) (hX:∀t∈X,t.2.2=x∨t.2.2= -1):¬Tg a b (A++X++C):=by
 rintro ⟨l,h,e⟩
 rw [List.append_assoc,List.sublist_append_iff] at h
 obtain ⟨l1,l',rfl,h1,h'⟩:=h
 rw [List.sublist_append_iff] at h'
 obtain ⟨l2,l3,rfl,h2,h3⟩:=h'
 have k1:∀t∈l1,t.2.2≠x:=fun t ht=>hA t (h1.subset ht)
 have k2:∀t∈l2,t.2.2=x∨t.2.2= -1:=fun t ht=>hX t (h2.subset ht)
 have k3:∀t∈l3,t.2.2≠x:=fun t ht=>hC t (h3.subset ht)
 clear h1 h2 h3
 match l1,k1,e with
 |t1::t2::_,k1,e=>
  simp only [List.cons_append,List.map_cons,List.cons.injEq] at e
  rcases hx with h|h
  ·exact k1 t1 (by simp) (by omega)
  ·exact k1 t2 (by simp) (by omega)
 | [t1],k1,e=>
   simp only [List.cons_append,List.nil_append,List.map_cons,List.cons.injEq] at e
   rcases hx with h|h
   ·exact k1 t1 (by simp) (by omega)
   ·match l2,k2,e with
    | [],_,e=>
      match l3,k3,e with
      | [s1,s2,s3],k3,e=>
        simp only [List.nil_append,List.map_cons,List.map_nil,List.cons.injEq,and_true] at e
        exact k3 s1 (by simp) (by omega)
      | [],_,e=>simp at e
      | [_],_,e=>simp at e
      | [_,_],_,e=>simp at e
      |_::_::_::_::_,_,e=>simp at e
    |s1::s2::_,k2,e=>
     simp only [List.cons_append,List.map_cons,List.cons.injEq] at e
     rcases k2 s2 (by simp) with h|h<;>omega
    | [s1],k2,e=>
      match l3,k3,e with
      | [u1,u2],k3,e=>
        simp only [List.cons_append,List.nil_append,List.map_cons,List.map_nil,List.cons.injEq,and_true] at e
        exact k3 u2 (by simp) (by omega)
      | [],_,e=>simp at e
      | [_],_,e=>simp at e
      |_::_::_::_,_,e=>simp at e
 | [],_,e=>
   simp only [List.nil_append] at e
   match l2,k2,e with
   | [],_,e=>
     match l3,k3,e with
     | [],_,e=>simp at e
     | [_],_,e=>simp at e
     |s1::s2::_,k3,e=>
      simp only [List.nil_append,List.map_cons,List.cons.injEq] at e
      rcases hx with h|h
      ·exact k3 s1 (by simp) (by omega)
      ·exact k3 s2 (by simp) (by omega)
   |s1::s2::_,k2,e=>
    simp only [List.cons_append,List.map_cons,List.cons.injEq] at e
    have q1:=k2 s1 (by simp)
    have q2:=k2 s2 (by simp)
    omega
   | [s1],k2,e=>
     match l3,k3,e with
     | [],_,e=>simp at e
     | [_],_,e=>simp at e
     | [_,_],_,e=>simp at e
     |u1::u2::u3::_,k3,e=>
      simp only [List.cons_append,List.nil_append,List.map_cons,List.cons.injEq] at e
      have q1:=k2 s1 (by simp)
      exact k3 u2 (by simp) (by omega)
end Go.Ab
end
section
namespace Go.Ab
open Go.Proofs
set_option maxRecDepth 10000
theorem Cq {row:List It} {k:Nat} (h:k<row.length):row.take (k+1)=row.take k++ [row.getD k (0,0,0)]:=by
 rw [List.take_add_one,List.getD_eq_getElem?_getD,List.getElem?_eq_getElem h];rfl
theorem Ev {row:List It} {i j:Nat} (h:i≤j):(row.take i).Sublist (row.take j):=by
 rw [show row.take i=(row.take j).take i by rw [List.take_take,Nat.min_eq_left h]]
 exact List.take_sublist _ _
theorem tG {row l:List It} {i j:Nat} (h:l.Sublist (row.take i)) (hij:i≤j) (hj:j<row.length):(l++ [row.getD j (0,0,0)]).Sublist (row.take (j+1)):=by
 rw [Cq hj]
 exact List.Sublist.append (h.trans (Ev hij)) (List.Sublist.refl _)
def Mg (a b:Int):List It→Prop
 | []=>True
 | [t]=>t.2.2=a∨t.2.2=b
 |s::t::l=>(s.2.2=a∨s.2.2=b)∧s.2.2≠t.2.2∧Mg a b (t::l)
end Go.Ab
end
section
namespace Go.Ab
open Go.Proofs
attribute [local congr] ACall.congr
set_option maxRecDepth 10000
end Go.Ab
end
section
namespace Go.Ab
open Go.Proofs
attribute [local congr] ACall.congr
set_option maxRecDepth 10000
def Mh (g:Gr) (out:List Int) (x:Nat) (i:Nat):Bool:=(List.range i).all fun j=> !decide (hd g j=(x:Int))||decide (tl g j∈out)
def OK (g:Gr) (out:List Int) (k:Nat) (f:Bool):Prop:=k≤g.n.toNat∧(if f then 0<k∧wt g out (k - 1)=0∧∀j,j<k - 1→wt g out j≠0 else ∀j,j<k→wt g out j≠0)
def OL (out:List Int) (k:Nat) (f:Bool):List Int:=if f then out++ [((k - 1:Nat):Int)] else out
end Go.Ab
end
section
namespace Go.Ab
open Go.Proofs
attribute [local congr] ACall.congr
set_option maxRecDepth 10000
end Go.Ab
end
section
namespace Go.Ab
open Go.Proofs
set_option maxRecDepth 10000
structure Pl where
 ord:List Int
 outs:List (List Int)
def az (p:Pl) (k:Nat):Int:=p.ord.getD k 0
def bt (p:Pl) (x:Int):List Int:=p.outs.getD x.toNat []
def bp (g:Gr) (p:Pl):Prop:=p.outs.length=g.n.toNat∧p.ord.Perm (iH g.n.toNat)∧∀x:Nat,x<g.n.toNat→(p.outs.getD x []).Perm (bE g x)
def fK (g:Gr) (p:Pl):Nat→Fr
 |0=>⟨[], []⟩
 |k+1=>(aA g (fK g p k) (az p k) (bt p (az p k))).2
def dZ (g:Gr) (p:Pl) (k:Nat):List It:=(aA g (fK g p k) (az p k) (bt p (az p k))).1.1
def xF (g:Gr) (p:Pl) (k:Nat):Bool:=aq g (fK g p k) (az p k)
def eP (g:Gr) (p:Pl):Nat→List (List It)
 |0=>List.replicate g.n.toNat []
 |k+1=>(eP g p k).set (az p k).toNat (dZ g p k)
def js (g:Gr) (p:Pl):Nat→Option Nat
 |0=>none
 |k+1=>match js g p k with
  |some i=>some i
  |none=>if xF g p k=true then none else some k
def bA (g:Gr) (p:Pl):Prop:=(b9 g).1=0∧bp g p∧∀k,k<g.n.toNat→xF g p k=true
theorem fC {g:Gr} {p:Pl} :∀ {k:Nat},js g p k=none↔∀j,j<k→xF g p j=true
 |0=>by simp [js]
 |k+1=>by
  rw [js]
  cases h:js g p k with
  |some i=>
   simp only [reduceCtorEq,false_iff]
   intro h2
   rw [fC.2 fun j hj=>h2 j (by omega)] at h
   cases h
  |none=>
   have ih:=fC.1 h
   simp only
   constructor
   ·intro h2 j hj
    by_cases hjk:j=k
    ·subst hjk
     refine Decidable.byContradiction fun hn=> ?_
     rw [if_neg hn] at h2;cases h2
    ·exact ih j (by omega)
   ·intro h2
    rw [if_pos (h2 k (by omega))]
theorem nR {g:Gr} {p:Pl} {i:Nat} :∀ {k:Nat},js g p k=some i↔i<k∧xF g p i=false∧∀j,j<i→xF g p j=true
 |0=>by simp [js]
 |k+1=>by
  rw [js]
  cases h:js g p k with
  |some i'=>
   have ih:=(nR (g:=g) (p:=p)).1 h
   simp only [Option.some.injEq]
   constructor
   ·rintro rfl
    exact ⟨by omega,ih.2⟩
   ·rintro ⟨h1,h2,h3⟩
    rcases Nat.lt_trichotomy i' i with h4|h4|h4
    ·rw [h3 i' h4] at ih;simp at ih
    ·exact h4
    ·rw [ih.2.2 i h4] at h2;cases h2
  |none=>
   have ih:=fC.1 h
   simp only
   constructor
   ·intro h2
    by_cases hk:xF g p k=true
    ·rw [if_pos hk] at h2;cases h2
    ·rw [if_neg hk] at h2
     cases h2
     exact ⟨by omega,by simpa using hk,ih⟩
   ·rintro ⟨h1,h2,h3⟩
    have:i=k:=by
     by_cases h4:i<k
     ·rw [ih i h4] at h2;cases h2
     ·omega
    subst this
    rw [if_neg (by rw [h2];simp)]
theorem l7 {n:Nat} :(iH n).length=n:=by simp [iH]
theorem bY {g:Gr} {p:Pl} (h:bp g p):p.ord.length=g.n.toNat:=by rw [h.2.1.length_eq,l7]
theorem nS {g:Gr} {p:Pl} (h:bp g p):p.ord.Nodup:=h.2.1.nodup_iff.2 kO
theorem aI {g:Gr} {p:Pl} (h:bp g p) {k:Nat} (hk:k<g.n.toNat):0≤az p k∧az p k<g.n:=by
 have h1:az p k∈p.ord:=bz (by rw [bY h];exact hk)
 have:=dH.1 (h.2.1.mem_iff.1 h1)
 omega
theorem cP {g:Gr} {p:Pl} (h:bp g p) {i j:Nat} (hi:i<g.n.toNat) (hj:j<g.n.toNat) (e:az p i=az p j):i=j:=
 th (nS h) (by rw [bY h];exact hi) (by rw [bY h];exact hj) e
theorem ec {g:Gr} {p:Pl} (h:bp g p) {x:Int} (h0:0≤x) (h1:x<g.n):∃k,k<g.n.toNat∧az p k=x:=by
 have:x∈p.ord:=h.2.1.mem_iff.2 (dH.2 (by omega))
 obtain ⟨k,hk,e⟩:=List.mem_iff_getElem.1 this
 refine ⟨k,by rw [← bY h];exact hk, ?_⟩
 rw [az,List.getD_eq_getElem?_getD,List.getElem?_eq_getElem hk,Option.getD_some,e]
theorem bC {g:Gr} {p:Pl} (h:bp g p) {x:Int} (h0:0≤x) (h1:x<g.n):(bt p x).Perm (bE g x):=by
 have:=h.2.2 x.toNat (by omega)
 rwa [show ((x.toNat:Nat):Int)=x by omega] at this
theorem iJ {g:Gr} {p:Pl} (h:bp g p) {x:Int} (h0:0≤x) (h1:x<g.n):(bt p x).length≤g.es.length:=by
 rw [(bC h h0 h1).length_eq];exact tB
theorem cQ {g:Gr} (hm:aN g=true) {p:Pl} (h:bp g p):∀ {k:Nat},k≤g.n.toNat→(∀j,j<k→xF g p j=true)→uh g (fK g p k)∧(fK g p k).pl=p.ord.take k∧(fK g p k).row.length≤k*(g.es.length+1)
 |0,_,_=>⟨xe g,by simp [fK],by simp [fK]⟩
 |k+1,hk,hok=>by
  obtain ⟨h1,h2,h3⟩:=cQ hm h (k:=k) (by omega) fun j hj=>hok j (by omega)
  obtain ⟨x0,x1⟩:=aI h (k:=k) (by omega)
  have hl:=vf (g:=g) (f:=fK g p k) (x:=az p k) (o:=bt p (az p k))
  have HJ:=iJ h x0 x1
  refine ⟨gY hm h1 (hok k (by omega)) (bC h x0 x1), ?_, ?_⟩
  ·show (fK g p k).pl++ [az p k]=_
   rw [h2,List.take_add_one,List.getElem?_eq_getElem (by rw [bY h];omega),az,List.getD_eq_getElem?_getD,List.getElem?_eq_getElem (by rw [bY h];omega)]
   rfl
  ·show (aA _ _ _ _).2.row.length≤_
   rw [Nat.add_mul];omega
theorem yH {g:Gr} {p:Pl} (h:bp g p) {k:Nat} (hk:k<g.n.toNat) (hR:xF g p k=true):cF g (fK g p k) (az p k) (bt p (az p k))=aA g (fK g p k) (az p k) (bt p (az p k)):=by
 have hp:=bC h (aI h hk).1 (aI h hk).2
 unfold cF
 have HU:aq g (fK g p k) (az p k)=true:=hR
 rw [if_neg (by rw [HU];simp),if_neg]
 rintro (h|⟨i,h1,h2⟩)
 ·exact h hp.length_eq
 ·exact h2 (hp.mem_iff.2 h1)
theorem yI {g:Gr} {p:Pl} {k:Nat} (hR:xF g p k=false):cF g (fK g p k) (az p k) (bt p (az p k))=(([],3),fK g p k):=if_pos hR
theorem l8 {g:Gr} {p:Pl} :∀ {k:Nat},(eP g p k).length=g.n.toNat
 |0=>by simp [eP]
 |k+1=>by rw [eP,List.length_set,l8]
theorem vi {α:Type} {l:List α} {i j:Nat} {a d:α} (hi:i<l.length):(l.set i a).getD j d=if j=i then a else l.getD j d:=by
 rw [List.getD_eq_getElem?_getD,List.getElem?_set,List.getD_eq_getElem?_getD]
 by_cases h:i=j
 ·subst h;simp [hi]
 ·rw [if_neg h,if_neg (Ne.symm h)]
theorem o4 {g:Gr} {p:Pl} (h:bp g p):∀ {k:Nat},k≤g.n.toNat→∀ {i:Nat},i<k→(eP g p k).getD (az p i).toNat []=dZ g p i
 |0,_,i,hi=>by omega
 |k+1,hk,i,hi=>by
  have hm:=aI h (k:=k) (by omega)
  rw [eP,vi (by rw [l8];omega)]
  by_cases e:i=k
  ·subst e;rw [if_pos rfl]
  ·have Hs:=aI h (k:=i) (by omega)
   rw [if_neg (fun h2=>e (cP h (by omega) (by omega) (by omega)))]
   exact o4 h (by omega) (by omega)
theorem o5 {l m:List Int} (h:iz l=m):l.Perm m:=by
 rw [← h];exact (List.mergeSort_perm l _).symm
theorem yJ {n:Nat} :(iH n).Pairwise (· ≤ ·):=by
 unfold iH
 refine List.Pairwise.map _ (fun a b (h:a<b)=> ?_) List.pairwise_lt_range
 show (a:Int)≤b
 omega
theorem Gd {g:Gr} (hm:aN g=true) {p:Pl} :(p.outs.length=g.n.toNat∧p.ord.length=g.n.toNat∧(∀i:Nat,i<(iz p.ord).length→(iz p.ord).getD i 0=i)∧∀x:Nat,x<p.outs.length→iz (p.outs.getD x [])=bq (·.1) g x)↔bp g p:=by
 constructor
 ·rintro ⟨h1,h2,h3,h4⟩
  refine ⟨h1,o5 ?_,fun x hx=> ?_⟩
  ·refine List.ext_getElem (by rw [fu,h2,l7]) fun i h5 h6=> ?_
   have:=h3 i h5
   rw [List.getD_eq_getElem?_getD,List.getElem?_eq_getElem h5,Option.getD_some] at this
   rw [this];simp [iH]
  ·have:=h4 x (by omega)
   rw [gM (by omega) (by omega)] at this
   exact o5 this
 ·intro h
  refine ⟨h.1,bY h, ?_,fun x hx=> ?_⟩
  ·rw [tE h.2.1 yJ]
   intro i hi
   rw [l7] at hi
   simp [iH,List.getD_eq_getElem?_getD,List.getElem?_range hi]
  ·rw [gM (by omega) (by have:=h.1;omega)]
   exact tE (h.2.2 x (by rw [← h.1];exact hx)) qC
theorem AZ {g:Gr} (hm:aN g=true) {p:Pl} :(gB p.ord g.n=true∧p.outs.length=g.n.toNat∧(∀x:Nat,x<p.outs.length→∀i∈p.outs.getD x [],i∈bE g x)∧p.outs.flatten.Nodup∧∀i:Nat,i<g.es.length→(i:Int)∈p.outs.flatten)↔bp g p:=by
 have hn:=aL hm
 constructor
 ·rintro ⟨h1,h2,h3,h4,h5⟩
  refine ⟨h2, ?_,fun x hx=> ?_⟩
  ·obtain ⟨e1,e2⟩:=bZ.1 h1
   exact o3 kO e2 (by rw [l7];omega)
  ·have hxl:x<p.outs.length:=by omega
   have hmem:p.outs.getD x []∈p.outs:=bz hxl
   have bT:(p.outs.getD x []).Nodup:=by
    rw [List.Nodup,List.pairwise_flatten] at h4
    exact h4.1 _ hmem
   refine (List.perm_ext_iff_of_nodup bT de).2 fun i=>⟨h3 x hxl i,fun hi=> ?_⟩
   obtain ⟨k,rfl,hk,ht⟩:=j9 hi
   obtain ⟨l,hl,cz⟩:=List.mem_flatten.1 (h5 k hk)
   obtain ⟨y,hy,rfl⟩:=List.mem_iff_getElem.1 hl
   have e:p.outs.getD y []=p.outs[y]:=by rw [List.getD_eq_getElem?_getD,List.getElem?_eq_getElem hy];rfl
   rw [← e] at cz
   obtain ⟨k',e1,_,e2⟩:=j9 (h3 y hy _ cz)
   have:k=k':=by omega
   subst this
   have:x=y:=by omega
   subst this
   exact cz
 ·intro h
  refine ⟨bZ.2 ⟨?_,fun x hx=>h.2.1.mem_iff.2 hx⟩,h.1,fun x hx i hi=>(h.2.2 x (by rw [← h.1];exact hx)).mem_iff.1 hi, ?_,fun i hi=> ?_⟩
  ·have:=bY h;omega
  ·rw [List.Nodup,List.pairwise_flatten]
   constructor
   ·intro l hl
    obtain ⟨x,hx,rfl⟩:=List.mem_iff_getElem.1 hl
    have e:p.outs.getD x []=p.outs[x]:=by rw [List.getD_eq_getElem?_getD,List.getElem?_eq_getElem hx];rfl
    rw [← e]
    exact (h.2.2 x (by rw [← h.1];exact hx)).nodup_iff.2 de
   ·refine List.pairwise_iff_getElem.2 fun x y hx hy hxy a ha b hb e=> ?_
    subst e
    have ex:p.outs.getD x []=p.outs[x]:=by rw [List.getD_eq_getElem?_getD,List.getElem?_eq_getElem hx];rfl
    have ey:p.outs.getD y []=p.outs[y]:=by rw [List.getD_eq_getElem?_getD,List.getElem?_eq_getElem hy];rfl
    rw [← ex] at ha
    rw [← ey] at hb
    obtain ⟨k,e1,_,e2⟩:=j9 ((h.2.2 x (by rw [← h.1];exact hx)).mem_iff.1 ha)
    obtain ⟨k',e3,_,e4⟩:=j9 ((h.2.2 y (by rw [← h.1];exact hy)).mem_iff.1 hb)
    have:k=k':=by omega
    subst this
    omega
  ·have ht:=(eS hm hi).1
   refine List.mem_flatten.2 ⟨p.outs.getD (tl g i).toNat [],bz (by rw [h.1];have:0≤tl g i∧tl g i<g.n:=ht;omega), ?_⟩
   have:0≤tl g i∧tl g i<g.n:=ht
   refine (h.2.2 _ (by omega)).mem_iff.2 ?_
   simp only [bE,bg,List.mem_map,List.mem_filter,List.mem_range,decide_eq_true_eq]
   exact ⟨i,⟨hi,by show tl g i=_;omega⟩,rfl⟩
end Go.Ab
end
section
namespace Go.Ab
open Go.Proofs
set_option maxRecDepth 10000
def o6 (g:Gr) (p:Pl) (f:Fr) (x:Int):Fr:=(aA g f x (bt p x)).2
def tH (g:Gr) (p:Pl):Nat→Fr→Prop
 |0,f=>(f.pl.length:Int)=g.n
 |m+1,f=>∃x,aq g f x=true∧tH g p m (o6 g p f x)
theorem tI {g:Gr} {p:Pl} :∀ {m:Nat} {f f':Fr},f.row=f'.row→f.pl.Perm f'.pl→tH g p m f→tH g p m f'
 |0,f,f',_,hp,h=>by
  have h:(f.pl.length:Int)=g.n:=h
  show (f'.pl.length:Int)=g.n
  rw [← hp.length_eq];exact h
 |m+1,f,f',hr,hp,⟨x,h1,h2⟩=>by
  refine ⟨x,by rw [← qD hr hp];exact h1,tI ?_ ?_ h2⟩
  ·simp only [o6,aA,hr]
  ·exact hp.append_right _
theorem yK {g:Gr} (hc:(b9 g).1=0) {p:Pl} (hp:bp g p):∀ {m:Nat} {f:Fr},uh g f→(f.pl.length:Int)+(m+1:Nat)=g.n→tH g p (m+1) f→∀ {x:Int},aq g f x=true→tH g p m (o6 g p f x)
 |m,f,hi,hl,⟨y,qP,hcan⟩,x,hR=>by
  have hm:=au hc
  by_cases hxy:x=y
  ·subst hxy;exact hcan
  have py:=bC hp (aC qP).1 (aC qP).2.1
  have px:=bC hp (aC hR).1 (aC hR).2.1
  have i2:=gY hm hi qP py
  match m,hl,hcan with
  |0,hl,hcan=>
   exfalso
   have h1:=gN i2.todY (by show ((f.pl++ [y]).length:Int)=g.n;simp;omega) (x:=x) ⟨(aC hR).1,(aC hR).2.1⟩
   have h2:x∈f.pl++ [y]:=h1
   simp [(aC hR).2.2,hxy] at h2
  |m+1,hl,hcan=>
   obtain ⟨h4,h5,h6,_⟩:=vh hc hi hxy hR qP px py
   have h3:=yK hc hp i2 (by show (((f.pl++ [y]).length:Nat):Int)+_=_;simp;omega) hcan h5
   refine ⟨y,h4,tI h6.symm ?_ h3⟩
   show (f.pl++ [y]++ [x]).Perm (f.pl++ [x]++ [y])
   rw [List.append_assoc,List.append_assoc]
   exact List.Perm.append_left _ (List.Perm.swap ..)
theorem yL {g:Gr} {p:Pl} (h:bA g p):∀ {d k:Nat},k+d=g.n.toNat→tH g p d (fK g p k)
 |0,k,hk=>by
  have hn:=aL (au h.1)
  obtain ⟨_,fG,_⟩:=cQ (au h.1) h.2.1 (k:=k) (by omega) fun j hj=>h.2.2 j (by omega)
  show ((fK g p k).pl.length:Int)=g.n
  rw [fG,List.length_take,bY h.2.1];omega
 |d+1,k,hk=>⟨az p k,h.2.2 k (by omega),yL h (k:=k+1) (by omega)⟩
def gC (rev:Bool) (l:List It):List It:=if rev=true then l.reverse else l
def dg (g:Gr) (f:Fr) (rev:Bool):Int:=match (gC rev f.row).find? (fun t=>aq g f t.2.2) with
 |some t=>t.2.2
 |none=>(di g f).headD (-1)
def aQ (g:Gr) (p:Pl) (rev:Bool):Nat→Fr
 |0=>⟨[], []⟩
 |k+1=>o6 g p (aQ g p rev k) (dg g (aQ g p rev k) rev)
def cI (g:Gr) (p:Pl) (rev:Bool):Nat→List Int
 |0=>List.replicate g.n.toNat 0
 |k+1=>(cI g p rev k).set (dg g (aQ g p rev k) rev).toNat (k:Int)
theorem kf {g:Gr} {p:Pl} {rev:Bool} :∀ {k:Nat},(cI g p rev k).length=g.n.toNat
 |0=>by simp [cI]
 |k+1=>by rw [cI,List.length_set,kf]
theorem gZ {g:Gr} (hm:aN g=true) {f:Fr} (hi:dY g f) {x:Int} :x∈di g f↔aq g f x=true:=by
 simp only [di,jD,List.mem_map,List.mem_filter,List.mem_range]
 constructor
 ·rintro ⟨k,⟨h1,h2⟩,rfl⟩
  rw [← gX hm hi];exact h2
 ·intro h
  obtain ⟨h1,h2,_⟩:=aC h
  have e:((x.toNat:Nat):Int)=x:=by omega
  refine ⟨x.toNat,⟨by omega, ?_⟩,e⟩
  rw [e,gX hm hi];exact h
theorem tJ {g:Gr} (hm:aN g=true) {f:Fr} (hi:dY g f) (h:∃x,aq g f x=true) (rev:Bool):aq g f (dg g f rev)=true:=by
 unfold dg
 cases hf:(gC rev f.row).find? (fun t=>aq g f t.2.2) with
 |some t=>
  have h2:=List.find?_some (p:=fun t:It=>aq g f t.2.2) hf
  exact h2
 |none=>
  obtain ⟨x,hx⟩:=h
  have hx:=(gZ hm hi).2 hx
  match hL:di g f with
  | []=>rw [hL] at hx;cases hx
  |y::l=>exact (gZ hm hi).1 (by rw [hL];simp)
theorem e9 {g:Gr} {p:Pl} (h:bA g p) (rev:Bool):∀ {k:Nat},k≤g.n.toNat→uh g (aQ g p rev k)∧(aQ g p rev k).pl.length=k∧tH g p (g.n.toNat - k) (aQ g p rev k)∧(aQ g p rev k).row.length≤k*(g.es.length+1)
 |0,_=>⟨xe g,rfl,yL h (k:=0) (by omega),by simp [aQ]⟩
 |k+1,hk=>by
  have hm:=au h.1
  have hn:=aL hm
  obtain ⟨h1,h2,h3,h4⟩:=e9 h rev (k:=k) (by omega)
  obtain ⟨m,hmm⟩:∃m,g.n.toNat - k=m+1:=⟨g.n.toNat - k - 1,by omega⟩
  rw [hmm] at h3
  have hR:=tJ hm h1.todY (by obtain ⟨x,hx,_⟩:=h3;exact ⟨x,hx⟩) rev
  have hx:=aC hR
  have hp:=bC h.2.1 hx.1 hx.2.1
  have hl:=vf (g:=g) (f:=aQ g p rev k) (x:=dg g (aQ g p rev k) rev) (o:=bt p (dg g (aQ g p rev k) rev))
  have HJ:=iJ h.2.1 hx.1 hx.2.1
  refine ⟨gY hm h1 hR hp,hl.2.trans (by rw [h2]), ?_, ?_⟩
  ·rw [show g.n.toNat - (k+1)=m by omega]
   exact yK h.1 h.2.1 h1 (by omega) h3 hR
  ·show (aA _ _ _ _).2.row.length≤_
   rw [Nat.add_mul];omega
theorem kT {g:Gr} {p:Pl} (h:bA g p) (rev:Bool) {k:Nat} (hk:k<g.n.toNat):aq g (aQ g p rev k) (dg g (aQ g p rev k) rev)=true∧di g (aQ g p rev k)≠ []:=by
 have hm:=au h.1
 obtain ⟨h1,h2,h3,_⟩:=e9 h rev (k:=k) (by omega)
 obtain ⟨m,hmm⟩:∃m,g.n.toNat - k=m+1:=⟨g.n.toNat - k - 1,by omega⟩
 rw [hmm] at h3
 have hR:=tJ hm h1.todY (by obtain ⟨x,hx,_⟩:=h3;exact ⟨x,hx⟩) rev
 exact ⟨hR,fun e=>by
  have:=(gZ hm h1.todY).2 hR
  rw [e] at this;cases this⟩
def fD (g:Gr) (p:Pl) (rev:Bool):List Int:=(List.range g.n.toNat).map fun k=>dg g (aQ g p rev k) rev
theorem xh {g:Gr} {p:Pl} (rev:Bool):∀ {k:Nat},(aQ g p rev k).pl=(List.range k).map fun j=>dg g (aQ g p rev j) rev
 |0=>rfl
 |k+1=>by
  rw [List.range_succ,List.map_append, ← xh rev (k:=k)]
  rfl
theorem mI {g:Gr} {p:Pl} (h:bA g p) (rev:Bool):bA g ⟨fD g p rev,p.outs⟩:=by
 have hm:=au h.1
 have hn:=aL hm
 obtain ⟨h1,h2,_,_⟩:=e9 h rev (k:=g.n.toNat) (Nat.le_refl _)
 have fG:(aQ g p rev g.n.toNat).pl=fD g p rev:=xh rev
 have hQ:bp g ⟨fD g p rev,p.outs⟩:=by
  refine ⟨h.2.1.1, ?_,h.2.1.2.2⟩
  show (fD g p rev).Perm (iH g.n.toNat)
  rw [← fG]
  refine (o3 (ms:=(aQ g p rev g.n.toNat).pl) (os:=iH g.n.toNat) h1.pl (fun x hx=>dH.2 (by have:=h1.Ep x hx;omega)) (by rw [l7,h2])).symm
 have zT:∀k,k<g.n.toNat→az ⟨fD g p rev,p.outs⟩ k=dg g (aQ g p rev k) rev:=fun k hk=>by
  simp [az,fD,List.getD_eq_getElem?_getD,List.getElem?_range hk]
 have OM:∀k,k≤g.n.toNat→fK g ⟨fD g p rev,p.outs⟩ k=aQ g p rev k:=by
  intro k
  induction k with
  |zero=>intro _;rfl
  |succ k ih=>
   intro hk
   show (aA g (fK g ⟨fD g p rev,p.outs⟩ k) _ _).2=_
   rw [zT k (by omega),ih (by omega)]
   rfl
 refine ⟨h.1,hQ,fun k hk=> ?_⟩
 unfold xF
 rw [OM k (by omega),zT k hk]
 exact (kT h rev hk).1
end Go.Ab
end
section
namespace Go.Ab
open Go.Proofs
set_option maxRecDepth 10000
def jl (f:Fr):Fr:=⟨f.row.reverse,f.pl⟩
def cu (p:Pl):Pl:=⟨p.ord,p.outs.map List.reverse⟩
theorem Cr {f:Fr} :jl (jl f)=f:=by simp [jl]
theorem xj {g:Gr} {f:Fr} (h:dY g f):dY g (jl f):=⟨fun t ht=>h.it t (List.mem_reverse.1 ht),h.pl,h.Ep⟩
theorem fB.rev {x:Int} {l:List It} (h:fB x l):fB x l.reverse:=fun t ht=>h t (List.mem_reverse.1 ht)
theorem Ck.rev {x:Int} {X:List It} (h:Ck x X):Ck x X.reverse:=
 ⟨by obtain ⟨X',q,h1,h2⟩:=h.BS;exact ⟨q,X'.reverse,by simp [h1],h2⟩,by obtain ⟨p,X',h1,h2⟩:=h.fst;exact ⟨X'.reverse,p,by simp [h1],h2⟩,fun t ht=>h.al t (List.mem_reverse.1 ht)⟩
theorem tK {g:Gr} (hm:aN g=true) {f:Fr} (hi:dY g f) {x:Int} (hR:aq g f x=true):aq g (jl f) x=true:=by
 obtain ⟨h0,h1,h2⟩:=aC hR
 by_cases hn:bh g x=0
 ·unfold aq
  rw [if_neg (by rintro (h|h|h);omega;omega;exact h2 h),if_pos hn]
 ·obtain ⟨A,X,C,hr,hA,hC,hX,hc⟩:=cq hm hi hR hn
  exact nP hm (xj hi) h0 h1 h2 (A:=C.reverse) (X:=X.reverse) (C:=A.reverse) (by simp [jl,hr]) hC.rev hA.rev hX.rev (by rw [List.countP_reverse,hc])
theorem p8 {g:Gr} (hm:aN g=true) {f:Fr} (hi:dY g f) (x:Int):aq g (jl f) x=aq g f x:=by
 rw [Bool.eq_iff_iff]
 refine ⟨fun h=> ?_,tK hm hi⟩
 have:=tK hm (xj hi) h
 rwa [Cr] at this
theorem vj {g:Gr} {x:Int} {o:List Int} :aO g x o.reverse=(aO g x o).reverse:=by
 unfold aO
 by_cases h:o= []
 ·rw [if_pos h,if_pos (by rw [h];rfl)];rfl
 ·rw [if_neg h,if_neg (by simpa using h),List.map_reverse]
theorem tL {g:Gr} (hc:(b9 g).1=0) {f:Fr} (hi:uh g f) {x:Int} (hR:aq g f x=true) (o:List Int):
 aA g (jl f) x o.reverse=(((aA g f x o).1.1.reverse,0),jl (aA g f x o).2):=by
 have hm:=au hc
 obtain ⟨h0,h1,h2⟩:=aC hR
 by_cases hn:bh g x=0
 ·have hrow:f.row= []:=by
   rcases hi.src with ⟨_,h⟩|⟨s,hs,hz⟩
   ·exact h
   ·have:=gl hc (x:=s) (y:=x) (hi.Ep s hs) ⟨h0,h1⟩ hz hn
    exact absurd (this ▸ hs) h2
  have hno:fB x f.row:=by rw [hrow];intro t ht;cases ht
  have Mi:fB x (jl f).row:=hno.rev
  rw [iR _ hno,iR _ Mi]
  simp [jl,hrow,vj]
 ·obtain ⟨A,X,C,hr,hA,hC,hX,_⟩:=cq hm hi.todY hR hn
  rw [iI o hr hA hC hX,iI (f:=jl f) (A:=C.reverse) (X:=X.reverse) (C:=A.reverse) o.reverse (by simp [jl,hr]) hC.rev hA.rev hX.rev]
  simp [jl,vj]
theorem kU {p:Pl} {x:Int} :bt (cu p) x=(bt p x).reverse:=by
 unfold bt cu
 simp only [List.getD_eq_getElem?_getD,List.getElem?_map]
 cases p.outs[x.toNat]? <;>simp
theorem z2 {g:Gr} {p:Pl} (h:bp g p):bp g (cu p):=by
 refine ⟨by simpa [cu] using h.1,h.2.1,fun x hx=> ?_⟩
 have e:(cu p).outs.getD x []=(p.outs.getD x []).reverse:=by
  have:=kU (p:=p) (x:=(x:Int))
  unfold bt at this
  simpa using this
 rw [e]
 exact (List.reverse_perm _).trans (h.2.2 x hx)
theorem z6 {g:Gr} {p:Pl} (h:bA g p):∀ {k:Nat},k≤g.n.toNat→fK g (cu p) k=jl (fK g p k)∧∀j,j<k→xF g (cu p) j=true
 |0,_=>⟨rfl,fun j hj=>by omega⟩
 |k+1,hk=>by
  have hm:=au h.1
  obtain ⟨h1,h2⟩:=z6 h (k:=k) (by omega)
  obtain ⟨hi,_,_⟩:=cQ hm h.2.1 (k:=k) (by omega) fun j hj=>h.2.2 j (by omega)
  have hR:aq g (fK g p k) (az p k)=true:=h.2.2 k (by omega)
  have ho:az (cu p) k=az p k:=rfl
  have hok:xF g (cu p) k=true:=by
   show aq g (fK g (cu p) k) (az (cu p) k)=true
   rw [h1,ho,p8 hm hi.todY,hR]
  refine ⟨?_,fun j hj=> ?_⟩
  ·show (aA g (fK g (cu p) k) (az (cu p) k) (bt (cu p) (az (cu p) k))).2=_
   rw [h1,ho,kU,tL h.1 hi hR]
   rfl
  ·by_cases e:j=k
   ·subst e;exact hok
   ·exact h2 j (by omega)
theorem tM {g:Gr} {p:Pl} (h:bA g p):bA g (cu p):=
 ⟨h.1,z2 h.2.1,fun k hk=>(z6 h (k:=k+1) (by omega)).2 k (by omega)⟩
theorem Ew {g:Gr} {p:Pl} (h:bA g p) {k:Nat} (hk:k<g.n.toNat):dZ g (cu p) k=(dZ g p k).reverse:=by
 have hm:=au h.1
 obtain ⟨hi,_,_⟩:=cQ hm h.2.1 (k:=k) (by omega) fun j hj=>h.2.2 j (by omega)
 have ho:az (cu p) k=az p k:=rfl
 show (aA g (fK g (cu p) k) (az (cu p) k) (bt (cu p) (az (cu p) k))).1.1=_
 rw [(z6 h (by omega)).1,ho,kU,tL h.1 hi (h.2.2 k hk)]
 rfl
theorem yM {g:Gr} (hm:aN g=true) {f:Fr} (hi:dY g f) (rev:Bool):dg g (jl f) (!rev)=dg g f rev:=by
 unfold dg
 have e1:gC (!rev) (jl f).row=gC rev f.row:=by cases rev<;>simp [gC,jl]
 have e2:(fun t:It=>aq g (jl f) t.2.2)=fun t:It=>aq g f t.2.2:=by funext t;exact p8 hm hi _
 have e3:di g (jl f)=di g f:=by
  unfold di jD
  have:(fun x:Nat=>eA g (jl f) (x:Int))=fun x:Nat=>eA g f (x:Int):=by
   funext x;rw [gX hm (xj hi),gX hm hi,p8 hm hi]
  rw [this]
 rw [e1,e2,e3]
theorem yN {g:Gr} {p:Pl} (h:bA g p) (rev:Bool):∀ {k:Nat},k≤g.n.toNat→aQ g (cu p) (!rev) k=jl (aQ g p rev k)
 |0,_=>rfl
 |k+1,hk=>by
  have hm:=au h.1
  obtain ⟨hi,_,_,_⟩:=e9 h rev (k:=k) (by omega)
  have ih:=yN h rev (k:=k) (by omega)
  show (aA g (aQ g (cu p) (!rev) k) (dg g (aQ g (cu p) (!rev) k) (!rev)) (bt (cu p) _)).2=_
  rw [ih,yM hm hi.todY,kU,tL h.1 hi (kT h rev (by omega)).1]
  rfl
theorem yO {g:Gr} {p:Pl} (h:bA g p) (rev:Bool):∀ {k:Nat},k≤g.n.toNat→cI g (cu p) (!rev) k=cI g p rev k
 |0,_=>rfl
 |k+1,hk=>by
  have hm:=au h.1
  obtain ⟨hi,_,_,_⟩:=e9 h rev (k:=k) (by omega)
  show (cI g (cu p) (!rev) k).set (dg g (aQ g (cu p) (!rev) k) (!rev)).toNat (k:Int)=_
  rw [yO h rev (by omega),yN h rev (by omega),yM hm hi.todY]
  rfl
theorem Ge {g:Gr} {p:Pl} {rev:Bool} {k:Nat} (hk:k<g.n.toNat):(fD g p rev).getD k 0=dg g (aQ g p rev k) rev:=by
 simp [fD,List.getD_eq_getElem?_getD,List.getElem?_range hk]
theorem yP {g:Gr} {p:Pl} {rev:Bool} :(fD g p rev).length=g.n.toNat:=by simp [fD]
theorem Cs {g:Gr} {p:Pl} (h:bA g p) (rev:Bool):(fD g p rev).Perm (iH g.n.toNat):=(mI h rev).2.1.2.1
theorem A4 {g:Gr} {p:Pl} (h:bA g p) (rev:Bool):∀ {k:Nat},k≤g.n.toNat→∀j,j<k→(cI g p rev k).getD ((fD g p rev).getD j 0).toNat 0=(j:Int)
 |0,_,j,hj=>by omega
 |k+1,hk,j,hj=>by
  have hQ:=(mI h rev).2.1
  have za:=aI hQ (k:=k) (by omega)
  have Mj:=aI hQ (k:=j) (by omega)
  have ek:az ⟨fD g p rev,p.outs⟩ k=(fD g p rev).getD k 0:=rfl
  have ej:az ⟨fD g p rev,p.outs⟩ j=(fD g p rev).getD j 0:=rfl
  rw [cI, ← Ge (by omega),vi (by rw [kf];omega)]
  by_cases e:j=k
  ·subst e;rw [if_pos rfl]
  ·rw [if_neg,A4 h rev (by omega) j (by omega)]
   intro e2
   exact e (cP hQ (by omega) (by omega) (by omega))
end Go.Ab
end
section
namespace Go.Ab
open Go.Proofs
set_option maxRecDepth 10000
def loose (l:List It):List Int:=(l.filter fun t=>decide (t.1<0)).map fun t=>t.2.1
theorem vk {a b:List It} :loose (a++b)=loose a++loose b:=by simp [loose]
def J0 (g:Gr) (p:Pl):Nat→List Edge
 |0=> []
 |k+1=>J0 g p k++(loose (dZ g p k)).map fun v=>(v,az p k)
def l9 (g:Gr) (p:Pl):List It:=(fK g p g.n.toNat).row
def newL (g:Gr) (p:Pl):List Edge:=if 1<(l9 g p).length then (loose (l9 g p)).map fun v=>(v,g.n) else []
def J1 (g:Gr) (p:Pl):List Edge:=J0 g p g.n.toNat++newL g p
def Ex (g:Gr) (p:Pl):Gr:=⟨if 1<(l9 g p).length then g.n+1 else g.n,g.es++J1 g p⟩
def J2:Nat→List Edge→List (List Int)→List (List Int)
 |_, [],O=>O
 |m,e::N,O=>J2 (m+1) N (O.set e.1.toNat [(m:Int)])
def Mk (g:Gr) (p:Pl):Pl:=⟨if 1<(l9 g p).length then p.ord++ [g.n] else p.ord,J2 g.es.length (J1 g p) (if 1<(l9 g p).length then p.outs++ [[]] else p.outs)⟩
def ON (g:Gr) (p:Pl) (x:Gr):List (List Int):=(List.range x.n.toNat).map fun v=>if 0<(p.outs.getD v []).length then p.outs.getD v [] else bE x (v:Int)
theorem o7 {g:Gr} {p:Pl} (h:bp g p) {v:Int} (h0:0≤v) (h1:v<g.n):bE g v= []↔bt p v= []:=by
 have hp:=bC h h0 h1
 constructor
 ·intro e;rw [e] at hp;exact hp.eq_nil
 ·intro e;rw [e] at hp;exact hp.symm.eq_nil
end Go.Ab
end
section
namespace Go.Ab
open Go.Proofs
set_option maxRecDepth 10000
abbrev Act:=Int × List Int
def rA (a:Act):List D:= [.sc (.int .i64 a.1),sI a.2]
def sA (as':List Act):D:= .sl 2 (as'.map rA)
attribute [go_sem] sA
def J3 (g:Gr) (HW:List Act):Nat→Fr
 |0=>⟨[], []⟩
 |k+1=>(cF g (J3 g HW k) (HW.getD k (0, [])).1 (HW.getD k (0, [])).2).2
theorem GR {g:Gr} {f:Fr} (hi:dY g f):(f.pl.length:Int)≤g.n∨f.pl= []:=by
 by_cases h:f.pl= []
 ·exact .inr h
 ·left
  obtain ⟨y,hy⟩:=List.exists_mem_of_ne_nil _ h
  have:=hi.Ep y hy
  have h3:=nQ hi.pl (m:=(List.range g.n.toNat).map Int.ofNat) (fun y hy=>by
   rw [List.mem_map]
   have:=hi.Ep y hy
   exact ⟨y.toNat,List.mem_range.2 (by omega),by simp;omega⟩)
  simp at h3
  omega
theorem qE (g:Gr) (hm:aN g=true) (f:Fr) (hi:uh g f) (x:Int) (outs:List Int) (hr:f.row.length≤300000) (hp:f.pl.length≤100000) (ho:outs.length≤17592186043904):
 Spec Tryz.prog 83 (Args [.ptr 10000 0,eN x, .d (sI outs)]) (fm g f) (.tup [.d (sT (cF g f x outs).1.1),eN (cF g f x outs).1.2]) (j6 g (cF g f x outs).2):=by
 rw [← Er hm hi.todY]
 exact z1 g hm f x outs hr hp ho
end Go.Ab
end
section
namespace Go.Ab
open Go.Proofs
attribute [local congr] ACall.congr
set_option maxRecDepth 10000
set_option maxHeartbeats 4000000
def ePl (p:Pl):AV:= .agg [.d (sI p.ord), .d (.sl 1 (vI p.outs))]
attribute [go_sem] ePl
structure o8 (p:Pl):Prop where
 ord:p.ord.length≤17592186043904
 outs:p.outs.length≤9223372036854775807
 each:∀l∈p.outs,l.length≤17592186043904
theorem Ey (g:Gr) (hm:aN g=true) (p:Pl) (hp:o8 p) (res:Bool) (hr:res=true↔bp g p):Spec Tryz.prog 82 (Args [.d (vw g),ePl p]) [] (eB res) []:=by
 rw [← Gd hm] at hr
 have hn:=aL hm
 have ho:=hp.ord
 have IN:=hp.outs
 by_cases h1:p.outs.length=g.n.toNat∧p.ord.length=g.n.toNat
 rotate_left
 ·have hres:res=false:=by
   rw [← Bool.not_eq_true,hr]
   rintro ⟨h2,h3,_⟩
   exact h1 ⟨h2,h3⟩
  subst hres
  by_cases h2:(p.outs.length:Int)=g.n
  ·have ak:decide ((p.outs.length:Int)=g.n)=true:=decide_eq_true h2
   have an:decide ((p.ord.length:Int)=g.n)=false:=decide_eq_false fun h3=>h1 ⟨by omega,by omega⟩
   (refine Spec.intro (C:=T.cfg [] []) (rs:= [.t 4]) (T.ai _ _) Tryz.func82 rfl rfl Tryz.ntmps82 Tryz.results82 (by simp [AObj.isNest]) (by simp [AObj.isNest]) (by kernel_rfl) ?_;intro X hX hP hC aG aH vals hA;refine ⟨_,by simp,hA, ?_⟩;have af:X.P.follows .mixedOrders=true:=(by rw [hP];exact T.mixed);clear aG aH)
   repeat' (first|((first|((with_reducible (first|apply oA|apply oB));exact rfl;intro K hK)|(refine hK _ ?_;clear hK K)|((with_reducible (first|apply oG|apply oH));iterate 3 exact rfl)|((with_reducible apply oI);(iterate 2 exact rfl);intro K hK)|(with_reducible (first|apply wI|apply wJ|apply wK)));try simp only [go_sem,simprocAttr,ag,ak,an])|(with_reducible (first|apply oC|apply oJ|exact oK|apply wA|apply wB|apply wC hX hC|apply wD hX hC|apply wE hX hC af|apply wF hX hC af|apply wG|apply wH|apply And.intro))|((with_reducible refine oD ?_ ?_);kernel_rfl)|((with_reducible (first|apply oE|apply oF));(iterate 3 exact rfl);all_goals (intro h;first|(exact absurd h (by decide))|((try simp only [go_sem,simprocAttr,ag,ak,an] at h);(try with_reducible intro K hK);simp only [go_sem,simprocAttr,ag,ak,an])))|((first|((with_reducible apply wL);exact rfl)|((with_reducible apply wM);exact rfl));all_goals (try ((with_reducible intro h);first|(exact absurd h (by decide))|(try simp only [go_sem,simprocAttr,ag,ak,an] at h))))|omega|(intro h))
  ·have ak:decide ((p.outs.length:Int)=g.n)=false:=decide_eq_false h2
   (refine Spec.intro (C:=T.cfg [] []) (rs:= [.t 4]) (T.ai _ _) Tryz.func82 rfl rfl Tryz.ntmps82 Tryz.results82 (by simp [AObj.isNest]) (by simp [AObj.isNest]) (by kernel_rfl) ?_;intro X hX hP hC aG aH vals hA;refine ⟨_,by simp,hA, ?_⟩;have af:X.P.follows .mixedOrders=true:=(by rw [hP];exact T.mixed);clear aG aH)
   repeat' (first|((first|((with_reducible (first|apply oA|apply oB));exact rfl;intro K hK)|(refine hK _ ?_;clear hK K)|((with_reducible (first|apply oG|apply oH));iterate 3 exact rfl)|((with_reducible apply oI);(iterate 2 exact rfl);intro K hK)|(with_reducible (first|apply wI|apply wJ|apply wK)));try simp only [go_sem,simprocAttr,ag,ak])|(with_reducible (first|apply oC|apply oJ|exact oK|apply wA|apply wB|apply wC hX hC|apply wD hX hC|apply wE hX hC af|apply wF hX hC af|apply wG|apply wH|apply And.intro))|((with_reducible refine oD ?_ ?_);kernel_rfl)|((with_reducible (first|apply oE|apply oF));(iterate 3 exact rfl);all_goals (intro h;first|(exact absurd h (by decide))|((try simp only [go_sem,simprocAttr,ag,ak] at h);(try with_reducible intro K hK);simp only [go_sem,simprocAttr,ag,ak])))|((first|((with_reducible apply wL);exact rfl)|((with_reducible apply wM);exact rfl));all_goals (try ((with_reducible intro h);first|(exact absurd h (by decide))|(try simp only [go_sem,simprocAttr,ag,ak] at h))))|omega|(intro h))
 have ak:decide ((p.outs.length:Int)=g.n)=true:=decide_eq_true (by omega)
 have an:decide ((p.ord.length:Int)=g.n)=true:=decide_eq_true (by omega)
 have Ff:=fu p.ord
 (refine Spec.intro (C:=T.cfg [] []) (rs:= [.t 4]) (T.ai _ _) Tryz.func82 rfl rfl Tryz.ntmps82 Tryz.results82 (by simp [AObj.isNest]) (by simp [AObj.isNest]) (by kernel_rfl) ?_;intro X hX hP hC aG aH vals hA;refine ⟨_,by simp,hA, ?_⟩;have af:X.P.follows .mixedOrders=true:=(by rw [hP];exact T.mixed);clear aG aH)
 repeat' (first|((first|((with_reducible (first|apply oA|apply oB));exact rfl;intro K hK)|(refine hK _ ?_;clear hK K)|((with_reducible (first|apply oG|apply oH));iterate 3 exact rfl)|((with_reducible apply oI);(iterate 2 exact rfl);intro K hK)|(with_reducible (first|apply wI|apply wJ|apply wK)));try simp only [go_sem,simprocAttr,ag,ak,an])|(with_reducible (first|apply oC|apply oJ|exact oK|apply wA|apply wB|apply wC hX hC|apply wD hX hC|apply wE hX hC af|apply wF hX hC af|apply wG|apply wH|apply And.intro))|((with_reducible refine oD ?_ ?_);kernel_rfl)|((with_reducible (first|apply oE|apply oF));(iterate 3 exact rfl);all_goals (intro h;first|(exact absurd h (by decide))|((try simp only [go_sem,simprocAttr,ag,ak,an] at h);(try with_reducible intro K hK);simp only [go_sem,simprocAttr,ag,ak,an])))|((first|((with_reducible apply wL);exact rfl)|((with_reducible apply wM);exact rfl));all_goals (try ((with_reducible intro h);first|(exact absurd h (by decide))|(try simp only [go_sem,simprocAttr,ag,ak,an] at h))))|omega|((first|(refine aB hX hC hP [(10000,31)] (cH p.ord) rfl rfl rfl ?_ ?_ ?_ ?_ ?_ ?_ ?_ ?_ ?_ ?_ ?_ ?_ ?_ ?_;(focus (simp only [go_sem,simprocAttr,ag,ak,an];done));(iterate 12 (focus (simp [go_sem,simprocAttr,ag,ak,an];done)));simp only [go_sem,simprocAttr,ag,ak,an,List.map_cons,List.map_nil])|(refine aF hX hC hP [(10000,31)] (b7 p.ord ho) rfl rfl rfl ?_ ?_ ?_ ?_ ?_ ?_ rfl rfl ?_ ?_;(focus (simp only [go_sem,simprocAttr,ag,ak,an];done));(iterate 6 (focus (simp [go_sem,simprocAttr,ag,ak,an];done)));simp only [go_sem,simprocAttr,ag,ak,an,List.map_cons,List.map_nil]));try simp only [go_sem,simprocAttr,ag,ak,an])|(intro h))
 clear ak an
 refine aj (fun k:Nat=>k≤(iz p.ord).length∧∀i:Nat,i<k→(iz p.ord).getD i 0=i) (fun k=>⟨[(0, .d (vw g)),(3, .ptr 3 0),(32, .d (sI (iz p.ord))),(33,eN (iz p.ord).length),(34,eN k)], [(3, .box [.d (sI p.ord), .d (.sl 1 (vI p.outs))])]⟩) (fun k=>(iz p.ord).length - k) 0 (by simp) ?_ ?_
 ·(refine Le.of ?_ ?_<;>simp [go_sem,simprocAttr,ag])
 rintro k ⟨hk,hg⟩
 rcases Nat.lt_or_ge k (iz p.ord).length with hlt|hge
 ·have hb:decide ((k:Int)<((iz p.ord).length:Int))=true:=decide_eq_true (by omega)
  by_cases he:(iz p.ord).getD k 0=k
  ·have an:decide ((iz p.ord).getD k 0=(k:Int))=true:=decide_eq_true he
   repeat' (first|((first|((with_reducible (first|apply oA|apply oB));exact rfl;intro K hK)|(refine hK _ ?_;clear hK K)|((with_reducible (first|apply oG|apply oH));iterate 3 exact rfl)|((with_reducible apply oI);(iterate 2 exact rfl);intro K hK)|(with_reducible (first|apply wI|apply wJ|apply wK)));try simp only [go_sem,simprocAttr,ag,hb,an])|(with_reducible (first|apply oC|apply oJ|exact oK|apply wA|apply wB|apply wC hX hC|apply wD hX hC|apply wE hX hC af|apply wF hX hC af|apply wG|apply wH|apply And.intro))|((with_reducible refine oD ?_ ?_);kernel_rfl)|((with_reducible (first|apply oE|apply oF));(iterate 3 exact rfl);all_goals (intro h;first|(exact absurd h (by decide))|((try simp only [go_sem,simprocAttr,ag,hb,an] at h);(try with_reducible intro K hK);simp only [go_sem,simprocAttr,ag,hb,an])))|((first|((with_reducible apply wL);exact rfl)|((with_reducible apply wM);exact rfl));all_goals (try ((with_reducible intro h);first|(exact absurd h (by decide))|(try simp only [go_sem,simprocAttr,ag,hb,an] at h))))|omega|((first|(refine aB hX hC hP [(10000,31)] (cH p.ord) rfl rfl rfl ?_ ?_ ?_ ?_ ?_ ?_ ?_ ?_ ?_ ?_ ?_ ?_ ?_ ?_;(focus (simp only [go_sem,simprocAttr,ag,hb,an];done));(iterate 12 (focus (simp [go_sem,simprocAttr,ag,hb,an];done)));simp only [go_sem,simprocAttr,ag,hb,an,List.map_cons,List.map_nil])|(refine aF hX hC hP [(10000,31)] (b7 p.ord ho) rfl rfl rfl ?_ ?_ ?_ ?_ ?_ ?_ rfl rfl ?_ ?_;(focus (simp only [go_sem,simprocAttr,ag,hb,an];done));(iterate 6 (focus (simp [go_sem,simprocAttr,ag,hb,an];done)));simp only [go_sem,simprocAttr,ag,hb,an,List.map_cons,List.map_nil]));try simp only [go_sem,simprocAttr,ag,hb,an])|(intro h))
   refine ⟨k+1,⟨by omega,fun i hi=> ?_⟩, ?_,by omega⟩
   ·by_cases hik:i=k
    ·subst hik;exact he
    ·exact hg i (by omega)
   ·(refine Le.of ?_ ?_<;>simp [go_sem,simprocAttr,ag,hb,an])
  ·have an:decide ((iz p.ord).getD k 0=(k:Int))=false:=decide_eq_false he
   have hres:res=false:=by
    rw [← Bool.not_eq_true,hr]
    rintro ⟨_,_,h3,_⟩
    exact he (h3 k hlt)
   subst hres
   repeat' (first|((first|((with_reducible (first|apply oA|apply oB));exact rfl;intro K hK)|(refine hK _ ?_;clear hK K)|((with_reducible (first|apply oG|apply oH));iterate 3 exact rfl)|((with_reducible apply oI);(iterate 2 exact rfl);intro K hK)|(with_reducible (first|apply wI|apply wJ|apply wK)));try simp only [go_sem,simprocAttr,ag,hb,an])|(with_reducible (first|apply oC|apply oJ|exact oK|apply wA|apply wB|apply wC hX hC|apply wD hX hC|apply wE hX hC af|apply wF hX hC af|apply wG|apply wH|apply And.intro))|((with_reducible refine oD ?_ ?_);kernel_rfl)|((with_reducible (first|apply oE|apply oF));(iterate 3 exact rfl);all_goals (intro h;first|(exact absurd h (by decide))|((try simp only [go_sem,simprocAttr,ag,hb,an] at h);(try with_reducible intro K hK);simp only [go_sem,simprocAttr,ag,hb,an])))|((first|((with_reducible apply wL);exact rfl)|((with_reducible apply wM);exact rfl));all_goals (try ((with_reducible intro h);first|(exact absurd h (by decide))|(try simp only [go_sem,simprocAttr,ag,hb,an] at h))))|omega|((first|(refine aB hX hC hP [(10000,31)] (cH p.ord) rfl rfl rfl ?_ ?_ ?_ ?_ ?_ ?_ ?_ ?_ ?_ ?_ ?_ ?_ ?_ ?_;(focus (simp only [go_sem,simprocAttr,ag,hb,an];done));(iterate 12 (focus (simp [go_sem,simprocAttr,ag,hb,an];done)));simp only [go_sem,simprocAttr,ag,hb,an,List.map_cons,List.map_nil])|(refine aF hX hC hP [(10000,31)] (b7 p.ord ho) rfl rfl rfl ?_ ?_ ?_ ?_ ?_ ?_ rfl rfl ?_ ?_;(focus (simp only [go_sem,simprocAttr,ag,hb,an];done));(iterate 6 (focus (simp [go_sem,simprocAttr,ag,hb,an];done)));simp only [go_sem,simprocAttr,ag,hb,an,List.map_cons,List.map_nil]));try simp only [go_sem,simprocAttr,ag,hb,an])|(intro h))
 have hb:decide ((k:Int)<((iz p.ord).length:Int))=false:=decide_eq_false (by omega)
 repeat' (first|((first|((with_reducible (first|apply oA|apply oB));exact rfl;intro K hK)|(refine hK _ ?_;clear hK K)|((with_reducible (first|apply oG|apply oH));iterate 3 exact rfl)|((with_reducible apply oI);(iterate 2 exact rfl);intro K hK)|(with_reducible (first|apply wI|apply wJ|apply wK)));try simp only [go_sem,simprocAttr,ag,hb])|(with_reducible (first|apply oC|apply oJ|exact oK|apply wA|apply wB|apply wC hX hC|apply wD hX hC|apply wE hX hC af|apply wF hX hC af|apply wG|apply wH|apply And.intro))|((with_reducible refine oD ?_ ?_);kernel_rfl)|((with_reducible (first|apply oE|apply oF));(iterate 3 exact rfl);all_goals (intro h;first|(exact absurd h (by decide))|((try simp only [go_sem,simprocAttr,ag,hb] at h);(try with_reducible intro K hK);simp only [go_sem,simprocAttr,ag,hb])))|((first|((with_reducible apply wL);exact rfl)|((with_reducible apply wM);exact rfl));all_goals (try ((with_reducible intro h);first|(exact absurd h (by decide))|(try simp only [go_sem,simprocAttr,ag,hb] at h))))|omega|((first|(refine aB hX hC hP [(10000,31)] (cH p.ord) rfl rfl rfl ?_ ?_ ?_ ?_ ?_ ?_ ?_ ?_ ?_ ?_ ?_ ?_ ?_ ?_;(focus (simp only [go_sem,simprocAttr,ag,hb];done));(iterate 12 (focus (simp [go_sem,simprocAttr,ag,hb];done)));simp only [go_sem,simprocAttr,ag,hb,List.map_cons,List.map_nil])|(refine aF hX hC hP [(10000,31)] (b7 p.ord ho) rfl rfl rfl ?_ ?_ ?_ ?_ ?_ ?_ rfl rfl ?_ ?_;(focus (simp only [go_sem,simprocAttr,ag,hb];done));(iterate 6 (focus (simp [go_sem,simprocAttr,ag,hb];done)));simp only [go_sem,simprocAttr,ag,hb,List.map_cons,List.map_nil]));try simp only [go_sem,simprocAttr,ag,hb])|(intro h))
 obtain rfl:k=(iz p.ord).length:=by omega
 clear hb hk
 refine aj (fun x:Nat=>x≤p.outs.length∧∀i:Nat,i<x→iz (p.outs.getD i [])=bq (·.1) g i) (fun x=>⟨[(0, .d (vw g)),(44, .d (.sl 1 (vI p.outs))),(45,eN p.outs.length),(46,eN x)], []⟩) (fun x=>p.outs.length - x) 0 (by simp) ?_ ?_
 ·refine Le.of ?_ ?_<;>simp [go_sem,simprocAttr,ag]
 rintro x ⟨hx,uA⟩
 rcases Nat.lt_or_ge x p.outs.length with hxl|Fm
 ·have hb:decide ((x:Int)<(p.outs.length:Int))=true:=decide_eq_true (by omega)
  have hv:=gR hxl
  have hl:=hp.each _ (bz (d:= []) hxl)
  have hn2:∀h:iz (p.outs.getD x [])=bq (·.1) g x,∀i:Nat,i<x+1→iz (p.outs.getD i [])=bq (·.1) g i:=fun h i hi=>by
   by_cases IB:i=x
   ·subst IB;exact h
   ·exact uA i (by omega)
  have uL:¬iz (p.outs.getD x [])=bq (·.1) g x→res=false:=fun h=>by
   rw [← Bool.not_eq_true,hr]
   rintro ⟨_,_,_,h4⟩
   exact h (h4 x hxl)
  generalize p.outs.getD x []=l at hv hl hn2 uL
  have OO:=fu l
  by_cases he:iz l=bq (·.1) g x
  ·have an:decide (iz l=bq (·.1) g (x:Int))=true:=decide_eq_true he
   repeat' (first|((first|((with_reducible (first|apply oA|apply oB));exact rfl;intro K hK)|(refine hK _ ?_;clear hK K)|((with_reducible (first|apply oG|apply oH));iterate 3 exact rfl)|((with_reducible apply oI);(iterate 2 exact rfl);intro K hK)|(with_reducible (first|apply wI|apply wJ|apply wK)));try simp only [go_sem,simprocAttr,hb,hv,an])|(with_reducible (first|apply oC|apply oJ|exact oK|apply wA|apply wB|apply wC hX hC|apply wD hX hC|apply wE hX hC af|apply wF hX hC af|apply wG|apply wH|apply And.intro))|((with_reducible refine oD ?_ ?_);kernel_rfl)|((with_reducible (first|apply oE|apply oF));(iterate 3 exact rfl);all_goals (intro h;first|(exact absurd h (by decide))|((try simp only [go_sem,simprocAttr,hb,hv,an] at h);(try with_reducible intro K hK);simp only [go_sem,simprocAttr,hb,hv,an])))|((first|((with_reducible apply wL);exact rfl)|((with_reducible apply wM);exact rfl));all_goals (try ((with_reducible intro h);first|(exact absurd h (by decide))|(try simp only [go_sem,simprocAttr,hb,hv,an] at h))))|omega|((first|(refine aB hX hC hP [(10000,52)] (cH l) rfl rfl rfl ?_ ?_ ?_ ?_ ?_ ?_ ?_ ?_ ?_ ?_ ?_ ?_ ?_ ?_;(focus (simp only [go_sem,simprocAttr,hb,hv,an];done));(iterate 12 (focus (simp [go_sem,simprocAttr,hb,hv,an];done)));simp only [go_sem,simprocAttr,hb,hv,an,List.map_cons,List.map_nil])|(refine aF hX hC hP [(10000,52)] (b7 l hl) rfl rfl rfl ?_ ?_ ?_ ?_ ?_ ?_ rfl rfl ?_ ?_;(focus (simp only [go_sem,simprocAttr,hb,hv,an];done));(iterate 6 (focus (simp [go_sem,simprocAttr,hb,hv,an];done)));simp only [go_sem,simprocAttr,hb,hv,an,List.map_cons,List.map_nil])|refine aa hX hC hP (iQ g hm (x:Int)) rfl rfl rfl (by simp only [go_sem,simprocAttr,hb,hv,an]) rfl ?_|refine aa hX hC hP (fP (iz l) (bq (·.1) g x) (by omega)) rfl rfl rfl (by simp only [go_sem,simprocAttr,hb,hv,an]) rfl ?_);try simp only [go_sem,simprocAttr,hb,hv,an])|(intro h))
   refine ⟨x+1,⟨by omega,hn2 he⟩, ?_,by omega⟩
   (refine Le.of ?_ ?_<;>simp [go_sem,simprocAttr,hb,hv,an])
  ·have an:decide (iz l=bq (·.1) g (x:Int))=false:=decide_eq_false he
   have hres:=uL he
   subst hres
   repeat' (first|((first|((with_reducible (first|apply oA|apply oB));exact rfl;intro K hK)|(refine hK _ ?_;clear hK K)|((with_reducible (first|apply oG|apply oH));iterate 3 exact rfl)|((with_reducible apply oI);(iterate 2 exact rfl);intro K hK)|(with_reducible (first|apply wI|apply wJ|apply wK)));try simp only [go_sem,simprocAttr,hb,hv,an])|(with_reducible (first|apply oC|apply oJ|exact oK|apply wA|apply wB|apply wC hX hC|apply wD hX hC|apply wE hX hC af|apply wF hX hC af|apply wG|apply wH|apply And.intro))|((with_reducible refine oD ?_ ?_);kernel_rfl)|((with_reducible (first|apply oE|apply oF));(iterate 3 exact rfl);all_goals (intro h;first|(exact absurd h (by decide))|((try simp only [go_sem,simprocAttr,hb,hv,an] at h);(try with_reducible intro K hK);simp only [go_sem,simprocAttr,hb,hv,an])))|((first|((with_reducible apply wL);exact rfl)|((with_reducible apply wM);exact rfl));all_goals (try ((with_reducible intro h);first|(exact absurd h (by decide))|(try simp only [go_sem,simprocAttr,hb,hv,an] at h))))|omega|((first|(refine aB hX hC hP [(10000,52)] (cH l) rfl rfl rfl ?_ ?_ ?_ ?_ ?_ ?_ ?_ ?_ ?_ ?_ ?_ ?_ ?_ ?_;(focus (simp only [go_sem,simprocAttr,hb,hv,an];done));(iterate 12 (focus (simp [go_sem,simprocAttr,hb,hv,an];done)));simp only [go_sem,simprocAttr,hb,hv,an,List.map_cons,List.map_nil])|(refine aF hX hC hP [(10000,52)] (b7 l hl) rfl rfl rfl ?_ ?_ ?_ ?_ ?_ ?_ rfl rfl ?_ ?_;(focus (simp only [go_sem,simprocAttr,hb,hv,an];done));(iterate 6 (focus (simp [go_sem,simprocAttr,hb,hv,an];done)));simp only [go_sem,simprocAttr,hb,hv,an,List.map_cons,List.map_nil])|refine aa hX hC hP (iQ g hm (x:Int)) rfl rfl rfl (by simp only [go_sem,simprocAttr,hb,hv,an]) rfl ?_|refine aa hX hC hP (fP (iz l) (bq (·.1) g x) (by omega)) rfl rfl rfl (by simp only [go_sem,simprocAttr,hb,hv,an]) rfl ?_);try simp only [go_sem,simprocAttr,hb,hv,an])|(intro h))
 ·have hb:decide ((x:Int)<(p.outs.length:Int))=false:=decide_eq_false (by omega)
  obtain rfl:x=p.outs.length:=by omega
  have hres:res=true:=hr.2 ⟨h1.1,h1.2,fun i hi=>hg i (by omega),uA⟩
  subst hres
  repeat' (first|((first|((with_reducible (first|apply oA|apply oB));exact rfl;intro K hK)|(refine hK _ ?_;clear hK K)|((with_reducible (first|apply oG|apply oH));iterate 3 exact rfl)|((with_reducible apply oI);(iterate 2 exact rfl);intro K hK)|(with_reducible (first|apply wI|apply wJ|apply wK)));try simp only [go_sem,simprocAttr,hb])|(with_reducible (first|apply oC|apply oJ|exact oK|apply wA|apply wB|apply wC hX hC|apply wD hX hC|apply wE hX hC af|apply wF hX hC af|apply wG|apply wH|apply And.intro))|((with_reducible refine oD ?_ ?_);kernel_rfl)|((with_reducible (first|apply oE|apply oF));(iterate 3 exact rfl);all_goals (intro h;first|(exact absurd h (by decide))|((try simp only [go_sem,simprocAttr,hb] at h);(try with_reducible intro K hK);simp only [go_sem,simprocAttr,hb])))|((first|((with_reducible apply wL);exact rfl)|((with_reducible apply wM);exact rfl));all_goals (try ((with_reducible intro h);first|(exact absurd h (by decide))|(try simp only [go_sem,simprocAttr,hb] at h))))|omega|((first|(refine aB hX hC hP [(10000,52)] (cH l) rfl rfl rfl ?_ ?_ ?_ ?_ ?_ ?_ ?_ ?_ ?_ ?_ ?_ ?_ ?_ ?_;(focus (simp only [go_sem,simprocAttr,hb];done));(iterate 12 (focus (simp [go_sem,simprocAttr,hb];done)));simp only [go_sem,simprocAttr,hb,List.map_cons,List.map_nil])|(refine aF hX hC hP [(10000,52)] (b7 l hl) rfl rfl rfl ?_ ?_ ?_ ?_ ?_ ?_ rfl rfl ?_ ?_;(focus (simp only [go_sem,simprocAttr,hb];done));(iterate 6 (focus (simp [go_sem,simprocAttr,hb];done)));simp only [go_sem,simprocAttr,hb,List.map_cons,List.map_nil])|refine aa hX hC hP (iQ g hm (x:Int)) rfl rfl rfl (by simp only [go_sem,simprocAttr,hb]) rfl ?_|refine aa hX hC hP (fP (iz l) (bq (·.1) g x) (by omega)) rfl rfl rfl (by simp only [go_sem,simprocAttr,hb]) rfl ?_);try simp only [go_sem,simprocAttr,hb])|(intro h))
end Go.Ab
end
