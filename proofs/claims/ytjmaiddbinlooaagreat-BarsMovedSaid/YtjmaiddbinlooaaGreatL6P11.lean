/- A part of the proof. -/
import Derived.Test.YtjmaiddbinlooaaGreatL6P10
set_option linter.unusedSimpArgs false
set_option linter.unusedVariables false
section
namespace Go.Ab
open Go.Proofs
attribute [local congr] ACall.congr
set_option maxRecDepth 10000
def eo (g:Gr) (ws:List Int) (b:Int) (e:Int):Int:=if 0<ws.getD (tl g e.toNat).toNat 0∧(b<0∨tl g e.toNat<b) then tl g e.toNat else b
theorem BG (g:Gr) (ws:List Int) (b:Int) (i:Nat):eo g ws b (i:Int)=if 0<ws.getD (g.es.getD i (0,0)).1.toNat 0∧(b<0∨(g.es.getD i (0,0)).1<b) then (g.es.getD i (0,0)).1 else b:=rfl
def sZ (g:Gr) (ws:List Int) (es:List Int):Int:=es.foldl (eo g ws) (-1)
def gY (g:Gr) (ws:List Int) (at_:Int):Int:=sZ g ws (nO g at_.toNat)
def jD (g:Gr) (ws:List Int):Nat→List Int→Int→List Int × Int
 |0,way,at_=>(way,at_)
 |f+1,way,at_=>if at_<0∨at_∈way then (way,at_) else jD g ws f (way++ [at_]) (gY g ws at_)
def iX (g:Gr):List Int × Int:=jD g (b8 g (aG g)) g.n.toNat [] (bJ (fun n=>decide (0<n)) (b8 g (aG g)))
def jO (l:List Int):List Int:=l.drop (c7 l (gh l)).toNat++l.take (c7 l (gh l)).toNat
def iY (g:Gr):List Int:=if (iX g).2<0 then [] else jO ((iX g).1.drop (c7 (iX g).1 (iX g).2).toNat).reverse
theorem gw (n:Int):Spec Tryz.prog 122 (Args [eN n]) [] (eB (decide (0<n))) []:=by
 (refine Spec.intro (C:=T.cfg [] []) (rs:= [.t 2]) (T.ak _ _) Tryz.func122 rfl rfl Tryz.ntmps122 Tryz.results122 (by simp [AObj.isNest]) (by simp [AObj.isNest]) (by kernel_rfl) ?_;intro X hX hP hC aK aL vals hA;refine ⟨_,by simp,hA, ?_⟩;have af:X.P.follows .mixedOrders=true:=(by rw [hP];exact T.mixed);clear aK aL)
 repeat' (first|fail|((first|((with_reducible (first|apply oA|apply oB));exact rfl;intro K hK)|(refine hK _ ?_;clear hK K)|((with_reducible (first|apply oG|apply oH));iterate 3 exact rfl)|((with_reducible apply oI);(iterate 2 exact rfl);intro K hK)|(with_reducible (first|apply wI|apply wJ|apply wK)));try simp only [go_sem,simprocAttr])|fail|(with_reducible (first|apply oC|apply oJ|exact oK|apply wA|apply wB|apply wC hX hC|apply wD hX hC|apply wE hX hC af|apply wF hX hC af|apply wG|apply wH|apply And.intro))|((with_reducible refine oD ?_ ?_);first|fail|kernel_rfl)|((with_reducible (first|apply oE|apply oF));(iterate 3 exact rfl);all_goals (intro h;first|(exact absurd h (by decide))|((try simp only [go_sem,simprocAttr] at h);(try with_reducible intro K hK);simp only [go_sem,simprocAttr])))|((first|((with_reducible apply wL);exact rfl)|((with_reducible apply wM);exact rfl));all_goals (try ((with_reducible intro h);first|(exact absurd h (by decide))|(try simp only [go_sem,simprocAttr] at h))))|omega|((first|fail);try simp only [go_sem,simprocAttr])|(intro h))
structure Way (g:Gr) (way:List Int):Prop where
 lo:∀x∈way,0≤x∧x<g.n
 fuel:way.length+left g way=g.n.toNat
theorem mO {g:Gr} :left g []=g.n.toNat:=by
 have:=(dK.nil g).fuel
 rw [List.length_nil,Nat.zero_add] at this
 exact this
theorem gH {g:Gr} {way:List Int} {a:Nat} (ha:a<g.n.toNat) (hn:(a:Int)∉way):left g way=left g (way++ [(a:Int)])+1:=by
 unfold left
 rw [← ke (p:=fun y:Nat=> !decide ((y:Int)∈way)) (x:=a) (by simp [hn]) ha]
 congr 1
 refine List.countP_congr fun y _=> ?_
 simp;omega
theorem Way.nil (g:Gr):Way g []:=⟨by simp,by rw [mO];simp⟩
theorem Way.next {g:Gr} {way:List Int} {a:Nat} (h:Way g way) (ha:a<g.n.toNat) (hn:(a:Int)∉way):Way g (way++ [(a:Int)]):=by
 refine ⟨fun x hx=> ?_, ?_⟩
 ·rcases List.mem_append.1 hx with hx|hx
  ·exact h.lo x hx
  ·simp at hx;omega
 ·have h1:=h.fuel
  have h2:=gH ha hn
  rw [List.length_append,List.length_singleton];omega
theorem ur {g:Gr} {x:Nat} {e:Int} (h:e∈nO g x):∃i:Nat,e=i∧i<g.es.length∧hd g i=x:=by
 simp only [nO,ej,List.mem_map,List.mem_filter,List.mem_range,decide_eq_true_eq] at h
 obtain ⟨i,⟨h1,h2⟩,rfl⟩:=h
 exact ⟨i,rfl,h1,h2⟩
theorem zK {α β:Type} {f:β→α→β} {b:β} {l:List α} {j:Nat} {x:α} (h:l[j]? =some x):(l.take (j+1)).foldl f b=f ((l.take j).foldl f b) x:=by
 rw [List.take_add_one,List.foldl_append,h];rfl
theorem oV {g:Gr} (hm:aO g=true) (ws:List Int):∀(l:List Int) (b:Int),(b= -1∨(0≤b∧b<g.n))→(∀e∈l,∃i:Nat,e=i∧i<g.es.length)→l.foldl (eo g ws) b= -1∨(0≤l.foldl (eo g ws) b∧l.foldl (eo g ws) b<g.n)
 | [],b,hb,_=>hb
 |e::l,b,hb,h=>by
  refine oV hm ws l _ ?_ fun e he=>h e (List.mem_cons_of_mem _ he)
  obtain ⟨i,rfl,hi⟩:=h e List.mem_cons_self
  obtain ⟨⟨h1,h2⟩,_⟩:=c9 hm hi
  unfold eo
  split
  ·exact .inr ⟨h1,h2⟩
  ·exact hb
theorem BH {g:Gr} {x:Nat} :∀e∈nO g x,∃i:Nat,e=i∧i<g.es.length:=fun e he=>by
 obtain ⟨i,h1,h2,_⟩:=ur he;exact ⟨i,h1,h2⟩
theorem iZ {g:Gr} {ws way:List Int} {a:Int} (h:a<0∨a∈way):∀f,jD g ws f way a=(way,a)
 |0=>rfl
 |f+1=>by simp only [jD];rw [if_pos h]
theorem c8 {l:List Int} {x:Int} (h:x∈l):∃k:Nat,c7 l x=k∧k<l.length∧l.getD k 0=x:=by
 rcases fy (f:=fun y:Int=>decide (x=y)) (l:=l) 0 with ⟨h1,h2⟩|⟨k,h1,h2,h3,_⟩
 ·exact absurd (h2 x h) (by simp)
 ·exact ⟨k,h1,h2,(of_decide_eq_true h3).symm⟩
theorem gI:∀ {l:List Int},0<l.length→gh l∈l
 |a::r,_=>by
  have:∀(r:List Int) (a:Int),r.foldl min a=a∨r.foldl min a∈r:=by
   intro r
   induction r with
   |nil=>intro a;exact .inl rfl
   |cons b r ih=>
    intro a
    simp only [List.foldl_cons]
    rcases ih (min a b) with h|h
    ·by_cases hab:a≤b
     ·left;rw [h];omega
     ·right;rw [h];simp;omega
    ·right;simp [h]
  rcases this r a with h|h
  ·simp [gh,h]
  ·simp [gh,h]
theorem gJ (g:Gr) (hm:aO g=true):Spec Tryz.prog 103 (Args [.d (vw g)]) [] (.d (sI (iY g))) []:=by
 have hn:=aW hm
 have yA:(b8 g (aG g)).length≤9223372036854775807:=by rw [wts_length];omega
 (refine Spec.intro (C:=T.cfg [30] []) (rs:= [.t 2]) (T.ak _ _) Tryz.func103 rfl rfl Tryz.ntmps103 Tryz.results103 (by simp [AObj.isNest]) (by simp [AObj.isNest]) (by kernel_rfl) ?_;intro X hX hP hC aK aL vals hA;refine ⟨_,by simp,hA, ?_⟩;have af:X.P.follows .mixedOrders=true:=(by rw [hP];exact T.mixed);clear aK aL)
 repeat' (first|fail|((first|((with_reducible (first|apply oA|apply oB));exact rfl;intro K hK)|(refine hK _ ?_;clear hK K)|((with_reducible (first|apply oG|apply oH));iterate 3 exact rfl)|((with_reducible apply oI);(iterate 2 exact rfl);intro K hK)|(with_reducible (first|apply wI|apply wJ|apply wK)));try simp only [go_sem,simprocAttr])|fail|(with_reducible (first|apply oC|apply oJ|exact oK|apply wA|apply wB|apply wC hX hC|apply wD hX hC|apply wE hX hC af|apply wF hX hC af|apply wG|apply wH|apply And.intro))|((with_reducible refine oD ?_ ?_);first|fail|kernel_rfl)|((with_reducible (first|apply oE|apply oF));(iterate 3 exact rfl);all_goals (intro h;first|(exact absurd h (by decide))|((try simp only [go_sem,simprocAttr] at h);(try with_reducible intro K hK);simp only [go_sem,simprocAttr])))|((first|((with_reducible apply wL);exact rfl)|((with_reducible apply wM);exact rfl));all_goals (try ((with_reducible intro h);first|(exact absurd h (by decide))|(try simp only [go_sem,simprocAttr] at h))))|omega|((first|first|refine aa hX hC hP (fN g hm) rfl rfl rfl (by simp only [go_sem,simprocAttr]) rfl ?_|refine aa hX hC hP (cn bk.nil _ [] _ gw (b8 g (aG g)) yA) rfl rfl rfl (by simp only [go_sem,simprocAttr]) rfl ?_|(refine ai hX hC hP (aZ way a bK) rfl rfl rfl ?_ ?_ ?_ ?_;iterate 3 (focus (simp only [go_sem,simprocAttr];done)))|(refine ai hX hC hP (aQ way a bK) rfl rfl rfl ?_ ?_ ?_ ?_;iterate 3 (focus (simp only [go_sem,simprocAttr];done)))|(refine az hX hC hP [(10000,75)] (dF (way.drop k) hlr) rfl rfl rfl ?_ ?_ ?_ ?_ ?_ ?_ ?_ ?_ ?_ ?_ ?_ ?_ ?_ ?_;(focus (simp only [go_sem,simprocAttr];done));(iterate 12 (focus (simp [go_sem,simprocAttr];done)));simp only [go_sem,simprocAttr,List.map_cons,List.map_nil])|(refine ai hX hC hP (iW rev qR hrev) rfl rfl rfl ?_ ?_ ?_ ?_;iterate 3 (focus (simp only [go_sem,simprocAttr];done)))|(refine ai hX hC hP (aQ rev (gh rev) s4) rfl rfl rfl ?_ ?_ ?_ ?_;iterate 3 (focus (simp only [go_sem,simprocAttr];done)))|(refine aS hX hC hP (dy [rev.drop k2,rev.take k2] hc1 yB Ek) rfl rfl rfl ?_ ?_ rfl ?_;iterate 2 (focus (simp only [go_sem,simprocAttr];done))));try simp only [go_sem,simprocAttr])|(intro h))
 (refine jA hX 6 30 (.own 3 1 []) (by simp only [go_sem,simprocAttr]) (by simp only [go_sem,simprocAttr]) (by decide) ⟨3,1,by decide, .inl rfl⟩ ?_;simp only [go_sem,simprocAttr])
 refine aj (fun i:List Int × Int=>Way g i.1∧(i.2= -1∨(0≤i.2∧i.2<g.n))∧jD g (b8 g (aG g)) (left g i.1) i.1 i.2=iX g) (fun i=>⟨[(0, .d (vw g)),(4, .d (sI (b8 g (aG g)))),(5,eN i.2),(6, .ref 30)], [(30, .own 3 1 (i.1.map rI))]⟩) (fun i=>left g i.1) ([],bJ (fun n=>decide (0<n)) (b8 g (aG g))) ⟨Way.nil g, ?_, ?_⟩ ?_ ?_
 ·rcases vO (fun n:Int=>decide (0<n)) (b8 g (aG g)) with h|h
  ·exact .inl h
  ·rw [wts_length] at h;exact .inr (by simp only;omega)
 ·rw [mO];rfl
 ·(refine Le.of ?_ ?_<;>simp [go_sem,simprocAttr])
 rintro ⟨way,at_⟩ ⟨vU,DE,hrun⟩
 simp only at vU DE hrun ⊢
 have Od:way.length≤64:=by have:=vU.fuel;omega
 have bK:way.length≤9223372036854775807:=by omega
 by_cases h0:at_<0
 ·have au:decide (0≤at_)=false:=decide_eq_false (by omega)
  have cx:decide (at_<0)=true:=decide_eq_true h0
  have he:iY g= []:=by
   have:=iZ (g:=g) (ws:=b8 g (aG g)) (way:=way) (.inl h0) (left g way)
   rw [hrun] at this
   simp only [iY,this];rw [if_pos h0]
  repeat' (first|fail|((first|((with_reducible (first|apply oA|apply oB));exact rfl;intro K hK)|(refine hK _ ?_;clear hK K)|((with_reducible (first|apply oG|apply oH));iterate 3 exact rfl)|((with_reducible apply oI);(iterate 2 exact rfl);intro K hK)|(with_reducible (first|apply wI|apply wJ|apply wK)));try simp only [go_sem,simprocAttr,au,cx])|fail|(with_reducible (first|apply oC|apply oJ|exact oK|apply wA|apply wB|apply wC hX hC|apply wD hX hC|apply wE hX hC af|apply wF hX hC af|apply wG|apply wH|apply And.intro))|((with_reducible refine oD ?_ ?_);first|fail|kernel_rfl)|((with_reducible (first|apply oE|apply oF));(iterate 3 exact rfl);all_goals (intro h;first|(exact absurd h (by decide))|((try simp only [go_sem,simprocAttr,au,cx] at h);(try with_reducible intro K hK);simp only [go_sem,simprocAttr,au,cx])))|((first|((with_reducible apply wL);exact rfl)|((with_reducible apply wM);exact rfl));all_goals (try ((with_reducible intro h);first|(exact absurd h (by decide))|(try simp only [go_sem,simprocAttr,au,cx] at h))))|omega|((first|first|refine aa hX hC hP (fN g hm) rfl rfl rfl (by simp only [go_sem,simprocAttr,au,cx]) rfl ?_|refine aa hX hC hP (cn bk.nil _ [] _ gw (b8 g (aG g)) yA) rfl rfl rfl (by simp only [go_sem,simprocAttr,au,cx]) rfl ?_|(refine ai hX hC hP (aZ way a bK) rfl rfl rfl ?_ ?_ ?_ ?_;iterate 3 (focus (simp only [go_sem,simprocAttr,au,cx];done)))|(refine ai hX hC hP (aQ way a bK) rfl rfl rfl ?_ ?_ ?_ ?_;iterate 3 (focus (simp only [go_sem,simprocAttr,au,cx];done)))|(refine az hX hC hP [(10000,75)] (dF (way.drop k) hlr) rfl rfl rfl ?_ ?_ ?_ ?_ ?_ ?_ ?_ ?_ ?_ ?_ ?_ ?_ ?_ ?_;(focus (simp only [go_sem,simprocAttr,au,cx];done));(iterate 12 (focus (simp [go_sem,simprocAttr,au,cx];done)));simp only [go_sem,simprocAttr,au,cx,List.map_cons,List.map_nil])|(refine ai hX hC hP (iW rev qR hrev) rfl rfl rfl ?_ ?_ ?_ ?_;iterate 3 (focus (simp only [go_sem,simprocAttr,au,cx];done)))|(refine ai hX hC hP (aQ rev (gh rev) s4) rfl rfl rfl ?_ ?_ ?_ ?_;iterate 3 (focus (simp only [go_sem,simprocAttr,au,cx];done)))|(refine aS hX hC hP (dy [rev.drop k2,rev.take k2] hc1 yB Ek) rfl rfl rfl ?_ ?_ rfl ?_;iterate 2 (focus (simp only [go_sem,simprocAttr,au,cx];done))));try simp only [go_sem,simprocAttr,au,cx])|(intro h))
  rw [he];rfl
 obtain ⟨a,rfl⟩:∃a:Nat,at_=a:=⟨at_.toNat,by omega⟩
 have El:a<g.n.toNat:=by omega
 have au:decide (0≤(a:Int))=true:=decide_eq_true (by omega)
 by_cases hmem:(a:Int)∈way
 ·have an:decide ((a:Int)∈way)=true:=decide_eq_true hmem
  have cx:decide ((a:Int)<0)=false:=decide_eq_false h0
  have hend:=iZ (g:=g) (ws:=b8 g (aG g)) (.inr hmem) (left g way)
  rw [hrun] at hend
  obtain ⟨k,hk,bD,_⟩:=c8 hmem
  obtain ⟨rev,e9⟩:∃rev,rev=(way.drop k).reverse:=⟨_,rfl⟩
  have hrl:rev.length=way.length - k:=by rw [e9];simp
  have qR:0<rev.length:=by omega
  have hrev:rev.length≤1000000:=by omega
  have s4:rev.length≤9223372036854775807:=by omega
  have hlr:(way.drop k).length≤1000000:=by simp;omega
  obtain ⟨k2,hk2,Oe,_⟩:=c8 (gI qR)
  have hc1: [rev.drop k2,rev.take k2].length≤1000:=by simp
  have yB:0< [rev.drop k2,rev.take k2].flatten.length:=by simp;omega
  have Ek: [rev.drop k2,rev.take k2].flatten.length≤1000000:=by simp;omega
  have Fh:iY g= [rev.drop k2,rev.take k2].flatten:=by
   simp only [iY,hend]
   rw [if_neg h0,hk]
   simp only [Int.toNat_natCast, ← e9,jO,hk2,List.flatten_cons,List.flatten_nil,List.append_nil]
  repeat' (first|fail|((first|((with_reducible (first|apply oA|apply oB));exact rfl;intro K hK)|(refine hK _ ?_;clear hK K)|((with_reducible (first|apply oG|apply oH));iterate 3 exact rfl)|((with_reducible apply oI);(iterate 2 exact rfl);intro K hK)|(with_reducible (first|apply wI|apply wJ|apply wK)));try simp only [go_sem,simprocAttr,au,an,cx,hk,hk2, ← List.map_take, ← List.map_drop,List.take_length, ← e9,vL])|(show cV _ (.seq (.region 20 _ _) _) _ _;(refine cU hX 75 rfl (.inr rfl) ?_;simp only [go_sem,simprocAttr,au,an,cx,hk,hk2, ← List.map_take, ← List.map_drop,List.take_length, ← e9,vL]))|(with_reducible (first|apply oC|apply oJ|exact oK|apply wA|apply wB|apply wC hX hC|apply wD hX hC|apply wE hX hC af|apply wF hX hC af|apply wG|apply wH|apply And.intro))|((with_reducible refine oD ?_ ?_);first|fail|kernel_rfl)|((with_reducible (first|apply oE|apply oF));(iterate 3 exact rfl);all_goals (intro h;first|(exact absurd h (by decide))|((try simp only [go_sem,simprocAttr,au,an,cx,hk,hk2, ← List.map_take, ← List.map_drop,List.take_length, ← e9,vL] at h);(try with_reducible intro K hK);simp only [go_sem,simprocAttr,au,an,cx,hk,hk2, ← List.map_take, ← List.map_drop,List.take_length, ← e9,vL])))|((first|((with_reducible apply wL);exact rfl)|((with_reducible apply wM);exact rfl));all_goals (try ((with_reducible intro h);first|(exact absurd h (by decide))|(try simp only [go_sem,simprocAttr,au,an,cx,hk,hk2, ← List.map_take, ← List.map_drop,List.take_length, ← e9,vL] at h))))|omega|((first|first|refine aa hX hC hP (fN g hm) rfl rfl rfl (by simp only [go_sem,simprocAttr,au,an,cx,hk,hk2, ← List.map_take, ← List.map_drop,List.take_length, ← e9,vL]) rfl ?_|refine aa hX hC hP (cn bk.nil _ [] _ gw (b8 g (aG g)) yA) rfl rfl rfl (by simp only [go_sem,simprocAttr,au,an,cx,hk,hk2, ← List.map_take, ← List.map_drop,List.take_length, ← e9,vL]) rfl ?_|(refine ai hX hC hP (aZ way a bK) rfl rfl rfl ?_ ?_ ?_ ?_;iterate 3 (focus (simp only [go_sem,simprocAttr,au,an,cx,hk,hk2, ← List.map_take, ← List.map_drop,List.take_length, ← e9,vL];done)))|(refine ai hX hC hP (aQ way a bK) rfl rfl rfl ?_ ?_ ?_ ?_;iterate 3 (focus (simp only [go_sem,simprocAttr,au,an,cx,hk,hk2, ← List.map_take, ← List.map_drop,List.take_length, ← e9,vL];done)))|(refine az hX hC hP [(10000,75)] (dF (way.drop k) hlr) rfl rfl rfl ?_ ?_ ?_ ?_ ?_ ?_ ?_ ?_ ?_ ?_ ?_ ?_ ?_ ?_;(focus (simp only [go_sem,simprocAttr,au,an,cx,hk,hk2, ← List.map_take, ← List.map_drop,List.take_length, ← e9,vL];done));(iterate 12 (focus (simp [go_sem,simprocAttr,au,an,cx,hk,hk2, ← List.map_take, ← List.map_drop,List.take_length, ← e9,vL];done)));simp only [go_sem,simprocAttr,au,an,cx,hk,hk2, ← List.map_take, ← List.map_drop,List.take_length, ← e9,vL,List.map_cons,List.map_nil])|(refine ai hX hC hP (iW rev qR hrev) rfl rfl rfl ?_ ?_ ?_ ?_;iterate 3 (focus (simp only [go_sem,simprocAttr,au,an,cx,hk,hk2, ← List.map_take, ← List.map_drop,List.take_length, ← e9,vL];done)))|(refine ai hX hC hP (aQ rev (gh rev) s4) rfl rfl rfl ?_ ?_ ?_ ?_;iterate 3 (focus (simp only [go_sem,simprocAttr,au,an,cx,hk,hk2, ← List.map_take, ← List.map_drop,List.take_length, ← e9,vL];done)))|(refine aS hX hC hP (dy [rev.drop k2,rev.take k2] hc1 yB Ek) rfl rfl rfl ?_ ?_ rfl ?_;iterate 2 (focus (simp only [go_sem,simprocAttr,au,an,cx,hk,hk2, ← List.map_take, ← List.map_drop,List.take_length, ← e9,vL];done))));try simp only [go_sem,simprocAttr,au,an,cx,hk,hk2, ← List.map_take, ← List.map_drop,List.take_length, ← e9,vL])|(intro h))
  rw [Fh]
 ·have an:decide ((a:Int)∈way)=false:=decide_eq_false hmem
  have hv:=mN (f:=(·.2)) El
  have sx:(nO g a).length≤g.es.length:=gv
  repeat' (first|fail|((first|((with_reducible (first|apply oA|apply oB));exact rfl;intro K hK)|(refine hK _ ?_;clear hK K)|((with_reducible (first|apply oG|apply oH));iterate 3 exact rfl)|((with_reducible apply oI);(iterate 2 exact rfl);intro K hK)|(with_reducible (first|apply wI|apply wJ|apply wK)));try simp only [go_sem,simprocAttr,au,an,hv,ah])|fail|(with_reducible (first|apply oC|apply oJ|exact oK|apply wA|apply wB|apply wC hX hC|apply wD hX hC|apply wE hX hC af|apply wF hX hC af|apply wG|apply wH|apply And.intro))|((with_reducible refine oD ?_ ?_);first|fail|kernel_rfl)|((with_reducible (first|apply oE|apply oF));(iterate 3 exact rfl);all_goals (intro h;first|(exact absurd h (by decide))|((try simp only [go_sem,simprocAttr,au,an,hv,ah] at h);(try with_reducible intro K hK);simp only [go_sem,simprocAttr,au,an,hv,ah])))|((first|((with_reducible apply wL);exact rfl)|((with_reducible apply wM);exact rfl));all_goals (try ((with_reducible intro h);first|(exact absurd h (by decide))|(try simp only [go_sem,simprocAttr,au,an,hv,ah] at h))))|omega|((first|first|refine aa hX hC hP (fN g hm) rfl rfl rfl (by simp only [go_sem,simprocAttr,au,an,hv,ah]) rfl ?_|refine aa hX hC hP (cn bk.nil _ [] _ gw (b8 g (aG g)) yA) rfl rfl rfl (by simp only [go_sem,simprocAttr,au,an,hv,ah]) rfl ?_|(refine ai hX hC hP (aZ way a bK) rfl rfl rfl ?_ ?_ ?_ ?_;iterate 3 (focus (simp only [go_sem,simprocAttr,au,an,hv,ah];done)))|(refine ai hX hC hP (aQ way a bK) rfl rfl rfl ?_ ?_ ?_ ?_;iterate 3 (focus (simp only [go_sem,simprocAttr,au,an,hv,ah];done)))|(refine az hX hC hP [(10000,75)] (dF (way.drop k) hlr) rfl rfl rfl ?_ ?_ ?_ ?_ ?_ ?_ ?_ ?_ ?_ ?_ ?_ ?_ ?_ ?_;(focus (simp only [go_sem,simprocAttr,au,an,hv,ah];done));(iterate 12 (focus (simp [go_sem,simprocAttr,au,an,hv,ah];done)));simp only [go_sem,simprocAttr,au,an,hv,ah,List.map_cons,List.map_nil])|(refine ai hX hC hP (iW rev qR hrev) rfl rfl rfl ?_ ?_ ?_ ?_;iterate 3 (focus (simp only [go_sem,simprocAttr,au,an,hv,ah];done)))|(refine ai hX hC hP (aQ rev (gh rev) s4) rfl rfl rfl ?_ ?_ ?_ ?_;iterate 3 (focus (simp only [go_sem,simprocAttr,au,an,hv,ah];done)))|(refine aS hX hC hP (dy [rev.drop k2,rev.take k2] hc1 yB Ek) rfl rfl rfl ?_ ?_ rfl ?_;iterate 2 (focus (simp only [go_sem,simprocAttr,au,an,hv,ah];done))));try simp only [go_sem,simprocAttr,au,an,hv,ah])|(intro h))
  refine aj (fun j:Nat=>j≤(nO g a).length) (fun j=>⟨[(39,eN j),(38,eN (nO g a).length),(37, .d (sI (nO g a))),(7,eN (sZ g (b8 g (aG g)) ((nO g a).take j))),(0, .d (F3 g)),(4, .d (sI (b8 g (aG g)))),(6, .ref 30)], [(30, .own 3 1 ((way++ [(a:Int)]).map rI))]⟩) (fun j=>(nO g a).length - j) 0 (by simp) ?_ ?_
  ·refine Le.of ?_ ?_<;>simp [go_sem,simprocAttr,au,an,hv,ah,nO,rI,sZ]
  rintro j hj
  rcases Nat.lt_or_ge j (nO g a).length with hlt|hge
  ·have hb4:decide ((j:Int)<((nO g a).length:Int))=true:=decide_eq_true (by omega)
   obtain ⟨i,hi,hil,hit⟩:=ur (List.getElem_mem hlt)
   have hi1:(nO g a)[j]? =some (i:Int):=by rw [List.getElem?_eq_getElem hlt,hi]
   have hi2:(nO g a).getD j 0=(i:Int):=by rw [List.getD_eq_getElem?_getD,hi1];rfl
   obtain ⟨⟨DD,sM⟩,_⟩:=c9 hm hil
   have hstep:sZ g (b8 g (aG g)) ((nO g a).take (j+1))=eo g (b8 g (aG g)) (sZ g (b8 g (aG g)) ((nO g a).take j)) i:=zK hi1
   rw [BG] at hstep
   repeat' (first|fail|((first|((with_reducible (first|apply oA|apply oB));exact rfl;intro K hK)|(refine hK _ ?_;clear hK K)|((with_reducible (first|apply oG|apply oH));iterate 3 exact rfl)|((with_reducible apply oI);(iterate 2 exact rfl);intro K hK)|(with_reducible (first|apply wI|apply wJ|apply wK)));try simp only [go_sem,simprocAttr,hb4,hi2,wts_length])|fail|(with_reducible (first|apply oC|apply oJ|exact oK|apply wA|apply wB|apply wC hX hC|apply wD hX hC|apply wE hX hC af|apply wF hX hC af|apply wG|apply wH|apply And.intro))|((with_reducible refine oD ?_ ?_);first|fail|kernel_rfl)|((with_reducible (first|apply oE|apply oF));(iterate 3 exact rfl);all_goals (intro h;first|(exact absurd h (by decide))|((try simp only [go_sem,simprocAttr,hb4,hi2,wts_length] at h);(try with_reducible intro K hK);simp only [go_sem,simprocAttr,hb4,hi2,wts_length])))|((first|((with_reducible apply wL);exact rfl)|((with_reducible apply wM);exact rfl));all_goals (try ((with_reducible intro h);first|(exact absurd h (by decide))|(try simp only [go_sem,simprocAttr,hb4,hi2,wts_length] at h))))|omega|((first|first|refine aa hX hC hP (fN g hm) rfl rfl rfl (by simp only [go_sem,simprocAttr,hb4,hi2,wts_length]) rfl ?_|refine aa hX hC hP (cn bk.nil _ [] _ gw (b8 g (aG g)) yA) rfl rfl rfl (by simp only [go_sem,simprocAttr,hb4,hi2,wts_length]) rfl ?_|(refine ai hX hC hP (aZ way a bK) rfl rfl rfl ?_ ?_ ?_ ?_;iterate 3 (focus (simp only [go_sem,simprocAttr,hb4,hi2,wts_length];done)))|(refine ai hX hC hP (aQ way a bK) rfl rfl rfl ?_ ?_ ?_ ?_;iterate 3 (focus (simp only [go_sem,simprocAttr,hb4,hi2,wts_length];done)))|(refine az hX hC hP [(10000,75)] (dF (way.drop k) hlr) rfl rfl rfl ?_ ?_ ?_ ?_ ?_ ?_ ?_ ?_ ?_ ?_ ?_ ?_ ?_ ?_;(focus (simp only [go_sem,simprocAttr,hb4,hi2,wts_length];done));(iterate 12 (focus (simp [go_sem,simprocAttr,hb4,hi2,wts_length];done)));simp only [go_sem,simprocAttr,hb4,hi2,wts_length,List.map_cons,List.map_nil])|(refine ai hX hC hP (iW rev qR hrev) rfl rfl rfl ?_ ?_ ?_ ?_;iterate 3 (focus (simp only [go_sem,simprocAttr,hb4,hi2,wts_length];done)))|(refine ai hX hC hP (aQ rev (gh rev) s4) rfl rfl rfl ?_ ?_ ?_ ?_;iterate 3 (focus (simp only [go_sem,simprocAttr,hb4,hi2,wts_length];done)))|(refine aS hX hC hP (dy [rev.drop k2,rev.take k2] hc1 yB Ek) rfl rfl rfl ?_ ?_ rfl ?_;iterate 2 (focus (simp only [go_sem,simprocAttr,hb4,hi2,wts_length];done))));try simp only [go_sem,simprocAttr,hb4,hi2,wts_length])|(intro h))
   all_goals (refine ⟨j+1,by omega, ?_,by omega⟩;first|rw [if_pos (by omega)] at hstep|rw [if_neg (by omega)] at hstep)
   all_goals (refine Le.of ?_ ?_<;>simp [go_sem,simprocAttr,hb4,hi2,wts_length,hstep])
  ·have hb4:decide ((j:Int)<((nO g a).length:Int))=false:=decide_eq_false (by omega)
   have ht:(nO g a).take j=nO g a:=List.take_of_length_le (by omega)
   repeat' (first|fail|((first|((with_reducible (first|apply oA|apply oB));exact rfl;intro K hK)|(refine hK _ ?_;clear hK K)|((with_reducible (first|apply oG|apply oH));iterate 3 exact rfl)|((with_reducible apply oI);(iterate 2 exact rfl);intro K hK)|(with_reducible (first|apply wI|apply wJ|apply wK)));try simp only [go_sem,simprocAttr,hb4,ht])|fail|(with_reducible (first|apply oC|apply oJ|exact oK|apply wA|apply wB|apply wC hX hC|apply wD hX hC|apply wE hX hC af|apply wF hX hC af|apply wG|apply wH|apply And.intro))|((with_reducible refine oD ?_ ?_);first|fail|kernel_rfl)|((with_reducible (first|apply oE|apply oF));(iterate 3 exact rfl);all_goals (intro h;first|(exact absurd h (by decide))|((try simp only [go_sem,simprocAttr,hb4,ht] at h);(try with_reducible intro K hK);simp only [go_sem,simprocAttr,hb4,ht])))|((first|((with_reducible apply wL);exact rfl)|((with_reducible apply wM);exact rfl));all_goals (try ((with_reducible intro h);first|(exact absurd h (by decide))|(try simp only [go_sem,simprocAttr,hb4,ht] at h))))|omega|((first|first|refine aa hX hC hP (fN g hm) rfl rfl rfl (by simp only [go_sem,simprocAttr,hb4,ht]) rfl ?_|refine aa hX hC hP (cn bk.nil _ [] _ gw (b8 g (aG g)) yA) rfl rfl rfl (by simp only [go_sem,simprocAttr,hb4,ht]) rfl ?_|(refine ai hX hC hP (aZ way a bK) rfl rfl rfl ?_ ?_ ?_ ?_;iterate 3 (focus (simp only [go_sem,simprocAttr,hb4,ht];done)))|(refine ai hX hC hP (aQ way a bK) rfl rfl rfl ?_ ?_ ?_ ?_;iterate 3 (focus (simp only [go_sem,simprocAttr,hb4,ht];done)))|(refine az hX hC hP [(10000,75)] (dF (way.drop k) hlr) rfl rfl rfl ?_ ?_ ?_ ?_ ?_ ?_ ?_ ?_ ?_ ?_ ?_ ?_ ?_ ?_;(focus (simp only [go_sem,simprocAttr,hb4,ht];done));(iterate 12 (focus (simp [go_sem,simprocAttr,hb4,ht];done)));simp only [go_sem,simprocAttr,hb4,ht,List.map_cons,List.map_nil])|(refine ai hX hC hP (iW rev qR hrev) rfl rfl rfl ?_ ?_ ?_ ?_;iterate 3 (focus (simp only [go_sem,simprocAttr,hb4,ht];done)))|(refine ai hX hC hP (aQ rev (gh rev) s4) rfl rfl rfl ?_ ?_ ?_ ?_;iterate 3 (focus (simp only [go_sem,simprocAttr,hb4,ht];done)))|(refine aS hX hC hP (dy [rev.drop k2,rev.take k2] hc1 yB Ek) rfl rfl rfl ?_ ?_ rfl ?_;iterate 2 (focus (simp only [go_sem,simprocAttr,hb4,ht];done))));try simp only [go_sem,simprocAttr,hb4,ht])|(intro h))
   refine ⟨(way++ [(a:Int)],gY g (b8 g (aG g)) a),⟨vU.next El hmem,oV hm _ _ _ (.inl rfl) BH, ?_⟩, ?_, ?_⟩
   ·simp only
    rw [← hrun,gH El hmem]
    simp only [jD]
    rw [if_neg (by intro h;rcases h with h|h;omega;exact hmem h)]
   ·refine Le.of ?_ ?_<;>simp [go_sem,simprocAttr,hb4,ht,gY]
   ·have:=gH El hmem;simp only;omega
end Go.Ab
end
section
namespace Go.Ab
open Go.Proofs
attribute [local congr] ACall.congr
set_option maxRecDepth 10000
def eF (f:Int × Int × List Int):AV:= .agg [eN f.1,eN f.2.1, .d (sI f.2.2)]
attribute [go_sem] eF
def ja (g:Gr):Int:=bJ (fun e:Edge=>decide (e.1=e.2)) g.es
def lS (g:Gr) (i:Nat):Bool:=decide (g.es.getD i (0,0)∈g.es.take i)
def dY (g:Gr):Int:=bJ (lS g) (List.range g.es.length)
def fO (g:Gr) (MX bare:List Int):Int × Int × List Int:=
 if aO g=false then (1,0, []) else
 if 0≤ja g then (13,ja g, []) else
 if 0≤dY g then (14,dY g, []) else
 if 0<MX.length then (15,0,MX) else
 if 1<bare.length then (16,0,bare.take 2) else (0,0, [])
def bH (g:Gr):Int × Int × List Int:=fO g (iY g) (bB (·.2) g)
theorem jb (e:Edge):Spec Tryz.prog 101 (Args [eE e]) [] (eB (decide (e.1=e.2))) []:=by
 (refine Spec.intro (C:=T.cfg [] []) (rs:= [.t 2]) (T.ak _ _) Tryz.func101 rfl rfl Tryz.ntmps101 Tryz.results101 (by simp [AObj.isNest]) (by simp [AObj.isNest]) (by kernel_rfl) ?_;intro X hX hP hC aK aL vals hA;refine ⟨_,by simp,hA, ?_⟩;have af:X.P.follows .mixedOrders=true:=(by rw [hP];exact T.mixed);clear aK aL)
 repeat' (first|fail|((first|((with_reducible (first|apply oA|apply oB));exact rfl;intro K hK)|(refine hK _ ?_;clear hK K)|((with_reducible (first|apply oG|apply oH));iterate 3 exact rfl)|((with_reducible apply oI);(iterate 2 exact rfl);intro K hK)|(with_reducible (first|apply wI|apply wJ|apply wK)));try simp only [go_sem,simprocAttr])|fail|(with_reducible (first|apply oC|apply oJ|exact oK|apply wA|apply wB|apply wC hX hC|apply wD hX hC|apply wE hX hC af|apply wF hX hC af|apply wG|apply wH|apply And.intro))|((with_reducible refine oD ?_ ?_);first|fail|kernel_rfl)|((with_reducible (first|apply oE|apply oF));(iterate 3 exact rfl);all_goals (intro h;first|(exact absurd h (by decide))|((try simp only [go_sem,simprocAttr] at h);(try with_reducible intro K hK);simp only [go_sem,simprocAttr])))|((first|((with_reducible apply wL);exact rfl)|((with_reducible apply wM);exact rfl));all_goals (try ((with_reducible intro h);first|(exact absurd h (by decide))|(try simp only [go_sem,simprocAttr] at h))))|omega|((first|fail);try simp only [go_sem,simprocAttr])|(intro h))
theorem fz {n k:Nat} (h:k<n) (d:Nat):(List.range n).getD k d=k:=by
 simp [List.getD_eq_getElem?_getD,List.getElem?_range h]
theorem gK (g:Gr) (hl:g.es.length≤1000):Spec Tryz.prog 74 (Args [eG g]) [] (eF (bH g)) []:=by
 have hl:g.es.length≤9223372036854775807:=by omega
 (refine Spec.intro (C:=T.cfg [] []) (rs:= [.c 2 82]) (T.ak _ _) Tryz.func74 rfl rfl Tryz.ntmps74 Tryz.results74 (by simp [AObj.isNest]) (by simp [AObj.isNest]) (by kernel_rfl) ?_;intro X hX hP hC aK aL vals hA;refine ⟨_,by simp,hA, ?_⟩;have af:X.P.follows .mixedOrders=true:=(by rw [hP];exact T.mixed);clear aK aL)
 cases hm:aO g with
 |false=>
  repeat' (first|fail|((first|((with_reducible (first|apply oA|apply oB));exact rfl;intro K hK)|(refine hK _ ?_;clear hK K)|((with_reducible (first|apply oG|apply oH));iterate 3 exact rfl)|((with_reducible apply oI);(iterate 2 exact rfl);intro K hK)|(with_reducible (first|apply wI|apply wJ|apply wK)));try simp only [go_sem,simprocAttr,hm])|fail|(with_reducible (first|apply oC|apply oJ|exact oK|apply wA|apply wB|apply wC hX hC|apply wD hX hC|apply wE hX hC af|apply wF hX hC af|apply wG|apply wH|apply And.intro))|((with_reducible refine oD ?_ ?_);first|fail|kernel_rfl)|((with_reducible (first|apply oE|apply oF));(iterate 3 exact rfl);all_goals (intro h;first|(exact absurd h (by decide))|((try simp only [go_sem,simprocAttr,hm] at h);(try with_reducible intro K hK);simp only [go_sem,simprocAttr,hm])))|((first|((with_reducible apply wL);exact rfl)|((with_reducible apply wM);exact rfl));all_goals (try ((with_reducible intro h);first|(exact absurd h (by decide))|(try simp only [go_sem,simprocAttr,hm] at h))))|omega|((first|first|refine aa hX hC hP (eP g hl) rfl rfl rfl (by simp only [go_sem,simprocAttr,hm]) rfl ?_|refine aa hX hC hP (bz bk.nil _ [] _ jb g.es hl) rfl rfl rfl (by simp only [go_sem,simprocAttr,hm]) rfl ?_|refine aa hX hC hP (eR g hm) rfl rfl rfl (by simp only [go_sem,simprocAttr,hm]) rfl ?_|refine aa hX hC hP (gJ g hm) rfl rfl rfl (by simp only [go_sem,simprocAttr,hm]) rfl ?_|refine aa hX hC hP (dG g hm) rfl rfl rfl (by simp only [go_sem,simprocAttr,hm]) rfl ?_|refine aa hX hC hP (dx (g.es.take k) (g.es.getD k (0,0)) hlk) rfl rfl rfl (by simp only [go_sem,simprocAttr,hm]) rfl ?_);try simp only [go_sem,simprocAttr,hm])|(intro h))
  all_goals simp [bH,fO,hm]
 |true=>
 have hn:=aW hm
 by_cases hlo:0≤ja g
 ·have au:decide (0≤bJ (fun p:Edge=>decide (p.1=p.2)) g.es)=true:=decide_eq_true hlo
  repeat' (first|fail|((first|((with_reducible (first|apply oA|apply oB));exact rfl;intro K hK)|(refine hK _ ?_;clear hK K)|((with_reducible (first|apply oG|apply oH));iterate 3 exact rfl)|((with_reducible apply oI);(iterate 2 exact rfl);intro K hK)|(with_reducible (first|apply wI|apply wJ|apply wK)));try simp only [go_sem,simprocAttr,hm,au])|fail|(with_reducible (first|apply oC|apply oJ|exact oK|apply wA|apply wB|apply wC hX hC|apply wD hX hC|apply wE hX hC af|apply wF hX hC af|apply wG|apply wH|apply And.intro))|((with_reducible refine oD ?_ ?_);first|fail|kernel_rfl)|((with_reducible (first|apply oE|apply oF));(iterate 3 exact rfl);all_goals (intro h;first|(exact absurd h (by decide))|((try simp only [go_sem,simprocAttr,hm,au] at h);(try with_reducible intro K hK);simp only [go_sem,simprocAttr,hm,au])))|((first|((with_reducible apply wL);exact rfl)|((with_reducible apply wM);exact rfl));all_goals (try ((with_reducible intro h);first|(exact absurd h (by decide))|(try simp only [go_sem,simprocAttr,hm,au] at h))))|omega|((first|first|refine aa hX hC hP (eP g hl) rfl rfl rfl (by simp only [go_sem,simprocAttr,hm,au]) rfl ?_|refine aa hX hC hP (bz bk.nil _ [] _ jb g.es hl) rfl rfl rfl (by simp only [go_sem,simprocAttr,hm,au]) rfl ?_|refine aa hX hC hP (eR g hm) rfl rfl rfl (by simp only [go_sem,simprocAttr,hm,au]) rfl ?_|refine aa hX hC hP (gJ g hm) rfl rfl rfl (by simp only [go_sem,simprocAttr,hm,au]) rfl ?_|refine aa hX hC hP (dG g hm) rfl rfl rfl (by simp only [go_sem,simprocAttr,hm,au]) rfl ?_|refine aa hX hC hP (dx (g.es.take k) (g.es.getD k (0,0)) hlk) rfl rfl rfl (by simp only [go_sem,simprocAttr,hm,au]) rfl ?_);try simp only [go_sem,simprocAttr,hm,au])|(intro h))
  all_goals (
   have hc:bH g=(13,ja g, []):=by
    simp only [bH,fO];rw [if_neg (by simp [hm]),if_pos hlo]
   rw [hc]<;>rfl)
 have au:decide (0≤bJ (fun p:Edge=>decide (p.1=p.2)) g.es)=false:=decide_eq_false hlo
 repeat' (first|fail|((first|((with_reducible (first|apply oA|apply oB));exact rfl;intro K hK)|(refine hK _ ?_;clear hK K)|((with_reducible (first|apply oG|apply oH));iterate 3 exact rfl)|((with_reducible apply oI);(iterate 2 exact rfl);intro K hK)|(with_reducible (first|apply wI|apply wJ|apply wK)));try simp only [go_sem,simprocAttr,hm,au])|fail|(with_reducible (first|apply oC|apply oJ|exact oK|apply wA|apply wB|apply wC hX hC|apply wD hX hC|apply wE hX hC af|apply wF hX hC af|apply wG|apply wH|apply And.intro))|((with_reducible refine oD ?_ ?_);first|fail|kernel_rfl)|((with_reducible (first|apply oE|apply oF));(iterate 3 exact rfl);all_goals (intro h;first|(exact absurd h (by decide))|((try simp only [go_sem,simprocAttr,hm,au] at h);(try with_reducible intro K hK);simp only [go_sem,simprocAttr,hm,au])))|((first|((with_reducible apply wL);exact rfl)|((with_reducible apply wM);exact rfl));all_goals (try ((with_reducible intro h);first|(exact absurd h (by decide))|(try simp only [go_sem,simprocAttr,hm,au] at h))))|omega|((first|first|refine aa hX hC hP (eP g hl) rfl rfl rfl (by simp only [go_sem,simprocAttr,hm,au]) rfl ?_|refine aa hX hC hP (bz bk.nil _ [] _ jb g.es hl) rfl rfl rfl (by simp only [go_sem,simprocAttr,hm,au]) rfl ?_|refine aa hX hC hP (eR g hm) rfl rfl rfl (by simp only [go_sem,simprocAttr,hm,au]) rfl ?_|refine aa hX hC hP (gJ g hm) rfl rfl rfl (by simp only [go_sem,simprocAttr,hm,au]) rfl ?_|refine aa hX hC hP (dG g hm) rfl rfl rfl (by simp only [go_sem,simprocAttr,hm,au]) rfl ?_|refine aa hX hC hP (dx (g.es.take k) (g.es.getD k (0,0)) hlk) rfl rfl rfl (by simp only [go_sem,simprocAttr,hm,au]) rfl ?_);try simp only [go_sem,simprocAttr,hm,au])|(intro h))
 refine aj (fun k:Nat=>k≤g.es.length∧∀j,j<k→lS g j=false) (fun k=>⟨[(23,eN k),(22,eN g.es.length),(21, .d (sE g.es)),(1, .ptr 1 0),(2, .ptr 2 0)], [(1, .box [eN g.n, .d (sE g.es)]),(2, .box [eN 0,eN 0, .nil 3])]⟩) (fun k=>g.es.length - k) 0 (by simp) ?_ ?_
 ·(refine Le.of ?_ ?_<;>simp [go_sem,simprocAttr,hm,au])
 rintro k ⟨hk,Fi⟩
 rcases Nat.lt_or_ge k g.es.length with hlt|hge
 ·have an:decide ((k:Int)<(g.es.length:Int))=true:=decide_eq_true (by omega)
  have hlk:(g.es.take k).length≤9223372036854775807:=by rw [List.length_take];omega
  repeat' (first|fail|((first|((with_reducible (first|apply oA|apply oB));exact rfl;intro K hK)|(refine hK _ ?_;clear hK K)|((with_reducible (first|apply oG|apply oH));iterate 3 exact rfl)|((with_reducible apply oI);(iterate 2 exact rfl);intro K hK)|(with_reducible (first|apply wI|apply wJ|apply wK)));try simp only [go_sem,simprocAttr,hm,au,an, ← List.map_take])|fail|(with_reducible (first|apply oC|apply oJ|exact oK|apply wA|apply wB|apply wC hX hC|apply wD hX hC|apply wE hX hC af|apply wF hX hC af|apply wG|apply wH|apply And.intro))|((with_reducible refine oD ?_ ?_);first|fail|kernel_rfl)|((with_reducible (first|apply oE|apply oF));(iterate 3 exact rfl);all_goals (intro h;first|(exact absurd h (by decide))|((try simp only [go_sem,simprocAttr,hm,au,an, ← List.map_take] at h);(try with_reducible intro K hK);simp only [go_sem,simprocAttr,hm,au,an, ← List.map_take])))|((first|((with_reducible apply wL);exact rfl)|((with_reducible apply wM);exact rfl));all_goals (try ((with_reducible intro h);first|(exact absurd h (by decide))|(try simp only [go_sem,simprocAttr,hm,au,an, ← List.map_take] at h))))|omega|((first|first|refine aa hX hC hP (eP g hl) rfl rfl rfl (by simp only [go_sem,simprocAttr,hm,au,an, ← List.map_take]) rfl ?_|refine aa hX hC hP (bz bk.nil _ [] _ jb g.es hl) rfl rfl rfl (by simp only [go_sem,simprocAttr,hm,au,an, ← List.map_take]) rfl ?_|refine aa hX hC hP (eR g hm) rfl rfl rfl (by simp only [go_sem,simprocAttr,hm,au,an, ← List.map_take]) rfl ?_|refine aa hX hC hP (gJ g hm) rfl rfl rfl (by simp only [go_sem,simprocAttr,hm,au,an, ← List.map_take]) rfl ?_|refine aa hX hC hP (dG g hm) rfl rfl rfl (by simp only [go_sem,simprocAttr,hm,au,an, ← List.map_take]) rfl ?_|refine aa hX hC hP (dx (g.es.take k) (g.es.getD k (0,0)) hlk) rfl rfl rfl (by simp only [go_sem,simprocAttr,hm,au,an, ← List.map_take]) rfl ?_);try simp only [go_sem,simprocAttr,hm,au,an, ← List.map_take])|(intro h))
  any_goals (
   have LM:dY g=(k:Int):=cZ (d:=0) (by simpa using hlt) (fun j hj=>by rw [fz (by omega)];exact Fi j hj) (by rw [fz hlt];exact decide_eq_true h)
   have hc:bH g=(14,dY g, []):=by
    simp only [bH,fO];rw [if_neg (by simp [hm]),if_neg hlo,if_pos (by omega)]
   rw [hc]<;>first|rfl|exact LM.symm)
  refine ⟨k+1,⟨by omega,fun j hj=> ?_⟩, ?_,by omega⟩
  ·by_cases hjk:j=k
   ·subst hjk;exact decide_eq_false h
   ·exact Fi j (by omega)
  ·(refine Le.of ?_ ?_<;>simp [go_sem,simprocAttr,hm,au,an, ← List.map_take])
 ·have an:decide ((k:Int)<(g.es.length:Int))=false:=decide_eq_false (by omega)
  have BI:¬0≤dY g:=by
   have:dY g= -1:=b9 0 fun j hj=>by
    rw [List.length_range] at hj
    rw [fz hj];exact Fi j (by omega)
   omega
  repeat' (first|fail|((first|((with_reducible (first|apply oA|apply oB));exact rfl;intro K hK)|(refine hK _ ?_;clear hK K)|((with_reducible (first|apply oG|apply oH));iterate 3 exact rfl)|((with_reducible apply oI);(iterate 2 exact rfl);intro K hK)|(with_reducible (first|apply wI|apply wJ|apply wK)));try simp only [go_sem,simprocAttr,hm,au,an])|fail|(with_reducible (first|apply oC|apply oJ|exact oK|apply wA|apply wB|apply wC hX hC|apply wD hX hC|apply wE hX hC af|apply wF hX hC af|apply wG|apply wH|apply And.intro))|((with_reducible refine oD ?_ ?_);first|fail|kernel_rfl)|((with_reducible (first|apply oE|apply oF));(iterate 3 exact rfl);all_goals (intro h;first|(exact absurd h (by decide))|((try simp only [go_sem,simprocAttr,hm,au,an] at h);(try with_reducible intro K hK);simp only [go_sem,simprocAttr,hm,au,an])))|((first|((with_reducible apply wL);exact rfl)|((with_reducible apply wM);exact rfl));all_goals (try ((with_reducible intro h);first|(exact absurd h (by decide))|(try simp only [go_sem,simprocAttr,hm,au,an] at h))))|omega|((first|first|refine aa hX hC hP (eP g hl) rfl rfl rfl (by simp only [go_sem,simprocAttr,hm,au,an]) rfl ?_|refine aa hX hC hP (bz bk.nil _ [] _ jb g.es hl) rfl rfl rfl (by simp only [go_sem,simprocAttr,hm,au,an]) rfl ?_|refine aa hX hC hP (eR g hm) rfl rfl rfl (by simp only [go_sem,simprocAttr,hm,au,an]) rfl ?_|refine aa hX hC hP (gJ g hm) rfl rfl rfl (by simp only [go_sem,simprocAttr,hm,au,an]) rfl ?_|refine aa hX hC hP (dG g hm) rfl rfl rfl (by simp only [go_sem,simprocAttr,hm,au,an]) rfl ?_|refine aa hX hC hP (dx (g.es.take k) (g.es.getD k (0,0)) hlk) rfl rfl rfl (by simp only [go_sem,simprocAttr,hm,au,an]) rfl ?_);try simp only [go_sem,simprocAttr,hm,au,an])|(intro h))
  all_goals (
   have hc:bH g=if 0<(iY g).length then (15,0,iY g) else if 1<(bB (·.2) g).length then (16,0,(bB (·.2) g).take 2) else (0,0, []):=by
    simp only [bH,fO];rw [if_neg (by simp [hm]),if_neg hlo,if_neg BI]
   first|rw [if_pos (by omega)] at hc|(rw [if_neg (by omega)] at hc;first|rw [if_pos (by omega)] at hc|rw [if_neg (by omega)] at hc)
   rw [hc]<;>first|rfl|simp only [List.map_take])
end Go.Ab
end
section
namespace Go.Ab
open Go.Proofs
attribute [local congr] ACall.congr
set_option maxRecDepth 10000
theorem bh (ps:List Int) (x:Int) (hl:ps.length≤9223372036854775807):
 Spec Tryz.prog 144 (Args [.d (sI ps),eN x]) [] (eN (c7 ps x)) []:=by
 (refine Spec.intro (C:=T.cfg [] []) (rs:= [.t 4]) (T.ak _ _) Tryz.func144 rfl rfl Tryz.ntmps144 Tryz.results144 (by simp [AObj.isNest]) (by simp [AObj.isNest]) (by kernel_rfl) ?_;intro X hX hP hC aK aL vals hA;refine ⟨_,by simp,hA, ?_⟩;have af:X.P.follows .mixedOrders=true:=(by rw [hP];exact T.mixed);clear aK aL)
 repeat' (first|fail|((first|((with_reducible (first|apply oA|apply oB));exact rfl;intro K hK)|(refine hK _ ?_;clear hK K)|((with_reducible (first|apply oG|apply oH));iterate 3 exact rfl)|((with_reducible apply oI);(iterate 2 exact rfl);intro K hK)|(with_reducible (first|apply wI|apply wJ|apply wK)));try simp only [go_sem,simprocAttr])|fail|(with_reducible (first|apply oC|apply oJ|exact oK|apply wA|apply wB|apply wC hX hC|apply wD hX hC|apply wE hX hC af|apply wF hX hC af|apply wG|apply wH|apply And.intro))|((with_reducible refine oD ?_ ?_);first|fail|kernel_rfl)|((with_reducible (first|apply oE|apply oF));(iterate 3 exact rfl);all_goals (intro h;first|(exact absurd h (by decide))|((try simp only [go_sem,simprocAttr] at h);(try with_reducible intro K hK);simp only [go_sem,simprocAttr])))|((first|((with_reducible apply wL);exact rfl)|((with_reducible apply wM);exact rfl));all_goals (try ((with_reducible intro h);first|(exact absurd h (by decide))|(try simp only [go_sem,simprocAttr] at h))))|omega|((first|fail);try simp only [go_sem,simprocAttr])|(intro h))
 refine aj (fun k:Nat=>k≤ps.length∧∀j,j<k→decide (x=ps.getD j 0)=false) (fun k=>⟨[(0, .d (sI ps)),(1,eN x),(5,eN k)], []⟩) (fun k=>ps.length - k) 0 (by simp) ?_ ?_
 ·(refine ⟨bV ?_,fun _ _ h=>h⟩;simp [go_sem,simprocAttr])
 rintro k ⟨hk,hg⟩
 repeat' (first|fail|((first|((with_reducible (first|apply oA|apply oB));exact rfl;intro K hK)|(refine hK _ ?_;clear hK K)|((with_reducible (first|apply oG|apply oH));iterate 3 exact rfl)|((with_reducible apply oI);(iterate 2 exact rfl);intro K hK)|(with_reducible (first|apply wI|apply wJ|apply wK)));try simp only [go_sem,simprocAttr])|fail|(with_reducible (first|apply oC|apply oJ|exact oK|apply wA|apply wB|apply wC hX hC|apply wD hX hC|apply wE hX hC af|apply wF hX hC af|apply wG|apply wH|apply And.intro))|((with_reducible refine oD ?_ ?_);first|fail|kernel_rfl)|((with_reducible (first|apply oE|apply oF));(iterate 3 exact rfl);all_goals (intro h;first|(exact absurd h (by decide))|((try simp only [go_sem,simprocAttr] at h);(try with_reducible intro K hK);simp only [go_sem,simprocAttr])))|((first|((with_reducible apply wL);exact rfl)|((with_reducible apply wM);exact rfl));all_goals (try ((with_reducible intro h);first|(exact absurd h (by decide))|(try simp only [go_sem,simprocAttr] at h))))|omega|((first|fail);try simp only [go_sem,simprocAttr])|(intro h))
 ·exact (cZ (by omega) hg (by simpa using h.symm)).symm
 ·refine ⟨k+1,⟨by omega,fun j hj=> ?_⟩, ?_,by omega⟩
  ·by_cases hjk:j=k
   ·subst hjk;exact fun e=>h (Eq.symm e)
   ·simpa using hg j (by omega)
  ·(refine ⟨bV ?_,fun _ _ h=>h⟩;simp [go_sem,simprocAttr])
 ·exact (b9 0 fun j hj=>hg j (by omega)).symm
def aJ (f:Edge→Int) (es:List Edge) (k:Nat) (x:Int):List Int:=((List.range k).filter fun i=>decide (f (es.getD i (0,0))=x)).map Int.ofNat
theorem kf (f:Edge→Int) (es:List Edge) (k x:Nat):ej f es k x=aJ f es k (x:Int):=rfl
theorem gy {f:Edge→Int} {es:List Edge} {k:Nat} {x:Int} :(aJ f es k x).length≤k:=by
 simpa [aJ] using List.length_filter_le (fun i=>decide (f (es.getD i (0,0))=x)) (List.range k)
theorem qS {f:Edge→Int} {es:List Edge} {k:Nat} {x:Int} :aJ f es (k+1) x=aJ f es k x++if f (es.getD k (0,0))=x then [(k:Int)] else []:=by
 simp only [aJ,List.range_succ,List.filter_append,List.map_append,List.filter_cons,List.filter_nil]
 split<;>simp_all
def k5 (b:Bool) (e:Edge):Int:=if b then e.1 else e.2
theorem nQ (g:Gr) (x:Int) (b:Bool) (hl:g.es.length≤1000):Spec Tryz.prog 71 (Args [eG g,eN x,eB b]) [] (.d (sI (aJ (k5 b) g.es g.es.length x))) []:=by
 (refine Spec.intro (C:=T.cfg [] []) (rs:= [.t 6]) (T.ak _ _) Tryz.func71 rfl rfl Tryz.ntmps71 Tryz.results71 (by simp [AObj.isNest]) (by simp [AObj.isNest]) (by kernel_rfl) ?_;intro X hX hP hC aK aL vals hA;refine ⟨_,by simp,hA, ?_⟩;have af:X.P.follows .mixedOrders=true:=(by rw [hP];exact T.mixed);clear aK aL)
 repeat' (first|fail|((first|((with_reducible (first|apply oA|apply oB));exact rfl;intro K hK)|(refine hK _ ?_;clear hK K)|((with_reducible (first|apply oG|apply oH));iterate 3 exact rfl)|((with_reducible apply oI);(iterate 2 exact rfl);intro K hK)|(with_reducible (first|apply wI|apply wJ|apply wK)));try simp only [go_sem,simprocAttr])|fail|(with_reducible (first|apply oC|apply oJ|exact oK|apply wA|apply wB|apply wC hX hC|apply wD hX hC|apply wE hX hC af|apply wF hX hC af|apply wG|apply wH|apply And.intro))|((with_reducible refine oD ?_ ?_);first|fail|kernel_rfl)|((with_reducible (first|apply oE|apply oF));(iterate 3 exact rfl);all_goals (intro h;first|(exact absurd h (by decide))|((try simp only [go_sem,simprocAttr] at h);(try with_reducible intro K hK);simp only [go_sem,simprocAttr])))|((first|((with_reducible apply wL);exact rfl)|((with_reducible apply wM);exact rfl));all_goals (try ((with_reducible intro h);first|(exact absurd h (by decide))|(try simp only [go_sem,simprocAttr] at h))))|omega|((first|fail);try simp only [go_sem,simprocAttr])|(intro h))
 (refine qL hX 7 9 45 (by simp only [go_sem,simprocAttr]) rfl (by first|exact .inl rfl|exact .inr rfl) (by decide) ?_;simp only [go_sem,simprocAttr])
 refine aj (fun k:Nat=>k≤g.es.length) (fun k=>⟨[(1,eN x),(2,eB b),(3, .ptr 3 0),(8,eN k),(7, .ref 45)], [(3, .box [eN g.n, .d (sE g.es)]),(45, .tip 3 1 ((aJ (k5 b) g.es k x).map rI))]⟩) (fun k=>g.es.length - k) 0 (by simp) ?_ ?_
 ·refine Le.of ?_ ?_<;>simp [go_sem,simprocAttr,aJ]
 rintro k hk
 rcases Nat.lt_or_ge k g.es.length with hlt|hge
 ·have hb:decide ((k:Int)<(g.es.length:Int))=true:=decide_eq_true (by omega)
  have lB:=gy (f:=k5 b) (es:=g.es) (k:=k) (x:=x)
  cases b
  ·have fc:aJ (k5 false) g.es (k+1) x=aJ (k5 false) g.es k x++if (g.es.getD k (0,0)).2=x then [(k:Int)] else []:=qS
   repeat' (first|fail|((first|((with_reducible (first|apply oA|apply oB));exact rfl;intro K hK)|(refine hK _ ?_;clear hK K)|((with_reducible (first|apply oG|apply oH));iterate 3 exact rfl)|((with_reducible apply oI);(iterate 2 exact rfl);intro K hK)|(with_reducible (first|apply wI|apply wJ|apply wK)));try simp only [go_sem,simprocAttr,hb])|fail|(with_reducible (first|apply oC|apply oJ|exact oK|apply wA|apply wB|apply wC hX hC|apply wD hX hC|apply wE hX hC af|apply wF hX hC af|apply wG|apply wH|apply And.intro))|((with_reducible refine oD ?_ ?_);first|fail|kernel_rfl)|((with_reducible (first|apply oE|apply oF));(iterate 3 exact rfl);all_goals (intro h;first|(exact absurd h (by decide))|((try simp only [go_sem,simprocAttr,hb] at h);(try with_reducible intro K hK);simp only [go_sem,simprocAttr,hb])))|((first|((with_reducible apply wL);exact rfl)|((with_reducible apply wM);exact rfl));all_goals (try ((with_reducible intro h);first|(exact absurd h (by decide))|(try simp only [go_sem,simprocAttr,hb] at h))))|omega|((first|fail);try simp only [go_sem,simprocAttr,hb])|(intro h))
   all_goals (first|rw [if_pos (by assumption)] at fc|rw [if_neg (by assumption),List.append_nil] at fc)
   all_goals (refine ⟨k+1,by omega, ?_,by omega⟩;refine Le.of ?_ ?_<;>simp [go_sem,simprocAttr,hb,fc,rI])
  ·have fc:aJ (k5 true) g.es (k+1) x=aJ (k5 true) g.es k x++if (g.es.getD k (0,0)).1=x then [(k:Int)] else []:=qS
   repeat' (first|fail|((first|((with_reducible (first|apply oA|apply oB));exact rfl;intro K hK)|(refine hK _ ?_;clear hK K)|((with_reducible (first|apply oG|apply oH));iterate 3 exact rfl)|((with_reducible apply oI);(iterate 2 exact rfl);intro K hK)|(with_reducible (first|apply wI|apply wJ|apply wK)));try simp only [go_sem,simprocAttr,hb])|fail|(with_reducible (first|apply oC|apply oJ|exact oK|apply wA|apply wB|apply wC hX hC|apply wD hX hC|apply wE hX hC af|apply wF hX hC af|apply wG|apply wH|apply And.intro))|((with_reducible refine oD ?_ ?_);first|fail|kernel_rfl)|((with_reducible (first|apply oE|apply oF));(iterate 3 exact rfl);all_goals (intro h;first|(exact absurd h (by decide))|((try simp only [go_sem,simprocAttr,hb] at h);(try with_reducible intro K hK);simp only [go_sem,simprocAttr,hb])))|((first|((with_reducible apply wL);exact rfl)|((with_reducible apply wM);exact rfl));all_goals (try ((with_reducible intro h);first|(exact absurd h (by decide))|(try simp only [go_sem,simprocAttr,hb] at h))))|omega|((first|fail);try simp only [go_sem,simprocAttr,hb])|(intro h))
   all_goals (first|rw [if_pos (by assumption)] at fc|rw [if_neg (by assumption),List.append_nil] at fc)
   all_goals (refine ⟨k+1,by omega, ?_,by omega⟩;refine Le.of ?_ ?_<;>simp [go_sem,simprocAttr,hb,fc,rI])
 ·have hb:decide ((k:Int)<(g.es.length:Int))=false:=decide_eq_false (by omega)
  obtain rfl:k=g.es.length:=by omega
  repeat' (first|fail|((first|((with_reducible (first|apply oA|apply oB));exact rfl;intro K hK)|(refine hK _ ?_;clear hK K)|((with_reducible (first|apply oG|apply oH));iterate 3 exact rfl)|((with_reducible apply oI);(iterate 2 exact rfl);intro K hK)|(with_reducible (first|apply wI|apply wJ|apply wK)));try simp only [go_sem,simprocAttr,hb])|fail|(with_reducible (first|apply oC|apply oJ|exact oK|apply wA|apply wB|apply wC hX hC|apply wD hX hC|apply wE hX hC af|apply wF hX hC af|apply wG|apply wH|apply And.intro))|((with_reducible refine oD ?_ ?_);first|fail|kernel_rfl)|((with_reducible (first|apply oE|apply oF));(iterate 3 exact rfl);all_goals (intro h;first|(exact absurd h (by decide))|((try simp only [go_sem,simprocAttr,hb] at h);(try with_reducible intro K hK);simp only [go_sem,simprocAttr,hb])))|((first|((with_reducible apply wL);exact rfl)|((with_reducible apply wM);exact rfl));all_goals (try ((with_reducible intro h);first|(exact absurd h (by decide))|(try simp only [go_sem,simprocAttr,hb] at h))))|omega|((first|fail);try simp only [go_sem,simprocAttr,hb])|(intro h))
theorem cy (g:Gr) (b:Bool) (hl:g.es.length≤1000) (hn:0≤g.n∧g.n≤1000):Spec Tryz.prog 38 (Args [eG g,eB b]) [] (.d (sI (bB (k5 (!b)) g))) []:=by
 (refine Spec.intro (C:=T.cfg [] []) (rs:= [.t 4]) (T.ak _ _) Tryz.func38 rfl rfl Tryz.ntmps38 Tryz.results38 (by simp [AObj.isNest]) (by simp [AObj.isNest]) (by kernel_rfl) ?_;intro X hX hP hC aK aL vals hA;refine ⟨_,by simp,hA, ?_⟩;have af:X.P.follows .mixedOrders=true:=(by rw [hP];exact T.mixed);clear aK aL)
 repeat' (first|fail|((first|((with_reducible (first|apply oA|apply oB));exact rfl;intro K hK)|(refine hK _ ?_;clear hK K)|((with_reducible (first|apply oG|apply oH));iterate 3 exact rfl)|((with_reducible apply oI);(iterate 2 exact rfl);intro K hK)|(with_reducible (first|apply wI|apply wJ|apply wK)));try simp only [go_sem,simprocAttr])|fail|(with_reducible (first|apply oC|apply oJ|exact oK|apply wA|apply wB|apply wC hX hC|apply wD hX hC|apply wE hX hC af|apply wF hX hC af|apply wG|apply wH|apply And.intro))|((with_reducible refine oD ?_ ?_);first|fail|kernel_rfl)|((with_reducible (first|apply oE|apply oF));(iterate 3 exact rfl);all_goals (intro h;first|(exact absurd h (by decide))|((try simp only [go_sem,simprocAttr] at h);(try with_reducible intro K hK);simp only [go_sem,simprocAttr])))|((first|((with_reducible apply wL);exact rfl)|((with_reducible apply wM);exact rfl));all_goals (try ((with_reducible intro h);first|(exact absurd h (by decide))|(try simp only [go_sem,simprocAttr] at h))))|omega|((first|refine aa hX hC hP (nQ g (k:Int) (!b) hl) rfl rfl rfl (by simp only [go_sem,simprocAttr]) rfl ?_);try simp only [go_sem,simprocAttr])|(intro h))
 (refine qL hX 5 7 24 (by simp only [go_sem,simprocAttr]) rfl (by first|exact .inl rfl|exact .inr rfl) (by decide) ?_;simp only [go_sem,simprocAttr])
 refine aj (fun k:Nat=>k≤g.n.toNat) (fun k=>⟨[(1,eB b),(2, .ptr 2 0),(6,eN k),(5, .ref 24)], [(2, .box [eN g.n, .d (sE g.es)]),(24, .tip 3 1 ((gG (cD (k5 (!b)) g) k).map rI))]⟩) (fun k=>g.n.toNat - k) 0 (by simp) ?_ ?_
 ·refine Le.of ?_ ?_<;>simp [go_sem,simprocAttr,gG]
 rintro k hk
 rcases Nat.lt_or_ge k g.n.toNat with hlt|hge
 ·have hb:decide ((k:Int)<g.n)=true:=decide_eq_true (by omega)
  have lB:=sX (ls:=cD (k5 (!b)) g) (k:=k)
  have he:(cD (k5 (!b)) g).getD k []=aJ (k5 (!b)) g.es g.es.length (k:Int):=by
   simp [cD,List.getD_eq_getElem?_getD,List.getElem?_range hlt,kf]
  have fc:=lR (ls:=cD (k5 (!b)) g) (k:=k)
  rw [he] at fc
  repeat' (first|fail|((first|((with_reducible (first|apply oA|apply oB));exact rfl;intro K hK)|(refine hK _ ?_;clear hK K)|((with_reducible (first|apply oG|apply oH));iterate 3 exact rfl)|((with_reducible apply oI);(iterate 2 exact rfl);intro K hK)|(with_reducible (first|apply wI|apply wJ|apply wK)));try simp only [go_sem,simprocAttr,hb])|fail|(with_reducible (first|apply oC|apply oJ|exact oK|apply wA|apply wB|apply wC hX hC|apply wD hX hC|apply wE hX hC af|apply wF hX hC af|apply wG|apply wH|apply And.intro))|((with_reducible refine oD ?_ ?_);first|fail|kernel_rfl)|((with_reducible (first|apply oE|apply oF));(iterate 3 exact rfl);all_goals (intro h;first|(exact absurd h (by decide))|((try simp only [go_sem,simprocAttr,hb] at h);(try with_reducible intro K hK);simp only [go_sem,simprocAttr,hb])))|((first|((with_reducible apply wL);exact rfl)|((with_reducible apply wM);exact rfl));all_goals (try ((with_reducible intro h);first|(exact absurd h (by decide))|(try simp only [go_sem,simprocAttr,hb] at h))))|omega|((first|refine aa hX hC hP (nQ g (k:Int) (!b) hl) rfl rfl rfl (by simp only [go_sem,simprocAttr,hb]) rfl ?_);try simp only [go_sem,simprocAttr,hb])|(intro h))
  all_goals (first|rw [if_pos (by omega)] at fc|rw [if_neg (by omega),List.append_nil] at fc)
  all_goals (refine ⟨k+1,by omega, ?_,by omega⟩;refine Le.of ?_ ?_<;>simp [go_sem,simprocAttr,hb,fc,rI])
 ·have hb:decide ((k:Int)<g.n)=false:=decide_eq_false (by omega)
  obtain rfl:k=g.n.toNat:=by omega
  repeat' (first|fail|((first|((with_reducible (first|apply oA|apply oB));exact rfl;intro K hK)|(refine hK _ ?_;clear hK K)|((with_reducible (first|apply oG|apply oH));iterate 3 exact rfl)|((with_reducible apply oI);(iterate 2 exact rfl);intro K hK)|(with_reducible (first|apply wI|apply wJ|apply wK)));try simp only [go_sem,simprocAttr,hb])|fail|(with_reducible (first|apply oC|apply oJ|exact oK|apply wA|apply wB|apply wC hX hC|apply wD hX hC|apply wE hX hC af|apply wF hX hC af|apply wG|apply wH|apply And.intro))|((with_reducible refine oD ?_ ?_);first|fail|kernel_rfl)|((with_reducible (first|apply oE|apply oF));(iterate 3 exact rfl);all_goals (intro h;first|(exact absurd h (by decide))|((try simp only [go_sem,simprocAttr,hb] at h);(try with_reducible intro K hK);simp only [go_sem,simprocAttr,hb])))|((first|((with_reducible apply wL);exact rfl)|((with_reducible apply wM);exact rfl));all_goals (try ((with_reducible intro h);first|(exact absurd h (by decide))|(try simp only [go_sem,simprocAttr,hb] at h))))|omega|((first|refine aa hX hC hP (nQ g (k:Int) (!b) hl) rfl rfl rfl (by simp only [go_sem,simprocAttr,hb]) rfl ?_);try simp only [go_sem,simprocAttr,hb])|(intro h))
  rfl
end Go.Ab
end
section
namespace Go.Ab
open Go.Proofs
attribute [local congr] ACall.congr
set_option maxRecDepth 10000
def rB (b:Bool):List D:= [.sc (.bool b)]
def sB (l:List Bool):D:= .sl 1 (l.map rB)
theorem getD_rB (l:List Bool) (i:Nat):(l.map rB).getD i [.sc (.bool false)]= [.sc (.bool (l.getD i false))]:=by
 simp only [List.getD_eq_getElem?_getD,List.getElem?_map]
 cases l[i]? <;>rfl
attribute [go_sem] getD_rB sB
theorem eS (l:List Bool) (k:Nat) (v:Bool):(l.map rB).set k [.sc (.bool v)]=(l.set k v).map rB:=by
 rw [List.map_set];rfl
theorem s5 {α:Type} {n k:Nat} {f:Nat→α} {v:α} :((List.range n).map f).set k v=(List.range n).map fun y=>if y=k then v else f y:=by
 refine List.ext_getElem? fun i=> ?_
 rw [List.getElem?_set,List.length_map,List.length_range]
 by_cases hi:i<n
 ·rw [List.getElem?_map,List.getElem?_map,List.getElem?_range hi]
  by_cases h:k=i
  ·subst h;simp [hi]
  ·have:¬i=k:=fun e=>h e.symm
   simp [h,this]
 ·rw [List.getElem?_eq_none (by simp;omega),List.getElem?_eq_none (by simp;omega)]
  split
  ·rw [if_neg (by omega)]
  ·rfl
def kg (n k:Nat):List Bool:=(List.range n).map fun y=>decide (y<k)
def dP (g:Gr) (l:List Bool) (j:Nat):List Bool:=(List.range g.n.toNat).map fun y:Nat=>(List.range j).any fun i=>decide (hd g i=(y:Int))&&(l.getD (tl g i).toNat false&&l.getD (hd g i).toNat false)
def er (g:Gr):Nat→List Bool
 |0=>kg g.n.toNat g.n.toNat
 |k+1=>dP g (er g k) g.es.length
theorem trueK_length {n k:Nat} :(kg n k).length=n:=by simp [kg]
theorem nextK_length {g:Gr} {l:List Bool} {j:Nat} :(dP g l j).length=g.n.toNat:=by simp [dP]
theorem leftK_length {g:Gr} {k:Nat} :(er g k).length=g.n.toNat:=by
 cases k
 ·exact trueK_length
 ·exact nextK_length
theorem xH {n:Nat} :List.replicate n [D.sc (.bool false)]=(kg n 0).map rB:=by
 refine List.ext_getElem? fun i=> ?_
 by_cases hi:i<n
 ·simp [kg,hi,rB,List.getElem?_range hi]
 ·rw [List.getElem?_eq_none (by simp;omega),List.getElem?_eq_none (by simp [kg];omega)]
theorem dZ {n k:Nat} :(kg n k).set k true=kg n (k+1):=by
 unfold kg;rw [s5]
 refine List.map_congr_left fun y _=> ?_
 split
 ·rename_i h;subst h;simp
 ·rename_i h
  rw [Bool.eq_iff_iff];simp;omega
theorem xI {g:Gr} {l:List Bool} :List.replicate g.n.toNat [D.sc (.bool false)]=(dP g l 0).map rB:=by
 refine List.ext_getElem? fun i=> ?_
 by_cases hi:i<g.n.toNat
 ·simp [dP,hi,rB,List.getElem?_range hi]
 ·rw [List.getElem?_eq_none (by simp;omega),List.getElem?_eq_none (by simp [dP];omega)]
theorem zL {g:Gr} {l:List Bool} {j:Nat} (h0:0≤hd g j) (h:(l.getD (tl g j).toNat false&&l.getD (hd g j).toNat false)=true):(dP g l j).set (hd g j).toNat true=dP g l (j+1):=by
 unfold dP;rw [s5]
 refine List.map_congr_left fun y _=> ?_
 rw [List.range_succ,List.any_append]
 simp only [List.any_cons,List.any_nil,h,Bool.and_true,Bool.or_false]
 split
 ·rename_i e
  have:hd g j=(y:Int):=by omega
  simp [this]
 ·rename_i e
  have:¬hd g j=(y:Int):=by omega
  simp [this]
theorem BJ {g:Gr} {l:List Bool} {j:Nat} (h:(l.getD (tl g j).toNat false&&l.getD (hd g j).toNat false)=false):dP g l j=dP g l (j+1):=by
 unfold dP
 refine List.map_congr_left fun y _=> ?_
 rw [List.range_succ,List.any_append]
 simp only [List.any_cons,List.any_nil,h,Bool.and_false,Bool.or_false]
attribute [go_sem] trueK_length nextK_length leftK_length
theorem cq (g:Gr) (hm:aO g=true):Spec Tryz.prog 143 (Args [eG g]) [] (.d (sB (er g g.n.toNat))) []:=by
 have hn:=aW hm
 (refine Spec.intro (C:=T.cfg [] []) (rs:= [.t 2]) (T.ak _ _) Tryz.func143 rfl rfl Tryz.ntmps143 Tryz.results143 (by simp [AObj.isNest]) (by simp [AObj.isNest]) (by kernel_rfl) ?_;intro X hX hP hC aK aL vals hA;refine ⟨_,by simp,hA, ?_⟩;have af:X.P.follows .mixedOrders=true:=(by rw [hP];exact T.mixed);clear aK aL)
 repeat' (first|fail|((first|((with_reducible (first|apply oA|apply oB));exact rfl;intro K hK)|(refine hK _ ?_;clear hK K)|((with_reducible (first|apply oG|apply oH));iterate 3 exact rfl)|((with_reducible apply oI);(iterate 2 exact rfl);intro K hK)|(with_reducible (first|apply wI|apply wJ|apply wK)));try simp only [go_sem,simprocAttr])|first|(show cV _ (.seq (.region 6 _ _) _) _ _;(refine cU hX 11 rfl (.inl rfl) ?_;simp only [go_sem,simprocAttr]))|(show cV _ (.region 8 _ _) _ _;(refine cU hX 29 rfl (.inl rfl) ?_;simp only [go_sem,simprocAttr]))|(with_reducible (first|apply oC|apply oJ|exact oK|apply wA|apply wB|apply wC hX hC|apply wD hX hC|apply wE hX hC af|apply wF hX hC af|apply wG|apply wH|apply And.intro))|((with_reducible refine oD ?_ ?_);first|fail|kernel_rfl)|((with_reducible (first|apply oE|apply oF));(iterate 3 exact rfl);all_goals (intro h;first|(exact absurd h (by decide))|((try simp only [go_sem,simprocAttr] at h);(try with_reducible intro K hK);simp only [go_sem,simprocAttr])))|((first|((with_reducible apply wL);exact rfl)|((with_reducible apply wM);exact rfl));all_goals (try ((with_reducible intro h);first|(exact absurd h (by decide))|(try simp only [go_sem,simprocAttr] at h))))|omega|((first|fail);try simp only [go_sem,simprocAttr])|(intro h))
 refine aj (fun k:Nat=>k≤g.n.toNat) (fun k=>⟨[(1, .ptr 1 0),(4,eN k),(3, .ref 11)], [(1, .box [eN g.n, .d (sE g.es)]),(11, .own 4 1 ((kg g.n.toNat k).map rB))]⟩) (fun k=>g.n.toNat - k) 0 (by simp) ?_ ?_
 ·refine Le.of ?_ ?_<;>simp [go_sem,simprocAttr]
  exact xH
 rintro k hk
 rcases Nat.lt_or_ge k g.n.toNat with hlt|hge
 ·have hb:decide ((k:Int)<g.n)=true:=decide_eq_true (by omega)
  repeat' (first|fail|((first|((with_reducible (first|apply oA|apply oB));exact rfl;intro K hK)|(refine hK _ ?_;clear hK K)|((with_reducible (first|apply oG|apply oH));iterate 3 exact rfl)|((with_reducible apply oI);(iterate 2 exact rfl);intro K hK)|(with_reducible (first|apply wI|apply wJ|apply wK)));try simp only [go_sem,simprocAttr,hb,eS,dZ])|first|(show cV _ (.seq (.region 6 _ _) _) _ _;(refine cU hX 11 rfl (.inl rfl) ?_;simp only [go_sem,simprocAttr,hb,eS,dZ]))|(show cV _ (.region 8 _ _) _ _;(refine cU hX 29 rfl (.inl rfl) ?_;simp only [go_sem,simprocAttr,hb,eS,dZ]))|(with_reducible (first|apply oC|apply oJ|exact oK|apply wA|apply wB|apply wC hX hC|apply wD hX hC|apply wE hX hC af|apply wF hX hC af|apply wG|apply wH|apply And.intro))|((with_reducible refine oD ?_ ?_);first|fail|kernel_rfl)|((with_reducible (first|apply oE|apply oF));(iterate 3 exact rfl);all_goals (intro h;first|(exact absurd h (by decide))|((try simp only [go_sem,simprocAttr,hb,eS,dZ] at h);(try with_reducible intro K hK);simp only [go_sem,simprocAttr,hb,eS,dZ])))|((first|((with_reducible apply wL);exact rfl)|((with_reducible apply wM);exact rfl));all_goals (try ((with_reducible intro h);first|(exact absurd h (by decide))|(try simp only [go_sem,simprocAttr,hb,eS,dZ] at h))))|omega|((first|fail);try simp only [go_sem,simprocAttr,hb,eS,dZ])|(intro h))
  refine ⟨k+1,by omega, ?_,by omega⟩
  (refine Le.of ?_ ?_<;>simp [go_sem,simprocAttr])
 ·have hb:decide ((k:Int)<g.n)=false:=decide_eq_false (by omega)
  obtain rfl:k=g.n.toNat:=by omega
  repeat' (first|fail|((first|((with_reducible (first|apply oA|apply oB));exact rfl;intro K hK)|(refine hK _ ?_;clear hK K)|((with_reducible (first|apply oG|apply oH));iterate 3 exact rfl)|((with_reducible apply oI);(iterate 2 exact rfl);intro K hK)|(with_reducible (first|apply wI|apply wJ|apply wK)));try simp only [go_sem,simprocAttr,hb])|first|(show cV _ (.seq (.region 6 _ _) _) _ _;(refine cU hX 11 rfl (.inl rfl) ?_;simp only [go_sem,simprocAttr,hb]))|(show cV _ (.region 8 _ _) _ _;(refine cU hX 29 rfl (.inl rfl) ?_;simp only [go_sem,simprocAttr,hb]))|(with_reducible (first|apply oC|apply oJ|exact oK|apply wA|apply wB|apply wC hX hC|apply wD hX hC|apply wE hX hC af|apply wF hX hC af|apply wG|apply wH|apply And.intro))|((with_reducible refine oD ?_ ?_);first|fail|kernel_rfl)|((with_reducible (first|apply oE|apply oF));(iterate 3 exact rfl);all_goals (intro h;first|(exact absurd h (by decide))|((try simp only [go_sem,simprocAttr,hb] at h);(try with_reducible intro K hK);simp only [go_sem,simprocAttr,hb])))|((first|((with_reducible apply wL);exact rfl)|((with_reducible apply wM);exact rfl));all_goals (try ((with_reducible intro h);first|(exact absurd h (by decide))|(try simp only [go_sem,simprocAttr,hb] at h))))|omega|((first|fail);try simp only [go_sem,simprocAttr,hb])|(intro h))
  clear hb hk hge
  refine aj (fun k:Nat=>k≤g.n.toNat) (fun k=>⟨[(1, .ptr 1 0),(5,eN k),(3, .d (sB (er g k)))], [(1, .box [eN g.n, .d (sE g.es)])]⟩) (fun k=>g.n.toNat - k) 0 (by simp) ?_ ?_
  ·refine Le.of ?_ ?_<;>simp [go_sem,simprocAttr,er]
  rintro k hk
  rcases Nat.lt_or_ge k g.n.toNat with hlt|hge
  ·have hb:decide ((k:Int)<g.n)=true:=decide_eq_true (by omega)
   repeat' (first|fail|((first|((with_reducible (first|apply oA|apply oB));exact rfl;intro K hK)|(refine hK _ ?_;clear hK K)|((with_reducible (first|apply oG|apply oH));iterate 3 exact rfl)|((with_reducible apply oI);(iterate 2 exact rfl);intro K hK)|(with_reducible (first|apply wI|apply wJ|apply wK)));try simp only [go_sem,simprocAttr,hb])|first|(show cV _ (.seq (.region 6 _ _) _) _ _;(refine cU hX 11 rfl (.inl rfl) ?_;simp only [go_sem,simprocAttr,hb]))|(show cV _ (.region 8 _ _) _ _;(refine cU hX 29 rfl (.inl rfl) ?_;simp only [go_sem,simprocAttr,hb]))|(with_reducible (first|apply oC|apply oJ|exact oK|apply wA|apply wB|apply wC hX hC|apply wD hX hC|apply wE hX hC af|apply wF hX hC af|apply wG|apply wH|apply And.intro))|((with_reducible refine oD ?_ ?_);first|fail|kernel_rfl)|((with_reducible (first|apply oE|apply oF));(iterate 3 exact rfl);all_goals (intro h;first|(exact absurd h (by decide))|((try simp only [go_sem,simprocAttr,hb] at h);(try with_reducible intro K hK);simp only [go_sem,simprocAttr,hb])))|((first|((with_reducible apply wL);exact rfl)|((with_reducible apply wM);exact rfl));all_goals (try ((with_reducible intro h);first|(exact absurd h (by decide))|(try simp only [go_sem,simprocAttr,hb] at h))))|omega|((first|fail);try simp only [go_sem,simprocAttr,hb])|(intro h))
   refine aj (fun j:Nat=>j≤g.es.length) (fun j=>⟨[(1, .ptr 1 0),(5,eN k),(3, .d (sB (er g k))),(7,eN j),(6, .ref 29)], [(1, .box [eN g.n, .d (sE g.es)]),(29, .own 4 1 ((dP g (er g k) j).map rB))]⟩) (fun j=>g.es.length - j) 0 (by simp) ?_ ?_
   ·refine Le.of ?_ ?_<;>simp [go_sem,simprocAttr]
    exact xI
   rintro j hj
   rcases Nat.lt_or_ge j g.es.length with hjl|F4
   ·have an:decide ((j:Int)<(g.es.length:Int))=true:=decide_eq_true (by omega)
    obtain ⟨⟨DD,sM⟩,⟨w5,tY⟩⟩:=c9 hm hjl
    repeat' (first|fail|((first|((with_reducible (first|apply oA|apply oB));exact rfl;intro K hK)|(refine hK _ ?_;clear hK K)|((with_reducible (first|apply oG|apply oH));iterate 3 exact rfl)|((with_reducible apply oI);(iterate 2 exact rfl);intro K hK)|(with_reducible (first|apply wI|apply wJ|apply wK)));try simp only [go_sem,simprocAttr,an,eS])|first|(show cV _ (.seq (.region 6 _ _) _) _ _;(refine cU hX 11 rfl (.inl rfl) ?_;simp only [go_sem,simprocAttr,an,eS]))|(show cV _ (.region 8 _ _) _ _;(refine cU hX 29 rfl (.inl rfl) ?_;simp only [go_sem,simprocAttr,an,eS]))|(with_reducible (first|apply oC|apply oJ|exact oK|apply wA|apply wB|apply wC hX hC|apply wD hX hC|apply wE hX hC af|apply wF hX hC af|apply wG|apply wH|apply And.intro))|((with_reducible refine oD ?_ ?_);first|fail|kernel_rfl)|((with_reducible (first|apply oE|apply oF));(iterate 3 exact rfl);all_goals (intro h;first|(exact absurd h (by decide))|((try simp only [go_sem,simprocAttr,an,eS] at h);(try with_reducible intro K hK);simp only [go_sem,simprocAttr,an,eS])))|((first|((with_reducible apply wL);exact rfl)|((with_reducible apply wM);exact rfl));all_goals (try ((with_reducible intro h);first|(exact absurd h (by decide))|(try simp only [go_sem,simprocAttr,an,eS] at h))))|omega|((first|fail);try simp only [go_sem,simprocAttr,an,eS])|(intro h))
    ·have hy:(dP g (er g k) j).set (g.es.getD j (0,0)).2.toNat true=dP g (er g k) (j+1):=zL w5 (by rw [Bool.and_eq_true];exact ⟨by assumption,by assumption⟩)
     refine ⟨j+1,by omega, ?_,by omega⟩
     refine Le.of ?_ ?_<;>simp [go_sem,simprocAttr]
     rw [← hy,List.map_set];rfl
    all_goals (
     have hy:dP g (er g k) j=dP g (er g k) (j+1):=BJ (Bool.and_eq_false_iff.2 (by first|exact .inl (by assumption)|exact .inr (by assumption)))
     refine ⟨j+1,by omega, ?_,by omega⟩
     refine Le.of ?_ ?_<;>simp [go_sem,simprocAttr, ← hy])
   ·have an:decide ((j:Int)<(g.es.length:Int))=false:=decide_eq_false (by omega)
    obtain rfl:j=g.es.length:=by omega
    repeat' (first|fail|((first|((with_reducible (first|apply oA|apply oB));exact rfl;intro K hK)|(refine hK _ ?_;clear hK K)|((with_reducible (first|apply oG|apply oH));iterate 3 exact rfl)|((with_reducible apply oI);(iterate 2 exact rfl);intro K hK)|(with_reducible (first|apply wI|apply wJ|apply wK)));try simp only [go_sem,simprocAttr,an])|first|(show cV _ (.seq (.region 6 _ _) _) _ _;(refine cU hX 11 rfl (.inl rfl) ?_;simp only [go_sem,simprocAttr,an]))|(show cV _ (.region 8 _ _) _ _;(refine cU hX 29 rfl (.inl rfl) ?_;simp only [go_sem,simprocAttr,an]))|(with_reducible (first|apply oC|apply oJ|exact oK|apply wA|apply wB|apply wC hX hC|apply wD hX hC|apply wE hX hC af|apply wF hX hC af|apply wG|apply wH|apply And.intro))|((with_reducible refine oD ?_ ?_);first|fail|kernel_rfl)|((with_reducible (first|apply oE|apply oF));(iterate 3 exact rfl);all_goals (intro h;first|(exact absurd h (by decide))|((try simp only [go_sem,simprocAttr,an] at h);(try with_reducible intro K hK);simp only [go_sem,simprocAttr,an])))|((first|((with_reducible apply wL);exact rfl)|((with_reducible apply wM);exact rfl));all_goals (try ((with_reducible intro h);first|(exact absurd h (by decide))|(try simp only [go_sem,simprocAttr,an] at h))))|omega|((first|fail);try simp only [go_sem,simprocAttr,an])|(intro h))
    refine ⟨k+1,by omega, ?_,by omega⟩
    refine Le.of ?_ ?_<;>simp [go_sem,simprocAttr,er]
  ·have hb:decide ((k:Int)<g.n)=false:=decide_eq_false (by omega)
   obtain rfl:k=g.n.toNat:=by omega
   repeat' (first|fail|((first|((with_reducible (first|apply oA|apply oB));exact rfl;intro K hK)|(refine hK _ ?_;clear hK K)|((with_reducible (first|apply oG|apply oH));iterate 3 exact rfl)|((with_reducible apply oI);(iterate 2 exact rfl);intro K hK)|(with_reducible (first|apply wI|apply wJ|apply wK)));try simp only [go_sem,simprocAttr,hb])|first|(show cV _ (.seq (.region 6 _ _) _) _ _;(refine cU hX 11 rfl (.inl rfl) ?_;simp only [go_sem,simprocAttr,hb]))|(show cV _ (.region 8 _ _) _ _;(refine cU hX 29 rfl (.inl rfl) ?_;simp only [go_sem,simprocAttr,hb]))|(with_reducible (first|apply oC|apply oJ|exact oK|apply wA|apply wB|apply wC hX hC|apply wD hX hC|apply wE hX hC af|apply wF hX hC af|apply wG|apply wH|apply And.intro))|((with_reducible refine oD ?_ ?_);first|fail|kernel_rfl)|((with_reducible (first|apply oE|apply oF));(iterate 3 exact rfl);all_goals (intro h;first|(exact absurd h (by decide))|((try simp only [go_sem,simprocAttr,hb] at h);(try with_reducible intro K hK);simp only [go_sem,simprocAttr,hb])))|((first|((with_reducible apply wL);exact rfl)|((with_reducible apply wM);exact rfl));all_goals (try ((with_reducible intro h);first|(exact absurd h (by decide))|(try simp only [go_sem,simprocAttr,hb] at h))))|omega|((first|fail);try simp only [go_sem,simprocAttr,hb])|(intro h))
end Go.Ab
end
section
namespace Go.Ab
open Go.Proofs
attribute [local congr] ACall.congr
set_option maxRecDepth 10000
def uu (g:Gr):List Bool:=er g g.n.toNat
theorem ki {g:Gr} :er g g.n.toNat=uu g:=rfl
def CV (g:Gr):Int:=if bJ (fun b:Bool=>b) (uu g)<0 then g.n else bJ (fun b:Bool=>b) (uu g)
def uv (g:Gr) (x:Int) (b:Int) (i:Nat):Int:=if hd g i=x∧(uu g).getD (tl g i).toNat false=true then min b (tl g i) else b
def dz (g:Gr) (x:Int) (k:Nat):Int:=(List.range k).foldl (uv g x) g.n
def lT (g:Gr):Nat→List Int→Int→List Int × Int
 |0,way,x=>(way,x)
 |f+1,way,x=>if x∈way then (way,x) else lT g f (way++ [x]) (dz g x g.es.length)
def gx (g:Gr):Gr:=⟨g.n+1,g.es⟩
def mP (g:Gr):List Int × Int:=lT g (g.n.toNat+1) [] (CV g)
def pn (l:List Int) (m k:Nat):List Int:=(List.range k).map fun i=>l.getD ((m+l.length - i) % l.length) 0
def s6 (l:List Int):List Int:=pn l (c7 l (gh l)).toNat l.length
def kj (g:Gr):List Int:=if CV g=g.n then [] else s6 ((mP g).1.drop (c7 (mP g).1 (mP g).2).toNat)
theorem lU {g:Gr} {x:Int} {k:Nat} :dz g x (k+1)=uv g x (dz g x k) k:=by
 simp [dz,List.range_succ]
theorem oW {g:Gr} (hm:aO g=true) {x:Int} :∀ {k:Nat},k≤g.es.length→0≤dz g x k∧dz g x k≤g.n
 |0,_=>by have:=aW hm;simp [dz];omega
 |k+1,h=>by
  have ih:=oW hm (x:=x) (k:=k) (by omega)
  obtain ⟨⟨h1,h2⟩,_⟩:=c9 hm (k:=k) (by omega)
  rw [lU];unfold uv tl
  split<;>omega
theorem zM {l:List Int} {m k:Nat} :pn l m (k+1)=pn l m k++ [l.getD ((m+l.length - k) % l.length) 0]:=by
 simp [pn,List.range_succ]
theorem vV {g:Gr} {way:List Int} {a:Int} (h:a∈way):∀f,lT g f way a=(way,a)
 |0=>rfl
 |f+1=>by simp only [lT];rw [if_pos h]
theorem uw:∀ {l:List Int} {x:Int},x∈l→gh l≤x
 |a::r,x,h=>by
  have:∀(r:List Int) (a:Int),r.foldl min a≤a∧∀x∈r,r.foldl min a≤x:=by
   intro r
   induction r with
   |nil=>intro a;exact ⟨Int.le_refl _,by simp⟩
   |cons b r ih=>
    intro a
    obtain ⟨h1,h2⟩:=ih (min a b)
    simp only [List.foldl_cons]
    refine ⟨by omega,fun x hx=> ?_⟩
    rcases List.mem_cons.1 hx with rfl|hx
    ·omega
    ·exact h2 x hx
  obtain ⟨h1,h2⟩:=this r a
  rcases List.mem_cons.1 h with rfl|h
  ·exact h1
  ·exact h2 x h
theorem gL {l:List Int} {m:Nat} (h:m<l.length):l.getD m 0∈l:=by
 rw [List.getD_eq_getElem?_getD,List.getElem?_eq_getElem h];exact List.getElem_mem h
theorem BK {l:List Int} {m:Nat} (hm:m<l.length) (h1:∀j,j<l.length→l.getD m 0≤l.getD j 0) (h2:∀j,j<m→l.getD m 0<l.getD j 0):c7 l (gh l)=m:=by
 have hmin:gh l=l.getD m 0:=by
  have g1:=uw (gL hm)
  obtain ⟨j,hj,e⟩:=List.getElem_of_mem (gI (l:=l) (by omega))
  have g2:=h1 j hj
  rw [List.getD_eq_getElem?_getD (l:=l) (i:=j),List.getElem?_eq_getElem hj,Option.getD_some,e] at g2
  omega
 refine cZ (d:=0) hm (fun j hj=> ?_) ?_
 ·have:=h2 j hj
  rw [hmin];simp only [decide_eq_false_iff_not];omega
 ·rw [hmin];simp
theorem cP (g:Gr) (hm:aO g=true):Spec Tryz.prog 119 (Args [eG g]) [] (.d (sI (kj g))) []:=by
 have hn:=aW hm
 have hlf:(uu g).length=g.n.toNat:=leftK_length
 (refine Spec.intro (C:=T.cfg [] []) (rs:= [.t 2]) (T.ak _ _) Tryz.func119 rfl rfl Tryz.ntmps119 Tryz.results119 (by simp [AObj.isNest]) (by simp [AObj.isNest]) (by kernel_rfl) ?_;intro X hX hP hC aK aL vals hA;refine ⟨_,by simp,hA, ?_⟩;have af:X.P.follows .mixedOrders=true:=(by rw [hP];exact T.mixed);clear aK aL)
 repeat' (first|fail|((first|((with_reducible (first|apply oA|apply oB));exact rfl;intro K hK)|(refine hK _ ?_;clear hK K)|((with_reducible (first|apply oG|apply oH));iterate 3 exact rfl)|((with_reducible apply oI);(iterate 2 exact rfl);intro K hK)|(with_reducible (first|apply wI|apply wJ|apply wK)));try simp only [go_sem,simprocAttr,ki])|fail|(with_reducible (first|apply oC|apply oJ|exact oK|apply wA|apply wB|apply wC hX hC|apply wD hX hC|apply wE hX hC af|apply wF hX hC af|apply wG|apply wH|apply And.intro))|((with_reducible refine oD ?_ ?_);first|fail|kernel_rfl)|((with_reducible (first|apply oE|apply oF));(iterate 3 exact rfl);all_goals (intro h;first|(exact absurd h (by decide))|((try simp only [go_sem,simprocAttr,ki] at h);(try with_reducible intro K hK);simp only [go_sem,simprocAttr,ki])))|((first|((with_reducible apply wL);exact rfl)|((with_reducible apply wM);exact rfl));all_goals (try ((with_reducible intro h);first|(exact absurd h (by decide))|(try simp only [go_sem,simprocAttr,ki] at h))))|omega|((first|first|refine aa hX hC hP (cq g hm) rfl rfl rfl (by simp only [go_sem,simprocAttr,ki]) rfl ?_|(refine ai hX hC hP (bh way x bK) rfl rfl rfl ?_ ?_ ?_ ?_;iterate 3 (focus (simp only [go_sem,simprocAttr,ki];done)))|(refine ai hX hC hP (bh way (a:Int) bK) rfl rfl rfl ?_ ?_ ?_ ?_;iterate 3 (focus (simp only [go_sem,simprocAttr,ki];done))));try simp only [go_sem,simprocAttr,ki])|(intro h))
 refine aj (fun k:Nat=>k≤g.n.toNat∧∀j,j<k→(uu g).getD j false=false) (fun k=>⟨[(1, .ptr 1 0),(4,eN k),(3, .d (sB (uu g)))], [(1, .box [eN g.n, .d (sE g.es)])]⟩) (fun k=>g.n.toNat - k) 0 (by simp) ?_ ?_
 ·refine Le.of ?_ ?_<;>simp [go_sem,simprocAttr,uu]
 rintro k ⟨hk,hno⟩
 rcases Nat.lt_or_ge k g.n.toNat with hlt|hge
 ·have hb:decide ((k:Int)<g.n)=true:=decide_eq_true (by omega)
  cases hkb:(uu g).getD k false with
  |false=>
   repeat' (first|fail|((first|((with_reducible (first|apply oA|apply oB));exact rfl;intro K hK)|(refine hK _ ?_;clear hK K)|((with_reducible (first|apply oG|apply oH));iterate 3 exact rfl)|((with_reducible apply oI);(iterate 2 exact rfl);intro K hK)|(with_reducible (first|apply wI|apply wJ|apply wK)));try simp only [go_sem,simprocAttr,hb,hkb,hlf])|fail|(with_reducible (first|apply oC|apply oJ|exact oK|apply wA|apply wB|apply wC hX hC|apply wD hX hC|apply wE hX hC af|apply wF hX hC af|apply wG|apply wH|apply And.intro))|((with_reducible refine oD ?_ ?_);first|fail|kernel_rfl)|((with_reducible (first|apply oE|apply oF));(iterate 3 exact rfl);all_goals (intro h;first|(exact absurd h (by decide))|((try simp only [go_sem,simprocAttr,hb,hkb,hlf] at h);(try with_reducible intro K hK);simp only [go_sem,simprocAttr,hb,hkb,hlf])))|((first|((with_reducible apply wL);exact rfl)|((with_reducible apply wM);exact rfl));all_goals (try ((with_reducible intro h);first|(exact absurd h (by decide))|(try simp only [go_sem,simprocAttr,hb,hkb,hlf] at h))))|omega|((first|first|refine aa hX hC hP (cq g hm) rfl rfl rfl (by simp only [go_sem,simprocAttr,hb,hkb,hlf]) rfl ?_|(refine ai hX hC hP (bh way x bK) rfl rfl rfl ?_ ?_ ?_ ?_;iterate 3 (focus (simp only [go_sem,simprocAttr,hb,hkb,hlf];done)))|(refine ai hX hC hP (bh way (a:Int) bK) rfl rfl rfl ?_ ?_ ?_ ?_;iterate 3 (focus (simp only [go_sem,simprocAttr,hb,hkb,hlf];done))));try simp only [go_sem,simprocAttr,hb,hkb,hlf])|(intro h))
   refine ⟨k+1,⟨by omega,fun j hj=> ?_⟩, ?_,by omega⟩
   ·by_cases hjk:j=k
    ·subst hjk;exact hkb
    ·exact hno j (by omega)
   ·(refine Le.of ?_ ?_<;>simp [go_sem,simprocAttr,hb,hkb,hlf])
  |true=>
   have hst:CV g=k:=by
    have:bJ (fun b:Bool=>b) (uu g)=k:=cZ (d:=false) (by omega) hno hkb
    unfold CV;rw [this,if_neg (by omega)]
   have hne:decide ((k:Int)=g.n)=false:=decide_eq_false (by omega)
   repeat' (first|fail|((first|((with_reducible (first|apply oA|apply oB));exact rfl;intro K hK)|(refine hK _ ?_;clear hK K)|((with_reducible (first|apply oG|apply oH));iterate 3 exact rfl)|((with_reducible apply oI);(iterate 2 exact rfl);intro K hK)|(with_reducible (first|apply wI|apply wJ|apply wK)));try simp only [go_sem,simprocAttr,hb,hkb,hlf,hne])|fail|(with_reducible (first|apply oC|apply oJ|exact oK|apply wA|apply wB|apply wC hX hC|apply wD hX hC|apply wE hX hC af|apply wF hX hC af|apply wG|apply wH|apply And.intro))|((with_reducible refine oD ?_ ?_);first|fail|kernel_rfl)|((with_reducible (first|apply oE|apply oF));(iterate 3 exact rfl);all_goals (intro h;first|(exact absurd h (by decide))|((try simp only [go_sem,simprocAttr,hb,hkb,hlf,hne] at h);(try with_reducible intro K hK);simp only [go_sem,simprocAttr,hb,hkb,hlf,hne])))|((first|((with_reducible apply wL);exact rfl)|((with_reducible apply wM);exact rfl));all_goals (try ((with_reducible intro h);first|(exact absurd h (by decide))|(try simp only [go_sem,simprocAttr,hb,hkb,hlf,hne] at h))))|omega|((first|first|refine aa hX hC hP (cq g hm) rfl rfl rfl (by simp only [go_sem,simprocAttr,hb,hkb,hlf,hne]) rfl ?_|(refine ai hX hC hP (bh way x bK) rfl rfl rfl ?_ ?_ ?_ ?_;iterate 3 (focus (simp only [go_sem,simprocAttr,hb,hkb,hlf,hne];done)))|(refine ai hX hC hP (bh way (a:Int) bK) rfl rfl rfl ?_ ?_ ?_ ?_;iterate 3 (focus (simp only [go_sem,simprocAttr,hb,hkb,hlf,hne];done))));try simp only [go_sem,simprocAttr,hb,hkb,hlf,hne])|(intro h))
   clear hno hb hne hkb
   (refine qL hX 5 31 39 (by simp only [go_sem,simprocAttr]) rfl (by first|exact .inl rfl|exact .inr rfl) (by decide) ?_;simp only [go_sem,simprocAttr])
   refine aj (fun i:List Int × Int=>Way (gx g) i.1∧(0≤i.2∧i.2≤g.n)∧lT g (left (gx g) i.1) i.1 i.2=mP g) (fun i=>⟨[(1, .ptr 1 0),(4,eN i.2),(3, .d (sB (uu g))),(5, .ref 39)], [(1, .box [eN g.n, .d (sE g.es)]),(39, .tip 3 1 (i.1.map rI))]⟩) (fun i=>left (gx g) i.1) ([],(k:Int)) ⟨Way.nil _,by simp only;omega, ?_⟩ ?_ ?_
   ·simp only [mO,mP,gx,hst]
    rw [show (g.n+1).toNat=g.n.toNat+1 from by omega]
   ·refine Le.of ?_ ?_<;>simp [go_sem,simprocAttr]
   rintro ⟨way,x⟩ ⟨vU,hx,hrun⟩
   simp only at vU hx hrun ⊢
   have Od:way.length≤65:=by have:=vU.fuel;simp only [gx] at this;omega
   have bK:way.length≤9223372036854775807:=by omega
   by_cases hmem:x∈way
   ·have hend:=vV (g:=g) hmem (left (gx g) way)
    rw [hrun] at hend
    obtain ⟨m,uZ,hm2,_⟩:=c8 hmem
    have hneg:decide ((m:Int)<0)=false:=decide_eq_false (by omega)
    obtain ⟨l,BL⟩:∃l,l=way.drop m:=⟨_,rfl⟩
    have lB:l.length=way.length - m:=by rw [BL];simp
    have Fh:kj g=s6 l:=by
     simp only [kj,hend,uZ,Int.toNat_natCast, ← BL]
     rw [if_neg (by omega)]
    repeat' (first|fail|((first|((with_reducible (first|apply oA|apply oB));exact rfl;intro K hK)|(refine hK _ ?_;clear hK K)|((with_reducible (first|apply oG|apply oH));iterate 3 exact rfl)|((with_reducible apply oI);(iterate 2 exact rfl);intro K hK)|(with_reducible (first|apply wI|apply wJ|apply wK)));try simp only [go_sem,simprocAttr,uZ,hneg, ← List.map_take, ← List.map_drop,List.take_length, ← BL])|fail|(with_reducible (first|apply oC|apply oJ|exact oK|apply wA|apply wB|apply wC hX hC|apply wD hX hC|apply wE hX hC af|apply wF hX hC af|apply wG|apply wH|apply And.intro))|((with_reducible refine oD ?_ ?_);first|fail|kernel_rfl)|((with_reducible (first|apply oE|apply oF));(iterate 3 exact rfl);all_goals (intro h;first|(exact absurd h (by decide))|((try simp only [go_sem,simprocAttr,uZ,hneg, ← List.map_take, ← List.map_drop,List.take_length, ← BL] at h);(try with_reducible intro K hK);simp only [go_sem,simprocAttr,uZ,hneg, ← List.map_take, ← List.map_drop,List.take_length, ← BL])))|((first|((with_reducible apply wL);exact rfl)|((with_reducible apply wM);exact rfl));all_goals (try ((with_reducible intro h);first|(exact absurd h (by decide))|(try simp only [go_sem,simprocAttr,uZ,hneg, ← List.map_take, ← List.map_drop,List.take_length, ← BL] at h))))|omega|((first|first|refine aa hX hC hP (cq g hm) rfl rfl rfl (by simp only [go_sem,simprocAttr,uZ,hneg, ← List.map_take, ← List.map_drop,List.take_length, ← BL]) rfl ?_|(refine ai hX hC hP (bh way x bK) rfl rfl rfl ?_ ?_ ?_ ?_;iterate 3 (focus (simp only [go_sem,simprocAttr,uZ,hneg, ← List.map_take, ← List.map_drop,List.take_length, ← BL];done)))|(refine ai hX hC hP (bh way (a:Int) bK) rfl rfl rfl ?_ ?_ ?_ ?_;iterate 3 (focus (simp only [go_sem,simprocAttr,uZ,hneg, ← List.map_take, ← List.map_drop,List.take_length, ← BL];done))));try simp only [go_sem,simprocAttr,uZ,hneg, ← List.map_take, ← List.map_drop,List.take_length, ← BL])|(intro h))
    clear hrun vU hend uZ hneg BL
    have hl0:0<l.length:=by omega
    have hlm:l.length≤65:=by omega
    refine aj (fun i:Nat × Nat=>i.1≤l.length∧i.2<l.length∧(∀j,j<i.1→l.getD i.2 0≤l.getD j 0)∧(∀j,j<i.2→l.getD i.2 0<l.getD j 0)) (fun i=>⟨[(9,eN i.1),(8,eN i.2),(5, .d (sI l))], []⟩) (fun i=>l.length - i.1) (0,0) ⟨by simp,hl0,by simp,by simp⟩ ?_ ?_
    ·refine Le.of ?_ ?_<;>simp [go_sem,simprocAttr]
    rintro ⟨i,q⟩ ⟨hi,hq,hq1,Dv⟩
    simp only at hi hq hq1 Dv ⊢
    rcases Nat.lt_or_ge i l.length with hil|IW
    ·have hb:decide ((i:Int)<(l.length:Int))=true:=decide_eq_true (by omega)
     repeat' (first|fail|((first|((with_reducible (first|apply oA|apply oB));exact rfl;intro K hK)|(refine hK _ ?_;clear hK K)|((with_reducible (first|apply oG|apply oH));iterate 3 exact rfl)|((with_reducible apply oI);(iterate 2 exact rfl);intro K hK)|(with_reducible (first|apply wI|apply wJ|apply wK)));try simp only [go_sem,simprocAttr,hb])|fail|(with_reducible (first|apply oC|apply oJ|exact oK|apply wA|apply wB|apply wC hX hC|apply wD hX hC|apply wE hX hC af|apply wF hX hC af|apply wG|apply wH|apply And.intro))|((with_reducible refine oD ?_ ?_);first|fail|kernel_rfl)|((with_reducible (first|apply oE|apply oF));(iterate 3 exact rfl);all_goals (intro h;first|(exact absurd h (by decide))|((try simp only [go_sem,simprocAttr,hb] at h);(try with_reducible intro K hK);simp only [go_sem,simprocAttr,hb])))|((first|((with_reducible apply wL);exact rfl)|((with_reducible apply wM);exact rfl));all_goals (try ((with_reducible intro h);first|(exact absurd h (by decide))|(try simp only [go_sem,simprocAttr,hb] at h))))|omega|((first|first|refine aa hX hC hP (cq g hm) rfl rfl rfl (by simp only [go_sem,simprocAttr,hb]) rfl ?_|(refine ai hX hC hP (bh way x bK) rfl rfl rfl ?_ ?_ ?_ ?_;iterate 3 (focus (simp only [go_sem,simprocAttr,hb];done)))|(refine ai hX hC hP (bh way (a:Int) bK) rfl rfl rfl ?_ ?_ ?_ ?_;iterate 3 (focus (simp only [go_sem,simprocAttr,hb];done))));try simp only [go_sem,simprocAttr,hb])|(intro h))
     ·refine ⟨(i+1,i),⟨by simp only;omega,hil,fun j hj=> ?_,fun j hj=> ?_⟩, ?_,by simp only;omega⟩
      ·simp only at hj ⊢
       by_cases hji:j=i
       ·subst hji;exact Int.le_refl _
       ·have:=hq1 j (by omega);omega
      ·simp only at hj ⊢
       have:=hq1 j hj;omega
      ·refine Le.of ?_ ?_<;>simp [go_sem,simprocAttr]
     ·refine ⟨(i+1,q),⟨by simp only;omega,hq,fun j hj=> ?_,Dv⟩, ?_,by simp only;omega⟩
      ·simp only at hj ⊢
       by_cases hji:j=i
       ·subst hji;omega
       ·exact hq1 j (by omega)
      ·refine Le.of ?_ ?_<;>simp [go_sem,simprocAttr]
    ·have hb:decide ((i:Int)<(l.length:Int))=false:=decide_eq_false (by omega)
     obtain rfl:i=l.length:=by omega
     have hidx:=BK hq hq1 Dv
     repeat' (first|fail|((first|((with_reducible (first|apply oA|apply oB));exact rfl;intro K hK)|(refine hK _ ?_;clear hK K)|((with_reducible (first|apply oG|apply oH));iterate 3 exact rfl)|((with_reducible apply oI);(iterate 2 exact rfl);intro K hK)|(with_reducible (first|apply wI|apply wJ|apply wK)));try simp only [go_sem,simprocAttr,hb])|fail|(with_reducible (first|apply oC|apply oJ|exact oK|apply wA|apply wB|apply wC hX hC|apply wD hX hC|apply wE hX hC af|apply wF hX hC af|apply wG|apply wH|apply And.intro))|((with_reducible refine oD ?_ ?_);first|fail|kernel_rfl)|((with_reducible (first|apply oE|apply oF));(iterate 3 exact rfl);all_goals (intro h;first|(exact absurd h (by decide))|((try simp only [go_sem,simprocAttr,hb] at h);(try with_reducible intro K hK);simp only [go_sem,simprocAttr,hb])))|((first|((with_reducible apply wL);exact rfl)|((with_reducible apply wM);exact rfl));all_goals (try ((with_reducible intro h);first|(exact absurd h (by decide))|(try simp only [go_sem,simprocAttr,hb] at h))))|omega|((first|first|refine aa hX hC hP (cq g hm) rfl rfl rfl (by simp only [go_sem,simprocAttr,hb]) rfl ?_|(refine ai hX hC hP (bh way x bK) rfl rfl rfl ?_ ?_ ?_ ?_;iterate 3 (focus (simp only [go_sem,simprocAttr,hb];done)))|(refine ai hX hC hP (bh way (a:Int) bK) rfl rfl rfl ?_ ?_ ?_ ?_;iterate 3 (focus (simp only [go_sem,simprocAttr,hb];done))));try simp only [go_sem,simprocAttr,hb])|(intro h))
     clear hi hb IW
     (refine qL hX 10 98 119 (by simp only [go_sem,simprocAttr]) rfl (by first|exact .inl rfl|exact .inr rfl) (by decide) ?_;simp only [go_sem,simprocAttr])
     refine aj (fun i:Nat=>i≤l.length) (fun i=>⟨[(5, .d (sI l)),(8,eN q),(11,eN i),(10, .ref 119)], [(119, .tip 3 1 ((pn l q i).map rI))]⟩) (fun i=>l.length - i) 0 (by simp) ?_ ?_
     ·refine Le.of ?_ ?_<;>simp [go_sem,simprocAttr,pn]
     rintro i hi
     have hrl:(pn l q i).length=i:=by simp [pn]
     rcases Nat.lt_or_ge i l.length with hil|IW
     ·have hb:decide ((i:Int)<(l.length:Int))=true:=decide_eq_true (by omega)
      have CW:((q:Int)+(l.length:Int) - (i:Int)).tmod (l.length:Int)=(((q+l.length - i) % l.length:Nat):Int):=by
       rw [show (q:Int)+(l.length:Int) - (i:Int)=((q+l.length - i:Nat):Int) from by omega]
       rw [Int.tmod_eq_emod_of_nonneg (by omega)];rfl
      have hmod:(q+l.length - i) % l.length<l.length:=Nat.mod_lt _ hl0
      repeat' (first|fail|((first|((with_reducible (first|apply oA|apply oB));exact rfl;intro K hK)|(refine hK _ ?_;clear hK K)|((with_reducible (first|apply oG|apply oH));iterate 3 exact rfl)|((with_reducible apply oI);(iterate 2 exact rfl);intro K hK)|(with_reducible (first|apply wI|apply wJ|apply wK)));try simp only [go_sem,simprocAttr,hb,CW])|fail|(with_reducible (first|apply oC|apply oJ|exact oK|apply wA|apply wB|apply wC hX hC|apply wD hX hC|apply wE hX hC af|apply wF hX hC af|apply wG|apply wH|apply And.intro))|((with_reducible refine oD ?_ ?_);first|fail|kernel_rfl)|((with_reducible (first|apply oE|apply oF));(iterate 3 exact rfl);all_goals (intro h;first|(exact absurd h (by decide))|((try simp only [go_sem,simprocAttr,hb,CW] at h);(try with_reducible intro K hK);simp only [go_sem,simprocAttr,hb,CW])))|((first|((with_reducible apply wL);exact rfl)|((with_reducible apply wM);exact rfl));all_goals (try ((with_reducible intro h);first|(exact absurd h (by decide))|(try simp only [go_sem,simprocAttr,hb,CW] at h))))|omega|((first|first|refine aa hX hC hP (cq g hm) rfl rfl rfl (by simp only [go_sem,simprocAttr,hb,CW]) rfl ?_|(refine ai hX hC hP (bh way x bK) rfl rfl rfl ?_ ?_ ?_ ?_;iterate 3 (focus (simp only [go_sem,simprocAttr,hb,CW];done)))|(refine ai hX hC hP (bh way (a:Int) bK) rfl rfl rfl ?_ ?_ ?_ ?_;iterate 3 (focus (simp only [go_sem,simprocAttr,hb,CW];done))));try simp only [go_sem,simprocAttr,hb,CW])|(intro h))
      refine ⟨i+1,by omega, ?_,by omega⟩
      rw [zM]
      refine Le.of ?_ ?_<;>simp [go_sem,simprocAttr,rI]
     ·have hb:decide ((i:Int)<(l.length:Int))=false:=decide_eq_false (by omega)
      obtain rfl:i=l.length:=by omega
      repeat' (first|fail|((first|((with_reducible (first|apply oA|apply oB));exact rfl;intro K hK)|(refine hK _ ?_;clear hK K)|((with_reducible (first|apply oG|apply oH));iterate 3 exact rfl)|((with_reducible apply oI);(iterate 2 exact rfl);intro K hK)|(with_reducible (first|apply wI|apply wJ|apply wK)));try simp only [go_sem,simprocAttr,hb])|fail|(with_reducible (first|apply oC|apply oJ|exact oK|apply wA|apply wB|apply wC hX hC|apply wD hX hC|apply wE hX hC af|apply wF hX hC af|apply wG|apply wH|apply And.intro))|((with_reducible refine oD ?_ ?_);first|fail|kernel_rfl)|((with_reducible (first|apply oE|apply oF));(iterate 3 exact rfl);all_goals (intro h;first|(exact absurd h (by decide))|((try simp only [go_sem,simprocAttr,hb] at h);(try with_reducible intro K hK);simp only [go_sem,simprocAttr,hb])))|((first|((with_reducible apply wL);exact rfl)|((with_reducible apply wM);exact rfl));all_goals (try ((with_reducible intro h);first|(exact absurd h (by decide))|(try simp only [go_sem,simprocAttr,hb] at h))))|omega|((first|first|refine aa hX hC hP (cq g hm) rfl rfl rfl (by simp only [go_sem,simprocAttr,hb]) rfl ?_|(refine ai hX hC hP (bh way x bK) rfl rfl rfl ?_ ?_ ?_ ?_;iterate 3 (focus (simp only [go_sem,simprocAttr,hb];done)))|(refine ai hX hC hP (bh way (a:Int) bK) rfl rfl rfl ?_ ?_ ?_ ?_;iterate 3 (focus (simp only [go_sem,simprocAttr,hb];done))));try simp only [go_sem,simprocAttr,hb])|(intro h))
      rw [Fh,s6,hidx];rfl
   ·have hi:c7 way x= -1:=by
     rcases fy (f:=fun y:Int=>decide (x=y)) (l:=way) 0 with ⟨h1,_⟩|⟨q,_,h2,h3,_⟩
     ·exact h1
     ·exact absurd (by rw [of_decide_eq_true h3,List.getD_eq_getElem?_getD,List.getElem?_eq_getElem h2];exact List.getElem_mem h2) hmem
    obtain ⟨a,rfl⟩:∃a:Nat,x=a:=⟨x.toNat,by omega⟩
    have El:a<(gx g).n.toNat:=by simp only [gx];omega
    repeat' (first|fail|((first|((with_reducible (first|apply oA|apply oB));exact rfl;intro K hK)|(refine hK _ ?_;clear hK K)|((with_reducible (first|apply oG|apply oH));iterate 3 exact rfl)|((with_reducible apply oI);(iterate 2 exact rfl);intro K hK)|(with_reducible (first|apply wI|apply wJ|apply wK)));try simp only [go_sem,simprocAttr,hi])|fail|(with_reducible (first|apply oC|apply oJ|exact oK|apply wA|apply wB|apply wC hX hC|apply wD hX hC|apply wE hX hC af|apply wF hX hC af|apply wG|apply wH|apply And.intro))|((with_reducible refine oD ?_ ?_);first|fail|kernel_rfl)|((with_reducible (first|apply oE|apply oF));(iterate 3 exact rfl);all_goals (intro h;first|(exact absurd h (by decide))|((try simp only [go_sem,simprocAttr,hi] at h);(try with_reducible intro K hK);simp only [go_sem,simprocAttr,hi])))|((first|((with_reducible apply wL);exact rfl)|((with_reducible apply wM);exact rfl));all_goals (try ((with_reducible intro h);first|(exact absurd h (by decide))|(try simp only [go_sem,simprocAttr,hi] at h))))|omega|((first|first|refine aa hX hC hP (cq g hm) rfl rfl rfl (by simp only [go_sem,simprocAttr,hi]) rfl ?_|(refine ai hX hC hP (bh way x bK) rfl rfl rfl ?_ ?_ ?_ ?_;iterate 3 (focus (simp only [go_sem,simprocAttr,hi];done)))|(refine ai hX hC hP (bh way (a:Int) bK) rfl rfl rfl ?_ ?_ ?_ ?_;iterate 3 (focus (simp only [go_sem,simprocAttr,hi];done))));try simp only [go_sem,simprocAttr,hi])|(intro h))
    refine aj (fun j:Nat=>j≤g.es.length) (fun j=>⟨[(1, .ptr 1 0),(4,eN a),(3, .d (sB (uu g))),(5, .ref 39),(6,eN (dz g a j)),(7,eN j)], [(1, .box [eN g.n, .d (sE g.es)]),(39, .tip 3 1 ((way++ [(a:Int)]).map rI))]⟩) (fun j=>g.es.length - j) 0 (by simp) ?_ ?_
    ·refine Le.of ?_ ?_<;>simp [go_sem,simprocAttr,rI,dz]
    rintro j hj
    rcases Nat.lt_or_ge j g.es.length with hjl|F4
    ·have an:decide ((j:Int)<(g.es.length:Int))=true:=decide_eq_true (by omega)
     obtain ⟨⟨DD,sM⟩,_⟩:=c9 hm hjl
     have fc:dz g a (j+1)=if (g.es.getD j (0,0)).2=(a:Int)∧(uu g).getD (g.es.getD j (0,0)).1.toNat false=true then min (dz g a j) (g.es.getD j (0,0)).1 else dz g a j:=lU
     repeat' (first|fail|((first|((with_reducible (first|apply oA|apply oB));exact rfl;intro K hK)|(refine hK _ ?_;clear hK K)|((with_reducible (first|apply oG|apply oH));iterate 3 exact rfl)|((with_reducible apply oI);(iterate 2 exact rfl);intro K hK)|(with_reducible (first|apply wI|apply wJ|apply wK)));try simp only [go_sem,simprocAttr,an,hlf])|fail|(with_reducible (first|apply oC|apply oJ|exact oK|apply wA|apply wB|apply wC hX hC|apply wD hX hC|apply wE hX hC af|apply wF hX hC af|apply wG|apply wH|apply And.intro))|((with_reducible refine oD ?_ ?_);first|fail|kernel_rfl)|((with_reducible (first|apply oE|apply oF));(iterate 3 exact rfl);all_goals (intro h;first|(exact absurd h (by decide))|((try simp only [go_sem,simprocAttr,an,hlf] at h);(try with_reducible intro K hK);simp only [go_sem,simprocAttr,an,hlf])))|((first|((with_reducible apply wL);exact rfl)|((with_reducible apply wM);exact rfl));all_goals (try ((with_reducible intro h);first|(exact absurd h (by decide))|(try simp only [go_sem,simprocAttr,an,hlf] at h))))|omega|((first|first|refine aa hX hC hP (cq g hm) rfl rfl rfl (by simp only [go_sem,simprocAttr,an,hlf]) rfl ?_|(refine ai hX hC hP (bh way x bK) rfl rfl rfl ?_ ?_ ?_ ?_;iterate 3 (focus (simp only [go_sem,simprocAttr,an,hlf];done)))|(refine ai hX hC hP (bh way (a:Int) bK) rfl rfl rfl ?_ ?_ ?_ ?_;iterate 3 (focus (simp only [go_sem,simprocAttr,an,hlf];done))));try simp only [go_sem,simprocAttr,an,hlf])|(intro h))
     all_goals (first|rw [if_pos ⟨by assumption,by assumption⟩] at fc|rw [if_neg (fun e=>by first|exact absurd e.1 (by assumption)|simp_all)] at fc)
     all_goals (refine ⟨j+1,by omega, ?_,by omega⟩;refine Le.of ?_ ?_<;>simp [go_sem,simprocAttr,fc])
    ·have an:decide ((j:Int)<(g.es.length:Int))=false:=decide_eq_false (by omega)
     obtain rfl:j=g.es.length:=by omega
     repeat' (first|fail|((first|((with_reducible (first|apply oA|apply oB));exact rfl;intro K hK)|(refine hK _ ?_;clear hK K)|((with_reducible (first|apply oG|apply oH));iterate 3 exact rfl)|((with_reducible apply oI);(iterate 2 exact rfl);intro K hK)|(with_reducible (first|apply wI|apply wJ|apply wK)));try simp only [go_sem,simprocAttr,an])|fail|(with_reducible (first|apply oC|apply oJ|exact oK|apply wA|apply wB|apply wC hX hC|apply wD hX hC|apply wE hX hC af|apply wF hX hC af|apply wG|apply wH|apply And.intro))|((with_reducible refine oD ?_ ?_);first|fail|kernel_rfl)|((with_reducible (first|apply oE|apply oF));(iterate 3 exact rfl);all_goals (intro h;first|(exact absurd h (by decide))|((try simp only [go_sem,simprocAttr,an] at h);(try with_reducible intro K hK);simp only [go_sem,simprocAttr,an])))|((first|((with_reducible apply wL);exact rfl)|((with_reducible apply wM);exact rfl));all_goals (try ((with_reducible intro h);first|(exact absurd h (by decide))|(try simp only [go_sem,simprocAttr,an] at h))))|omega|((first|first|refine aa hX hC hP (cq g hm) rfl rfl rfl (by simp only [go_sem,simprocAttr,an]) rfl ?_|(refine ai hX hC hP (bh way x bK) rfl rfl rfl ?_ ?_ ?_ ?_;iterate 3 (focus (simp only [go_sem,simprocAttr,an];done)))|(refine ai hX hC hP (bh way (a:Int) bK) rfl rfl rfl ?_ ?_ ?_ ?_;iterate 3 (focus (simp only [go_sem,simprocAttr,an];done))));try simp only [go_sem,simprocAttr,an])|(intro h))
     refine ⟨(way++ [(a:Int)],dz g a g.es.length),⟨vU.next El hmem,oW hm (Nat.le_refl _), ?_⟩, ?_, ?_⟩
     ·simp only
      rw [← hrun,gH El hmem]
      simp only [lT]
      rw [if_neg hmem]
     ·refine Le.of ?_ ?_<;>simp [go_sem,simprocAttr]
     ·have:=gH El hmem;simp only;omega
 ·have hb:decide ((k:Int)<g.n)=false:=decide_eq_false (by omega)
  have hst:CV g=g.n:=by
   have:bJ (fun b:Bool=>b) (uu g)= -1:=b9 false fun j hj=>hno j (by omega)
   unfold CV;rw [this,if_pos (by omega)]
  have hne:decide ((k:Int)=g.n)=true:=decide_eq_true (by omega)
  repeat' (first|fail|((first|((with_reducible (first|apply oA|apply oB));exact rfl;intro K hK)|(refine hK _ ?_;clear hK K)|((with_reducible (first|apply oG|apply oH));iterate 3 exact rfl)|((with_reducible apply oI);(iterate 2 exact rfl);intro K hK)|(with_reducible (first|apply wI|apply wJ|apply wK)));try simp only [go_sem,simprocAttr,hb,hne])|fail|(with_reducible (first|apply oC|apply oJ|exact oK|apply wA|apply wB|apply wC hX hC|apply wD hX hC|apply wE hX hC af|apply wF hX hC af|apply wG|apply wH|apply And.intro))|((with_reducible refine oD ?_ ?_);first|fail|kernel_rfl)|((with_reducible (first|apply oE|apply oF));(iterate 3 exact rfl);all_goals (intro h;first|(exact absurd h (by decide))|((try simp only [go_sem,simprocAttr,hb,hne] at h);(try with_reducible intro K hK);simp only [go_sem,simprocAttr,hb,hne])))|((first|((with_reducible apply wL);exact rfl)|((with_reducible apply wM);exact rfl));all_goals (try ((with_reducible intro h);first|(exact absurd h (by decide))|(try simp only [go_sem,simprocAttr,hb,hne] at h))))|omega|((first|first|refine aa hX hC hP (cq g hm) rfl rfl rfl (by simp only [go_sem,simprocAttr,hb,hne]) rfl ?_|(refine ai hX hC hP (bh way x bK) rfl rfl rfl ?_ ?_ ?_ ?_;iterate 3 (focus (simp only [go_sem,simprocAttr,hb,hne];done)))|(refine ai hX hC hP (bh way (a:Int) bK) rfl rfl rfl ?_ ?_ ?_ ?_;iterate 3 (focus (simp only [go_sem,simprocAttr,hb,hne];done))));try simp only [go_sem,simprocAttr,hb,hne])|(intro h))
  simp only [kj];rw [if_pos hst];rfl
end Go.Ab
end
section
namespace Go.Ab
open Go.Proofs
attribute [local congr] ACall.congr
set_option maxRecDepth 10000
def fe (g:Gr):Int × Int × List Int:=fO g (kj g) (bB (·.2) g)
theorem vW {l:List Edge} {k:Nat} {x:Edge} :x∈l.take k↔∃j,j<k∧j<l.length∧l.getD j (0,0)=x:=by
 rw [List.mem_iff_getElem?]
 constructor
 ·rintro ⟨j,hj⟩
  rw [List.getElem?_take] at hj
  split at hj
  ·exact ⟨j,by assumption,(List.getElem?_eq_some_iff.1 hj).1,by rw [List.getD_eq_getElem?_getD,hj];rfl⟩
  ·cases hj
 ·rintro ⟨j,h1,h2,h3⟩
  refine ⟨j, ?_⟩
  rw [List.getElem?_take,if_pos h1,List.getElem?_eq_getElem h2]
  rw [List.getD_eq_getElem?_getD,List.getElem?_eq_getElem h2] at h3
  exact congrArg some h3
theorem sD (g:Gr) (hl0:g.es.length≤1000):Spec Tryz.prog 99 (Args [eG g]) [] (.tup [eN (fe g).1,eN (fe g).2.1, .d (sI (fe g).2.2)]) []:=by
 have hl:g.es.length≤9223372036854775807:=by omega
 (refine Spec.intro (C:=T.cfg [] []) (rs:= [.t 2, .t 3, .t 4]) (T.ak _ _) Tryz.func99 rfl rfl Tryz.ntmps99 Tryz.results99 (by simp [AObj.isNest]) (by simp [AObj.isNest]) (by kernel_rfl) ?_;intro X hX hP hC aK aL vals hA;refine ⟨_,by simp,hA, ?_⟩;have af:X.P.follows .mixedOrders=true:=(by rw [hP];exact T.mixed);clear aK aL)
 cases hm:aO g with
 |false=>
  repeat' (first|fail|((first|((with_reducible (first|apply oA|apply oB));exact rfl;intro K hK)|(refine hK _ ?_;clear hK K)|((with_reducible (first|apply oG|apply oH));iterate 3 exact rfl)|((with_reducible apply oI);(iterate 2 exact rfl);intro K hK)|(with_reducible (first|apply wI|apply wJ|apply wK)));try simp only [go_sem,simprocAttr,hm])|fail|(with_reducible (first|apply oC|apply oJ|exact oK|apply wA|apply wB|apply wC hX hC|apply wD hX hC|apply wE hX hC af|apply wF hX hC af|apply wG|apply wH|apply And.intro))|((with_reducible refine oD ?_ ?_);first|fail|kernel_rfl)|((with_reducible (first|apply oE|apply oF));(iterate 3 exact rfl);all_goals (intro h;first|(exact absurd h (by decide))|((try simp only [go_sem,simprocAttr,hm] at h);(try with_reducible intro K hK);simp only [go_sem,simprocAttr,hm])))|((first|((with_reducible apply wL);exact rfl)|((with_reducible apply wM);exact rfl));all_goals (try ((with_reducible intro h);first|(exact absurd h (by decide))|(try simp only [go_sem,simprocAttr,hm] at h))))|omega|((first|first|refine aa hX hC hP (cw g hl) rfl rfl rfl (by simp only [go_sem,simprocAttr,hm]) rfl ?_|refine aa hX hC hP (cP g hm) rfl rfl rfl (by simp only [go_sem,simprocAttr,hm]) rfl ?_|refine aa hX hC hP (cy g true hl0 hn0) rfl rfl rfl (by simp only [go_sem,simprocAttr,hm]) rfl ?_);try simp only [go_sem,simprocAttr,hm])|(intro h))
  all_goals simp [fe,fO,hm]
 |true=>
 have hn:=aW hm
 have hn0:0≤g.n∧g.n≤1000:=by omega
 repeat' (first|fail|((first|((with_reducible (first|apply oA|apply oB));exact rfl;intro K hK)|(refine hK _ ?_;clear hK K)|((with_reducible (first|apply oG|apply oH));iterate 3 exact rfl)|((with_reducible apply oI);(iterate 2 exact rfl);intro K hK)|(with_reducible (first|apply wI|apply wJ|apply wK)));try simp only [go_sem,simprocAttr,hm])|fail|(with_reducible (first|apply oC|apply oJ|exact oK|apply wA|apply wB|apply wC hX hC|apply wD hX hC|apply wE hX hC af|apply wF hX hC af|apply wG|apply wH|apply And.intro))|((with_reducible refine oD ?_ ?_);first|fail|kernel_rfl)|((with_reducible (first|apply oE|apply oF));(iterate 3 exact rfl);all_goals (intro h;first|(exact absurd h (by decide))|((try simp only [go_sem,simprocAttr,hm] at h);(try with_reducible intro K hK);simp only [go_sem,simprocAttr,hm])))|((first|((with_reducible apply wL);exact rfl)|((with_reducible apply wM);exact rfl));all_goals (try ((with_reducible intro h);first|(exact absurd h (by decide))|(try simp only [go_sem,simprocAttr,hm] at h))))|omega|((first|first|refine aa hX hC hP (cw g hl) rfl rfl rfl (by simp only [go_sem,simprocAttr,hm]) rfl ?_|refine aa hX hC hP (cP g hm) rfl rfl rfl (by simp only [go_sem,simprocAttr,hm]) rfl ?_|refine aa hX hC hP (cy g true hl0 hn0) rfl rfl rfl (by simp only [go_sem,simprocAttr,hm]) rfl ?_);try simp only [go_sem,simprocAttr,hm])|(intro h))
 refine aj (fun k:Nat=>k≤g.es.length∧∀j,j<k→decide ((g.es.getD j (0,0)).1=(g.es.getD j (0,0)).2)=false) (fun k=>⟨[(5,eN k),(1, .ptr 1 0)], [(1, .box [eN g.n, .d (sE g.es)])]⟩) (fun k=>g.es.length - k) 0 (by simp) ?_ ?_
 ·(refine Le.of ?_ ?_<;>simp [go_sem,simprocAttr,hm])
 rintro k ⟨hk,hno⟩
 rcases Nat.lt_or_ge k g.es.length with hlt|hge
 ·have an:decide ((k:Int)<(g.es.length:Int))=true:=decide_eq_true (by omega)
  repeat' (first|fail|((first|((with_reducible (first|apply oA|apply oB));exact rfl;intro K hK)|(refine hK _ ?_;clear hK K)|((with_reducible (first|apply oG|apply oH));iterate 3 exact rfl)|((with_reducible apply oI);(iterate 2 exact rfl);intro K hK)|(with_reducible (first|apply wI|apply wJ|apply wK)));try simp only [go_sem,simprocAttr,hm,an])|fail|(with_reducible (first|apply oC|apply oJ|exact oK|apply wA|apply wB|apply wC hX hC|apply wD hX hC|apply wE hX hC af|apply wF hX hC af|apply wG|apply wH|apply And.intro))|((with_reducible refine oD ?_ ?_);first|fail|kernel_rfl)|((with_reducible (first|apply oE|apply oF));(iterate 3 exact rfl);all_goals (intro h;first|(exact absurd h (by decide))|((try simp only [go_sem,simprocAttr,hm,an] at h);(try with_reducible intro K hK);simp only [go_sem,simprocAttr,hm,an])))|((first|((with_reducible apply wL);exact rfl)|((with_reducible apply wM);exact rfl));all_goals (try ((with_reducible intro h);first|(exact absurd h (by decide))|(try simp only [go_sem,simprocAttr,hm,an] at h))))|omega|((first|first|refine aa hX hC hP (cw g hl) rfl rfl rfl (by simp only [go_sem,simprocAttr,hm,an]) rfl ?_|refine aa hX hC hP (cP g hm) rfl rfl rfl (by simp only [go_sem,simprocAttr,hm,an]) rfl ?_|refine aa hX hC hP (cy g true hl0 hn0) rfl rfl rfl (by simp only [go_sem,simprocAttr,hm,an]) rfl ?_);try simp only [go_sem,simprocAttr,hm,an])|(intro h))
  any_goals (
   have hlo:ja g=(k:Int):=cZ (d:=(0,0)) hlt hno (decide_eq_true h)
   have hc:fe g=(13,ja g, []):=by
    simp only [fe,fO];rw [if_neg (by simp [hm]),if_pos (by omega)]
   rw [hc]<;>first|rfl|exact hlo.symm)
  refine ⟨k+1,⟨by omega,fun j hj=> ?_⟩, ?_,by omega⟩
  ·by_cases hjk:j=k
   ·subst hjk;exact h
   ·simpa using hno j (by omega)
  ·(refine Le.of ?_ ?_<;>simp [go_sem,simprocAttr,hm,an])
 ·have an:decide ((k:Int)<(g.es.length:Int))=false:=decide_eq_false (by omega)
  have hlo:¬0≤ja g:=by
   have:ja g= -1:=b9 (0,0) fun j hj=>hno j (by omega)
   omega
  repeat' (first|fail|((first|((with_reducible (first|apply oA|apply oB));exact rfl;intro K hK)|(refine hK _ ?_;clear hK K)|((with_reducible (first|apply oG|apply oH));iterate 3 exact rfl)|((with_reducible apply oI);(iterate 2 exact rfl);intro K hK)|(with_reducible (first|apply wI|apply wJ|apply wK)));try simp only [go_sem,simprocAttr,hm,an])|fail|(with_reducible (first|apply oC|apply oJ|exact oK|apply wA|apply wB|apply wC hX hC|apply wD hX hC|apply wE hX hC af|apply wF hX hC af|apply wG|apply wH|apply And.intro))|((with_reducible refine oD ?_ ?_);first|fail|kernel_rfl)|((with_reducible (first|apply oE|apply oF));(iterate 3 exact rfl);all_goals (intro h;first|(exact absurd h (by decide))|((try simp only [go_sem,simprocAttr,hm,an] at h);(try with_reducible intro K hK);simp only [go_sem,simprocAttr,hm,an])))|((first|((with_reducible apply wL);exact rfl)|((with_reducible apply wM);exact rfl));all_goals (try ((with_reducible intro h);first|(exact absurd h (by decide))|(try simp only [go_sem,simprocAttr,hm,an] at h))))|omega|((first|first|refine aa hX hC hP (cw g hl) rfl rfl rfl (by simp only [go_sem,simprocAttr,hm,an]) rfl ?_|refine aa hX hC hP (cP g hm) rfl rfl rfl (by simp only [go_sem,simprocAttr,hm,an]) rfl ?_|refine aa hX hC hP (cy g true hl0 hn0) rfl rfl rfl (by simp only [go_sem,simprocAttr,hm,an]) rfl ?_);try simp only [go_sem,simprocAttr,hm,an])|(intro h))
  clear hno an hk hge
  refine aj (fun k:Nat=>k≤g.es.length∧∀j,j<k→lS g j=false) (fun k=>⟨[(6,eN k),(1, .ptr 1 0)], [(1, .box [eN g.n, .d (sE g.es)])]⟩) (fun k=>g.es.length - k) 0 (by simp) ?_ ?_
  ·(refine Le.of ?_ ?_<;>simp [go_sem,simprocAttr])
  rintro k ⟨hk,Fi⟩
  rcases Nat.lt_or_ge k g.es.length with hlt|hge
  ·have an:decide ((k:Int)<(g.es.length:Int))=true:=decide_eq_true (by omega)
   repeat' (first|fail|((first|((with_reducible (first|apply oA|apply oB));exact rfl;intro K hK)|(refine hK _ ?_;clear hK K)|((with_reducible (first|apply oG|apply oH));iterate 3 exact rfl)|((with_reducible apply oI);(iterate 2 exact rfl);intro K hK)|(with_reducible (first|apply wI|apply wJ|apply wK)));try simp only [go_sem,simprocAttr,hm,an])|fail|(with_reducible (first|apply oC|apply oJ|exact oK|apply wA|apply wB|apply wC hX hC|apply wD hX hC|apply wE hX hC af|apply wF hX hC af|apply wG|apply wH|apply And.intro))|((with_reducible refine oD ?_ ?_);first|fail|kernel_rfl)|((with_reducible (first|apply oE|apply oF));(iterate 3 exact rfl);all_goals (intro h;first|(exact absurd h (by decide))|((try simp only [go_sem,simprocAttr,hm,an] at h);(try with_reducible intro K hK);simp only [go_sem,simprocAttr,hm,an])))|((first|((with_reducible apply wL);exact rfl)|((with_reducible apply wM);exact rfl));all_goals (try ((with_reducible intro h);first|(exact absurd h (by decide))|(try simp only [go_sem,simprocAttr,hm,an] at h))))|omega|((first|first|refine aa hX hC hP (cw g hl) rfl rfl rfl (by simp only [go_sem,simprocAttr,hm,an]) rfl ?_|refine aa hX hC hP (cP g hm) rfl rfl rfl (by simp only [go_sem,simprocAttr,hm,an]) rfl ?_|refine aa hX hC hP (cy g true hl0 hn0) rfl rfl rfl (by simp only [go_sem,simprocAttr,hm,an]) rfl ?_);try simp only [go_sem,simprocAttr,hm,an])|(intro h))
   refine aj (fun q:Nat=>q≤k∧∀j,j<q→¬g.es.getD j (0,0)=g.es.getD k (0,0)) (fun q=>⟨[(6,eN k),(7,eN q),(1, .ptr 1 0)], [(1, .box [eN g.n, .d (sE g.es)])]⟩) (fun q=>k - q) 0 (by simp) ?_ ?_
   ·(refine Le.of ?_ ?_<;>simp [go_sem,simprocAttr,hm,an])
   rintro q ⟨hq,hne⟩
   rcases Nat.lt_or_ge q k with MY|MY
   ·have cx:decide ((q:Int)<(k:Int))=true:=decide_eq_true (by omega)
    repeat' (first|fail|((first|((with_reducible (first|apply oA|apply oB));exact rfl;intro K hK)|(refine hK _ ?_;clear hK K)|((with_reducible (first|apply oG|apply oH));iterate 3 exact rfl)|((with_reducible apply oI);(iterate 2 exact rfl);intro K hK)|(with_reducible (first|apply wI|apply wJ|apply wK)));try simp only [go_sem,simprocAttr,cx,iT])|fail|(with_reducible (first|apply oC|apply oJ|exact oK|apply wA|apply wB|apply wC hX hC|apply wD hX hC|apply wE hX hC af|apply wF hX hC af|apply wG|apply wH|apply And.intro))|((with_reducible refine oD ?_ ?_);first|fail|kernel_rfl)|((with_reducible (first|apply oE|apply oF));(iterate 3 exact rfl);all_goals (intro h;first|(exact absurd h (by decide))|((try simp only [go_sem,simprocAttr,cx,iT] at h);(try with_reducible intro K hK);simp only [go_sem,simprocAttr,cx,iT])))|((first|((with_reducible apply wL);exact rfl)|((with_reducible apply wM);exact rfl));all_goals (try ((with_reducible intro h);first|(exact absurd h (by decide))|(try simp only [go_sem,simprocAttr,cx,iT] at h))))|omega|((first|first|refine aa hX hC hP (cw g hl) rfl rfl rfl (by simp only [go_sem,simprocAttr,cx,iT]) rfl ?_|refine aa hX hC hP (cP g hm) rfl rfl rfl (by simp only [go_sem,simprocAttr,cx,iT]) rfl ?_|refine aa hX hC hP (cy g true hl0 hn0) rfl rfl rfl (by simp only [go_sem,simprocAttr,cx,iT]) rfl ?_);try simp only [go_sem,simprocAttr,cx,iT])|(intro h))
    any_goals (
     have BI:lS g k=true:=decide_eq_true (vW.2 ⟨q,MY,by omega,h⟩)
     have LM:dY g=(k:Int):=cZ (d:=0) (by simpa using hlt) (fun j hj=>by rw [fz (by omega)];exact Fi j hj) (by rw [fz hlt];exact BI)
     have hc:fe g=(14,dY g, []):=by
      simp only [fe,fO];rw [if_neg (by simp [hm]),if_neg hlo,if_pos (by omega)]
     rw [hc]<;>first|rfl|exact LM.symm)
    refine ⟨q+1,⟨by omega,fun j hj=> ?_⟩, ?_,by omega⟩
    ·by_cases hjk:j=q
     ·subst hjk;exact h
     ·exact hne j (by omega)
    ·refine Le.of ?_ ?_<;>simp [go_sem,simprocAttr]
   ·have cx:decide ((q:Int)<(k:Int))=false:=decide_eq_false (by omega)
    repeat' (first|fail|((first|((with_reducible (first|apply oA|apply oB));exact rfl;intro K hK)|(refine hK _ ?_;clear hK K)|((with_reducible (first|apply oG|apply oH));iterate 3 exact rfl)|((with_reducible apply oI);(iterate 2 exact rfl);intro K hK)|(with_reducible (first|apply wI|apply wJ|apply wK)));try simp only [go_sem,simprocAttr,cx])|fail|(with_reducible (first|apply oC|apply oJ|exact oK|apply wA|apply wB|apply wC hX hC|apply wD hX hC|apply wE hX hC af|apply wF hX hC af|apply wG|apply wH|apply And.intro))|((with_reducible refine oD ?_ ?_);first|fail|kernel_rfl)|((with_reducible (first|apply oE|apply oF));(iterate 3 exact rfl);all_goals (intro h;first|(exact absurd h (by decide))|((try simp only [go_sem,simprocAttr,cx] at h);(try with_reducible intro K hK);simp only [go_sem,simprocAttr,cx])))|((first|((with_reducible apply wL);exact rfl)|((with_reducible apply wM);exact rfl));all_goals (try ((with_reducible intro h);first|(exact absurd h (by decide))|(try simp only [go_sem,simprocAttr,cx] at h))))|omega|((first|first|refine aa hX hC hP (cw g hl) rfl rfl rfl (by simp only [go_sem,simprocAttr,cx]) rfl ?_|refine aa hX hC hP (cP g hm) rfl rfl rfl (by simp only [go_sem,simprocAttr,cx]) rfl ?_|refine aa hX hC hP (cy g true hl0 hn0) rfl rfl rfl (by simp only [go_sem,simprocAttr,cx]) rfl ?_);try simp only [go_sem,simprocAttr,cx])|(intro h))
    refine ⟨k+1,⟨by omega,fun j hj=> ?_⟩, ?_,by omega⟩
    ·by_cases hjk:j=k
     ·subst hjk
      refine decide_eq_false fun h=> ?_
      obtain ⟨i,h1,_,h3⟩:=vW.1 h
      exact hne i (by omega) h3
     ·exact Fi j (by omega)
    ·(refine Le.of ?_ ?_<;>simp [go_sem,simprocAttr,cx])
  ·have an:decide ((k:Int)<(g.es.length:Int))=false:=decide_eq_false (by omega)
   have BI:¬0≤dY g:=by
    have:dY g= -1:=b9 0 fun j hj=>by
     rw [List.length_range] at hj
     rw [fz hj];exact Fi j (by omega)
    omega
   repeat' (first|fail|((first|((with_reducible (first|apply oA|apply oB));exact rfl;intro K hK)|(refine hK _ ?_;clear hK K)|((with_reducible (first|apply oG|apply oH));iterate 3 exact rfl)|((with_reducible apply oI);(iterate 2 exact rfl);intro K hK)|(with_reducible (first|apply wI|apply wJ|apply wK)));try simp only [go_sem,simprocAttr,hm,an])|fail|(with_reducible (first|apply oC|apply oJ|exact oK|apply wA|apply wB|apply wC hX hC|apply wD hX hC|apply wE hX hC af|apply wF hX hC af|apply wG|apply wH|apply And.intro))|((with_reducible refine oD ?_ ?_);first|fail|kernel_rfl)|((with_reducible (first|apply oE|apply oF));(iterate 3 exact rfl);all_goals (intro h;first|(exact absurd h (by decide))|((try simp only [go_sem,simprocAttr,hm,an] at h);(try with_reducible intro K hK);simp only [go_sem,simprocAttr,hm,an])))|((first|((with_reducible apply wL);exact rfl)|((with_reducible apply wM);exact rfl));all_goals (try ((with_reducible intro h);first|(exact absurd h (by decide))|(try simp only [go_sem,simprocAttr,hm,an] at h))))|omega|((first|first|refine aa hX hC hP (cw g hl) rfl rfl rfl (by simp only [go_sem,simprocAttr,hm,an]) rfl ?_|refine aa hX hC hP (cP g hm) rfl rfl rfl (by simp only [go_sem,simprocAttr,hm,an]) rfl ?_|refine aa hX hC hP (cy g true hl0 hn0) rfl rfl rfl (by simp only [go_sem,simprocAttr,hm,an]) rfl ?_);try simp only [go_sem,simprocAttr,hm,an])|(intro h))
   all_goals (
    have hc:fe g=if 0<(kj g).length then (15,0,kj g) else if 1<(bB (k5 false) g).length then (16,0,(bB (k5 false) g).take 2) else (0,0, []):=by
     show fO g (kj g) (bB (k5 false) g)=_
     simp only [fO];rw [if_neg (by simp [hm]),if_neg hlo,if_neg BI]
    first|rw [if_pos (by omega)] at hc|(rw [if_neg (by omega)] at hc;first|rw [if_pos (by omega)] at hc|rw [if_neg (by omega)] at hc)
    rw [hc]<;>first|rfl|simp only [List.map_take])
end Go.Ab
end
section
namespace Go.Ab
def Ord (g:Gr) (out:List Int):Prop:=∀p,p<out.length→∀i,i<g.es.length→hd g i=out.getD p 0→tl g i∈out.take p
theorem ko {l r:List Int} {p:Nat} (h:p<l.length):(l++r).getD p 0=l.getD p 0:=by
 rw [List.getD_eq_getElem?_getD,List.getD_eq_getElem?_getD,List.getElem?_append_left h]
theorem Ord.next {g:Gr} {out:List Int} (h:Ord g out) {x:Nat} (hb:∀i,i<g.es.length→hd g i=x→tl g i∈out):Ord g (out++ [(x:Int)]):=by
 intro p hp i hi hh
 rw [List.length_append,List.length_singleton] at hp
 by_cases fT:p<out.length
 ·rw [ko fT] at hh
  have:=h p fT i hi hh
  rw [List.take_append_of_le_length (by omega)]
  exact this
 ·have hpe:p=out.length:=by omega
  subst hpe
  rw [List.getD_eq_getElem?_getD,List.getElem?_append_right (by omega)] at hh
  simp at hh
  rw [List.take_append_of_le_length (by omega),List.take_of_length_le (by omega)]
  exact hb i hi hh
theorem qT {g:Gr} (hm:aO g=true):∀f out,dK g out→Ord g out→left g out≤f→dK g (sy g f out)∧Ord g (sy g f out)∧c7 (b8 g (sy g f out)) 0<0
 |f,out,hP,hO,hl=>by
  rcases IV (g:=g) out with hx|⟨x,hx,zE,hw⟩
  ·rw [vS (by omega)];exact ⟨hP,hO,by omega⟩
  ·obtain ⟨MZ,_,hb⟩:=hP.next hm zE hw
   have hn:=sV hP MZ
   cases f with
   |zero=>omega
   |succ f=>
    have:=qT hm f (out++ [(x:Int)]) MZ (hO.next hb) (by omega)
    simp only [sy,hx]
    rw [if_neg (by omega)]
    exact this
theorem dA {g:Gr} (hm:aO g=true):dK g (aG g)∧Ord g (aG g)∧c7 (b8 g (aG g)) 0<0:=
 qT hm _ _ (dK.nil g) (fun p hp=>by simp at hp) (by rw [mO];exact Nat.le_refl _)
theorem nR {g:Gr} (hm:aO g=true) {y:Nat} (hy:y<g.n.toNat):0<wt g (aG g) y↔(y:Int)∉aG g:=by
 obtain ⟨_,_,hi⟩:=dA hm
 constructor
 ·intro h hin;simp [wt,hin] at h
 ·intro h
  have h0:wt g (aG g) y≠0:=by
   intro e
   rcases fy (f:=fun y:Int=>decide (0=y)) (l:=b8 g (aG g)) 0 with ⟨_,h2⟩|⟨k,h1,_⟩
   ·have:=h2 _ (List.mem_of_getElem? (jB hy))
    rw [e] at this;simp at this
   ·have:c7 (b8 g (aG g)) 0=k:=h1
    omega
  have:0≤wt g (aG g) y:=by simp only [wt,h,if_false];omega
  omega
theorem qU {g:Gr} {l:List Bool} {j y:Nat} (h:y<g.n.toNat):(dP g l j).getD y false=(List.range j).any fun i=>decide (hd g i=(y:Int))&&(l.getD (tl g i).toNat false&&l.getD (hd g i).toNat false):=by
 simp [dP,List.getD_eq_getElem?_getD,List.getElem?_range h]
theorem qV {g:Gr} (hm:aO g=true):∀k y,y<g.n.toNat→(y:Int)∉aG g→(er g k).getD y false=true
 |0,y,hy,_=>by simp [er,kg,List.getD_eq_getElem?_getD,List.getElem?_range hy];omega
 |k+1,y,hy,h=>by
  have hw:=(nR hm hy).2 h
  simp only [wt,h,if_false] at hw
  obtain ⟨i,hi,hp⟩:=List.countP_pos_iff.1 (Int.natCast_pos.1 hw)
  simp only [Bool.and_eq_true,decide_eq_true_eq,Bool.not_eq_true',decide_eq_false_iff_not] at hp
  have hil:=List.mem_range.1 hi
  obtain ⟨⟨h1,h2⟩,_⟩:=c9 hm hil
  have ht:(g.es.getD i (0,0)).1=tl g i:=rfl
  rw [ht] at h1 h2
  have e:((tl g i).toNat:Int)=tl g i:=by omega
  have g1:=qV hm k (tl g i).toNat (by omega) (by rw [e];exact hp.2)
  have g2:=qV hm k y hy h
  show (dP g (er g k) g.es.length).getD y false=true
  rw [qU hy,List.any_eq_true]
  refine ⟨i,hi, ?_⟩
  rw [hp.1,Int.toNat_natCast,g1,g2];simp
theorem yC {g:Gr} (hm:aO g=true):∀k p,p<k→p<(aG g).length→(er g k).getD ((aG g).getD p 0).toNat false=false
 |0,p,h,_=>by omega
 |k+1,p,h,hp=>by
  obtain ⟨hP,hO,_⟩:=dA hm
  have hr:=hP.lo _ (gL hp)
  obtain ⟨y,hy⟩:∃y:Nat,(aG g).getD p 0=y:=⟨((aG g).getD p 0).toNat,by omega⟩
  have Of:y<g.n.toNat:=by omega
  rw [hy,Int.toNat_natCast]
  show (dP g (er g k) g.es.length).getD y false=false
  rw [qU Of,List.any_eq_false]
  intro i hi
  have hil:=List.mem_range.1 hi
  simp only [Bool.and_eq_true,decide_eq_true_eq]
  rintro ⟨h1,h2,_⟩
  have ht:=hO p hp i hil (by rw [h1,hy])
  rw [List.mem_iff_getElem?] at ht
  obtain ⟨q,hq⟩:=ht
  rw [List.getElem?_take] at hq
  split at hq
  ·rename_i Og
   have:=yC hm k q (by omega) (by omega)
   rw [List.getD_eq_getElem?_getD (l:=aG g),hq] at this
   rw [Option.getD_some,h2] at this
   cases this
  ·cases hq
theorem BM {g:Gr} (hm:aO g=true) {y:Nat} (hy:y<g.n.toNat):(uu g).getD y false=true↔(y:Int)∉aG g:=by
 constructor
 ·intro h hin
  obtain ⟨hP,_,_⟩:=dA hm
  obtain ⟨p,hp,e⟩:=List.getElem_of_mem hin
  have hl:=hP.fuel
  have:=yC hm g.n.toNat p (by omega) hp
  rw [List.getD_eq_getElem?_getD (l:=aG g),List.getElem?_eq_getElem hp,Option.getD_some,e,Int.toNat_natCast] at this
  have h2:(er g g.n.toNat).getD y false=true:=h
  rw [this] at h2;cases h2
 ·intro h;exact qV hm _ y hy h
theorem BN {g:Gr} (hm:aO g=true) {y:Nat} (hy:y<g.n.toNat):(uu g).getD y false=decide (0<(b8 g (aG g)).getD y 0):=by
 rw [j9 hy,Bool.eq_iff_iff,BM hm hy,decide_eq_true_eq,nR hm hy]
theorem start_eq {g:Gr} (hm:aO g=true):(bJ (fun n=>decide (0<n)) (b8 g (aG g))= -1∧CV g=g.n)∨∃a:Nat,a<g.n.toNat∧bJ (fun n=>decide (0<n)) (b8 g (aG g))=a∧CV g=a∧(a:Int)∉aG g:=by
 have hlf:(uu g).length=g.n.toNat:=leftK_length
 rcases fy (f:=fun n:Int=>decide (0<n)) (l:=b8 g (aG g)) 0 with ⟨h1,h2⟩|⟨k,h1,h2,h3,h4⟩
 ·refine .inl ⟨h1, ?_⟩
  have:bJ (fun b:Bool=>b) (uu g)= -1:=b9 false fun j hj=>by
   rw [hlf] at hj
   rw [BN hm hj]
   exact h2 _ (by rw [List.getD_eq_getElem?_getD,jB hj];exact List.mem_of_getElem? (jB hj))
  unfold CV;rw [this,if_pos (by omega)]
 ·rw [wts_length] at h2
  refine .inr ⟨k,h2,h1, ?_, ?_⟩
  ·have:bJ (fun b:Bool=>b) (uu g)=k:=cZ (d:=false) (by omega) (fun j hj=>by
    rw [BN hm (by omega)];exact h4 j hj) (by rw [BN hm h2];exact h3)
   unfold CV;rw [this,if_neg (by omega)]
  ·rw [← nR hm h2]
   rw [j9 h2] at h3
   exact of_decide_eq_true h3
def Q (g:Gr) (a:Nat) (t:Int):Prop:=∃i,i<g.es.length∧hd g i=(a:Int)∧tl g i=t∧t∉aG g
theorem bw {g:Gr} (hm:aO g=true) {i:Nat} (hi:i<g.es.length):0≤tl g i∧tl g i<g.n:=(c9 hm hi).1
theorem bL {g:Gr} (hm:aO g=true) {i:Nat} (hi:i<g.es.length):0≤hd g i∧hd g i<g.n:=(c9 hm hi).2
theorem zN {g:Gr} (hm:aO g=true) {i:Nat} (hi:i<g.es.length):0<(b8 g (aG g)).getD (tl g i).toNat 0↔tl g i∉aG g:=by
 have h:=bw hm hi
 have e:((tl g i).toNat:Int)=tl g i:=by omega
 rw [j9 (by omega),nR hm (by omega),e]
theorem oX {g:Gr} (hm:aO g=true):∀(l:List Int) (b:Int),(∀e∈l,∃i:Nat,e=i∧i<g.es.length)→
 (b= -1∨0≤b)→(l.foldl (eo g (b8 g (aG g))) b=b∨∃i:Nat,(i:Int)∈l∧tl g i∉aG g∧l.foldl (eo g (b8 g (aG g))) b=tl g i)∧(0≤b→l.foldl (eo g (b8 g (aG g))) b≤b)∧
   (∀i:Nat,(i:Int)∈l→tl g i∉aG g→0≤l.foldl (eo g (b8 g (aG g))) b∧l.foldl (eo g (b8 g (aG g))) b≤tl g i)
 | [],b,_,_=>⟨.inl rfl,fun _=>Int.le_refl _,by simp⟩
 |e::l,b,he,hb=>by
  obtain ⟨i,rfl,hi⟩:=he e List.mem_cons_self
  have htr:=bw hm hi
  have hw:=zN hm hi
  have hstep:eo g (b8 g (aG g)) b (i:Int)=if tl g i∉aG g∧(b<0∨tl g i<b) then tl g i else b:=by
   simp only [eo,Int.toNat_natCast,hw]
  have hb':eo g (b8 g (aG g)) b (i:Int)= -1∨0≤eo g (b8 g (aG g)) b (i:Int):=by
   rw [hstep];split
   ·exact .inr htr.1
   ·exact hb
  obtain ⟨h1,h2,h3⟩:=oX hm l (eo g (b8 g (aG g)) b (i:Int)) (fun e h=>he e (List.mem_cons_of_mem _ h)) hb'
  simp only [List.foldl_cons]
  generalize hr:l.foldl (eo g (b8 g (aG g))) (eo g (b8 g (aG g)) b (i:Int))=r at h1 h2 h3 ⊢
  refine ⟨?_, ?_, ?_⟩
  ·rcases h1 with h1|⟨j,hj,h4,h5⟩
   ·rw [hstep] at h1
    split at h1
    ·rename_i hc
     exact .inr ⟨i,by simp,hc.1,h1⟩
    ·exact .inl h1
   ·exact .inr ⟨j,by simp [hj],h4,h5⟩
  ·intro h0
   rw [hstep] at h2
   split at h2
   ·rename_i hc;have:=h2 htr.1;omega
   ·exact h2 h0
  ·intro j hj hjn
   rcases List.mem_cons.1 hj with hj|hj
   ·have:j=i:=Int.ofNat.inj hj
    subst this
    rw [hstep] at h1 h2
    split at h1
    ·rename_i hc
     rw [if_pos hc] at h2
     have:=h2 htr.1
     rcases h1 with h1|⟨q,hq,h4,h5⟩
     ·omega
     ·obtain ⟨i',e',hi'⟩:=he q (List.mem_cons_of_mem _ hq)
      have:q=i':=Int.ofNat.inj e'
      subst this
      have:=bw hm hi';omega
    ·rename_i hc
     rw [if_neg hc] at h2
     have FX:¬(b<0∨tl g j<b):=fun h=>hc ⟨hjn,h⟩
     have:=h2 (by omega)
     rcases h1 with h1|⟨q,hq,h4,h5⟩
     ·omega
     ·obtain ⟨i',e',hi'⟩:=he q (List.mem_cons_of_mem _ hq)
      have:q=i':=Int.ofNat.inj e'
      subst this
      have:=bw hm hi';omega
   ·exact h3 j hj hjn
theorem qW {g:Gr} (hm:aO g=true) {a:Nat} (h:∃t,Q g a t):Q g a (gY g (b8 g (aG g)) a)∧∀t,Q g a t→gY g (b8 g (aG g)) a≤t:=by
 have hin:∀i,i<g.es.length→hd g i=(a:Int)→(i:Int)∈nO g a:=by
  intro i hi hh
  simp only [nO,ej,List.mem_map,List.mem_filter,List.mem_range,decide_eq_true_eq]
  exact ⟨i,⟨hi,hh⟩,rfl⟩
 obtain ⟨h1,_,h3⟩:=oX hm (nO g a) (-1) BH (.inl rfl)
 have hG:gY g (b8 g (aG g)) a=(nO g a).foldl (eo g (b8 g (aG g))) (-1):=by simp [gY,sZ]
 rw [← hG] at h1 h3
 have hle:∀t,Q g a t→0≤gY g (b8 g (aG g)) a∧gY g (b8 g (aG g)) a≤t:=by
  rintro t ⟨i,h4,h5,rfl,h6⟩
  exact h3 i (hin i h4 h5) h6
 obtain ⟨t,ht⟩:=h
 have h0:=(hle t ht).1
 refine ⟨?_,fun t ht=>(hle t ht).2⟩
 rcases h1 with h1|⟨i,hi,h4,h5⟩
 ·omega
 ·obtain ⟨i',e',hi',hh⟩:=ur hi
  have:i=i':=Int.ofNat.inj e'
  subst this
  exact ⟨i,hi',hh,h5.symm,by rw [h5];exact h4⟩
theorem qX {g:Gr} (hm:aO g=true) {a:Nat} :∀k,k≤g.es.length→(dz g a k=g.n∨Q g a (dz g a k))∧dz g a k≤g.n∧∀i,i<k→hd g i=(a:Int)→tl g i∉aG g→dz g a k≤tl g i
 |0,_=>⟨.inl rfl,Int.le_refl _,by simp⟩
 |k+1,hk=>by
  obtain ⟨h1,h2,h3⟩:=qX hm (a:=a) k (by omega)
  have htr:=bw hm (i:=k) (by omega)
  have e:((tl g k).toNat:Int)=tl g k:=by omega
  have hlf:=BM hm (y:=(tl g k).toNat) (by omega)
  rw [e] at hlf
  rw [lU]
  unfold uv
  split
  ·rename_i hc0
   have hc:hd g k=(a:Int)∧tl g k∉aG g:=⟨hc0.1,hlf.1 hc0.2⟩
   refine ⟨?_,by omega, ?_⟩
   ·by_cases hle:dz g a k≤tl g k
    ·rw [Int.min_eq_left hle];exact h1
    ·rw [Int.min_eq_right (by omega)];exact .inr ⟨k,by omega,hc.1,rfl,hc.2⟩
   ·intro i hi hh hn
    by_cases hik:i=k
    ·subst hik;omega
    ·have:=h3 i (by omega) hh hn;omega
  ·rename_i hc
   refine ⟨h1,h2, ?_⟩
   intro i hi hh hn
   by_cases hik:i=k
   ·subst hik;exact absurd ⟨hh,hlf.2 hn⟩ hc
   ·exact h3 i (by omega) hh hn
theorem back_eq {g:Gr} (hm:aO g=true) {a:Nat} (h:∃t,Q g a t):gY g (b8 g (aG g)) a=dz g a g.es.length∧Q g a (dz g a g.es.length):=by
 obtain ⟨h1,h2⟩:=qW hm h
 obtain ⟨h3,h4,h5⟩:=qX hm (a:=a) g.es.length (Nat.le_refl _)
 have hb:dz g a g.es.length≤gY g (b8 g (aG g)) a:=by
  obtain ⟨i,h6,h7,h8,h9⟩:=h1
  rw [← h8] at h9 ⊢
  exact h5 i h6 h7 h9
 have hlt:gY g (b8 g (aG g)) a<g.n:=by
  obtain ⟨i,h6,h7,h8,h9⟩:=h1
  rw [← h8];exact (bw hm h6).2
 rcases h3 with h3|h3
 ·omega
 ·exact ⟨by have:=h2 _ h3;omega,h3⟩
theorem Fj {g:Gr} (hm:aO g=true) {a:Nat} (ha:a<g.n.toNat) (h:(a:Int)∉aG g):∃t,Q g a t:=by
 have hw:=(nR hm ha).2 h
 simp only [wt,h,if_false] at hw
 obtain ⟨i,hi,hp⟩:=List.countP_pos_iff.1 (Int.natCast_pos.1 hw)
 simp only [Bool.and_eq_true,decide_eq_true_eq,Bool.not_eq_true',decide_eq_false_iff_not] at hp
 exact ⟨tl g i,i,List.mem_range.1 hi,hp.1,rfl,hp.2⟩
theorem BO {g:Gr} (hm:aO g=true):∀(f f':Nat) (way:List Int) (a:Nat),way.Nodup→a<g.n.toNat→(a:Int)∉aG g→left g way≤f→left g way≤f'→
 jD g (b8 g (aG g)) f way a=lT g f' way a∧(0≤(lT g f' way a).2∧(lT g f' way a).2∈(lT g f' way a).1∧(lT g f' way a).1.Nodup)
 |f,f',way,a,hd,ha,hn,h1,h2=>by
  by_cases hmem:(a:Int)∈way
  ·rw [iZ (.inr hmem),vV hmem]
   exact ⟨rfl,by simp only;omega,hmem,hd⟩
  ·have hla:=gH ha hmem
   cases f with
   |zero=>omega
   |succ f=>
    cases f' with
    |zero=>omega
    |succ f'=>
     obtain ⟨hb,hq⟩:=back_eq hm (Fj hm ha hn)
     obtain ⟨i,hi,_,ht,IX⟩:=hq
     have htr:=bw hm hi
     rw [ht] at htr
     obtain ⟨b,IY⟩:∃b:Nat,dz g a g.es.length=b:=⟨(dz g a g.es.length).toNat,by omega⟩
     rw [IY] at hb IX htr
     have hd':(way++ [(a:Int)]).Nodup:=by
      rw [List.nodup_append]
      refine ⟨hd,by simp, ?_⟩
      intro x hx y hy e
      simp at hy
      rw [← hy, ← e] at hmem;exact hmem hx
     have ih:=BO hm f f' (way++ [(a:Int)]) b hd' (by omega) IX (by omega) (by omega)
     have e1:jD g (b8 g (aG g)) (f+1) way a=jD g (b8 g (aG g)) f (way++ [(a:Int)]) b:=by
      simp only [jD];rw [if_neg (by intro h;rcases h with h|h;omega;exact hmem h),hb]
     have e2:lT g (f'+1) way a=lT g f' (way++ [(a:Int)]) b:=by
      simp only [lT];rw [if_neg hmem,IY]
     rw [e1,e2];exact ih
theorem uz {g:Gr} {way:List Int} :left g way≤g.n.toNat:=by
 unfold left
 have:=List.countP_le_length (p:=fun y:Nat=> !decide ((y:Int)∈way)) (l:=List.range g.n.toNat)
 simpa using this
theorem qY {l:List Int} (h:l.Nodup) {i j:Nat} (hi:i<l.length) (hj:j<l.length) (e:l.getD i 0=l.getD j 0):i=j:=by
 rw [List.getD_eq_getElem?_getD,List.getD_eq_getElem?_getD,List.getElem?_eq_getElem hi,List.getElem?_eq_getElem hj] at e
 exact (List.getElem_inj h).1 e
theorem BP {l:List Int} {i:Nat} (hi:i<l.length):l.reverse.getD i 0=l.getD (l.length - 1 - i) 0:=by
 rw [List.getD_eq_getElem?_getD,List.getD_eq_getElem?_getD,List.getElem?_reverse hi]
theorem DF {l:List Int} (hd:l.Nodup) (h0:0<l.length):jO l.reverse=s6 l:=by
 obtain ⟨m,uZ,hm2,Oh⟩:=c8 (gI h0)
 have JS:0<l.reverse.length:=by simpa using h0
 obtain ⟨k,ya,hk2,F5⟩:=c8 (gI JS)
 have hmin:gh l.reverse=gh l:=by
  have h1:=uw (List.mem_reverse.2 (gI h0))
  have h2:=uw (List.mem_reverse.1 (gI JS))
  omega
 rw [List.length_reverse] at hk2
 have hk:l.length - 1 - k=m:=qY hd (by omega) hm2 (by rw [← BP hk2,F5,Oh,hmin])
 have e1:jO l.reverse=l.reverse.drop k++l.reverse.take k:=by
  simp only [jO,ya,Int.toNat_natCast]
 have e2:s6 l=pn l m l.length:=by simp only [s6,uZ,Int.toNat_natCast]
 rw [e1,e2]
 refine List.ext_getElem? fun i=> ?_
 by_cases hi:i<l.length
 ·have hr:(pn l m l.length)[i]? =some (l.getD ((m+l.length - i) % l.length) 0):=by
   simp [pn,List.getElem?_range hi]
  rw [hr]
  by_cases hik:i<l.length - k
  ·rw [List.getElem?_append_left (by simp;omega),List.getElem?_drop,List.getElem?_reverse (by omega)]
   have:(m+l.length - i) % l.length=m - i:=by
    rw [show m+l.length - i=(m - i)+l.length from by omega,Nat.add_mod_right,Nat.mod_eq_of_lt (by omega)]
   rw [this,show l.length - 1 - (k+i)=m - i from by omega,List.getD_eq_getElem?_getD,List.getElem?_eq_getElem (by omega)];rfl
  ·rw [List.getElem?_append_right (by simp;omega),List.length_drop,List.length_reverse,List.getElem?_take,if_pos (by omega),List.getElem?_reverse (by omega)]
   have:(m+l.length - i) % l.length=m+l.length - i:=Nat.mod_eq_of_lt (by omega)
   rw [this,show l.length - 1 - (i - (l.length - k))=m+l.length - i from by omega,List.getD_eq_getElem?_getD,List.getElem?_eq_getElem (by omega)];rfl
 ·rw [List.getElem?_eq_none (by simp;omega),List.getElem?_eq_none (by simp [pn];omega)]
theorem Fk {g:Gr} (hm:aO g=true):iY g=kj g:=by
 have hn:=aW hm
 rcases start_eq hm with ⟨h1,h2⟩|⟨a,ha,h1,h2,h3⟩
 ·have:iX g=([], -1):=by
   unfold iX;rw [h1];exact iZ (.inl (by omega)) _
  simp only [iY,kj,this]
  rw [if_pos (by omega),if_pos h2]
 ·obtain ⟨he,h4,h5,h6⟩:=BO hm g.n.toNat (g.n.toNat+1) [] a (by simp) ha h3 uz (Nat.le_succ_of_le uz)
  have hw:iX g=mP g:=by
   unfold iX mP;rw [h1,h2];exact he
  have hr:lT g (g.n.toNat+1) [] a=mP g:=by unfold mP;rw [h2]
  rw [hr] at h4 h5 h6
  simp only [iY,kj,hw]
  rw [if_neg (by omega),if_neg (by omega)]
  obtain ⟨k,ya,hk2,_⟩:=c8 h5
  rw [ya,Int.toNat_natCast]
  exact DF (List.Pairwise.drop h6) (by simp;omega)
theorem Fl (g:Gr):bH g=fe g:=by
 unfold bH fe
 cases hm:aO g with
 |false=>simp [fO,hm]
 |true=>rw [Fk hm]
end Go.Ab
end
section
namespace Go.Ab
end Go.Ab
end
section
namespace Go.Ab
open Go.Proofs
attribute [local congr] ACall.congr
set_option maxRecDepth 10000
def g0:Gr:=⟨3, [(0,1),(1,2),(2,1)]⟩
end Go.Ab
end
section
namespace Go.Ab
open Go.Proofs
attribute [local congr] ACall.congr
set_option maxRecDepth 10000
def mQ (g:Gr):Bool:=decide (g.n≤((aG g).length:Int))
def bI (g:Gr):List Int:=if mQ g then aG g else []
theorem xJ (g:Gr) (hm:aO g=true):Spec Tryz.prog 27 (Args [.d (vw g)]) [] (.tup [.d (sI (bI g)),eB (mQ g)]) []:=by
 (refine Spec.intro (C:=T.cfg [] []) (rs:= [.t 2, .t 3]) (T.ak _ _) Tryz.func27 rfl rfl Tryz.ntmps27 Tryz.results27 (by simp [AObj.isNest]) (by simp [AObj.isNest]) (by kernel_rfl) ?_;intro X hX hP hC aK aL vals hA;refine ⟨_,by simp,hA, ?_⟩;have af:X.P.follows .mixedOrders=true:=(by rw [hP];exact T.mixed);clear aK aL)
 cases hok:mQ g with
 |true=>
  have hlt:decide (((aG g).length:Int)<g.n)=false:=decide_eq_false (by have:=of_decide_eq_true hok;omega)
  repeat' (first|fail|((first|((with_reducible (first|apply oA|apply oB));exact rfl;intro K hK)|(refine hK _ ?_;clear hK K)|((with_reducible (first|apply oG|apply oH));iterate 3 exact rfl)|((with_reducible apply oI);(iterate 2 exact rfl);intro K hK)|(with_reducible (first|apply wI|apply wJ|apply wK)));try simp only [go_sem,simprocAttr,hlt])|fail|(with_reducible (first|apply oC|apply oJ|exact oK|apply wA|apply wB|apply wC hX hC|apply wD hX hC|apply wE hX hC af|apply wF hX hC af|apply wG|apply wH|apply And.intro))|((with_reducible refine oD ?_ ?_);first|fail|kernel_rfl)|((with_reducible (first|apply oE|apply oF));(iterate 3 exact rfl);all_goals (intro h;first|(exact absurd h (by decide))|((try simp only [go_sem,simprocAttr,hlt] at h);(try with_reducible intro K hK);simp only [go_sem,simprocAttr,hlt])))|((first|((with_reducible apply wL);exact rfl)|((with_reducible apply wM);exact rfl));all_goals (try ((with_reducible intro h);first|(exact absurd h (by decide))|(try simp only [go_sem,simprocAttr,hlt] at h))))|omega|((first|first|refine aa hX hC hP (fN g hm) rfl rfl rfl (by simp only [go_sem,simprocAttr,hlt]) rfl ?_);try simp only [go_sem,simprocAttr,hlt])|(intro h))
  simp [bI,hok]
 |false=>
  have hlt:decide (((aG g).length:Int)<g.n)=true:=decide_eq_true (by have:=of_decide_eq_false hok;omega)
  repeat' (first|fail|((first|((with_reducible (first|apply oA|apply oB));exact rfl;intro K hK)|(refine hK _ ?_;clear hK K)|((with_reducible (first|apply oG|apply oH));iterate 3 exact rfl)|((with_reducible apply oI);(iterate 2 exact rfl);intro K hK)|(with_reducible (first|apply wI|apply wJ|apply wK)));try simp only [go_sem,simprocAttr,hlt])|fail|(with_reducible (first|apply oC|apply oJ|exact oK|apply wA|apply wB|apply wC hX hC|apply wD hX hC|apply wE hX hC af|apply wF hX hC af|apply wG|apply wH|apply And.intro))|((with_reducible refine oD ?_ ?_);first|fail|kernel_rfl)|((with_reducible (first|apply oE|apply oF));(iterate 3 exact rfl);all_goals (intro h;first|(exact absurd h (by decide))|((try simp only [go_sem,simprocAttr,hlt] at h);(try with_reducible intro K hK);simp only [go_sem,simprocAttr,hlt])))|((first|((with_reducible apply wL);exact rfl)|((with_reducible apply wM);exact rfl));all_goals (try ((with_reducible intro h);first|(exact absurd h (by decide))|(try simp only [go_sem,simprocAttr,hlt] at h))))|omega|((first|first|refine aa hX hC hP (fN g hm) rfl rfl rfl (by simp only [go_sem,simprocAttr,hlt]) rfl ?_);try simp only [go_sem,simprocAttr,hlt])|(intro h))
  simp [bI,hok]
def jc (l:List Int) (n:Int):Bool:=decide ((l.length:Int)=n)&&(List.range n.toNat).all fun x:Nat=>decide ((x:Int)∈l)
end Go.Ab
end
section
namespace Go.Ab
open Go.Proofs
attribute [local congr] ACall.congr
set_option maxRecDepth 10000
theorem count_le:∀(xs l:List Int),xs.Nodup→(∀x∈xs,x∈l)→xs.length≤l.countP (fun y=>decide (y∈xs))
 | [],_,_,_=>Nat.zero_le _
 |a::r,l,hd,h=>by
  obtain ⟨h1,h2⟩:=List.nodup_cons.1 hd
  have ih:=count_le r l h2 fun x hx=>h x (List.mem_cons_of_mem _ hx)
  have hp:=jC (p:=fun y=>decide (y∈a::r)) (q:=fun y=>decide (y∈r)) (r:=fun y=>decide (y=a)) (l:=l) (fun y _=>by
   by_cases hy:y=a
   ·subst hy;simp [h1]
   ·simp [hy])
  have ha:0<l.countP (fun y=>decide (y=a)):=List.countP_pos_iff.2 ⟨a,h a List.mem_cons_self,by simp⟩
  rw [hp,List.length_cons];omega
def iB (n:Nat):List Int:=(List.range n).map Int.ofNat
theorem dB {n:Nat} {x:Int} :x∈iB n↔0≤x∧x<n:=by
 simp only [iB,List.mem_map,List.mem_range]
 constructor
 ·rintro ⟨a,h,rfl⟩;simp;omega
 ·intro h;exact ⟨x.toNat,by omega,by simp;omega⟩
theorem jE {n:Nat} :(iB n).Nodup:=by
 unfold iB
 exact List.Pairwise.map _ (fun a b h e=>h (Int.ofNat.inj e)) List.nodup_range
theorem bM {l:List Int} {n:Int} :jc l n=true↔(l.length:Int)=n∧∀x∈iB n.toNat,x∈l:=by
 simp only [jc,Bool.and_eq_true,decide_eq_true_eq,List.all_eq_true,List.mem_range]
 constructor
 ·rintro ⟨h1,h2⟩
  refine ⟨h1,fun x hx=> ?_⟩
  obtain ⟨a,b⟩:=dB.1 hx
  have:=h2 x.toNat (by omega)
  rwa [show ((x.toNat:Nat):Int)=x from by omega] at this
 ·rintro ⟨h1,h2⟩
  exact ⟨h1,fun x hx=>h2 _ (dB.2 (by omega))⟩
theorem kq {l:List Int} {n:Int} (h:jc l n=true):∀x∈l,0≤x∧x<n:=by
 obtain ⟨h1,h2⟩:=bM.1 h
 have hc:=count_le (iB n.toNat) l jE h2
 have hlen:(iB n.toNat).length=n.toNat:=by simp [iB]
 have he:l.countP (fun y=>decide (y∈iB n.toNat))=l.length:=by
  have:=List.countP_le_length (p:=fun y=>decide (y∈iB n.toNat)) (l:=l)
  omega
 intro x hx
 have:=List.countP_eq_length.1 he x hx
 have:=dB.1 (of_decide_eq_true this)
 omega
def vX (n:Nat) (l:List Int):Nat→List Int
 |0=>List.replicate n 0
 |k+1=>(vX n l k).set (l.getD k 0).toNat k
theorem atK_length {n:Nat} {l:List Int} :∀ {k:Nat},(vX n l k).length=n
 |0=>by simp [vX]
 |k+1=>by simp [vX,atK_length (k:=k)]
def BQ (g:Gr) (l:List Int) (j:Nat):Bool:=(List.range j).all fun i=>decide ((vX g.n.toNat l l.length).getD (tl g i).toNat 0<(vX g.n.toNat l l.length).getD (hd g i).toNat 0)
def uA (g:Gr) (l:List Int):Bool:=jc l g.n&&BQ g l g.es.length
attribute [go_sem] atK_length
end Go.Ab
end
section
namespace Go.Ab
def PD (g:Gr) (out:List Int):Prop:=∀p,p<out.length→out.getD p 0=c7 (b8 g (out.take p)) 0∧0≤out.getD p 0
theorem mR {g:Gr} (hm:aO g=true) (h:mQ g=true):jc (aG g) g.n=true:=by
 obtain ⟨hP,_,_⟩:=dA hm
 have hn:=aW hm
 have hf:=hP.fuel
 have hok:=of_decide_eq_true h
 refine bM.2 ⟨by omega,fun x hx=> ?_⟩
 obtain ⟨h1,h2⟩:=dB.1 hx
 have h0:(List.range g.n.toNat).countP (fun y:Nat=> !decide ((y:Int)∈aG g))=0:=by omega
 have:=List.countP_eq_zero.1 h0 x.toNat (List.mem_range.2 (by omega))
 rw [show ((x.toNat:Nat):Int)=x from by omega] at this
 simpa using this
theorem yD {g:Gr} (hm:aO g=true) (h:mQ g=false):∃y:Nat,y<g.n.toNat∧(y:Int)∉aG g:=by
 obtain ⟨hP,_,_⟩:=dA hm
 have hn:=aW hm
 have hf:=hP.fuel
 have hok:=of_decide_eq_false h
 have h0:0<(List.range g.n.toNat).countP (fun y:Nat=> !decide ((y:Int)∈aG g)):=by omega
 obtain ⟨y,hy,hp⟩:=List.countP_pos_iff.1 h0
 exact ⟨y,List.mem_range.1 hy,by simpa using hp⟩
theorem BR {g:Gr} {l:List Int} (h:uA g l=true) {i:Nat} (hi:i<g.es.length):(vX g.n.toNat l l.length).getD (tl g i).toNat 0<(vX g.n.toNat l l.length).getD (hd g i).toNat 0:=by
 simp only [uA,Bool.and_eq_true] at h
 have:=List.all_eq_true.1 h.2 i (List.mem_range.2 hi)
 exact of_decide_eq_true this
theorem qZ {n:Nat} {l:List Int} :∀ {k:Nat} {y:Nat},0≤(vX n l k).getD y 0
 |0,y=>by
  simp only [vX,List.getD_eq_getElem?_getD,List.getElem?_replicate]
  split<;>simp
 |k+1,y=>by
  have ih:=qZ (n:=n) (l:=l) (k:=k) (y:=y)
  simp only [vX,List.getD_eq_getElem?_getD,List.getElem?_set] at ih ⊢
  split
  ·split<;>simp
  ·exact ih
theorem uB {l:List Int} {i j:Nat} (hij:i<j) (hj:j<l.length) (e:l.getD i 0=l.getD j 0):∀x∈l,x∈l.eraseIdx i:=by
 intro x hx
 obtain ⟨k,hk,rfl⟩:=List.getElem_of_mem hx
 rw [List.mem_iff_getElem?]
 rcases Nat.lt_trichotomy k i with h|h|h
 ·exact ⟨k,by rw [List.getElem?_eraseIdx,if_pos h,List.getElem?_eq_getElem hk]⟩
 ·subst h
  refine ⟨j - 1, ?_⟩
  rw [List.getElem?_eraseIdx,if_neg (by omega),show j - 1+1=j from by omega,List.getElem?_eq_getElem hj]
  rw [List.getD_eq_getElem?_getD,List.getD_eq_getElem?_getD,List.getElem?_eq_getElem hk,List.getElem?_eq_getElem hj] at e
  exact congrArg some e.symm
 ·exact ⟨k - 1,by rw [List.getElem?_eraseIdx,if_neg (by omega),show k - 1+1=k from by omega,List.getElem?_eq_getElem hk]⟩
theorem gM {l:List Int} {n:Int} (h:jc l n=true) {i j:Nat} (hi:i<l.length) (hj:j<l.length) (e:l.getD i 0=l.getD j 0):i=j:=by
 obtain ⟨h1,h2⟩:=bM.1 h
 have key:∀i j,i<j→j<l.length→l.getD i 0=l.getD j 0→False:=by
  intro i j hij hj e
  have hc:=count_le (iB n.toNat) (l.eraseIdx i) jE fun x hx=>uB hij hj e x (h2 x hx)
  have hlen:(iB n.toNat).length=n.toNat:=by simp [iB]
  have hle:=List.countP_le_length (p:=fun y=>decide (y∈iB n.toNat)) (l:=l.eraseIdx i)
  rw [List.length_eraseIdx_of_lt (by omega)] at hle
  omega
 rcases Nat.lt_trichotomy i j with h|h|h
 ·exact (key i j h hj e).elim
 ·exact h
 ·exact (key j i h hi e.symm).elim
theorem uC {l:List Int} {n:Int} (h:jc l n=true) {p:Nat} :∀ {k:Nat},p<k→k≤l.length→(vX n.toNat l k).getD (l.getD p 0).toNat 0=p
 |0,hp,_=>by omega
 |k+1,hp,hk=>by
  have hlo:=kq h
  have hp1:=hlo _ (gL (l:=l) (m:=p) (by omega))
  have ya:=hlo _ (gL (l:=l) (m:=k) (by omega))
  simp only [vX,List.getD_eq_getElem?_getD (l:=(vX n.toNat l k).set _ _),List.getElem?_set,atK_length]
  by_cases hpk:p=k
  ·subst hpk
   rw [if_pos rfl,if_pos (by omega)];rfl
  ·have hne:¬(l.getD k 0).toNat=(l.getD p 0).toNat:=fun e=>hpk (gM h (i:=p) (j:=k) (by omega) (by omega) (by omega))
   rw [if_neg hne, ← List.getD_eq_getElem?_getD]
   exact uC h (by omega) (by omega)
theorem zO {g:Gr} (hm:aO g=true) (h:mQ g=true):uA g (aG g)=true:=by
 have he:=mR hm h
 obtain ⟨hP,hO,_⟩:=dA hm
 have hall:=(bM.1 he).2
 simp only [uA,he,Bool.true_and,BQ,List.all_eq_true,List.mem_range,decide_eq_true_eq]
 intro i hi
 have hh:=bL hm hi
 obtain ⟨p,hp,e⟩:=List.getElem_of_mem (hall (hd g i) (dB.2 (by omega)))
 have e':(aG g).getD p 0=hd g i:=by rw [List.getD_eq_getElem?_getD,List.getElem?_eq_getElem hp];exact e
 have ht:=hO p hp i hi e'.symm
 rw [List.mem_iff_getElem?] at ht
 obtain ⟨q,hq⟩:=ht
 rw [List.getElem?_take] at hq
 split at hq
 ·rename_i Og
  have e2:(aG g).getD q 0=tl g i:=by rw [List.getD_eq_getElem?_getD,hq];rfl
  rw [← e', ← e2,uC he hp (Nat.le_refl _),uC he (by omega) (Nat.le_refl _)]
  omega
 ·cases hq
end Go.Ab
end
section
namespace Go.Ab
open Go.Proofs
attribute [local congr] ACall.congr
set_option maxRecDepth 10000
end Go.Ab
end
section
namespace Go.Ab
open Go.Proofs
attribute [local congr] ACall.congr
set_option maxRecDepth 10000
def gz:Gr:=⟨0, []⟩
def vz:D:= .pt [.sc (.int .i64 0), .sl 2 [], .sl 1 [], .sl 1 []]
def bf (f:Edge→Int) (g:Gr) (x:Int):List Int:=if 0≤x∧x<g.n then aJ f g.es g.es.length x else []
theorem q6 (f:Edge→Int) (g:Gr) (hm:aO g=true) (x:Int):Spec Tryz.prog 105 (Args [.d (vw g), .d (.sl 1 (DC f g)),eN x]) [] (.d (sI (bf f g x))) []:=by
 rw [ah]
 have hn:=aW hm
 have hl':(aJ f g.es g.es.length x).length≤1000000:=by have:=gy (f:=f) (es:=g.es) (k:=g.es.length) (x:=x);omega
 (refine Spec.intro (C:=T.cfg [] []) (rs:= [.t 6]) (T.ak _ _) Tryz.func105 rfl rfl Tryz.ntmps105 Tryz.results105 (by simp [AObj.isNest]) (by simp [AObj.isNest]) (by kernel_rfl) ?_;intro X hX hP hC aK aL vals hA;refine ⟨_,by simp,hA, ?_⟩;have af:X.P.follows .mixedOrders=true:=(by rw [hP];exact T.mixed);clear aK aL)
 by_cases hx:0≤x∧x<g.n
 ·have hv:=mN (f:=f) (g:=g) (x:=x.toNat) (by omega)
  have he:ej f g.es g.es.length x.toNat=aJ f g.es g.es.length x:=by rw [kf,show ((x.toNat:Nat):Int)=x from by omega]
  rw [he] at hv
  have au:decide (x<0)=false:=decide_eq_false (by omega)
  have an:decide (g.n≤x)=false:=decide_eq_false (by omega)
  have ht:bf f g x=aJ f g.es g.es.length x:=if_pos hx
  repeat' (first|fail|((first|((with_reducible (first|apply oA|apply oB));exact rfl;intro K hK)|(refine hK _ ?_;clear hK K)|((with_reducible (first|apply oG|apply oH));iterate 3 exact rfl)|((with_reducible apply oI);(iterate 2 exact rfl);intro K hK)|(with_reducible (first|apply wI|apply wJ|apply wK)));try simp only [go_sem,simprocAttr,hv,au,an])|fail|(with_reducible (first|apply oC|apply oJ|exact oK|apply wA|apply wB|apply wC hX hC|apply wD hX hC|apply wE hX hC af|apply wF hX hC af|apply wG|apply wH|apply And.intro))|((with_reducible refine oD ?_ ?_);first|fail|kernel_rfl)|((with_reducible (first|apply oE|apply oF));(iterate 3 exact rfl);all_goals (intro h;first|(exact absurd h (by decide))|((try simp only [go_sem,simprocAttr,hv,au,an] at h);(try with_reducible intro K hK);simp only [go_sem,simprocAttr,hv,au,an])))|((first|((with_reducible apply wL);exact rfl)|((with_reducible apply wM);exact rfl));all_goals (try ((with_reducible intro h);first|(exact absurd h (by decide))|(try simp only [go_sem,simprocAttr,hv,au,an] at h))))|omega|((first|first|refine aa hX hC hP (j8 (aJ f g.es g.es.length x) hl') rfl rfl rfl (by simp only [go_sem,simprocAttr,hv,au,an]) rfl ?_);try simp only [go_sem,simprocAttr,hv,au,an])|(intro h))
  simp [ht]
 ·have ht:bf f g x= []:=if_neg hx
  repeat' (first|fail|((first|((with_reducible (first|apply oA|apply oB));exact rfl;intro K hK)|(refine hK _ ?_;clear hK K)|((with_reducible (first|apply oG|apply oH));iterate 3 exact rfl)|((with_reducible apply oI);(iterate 2 exact rfl);intro K hK)|(with_reducible (first|apply wI|apply wJ|apply wK)));try simp only [go_sem,simprocAttr,ht])|fail|(with_reducible (first|apply oC|apply oJ|exact oK|apply wA|apply wB|apply wC hX hC|apply wD hX hC|apply wE hX hC af|apply wF hX hC af|apply wG|apply wH|apply And.intro))|((with_reducible refine oD ?_ ?_);first|fail|kernel_rfl)|((with_reducible (first|apply oE|apply oF));(iterate 3 exact rfl);all_goals (intro h;first|(exact absurd h (by decide))|((try simp only [go_sem,simprocAttr,ht] at h);(try with_reducible intro K hK);simp only [go_sem,simprocAttr,ht])))|((first|((with_reducible apply wL);exact rfl)|((with_reducible apply wM);exact rfl));all_goals (try ((with_reducible intro h);first|(exact absurd h (by decide))|(try simp only [go_sem,simprocAttr,ht] at h))))|omega|((first|first|refine aa hX hC hP (j8 (aJ f g.es g.es.length x) hl') rfl rfl rfl (by simp only [go_sem,simprocAttr,ht]) rfl ?_);try simp only [go_sem,simprocAttr,ht])|(intro h))
theorem gA (g:Gr) (hm:aO g=true) (x:Int):Spec Tryz.prog 78 (Args [.d (vw g),eN x]) [] (.d (sI (bf (·.1) g x))) []:=by
 (refine Spec.intro (C:=T.cfg [] []) (rs:= [.t 4]) (T.ak _ _) Tryz.func78 rfl rfl Tryz.ntmps78 Tryz.results78 (by simp [AObj.isNest]) (by simp [AObj.isNest]) (by kernel_rfl) ?_;intro X hX hP hC aK aL vals hA;refine ⟨_,by simp,hA, ?_⟩;have af:X.P.follows .mixedOrders=true:=(by rw [hP];exact T.mixed);clear aK aL)
 repeat' (first|fail|((first|((with_reducible (first|apply oA|apply oB));exact rfl;intro K hK)|(refine hK _ ?_;clear hK K)|((with_reducible (first|apply oG|apply oH));iterate 3 exact rfl)|((with_reducible apply oI);(iterate 2 exact rfl);intro K hK)|(with_reducible (first|apply wI|apply wJ|apply wK)));try simp only [go_sem,simprocAttr,ah])|fail|(with_reducible (first|apply oC|apply oJ|exact oK|apply wA|apply wB|apply wC hX hC|apply wD hX hC|apply wE hX hC af|apply wF hX hC af|apply wG|apply wH|apply And.intro))|((with_reducible refine oD ?_ ?_);first|fail|kernel_rfl)|((with_reducible (first|apply oE|apply oF));(iterate 3 exact rfl);all_goals (intro h;first|(exact absurd h (by decide))|((try simp only [go_sem,simprocAttr,ah] at h);(try with_reducible intro K hK);simp only [go_sem,simprocAttr,ah])))|((first|((with_reducible apply wL);exact rfl)|((with_reducible apply wM);exact rfl));all_goals (try ((with_reducible intro h);first|(exact absurd h (by decide))|(try simp only [go_sem,simprocAttr,ah] at h))))|omega|((first|first|refine aa hX hC hP (q6 (·.1) g hm x) rfl rfl rfl (by simp only [go_sem,simprocAttr,ah]) rfl ?_);try simp only [go_sem,simprocAttr,ah])|(intro h))
theorem gN (g:Gr) (hm:aO g=true) (x:Int):Spec Tryz.prog 98 (Args [.d (vw g),eN x]) [] (.d (sI (bf (·.2) g x))) []:=by
 (refine Spec.intro (C:=T.cfg [] []) (rs:= [.t 4]) (T.ak _ _) Tryz.func98 rfl rfl Tryz.ntmps98 Tryz.results98 (by simp [AObj.isNest]) (by simp [AObj.isNest]) (by kernel_rfl) ?_;intro X hX hP hC aK aL vals hA;refine ⟨_,by simp,hA, ?_⟩;have af:X.P.follows .mixedOrders=true:=(by rw [hP];exact T.mixed);clear aK aL)
 repeat' (first|fail|((first|((with_reducible (first|apply oA|apply oB));exact rfl;intro K hK)|(refine hK _ ?_;clear hK K)|((with_reducible (first|apply oG|apply oH));iterate 3 exact rfl)|((with_reducible apply oI);(iterate 2 exact rfl);intro K hK)|(with_reducible (first|apply wI|apply wJ|apply wK)));try simp only [go_sem,simprocAttr,ah])|fail|(with_reducible (first|apply oC|apply oJ|exact oK|apply wA|apply wB|apply wC hX hC|apply wD hX hC|apply wE hX hC af|apply wF hX hC af|apply wG|apply wH|apply And.intro))|((with_reducible refine oD ?_ ?_);first|fail|kernel_rfl)|((with_reducible (first|apply oE|apply oF));(iterate 3 exact rfl);all_goals (intro h;first|(exact absurd h (by decide))|((try simp only [go_sem,simprocAttr,ah] at h);(try with_reducible intro K hK);simp only [go_sem,simprocAttr,ah])))|((first|((with_reducible apply wL);exact rfl)|((with_reducible apply wM);exact rfl));all_goals (try ((with_reducible intro h);first|(exact absurd h (by decide))|(try simp only [go_sem,simprocAttr,ah] at h))))|omega|((first|first|refine aa hX hC hP (q6 (·.2) g hm x) rfl rfl rfl (by simp only [go_sem,simprocAttr,ah]) rfl ?_);try simp only [go_sem,simprocAttr,ah])|(intro h))
end Go.Ab
end
section
namespace Go.Ab
open Go.Proofs
attribute [local congr] ACall.congr
set_option maxRecDepth 10000
end Go.Ab
end
section
namespace Go.Ab
open Go.Proofs
attribute [local congr] ACall.congr
set_option maxRecDepth 10000
def LN (g:Gr) (out:List Int) (x:Nat) (i:Nat):Bool:=(List.range i).all fun j=> !decide (hd g j=(x:Int))||decide (tl g j∈out)
def Oi (g:Gr) (out:List Int) (k:Nat) (f:Bool):Prop:=k≤g.n.toNat∧(if f then 0<k∧wt g out (k - 1)=0∧∀j,j<k - 1→wt g out j≠0 else ∀j,j<k→wt g out j≠0)
def Oj (out:List Int) (k:Nat) (f:Bool):List Int:=if f then out++ [((k - 1:Nat):Int)] else out
end Go.Ab
end
section
namespace Go.Ab
open Go.Proofs
attribute [local congr] ACall.congr
set_option maxRecDepth 10000
theorem yE {g:Gr} (hm:aO g=true):(bI g).length≤64:=by
 unfold bI
 have hf:=(dA hm).1.fuel
 have:=aW hm
 split<;>simp<;>omega
end Go.Ab
end
