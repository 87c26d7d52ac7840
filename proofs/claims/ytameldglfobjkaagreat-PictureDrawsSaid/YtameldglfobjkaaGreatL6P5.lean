/- A part of the proof. -/
import Derived.Lib.AppendZeros
import Derived.Test.YtameldglfobjkaaGreatL6P4
set_option linter.unusedSimpArgs false
set_option linter.unusedVariables false
section
namespace Go.Ab
structure Src (w:World) (E:Env) (sz:Nat) (v:Value) (eC:List (List Value)) (rows:List (List D)):Prop where
 rr:eZ w E sz eC rows
 val:((∃p,v= .slice p 0 0)/\eC= [])\/∃b off c,v= .slice (some ⟨b,off,none⟩) rows.length c/\∀j u,eC.flatten[j]? =some u->w.cell? ⟨b,off+j,none⟩=some u
def cut(sz:Nat):Nat->List Value->List (List Value)
 |0,_=> []
 |n+1,l=>l.take sz::cut sz n (l.drop sz)
theorem Kj(sz:Nat):∀(n:Nat) (l:List Value),(cut sz n l).length=n
 |0,_=>rfl
 |n+1,l=>by simp[cut,Kj sz n]
theorem Kk(sz:Nat):∀(n:Nat) (l:List Value) (i:Nat),i<n->(cut sz n l)[i]? =some ((l.drop (i*sz)).take sz)
 |0,_,i,h=>by omega
 |n+1,l,0,_=>by simp[cut]
 |n+1,l,i+1,h=>by
  simp only[cut,List.getElem?_cons_succ]
  rw[Kk sz n _ i (by omega),List.drop_drop]
  congr 3
  rw[ad6];omega
theorem qC(sz:Nat):∀(n:Nat) (l:List Value),l.length=n*sz->(cut sz n l).flatten=l
 |0,l,h=>by simp at h;simp[cut,h]
 |n+1,l,h=>by
  simp only[cut,List.flatten_cons]
  rw[qC sz n (l.drop sz) (by rw[aeC,h,ad6];omega),afF]
theorem sg{w:World}{E:Env}{sz:Nat}{l:List Value}{rows:List (List D)}(hl:l.length=rows.length*sz)(hsz:∀r∈rows,r.length=sz)
 (h:∀(i j:Nat) (r:List D) (x:D),rows[i]? =some r->r[j]? =some x->∃v,l[i*sz+j]? =some v/\Rd w E.z v x):eZ w E sz (cut sz rows.length l) rows:=by
 refine⟨Kj _ _ _,fun i vs r hi hr=> ?_⟩
 have hil:i<rows.length:=(adh.1 hr).1
 rw[Kk sz _ _ i hil]at hi
 cases hi
 have hle:(i+1)*sz<=rows.length*sz:=adF _ hil
 rw[ad6]at hle
 refine⟨by simp;omega,hsz r (adM hr),fun j x v hj hv=> ?_⟩
 obtain⟨v',NT,hx⟩:=h i j r x hr hj
 rw[adD]at hv
 split at hv
 ·rw[ad3,NT]at hv;cases hv;exact hx
 ·cases hv
theorem Oy{w:World}{E:Env}{sz:Nat}{rows:List (List D)}{v:Value}(h:Rd w E.z v (.sl sz rows)):∃eC,Src w E sz v eC rows:=by
 cases h with
 |nil p=>exact⟨[],eZ.nil w E sz, .inl ⟨⟨p,rfl⟩,rfl⟩⟩
 |sl b off n cap _ _ vs hn hsz hz hcap hc hr=>
  subst hn
  have hlen:((List.range (rows.length*sz)).map vs).length=rows.length*sz:=by simp
  refine⟨cut sz rows.length ((List.range (rows.length*sz)).map vs),sg hlen hsz (fun i j r x hi hj=> ?_), .inr ⟨b,off,cap,rfl,fun j u hu=> ?_⟩⟩
  ·have hil:i<rows.length:=(adh.1 hi).1
   have hjl:j<sz:=by rw[<- hsz r (adM hi)];exact(adh.1 hj).1
   have hle:(i+1)*sz<=rows.length*sz:=adF _ hil
   rw[ad6]at hle
   exact⟨vs (i*sz+j),by rw[adm,adp (by omega)];rfl,hr i j r x hi hj⟩
  ·rw[qC sz _ _ hlen,adm]at hu
   obtain⟨q,hq,rfl⟩:=ad9.1 hu
   have hj:j<rows.length*sz:=by have:=(adh.1 hq).1;simpa using this
   rw[adp hj]at hq
   cases hq
   exact hc _ hj
theorem Sc{w:World}{E:Env}{l e sz:Nat}{rows:List (List D)}(h:bF w E l (.own e sz rows)):∃eC,Src w E sz (E.σ l) eC rows:=by
 obtain⟨g1,g2,⟨h1,h2,h3⟩|⟨b,cur,cap,h1,h2,h3,h4,h5,h6,h7,h8⟩⟩:=h
 ·subst h2;exact⟨[],eZ.nil w E sz, .inl ⟨h3,rfl⟩⟩
 ·have hle:rows.length*sz<=cap*sz:=adF _ h4
  have hlen:(cur.toList.take (rows.length*sz)).length=rows.length*sz:=by simp;omega
  refine⟨cut sz rows.length (cur.toList.take (rows.length*sz)),sg hlen g1 (fun i j r x hi hj=> ?_), .inr ⟨b,0,cap,h3,fun j u hu=> ?_⟩⟩
  ·obtain⟨v,hv,hx⟩:=h8 i j r x hi hj
   have hil:i<rows.length:=(adh.1 hi).1
   have hjl:j<sz:=by rw[<- g1 r (adM hi)];exact(adh.1 hj).1
   have hle:(i+1)*sz<=rows.length*sz:=adF _ hil
   rw[ad6]at hle
   exact⟨v,by rw[adD,ac9 (by omega)];simpa using hv,hx⟩
  ·rw[qC sz _ _ hlen,adD]at hu
   split at hu
   ·simp only[adT]
    simp only[World.cell?,h2]
    simpa using hu
   ·cases hu
theorem Oz{w:World}{E:Env}{l e sz:Nat}{rows:List (List D)}(h:bF w E l (.part e sz rows)):∃eC,Src w E sz (E.σ l) eC rows:=by
 obtain⟨g1,g2,⟨h1,h2,h3⟩|⟨b,off,cur,cap,h1,h2,h3,h4,h5,h6,h7,h8⟩⟩:=h
 ·subst h2;exact⟨[],eZ.nil w E sz, .inl ⟨h3,rfl⟩⟩
 ·have hle:rows.length*sz<=cap*sz:=adF _ h4
  have hlen:((cur.toList.drop off).take (rows.length*sz)).length=rows.length*sz:=by simp;omega
  refine⟨cut sz rows.length ((cur.toList.drop off).take (rows.length*sz)),sg hlen g1 (fun i j r x hi hj=> ?_), .inr ⟨b,off,cap,h3,fun j u hu=> ?_⟩⟩
  ·obtain⟨v,hv,hx⟩:=h8 i j r x hi hj
   have hil:i<rows.length:=(adh.1 hi).1
   have hjl:j<sz:=by rw[<- g1 r (adM hi)];exact(adh.1 hj).1
   have hle:(i+1)*sz<=rows.length*sz:=adF _ hil
   rw[ad6]at hle
   exact⟨v,by rw[adD,ac9 (by omega),ad3];simpa using hv,hx⟩
  ·rw[qC sz _ _ hlen,adD]at hu
   split at hu
   ·rw[ad3]at hu
    simp only[World.cell?,h2]
    simpa using hu
   ·cases hu
theorem UM{C:Cfg}{e:Nat}{s:ASt}{av:AV}{rows:List (List D)}(h:rowsOf C e s av=some rows)(hpos:0<C.sz e){w:World}{E:Env}(CP:∀p∈msOf s [av],bF w E p.1 p.2)
 {v:Value} (hv:cG w E av v):∃eC,Src w E (C.sz e) v eC rows:=by
 unfold rowsOf at h
 split at h
 ·cases h;simp only[cG]at hv;exact⟨[],eZ.nil w E _, .inl ⟨⟨none,hv⟩,rfl⟩⟩
 ·cases h;simp only[cG]at hv;exact⟨[],eZ.nil w E _, .inl ⟨hv,rfl⟩⟩
 ·split at h
  ·rename_i hsz;cases h;subst hsz;exact Oy hv
  ·cases h
 ·rename_i l
  split at h
  ·rename_i e' sz r hl
   split at h
   ·rename_i he
    cases h
    have h1:=CP (l, .tip e' sz rows) (by simp[msOf,hl])
    obtain⟨-,rfl⟩:=he
    rw[hv.1];exact Oy (qA h1)
   ·cases h
  ·rename_i e' sz r hl
   split at h
   ·rename_i he
    cases h
    have h1:=CP (l, .own e' sz rows) (by simp[msOf,hl])
    obtain⟨-,rfl⟩:=he
    rw[hv.1];exact Sc h1
   ·cases h
  ·rename_i e' sz r hl
   split at h
   ·rename_i he
    cases h
    have h1:=CP (l, .part e' sz rows) (by simp[msOf,hl])
    obtain⟨-,rfl⟩:=he
    rw[hv.1];exact Oz h1
   ·cases h
  ·cases h
 ·cases h
structure Io (w w':World) (e sz:Nat) (g:Nat) (v':Value) (n:Nat) (cells:List Value) (stay:Bool):Prop where
 os:w'.os=w.os
 tape:w'.tape=w.tape
 output:w'.output=w.output
 size:w'.heap.size=if stay then w.heap.size else w.heap.size+1
 at_:stay=false->g=w.heap.size
 other:∀k,k<w.heap.size->k≠g->w'.heap[k]? =w.heap[k]?
 blk:∃cur cap,w'.heap[g]? =some (.cells cur e (0,0))/\v'= .slice (some ⟨g,0,none⟩) n cap/\n<=cap/\cap*sz=cur.size/\cap<=maxLen/\cur.toList.take (n*sz)=cells
section
variable {P:Program}
theorem iD(w:World){t ty e:Nat}{te:TI}(hu:P.underlying t=some (.slice e))(he:bG P e te){E:Env}{y:Value}{eC:List (List Value)}{ys:List (List D)}(hs:Src w E te.sz y eC ys)
 (hb:ys.length*te.iu<=140737488355328) (hm:ys.length<=maxLen) (hpos:0<te.sz) (p:Option Addr):
 ∃v' w',(Builtin.append_ #[t,t] ty #[.slice p 0 0,y]).run P w= .ok v' w'/\(((∃p,v'= .slice p 0 0)/\w'=w/\ys= [])\/Io w w' e te.sz w.heap.size v' ys.length eC.flatten false):=by
 obtain⟨⟨i,z,e1,e2,e3,e4,e5,e6,e7⟩,_⟩:=he
 have hl:eC.flatten.length=ys.length*te.sz:=by rw[vq hs.rr.lens.1,hs.rr.1]
 rcases hs.val with ⟨⟨q,rfl⟩,rfl⟩|⟨b,off,c,rfl,hc⟩
 ·have hy:ys= []:=adE (by rw[<- hs.rr.1];rfl)
  refine⟨.slice p 0 0,w, ?_, .inl ⟨⟨p,rfl⟩,rfl,hy⟩⟩
  cases p<;>cases q<;>simp[Builtin.append_,run_underlying hu,sizeOf,typeInfo,e1,Builtin.lenOf,Builtin.firstCells,loadCells,loadCellsFrom,storeCells]
 ·by_cases hn:ys.length=0
  ·have hy:ys= []:=adE hn
   subst hy
   refine⟨.slice p 0 0,w, ?_, .inl ⟨⟨p,rfl⟩,rfl,rfl⟩⟩
   cases p<;>simp[Builtin.append_,run_underlying hu,sizeOf,typeInfo,e1,Builtin.lenOf,Builtin.firstCells,loadCells,loadCellsFrom,storeCells]
  ·have hm':ys.length<=9223372036854775807:=by simpa only[maxLen]using hm
   have hzs:z.cells.size=te.sz:=by rw[<- Array.length_toList,e5];simpa using e7
   have hge:=grownCap_ge w ys.length 0 e
   cases p with
   |none=>
    have hr:=run_append_nil (P:=P) w t ty e i z hu e1 e4 ⟨b,off,none⟩ ys.length c eC.flatten (by rw[hl,e2]) (fun j v hj=>by rw[Addr.add_mid];exact hc j v hj) (by omega) (by omega) (by rw[e3];omega)
    refine⟨_,_,hr, .inr ⟨rfl,rfl,rfl,by simp,fun _=>rfl,fun k hk _=>heap_alloc_old w.drew _ hk, ?_⟩⟩
    refine⟨_,grownCap w ys.length 0 e,heap_alloc_new w.drew _,rfl,hge, ?_,grownCap_le_maxLen w ys.length 0 e hm, ?_⟩
    ·simp only[afh,aed,size_zeroCells,hzs,hl, <- Nat.add_mul]
     congr 1;omega
    ·simp only[agH]
     rw[<- hl];exact ag5
   |some ad=>
    have hr:=run_append_grow (P:=P) w t ty e i z hu e1 e4 ad 0 0 [] (by simp) (fun j v hj=>by simp at hj) ⟨b,off,none⟩ ys.length c eC.flatten (by rw[hl,e2]) (fun j v hj=>by rw[Addr.add_mid];exact hc j v hj) (by omega) (by omega) (growslice_fits (by omega) (by rw[e3,adT];exact hb))
    simp only[adT,List.nil_append,List.length_nil]at hr
    refine⟨_,_,hr, .inr ⟨rfl,rfl,rfl,by simp,fun _=>rfl,fun k hk _=>heap_alloc_old w.drew _ hk, ?_⟩⟩
    refine⟨_,grownCap w ys.length 0 e,heap_alloc_new w.drew _,rfl,hge, ?_,grownCap_le_maxLen w ys.length 0 e hm, ?_⟩
    ·simp only[afh,aed,size_zeroCells,hzs,hl, <- Nat.add_mul,adi,List.length_nil,adT]
     congr 1;omega
    ·simp only[agH,List.nil_append]
     rw[<- hl];exact ag5
theorem qD(w:World){t ty e:Nat}{te:TI}(hu:P.underlying t=some (.slice e))(he:bG P e te){E:Env}{y:Value}{eC:List (List Value)}{ys:List (List D)}(hs:Src w E te.sz y eC ys)
 {g n cap:Nat} {cur:Array Value} (hg:w.heap[g]? =some (.cells cur e (0,0))) (hnc:n<=cap) (hcs:cap*te.sz=cur.size) (UN:cap<=maxLen)
 (hb:(n+ys.length)*te.iu<=140737488355328) (hm:n+ys.length<=maxLen) (hpos:0<te.sz):
 ∃v' w' g' stay,(Builtin.append_ #[t,t] ty #[.slice (some ⟨g,0,none⟩) n cap,y]).run P w= .ok v' w'/\Io w w' e te.sz g' v' (n+ys.length) (cur.toList.take (n*te.sz)++eC.flatten) stay/\(stay=true->g'=g):=by
 obtain⟨⟨i,z,e1,e2,e3,e4,e5,e6,e7⟩,_⟩:=he
 have yJ:g<w.heap.size:=(adq.1 hg).1
 have hl:eC.flatten.length=ys.length*te.sz:=by rw[vq hs.rr.lens.1,hs.rr.1]
 have Xj:n*te.sz<=cap*te.sz:=adF _ hnc
 have htl:(cur.toList.take (n*te.sz)).length=n*te.sz:=by simp;omega
 rcases hs.val with ⟨⟨q,rfl⟩,rfl⟩|⟨b,off,c,rfl,hc⟩
 ·have hy:ys.length=0:=by rw[<- hs.rr.1];rfl
  refine⟨.slice (some ⟨g,0,none⟩) n cap,w,g,true, ?_,⟨rfl,rfl,rfl,rfl,fun h=>by simp at h,fun k _ _=>rfl,cur,cap,hg,by rw[hy];rfl,by omega,hcs,UN,by simp[hy]⟩,fun _=>rfl⟩
  cases q<;>simp[Builtin.append_,run_underlying hu,sizeOf,typeInfo,e1,Builtin.lenOf,Builtin.firstCells,hnc,storeCells,loadCells,loadCellsFrom]
 ·have hcells:∀j v,eC.flatten[j]? =some v->w.cell? ((⟨b,off,none⟩:Addr).add j)=some v:=fun j v hj=>by rw[Addr.add_mid];exact hc j v hj
  have hm':n+ys.length<=9223372036854775807:=by simpa only[maxLen]using hm
  by_cases hroom:n+ys.length<=cap
  ·have hle:(n+ys.length)*te.sz<=cap*te.sz:=adF _ hroom
   rw[ad6]at hle
   have hr:=run_append_room (P:=P) w t ty e i hu e1 g n cap cur hg ⟨b,off,none⟩ ys.length c eC.flatten (by rw[hl,e2]) hcells hs.rr.one hroom (by rw[hl,e2];omega)
   refine⟨_,_,g,true,hr,⟨rfl,rfl,rfl,by simp[size_setRow],fun h=>by simp at h,fun k _ hk=>setRow_other w g k _ hk,_,cap,jG hg,rfl,hroom, ?_,UN, ?_⟩,fun _=>rfl⟩
   ·simp only[aed,adi,adG,aeC,Array.length_toList,e2,hl]
    omega
   ·simp only[e2]
    rw[ad6, <- hl]
    rw[aey (by simp only[adi,htl];omega),adB (by simp only[adi,htl];omega)]
  ·have hge:=grownCap_ge w (n+ys.length) cap e
   have hr:=run_append_grow (P:=P) w t ty e i z hu e1 e4 ⟨g,0,none⟩ n cap (cur.toList.take (n*te.sz)) (by rw[htl,e2]) (fun j v hj=>by
    rw[Addr.add_mid,adT]
    rw[adD]at hj
    split at hj
    ·simp only[World.cell?,hg];simpa using hj
    ·cases hj) ⟨b,off,none⟩ ys.length c eC.flatten (by rw[hl,e2]) hcells (by omega) (by omega) (growslice_fits (by omega) (by rw[e3];exact hb))
   have hzs:z.cells.size=te.sz:=by rw[<- Array.length_toList,e5];simpa using e7
   refine⟨_,_,w.heap.size,false,hr,⟨rfl,rfl,rfl,by simp,fun _=>rfl,fun k hk _=>heap_alloc_old w.drew _ hk,_,grownCap w (n+ys.length) cap e,heap_alloc_new w.drew _,rfl,hge, ?_,grownCap_le_maxLen w _ cap e hm, ?_⟩,fun h=>by simp at h⟩
   ·simp only[afh,aed,size_zeroCells,hzs,htl,hl, <- Nat.add_mul]
    congr 1;omega
   ·simp only[agH]
    rw[aey (by simp only[adi,htl,hl,ad6];omega),adB (by simp only[adi,htl,hl,ad6];omega)]
end
theorem bh.move{X:Ctx}(hX:X.Ok){E:Env}{s:ASt}{a:Act}{w:World}(h:bh X E s a w){d l g:Nat}{old:AObj}(hl:look s.m l=some old)(hro:old.ro=false)(hg:E.ρ l=some g)
 {kill:List (Nat × Option D)} (H7:kl kill d≠none) (cM:kl kill l≠none) (hd:d<10000) (kJ:∀l,kl kill l≠none->l<20000) {rs:List (Nat × AV)} {ms:List (Nat × AObj)} {ob:AObj} {v:Value} {zb:Nat}
 {w':World} {Im:AV} {dst:Option Nat} {v':Value}
 (hsize:w'.heap.size=w.heap.size) (hh:∀b,b<w.heap.size->b≠g->w'.heap[b]? =w.heap[b]?) (hos:w'.os=w.os) (nN:w'.tape=w.tape) (hout:w'.output=w.output)
 (hzb:E.z g<=zb) (hcells:∀o,o<E.z g->w'.cell? ⟨g,o,none⟩=w.cell? ⟨g,o,none⟩)
 (hkx:∀l x,kl kill l=some (some x)->kN (E.σ l)->Rd w' (cL E d g v zb).z (E.σ l) x)
 (oV:bF w' (cL E d g v zb) d ob) (hv:cG w' (cL E d g v zb) Im v') (bV:∀k,dst=some k->k<X.n) (Cs:ob.isNest=false:=by rfl):
 bh X (cL E d g v zb) ((⟨rs,ms,kill, [(d,ob)],dst,Im⟩:LA).app s) (a.put dst v') w':=by
 have dx:∀l,look [(d,ob)] l=if d=l then some ob else none:=fun l=>by simp[look]
 have yJ:g<w.heap.size:=(h.good.obj l old hl).lt hg
 refine h.app ⟨rs,ms,kill, [(d,ob)],dst,Im⟩ _ w' v' (fun b=> ?_) hos nN hout (by omega) (fun k hk=> ?_) hkx (fun k hk=> ?_) kJ (fun k o hk=> ?_) (fun b hb=> ?_) (fun k o hk=> ?_) (fun k k' hk hk'=> ?_) (fun k b hk hb=> ?_) (fun b hb=> ?_) hv bV
 ·simp only[cL]
  by_cases UO:b=g
  ·subst UO;simp only[if_true];exact⟨hzb,hcells⟩
  ·simp only[UO,if_false]
   refine⟨adg _,fun o ho=> ?_⟩
   by_cases hlt:b<w.heap.size
   ·exact cell?_of_heap (hh b hlt UO) o
   ·rw[h.good.fresh b (by omega)]at ho;omega
 ·have:k≠d:=fun e=>H7 (e ▸ hk)
  simp[cL,this]
 ·have h1:=hX.low k hk
  have:k≠d:=by omega
  simp[cL,this]
 ·simp only[dx]at hk
  split at hk
  ·rename_i hdl;subst hdl;cases hk;exact⟨by omega,Cs⟩
  ·cases hk
 ·by_cases UO:b=g
  ·subst UO;exact .inr ⟨l,old,h.good.bM hl,hro,hg, .inl cM⟩
  ·left;exact⟨hh b hb UO,by simp[cL,UO]⟩
 ·simp only[dx]at hk
  split at hk
  ·rename_i hdl;subst hdl;cases hk;exact oV
  ·cases hk
 ·simp only[dx]at hk hk'
  split at hk
  ·split at hk'
   ·omega
   ·simp at hk'
  ·simp at hk
 ·simp only[dx]at hk
  split at hk
  ·rename_i hdl
   subst hdl
   simp only[cL,if_true,ady]at hb
   subst hb
   exact .inr ⟨l,old,h.good.bM hl,hro,hg, .inl cM⟩
  ·simp at hk
 ·have h1:b≠g:=by omega
  simp only[cL,h1,if_false]
  exact h.good.fresh b (by omega)
def j8(E:Env)(d:Nat)(p:Option Addr):Env:=⟨fun l=>if l=d then none else E.ρ l,fun l=>if l=d then .slice p 0 0 else E.σ l,E.z⟩
theorem bh.D4{X:Ctx}(hX:X.Ok){E:Env}{s:ASt}{a:Act}{w:World}(h:bh X E s a w){d:Nat}{kill:List (Nat × Option D)}(H7:kl kill d≠none)(hd:d<10000)(kJ:∀l,kl kill l≠none->l<20000)
 {rs:List (Nat × AV)} {ms:List (Nat × AObj)} {ob:AObj} {Im:AV} {dst:Option Nat} {v':Value}
 (hkx:∀l x,kl kill l=some (some x)->kN (E.σ l)->Rd w E.z (E.σ l) x)
 {p:Option Addr} (oV:bF w (j8 E d p) d ob) (hv:cG w (j8 E d p) Im v') (bV:∀k,dst=some k->k<X.n) (Cs:ob.isNest=false:=by rfl):
 bh X (j8 E d p) ((⟨rs,ms,kill, [(d,ob)],dst,Im⟩:LA).app s) (a.put dst v') w:=by
 have dx:∀l,look [(d,ob)] l=if d=l then some ob else none:=fun l=>by simp[look]
 refine h.app ⟨rs,ms,kill, [(d,ob)],dst,Im⟩ _ w v' (aK.refl _ _) rfl rfl rfl (adg _) (fun k hk=> ?_) hkx (fun k hk=> ?_) kJ (fun k o hk=> ?_) (fun b hb=> .inl ⟨rfl,rfl⟩) (fun k o hk=> ?_) (fun k k' hk hk'=> ?_) (fun k b hk hb=> ?_) h.good.fresh hv bV
 ·have:k≠d:=fun e=>H7 (e ▸ hk)
  simp[j8,this]
 ·have h1:=hX.low k hk
  have:k≠d:=by omega
  simp[j8,this]
 ·simp only[dx]at hk
  split at hk
  ·rename_i hdl;subst hdl;cases hk;exact⟨by omega,Cs⟩
  ·cases hk
 ·simp only[dx]at hk
  split at hk
  ·rename_i hdl;subst hdl;cases hk;exact oV
  ·cases hk
 ·simp only[dx]at hk hk'
  split at hk
  ·split at hk'
   ·omega
   ·simp at hk'
  ·simp at hk
 ·simp only[dx]at hk
  split at hk
  ·rename_i hdl
   subst hdl
   simp[j8]at hb
  ·simp at hk
theorem bh.D5{X:Ctx}(hX:X.Ok){E:Env}{s:ASt}{a:Act}{w:World}(h:bh X E s a w){b i d e' e sz:Nat}{rows:List (List (List D))}{r R:List (List D)}{rs:List (Nat × AV)}{ms:List (Nat × AObj)}{dst:Option Nat}{v v':Value}{ob:Option Nat}{z':Nat->Nat}{w':World}
 (hl:look s.m b=some (.nest e' e sz rows none)) (hi:rows[i]? =some r) (hd:d<10000) (hdb:d≠b) (Kl:ob=none\/ob=some w.heap.size\/ob=E.ρ (nn b i))
 (hst:aK w E.z w' z') (hz:∀x,some x≠ob->z' x=E.z x) (hh:∀k,k<w.heap.size->some k≠ob->w'.heap[k]? =w.heap[k]?) (hos:w'.os=w.os) (nN:w'.tape=w.tape) (hout:w'.output=w.output) (hsize:w.heap.size<=w'.heap.size)
 (uo:∀x,w'.heap.size<=x->z' x=0)
 (oV:bF w' ⟨fun q=>if q=d then ob else E.ρ q,fun q=>if q=d then v else E.σ q,z'⟩ d (.tip e sz R)) (hv:v'=v/\kN v) (bV:∀k,dst=some k->k<X.n):
 bh X ⟨fun q=>if q=d then ob else E.ρ q,fun q=>if q=d then v else E.σ q,z'⟩ ((⟨rs,ms, [(nn b i,some (.sl sz r)),(d,none)], [(d, .tip e sz R),(b, .nest e' e sz rows (some i))],dst, .ref d⟩:LA).app s) (a.put dst v') w':=by
 have OA:=h.good.low b (by simp[hl])
 have hil:i<rows.length:=(adh.1 hi).1
 have dx:∀k,look [(d,AObj.tip e sz R),(b, .nest e' e sz rows (some i))] k=if d=k then some (.tip e sz R) else if b=k then some (.nest e' e sz rows (some i)) else none:=fun k=>by simp[look]
 have hsb:bM s.m b=some (.nest e' e sz rows none):=h.good.bM hl
 have Au:∀j (hj:j<rows.length),bM s.m (nn b j)=some (.tip e sz rows[j]):=by
  intro j hj
  rw[uh OA,hl]
  simp[inner,hj]
 have ur:∀ {j j'},nn b j=nn b j'->j=j':=fun {j j'} hjj=>by unfold nn at hjj;omega
 have UP:∀j,nn b j≠d:=fun j=>by unfold nn;omega
 have nnb:∀j,nn b j≠b:=fun j=>by unfold nn;omega
 have H8:∀q o,bM [(d,AObj.tip e sz R),(b, .nest e' e sz rows (some i))] q=some o->(q=d/\o= .tip e sz R)\/(q=b/\o= .nest e' e sz rows (some i))\/∃j,∃hj:j<rows.length,j≠i/\q=nn b j/\o= .tip e sz rows[j]:=by
  intro q o hq
  unfold bM at hq
  cases bR:nd q with
  |none=>
   rw[bR]at hq
   simp only[dx]at hq
   split at hq
   ·rename_i L0;cases hq;exact .inl ⟨L0.symm,rfl⟩
   ·split at hq
    ·rename_i L0;cases hq;exact .inr (.inl ⟨L0.symm,rfl⟩)
    ·cases hq
  |some p=>
   obtain⟨b',j⟩:=p
   obtain⟨rfl,hb'⟩:=zJ bR
   rw[bR]at hq
   simp only[dx]at hq
   split at hq
   ·simp[inner]at hq
   ·split at hq
    ·rename_i hlb
     subst hlb
     simp only[inner]at hq
     split at hq
     ·cases hq
     ·rename_i hne
      cases hr:rows[j]? with
      |none=>simp[hr]at hq
      |some rr=>
       simp[hr]at hq
       obtain⟨hj,Wt⟩:=adh.1 hr
       exact .inr (.inr ⟨j,hj,fun e=>hne (by rw[e]),rfl,by rw[Wt,hq]⟩)
    ·simp[inner]at hq
 have yK:∀ {q c},bM s.m q≠none->q≠nn b i->E.ρ q=some c->some c≠ob:=by
  intro q c hq hne hc he
  obtain⟨o,ho⟩:=ade.1 hq
  have hlt:=(h.good.gw q o ho).lt hc
  rcases Kl with h1|h1|h1
  ·rw[h1]at he;cases he
  ·rw[h1]at he;cases he;omega
  ·rw[h1]at he
   exact hne (h.good.inj _ _ c hq (by rw[Au i hil];simp) hc he.symm)
 refine h.Oe ⟨rs,ms, [(nn b i,some (.sl sz r)),(d,none)], [(d, .tip e sz R),(b, .nest e' e sz rows (some i))],dst, .ref d⟩ _ w' v' hst hos nN hout hsize (fun q hq=> ?_) (fun q x hq hs=> ?_) (fun q hq=> ?_) (fun q hq=> ?_) (fun q hq=> ?_) (fun c hc=> ?_) (fun q o hq=> ?_) (fun q q' c hq oW hc zq=> ?_) (fun q c hq hc=> ?_) uo ?_ bV
 ·have:q≠d:=fun e=>by
   subst e
   simp only[kl]at hq
   split at hq
   ·cases hq
   ·rename_i h1;simp at hq
  simp[this]
 ·simp only[kl]at hq
  split at hq
  ·rename_i YZ;subst YZ;cases hq
   have:=h.good.gw _ _ (Au i hil)
   rw[(adh.1 hi).2]at this
   exact(qA this).mono hst
  ·split at hq<;>cases hq
 ·have h1:=hX.low q hq
  have:q≠d:=by omega
  simp[this]
 ·simp only[kl]at hq
  split at hq
  ·rename_i Y0;right;subst Y0;unfold hit;rw[nd_nn OA];simp only[dx];split<;>simp
  ·split at hq
   ·rename_i Y0;left;exact nd_low (by omega)
   ·exact absurd rfl hq
 ·simp only[dx]at hq
  split at hq
  ·omega
  ·split at hq
   ·omega
   ·exact absurd rfl hq
 ·by_cases hcb:some c=ob
  ·right
   rcases Kl with h1|h1|h1
   ·rw[h1]at hcb;cases hcb
   ·rw[h1]at hcb;cases hcb;omega
   ·exact⟨nn b i,_,Au i hil,rfl,by rw[<- h1,hcb], .inl (by simp[kl])⟩
  ·exact .inl ⟨hh c hc hcb,hz c hcb⟩
 ·
  rcases H8 q o hq with ⟨rfl,rfl⟩|⟨rfl,rfl⟩|⟨j,hj,hji,rfl,rfl⟩
  ·exact oV
  ·obtain⟨b1,cur,cap,g1,g2,g3,g4,g5,g6,g7,g8⟩:=h.good.gw _ _ hsb
   have hb1:b1<w.heap.size:=(adq.1 g2).1
   have hne:=yK (by rw[hsb];simp) (fun e=>nnb i e.symm) g1
   refine⟨b1,cur,cap,(ac7 (fun e=>hdb e.symm)).trans g1,by rw[hh b1 hb1 hne];exact g2,(ac7 (fun e=>hdb e.symm)).trans g3,g4,g5,g6,(hz b1 hne).trans g7,fun j hj hne=> ?_⟩
   show cur[j]? =some (if nn q j=d then v else E.σ (nn q j))/\kN (if nn q j=d then v else E.σ (nn q j))
   rw[ac7 (UP j)]
   exact g8 j hj (by simp)
  ·obtain⟨k1,k2,k3⟩:=h.good.gw _ _ (Au j hj)
   refine⟨k1,k2, ?_⟩
   rcases k3 with ⟨m1,m2,p,m3⟩|⟨b1,UI,UJ,m1,m2,m3,m4,m5,m6,m7,m8⟩
   ·exact .inl ⟨(ac7 (UP j)).trans m1,m2,p,(ac7 (UP j)).trans m3⟩
   ·have hb1:b1<w.heap.size:=(adq.1 m2).1
    have hne:=yK (by rw[Au j hj];simp) (fun e=>hji (ur e)) m1
    refine .inr ⟨b1,UI,UJ,(ac7 (UP j)).trans m1,by rw[hh b1 hb1 hne];exact m2,(ac7 (UP j)).trans m3,m4,m5,m6,(hz b1 hne).trans m7,fun p j' r x hp hj'=> ?_⟩
    obtain⟨v,hv,hx⟩:=m8 p j' r x hp hj'
    exact⟨v,hv,hx.mono hst⟩
 ·
  obtain⟨o,ho⟩:=ade.1 hq
  obtain⟨o',ho'⟩:=ade.1 oW
  have old:∀q o,bM [(d,AObj.tip e sz R),(b, .nest e' e sz rows (some i))] q=some o->q=d\/(q≠d/\bM s.m q≠none/\q≠nn b i):=by
   intro q o hq
   rcases H8 q o hq with ⟨rfl,rfl⟩|⟨rfl,rfl⟩|⟨j,hj,hji,rfl,rfl⟩
   ·exact .inl rfl
   ·exact .inr ⟨fun e=>hdb e.symm,by rw[hsb];simp,fun e=>nnb i e.symm⟩
   ·exact .inr ⟨UP j,by rw[Au j hj];simp,fun e=>hji (ur e)⟩
  rcases old q o ho with rfl|⟨h1,h2,h3⟩<;>rcases old q' o' ho' with rfl|⟨CO,NU,NV⟩
  ·rfl
  ·simp only[CO,if_true,if_false]at hc zq
   exact absurd hc.symm (yK NU NV zq)
  ·simp only[h1,if_true,if_false]at hc zq
   exact absurd zq.symm (yK h2 h3 hc)
  ·simp only[h1,CO,if_false]at hc zq
   exact h.good.inj _ _ c h2 NU hc zq
 ·obtain⟨o,ho⟩:=ade.1 hq
  rcases H8 q o ho with ⟨rfl,rfl⟩|⟨rfl,rfl⟩|⟨j,hj,hji,rfl,rfl⟩
  ·simp only[if_true]at hc
   rcases Kl with h1|h1|h1
   ·rw[h1]at hc;cases hc
   ·rw[h1]at hc;cases hc;exact .inl (adg _)
   ·exact .inr ⟨nn b i,_,Au i hil,rfl,by rw[<- h1,hc], .inl (by simp[kl])⟩
  ·have zq:E.ρ q=some c:=by rw[<- hc];exact(ac7 (fun e=>hdb e.symm)).symm
   exact .inr ⟨q,_,hsb,rfl,zq, .inr (by rw[zK (by omega)];simp only[dx];split<;>simp)⟩
  ·have zq:E.ρ (nn b j)=some c:=by rw[<- hc];exact(ac7 (UP j)).symm
   exact .inr ⟨nn b j,_,Au j hj,rfl,zq, .inr (by unfold hit;rw[nd_nn OA];simp only[dx];split<;>simp)⟩
 ·simp only[cG,if_true]
  exact⟨hv.1,hv.1 ▸ hv.2⟩
theorem Av{w':World}{E':Env}{w:World}{E:Env}{d g e sz n:Nat}{v':Value}{rows ys:List (List D)}{olds:List Value}{eC:List (List Value)}{stay:Bool}
 (hg:Io w w' e sz g v' n (olds++eC.flatten) stay) (hpos:0<sz) (hn:n=rows.length+ys.length) (ho:olds.length=rows.length*sz) (hrows:∀r∈rows,r.length=sz)
 (hold:∀(i j:Nat) (r:List D) (x:D),rows[i]? =some r->r[j]? =some x->∃v,olds[i*sz+j]? =some v/\Rd w' E'.z v x) (hnew:eZ w' E' sz eC ys)
 (hb:E'.ρ d=some g) (hs:E'.σ d=v'):(E'.z g=0->bF w' E' d (.own e sz (rows++ys)))/\(E'.z g=n*sz->bF w' E' d (.tip e sz (rows++ys))):=by
 obtain⟨cur,cap,b1,b2,b3,b4,b5,b6⟩:=hg.blk
 have hR:eZ w' E' sz (cut sz rows.length olds++eC) (rows++ys):=by
  have h1:=sg ho hrows hold
  refine⟨by simp[h1.1,hnew.1],fun i vs r hi hr=> ?_⟩
  by_cases hil:i<rows.length
  ·rw[adx (by rw[h1.1];exact hil)]at hi
   rw[adx hil]at hr
   exact h1.2 i vs r hi hr
  ·rw[adw (by rw[h1.1];omega),h1.1]at hi
   rw[adw (by omega)]at hr
   exact hnew.2 _ vs r hi hr
 have Xk:(cut sz rows.length olds++eC).flatten=olds++eC.flatten:=by rw[afZ,qC sz _ _ ho]
 have hnl:n=(rows++ys).length:=by simp[hn]
 have:=Ox (w:=w') (E:=E') (d:=d) hpos hb b1 (by rw[hs,b2,hnl]) (by omega) b4 b5 hR (fun k v hv=>by
  rw[Xk, <- b6,adD]at hv
  split at hv
  ·simpa using hv
  ·cases hv)
 exact⟨this.1,fun hz=>this.2 (by rw[hz,hnl])⟩
section
variable {X:Ctx} {o:Oper} {s:ASt} {K:LA->Prop}
theorem L3(hX:X.Ok){x y:Operand}{t t':Nat}{c:Call}(ho:o.op= .call c)(hc:c.callee= .builtin .append)(ha:c.args.toList= [x,y])(ht:c.argTypes.toList= [t,t'])
 (h:vcBuiltin X.C s o .append [x,y] [t,t'] K):∃la,aN X o la/\Sat la s/\K la:=by
 simp only[vcBuiltin]at h
 split at h
 ·rename_i d e R8 by0 zc OB bV hT
  split at h
  ·rename_i Oc by1 zc1 e' n UC hx hy
   obtain⟨⟨hd,hsz,hby,hn,hle⟩,hK⟩:=h
   obtain⟨N,rfl⟩:∃N:Nat,n=N:=⟨n.toNat,by omega⟩
   have hu:=(hX.C.T _ _ hT).2
   simp only at hu
   have xN:=(hX.C.T _ _ UC).2
   simp only at xN
   obtain⟨te,hte,jB,fk⟩:=FI hX.C hsz
   refine⟨_,aN.mk bV.symm fun s' E a w hdn hs hE=> ?_,⟨aH s _,by simp⟩,hK⟩
   have ex:=hE.evs hs.1 X.C t (x:=x) (by simp)
   have ey:=hE.evs hs.1 X.C 3 (x:=y) (by simp)
   rw[hx]at ex;rw[hy]at ey
   have ex:a.eval x= .slice none 0 0:=ex
   obtain⟨i,z,e1,e2,e3,e4,e5⟩:=lQ jB w E
   have hib:i.size=X.C.sz e/\i.bytes=X.C.iu e:=by
    obtain⟨⟨i',z',f1,f2,f3,_⟩,_⟩:=jB
    rw[e1]at f1;cases f1
    exact⟨by rw[f2,fk],by rw[f3];simp[Cfg.iu,hte]⟩
   have ZW:∀a∈te.zc,a.cv.oneCell'=true:=by
    obtain⟨⟨i',z',f1,f2,f3,f4,f5,f6,_⟩,_⟩:=jB;exact f6
   have Xh:X.C.zrow e=zrowOf X.C te.zc:=by simp[Cfg.zrow,hte]
   obtain⟨zl,zr⟩:=D2 (C:=X.C) ZW e4
   have vr:z.cells.size=X.C.sz e:=by rw[e3,fk]
   have hrow:(X.C.zrow e).length=X.C.sz e:=by rw[Xh,zl, <- vr, <- e4.length];simp
   have hle':N*X.C.iu e<=140737488355328:=by have h:=hle;rw[<- Int.natCast_mul]at h;omega
   have vt:N<=N*X.C.iu e:=by
    have:=Nat.mul_le_mul_left N hby;omega
   have uv:N<=maxLen:=by simp only[maxLen];omega
   have FJ:=Go.Lib.run_append_nil_zeros (P:=X.P) w t t' o.type e i z .i64 .i64 hu xN e1 e2 N (by omega) (by rw[hib.1];exact hsz) (by omega) (by rw[hib.2];omega)
   have hrun:(execOp a.eval o).run X.P w= .ok (.value (.slice (some ⟨w.heap.size,0,none⟩) N (grownCap w N 0 e))) (w.drew.alloc (.cells (Builtin.zeroCells z.cells N++Builtin.zeroCells z.cells (grownCap w N 0 e - N)) e)):=by
    have hargs:c.args.map a.eval= #[a.eval x,a.eval y]:=by apply adW.1;simp[ha]
    have On:c.argTypes= #[t,t']:=by apply adW.1;simpa using ht
    rw[ex,bN ey]at hargs
    simp only[execOp,ho,resolve,hc,Sem.run_bind,Sem.run_pure,Result.andThen_ok,invoke,builtin,hargs,On,FJ]
   refine⟨_,_,cL E d w.heap.size (.slice (some ⟨w.heap.size,0,none⟩) N (grownCap w N 0 e)) 0,hrun, ?_⟩
   rw[bV]
   have hge:=grownCap_ge w N 0 e
   refine hE.create hX hd (kill:= [(d,none)]) (by simp[kl]) (fun l hl=>by have:=qB d l hl;unfold dlow at hd;omega) (by simp) (fun b hb=>heap_alloc_old w.drew _ hb) rfl rfl rfl
    (fun l x hl=>absurd hl (dX d l x)) ?_ ⟨by simp[cL],trivial⟩ (fun k hk=>hdn k (by rw[bV];exact hk)) rfl
   refine⟨fun r hr=>by rw[(agN.1 hr).2,hrow],hsz, .inr ⟨w.heap.size,_,grownCap w N 0 e,by simp[cL],heap_alloc_new w.drew _,by simp[cL],by simpa using hge, ?_,grownCap_le_maxLen w N 0 e uv,by simp[cL],fun q j r x hq hj=> ?_⟩⟩
   ·simp only[afh,size_zeroCells,vr, <- Nat.add_mul]
    congr 1;omega
   have Ki:q<N:=by have:=(adh.1 hq).1;simpa using this
   simp only[Int.toNat_natCast]at hq
   rw[afg,ac9 Ki]at hq
   cases hq
   have hjl:j<X.C.sz e:=by rw[<- hrow];exact(adh.1 hj).1
   have Xi:j<z.cells.size:=by rw[vr];exact hjl
   have hidx:q*X.C.sz e+j<N*z.cells.size:=by
    rw[vr]
    have:(q+1)*X.C.sz e<=N*X.C.sz e:=adF _ Ki
    rw[ad6]at this;omega
   refine⟨z.cells[j], ?_,zr _ _ j x _ (by rw[<- Xh];exact hj) (by simp[Xi])⟩
   have hmod:(q*X.C.sz e+j) % z.cells.size=j:=by rw[vr,Nat.mul_comm,Nat.mul_add_mod,aeB hjl]
   rw[aes (by rw[size_zeroCells];exact hidx)]
   unfold Builtin.zeroCells
   rw[agM,agF,ac9 hidx]
   simp[hmod,Xi]
  ·exact h.elim
 ·rename_i d e R8 by0 zc OB bV hT
  have OB:t=t':=by simpa using OB
  subst OB
  obtain⟨⟨hd,hsz,hby⟩,h⟩:=h
  have hu:=(hX.C.T _ _ hT).2
  simp only at hu
  obtain⟨te,hte,jB,fk⟩:=FI hX.C hsz
  have FK:te.iu=X.C.iu e:=by simp[Cfg.iu,hte]
  split at h
  ·exact h.elim
  ·rename_i ys hys
   have hrun:∀ {a:Act} {w:World} {v':Value} {w':World},(Builtin.append_ #[t,t] o.type #[a.eval x,a.eval y]).run X.P w= .ok v' w'->(execOp a.eval o).run X.P w= .ok (.value v') w':=by
    intro a w v' w' hr
    have hargs:c.args.map a.eval= #[a.eval x,a.eval y]:=by apply adW.1;simp[ha]
    have On:c.argTypes= #[t,t]:=by apply adW.1;simpa using ht
    simp only[execOp,ho,resolve,hc,Sem.run_bind,Sem.run_pure,Result.andThen_ok,invoke,builtin,hargs,On,hr]
   have uv:∀n:Nat,n*X.C.iu e<=140737488355328->n<=maxLen:=by
    intro n hn
    have:n*1<=n*X.C.iu e:=Nat.mul_le_mul_left _ hby
    simp only[maxLen];omega
   have hsrc:∀ {s':ASt} {E:Env} {a:Act} {w:World} {rs:List (Nat × AV)} {ms:List (Nat × AObj)} {k:List (Nat × Option D)} {u:List (Nat × AObj)} {dst:Option Nat} {v:AV},(∀p∈rsOf s [x,y],get s'.t p.1=p.2)->(∀p∈msOf s [aev X.C t s y],look s'.m p.1=some p.2)->bh X E s' a w->
    ∃eC,Src w E te.sz (a.eval y) eC ys:=by
    intro s' E a w rs ms k u dst v h1 h2 hE
    have ey:=hE.evs h1 X.C t (x:=y) (by simp)
    obtain⟨eC,hs⟩:=UM hys hsz (fun p hp=>hE.good.obj _ _ (h2 p hp)) ey
    rw[fk]
    exact⟨eC,hs⟩
   have Km:∀ {pv:AV},aev X.C t s x=pv->(∀w E v,cG w E pv v->∃p,v= .slice p 0 0)->ys.length*X.C.iu e<=140737488355328->
    K ⟨rsOf s [x,y],msOf s [aev X.C t s y], [(d,none)], [(d,if d∈X.C.own then .own e (X.C.sz e) ys else .tip e (X.C.sz e) ys)],some d, .ref d⟩->∃la,aN X o la/\Sat la s/\K la:=by
    intro pv hx hpv hle hK
    refine⟨_,aN.mk bV.symm fun s' E a w hdn hs hE=> ?_,⟨aH s _,iO s _⟩,hK⟩
    have ex:=hE.evs hs.1 X.C t (x:=x) (by simp)
    rw[hx]at ex
    obtain⟨p,ex⟩:=hpv w E _ ex
    obtain⟨eC,hsrc⟩:=hsrc (rs:= []) (ms:= []) (k:= []) (u:= []) (dst:=none) (v:= .jA) hs.1 hs.2 hE
    obtain⟨v',w',hr,FL⟩:=iD (ty:=o.type) w hu jB hsrc (by rw[FK];exact hle) (uv _ hle) (by omega) p
    rw[<- ex]at hr
    rw[bV]
    have Xl:∀l,kl [(d,(none:Option D))] l≠none->l<20000:=fun l hl=>by have:=qB d l hl;unfold dlow at hd;omega
    have qp:∀k,some d=some k->k<X.n:=fun k hk=>hdn k (by rw[bV];exact hk)
    rcases FL with ⟨⟨q,rfl⟩,rfl,hy0⟩|gK
    ·refine⟨_,_,j8 E d q,hrun hr,hE.D4 hX (kill:= [(d,none)]) (by simp[kl]) hd Xl (fun l x hl=>absurd hl (dX d l x)) ?_ ⟨by simp[j8],trivial⟩ qp (by split<;>rfl)⟩
     subst hy0
     split
     ·exact⟨by simp,hsz, .inl ⟨by simp[j8],rfl,q,by simp[j8]⟩⟩
     ·exact⟨by simp,hsz, .inl ⟨by simp[j8],rfl,q,by simp[j8]⟩⟩
    ·refine⟨_,_,cL E d w.heap.size v' (if d∈X.C.own then 0 else ys.length*te.sz),hrun hr, ?_⟩
     have ZX:=gK
     obtain⟨cur,cap,b1,b2,_⟩:=ZX.blk
     refine hE.create hX hd (kill:= [(d,none)]) (by simp[kl]) Xl (by simpa using gK.size) (fun b hb=>gK.other b hb (by omega)) gK.os gK.tape gK.output
      (fun l x hl=>absurd hl (dX d l x)) ?_ ⟨by simp[cL],by rw[b2];trivial⟩ qp (by split<;>rfl)
     have hst:=fP (w':=w') (E:=E) (d:=d) (v:=v') (zb:=if d∈X.C.own then 0 else ys.length*te.sz) hE.good.fresh (fun b hb=>gK.other b hb (by omega))
     have:=Av (E':=cL E d w.heap.size v' (if d∈X.C.own then 0 else ys.length*te.sz)) (E:=E) (d:=d) (rows:= []) (olds:= []) (by simpa using gK) (by omega) (by simp) (by simp) (by simp) (fun i j r x h=>by simp at h) (hsrc.rr.mono hst) (by simp[cL]) (by simp[cL])
     simp only[List.nil_append,fk]at this
     by_cases hown:d∈X.C.own
     ·simp only[hown,if_true]at this ⊢
      exact this.1 (by simp[cL])
     ·simp only[hown,if_false]at this ⊢
      simp only[fk]
      exact this.2 (by simp[cL])
   split at h
   ·
    rename_i e' hx
    exact Km hx (fun w E v hv=>⟨none,hv⟩) h.1 h.2
   ·rename_i e' hx
    exact Km hx (fun w E v hv=>hv) h.1 h.2
   ·rename_i l hx
    have core:∀(old:AObj) (rows:List (List D)) (kill:List (Nat × Option D)) (mk:List (List D)->AObj) (zz:Nat->Nat),look s.m l=some old->old.ro=false->
     (old= .tip e (X.C.sz e) rows/\mk= .tip e (X.C.sz e)/\zz=(fun n=>n*X.C.sz e)/\kill= [(l,some (.sl (X.C.sz e) rows)),(d,none)])\/(old= .own e (X.C.sz e) rows/\mk= .own e (X.C.sz e)/\zz=(fun _=>0)/\kill= [(l,none),(d,none)])->
     (rows.length+ys.length)*X.C.iu e<=140737488355328->
     K ⟨rsOf s [x,y],(l,old)::msOf s [aev X.C t s y],kill, [(d,mk (rows++ys))],some d, .ref d⟩->∃la,aN X o la/\Sat la s/\K la:=by
     intro old rows kill mk zz hl hro tO hle hK
     refine⟨_,aN.mk bV.symm fun s' E a w hdn hs hE=> ?_,⟨aH s _,fun p hp=>by
      rcases adv.1 hp with rfl|hp
      ·exact hl
      ·exact iO s _ p hp⟩,hK⟩
     have hl':=hs.2 (l,old) (by simp)
     have ex:=hE.evs hs.1 X.C t (x:=x) (by simp)
     rw[hx]at ex
     simp only[cG]at ex
     obtain⟨eC,hsrc⟩:=hsrc (rs:= []) (ms:= []) (k:= []) (u:= []) (dst:=none) (v:= .jA) hs.1 (fun p hp=>hs.2 p (by simp[hp])) hE
     have oV:=hE.good.obj l old hl'
     have Aw:(∀r∈rows,r.length=X.C.sz e)/\((E.ρ l=none/\rows= []/\∃p,E.σ l= .slice p 0 0)\/
      ∃b cur cap,E.ρ l=some b/\w.heap[b]? =some (.cells cur e (0,0))/\E.σ l= .slice (some ⟨b,0,none⟩) rows.length cap/\rows.length<=cap/\cap*X.C.sz e=cur.size/\cap<=maxLen/\
       E.z b=zz rows.length/\∀(i j:Nat) (r:List D) (x:D),rows[i]? =some r->r[j]? =some x->∃v,cur[i*X.C.sz e+j]? =some v/\Rd w E.z v x):=by
      rcases tO with ⟨rfl,rfl,rfl,rfl⟩|⟨rfl,rfl,rfl,rfl⟩<;>exact⟨oV.1,oV.2.2⟩
     have H7:kl kill d≠none:=by
      rcases tO with ⟨_,_,_,rfl⟩|⟨_,_,_,rfl⟩<;>simp only[kl]<;>(split<;>simp)
     have cM:kl kill l≠none:=by
      rcases tO with ⟨_,_,_,rfl⟩|⟨_,_,_,rfl⟩<;>simp[kl]
     have o6:l<20000:=hE.good.low l (by simp[hl'])
     have kJ:∀q,kl kill q≠none->q<20000:=by
      intro q hq
      unfold dlow at hd
      rcases tO with ⟨_,_,_,rfl⟩|⟨_,_,_,rfl⟩<;>simp only[kl]at hq<;>(split at hq;omega;split at hq;omega;exact absurd rfl hq)
     have hkx:∀(w':World) (z':Nat->Nat),aK w E.z w' z'->∀q x,kl kill q=some (some x)->kN (E.σ q)->Rd w' z' (E.σ q) x:=by
      intro w' z' hst q x hq _
      rcases tO with ⟨rfl,_,_,rfl⟩|⟨rfl,_,_,rfl⟩
      ·simp only[kl]at hq
       split at hq
       ·rename_i L0;subst L0
        cases hq
        exact(qA oV).mono hst
       ·split at hq<;>cases hq
      ·simp only[kl]at hq
       split at hq
       ·cases hq
       ·split at hq<;>cases hq
     have qp:∀k,some d=some k->k<X.n:=fun k hk=>hdn k (by rw[bV];exact hk)
     rw[bV]
     obtain⟨hrl,Aw⟩:=Aw
     have hmk:∀(w':World) (E':Env) (R:List (List D)) (g n:Nat),((E'.z g=0->bF w' E' d (.own e (X.C.sz e) R))/\(E'.z g=n*X.C.sz e->bF w' E' d (.tip e (X.C.sz e) R)))->E'.z g=zz n->bF w' E' d (mk R):=by
      intro w' E' R g n h hz
      rcases tO with ⟨_,rfl,rfl,_⟩|⟨_,rfl,rfl,_⟩
      ·exact h.2 hz
      ·exact h.1 hz
     have Cs:(mk (rows++ys)).isNest=false:=by rcases tO with ⟨_,rfl,_,_⟩|⟨_,rfl,_,_⟩<;>rfl
     rcases Aw with ⟨g1,g2,p,g3⟩|⟨b,cur,cap,g1,g2,g3,g4,g5,g6,g7,g8⟩
     ·
      subst g2
      simp only[List.length_nil,adT]at hle
      obtain⟨v',w',hr,FL⟩:=iD (ty:=o.type) w hu jB hsrc (by rw[FK];exact hle) (uv _ hle) (by omega) p
      rw[<- g3, <- ex.1]at hr
      rcases FL with ⟨⟨q,rfl⟩,rfl,hy0⟩|gK
      ·refine⟨_,_,j8 E d q,hrun hr,hE.D4 hX H7 hd kJ (hkx _ _ (aK.refl _ _)) ?_ ⟨by simp[j8],trivial⟩ qp Cs⟩
       subst hy0
       rcases tO with ⟨_,rfl,_,_⟩|⟨_,rfl,_,_⟩
       ·exact⟨by simp,hsz, .inl ⟨by simp[j8],rfl,q,by simp[j8]⟩⟩
       ·exact⟨by simp,hsz, .inl ⟨by simp[j8],rfl,q,by simp[j8]⟩⟩
      ·refine⟨_,_,cL E d w.heap.size v' (zz ys.length),hrun hr, ?_⟩
       have hst:=fP (w':=w') (E:=E) (d:=d) (v:=v') (zb:=zz ys.length) hE.good.fresh (fun b hb=>gK.other b hb (by omega))
       obtain⟨cur,cap,b1,b2,_⟩:=gK.blk
       refine hE.create hX hd H7 kJ (by simpa using gK.size) (fun b hb=>gK.other b hb (by omega)) gK.os gK.tape gK.output (hkx _ _ hst) ?_ ⟨by simp[cL],by rw[b2];trivial⟩ qp Cs
       have:=Av (E':=cL E d w.heap.size v' (zz ys.length)) (E:=E) (d:=d) (rows:= []) (olds:= []) (by simpa using gK) (by omega) (by simp) (by simp) (by simp) (fun i j r x h=>by simp at h) (hsrc.rr.mono hst) (by simp[cL]) (by simp[cL])
       rw[fk]at this
       exact hmk _ _ _ _ _ this (by simp[cL])
     ·obtain⟨v',w',g',stay,hr,gK,yK⟩:=qD (ty:=o.type) w hu jB hsrc g2 g4 (by rw[fk];exact g5) g6 (by rw[FK];exact hle) (uv _ hle) (by omega)
      rw[<- g3, <- ex.1]at hr
      have ZY:rows.length*X.C.sz e<=cap*X.C.sz e:=adF _ g4
      have Ax:(cur.toList.take (rows.length*te.sz)).length=rows.length*te.sz:=by rw[fk];simp;omega
      have Ct:b<w.heap.size:=(adq.1 g2).1
      obtain⟨cur',cap',c1,c2,c3,c4,c5,c6⟩:=gK.blk
      have zu:∀(E':Env),aK w E.z w' E'.z->E'.ρ d=some g'->E'.σ d=v'->E'.z g'=zz (rows.length+ys.length)->bF w' E' d (mk (rows++ys)):=by
       intro E' hst h1 h2 h3
       have:=Av (E':=E') (E:=E) (d:=d) (rows:=rows) (ys:=ys) gK (by omega) rfl Ax (by rw[fk];exact hrl) (fun i j r x hi hj=>by
        obtain⟨v,hv,hx⟩:=g8 i j r x hi hj
        refine⟨v, ?_,hx.mono hst⟩
        have hil:i<rows.length:=(adh.1 hi).1
        have hjl:j<X.C.sz e:=by rw[<- hrl r (adM hi)];exact(adh.1 hj).1
        have hle:(i+1)*X.C.sz e<=rows.length*X.C.sz e:=adF _ hil
        rw[ad6]at hle
        rw[fk,adD,ac9 (by omega)];simpa using hv) (hsrc.rr.mono hst) h1 h2
       rw[fk]at this
       exact hmk _ _ _ _ _ this h3
      cases stay with
      |true=>
       have UQ:=yK rfl
       subst UQ
       refine⟨_,_,cL E d g' v' (zz (rows.length+ys.length)),hrun hr, ?_⟩
       have Sd:E.z g'<=zz (rows.length+ys.length):=by
        rw[g7]
        rcases tO with ⟨_,_,rfl,_⟩|⟨_,_,rfl,_⟩
        ·exact adF _ (by omega)
        ·exact adg _
       have hcell:∀o,o<E.z g'->w'.cell? ⟨g',o,none⟩=w.cell? ⟨g',o,none⟩:=by
        intro o ho
        have ho':o<rows.length*te.sz:=by
         rw[g7]at ho
         rcases tO with ⟨_,_,rfl,_⟩|⟨_,_,rfl,_⟩
         ·rw[fk];exact ho
         ·simp at ho
        have h1:cur'.toList[o]? =cur.toList[o]? :=by
         have:=congrArg (·[o]?) c6
         simp only[adD]at this
         rw[ac9 (by rw[ad6];omega),adx (by rw[Ax];exact ho'),adD,ac9 ho']at this
         exact this
        simp only[World.cell?,c1,g2]
        simpa using h1
       have hst:aK w E.z w' (cL E d g' v' (zz (rows.length+ys.length))).z:=by
        intro q
        simp only[cL]
        by_cases hq:q=g'
        ·subst hq;simp only[if_true];exact⟨Sd,hcell⟩
        ·simp only[hq,if_false]
         refine⟨adg _,fun o ho=> ?_⟩
         by_cases hlt:q<w.heap.size
         ·exact cell?_of_heap (gK.other q hlt hq) o
         ·rw[hE.good.fresh q (by omega)]at ho;omega
       exact hE.move hX hl' hro g1 H7 cM hd kJ (by simpa using gK.size) (fun q hq hne=>gK.other q hq hne) gK.os gK.tape gK.output Sd hcell (hkx _ _ hst) (zu _ hst (by simp[cL]) (by simp[cL]) (by simp[cL])) ⟨by simp[cL],by rw[c2];trivial⟩ qp Cs
      |false=>
       have UQ:=gK.at_ rfl
       subst UQ
       refine⟨_,_,cL E d w.heap.size v' (zz (rows.length+ys.length)),hrun hr, ?_⟩
       have hst:=fP (w':=w') (E:=E) (d:=d) (v:=v') (zb:=zz (rows.length+ys.length)) hE.good.fresh (fun q hq=>gK.other q hq (by omega))
       exact hE.create hX hd H7 kJ (by simpa using gK.size) (fun q hq=>gK.other q hq (by omega)) gK.os gK.tape gK.output (hkx _ _ hst) (zu _ hst (by simp[cL]) (by simp[cL]) (by simp[cL])) ⟨by simp[cL],by rw[c2];trivial⟩ qp Cs
    split at h
    ·
     rename_i b i bR
     obtain⟨rfl,_⟩:=zJ bR
     split at h
     ·rename_i e0 e' sz rows hl
      split at h
      ·rename_i r Cr
       obtain⟨⟨rfl,rfl,hdb⟩,hle,hK⟩:=h
       refine⟨_,aN.mk bV.symm fun s' E a w hdn hs hE=> ?_,⟨aH s _,fun p hp=>by
        rcases adv.1 hp with rfl|hp
        ·exact hl
        ·exact iO s _ p hp⟩,hK⟩
       have hl':=hs.2 (b, .nest e0 e' (X.C.sz e') rows none) (by simp)
       have OA:=hE.good.low b (by simp[hl'])
       have hil:i<rows.length:=(adh.1 Cr).1
       have kF:bM s'.m (nn b i)=some (.tip e' (X.C.sz e') r):=by
        rw[uh OA,hl'];simp[inner,Cr]
       have oV:=hE.good.gw _ _ kF
       have ex:=hE.evs hs.1 X.C t (x:=x) (by simp)
       rw[hx]at ex
       simp only[cG]at ex
       obtain⟨eC,hsrc⟩:=hsrc (rs:= []) (ms:= []) (k:= []) (u:= []) (dst:=none) (v:= .jA) hs.1 (fun p hp=>hs.2 p (by simp[hp])) hE
       have qp:∀k,some d=some k->k<X.n:=fun k hk=>hdn k (by rw[bV];exact hk)
       rw[bV]
       obtain⟨hrl,_,Aw⟩:=oV
       rcases Aw with ⟨g1,g2,p,g3⟩|⟨bb,cur,cap,g1,g2,g3,g4,g5,g6,g7,g8⟩
       ·subst g2
        simp only[List.length_nil,adT]at hle
        obtain⟨v',w',hr,FL⟩:=iD (ty:=o.type) w hu jB hsrc (by rw[FK];exact hle) (uv _ hle) (by omega) p
        rw[<- g3, <- ex.1]at hr
        rcases FL with ⟨⟨q,rfl⟩,rfl,hy0⟩|gK
        ·subst hy0
         exact⟨_,_,_,hrun hr,hE.D5 hX hl' Cr hd hdb (.inl rfl) (aK.refl _ _) (fun _ _=>rfl) (fun _ _ _=>rfl) rfl rfl rfl (adg _) hE.good.fresh ⟨by simp,hsz, .inl ⟨by simp,by simp,q,by simp⟩⟩ ⟨rfl,trivial⟩ qp⟩
        ·obtain⟨cur,cap,b1,b2,_⟩:=gK.blk
         have hst:=fP (w':=w') (E:=E) (d:=d) (v:=v') (zb:=ys.length*X.C.sz e') hE.good.fresh (fun b hb=>gK.other b hb (by omega))
         have:=Av (E':=cL E d w.heap.size v' (ys.length*X.C.sz e')) (E:=E) (d:=d) (rows:= []) (olds:= []) (by simpa using gK) (by omega) (by simp) (by simp) (by simp) (fun i j r x h=>by simp at h) (hsrc.rr.mono hst) (by simp[cL]) (by simp[cL])
         rw[fk]at this
         refine⟨_,_,_,hrun hr,hE.D5 hX (z':=(cL E d w.heap.size v' (ys.length*X.C.sz e')).z) hl' Cr hd hdb (.inr (.inl rfl)) hst (fun x hx=> ?_) (fun k hk _=>gK.other k hk (by omega)) gK.os gK.tape gK.output (by rw[gK.size];simp) (fun x hx=> ?_) (this.2 (by simp[cL])) ⟨rfl,by rw[b2];trivial⟩ qp⟩
         ·have:x≠w.heap.size:=fun e=>hx (by rw[e])
          simp[cL,this]
         ·rw[gK.size]at hx
          simp only[aec,if_false]at hx
          have:x≠w.heap.size:=by omega
          simp only[cL,this,if_false]
          exact hE.good.fresh x (by omega)
       ·obtain⟨v',w',g',stay,hr,gK,yK⟩:=qD (ty:=o.type) w hu jB hsrc g2 g4 (by rw[fk];exact g5) g6 (by rw[FK];exact hle) (uv _ hle) (by omega)
        rw[<- g3, <- ex.1]at hr
        have ZY:r.length*X.C.sz e'<=cap*X.C.sz e':=adF _ g4
        have Ax:(cur.toList.take (r.length*te.sz)).length=r.length*te.sz:=by rw[fk];simp;omega
        have Ct:bb<w.heap.size:=(adq.1 g2).1
        obtain⟨cur',cap',c1,c2,c3,c4,c5,c6⟩:=gK.blk
        have zu:∀(E':Env),aK w E.z w' E'.z->E'.ρ d=some g'->E'.σ d=v'->E'.z g'=(r.length+ys.length)*X.C.sz e'->bF w' E' d (.tip e' (X.C.sz e') (r++ys)):=by
         intro E' hst h1 h2 h3
         have:=Av (E':=E') (E:=E) (d:=d) (rows:=r) (ys:=ys) gK (by omega) rfl Ax (by rw[fk];exact hrl) (fun i j r' x hi hj=>by
          obtain⟨v,hv,hx⟩:=g8 i j r' x hi hj
          refine⟨v, ?_,hx.mono hst⟩
          have hil:i<r.length:=(adh.1 hi).1
          have hjl:j<X.C.sz e':=by rw[<- hrl r' (adM hi)];exact(adh.1 hj).1
          have hle:(i+1)*X.C.sz e'<=r.length*X.C.sz e':=adF _ hil
          rw[ad6]at hle
          rw[fk,adD,ac9 (by omega)];simpa using hv) (hsrc.rr.mono hst) h1 h2
         rw[fk]at this
         exact this.2 h3
        have Kn:∀x,some x≠some g'->(cL E d g' v' ((r.length+ys.length)*X.C.sz e')).z x=E.z x:=fun x hx=>by
         have:x≠g':=fun e=>hx (by rw[e])
         simp[cL,this]
        cases stay with
        |true=>
         have UQ:=yK rfl
         subst UQ
         have hst:aK w E.z w' (cL E d g' v' ((r.length+ys.length)*X.C.sz e')).z:=by
          intro q
          simp only[cL]
          by_cases hq:q=g'
          ·subst hq;simp only[if_true]
           refine⟨by rw[g7];exact adF _ (by omega),fun o ho=> ?_⟩
           have ho':o<r.length*te.sz:=by rw[g7]at ho;rw[fk];exact ho
           have h1:cur'.toList[o]? =cur.toList[o]? :=by
            have:=congrArg (·[o]?) c6
            simp only[adD]at this
            rw[ac9 (by rw[ad6];omega),adx (by rw[Ax];exact ho'),adD,ac9 ho']at this
            exact this
           simp only[World.cell?,c1,g2]
           simpa using h1
          ·simp only[hq,if_false]
           refine⟨adg _,fun o ho=> ?_⟩
           by_cases hlt:q<w.heap.size
           ·exact cell?_of_heap (gK.other q hlt hq) o
           ·rw[hE.good.fresh q (by omega)]at ho;omega
         refine⟨_,_,_,hrun hr,hE.D5 hX (ob:=some g') (z':=(cL E d g' v' ((r.length+ys.length)*X.C.sz e')).z) hl' Cr hd hdb (.inr (.inr g1.symm)) hst Kn (fun k hk hne=>gK.other k hk (fun e=>hne (by rw[e]))) gK.os gK.tape gK.output (by rw[gK.size];simp) (fun x hx=> ?_) (zu _ hst (by simp) (by simp) (by simp[cL])) ⟨rfl,by rw[c2];trivial⟩ qp⟩
         rw[gK.size]at hx
         simp only[if_true]at hx
         rw[Kn x (fun e=>by cases e;omega)]
         exact hE.good.fresh x hx
        |false=>
         have UQ:=gK.at_ rfl
         subst UQ
         have hst:=fP (w':=w') (E:=E) (d:=d) (v:=v') (zb:=(r.length+ys.length)*X.C.sz e') hE.good.fresh (fun q hq=>gK.other q hq (by omega))
         refine⟨_,_,_,hrun hr,hE.D5 hX (ob:=some w.heap.size) (z':=(cL E d w.heap.size v' ((r.length+ys.length)*X.C.sz e')).z) hl' Cr hd hdb (.inr (.inl rfl)) hst Kn (fun k hk _=>gK.other k hk (by omega)) gK.os gK.tape gK.output (by rw[gK.size];simp) (fun x hx=> ?_) (zu _ hst (by simp) (by simp) (by simp[cL])) ⟨rfl,by rw[c2];trivial⟩ qp⟩
         rw[gK.size]at hx
         simp only[aec,if_false]at hx
         rw[Kn x (fun e=>by cases e;omega)]
         exact hE.good.fresh x (by omega)
      ·exact h.elim
     ·exact h.elim
    split at h
    ·rename_i e' sz rows hl
     obtain⟨⟨rfl,rfl⟩,hle,hK⟩:=h
     exact core _ rows _ (.tip e' (X.C.sz e')) _ hl rfl (.inl ⟨rfl,rfl,rfl,rfl⟩) hle hK
    ·rename_i e' sz rows hl
     obtain⟨⟨rfl,rfl⟩,hle,hK⟩:=h
     exact core _ rows _ (.own e' (X.C.sz e')) _ hl rfl (.inr ⟨rfl,rfl,rfl,rfl⟩) hle hK
    ·exact h.elim
   ·exact h.elim
 ·exact h.elim
end
end Go.Ab
end
