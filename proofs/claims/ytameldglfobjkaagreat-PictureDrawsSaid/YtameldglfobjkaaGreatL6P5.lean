/- A part of the proof. -/
import Derived.Lib.AppendZeros
import Derived.Test.YtameldglfobjkaaGreatL6P4
set_option linter.unusedSimpArgs false
set_option linter.unusedVariables false
section
namespace Go.Ab
structure Src (w:World) (E:Env) (sz:Nat) (v:Value) (eC:List (List Value)) (rows:List (List D)):Prop where
 rr:eZ w E sz eC rows
 val:((∃p,v= .slice p 0 0)/\eC= [])\/∃b off c,v= .slice (some ⟨b,off,none⟩) rows.length c/\∀j u,eC.flatten[j]? =some u->w.cell? ⟨b,off+j,none⟩=some u
def cut(sz:Nat):Nat->List Value->List (List Value)
 |0,_=> []
 |n+1,l=>l.take sz::cut sz n (l.drop sz)
theorem Kk(sz:Nat):∀(n:Nat) (l:List Value),(cut sz n l).length=n
 |0,_=>rfl
 |n+1,l=>by simp[cut,Kk sz n]
theorem Kl(sz:Nat):∀(n:Nat) (l:List Value) (i:Nat),i<n->(cut sz n l)[i]? =some ((l.drop (i*sz)).take sz)
 |0,_,i,h=>by omega
 |n+1,l,0,_=>by simp[cut]
 |n+1,l,i+1,h=>by
  simp only[cut,List.getElem?_cons_succ]
  rw[Kl sz n _ i (by omega),List.drop_drop]
  congr 3
  rw[ad7];omega
theorem qC(sz:Nat):∀(n:Nat) (l:List Value),l.length=n*sz->(cut sz n l).flatten=l
 |0,l,h=>by simp at h;simp[cut,h]
 |n+1,l,h=>by
  simp only[cut,List.flatten_cons]
  rw[qC sz n (l.drop sz) (by rw[aeD,h,ad7];omega),afG]
theorem sg{w:World}{E:Env}{sz:Nat}{l:List Value}{rows:List (List D)}(hl:l.length=rows.length*sz)(hsz:∀r∈rows,r.length=sz)
 (h:∀(i j:Nat) (r:List D) (x:D),rows[i]? =some r->r[j]? =some x->∃v,l[i*sz+j]? =some v/\Rd w E.z v x):eZ w E sz (cut sz rows.length l) rows:=by
 refine⟨Kk _ _ _,fun i vs r hi hr=> ?_⟩
 have hil:i<rows.length:=(adi.1 hr).1
 rw[Kl sz _ _ i hil]at hi
 cases hi
 have hle:(i+1)*sz<=rows.length*sz:=adG _ hil
 rw[ad7]at hle
 refine⟨by simp;omega,hsz r (adN hr),fun j x v hj hv=> ?_⟩
 obtain⟨v',NU,hx⟩:=h i j r x hr hj
 rw[adE]at hv
 split at hv
 ·rw[ad4,NU]at hv;cases hv;exact hx
 ·cases hv
theorem Oz{w:World}{E:Env}{sz:Nat}{rows:List (List D)}{v:Value}(h:Rd w E.z v (.sl sz rows)):∃eC,Src w E sz v eC rows:=by
 cases h with
 |nil p=>exact⟨[],eZ.nil w E sz, .inl ⟨⟨p,rfl⟩,rfl⟩⟩
 |sl b off n cap _ _ vs hn hsz hz hcap hc hr=>
  subst hn
  have hlen:((List.range (rows.length*sz)).map vs).length=rows.length*sz:=by simp
  refine⟨cut sz rows.length ((List.range (rows.length*sz)).map vs),sg hlen hsz (fun i j r x hi hj=> ?_), .inr ⟨b,off,cap,rfl,fun j u hu=> ?_⟩⟩
  ·have hil:i<rows.length:=(adi.1 hi).1
   have hjl:j<sz:=by rw[<- hsz r (adN hi)];exact(adi.1 hj).1
   have hle:(i+1)*sz<=rows.length*sz:=adG _ hil
   rw[ad7]at hle
   exact⟨vs (i*sz+j),by rw[adn,adq (by omega)];rfl,hr i j r x hi hj⟩
  ·rw[qC sz _ _ hlen,adn]at hu
   obtain⟨q,hq,rfl⟩:=aea.1 hu
   have hj:j<rows.length*sz:=by have:=(adi.1 hq).1;simpa using this
   rw[adq hj]at hq
   cases hq
   exact hc _ hj
theorem Sd{w:World}{E:Env}{l e sz:Nat}{rows:List (List D)}(h:bF w E l (.own e sz rows)):∃eC,Src w E sz (E.σ l) eC rows:=by
 obtain⟨g1,g2,⟨h1,h2,h3⟩|⟨b,cur,cap,h1,h2,h3,h4,h5,h6,h7,h8⟩⟩:=h
 ·subst h2;exact⟨[],eZ.nil w E sz, .inl ⟨h3,rfl⟩⟩
 ·have hle:rows.length*sz<=cap*sz:=adG _ h4
  have hlen:(cur.toList.take (rows.length*sz)).length=rows.length*sz:=by simp;omega
  refine⟨cut sz rows.length (cur.toList.take (rows.length*sz)),sg hlen g1 (fun i j r x hi hj=> ?_), .inr ⟨b,0,cap,h3,fun j u hu=> ?_⟩⟩
  ·obtain⟨v,hv,hx⟩:=h8 i j r x hi hj
   have hil:i<rows.length:=(adi.1 hi).1
   have hjl:j<sz:=by rw[<- g1 r (adN hi)];exact(adi.1 hj).1
   have hle:(i+1)*sz<=rows.length*sz:=adG _ hil
   rw[ad7]at hle
   exact⟨v,by rw[adE,ada (by omega)];simpa using hv,hx⟩
  ·rw[qC sz _ _ hlen,adE]at hu
   split at hu
   ·simp only[adU]
    simp only[World.cell?,h2]
    simpa using hu
   ·cases hu
theorem OA{w:World}{E:Env}{l e sz:Nat}{rows:List (List D)}(h:bF w E l (.part e sz rows)):∃eC,Src w E sz (E.σ l) eC rows:=by
 obtain⟨g1,g2,⟨h1,h2,h3⟩|⟨b,off,cur,cap,h1,h2,h3,h4,h5,h6,h7,h8⟩⟩:=h
 ·subst h2;exact⟨[],eZ.nil w E sz, .inl ⟨h3,rfl⟩⟩
 ·have hle:rows.length*sz<=cap*sz:=adG _ h4
  have hlen:((cur.toList.drop off).take (rows.length*sz)).length=rows.length*sz:=by simp;omega
  refine⟨cut sz rows.length ((cur.toList.drop off).take (rows.length*sz)),sg hlen g1 (fun i j r x hi hj=> ?_), .inr ⟨b,off,cap,h3,fun j u hu=> ?_⟩⟩
  ·obtain⟨v,hv,hx⟩:=h8 i j r x hi hj
   have hil:i<rows.length:=(adi.1 hi).1
   have hjl:j<sz:=by rw[<- g1 r (adN hi)];exact(adi.1 hj).1
   have hle:(i+1)*sz<=rows.length*sz:=adG _ hil
   rw[ad7]at hle
   exact⟨v,by rw[adE,ada (by omega),ad4];simpa using hv,hx⟩
  ·rw[qC sz _ _ hlen,adE]at hu
   split at hu
   ·rw[ad4]at hu
    simp only[World.cell?,h2]
    simpa using hu
   ·cases hu
theorem UN{C:Cfg}{e:Nat}{s:ASt}{av:AV}{rows:List (List D)}(h:rowsOf C e s av=some rows)(hpos:0<C.sz e){w:World}{E:Env}(CP:∀p∈msOf s [av],bF w E p.1 p.2)
 {v:Value} (hv:cG w E av v):∃eC,Src w E (C.sz e) v eC rows:=by
 unfold rowsOf at h
 split at h
 ·cases h;simp only[cG]at hv;exact⟨[],eZ.nil w E _, .inl ⟨⟨none,hv⟩,rfl⟩⟩
 ·cases h;simp only[cG]at hv;exact⟨[],eZ.nil w E _, .inl ⟨hv,rfl⟩⟩
 ·split at h
  ·rename_i hsz;cases h;subst hsz;exact Oz hv
  ·cases h
 ·rename_i l
  split at h
  ·rename_i e' sz r hl
   split at h
   ·rename_i he
    cases h
    have h1:=CP (l, .tip e' sz rows) (by simp[msOf,hl])
    obtain⟨-,rfl⟩:=he
    rw[hv.1];exact Oz (qA h1)
   ·cases h
  ·rename_i e' sz r hl
   split at h
   ·rename_i he
    cases h
    have h1:=CP (l, .own e' sz rows) (by simp[msOf,hl])
    obtain⟨-,rfl⟩:=he
    rw[hv.1];exact Sd h1
   ·cases h
  ·rename_i e' sz r hl
   split at h
   ·rename_i he
    cases h
    have h1:=CP (l, .part e' sz rows) (by simp[msOf,hl])
    obtain⟨-,rfl⟩:=he
    rw[hv.1];exact OA h1
   ·cases h
  ·cases h
 ·cases h
structure Ip (w w':World) (e sz:Nat) (g:Nat) (v':Value) (n:Nat) (cells:List Value) (stay:Bool):Prop where
 os:w'.os=w.os
 tape:w'.tape=w.tape
 output:w'.output=w.output
 size:w'.heap.size=if stay then w.heap.size else w.heap.size+1
 at_:stay=false->g=w.heap.size
 other:∀k,k<w.heap.size->k≠g->w'.heap[k]? =w.heap[k]?
 blk:∃cur cap,w'.heap[g]? =some (.cells cur e (0,0))/\v'= .slice (some ⟨g,0,none⟩) n cap/\n<=cap/\cap*sz=cur.size/\cap<=maxLen/\cur.toList.take (n*sz)=cells
section
variable {P:Program}
theorem iD(w:World){t ty e:Nat}{te:TI}(hu:P.underlying t=some (.slice e))(he:bG P e te){E:Env}{y:Value}{eC:List (List Value)}{ys:List (List D)}(hs:Src w E te.sz y eC ys)
 (hb:ys.length*te.iu<=140737488355328) (hm:ys.length<=maxLen) (hpos:0<te.sz) (p:Option Addr):
 ∃v' w',(Builtin.append_ #[t,t] ty #[.slice p 0 0,y]).run P w= .ok v' w'/\(((∃p,v'= .slice p 0 0)/\w'=w/\ys= [])\/Ip w w' e te.sz w.heap.size v' ys.length eC.flatten false):=by
 obtain⟨⟨i,z,e1,e2,e3,e4,e5,e6,e7⟩,_⟩:=he
 have hl:eC.flatten.length=ys.length*te.sz:=by rw[vq hs.rr.lens.1,hs.rr.1]
 rcases hs.val with ⟨⟨q,rfl⟩,rfl⟩|⟨b,off,c,rfl,hc⟩
 ·have hy:ys= []:=adF (by rw[<- hs.rr.1];rfl)
  refine⟨.slice p 0 0,w, ?_, .inl ⟨⟨p,rfl⟩,rfl,hy⟩⟩
  cases p<;>cases q<;>simp[Builtin.append_,run_underlying hu,sizeOf,typeInfo,e1,Builtin.lenOf,Builtin.firstCells,loadCells,loadCellsFrom,storeCells]
 ·by_cases hn:ys.length=0
  ·have hy:ys= []:=adF hn
   subst hy
   refine⟨.slice p 0 0,w, ?_, .inl ⟨⟨p,rfl⟩,rfl,rfl⟩⟩
   cases p<;>simp[Builtin.append_,run_underlying hu,sizeOf,typeInfo,e1,Builtin.lenOf,Builtin.firstCells,loadCells,loadCellsFrom,storeCells]
  ·have hm':ys.length<=9223372036854775807:=by simpa only[maxLen]using hm
   have hzs:z.cells.size=te.sz:=by rw[<- Array.length_toList,e5];simpa using e7
   have hge:=grownCap_ge w ys.length 0 e
   cases p with
   |none=>
    have hr:=run_append_nil (P:=P) w t ty e i z hu e1 e4 ⟨b,off,none⟩ ys.length c eC.flatten (by rw[hl,e2]) (fun j v hj=>by rw[Addr.add_mid];exact hc j v hj) (by omega) (by omega) (by rw[e3];omega)
    refine⟨_,_,hr, .inr ⟨rfl,rfl,rfl,by simp,fun _=>rfl,fun k hk _=>heap_alloc_old w.drew _ hk, ?_⟩⟩
    refine⟨_,grownCap w ys.length 0 e,heap_alloc_new w.drew _,rfl,hge, ?_,grownCap_le_maxLen w ys.length 0 e hm, ?_⟩
    ·simp only[afi,aee,size_zeroCells,hzs,hl, <- Nat.add_mul]
     congr 1;omega
    ·simp only[agI]
     rw[<- hl];exact ag6
   |some ad=>
    have hr:=run_append_grow (P:=P) w t ty e i z hu e1 e4 ad 0 0 [] (by simp) (fun j v hj=>by simp at hj) ⟨b,off,none⟩ ys.length c eC.flatten (by rw[hl,e2]) (fun j v hj=>by rw[Addr.add_mid];exact hc j v hj) (by omega) (by omega) (growslice_fits (by omega) (by rw[e3,adU];exact hb))
    simp only[adU,List.nil_append,List.length_nil]at hr
    refine⟨_,_,hr, .inr ⟨rfl,rfl,rfl,by simp,fun _=>rfl,fun k hk _=>heap_alloc_old w.drew _ hk, ?_⟩⟩
    refine⟨_,grownCap w ys.length 0 e,heap_alloc_new w.drew _,rfl,hge, ?_,grownCap_le_maxLen w ys.length 0 e hm, ?_⟩
    ·simp only[afi,aee,size_zeroCells,hzs,hl, <- Nat.add_mul,adj,List.length_nil,adU]
     congr 1;omega
    ·simp only[agI,List.nil_append]
     rw[<- hl];exact ag6
theorem qD(w:World){t ty e:Nat}{te:TI}(hu:P.underlying t=some (.slice e))(he:bG P e te){E:Env}{y:Value}{eC:List (List Value)}{ys:List (List D)}(hs:Src w E te.sz y eC ys)
 {g n cap:Nat} {cur:Array Value} (hg:w.heap[g]? =some (.cells cur e (0,0))) (hnc:n<=cap) (hcs:cap*te.sz=cur.size) (UO:cap<=maxLen)
 (hb:(n+ys.length)*te.iu<=140737488355328) (hm:n+ys.length<=maxLen) (hpos:0<te.sz):
 ∃v' w' g' stay,(Builtin.append_ #[t,t] ty #[.slice (some ⟨g,0,none⟩) n cap,y]).run P w= .ok v' w'/\Ip w w' e te.sz g' v' (n+ys.length) (cur.toList.take (n*te.sz)++eC.flatten) stay/\(stay=true->g'=g):=by
 obtain⟨⟨i,z,e1,e2,e3,e4,e5,e6,e7⟩,_⟩:=he
 have yJ:g<w.heap.size:=(adr.1 hg).1
 have hl:eC.flatten.length=ys.length*te.sz:=by rw[vq hs.rr.lens.1,hs.rr.1]
 have Xk:n*te.sz<=cap*te.sz:=adG _ hnc
 have htl:(cur.toList.take (n*te.sz)).length=n*te.sz:=by simp;omega
 rcases hs.val with ⟨⟨q,rfl⟩,rfl⟩|⟨b,off,c,rfl,hc⟩
 ·have hy:ys.length=0:=by rw[<- hs.rr.1];rfl
  refine⟨.slice (some ⟨g,0,none⟩) n cap,w,g,true, ?_,⟨rfl,rfl,rfl,rfl,fun h=>by simp at h,fun k _ _=>rfl,cur,cap,hg,by rw[hy];rfl,by omega,hcs,UO,by simp[hy]⟩,fun _=>rfl⟩
  cases q<;>simp[Builtin.append_,run_underlying hu,sizeOf,typeInfo,e1,Builtin.lenOf,Builtin.firstCells,hnc,storeCells,loadCells,loadCellsFrom]
 ·have hcells:∀j v,eC.flatten[j]? =some v->w.cell? ((⟨b,off,none⟩:Addr).add j)=some v:=fun j v hj=>by rw[Addr.add_mid];exact hc j v hj
  have hm':n+ys.length<=9223372036854775807:=by simpa only[maxLen]using hm
  by_cases hroom:n+ys.length<=cap
  ·have hle:(n+ys.length)*te.sz<=cap*te.sz:=adG _ hroom
   rw[ad7]at hle
   have hr:=run_append_room (P:=P) w t ty e i hu e1 g n cap cur hg ⟨b,off,none⟩ ys.length c eC.flatten (by rw[hl,e2]) hcells hs.rr.one hroom (by rw[hl,e2];omega)
   refine⟨_,_,g,true,hr,⟨rfl,rfl,rfl,by simp[size_setRow],fun h=>by simp at h,fun k _ hk=>setRow_other w g k _ hk,_,cap,jG hg,rfl,hroom, ?_,UO, ?_⟩,fun _=>rfl⟩
   ·simp only[aee,adj,adH,aeD,Array.length_toList,e2,hl]
    omega
   ·simp only[e2]
    rw[ad7, <- hl]
    rw[aez (by simp only[adj,htl];omega),adC (by simp only[adj,htl];omega)]
  ·have hge:=grownCap_ge w (n+ys.length) cap e
   have hr:=run_append_grow (P:=P) w t ty e i z hu e1 e4 ⟨g,0,none⟩ n cap (cur.toList.take (n*te.sz)) (by rw[htl,e2]) (fun j v hj=>by
    rw[Addr.add_mid,adU]
    rw[adE]at hj
    split at hj
    ·simp only[World.cell?,hg];simpa using hj
    ·cases hj) ⟨b,off,none⟩ ys.length c eC.flatten (by rw[hl,e2]) hcells (by omega) (by omega) (growslice_fits (by omega) (by rw[e3];exact hb))
   have hzs:z.cells.size=te.sz:=by rw[<- Array.length_toList,e5];simpa using e7
   refine⟨_,_,w.heap.size,false,hr,⟨rfl,rfl,rfl,by simp,fun _=>rfl,fun k hk _=>heap_alloc_old w.drew _ hk,_,grownCap w (n+ys.length) cap e,heap_alloc_new w.drew _,rfl,hge, ?_,grownCap_le_maxLen w _ cap e hm, ?_⟩,fun h=>by simp at h⟩
   ·simp only[afi,aee,size_zeroCells,hzs,htl,hl, <- Nat.add_mul]
    congr 1;omega
   ·simp only[agI]
    rw[aez (by simp only[adj,htl,hl,ad7];omega),adC (by simp only[adj,htl,hl,ad7];omega)]
end
theorem bh.move{X:Ctx}(hX:X.Ok){E:Env}{s:ASt}{a:Act}{w:World}(h:bh X E s a w){d l g:Nat}{old:AObj}(hl:look s.m l=some old)(hro:old.ro=false)(hg:E.ρ l=some g)
 {kill:List (Nat × Option D)} (H8:kl kill d≠none) (cM:kl kill l≠none) (hd:d<10000) (kJ:∀l,kl kill l≠none->l<20000) {rs:List (Nat × AV)} {ms:List (Nat × AObj)} {ob:AObj} {v:Value} {zb:Nat}
 {w':World} {Io:AV} {dst:Option Nat} {v':Value}
 (hsize:w'.heap.size=w.heap.size) (hh:∀b,b<w.heap.size->b≠g->w'.heap[b]? =w.heap[b]?) (hos:w'.os=w.os) (nN:w'.tape=w.tape) (hout:w'.output=w.output)
 (hzb:E.z g<=zb) (hcells:∀o,o<E.z g->w'.cell? ⟨g,o,none⟩=w.cell? ⟨g,o,none⟩)
 (hkx:∀l x,kl kill l=some (some x)->kN (E.σ l)->Rd w' (cL E d g v zb).z (E.σ l) x)
 (oV:bF w' (cL E d g v zb) d ob) (hv:cG w' (cL E d g v zb) Io v') (bV:∀k,dst=some k->k<X.n) (Cs:ob.isNest=false:=by rfl):
 bh X (cL E d g v zb) ((⟨rs,ms,kill, [(d,ob)],dst,Io⟩:LA).app s) (a.put dst v') w':=by
 have dx:∀l,look [(d,ob)] l=if d=l then some ob else none:=fun l=>by simp[look]
 have yJ:g<w.heap.size:=(h.good.obj l old hl).lt hg
 refine h.app ⟨rs,ms,kill, [(d,ob)],dst,Io⟩ _ w' v' (fun b=> ?_) hos nN hout (by omega) (fun k hk=> ?_) hkx (fun k hk=> ?_) kJ (fun k o hk=> ?_) (fun b hb=> ?_) (fun k o hk=> ?_) (fun k k' hk hk'=> ?_) (fun k b hk hb=> ?_) (fun b hb=> ?_) hv bV
 ·simp only[cL]
  by_cases UP:b=g
  ·subst UP;simp only[if_true];exact⟨hzb,hcells⟩
  ·simp only[UP,if_false]
   refine⟨adh _,fun o ho=> ?_⟩
   by_cases hlt:b<w.heap.size
   ·exact cell?_of_heap (hh b hlt UP) o
   ·rw[h.good.fresh b (by omega)]at ho;omega
 ·have:k≠d:=fun e=>H8 (e ▸ hk)
  simp[cL,this]
 ·have h1:=hX.low k hk
  have:k≠d:=by omega
  simp[cL,this]
 ·simp only[dx]at hk
  split at hk
  ·rename_i hdl;subst hdl;cases hk;exact⟨by omega,Cs⟩
  ·cases hk
 ·by_cases UP:b=g
  ·subst UP;exact .inr ⟨l,old,h.good.bM hl,hro,hg, .inl cM⟩
  ·left;exact⟨hh b hb UP,by simp[cL,UP]⟩
 ·simp only[dx]at hk
  split at hk
  ·rename_i hdl;subst hdl;cases hk;exact oV
  ·cases hk
 ·simp only[dx]at hk hk'
  split at hk
  ·split at hk'
   ·omega
   ·simp at hk'
  ·simp at hk
 ·simp only[dx]at hk
  split at hk
  ·rename_i hdl
   subst hdl
   simp only[cL,if_true,adz]at hb
   subst hb
   exact .inr ⟨l,old,h.good.bM hl,hro,hg, .inl cM⟩
  ·simp at hk
 ·have h1:b≠g:=by omega
  simp only[cL,h1,if_false]
  exact h.good.fresh b (by omega)
def j8(E:Env)(d:Nat)(p:Option Addr):Env:=⟨fun l=>if l=d then none else E.ρ l,fun l=>if l=d then .slice p 0 0 else E.σ l,E.z⟩
theorem bh.D4{X:Ctx}(hX:X.Ok){E:Env}{s:ASt}{a:Act}{w:World}(h:bh X E s a w){d:Nat}{kill:List (Nat × Option D)}(H8:kl kill d≠none)(hd:d<10000)(kJ:∀l,kl kill l≠none->l<20000)
 {rs:List (Nat × AV)} {ms:List (Nat × AObj)} {ob:AObj} {Io:AV} {dst:Option Nat} {v':Value}
 (hkx:∀l x,kl kill l=some (some x)->kN (E.σ l)->Rd w E.z (E.σ l) x)
 {p:Option Addr} (oV:bF w (j8 E d p) d ob) (hv:cG w (j8 E d p) Io v') (bV:∀k,dst=some k->k<X.n) (Cs:ob.isNest=false:=by rfl):
 bh X (j8 E d p) ((⟨rs,ms,kill, [(d,ob)],dst,Io⟩:LA).app s) (a.put dst v') w:=by
 have dx:∀l,look [(d,ob)] l=if d=l then some ob else none:=fun l=>by simp[look]
 refine h.app ⟨rs,ms,kill, [(d,ob)],dst,Io⟩ _ w v' (aK.refl _ _) rfl rfl rfl (adh _) (fun k hk=> ?_) hkx (fun k hk=> ?_) kJ (fun k o hk=> ?_) (fun b hb=> .inl ⟨rfl,rfl⟩) (fun k o hk=> ?_) (fun k k' hk hk'=> ?_) (fun k b hk hb=> ?_) h.good.fresh hv bV
 ·have:k≠d:=fun e=>H8 (e ▸ hk)
  simp[j8,this]
 ·have h1:=hX.low k hk
  have:k≠d:=by omega
  simp[j8,this]
 ·simp only[dx]at hk
  split at hk
  ·rename_i hdl;subst hdl;cases hk;exact⟨by omega,Cs⟩
  ·cases hk
 ·simp only[dx]at hk
  split at hk
  ·rename_i hdl;subst hdl;cases hk;exact oV
  ·cases hk
 ·simp only[dx]at hk hk'
  split at hk
  ·split at hk'
   ·omega
   ·simp at hk'
  ·simp at hk
 ·simp only[dx]at hk
  split at hk
  ·rename_i hdl
   subst hdl
   simp[j8]at hb
  ·simp at hk
theorem bh.D5{X:Ctx}(hX:X.Ok){E:Env}{s:ASt}{a:Act}{w:World}(h:bh X E s a w){b i d e' e sz:Nat}{rows:List (List (List D))}{r R:List (List D)}{rs:List (Nat × AV)}{ms:List (Nat × AObj)}{dst:Option Nat}{v v':Value}{ob:Option Nat}{z':Nat->Nat}{w':World}
 (hl:look s.m b=some (.nest e' e sz rows none)) (hi:rows[i]? =some r) (hd:d<10000) (hdb:d≠b) (Km:ob=none\/ob=some w.heap.size\/ob=E.ρ (nn b i))
 (hst:aK w E.z w' z') (hz:∀x,some x≠ob->z' x=E.z x) (hh:∀k,k<w.heap.size->some k≠ob->w'.heap[k]? =w.heap[k]?) (hos:w'.os=w.os) (nN:w'.tape=w.tape) (hout:w'.output=w.output) (hsize:w.heap.size<=w'.heap.size)
 (uo:∀x,w'.heap.size<=x->z' x=0)
 (oV:bF w' ⟨fun q=>if q=d then ob else E.ρ q,fun q=>if q=d then v else E.σ q,z'⟩ d (.tip e sz R)) (hv:v'=v/\kN v) (bV:∀k,dst=some k->k<X.n):
 bh X ⟨fun q=>if q=d then ob else E.ρ q,fun q=>if q=d then v else E.σ q,z'⟩ ((⟨rs,ms, [(nn b i,some (.sl sz r)),(d,none)], [(d, .tip e sz R),(b, .nest e' e sz rows (some i))],dst, .ref d⟩:LA).app s) (a.put dst v') w':=by
 have OB:=h.good.low b (by simp[hl])
 have hil:i<rows.length:=(adi.1 hi).1
 have dx:∀k,look [(d,AObj.tip e sz R),(b, .nest e' e sz rows (some i))] k=if d=k then some (.tip e sz R) else if b=k then some (.nest e' e sz rows (some i)) else none:=fun k=>by simp[look]
 have hsb:bM s.m b=some (.nest e' e sz rows none):=h.good.bM hl
 have Au:∀j (hj:j<rows.length),bM s.m (nn b j)=some (.tip e sz rows[j]):=by
  intro j hj
  rw[uh OB,hl]
  simp[inner,hj]
 have ur:∀ {j j'},nn b j=nn b j'->j=j':=fun {j j'} hjj=>by unfold nn at hjj;omega
 have UQ:∀j,nn b j≠d:=fun j=>by unfold nn;omega
 have nnb:∀j,nn b j≠b:=fun j=>by unfold nn;omega
 have H9:∀q o,bM [(d,AObj.tip e sz R),(b, .nest e' e sz rows (some i))] q=some o->(q=d/\o= .tip e sz R)\/(q=b/\o= .nest e' e sz rows (some i))\/∃j,∃hj:j<rows.length,j≠i/\q=nn b j/\o= .tip e sz rows[j]:=by
  intro q o hq
  unfold bM at hq
  cases bR:nd q with
  |none=>
   rw[bR]at hq
   simp only[dx]at hq
   split at hq
   ·rename_i L3;cases hq;exact .inl ⟨L3.symm,rfl⟩
   ·split at hq
    ·rename_i L3;cases hq;exact .inr (.inl ⟨L3.symm,rfl⟩)
    ·cases hq
  |some p=>
   obtain⟨b',j⟩:=p
   obtain⟨rfl,hb'⟩:=zJ bR
   rw[bR]at hq
   simp only[dx]at hq
   split at hq
   ·simp[inner]at hq
   ·split at hq
    ·rename_i hlb
     subst hlb
     simp only[inner]at hq
     split at hq
     ·cases hq
     ·rename_i hne
      cases hr:rows[j]? with
      |none=>simp[hr]at hq
      |some rr=>
       simp[hr]at hq
       obtain⟨hj,Wu⟩:=adi.1 hr
       exact .inr (.inr ⟨j,hj,fun e=>hne (by rw[e]),rfl,by rw[Wu,hq]⟩)
    ·simp[inner]at hq
 have yK:∀ {q c},bM s.m q≠none->q≠nn b i->E.ρ q=some c->some c≠ob:=by
  intro q c hq hne hc he
  obtain⟨o,ho⟩:=adf.1 hq
  have hlt:=(h.good.gw q o ho).lt hc
  rcases Km with h1|h1|h1
  ·rw[h1]at he;cases he
  ·rw[h1]at he;cases he;omega
  ·rw[h1]at he
   exact hne (h.good.inj _ _ c hq (by rw[Au i hil];simp) hc he.symm)
 refine h.Of ⟨rs,ms, [(nn b i,some (.sl sz r)),(d,none)], [(d, .tip e sz R),(b, .nest e' e sz rows (some i))],dst, .ref d⟩ _ w' v' hst hos nN hout hsize (fun q hq=> ?_) (fun q x hq hs=> ?_) (fun q hq=> ?_) (fun q hq=> ?_) (fun q hq=> ?_) (fun c hc=> ?_) (fun q o hq=> ?_) (fun q q' c hq oW hc zq=> ?_) (fun q c hq hc=> ?_) uo ?_ bV
 ·have:q≠d:=fun e=>by
   subst e
   simp only[kl]at hq
   split at hq
   ·cases hq
   ·rename_i h1;simp at hq
  simp[this]
 ·simp only[kl]at hq
  split at hq
  ·rename_i Y0;subst Y0;cases hq
   have:=h.good.gw _ _ (Au i hil)
   rw[(adi.1 hi).2]at this
   exact(qA this).mono hst
  ·split at hq<;>cases hq
 ·have h1:=hX.low q hq
  have:q≠d:=by omega
  simp[this]
 ·simp only[kl]at hq
  split at hq
  ·rename_i Y1;right;subst Y1;unfold hit;rw[nd_nn OB];simp only[dx];split<;>simp
  ·split at hq
   ·rename_i Y1;left;exact nd_low (by omega)
   ·exact absurd rfl hq
 ·simp only[dx]at hq
  split at hq
  ·omega
  ·split at hq
   ·omega
   ·exact absurd rfl hq
 ·by_cases hcb:some c=ob
  ·right
   rcases Km with h1|h1|h1
   ·rw[h1]at hcb;cases hcb
   ·rw[h1]at hcb;cases hcb;omega
   ·exact⟨nn b i,_,Au i hil,rfl,by rw[<- h1,hcb], .inl (by simp[kl])⟩
  ·exact .inl ⟨hh c hc hcb,hz c hcb⟩
 ·
  rcases H9 q o hq with ⟨rfl,rfl⟩|⟨rfl,rfl⟩|⟨j,hj,hji,rfl,rfl⟩
  ·exact oV
  ·obtain⟨b1,cur,cap,g1,g2,g3,g4,g5,g6,g7,g8⟩:=h.good.gw _ _ hsb
   have hb1:b1<w.heap.size:=(adr.1 g2).1
   have hne:=yK (by rw[hsb];simp) (fun e=>nnb i e.symm) g1
   refine⟨b1,cur,cap,(ac8 (fun e=>hdb e.symm)).trans g1,by rw[hh b1 hb1 hne];exact g2,(ac8 (fun e=>hdb e.symm)).trans g3,g4,g5,g6,(hz b1 hne).trans g7,fun j hj hne=> ?_⟩
   show cur[j]? =some (if nn q j=d then v else E.σ (nn q j))/\kN (if nn q j=d then v else E.σ (nn q j))
   rw[ac8 (UQ j)]
   exact g8 j hj (by simp)
  ·obtain⟨k1,k2,k3⟩:=h.good.gw _ _ (Au j hj)
   refine⟨k1,k2, ?_⟩
   rcases k3 with ⟨m1,m2,p,m3⟩|⟨b1,UJ,UK,m1,m2,m3,m4,m5,m6,m7,m8⟩
   ·exact .inl ⟨(ac8 (UQ j)).trans m1,m2,p,(ac8 (UQ j)).trans m3⟩
   ·have hb1:b1<w.heap.size:=(adr.1 m2).1
    have hne:=yK (by rw[Au j hj];simp) (fun e=>hji (ur e)) m1
    refine .inr ⟨b1,UJ,UK,(ac8 (UQ j)).trans m1,by rw[hh b1 hb1 hne];exact m2,(ac8 (UQ j)).trans m3,m4,m5,m6,(hz b1 hne).trans m7,fun p j' r x hp hj'=> ?_⟩
    obtain⟨v,hv,hx⟩:=m8 p j' r x hp hj'
    exact⟨v,hv,hx.mono hst⟩
 ·
  obtain⟨o,ho⟩:=adf.1 hq
  obtain⟨o',ho'⟩:=adf.1 oW
  have old:∀q o,bM [(d,AObj.tip e sz R),(b, .nest e' e sz rows (some i))] q=some o->q=d\/(q≠d/\bM s.m q≠none/\q≠nn b i):=by
   intro q o hq
   rcases H9 q o hq with ⟨rfl,rfl⟩|⟨rfl,rfl⟩|⟨j,hj,hji,rfl,rfl⟩
   ·exact .inl rfl
   ·exact .inr ⟨fun e=>hdb e.symm,by rw[hsb];simp,fun e=>nnb i e.symm⟩
   ·exact .inr ⟨UQ j,by rw[Au j hj];simp,fun e=>hji (ur e)⟩
  rcases old q o ho with rfl|⟨h1,h2,h3⟩<;>rcases old q' o' ho' with rfl|⟨CO,NV,NW⟩
  ·rfl
  ·simp only[CO,if_true,if_false]at hc zq
   exact absurd hc.symm (yK NV NW zq)
  ·simp only[h1,if_true,if_false]at hc zq
   exact absurd zq.symm (yK h2 h3 hc)
  ·simp only[h1,CO,if_false]at hc zq
   exact h.good.inj _ _ c h2 NV hc zq
 ·obtain⟨o,ho⟩:=adf.1 hq
  rcases H9 q o ho with ⟨rfl,rfl⟩|⟨rfl,rfl⟩|⟨j,hj,hji,rfl,rfl⟩
  ·simp only[if_true]at hc
   rcases Km with h1|h1|h1
   ·rw[h1]at hc;cases hc
   ·rw[h1]at hc;cases hc;exact .inl (adh _)
   ·exact .inr ⟨nn b i,_,Au i hil,rfl,by rw[<- h1,hc], .inl (by simp[kl])⟩
  ·have zq:E.ρ q=some c:=by rw[<- hc];exact(ac8 (fun e=>hdb e.symm)).symm
   exact .inr ⟨q,_,hsb,rfl,zq, .inr (by rw[zK (by omega)];simp only[dx];split<;>simp)⟩
  ·have zq:E.ρ (nn b j)=some c:=by rw[<- hc];exact(ac8 (UQ j)).symm
   exact .inr ⟨nn b j,_,Au j hj,rfl,zq, .inr (by unfold hit;rw[nd_nn OB];simp only[dx];split<;>simp)⟩
 ·simp only[cG,if_true]
  exact⟨hv.1,hv.1 ▸ hv.2⟩
theorem Av{w':World}{E':Env}{w:World}{E:Env}{d g e sz n:Nat}{v':Value}{rows ys:List (List D)}{olds:List Value}{eC:List (List Value)}{stay:Bool}
 (hg:Ip w w' e sz g v' n (olds++eC.flatten) stay) (hpos:0<sz) (hn:n=rows.length+ys.length) (ho:olds.length=rows.length*sz) (hrows:∀r∈rows,r.length=sz)
 (hold:∀(i j:Nat) (r:List D) (x:D),rows[i]? =some r->r[j]? =some x->∃v,olds[i*sz+j]? =some v/\Rd w' E'.z v x) (hnew:eZ w' E' sz eC ys)
 (hb:E'.ρ d=some g) (hs:E'.σ d=v'):(E'.z g=0->bF w' E' d (.own e sz (rows++ys)))/\(E'.z g=n*sz->bF w' E' d (.tip e sz (rows++ys))):=by
 obtain⟨cur,cap,b1,b2,b3,b4,b5,b6⟩:=hg.blk
 have hR:eZ w' E' sz (cut sz rows.length olds++eC) (rows++ys):=by
  have h1:=sg ho hrows hold
  refine⟨by simp[h1.1,hnew.1],fun i vs r hi hr=> ?_⟩
  by_cases hil:i<rows.length
  ·rw[ady (by rw[h1.1];exact hil)]at hi
   rw[ady hil]at hr
   exact h1.2 i vs r hi hr
  ·rw[adx (by rw[h1.1];omega),h1.1]at hi
   rw[adx (by omega)]at hr
   exact hnew.2 _ vs r hi hr
 have Xl:(cut sz rows.length olds++eC).flatten=olds++eC.flatten:=by rw[af0,qC sz _ _ ho]
 have hnl:n=(rows++ys).length:=by simp[hn]
 have:=Oy (w:=w') (E:=E') (d:=d) hpos hb b1 (by rw[hs,b2,hnl]) (by omega) b4 b5 hR (fun k v hv=>by
  rw[Xl, <- b6,adE]at hv
  split at hv
  ·simpa using hv
  ·cases hv)
 exact⟨this.1,fun hz=>this.2 (by rw[hz,hnl])⟩
section
variable {X:Ctx} {o:Oper} {s:ASt} {K:LA->Prop}
theorem L4(hX:X.Ok){x y:Operand}{t t':Nat}{c:Call}(ho:o.op= .call c)(hc:c.callee= .builtin .append)(ha:c.args.toList= [x,y])(ht:c.argTypes.toList= [t,t'])
 (h:vcBuiltin X.C s o .append [x,y] [t,t'] K):∃la,aN X o la/\Sat la s/\K la:=by
 simp only[vcBuiltin]at h
 split at h
 ·rename_i d e R9 by0 zc OC bV hT
  split at h
  ·rename_i Od by1 zc1 e' n UD hx hy
   obtain⟨⟨hd,hsz,hby,hn,hle⟩,hK⟩:=h
   obtain⟨N,rfl⟩:∃N:Nat,n=N:=⟨n.toNat,by omega⟩
   have hu:=(hX.C.T _ _ hT).2
   simp only at hu
   have xN:=(hX.C.T _ _ UD).2
   simp only at xN
   obtain⟨te,hte,jB,fk⟩:=FI hX.C hsz
   refine⟨_,aN.mk bV.symm fun s' E a w hdn hs hE=> ?_,⟨aH s _,by simp⟩,hK⟩
   have ex:=hE.evs hs.1 X.C t (x:=x) (by simp)
   have ey:=hE.evs hs.1 X.C 3 (x:=y) (by simp)
   rw[hx]at ex;rw[hy]at ey
   have ex:a.eval x= .slice none 0 0:=ex
   obtain⟨i,z,e1,e2,e3,e4,e5⟩:=lQ jB w E
   have hib:i.size=X.C.sz e/\i.bytes=X.C.iu e:=by
    obtain⟨⟨i',z',f1,f2,f3,_⟩,_⟩:=jB
    rw[e1]at f1;cases f1
    exact⟨by rw[f2,fk],by rw[f3];simp[Cfg.iu,hte]⟩
   have ZX:∀a∈te.zc,a.cv.oneCell'=true:=by
    obtain⟨⟨i',z',f1,f2,f3,f4,f5,f6,_⟩,_⟩:=jB;exact f6
   have Xi:X.C.zrow e=zrowOf X.C te.zc:=by simp[Cfg.zrow,hte]
   obtain⟨zl,zr⟩:=D2 (C:=X.C) ZX e4
   have vr:z.cells.size=X.C.sz e:=by rw[e3,fk]
   have hrow:(X.C.zrow e).length=X.C.sz e:=by rw[Xi,zl, <- vr, <- e4.length];simp
   have hle':N*X.C.iu e<=140737488355328:=by have h:=hle;rw[<- Int.natCast_mul]at h;omega
   have vt:N<=N*X.C.iu e:=by
    have:=Nat.mul_le_mul_left N hby;omega
   have uv:N<=maxLen:=by simp only[maxLen];omega
   have FJ:=Go.Lib.run_append_nil_zeros (P:=X.P) w t t' o.type e i z .i64 .i64 hu xN e1 e2 N (by omega) (by rw[hib.1];exact hsz) (by omega) (by rw[hib.2];omega)
   have hrun:(execOp a.eval o).run X.P w= .ok (.value (.slice (some ⟨w.heap.size,0,none⟩) N (grownCap w N 0 e))) (w.drew.alloc (.cells (Builtin.zeroCells z.cells N++Builtin.zeroCells z.cells (grownCap w N 0 e - N)) e)):=by
    have hargs:c.args.map a.eval= #[a.eval x,a.eval y]:=by apply adX.1;simp[ha]
    have Oo:c.argTypes= #[t,t']:=by apply adX.1;simpa using ht
    rw[ex,bN ey]at hargs
    simp only[execOp,ho,resolve,hc,Sem.run_bind,Sem.run_pure,Result.andThen_ok,invoke,builtin,hargs,Oo,FJ]
   refine⟨_,_,cL E d w.heap.size (.slice (some ⟨w.heap.size,0,none⟩) N (grownCap w N 0 e)) 0,hrun, ?_⟩
   rw[bV]
   have hge:=grownCap_ge w N 0 e
   refine hE.create hX hd (kill:= [(d,none)]) (by simp[kl]) (fun l hl=>by have:=qB d l hl;unfold dlow at hd;omega) (by simp) (fun b hb=>heap_alloc_old w.drew _ hb) rfl rfl rfl
    (fun l x hl=>absurd hl (dX d l x)) ?_ ⟨by simp[cL],trivial⟩ (fun k hk=>hdn k (by rw[bV];exact hk)) rfl
   refine⟨fun r hr=>by rw[(agO.1 hr).2,hrow],hsz, .inr ⟨w.heap.size,_,grownCap w N 0 e,by simp[cL],heap_alloc_new w.drew _,by simp[cL],by simpa using hge, ?_,grownCap_le_maxLen w N 0 e uv,by simp[cL],fun q j r x hq hj=> ?_⟩⟩
   ·simp only[afi,size_zeroCells,vr, <- Nat.add_mul]
    congr 1;omega
   have Kj:q<N:=by have:=(adi.1 hq).1;simpa using this
   simp only[Int.toNat_natCast]at hq
   rw[afh,ada Kj]at hq
   cases hq
   have hjl:j<X.C.sz e:=by rw[<- hrow];exact(adi.1 hj).1
   have Xj:j<z.cells.size:=by rw[vr];exact hjl
   have hidx:q*X.C.sz e+j<N*z.cells.size:=by
    rw[vr]
    have:(q+1)*X.C.sz e<=N*X.C.sz e:=adG _ Kj
    rw[ad7]at this;omega
   refine⟨z.cells[j], ?_,zr _ _ j x _ (by rw[<- Xi];exact hj) (by simp[Xj])⟩
   have hmod:(q*X.C.sz e+j) % z.cells.size=j:=by rw[vr,Nat.mul_comm,Nat.mul_add_mod,aeC hjl]
   rw[aet (by rw[size_zeroCells];exact hidx)]
   unfold Builtin.zeroCells
   rw[agN,agG,ada hidx]
   simp[hmod,Xj]
  ·exact h.elim
 ·rename_i d e R9 by0 zc OC bV hT
  have OC:t=t':=by simpa using OC
  subst OC
  obtain⟨⟨hd,hsz,hby⟩,h⟩:=h
  have hu:=(hX.C.T _ _ hT).2
  simp only at hu
  obtain⟨te,hte,jB,fk⟩:=FI hX.C hsz
  have FK:te.iu=X.C.iu e:=by simp[Cfg.iu,hte]
  split at h
  ·exact h.elim
  ·rename_i ys hys
   have hrun:∀ {a:Act} {w:World} {v':Value} {w':World},(Builtin.append_ #[t,t] o.type #[a.eval x,a.eval y]).run X.P w= .ok v' w'->(execOp a.eval o).run X.P w= .ok (.value v') w':=by
    intro a w v' w' hr
    have hargs:c.args.map a.eval= #[a.eval x,a.eval y]:=by apply adX.1;simp[ha]
    have Oo:c.argTypes= #[t,t]:=by apply adX.1;simpa using ht
    simp only[execOp,ho,resolve,hc,Sem.run_bind,Sem.run_pure,Result.andThen_ok,invoke,builtin,hargs,Oo,hr]
   have uv:∀n:Nat,n*X.C.iu e<=140737488355328->n<=maxLen:=by
    intro n hn
    have:n*1<=n*X.C.iu e:=Nat.mul_le_mul_left _ hby
    simp only[maxLen];omega
   have hsrc:∀ {s':ASt} {E:Env} {a:Act} {w:World} {rs:List (Nat × AV)} {ms:List (Nat × AObj)} {k:List (Nat × Option D)} {u:List (Nat × AObj)} {dst:Option Nat} {v:AV},(∀p∈rsOf s [x,y],get s'.t p.1=p.2)->(∀p∈msOf s [aev X.C t s y],look s'.m p.1=some p.2)->bh X E s' a w->
    ∃eC,Src w E te.sz (a.eval y) eC ys:=by
    intro s' E a w rs ms k u dst v h1 h2 hE
    have ey:=hE.evs h1 X.C t (x:=y) (by simp)
    obtain⟨eC,hs⟩:=UN hys hsz (fun p hp=>hE.good.obj _ _ (h2 p hp)) ey
    rw[fk]
    exact⟨eC,hs⟩
   have Kn:∀ {pv:AV},aev X.C t s x=pv->(∀w E v,cG w E pv v->∃p,v= .slice p 0 0)->ys.length*X.C.iu e<=140737488355328->
    K ⟨rsOf s [x,y],msOf s [aev X.C t s y], [(d,none)], [(d,if d∈X.C.own then .own e (X.C.sz e) ys else .tip e (X.C.sz e) ys)],some d, .ref d⟩->∃la,aN X o la/\Sat la s/\K la:=by
    intro pv hx hpv hle hK
    refine⟨_,aN.mk bV.symm fun s' E a w hdn hs hE=> ?_,⟨aH s _,iO s _⟩,hK⟩
    have ex:=hE.evs hs.1 X.C t (x:=x) (by simp)
    rw[hx]at ex
    obtain⟨p,ex⟩:=hpv w E _ ex
    obtain⟨eC,hsrc⟩:=hsrc (rs:= []) (ms:= []) (k:= []) (u:= []) (dst:=none) (v:= .jA) hs.1 hs.2 hE
    obtain⟨v',w',hr,FL⟩:=iD (ty:=o.type) w hu jB hsrc (by rw[FK];exact hle) (uv _ hle) (by omega) p
    rw[<- ex]at hr
    rw[bV]
    have Xm:∀l,kl [(d,(none:Option D))] l≠none->l<20000:=fun l hl=>by have:=qB d l hl;unfold dlow at hd;omega
    have qp:∀k,some d=some k->k<X.n:=fun k hk=>hdn k (by rw[bV];exact hk)
    rcases FL with ⟨⟨q,rfl⟩,rfl,hy0⟩|gK
    ·refine⟨_,_,j8 E d q,hrun hr,hE.D4 hX (kill:= [(d,none)]) (by simp[kl]) hd Xm (fun l x hl=>absurd hl (dX d l x)) ?_ ⟨by simp[j8],trivial⟩ qp (by split<;>rfl)⟩
     subst hy0
     split
     ·exact⟨by simp,hsz, .inl ⟨by simp[j8],rfl,q,by simp[j8]⟩⟩
     ·exact⟨by simp,hsz, .inl ⟨by simp[j8],rfl,q,by simp[j8]⟩⟩
    ·refine⟨_,_,cL E d w.heap.size v' (if d∈X.C.own then 0 else ys.length*te.sz),hrun hr, ?_⟩
     have ZY:=gK
     obtain⟨cur,cap,b1,b2,_⟩:=ZY.blk
     refine hE.create hX hd (kill:= [(d,none)]) (by simp[kl]) Xm (by simpa using gK.size) (fun b hb=>gK.other b hb (by omega)) gK.os gK.tape gK.output
      (fun l x hl=>absurd hl (dX d l x)) ?_ ⟨by simp[cL],by rw[b2];trivial⟩ qp (by split<;>rfl)
     have hst:=fP (w':=w') (E:=E) (d:=d) (v:=v') (zb:=if d∈X.C.own then 0 else ys.length*te.sz) hE.good.fresh (fun b hb=>gK.other b hb (by omega))
     have:=Av (E':=cL E d w.heap.size v' (if d∈X.C.own then 0 else ys.length*te.sz)) (E:=E) (d:=d) (rows:= []) (olds:= []) (by simpa using gK) (by omega) (by simp) (by simp) (by simp) (fun i j r x h=>by simp at h) (hsrc.rr.mono hst) (by simp[cL]) (by simp[cL])
     simp only[List.nil_append,fk]at this
     by_cases hown:d∈X.C.own
     ·simp only[hown,if_true]at this ⊢
      exact this.1 (by simp[cL])
     ·simp only[hown,if_false]at this ⊢
      simp only[fk]
      exact this.2 (by simp[cL])
   split at h
   ·
    rename_i e' hx
    exact Kn hx (fun w E v hv=>⟨none,hv⟩) h.1 h.2
   ·rename_i e' hx
    exact Kn hx (fun w E v hv=>hv) h.1 h.2
   ·rename_i l hx
    have core:∀(old:AObj) (rows:List (List D)) (kill:List (Nat × Option D)) (mk:List (List D)->AObj) (zz:Nat->Nat),look s.m l=some old->old.ro=false->
     (old= .tip e (X.C.sz e) rows/\mk= .tip e (X.C.sz e)/\zz=(fun n=>n*X.C.sz e)/\kill= [(l,some (.sl (X.C.sz e) rows)),(d,none)])\/(old= .own e (X.C.sz e) rows/\mk= .own e (X.C.sz e)/\zz=(fun _=>0)/\kill= [(l,none),(d,none)])->
     (rows.length+ys.length)*X.C.iu e<=140737488355328->
     K ⟨rsOf s [x,y],(l,old)::msOf s [aev X.C t s y],kill, [(d,mk (rows++ys))],some d, .ref d⟩->∃la,aN X o la/\Sat la s/\K la:=by
     intro old rows kill mk zz hl hro tO hle hK
     refine⟨_,aN.mk bV.symm fun s' E a w hdn hs hE=> ?_,⟨aH s _,fun p hp=>by
      rcases adw.1 hp with rfl|hp
      ·exact hl
      ·exact iO s _ p hp⟩,hK⟩
     have hl':=hs.2 (l,old) (by simp)
     have ex:=hE.evs hs.1 X.C t (x:=x) (by simp)
     rw[hx]at ex
     simp only[cG]at ex
     obtain⟨eC,hsrc⟩:=hsrc (rs:= []) (ms:= []) (k:= []) (u:= []) (dst:=none) (v:= .jA) hs.1 (fun p hp=>hs.2 p (by simp[hp])) hE
     have oV:=hE.good.obj l old hl'
     have Aw:(∀r∈rows,r.length=X.C.sz e)/\((E.ρ l=none/\rows= []/\∃p,E.σ l= .slice p 0 0)\/
      ∃b cur cap,E.ρ l=some b/\w.heap[b]? =some (.cells cur e (0,0))/\E.σ l= .slice (some ⟨b,0,none⟩) rows.length cap/\rows.length<=cap/\cap*X.C.sz e=cur.size/\cap<=maxLen/\
       E.z b=zz rows.length/\∀(i j:Nat) (r:List D) (x:D),rows[i]? =some r->r[j]? =some x->∃v,cur[i*X.C.sz e+j]? =some v/\Rd w E.z v x):=by
      rcases tO with ⟨rfl,rfl,rfl,rfl⟩|⟨rfl,rfl,rfl,rfl⟩<;>exact⟨oV.1,oV.2.2⟩
     have H8:kl kill d≠none:=by
      rcases tO with ⟨_,_,_,rfl⟩|⟨_,_,_,rfl⟩<;>simp only[kl]<;>(split<;>simp)
     have cM:kl kill l≠none:=by
      rcases tO with ⟨_,_,_,rfl⟩|⟨_,_,_,rfl⟩<;>simp[kl]
     have o6:l<20000:=hE.good.low l (by simp[hl'])
     have kJ:∀q,kl kill q≠none->q<20000:=by
      intro q hq
      unfold dlow at hd
      rcases tO with ⟨_,_,_,rfl⟩|⟨_,_,_,rfl⟩<;>simp only[kl]at hq<;>(split at hq;omega;split at hq;omega;exact absurd rfl hq)
     have hkx:∀(w':World) (z':Nat->Nat),aK w E.z w' z'->∀q x,kl kill q=some (some x)->kN (E.σ q)->Rd w' z' (E.σ q) x:=by
      intro w' z' hst q x hq _
      rcases tO with ⟨rfl,_,_,rfl⟩|⟨rfl,_,_,rfl⟩
      ·simp only[kl]at hq
       split at hq
       ·rename_i L3;subst L3
        cases hq
        exact(qA oV).mono hst
       ·split at hq<;>cases hq
      ·simp only[kl]at hq
       split at hq
       ·cases hq
       ·split at hq<;>cases hq
     have qp:∀k,some d=some k->k<X.n:=fun k hk=>hdn k (by rw[bV];exact hk)
     rw[bV]
     obtain⟨hrl,Aw⟩:=Aw
     have hmk:∀(w':World) (E':Env) (R:List (List D)) (g n:Nat),((E'.z g=0->bF w' E' d (.own e (X.C.sz e) R))/\(E'.z g=n*X.C.sz e->bF w' E' d (.tip e (X.C.sz e) R)))->E'.z g=zz n->bF w' E' d (mk R):=by
      intro w' E' R g n h hz
      rcases tO with ⟨_,rfl,rfl,_⟩|⟨_,rfl,rfl,_⟩
      ·exact h.2 hz
      ·exact h.1 hz
     have Cs:(mk (rows++ys)).isNest=false:=by rcases tO with ⟨_,rfl,_,_⟩|⟨_,rfl,_,_⟩<;>rfl
     rcases Aw with ⟨g1,g2,p,g3⟩|⟨b,cur,cap,g1,g2,g3,g4,g5,g6,g7,g8⟩
     ·
      subst g2
      simp only[List.length_nil,adU]at hle
      obtain⟨v',w',hr,FL⟩:=iD (ty:=o.type) w hu jB hsrc (by rw[FK];exact hle) (uv _ hle) (by omega) p
      rw[<- g3, <- ex.1]at hr
      rcases FL with ⟨⟨q,rfl⟩,rfl,hy0⟩|gK
      ·refine⟨_,_,j8 E d q,hrun hr,hE.D4 hX H8 hd kJ (hkx _ _ (aK.refl _ _)) ?_ ⟨by simp[j8],trivial⟩ qp Cs⟩
       subst hy0
       rcases tO with ⟨_,rfl,_,_⟩|⟨_,rfl,_,_⟩
       ·exact⟨by simp,hsz, .inl ⟨by simp[j8],rfl,q,by simp[j8]⟩⟩
       ·exact⟨by simp,hsz, .inl ⟨by simp[j8],rfl,q,by simp[j8]⟩⟩
      ·refine⟨_,_,cL E d w.heap.size v' (zz ys.length),hrun hr, ?_⟩
       have hst:=fP (w':=w') (E:=E) (d:=d) (v:=v') (zb:=zz ys.length) hE.good.fresh (fun b hb=>gK.other b hb (by omega))
       obtain⟨cur,cap,b1,b2,_⟩:=gK.blk
       refine hE.create hX hd H8 kJ (by simpa using gK.size) (fun b hb=>gK.other b hb (by omega)) gK.os gK.tape gK.output (hkx _ _ hst) ?_ ⟨by simp[cL],by rw[b2];trivial⟩ qp Cs
       have:=Av (E':=cL E d w.heap.size v' (zz ys.length)) (E:=E) (d:=d) (rows:= []) (olds:= []) (by simpa using gK) (by omega) (by simp) (by simp) (by simp) (fun i j r x h=>by simp at h) (hsrc.rr.mono hst) (by simp[cL]) (by simp[cL])
       rw[fk]at this
       exact hmk _ _ _ _ _ this (by simp[cL])
     ·obtain⟨v',w',g',stay,hr,gK,yK⟩:=qD (ty:=o.type) w hu jB hsrc g2 g4 (by rw[fk];exact g5) g6 (by rw[FK];exact hle) (uv _ hle) (by omega)
      rw[<- g3, <- ex.1]at hr
      have ZZ:rows.length*X.C.sz e<=cap*X.C.sz e:=adG _ g4
      have Ax:(cur.toList.take (rows.length*te.sz)).length=rows.length*te.sz:=by rw[fk];simp;omega
      have Ct:b<w.heap.size:=(adr.1 g2).1
      obtain⟨cur',cap',c1,c2,c3,c4,c5,c6⟩:=gK.blk
      have zu:∀(E':Env),aK w E.z w' E'.z->E'.ρ d=some g'->E'.σ d=v'->E'.z g'=zz (rows.length+ys.length)->bF w' E' d (mk (rows++ys)):=by
       intro E' hst h1 h2 h3
       have:=Av (E':=E') (E:=E) (d:=d) (rows:=rows) (ys:=ys) gK (by omega) rfl Ax (by rw[fk];exact hrl) (fun i j r x hi hj=>by
        obtain⟨v,hv,hx⟩:=g8 i j r x hi hj
        refine⟨v, ?_,hx.mono hst⟩
        have hil:i<rows.length:=(adi.1 hi).1
        have hjl:j<X.C.sz e:=by rw[<- hrl r (adN hi)];exact(adi.1 hj).1
        have hle:(i+1)*X.C.sz e<=rows.length*X.C.sz e:=adG _ hil
        rw[ad7]at hle
        rw[fk,adE,ada (by omega)];simpa using hv) (hsrc.rr.mono hst) h1 h2
       rw[fk]at this
       exact hmk _ _ _ _ _ this h3
      cases stay with
      |true=>
       have UR:=yK rfl
       subst UR
       refine⟨_,_,cL E d g' v' (zz (rows.length+ys.length)),hrun hr, ?_⟩
       have Se:E.z g'<=zz (rows.length+ys.length):=by
        rw[g7]
        rcases tO with ⟨_,_,rfl,_⟩|⟨_,_,rfl,_⟩
        ·exact adG _ (by omega)
        ·exact adh _
       have hcell:∀o,o<E.z g'->w'.cell? ⟨g',o,none⟩=w.cell? ⟨g',o,none⟩:=by
        intro o ho
        have ho':o<rows.length*te.sz:=by
         rw[g7]at ho
         rcases tO with ⟨_,_,rfl,_⟩|⟨_,_,rfl,_⟩
         ·rw[fk];exact ho
         ·simp at ho
        have h1:cur'.toList[o]? =cur.toList[o]? :=by
         have:=congrArg (·[o]?) c6
         simp only[adE]at this
         rw[ada (by rw[ad7];omega),ady (by rw[Ax];exact ho'),adE,ada ho']at this
         exact this
        simp only[World.cell?,c1,g2]
        simpa using h1
       have hst:aK w E.z w' (cL E d g' v' (zz (rows.length+ys.length))).z:=by
        intro q
        simp only[cL]
        by_cases hq:q=g'
        ·subst hq;simp only[if_true];exact⟨Se,hcell⟩
        ·simp only[hq,if_false]
         refine⟨adh _,fun o ho=> ?_⟩
         by_cases hlt:q<w.heap.size
         ·exact cell?_of_heap (gK.other q hlt hq) o
         ·rw[hE.good.fresh q (by omega)]at ho;omega
       exact hE.move hX hl' hro g1 H8 cM hd kJ (by simpa using gK.size) (fun q hq hne=>gK.other q hq hne) gK.os gK.tape gK.output Se hcell (hkx _ _ hst) (zu _ hst (by simp[cL]) (by simp[cL]) (by simp[cL])) ⟨by simp[cL],by rw[c2];trivial⟩ qp Cs
      |false=>
       have UR:=gK.at_ rfl
       subst UR
       refine⟨_,_,cL E d w.heap.size v' (zz (rows.length+ys.length)),hrun hr, ?_⟩
       have hst:=fP (w':=w') (E:=E) (d:=d) (v:=v') (zb:=zz (rows.length+ys.length)) hE.good.fresh (fun q hq=>gK.other q hq (by omega))
       exact hE.create hX hd H8 kJ (by simpa using gK.size) (fun q hq=>gK.other q hq (by omega)) gK.os gK.tape gK.output (hkx _ _ hst) (zu _ hst (by simp[cL]) (by simp[cL]) (by simp[cL])) ⟨by simp[cL],by rw[c2];trivial⟩ qp Cs
    split at h
    ·
     rename_i b i bR
     obtain⟨rfl,_⟩:=zJ bR
     split at h
     ·rename_i e0 e' sz rows hl
      split at h
      ·rename_i r Cr
       obtain⟨⟨rfl,rfl,hdb⟩,hle,hK⟩:=h
       refine⟨_,aN.mk bV.symm fun s' E a w hdn hs hE=> ?_,⟨aH s _,fun p hp=>by
        rcases adw.1 hp with rfl|hp
        ·exact hl
        ·exact iO s _ p hp⟩,hK⟩
       have hl':=hs.2 (b, .nest e0 e' (X.C.sz e') rows none) (by simp)
       have OB:=hE.good.low b (by simp[hl'])
       have hil:i<rows.length:=(adi.1 Cr).1
       have kF:bM s'.m (nn b i)=some (.tip e' (X.C.sz e') r):=by
        rw[uh OB,hl'];simp[inner,Cr]
       have oV:=hE.good.gw _ _ kF
       have ex:=hE.evs hs.1 X.C t (x:=x) (by simp)
       rw[hx]at ex
       simp only[cG]at ex
       obtain⟨eC,hsrc⟩:=hsrc (rs:= []) (ms:= []) (k:= []) (u:= []) (dst:=none) (v:= .jA) hs.1 (fun p hp=>hs.2 p (by simp[hp])) hE
       have qp:∀k,some d=some k->k<X.n:=fun k hk=>hdn k (by rw[bV];exact hk)
       rw[bV]
       obtain⟨hrl,_,Aw⟩:=oV
       rcases Aw with ⟨g1,g2,p,g3⟩|⟨bb,cur,cap,g1,g2,g3,g4,g5,g6,g7,g8⟩
       ·subst g2
        simp only[List.length_nil,adU]at hle
        obtain⟨v',w',hr,FL⟩:=iD (ty:=o.type) w hu jB hsrc (by rw[FK];exact hle) (uv _ hle) (by omega) p
        rw[<- g3, <- ex.1]at hr
        rcases FL with ⟨⟨q,rfl⟩,rfl,hy0⟩|gK
        ·subst hy0
         exact⟨_,_,_,hrun hr,hE.D5 hX hl' Cr hd hdb (.inl rfl) (aK.refl _ _) (fun _ _=>rfl) (fun _ _ _=>rfl) rfl rfl rfl (adh _) hE.good.fresh ⟨by simp,hsz, .inl ⟨by simp,by simp,q,by simp⟩⟩ ⟨rfl,trivial⟩ qp⟩
        ·obtain⟨cur,cap,b1,b2,_⟩:=gK.blk
         have hst:=fP (w':=w') (E:=E) (d:=d) (v:=v') (zb:=ys.length*X.C.sz e') hE.good.fresh (fun b hb=>gK.other b hb (by omega))
         have:=Av (E':=cL E d w.heap.size v' (ys.length*X.C.sz e')) (E:=E) (d:=d) (rows:= []) (olds:= []) (by simpa using gK) (by omega) (by simp) (by simp) (by simp) (fun i j r x h=>by simp at h) (hsrc.rr.mono hst) (by simp[cL]) (by simp[cL])
         rw[fk]at this
         refine⟨_,_,_,hrun hr,hE.D5 hX (z':=(cL E d w.heap.size v' (ys.length*X.C.sz e')).z) hl' Cr hd hdb (.inr (.inl rfl)) hst (fun x hx=> ?_) (fun k hk _=>gK.other k hk (by omega)) gK.os gK.tape gK.output (by rw[gK.size];simp) (fun x hx=> ?_) (this.2 (by simp[cL])) ⟨rfl,by rw[b2];trivial⟩ qp⟩
         ·have:x≠w.heap.size:=fun e=>hx (by rw[e])
          simp[cL,this]
         ·rw[gK.size]at hx
          simp only[aed,if_false]at hx
          have:x≠w.heap.size:=by omega
          simp only[cL,this,if_false]
          exact hE.good.fresh x (by omega)
       ·obtain⟨v',w',g',stay,hr,gK,yK⟩:=qD (ty:=o.type) w hu jB hsrc g2 g4 (by rw[fk];exact g5) g6 (by rw[FK];exact hle) (uv _ hle) (by omega)
        rw[<- g3, <- ex.1]at hr
        have ZZ:r.length*X.C.sz e'<=cap*X.C.sz e':=adG _ g4
        have Ax:(cur.toList.take (r.length*te.sz)).length=r.length*te.sz:=by rw[fk];simp;omega
        have Ct:bb<w.heap.size:=(adr.1 g2).1
        obtain⟨cur',cap',c1,c2,c3,c4,c5,c6⟩:=gK.blk
        have zu:∀(E':Env),aK w E.z w' E'.z->E'.ρ d=some g'->E'.σ d=v'->E'.z g'=(r.length+ys.length)*X.C.sz e'->bF w' E' d (.tip e' (X.C.sz e') (r++ys)):=by
         intro E' hst h1 h2 h3
         have:=Av (E':=E') (E:=E) (d:=d) (rows:=r) (ys:=ys) gK (by omega) rfl Ax (by rw[fk];exact hrl) (fun i j r' x hi hj=>by
          obtain⟨v,hv,hx⟩:=g8 i j r' x hi hj
          refine⟨v, ?_,hx.mono hst⟩
          have hil:i<r.length:=(adi.1 hi).1
          have hjl:j<X.C.sz e':=by rw[<- hrl r' (adN hi)];exact(adi.1 hj).1
          have hle:(i+1)*X.C.sz e'<=r.length*X.C.sz e':=adG _ hil
          rw[ad7]at hle
          rw[fk,adE,ada (by omega)];simpa using hv) (hsrc.rr.mono hst) h1 h2
         rw[fk]at this
         exact this.2 h3
        have Ko:∀x,some x≠some g'->(cL E d g' v' ((r.length+ys.length)*X.C.sz e')).z x=E.z x:=fun x hx=>by
         have:x≠g':=fun e=>hx (by rw[e])
         simp[cL,this]
        cases stay with
        |true=>
         have UR:=yK rfl
         subst UR
         have hst:aK w E.z w' (cL E d g' v' ((r.length+ys.length)*X.C.sz e')).z:=by
          intro q
          simp only[cL]
          by_cases hq:q=g'
          ·subst hq;simp only[if_true]
           refine⟨by rw[g7];exact adG _ (by omega),fun o ho=> ?_⟩
           have ho':o<r.length*te.sz:=by rw[g7]at ho;rw[fk];exact ho
           have h1:cur'.toList[o]? =cur.toList[o]? :=by
            have:=congrArg (·[o]?) c6
            simp only[adE]at this
            rw[ada (by rw[ad7];omega),ady (by rw[Ax];exact ho'),adE,ada ho']at this
            exact this
           simp only[World.cell?,c1,g2]
           simpa using h1
          ·simp only[hq,if_false]
           refine⟨adh _,fun o ho=> ?_⟩
           by_cases hlt:q<w.heap.size
           ·exact cell?_of_heap (gK.other q hlt hq) o
           ·rw[hE.good.fresh q (by omega)]at ho;omega
         refine⟨_,_,_,hrun hr,hE.D5 hX (ob:=some g') (z':=(cL E d g' v' ((r.length+ys.length)*X.C.sz e')).z) hl' Cr hd hdb (.inr (.inr g1.symm)) hst Ko (fun k hk hne=>gK.other k hk (fun e=>hne (by rw[e]))) gK.os gK.tape gK.output (by rw[gK.size];simp) (fun x hx=> ?_) (zu _ hst (by simp) (by simp) (by simp[cL])) ⟨rfl,by rw[c2];trivial⟩ qp⟩
         rw[gK.size]at hx
         simp only[if_true]at hx
         rw[Ko x (fun e=>by cases e;omega)]
         exact hE.good.fresh x hx
        |false=>
         have UR:=gK.at_ rfl
         subst UR
         have hst:=fP (w':=w') (E:=E) (d:=d) (v:=v') (zb:=(r.length+ys.length)*X.C.sz e') hE.good.fresh (fun q hq=>gK.other q hq (by omega))
         refine⟨_,_,_,hrun hr,hE.D5 hX (ob:=some w.heap.size) (z':=(cL E d w.heap.size v' ((r.length+ys.length)*X.C.sz e')).z) hl' Cr hd hdb (.inr (.inl rfl)) hst Ko (fun k hk _=>gK.other k hk (by omega)) gK.os gK.tape gK.output (by rw[gK.size];simp) (fun x hx=> ?_) (zu _ hst (by simp) (by simp) (by simp[cL])) ⟨rfl,by rw[c2];trivial⟩ qp⟩
         rw[gK.size]at hx
         simp only[aed,if_false]at hx
         rw[Ko x (fun e=>by cases e;omega)]
         exact hE.good.fresh x (by omega)
      ·exact h.elim
     ·exact h.elim
    split at h
    ·rename_i e' sz rows hl
     obtain⟨⟨rfl,rfl⟩,hle,hK⟩:=h
     exact core _ rows _ (.tip e' (X.C.sz e')) _ hl rfl (.inl ⟨rfl,rfl,rfl,rfl⟩) hle hK
    ·rename_i e' sz rows hl
     obtain⟨⟨rfl,rfl⟩,hle,hK⟩:=h
     exact core _ rows _ (.own e' (X.C.sz e')) _ hl rfl (.inr ⟨rfl,rfl,rfl,rfl⟩) hle hK
    ·exact h.elim
   ·exact h.elim
 ·exact h.elim
end
def BV(ov:Option Value)(d i:Int):Prop:=(ov=none/\i=d)\/∃k,ov=some (.int k i)
theorem eL{P:Program}(w:World)(len cap:Nat){lo hi mx:Option Value}{l h m:Int}(hl:BV lo 0 l)(hh:BV hi len h)(hm:BV mx cap m)(hno:hi=none->mx=none)
 (h0:0<=l) (h1:l<=h) (h2:h<=m) (h3:m<=cap):(Instr.sliceBounds true len cap lo hi mx).run P w= .ok (l.toNat,h.toNat,m.toNat) w:=by
 have hb:∀(k:IntKind) (i:Int) (y:Nat) (c:BoundsCode),0<=i->i<=y->(Instr.sliceBound (.int k i) y c).run P w= .ok i.toNat w:=fun k i y c a b=>run_sliceBound w k i y c a b
 have e1:((m.toNat:Nat):Int)=m:=afk (by omega)
 have e2:((h.toNat:Nat):Int)=h:=afk (by omega)
 rcases hm with ⟨rfl,rfl⟩|⟨km,rfl⟩
 ·rcases hh with ⟨rfl,rfl⟩|⟨kh,rfl⟩
  ·rcases hl with ⟨rfl,rfl⟩|⟨kl,rfl⟩
   ·simp[Instr.sliceBounds]
   ·simp[Instr.sliceBounds,hb kl l len _ h0 h1]
  ·rcases hl with ⟨rfl,rfl⟩|⟨kl,rfl⟩
   ·simp[Instr.sliceBounds,hb kh h cap _ (by omega) h2]
   ·simp[Instr.sliceBounds,hb kh h cap _ (by omega) h2,hb kl l h.toNat _ h0 (by omega)]
 ·rcases hh with ⟨rfl,rfl⟩|⟨kh,rfl⟩
  ·cases hno rfl
  ·rcases hl with ⟨rfl,rfl⟩|⟨kl,rfl⟩
   ·simp[Instr.sliceBounds,hb km m cap _ (by omega) h3,hb kh h m.toNat _ (by omega) (by omega)]
   ·simp[Instr.sliceBounds,hb km m cap _ (by omega) h3,hb kh h m.toNat _ (by omega) (by omega),hb kl l h.toNat _ h0 (by omega)]
theorem L5{w:World}{z:Nat->Nat}{a:Option Addr}{n c sz:Nat}{rows:List (List D)}(h:Rd w z (.slice a n c) (.sl sz rows)){l k m:Nat}(h1:l<=k)(h2:k<=n)(h3:k<=m):
 Rd w z (sliced a l k m sz) (.sl sz ((rows.take k).drop l))\/(c=0/\rows= []):=by
 generalize hv:Value.slice a n c=v at h
 cases h with
 |nil p=>cases hv;exact .inr ⟨rfl,rfl⟩
 |sl b off n' cap _ _ vs hn hsz hz hcap hc hr=>
  cases hv
  left
  unfold sliced
  have hlen:((rows.take k).drop l).length=k - l:=by simp;omega
  by_cases hml:m=l
  ·have cM:k=l:=by omega
   subst hml;subst cM
   simp only[if_true,agt]
   have:(rows.take k).drop k= []:=by simp
   rw[this]
   exact .sl b off 0 0 sz [] vs rfl (by simp) (by omega) (adh _) (fun j hj=>by omega) (fun i j r x hi=>by simp at hi)
  ·simp only[hml,if_false,Option.map_some,Addr.add_mid]
   have hle:k*sz<=n*sz:=adG _ h2
   have cM:(k - l)*sz+l*sz=k*sz:=by rw[<- Nat.add_mul];congr 1;omega
   refine .sl b (off+l*sz) (k - l) (m - l) sz _ (fun j=>vs (l*sz+j)) hlen (fun r hr=>hsz r (afv (afw hr))) (by omega) (by omega) (fun j hj=> ?_) (fun i j r x hi hj=> ?_)
   ·rw[af4];exact hc _ (by omega)
   ·rw[ad4,adE]at hi
    split at hi
    ·have:=hr (l+i) j r x hi hj
     rw[show l*sz+(i*sz+j)=(l+i)*sz+j from by rw[ad7];omega]
     exact this
    ·cases hi
theorem FM{w:World}{E:Env}{d e sz b off cap:Nat}{cur:Array Value}{rows:List (List D)}{p k:Nat}(g1:∀r∈rows,r.length=sz)(g2:0<sz)(h2:w.heap[b]? =some (.cells cur e (0,0)))
 (h4:rows.length<=cap) (h5:off+cap*sz<=cur.size) (h6:cap<=maxLen) (h7:E.z b=0)
 (h8:∀(i j:Nat) (r:List D) (x:D),rows[i]? =some r->r[j]? =some x->∃v,cur[off+(i*sz+j)]? =some v/\Rd w E.z v x) (hpk:p<=k) (hk:k<=rows.length):
 bF w (cL E d b (sliced (some ⟨b,off,none⟩) p k cap sz) 0) d (.part e sz ((rows.take k).drop p)):=by
 have hz:∀x,(cL E d b (sliced (some ⟨b,off,none⟩) p k cap sz) 0).z x=E.z x:=fun x=>by
  simp only[cL];split
  ·rename_i h;subst h;exact h7.symm
  ·rfl
 have hst:aK w E.z w (cL E d b (sliced (some ⟨b,off,none⟩) p k cap sz) 0).z:=fun x=>⟨by rw[hz];exact adh _,fun _ _=>rfl⟩
 have hlen:((rows.take k).drop p).length=k - p:=by simp;omega
 refine⟨fun r hr=>g1 r (afv (afw hr)),g2, .inr ⟨b,if cap=p then off else off+p*sz,cur,cap - p,by simp[cL],h2, ?_,by omega, ?_,by omega,by rw[hz];exact h7,fun i j r x hi hj=> ?_⟩⟩
 ·simp only[cL,if_true,sliced,hlen]
  split<;>simp[Addr.add_mid]
 ·split
  ·rename_i Y2;rw[Y2,agt,ahe];have:=adG sz (show p<=cap by omega);omega
  ·have:p*sz+(cap - p)*sz=cap*sz:=by rw[<- Nat.add_mul];congr 1;omega
   omega
 ·rw[ad4,adE]at hi
  split at hi
  ·rename_i hlt
   obtain⟨v,hv,hx⟩:=h8 (p+i) j r x hi hj
   refine⟨v, ?_,hx.mono hst⟩
   rw[ac8 (by omega), <- hv]
   congr 1
   rw[ad7];omega
  ·cases hi
section
variable {X:Ctx} {o:Oper} {s:ASt} {K:LA->Prop}
theorem OD(hX:X.Ok){t:Nat}{x:Operand}{lo hi mx:Option Operand}(ho:o.op= .slice t x lo hi mx)(h:vcOp X X.C o s K):∃la,aN X o la/\Sat la s/\K la:=by
 simp only[vcOp,ho]at h
 split at h
 ·rename_i e R9 iu zc hT
  have hu:=(hX.C.T _ _ hT).2
  simp only at hu
  have hte:∀sz,sz=X.C.sz e->0<sz->∃te,bG X.P e te/\te.sz=sz:=by
   intro sz h1 h2
   unfold Cfg.sz at h1
   split at h1
   ·rename_i te hte;exact⟨te,hX.C.T _ _ hte,h1.symm⟩
   ·omega
  have core:∀(ms:List (Nat × AObj)) (sz:Nat) (rows:List (List D)),(∀p∈ms,look s.m p.1=some p.2)->sz=X.C.sz e->0<sz->mxOk hi mx->
   (∀(s':ASt) (E:Env) (a:Act) (w:World) (av:AV),Sat ⟨rsOf s (x::(lo.toList++hi.toList++mx.toList)),ms, [], [],o.dst,av⟩ s'->bh X E s' a w->Rd w E.z (a.eval x) (.sl sz rows))->
   (vcSlice (optLo (lo.map (aev X.C 3 s))) (optHi rows.length (hi.map (aev X.C 3 s))) (mx.map fun m=>optHi rows.length (some (aev X.C 3 s m))) rows.length fun a b=>
     K ⟨rsOf s (x::(lo.toList++hi.toList++mx.toList)),ms, [], [],o.dst,if mxLo (optLo (lo.map (aev X.C 3 s))) (mx.map fun m=>optHi rows.length (some (aev X.C 3 s m)))=true then .emp e else .d (.sl sz ((rows.take b).drop a))⟩)->∃la,aN X o la/\Sat la s/\K la:=by
   intro ms sz rows CP hsz hpos Ia hrd qw
   obtain⟨te,nw,j7⟩:=hte sz hsz hpos
   have fin:∀(z0:Bool) (l k m:Int),(z0=true->mx≠none/\l=m)->(∀(s':ASt) (E:Env) (a:Act) (w:World) (av:AV),Sat ⟨rsOf s (x::(lo.toList++hi.toList++mx.toList)),ms, [], [],o.dst,av⟩ s'->bh X E s' a w->
         BV (lo.map a.eval) 0 l/\BV (hi.map a.eval) rows.length k/\∀c:Nat,rows.length<=c->BV (mx.map a.eval) c (if mx=none then c else m))->
    (0<=l/\l<=k/\k<=rows.length/\(mx≠none->k<=m/\m<=rows.length))->K ⟨rsOf s (x::(lo.toList++hi.toList++mx.toList)),ms, [], [],o.dst,if z0=true then .emp e else .d (.sl sz ((rows.take k.toNat).drop l.toNat))⟩->∃la,aN X o la/\Sat la s/\K la:=by
    intro z0 l k m Sf Z0 ⟨b1,b2,b3,b4⟩ hK
    refine⟨_,aN.val fun s' E a w hs hE=> ?_,⟨aH s _,CP⟩,hK⟩
    have hr:=hrd s' E a w _ hs hE
    obtain⟨g1,g2,g3⟩:=Z0 s' E a w _ hs hE
    obtain⟨ao,c,hv,hc⟩:=On hr
    rw[hv]at hr
    have hbd:∃m':Nat,k.toNat<=m'/\(z0=true->m'=l.toNat)/\(Instr.sliceBounds true rows.length c (lo.map a.eval) (hi.map a.eval) (mx.map a.eval)).run X.P w= .ok (l.toNat,k.toNat,m') w:=by
     by_cases hmn:mx=none
     ·subst hmn
      have:=eL (P:=X.P) w rows.length c g1 g2 (g3 c hc) (by simp) b1 b2 (by simp;omega) (by simp)
      exact⟨c,by omega,fun hz=>absurd rfl (Sf hz).1,by simpa using this⟩
     ·have TX:=g3 c hc
      simp only[hmn,if_false]at TX
      obtain⟨b5,b6⟩:=b4 hmn
      refine⟨m.toNat,by omega,fun hz=>by rw[(Sf hz).2],eL (P:=X.P) w rows.length c g1 g2 TX (fun hh=> ?_) b1 b2 b5 (by omega)⟩
      exfalso
      unfold mxOk at Ia
      cases hi<;>cases mx<;>simp_all
    obtain⟨m',hm',hmz,hbd⟩:=hbd
    obtain⟨⟨ie,z,e1,e2,_⟩,_⟩:=nw
    have CR:(Instr.sliceAt t (a.eval x) (lo.map a.eval) (hi.map a.eval) (mx.map a.eval)).run X.P w= .ok (sliced ao l.toNat k.toNat m' sz) w:=by
     rw[hv]
     simp[Instr.sliceAt,Instr.slice,run_underlying hu,hbd,sizeOf,typeInfo,e1,e2,j7,sliced]
    refine⟨sliced ao l.toNat k.toNat m' sz,by simp only[execOp,ho,Sem.run_bind,CR,Result.andThen_ok,Sem.run_pure], ?_⟩
    by_cases hz:z0=true
    ·simp only[hz,if_true]
     have:=hmz hz
     unfold sliced
     exact⟨_,by rw[this,show k.toNat - l.toNat=0 by omega,agt]⟩
    simp only[hz]
    rcases L5 hr (l:=l.toNat) (k:=k.toNat) (m:=m') (by omega) (by omega) hm' with h|h
    ·exact h
    ·obtain⟨rfl,rfl⟩:=h
     simp only[List.length_nil]at b3
     have hl0:l.toNat=0:=by omega
     have Ay:k.toNat=0:=by omega
     have hm0:m'=0:=by
      by_cases hmn:mx=none
      ·subst hmn
       have:=eL (P:=X.P) w 0 0 g1 g2 (g3 0 (by simp)) (by simp) b1 b2 (by simp;omega) (by simp)
       rw[List.length_nil]at hbd
       rw[hbd]at this
       simp only[Result.ok.injEq,aff]at this
       simpa using this.1.2.2
      ·obtain⟨b5,b6⟩:=b4 hmn
       have TX:=g3 0 (by simp)
       simp only[hmn,if_false]at TX
       have:=eL (P:=X.P) w 0 0 g1 g2 TX (fun hh=>by
        exfalso
        unfold mxOk at Ia
        cases hi<;>cases mx<;>simp_all) b1 b2 b5 (by simpa using b6)
       rw[List.length_nil]at hbd
       rw[hbd]at this
       simp only[Result.ok.injEq,aff]at this
       have h3:=this.1.2.2
       simp only[List.length_nil]at b6
       omega
     simp only[hl0,Ay,hm0,sliced,cG]
     exact .nil _ sz
   have hlo:∀l,optLo (lo.map (aev X.C 3 s))=some l->∀(s':ASt) (E:Env) (a:Act) (w:World) (av:AV),Sat ⟨rsOf s (x::(lo.toList++hi.toList++mx.toList)),ms, [], [],o.dst,av⟩ s'->bh X E s' a w->BV (lo.map a.eval) 0 l:=by
    intro l hl s' E a w av hs hE
    cases lo with
    |none=>simp only[Option.map_none,optLo,adz]at hl;exact .inl ⟨rfl,hl.symm⟩
    |some q=>
     simp only[Option.map_some]at hl ⊢
     have eq:=hE.evs hs.1 X.C 3 (x:=q) (by simp)
     unfold optLo at hl
     split at hl
     ·rename_i hq;cases hq
     ·rename_i k i hq;cases hl;rw[aeV hq]at eq;exact .inr ⟨k,by rw[bN eq]⟩
     ·cases hl
   have hhi:∀(q0:Option Operand) (l:Int),optHi rows.length (q0.map (aev X.C 3 s))=some l->(∀q,q0=some q->q∈x::(lo.toList++hi.toList++mx.toList))->∀(s':ASt) (E:Env) (a:Act) (w:World) (av:AV),Sat ⟨rsOf s (x::(lo.toList++hi.toList++mx.toList)),ms, [], [],o.dst,av⟩ s'->bh X E s' a w->BV (q0.map a.eval) rows.length l:=by
    intro q0 l hl hmem s' E a w av hs hE
    cases q0 with
    |none=>simp only[Option.map_none,optHi,adz]at hl;exact .inl ⟨rfl,hl.symm⟩
    |some q=>
     simp only[Option.map_some]at hl ⊢
     have eq:=hE.evs hs.1 X.C 3 (x:=q) (hmem q rfl)
     unfold optHi at hl
     split at hl
     ·rename_i hq;cases hq
     ·rename_i k i hq;cases hl;rw[aeV hq]at eq;exact .inr ⟨k,by rw[bN eq]⟩
     ·cases hl
   unfold vcSlice at qw
   split at qw
   ·rename_i l k yL Cu yM
    obtain⟨⟨c1,c2,c3⟩,hK⟩:=qw
    have hmn:mx=none:=by cases mx<;>simp_all
    have Sf:mxLo (optLo (lo.map (aev X.C 3 s))) (mx.map fun m=>optHi rows.length (some (aev X.C 3 s m)))=false:=by rw[yM];unfold mxLo;split<;>simp_all
    rw[Sf]at hK
    refine fin false l k 0 (by simp) (fun s' E a w av hs hE=>⟨hlo l yL s' E a w av hs hE,hhi hi k Cu (fun q hq=>by simp[hq]) s' E a w av hs hE,fun c _=> ?_⟩) ⟨c1,c2,c3,fun h=>absurd hmn h⟩ hK
    subst hmn
    exact .inl ⟨rfl,by simp⟩
   ·rename_i l k m yL Cu yM
    obtain⟨⟨c1,c2,c3,c4⟩,hK⟩:=qw
    obtain⟨q,hq⟩:∃q,mx=some q:=by cases mx with|none=>simp at yM|some q=>exact⟨q,rfl⟩
    subst hq
    refine fin _ l k m (fun hz=>⟨by simp, ?_⟩) (fun s' E a w av hs hE=>⟨hlo l yL s' E a w av hs hE,hhi hi k Cu (fun q hq=>by simp[hq]) s' E a w av hs hE,fun c _=> ?_⟩) ⟨c1,c2,by omega,fun _=>⟨c3,c4⟩⟩ hK
    ·rw[yL,yM]at hz;simpa[mxLo]using hz
    ·simp only[Option.map_some,adz]at yM
     have eq:=hE.evs hs.1 X.C 3 (x:=q) (by simp)
     unfold optHi at yM
     split at yM
     ·rename_i hq;cases hq
     ·rename_i kk i hq;cases yM;rw[aeV hq]at eq;exact .inr ⟨kk,by simp[bN eq]⟩
     ·cases yM
   ·exact qw.elim
  have Y3:∀l,optLo (lo.map (aev X.C 3 s))=some l->∀(s':ASt) (E:Env) (a:Act) (w:World),(∀p∈rsOf s (x::(lo.toList++hi.toList++mx.toList)),get s'.t p.1=p.2)->bh X E s' a w->BV (lo.map a.eval) 0 l:=by
   intro l hl s' E a w hs hE
   cases lo with
   |none=>simp only[Option.map_none,optLo,adz]at hl;exact .inl ⟨rfl,hl.symm⟩
   |some q=>
    simp only[Option.map_some]at hl ⊢
    have eq:=hE.evs hs X.C 3 (x:=q) (by simp)
    unfold optLo at hl
    split at hl
    ·rename_i hq;cases hq
    ·rename_i k i hq;cases hl;rw[aeV hq]at eq;exact .inr ⟨k,by rw[bN eq]⟩
    ·cases hl
  have Y4:∀(n:Nat) (l:Int),optHi n (hi.map (aev X.C 3 s))=some l->∀(s':ASt) (E:Env) (a:Act) (w:World),(∀p∈rsOf s (x::(lo.toList++hi.toList++mx.toList)),get s'.t p.1=p.2)->bh X E s' a w->BV (hi.map a.eval) n l:=by
   intro n l hl s' E a w hs hE
   cases hi with
   |none=>simp only[Option.map_none,optHi,adz]at hl;exact .inl ⟨rfl,hl.symm⟩
   |some q=>
    simp only[Option.map_some]at hl ⊢
    have eq:=hE.evs hs X.C 3 (x:=q) (by simp)
    unfold optHi at hl
    split at hl
    ·rename_i hq;cases hq
    ·rename_i k i hq;cases hl;rw[aeV hq]at eq;exact .inr ⟨k,by rw[bN eq]⟩
    ·cases hl
  have Xn:∀(e' l sz:Nat) (rows:List (List D)),look s.m l=some (.own e' sz rows)->aev X.C t s x= .ref l->sz=X.C.sz e->0<sz->mx=none->
   (vcSlice (optLo (lo.map (aev X.C 3 s))) (optHi rows.length (hi.map (aev X.C 3 s))) none rows.length fun a b=>(a<rows.length/\b=rows.length)/\
     K ⟨rsOf s (x::(lo.toList++hi.toList++mx.toList)), [(l, .own e' sz rows)], [], [],o.dst, .vw l sz a⟩)->∃la,aN X o la/\Sat la s/\K la:=by
   intro e' l sz rows hl hx hsz hpos Ia qw
   obtain⟨te,nw,j7⟩:=hte sz hsz hpos
   unfold vcSlice at qw
   split at qw
   ·rename_i p k yL Cu yM
    obtain⟨⟨c1,c2,c3⟩,⟨c4,c5⟩,hK⟩:=qw
    refine⟨_,aN.val fun s' E a w hs hE=> ?_,⟨aH s _,by simp[hl]⟩,hK⟩
    have hl':=hs.2 (l, .own e' sz rows) (by simp)
    have ex:=hE.evs hs.1 X.C t (x:=x) (by simp)
    rw[hx]at ex
    simp only[cG]at ex
    have g1:=Y3 p yL s' E a w hs.1 hE
    have g2:=Y4 rows.length k Cu s' E a w hs.1 hE
    obtain⟨⟨ie,z,e1,e2,_⟩,_⟩:=nw
    obtain⟨k1,k2,⟨h1,h2,ad,h3⟩|⟨b,cur,cap,h1,h2,h3,h4,h5,h6,h7,h8⟩⟩:=hE.good.obj l _ hl'
    ·subst h2;simp at c4
    ·have hbd:=eL (P:=X.P) w rows.length cap g1 g2 (mx:=none) (m:=cap) (.inl ⟨rfl,rfl⟩) (by simp) c1 c2 (by omega) (by simp)
     have hrun:(Instr.sliceAt t (a.eval x) (lo.map a.eval) (hi.map a.eval) (mx.map a.eval)).run X.P w= .ok (sliced (some ⟨b,0,none⟩) p.toNat k.toNat cap sz) w:=by
      rw[ex.1,h3,Ia]
      simp only[Option.map_none]
      simp[Instr.sliceAt,Instr.slice,run_underlying hu,hbd,sizeOf,typeInfo,e1,e2,j7,sliced]
     refine⟨sliced (some ⟨b,0,none⟩) p.toNat k.toNat cap sz,by simp only[execOp,ho,Sem.run_bind,hrun,Result.andThen_ok,Sem.run_pure],b,0,rows.length,cap,h3,c4, ?_⟩
     unfold sliced
     rw[ac8 (by omega),c5]
     simp[Addr.add_mid]
   ·rename_i yM;simp at yM
   ·exact qw.elim
  have TY:∀(old:AObj) (l d sz:Nat) (rows:List (List D)),look s.m l=some old->old.ro=false->aev X.C t s x= .ref l->o.dst=some d->(∀w E,bF w E l old->bF w E l (.part e sz rows))->sz=X.C.sz e->0<sz->mx=none->dlow d->
   (vcSlice (optLo (lo.map (aev X.C 3 s))) (optHi rows.length (hi.map (aev X.C 3 s))) none rows.length fun a b=>
     K ⟨rsOf s (x::(lo.toList++hi.toList++mx.toList)), [(l,old)], [(l,none),(d,none)], [(d, .part e sz ((rows.take b).drop a))],some d, .ref d⟩)->∃la,aN X o la/\Sat la s/\K la:=by
   intro old l d sz rows hl hro hx bV oV hsz hpos Ia hd qw
   obtain⟨te,nw,j7⟩:=hte sz hsz hpos
   unfold vcSlice at qw
   split at qw
   ·rename_i p k yL Cu yM
    obtain⟨⟨c1,c2,c3⟩,hK⟩:=qw
    refine⟨_,aN.mk bV.symm fun s' E a w hdn hs hE=> ?_,⟨aH s _,by simp[hl]⟩,hK⟩
    have hl':=hs.2 (l,old) (by simp)
    have ex:=hE.evs hs.1 X.C t (x:=x) (by simp)
    rw[hx]at ex
    simp only[cG]at ex
    have g1:=Y3 p yL s' E a w hs.1 hE
    have g2:=Y4 rows.length k Cu s' E a w hs.1 hE
    have o6:l<20000:=hE.good.low l (by simp[hl'])
    have H8:kl [(l,(none:Option D)),(d,none)] d≠none:=by simp only[kl];split<;>simp
    have cM:kl [(l,(none:Option D)),(d,none)] l≠none:=by simp[kl]
    have kJ:∀q,kl [(l,(none:Option D)),(d,none)] q≠none->q<20000:=by
     intro q hq
     unfold dlow at hd
     simp only[kl]at hq;split at hq;omega;split at hq;omega;exact absurd rfl hq
    have hkx:∀q y,kl [(l,(none:Option D)),(d,none)] q≠some (some y):=by
     intro q y hq
     simp only[kl]at hq
     split at hq
     ·cases hq
     ·split at hq<;>cases hq
    have qp:∀k,some d=some k->k<X.n:=fun k hk=>hdn k (by rw[bV];exact hk)
    obtain⟨⟨ie,z,e1,e2,_⟩,_⟩:=nw
    obtain⟨k1,k2,⟨h1,h2,ad,h3⟩|⟨b,off,cur,cap,h1,h2,h3,h4,h5,h6,h7,h8⟩⟩:=oV w E (hE.good.obj l old hl')
    ·subst h2
     simp only[List.length_nil]at c3 g2
     have DZ:p=0:=by omega
     have Ay:k=0:=by omega
     subst DZ;subst Ay
     have hbd:=eL (P:=X.P) w 0 0 g1 g2 (mx:=none) (m:=0) (.inl ⟨rfl,rfl⟩) (by simp) c1 c2 (by simp) (by simp)
     have hrun:(execOp a.eval o).run X.P w= .ok (.value (.slice ad 0 0)) w:=by
      have:(Instr.sliceAt t (a.eval x) (lo.map a.eval) (hi.map a.eval) (mx.map a.eval)).run X.P w= .ok (.slice ad 0 0) w:=by
       rw[ex.1,h3,Ia]
       simp only[Option.map_none]
       simp[Instr.sliceAt,Instr.slice,run_underlying hu,hbd,sizeOf,typeInfo,e1,e2,j7]
      simp only[execOp,ho,Sem.run_bind,this,Result.andThen_ok,Sem.run_pure]
     rw[bV]
     refine⟨_,_,j8 E d ad,hrun,hE.D4 hX H8 hd kJ (fun q y hq=>absurd hq (hkx q y)) ?_ ⟨by simp[j8],trivial⟩ qp⟩
     exact⟨by simp,k2, .inl ⟨by simp[j8],by simp,ad,by simp[j8]⟩⟩
    ·have hbd:=eL (P:=X.P) w rows.length cap g1 g2 (mx:=none) (m:=cap) (.inl ⟨rfl,rfl⟩) (by simp) c1 c2 (by omega) (by simp)
     have hrun:(execOp a.eval o).run X.P w= .ok (.value (sliced (some ⟨b,off,none⟩) p.toNat k.toNat cap sz)) w:=by
      have:(Instr.sliceAt t (a.eval x) (lo.map a.eval) (hi.map a.eval) (mx.map a.eval)).run X.P w= .ok (sliced (some ⟨b,off,none⟩) p.toNat k.toNat cap sz) w:=by
       rw[ex.1,h3,Ia]
       simp only[Option.map_none]
       simp[Instr.sliceAt,Instr.slice,run_underlying hu,hbd,sizeOf,typeInfo,e1,e2,j7,sliced]
      simp only[execOp,ho,Sem.run_bind,this,Result.andThen_ok,Sem.run_pure]
     rw[bV]
     refine⟨_,_,cL E d b (sliced (some ⟨b,off,none⟩) p.toNat k.toNat cap sz) 0,hrun,hE.move hX hl' hro h1 H8 cM hd kJ rfl (fun _ _ _=>rfl) rfl rfl rfl (by omega) (fun _ _=>rfl) (fun q y hq=>absurd hq (hkx q y)) ?_ ⟨by simp[cL],by unfold sliced;trivial⟩ qp⟩
     exact FM k1 k2 h2 h4 h5 h6 h7 h8 (by omega) (by omega)
   ·rename_i yM;simp at yM
   ·exact qw.elim
  have Xo:lo=none->∀(old:AObj) (l d sz:Nat) (rows:List (List D)),look s.m l=some old->old.ro=false->aev X.C t s x= .ref l->o.dst=some d->(∀w E,bF w E l old->bF w E l (.own e sz rows))->sz=X.C.sz e->0<sz->mx=none->dlow d->
   (vcSlice (optLo (lo.map (aev X.C 3 s))) (optHi rows.length (hi.map (aev X.C 3 s))) none rows.length fun a b=>
     K ⟨rsOf s (x::(lo.toList++hi.toList++mx.toList)), [(l,old)], [(l,none),(d,none)], [(d, .own e sz (rows.take b))],some d, .ref d⟩)->∃la,aN X o la/\Sat la s/\K la:=by
   intro Sg old l d sz rows hl hro hx bV oV hsz hpos Ia hd qw
   obtain⟨te,nw,j7⟩:=hte sz hsz hpos
   unfold vcSlice at qw
   split at qw
   ·rename_i p k yL Cu yM
    obtain⟨⟨c1,c2,c3⟩,hK⟩:=qw
    refine⟨_,aN.mk bV.symm fun s' E a w hdn hs hE=> ?_,⟨aH s _,by simp[hl]⟩,hK⟩
    have hl':=hs.2 (l,old) (by simp)
    have ex:=hE.evs hs.1 X.C t (x:=x) (by simp)
    rw[hx]at ex
    simp only[cG]at ex
    have g1:=Y3 p yL s' E a w hs.1 hE
    have g2:=Y4 rows.length k Cu s' E a w hs.1 hE
    have o6:l<20000:=hE.good.low l (by simp[hl'])
    have H8:kl [(l,(none:Option D)),(d,none)] d≠none:=by simp only[kl];split<;>simp
    have cM:kl [(l,(none:Option D)),(d,none)] l≠none:=by simp[kl]
    have kJ:∀q,kl [(l,(none:Option D)),(d,none)] q≠none->q<20000:=by
     intro q hq
     unfold dlow at hd
     simp only[kl]at hq;split at hq;omega;split at hq;omega;exact absurd rfl hq
    have hkx:∀q y,kl [(l,(none:Option D)),(d,none)] q≠some (some y):=by
     intro q y hq
     simp only[kl]at hq
     split at hq
     ·cases hq
     ·split at hq<;>cases hq
    have qp:∀k,some d=some k->k<X.n:=fun k hk=>hdn k (by rw[bV];exact hk)
    obtain⟨⟨ie,z,e1,e2,_⟩,_⟩:=nw
    obtain⟨k1,k2,⟨h1,h2,ad,h3⟩|⟨b,cur,cap,h1,h2,h3,h4,h5,h6,h7,h8⟩⟩:=oV w E (hE.good.obj l old hl')
    ·subst h2
     simp only[List.length_nil]at c3 g2
     have DZ:p=0:=by omega
     have Ay:k=0:=by omega
     subst DZ;subst Ay
     have hbd:=eL (P:=X.P) w 0 0 g1 g2 (mx:=none) (m:=0) (.inl ⟨rfl,rfl⟩) (by simp) c1 c2 (by simp) (by simp)
     have hrun:(execOp a.eval o).run X.P w= .ok (.value (.slice ad 0 0)) w:=by
      have:(Instr.sliceAt t (a.eval x) (lo.map a.eval) (hi.map a.eval) (mx.map a.eval)).run X.P w= .ok (.slice ad 0 0) w:=by
       rw[ex.1,h3,Ia]
       simp only[Option.map_none]
       simp[Instr.sliceAt,Instr.slice,run_underlying hu,hbd,sizeOf,typeInfo,e1,e2,j7]
      simp only[execOp,ho,Sem.run_bind,this,Result.andThen_ok,Sem.run_pure]
     rw[bV]
     refine⟨_,_,j8 E d ad,hrun,hE.D4 hX H8 hd kJ (fun q y hq=>absurd hq (hkx q y)) ?_ ⟨by simp[j8],trivial⟩ qp⟩
     exact⟨by simp,k2, .inl ⟨by simp[j8],by simp,ad,by simp[j8]⟩⟩
    ·have hbd:=eL (P:=X.P) w rows.length cap g1 g2 (mx:=none) (m:=cap) (.inl ⟨rfl,rfl⟩) (by simp) c1 c2 (by omega) (by simp)
     have hrun:(execOp a.eval o).run X.P w= .ok (.value (sliced (some ⟨b,0,none⟩) p.toNat k.toNat cap sz)) w:=by
      have:(Instr.sliceAt t (a.eval x) (lo.map a.eval) (hi.map a.eval) (mx.map a.eval)).run X.P w= .ok (sliced (some ⟨b,0,none⟩) p.toNat k.toNat cap sz) w:=by
       rw[ex.1,h3,Ia]
       simp only[Option.map_none]
       simp[Instr.sliceAt,Instr.slice,run_underlying hu,hbd,sizeOf,typeInfo,e1,e2,j7,sliced]
      simp only[execOp,ho,Sem.run_bind,this,Result.andThen_ok,Sem.run_pure]
     rw[bV]
     refine⟨_,_,cL E d b (sliced (some ⟨b,0,none⟩) p.toNat k.toNat cap sz) 0,hrun,hE.move hX hl' hro h1 H8 cM hd kJ rfl (fun _ _ _=>rfl) rfl rfl rfl (by omega) (fun _ _=>rfl) (fun q y hq=>absurd hq (hkx q y)) ?_ ⟨by simp[cL],by unfold sliced;trivial⟩ qp⟩
     have DZ:p=0:=by subst Sg;simp only[Option.map_none,optLo,adz]at yL;exact yL.symm
     subst DZ
     have hzz:∀x,(cL E d b (sliced (some ⟨b,0,none⟩) (0:Int).toNat k.toNat cap sz) 0).z x=E.z x:=fun x=>by
      simp only[cL];split
      ·rename_i h;subst h;exact h7.symm
      ·rfl
     have hst:aK w E.z w (cL E d b (sliced (some ⟨b,0,none⟩) (0:Int).toNat k.toNat cap sz) 0).z:=fun x=>⟨by rw[hzz];exact adh _,fun _ _=>rfl⟩
     refine⟨fun r hr=>k1 r (afv hr),k2, .inr ⟨b,cur,cap,by simp[cL],h2,by simp[cL,sliced,adH,Addr.add_mid];omega,by rw[adH];omega,h5,h6,by simp[cL],fun i j r y hi hj=> ?_⟩⟩
     rw[adE]at hi
     split at hi
     ·obtain⟨v,hv,hr⟩:=h8 i j r y hi hj
      exact⟨v,hv,hr.mono hst⟩
     ·cases hi
   ·rename_i yM;simp at yM
   ·exact qw.elim
  split at h
  ·rename_i e0 hx
   obtain⟨⟨hpos,Ia⟩,qw⟩:=h
   obtain⟨te,nw,j7⟩:=hte _ rfl hpos
   unfold vcSlice at qw
   split at qw
   ·rename_i p k yL Cu yM
    obtain⟨⟨c1,c2,c3⟩,hK⟩:=qw
    refine⟨_,aN.val fun s' E a w hs hE=>⟨.slice none 0 0, ?_, ?_⟩,⟨aH s _,by simp⟩,hK⟩
    rotate_left
    ·simp[cG]
    have ex:=hE.evs hs.1 X.C t (x:=x) (by simp)
    rw[hx]at ex
    have ex:a.eval x= .slice none 0 0:=ex
    have g1:=Y3 p yL s' E a w hs.1 hE
    have g2:=Y4 0 k Cu s' E a w hs.1 hE
    have DZ:p=0:=by omega
    have Ay:k=0:=by omega
    subst DZ;subst Ay
    obtain⟨⟨ie,z,e1,e2,_⟩,_⟩:=nw
    have hbd:=eL (P:=X.P) w 0 0 g1 g2 (mx:=none) (m:=0) (.inl ⟨rfl,rfl⟩) (by simp) c1 c2 (by simp) (by simp)
    have:(Instr.sliceAt t (a.eval x) (lo.map a.eval) (hi.map a.eval) (mx.map a.eval)).run X.P w= .ok (.slice none 0 0) w:=by
     rw[ex,Ia]
     simp only[Option.map_none]
     simp[Instr.sliceAt,Instr.slice,run_underlying hu,hbd,sizeOf,typeInfo,e1,e2,j7]
    simp only[execOp,ho,Sem.run_bind,this,Result.andThen_ok,Sem.run_pure]
   ·rename_i yM;simp at yM
   ·exact qw.elim
  ·rename_i l hx
   split at h
   ·rename_i e' sz rows hl
    obtain⟨⟨c1,c2,hpos,c3⟩,h⟩:=h
    refine core [(l, .tip e' sz rows)] sz rows (by simp[hl]) c2 hpos c3 (fun s' E a w av hs hE=> ?_) h
    have ex:=hE.evs hs.1 X.C t (x:=x) (by simp)
    rw[hx]at ex
    have:=qA (hE.good.obj l _ (hs.2 (l, .tip e' sz rows) (by simp)))
    rw[ex.1];exact this
   ·rename_i e' sz rows hl
    split at h
    ·rename_i d bV
     split at h
     ·obtain⟨⟨c0,c2,hpos,c3⟩,h⟩:=h
      exact Xn e' l sz rows hl hx c2 hpos c3 h
     obtain⟨⟨rfl,c2,hpos,c3,c4⟩,h⟩:=h
     cases Sg:lo with
     |none=>
      subst Sg
      exact Xo rfl _ l d sz rows hl rfl hx bV (fun w E oV=>oV) c2 hpos c3 c4 h
     |some q0=>
     subst Sg
     refine TY _ l d sz rows hl rfl hx bV (fun w E oV=> ?_) c2 hpos c3 c4 h
     obtain⟨g1,g2,h|⟨b,cur,cap,h1,h2,h3,h4,h5,h6,h7,h8⟩⟩:=oV
     ·exact⟨g1,g2, .inl h⟩
     ·exact⟨g1,g2, .inr ⟨b,0,cur,cap,h1,h2,h3,h4,by omega,h6,h7,fun i j r x hi hj=>by rw[adU];exact h8 i j r x hi hj⟩⟩
    ·exact h.elim
   ·rename_i e' sz rows hl
    split at h
    ·rename_i d bV
     obtain⟨⟨rfl,c2,hpos,c3,c4⟩,h⟩:=h
     exact TY _ l d sz rows hl rfl hx bV (fun w E oV=>oV) c2 hpos c3 c4 h
    ·exact h.elim
   ·exact h.elim
  ·rename_i sz rows hx
   obtain⟨⟨c1,c2,c3⟩,h⟩:=h
   refine core [] sz rows (by simp) c1 c2 c3 (fun s' E a w av hs hE=> ?_) h
   have ex:=hE.evs hs.1 X.C t (x:=x) (by simp)
   rw[hx]at ex
   exact ex
  ·exact h.elim
 ·exact h.elim
end
end Go.Ab
end
