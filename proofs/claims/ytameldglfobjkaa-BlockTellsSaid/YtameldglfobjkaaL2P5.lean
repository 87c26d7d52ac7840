/- A part of the proof. -/
import Derived.Lib.AppendZeros
import Derived.Test.YtameldglfobjkaaL2P4
set_option linter.unusedSimpArgs false
set_option linter.unusedVariables false
section
namespace Go.Ab
structure Src (w:World) (E:Env) (sz:Nat) (v:Value) (bp:List (List Value)) (rows:List (List D)):Prop where
 rr:bA w E sz bp rows
 val:((∃p,v= .slice p 0 0)∧bp= [])∨∃b off c,v= .slice (some ⟨b,off,none⟩) rows.length c∧∀j u,bp.flatten[j]? =some u→w.cell? ⟨b,off+j,none⟩=some u
def cut (sz:Nat):Nat→List Value→List (List Value)
 |0,_=> []
 |n+1,l=>l.take sz::cut sz n (l.drop sz)
theorem mu (sz:Nat):∀(n:Nat) (l:List Value),(cut sz n l).length=n
 |0,_=>rfl
 |n+1,l=>by simp [cut,mu sz n]
theorem qD (sz:Nat):∀(n:Nat) (l:List Value) (i:Nat),i<n→(cut sz n l)[i]? =some ((l.drop (i*sz)).take sz)
 |0,_,i,h=>by omega
 |n+1,l,0,_=>by simp [cut]
 |n+1,l,i+1,h=>by
  simp only [cut,List.getElem?_cons_succ]
  rw [qD sz n _ i (by omega),List.drop_drop]
  congr 3
  rw [Nat.add_mul];omega
theorem fQ (sz:Nat):∀(n:Nat) (l:List Value),l.length=n*sz→(cut sz n l).flatten=l
 |0,l,h=>by simp at h;simp [cut,h]
 |n+1,l,h=>by
  simp only [cut,List.flatten_cons]
  rw [fQ sz n (l.drop sz) (by rw [List.length_drop,h,Nat.add_mul];omega),List.take_append_drop]
theorem gl {w:World} {E:Env} {sz:Nat} {l:List Value} {rows:List (List D)} (hl:l.length=rows.length*sz) (hsz:∀r∈rows,r.length=sz)
 (h:∀(i j:Nat) (r:List D) (x:D),rows[i]? =some r→r[j]? =some x→∃v,l[i*sz+j]? =some v∧Rd w E.z v x):bA w E sz (cut sz rows.length l) rows:=by
 refine ⟨mu _ _ _,fun i vs r hi hr=> ?_⟩
 have hil:i<rows.length:=(List.getElem?_eq_some_iff.1 hr).1
 rw [qD sz _ _ i hil] at hi
 cases hi
 have hle:(i+1)*sz≤rows.length*sz:=Nat.mul_le_mul_right _ hil
 rw [Nat.add_mul] at hle
 refine ⟨by simp;omega,hsz r (List.mem_of_getElem? hr),fun j x v hj hv=> ?_⟩
 obtain ⟨v',gL,hx⟩:=h i j r x hr hj
 rw [List.getElem?_take] at hv
 split at hv
 ·rw [List.getElem?_drop,gL] at hv;cases hv;exact hx
 ·cases hv
theorem tC {w:World} {E:Env} {sz:Nat} {rows:List (List D)} {v:Value} (h:Rd w E.z v (.sl sz rows)):∃bp,Src w E sz v bp rows:=by
 cases h with
 |nil p=>exact ⟨[],bA.nil w E sz, .inl ⟨⟨p,rfl⟩,rfl⟩⟩
 |sl b off n cap _ _ vs hn hsz hz hcap hc hr=>
  subst hn
  have hlen:((List.range (rows.length*sz)).map vs).length=rows.length*sz:=by simp
  refine ⟨cut sz rows.length ((List.range (rows.length*sz)).map vs),gl hlen hsz (fun i j r x hi hj=> ?_), .inr ⟨b,off,cap,rfl,fun j u hu=> ?_⟩⟩
  ·have hil:i<rows.length:=(List.getElem?_eq_some_iff.1 hi).1
   have hjl:j<sz:=by rw [← hsz r (List.mem_of_getElem? hi)];exact (List.getElem?_eq_some_iff.1 hj).1
   have hle:(i+1)*sz≤rows.length*sz:=Nat.mul_le_mul_right _ hil
   rw [Nat.add_mul] at hle
   exact ⟨vs (i*sz+j),by rw [List.getElem?_map,List.getElem?_range (by omega)];rfl,hr i j r x hi hj⟩
  ·rw [fQ sz _ _ hlen,List.getElem?_map] at hu
   obtain ⟨q,hq,rfl⟩:=Option.map_eq_some_iff.1 hu
   have hj:j<rows.length*sz:=by have:=(List.getElem?_eq_some_iff.1 hq).1;simpa using this
   rw [List.getElem?_range hj] at hq
   cases hq
   exact hc _ hj
theorem vY {w:World} {E:Env} {l e sz:Nat} {rows:List (List D)} (h:aA w E l (.own e sz rows)):∃bp,Src w E sz (E.σ l) bp rows:=by
 obtain ⟨g1,g2,⟨h1,h2,h3⟩|⟨b,cur,cap,h1,h2,h3,h4,h5,h6,h7,h8⟩⟩:=h
 ·subst h2;exact ⟨[],bA.nil w E sz, .inl ⟨h3,rfl⟩⟩
 ·have hle:rows.length*sz≤cap*sz:=Nat.mul_le_mul_right _ h4
  have hlen:(cur.toList.take (rows.length*sz)).length=rows.length*sz:=by simp;omega
  refine ⟨cut sz rows.length (cur.toList.take (rows.length*sz)),gl hlen g1 (fun i j r x hi hj=> ?_), .inr ⟨b,0,cap,h3,fun j u hu=> ?_⟩⟩
  ·obtain ⟨v,hv,hx⟩:=h8 i j r x hi hj
   have hil:i<rows.length:=(List.getElem?_eq_some_iff.1 hi).1
   have hjl:j<sz:=by rw [← g1 r (List.mem_of_getElem? hi)];exact (List.getElem?_eq_some_iff.1 hj).1
   have hle:(i+1)*sz≤rows.length*sz:=Nat.mul_le_mul_right _ hil
   rw [Nat.add_mul] at hle
   exact ⟨v,by rw [List.getElem?_take,if_pos (by omega)];simpa using hv,hx⟩
  ·rw [fQ sz _ _ hlen,List.getElem?_take] at hu
   split at hu
   ·simp only [Nat.zero_add]
    simp only [World.cell?,h2]
    simpa using hu
   ·cases hu
theorem tD {w:World} {E:Env} {l e sz:Nat} {rows:List (List D)} (h:aA w E l (.part e sz rows)):∃bp,Src w E sz (E.σ l) bp rows:=by
 obtain ⟨g1,g2,⟨h1,h2,h3⟩|⟨b,off,cur,cap,h1,h2,h3,h4,h5,h6,h7,h8⟩⟩:=h
 ·subst h2;exact ⟨[],bA.nil w E sz, .inl ⟨h3,rfl⟩⟩
 ·have hle:rows.length*sz≤cap*sz:=Nat.mul_le_mul_right _ h4
  have hlen:((cur.toList.drop off).take (rows.length*sz)).length=rows.length*sz:=by simp;omega
  refine ⟨cut sz rows.length ((cur.toList.drop off).take (rows.length*sz)),gl hlen g1 (fun i j r x hi hj=> ?_), .inr ⟨b,off,cap,h3,fun j u hu=> ?_⟩⟩
  ·obtain ⟨v,hv,hx⟩:=h8 i j r x hi hj
   have hil:i<rows.length:=(List.getElem?_eq_some_iff.1 hi).1
   have hjl:j<sz:=by rw [← g1 r (List.mem_of_getElem? hi)];exact (List.getElem?_eq_some_iff.1 hj).1
   have hle:(i+1)*sz≤rows.length*sz:=Nat.mul_le_mul_right _ hil
   rw [Nat.add_mul] at hle
   exact ⟨v,by rw [List.getElem?_take,if_pos (by omega),List.getElem?_drop];simpa using hv,hx⟩
  ·rw [fQ sz _ _ hlen,List.getElem?_take] at hu
   split at hu
   ·rw [List.getElem?_drop] at hu
    simp only [World.cell?,h2]
    simpa using hu
   ·cases hu
theorem yd {C:Cfg} {e:Nat} {s:ASt} {av:AV} {rows:List (List D)} (h:rowsOf C e s av=some rows) (hpos:0<C.sz e) {w:World} {E:Env} (lH:∀p∈msOf s [av],aA w E p.1 p.2)
 {v:Value} (hv:aO w E av v):∃bp,Src w E (C.sz e) v bp rows:=by
 unfold rowsOf at h
 split at h
 ·cases h;simp only [aO] at hv;exact ⟨[],bA.nil w E _, .inl ⟨⟨none,hv⟩,rfl⟩⟩
 ·cases h;simp only [aO] at hv;exact ⟨[],bA.nil w E _, .inl ⟨hv,rfl⟩⟩
 ·split at h
  ·rename_i hsz;cases h;subst hsz;exact tC hv
  ·cases h
 ·rename_i l
  split at h
  ·rename_i e' sz r hl
   split at h
   ·rename_i he
    cases h
    have h1:=lH (l, .tip e' sz rows) (by simp [msOf,hl])
    obtain ⟨-,rfl⟩:=he
    rw [hv.1];exact tC (fz h1)
   ·cases h
  ·rename_i e' sz r hl
   split at h
   ·rename_i he
    cases h
    have h1:=lH (l, .own e' sz rows) (by simp [msOf,hl])
    obtain ⟨-,rfl⟩:=he
    rw [hv.1];exact vY h1
   ·cases h
  ·rename_i e' sz r hl
   split at h
   ·rename_i he
    cases h
    have h1:=lH (l, .part e' sz rows) (by simp [msOf,hl])
    obtain ⟨-,rfl⟩:=he
    rw [hv.1];exact tD h1
   ·cases h
  ·cases h
 ·cases h
structure pQ (w w':World) (e sz:Nat) (g:Nat) (v':Value) (n:Nat) (cells:List Value) (stay:Bool):Prop where
 os:w'.os=w.os
 tape:w'.tape=w.tape
 output:w'.output=w.output
 size:w'.heap.size=if stay then w.heap.size else w.heap.size+1
 at_:stay=false→g=w.heap.size
 other:∀k,k<w.heap.size→k≠g→w'.heap[k]? =w.heap[k]?
 blk:∃cur cap,w'.heap[g]? =some (.cells cur e (0,0))∧v'= .slice (some ⟨g,0,none⟩) n cap∧n≤cap∧cap*sz=cur.size∧cap≤maxLen∧cur.toList.take (n*sz)=cells
section
variable {P:Program}
theorem cm (w:World) {t ty e:Nat} {te:TI} (hu:P.underlying t=some (.slice e)) (he:ak P e te) {E:Env} {y:Value} {bp:List (List Value)} {ys:List (List D)} (hs:Src w E te.sz y bp ys)
 (hb:ys.length*te.au≤140737488355328) (hm:ys.length≤maxLen) (hpos:0<te.sz) (p:Option Addr):
 ∃v' w',(Builtin.append_ #[t,t] ty #[.slice p 0 0,y]).run P w= .ok v' w'∧(((∃p,v'= .slice p 0 0)∧w'=w∧ys= [])∨pQ w w' e te.sz w.heap.size v' ys.length bp.flatten false):=by
 obtain ⟨⟨i,z,e1,e2,e3,e4,e5,e6,e7⟩,_⟩:=he
 have hl:bp.flatten.length=ys.length*te.sz:=by rw [dA hs.rr.lens.1,hs.rr.1]
 rcases hs.val with ⟨⟨q,rfl⟩,rfl⟩|⟨b,off,c,rfl,hc⟩
 ·have hy:ys= []:=List.eq_nil_of_length_eq_zero (by rw [← hs.rr.1];rfl)
  refine ⟨.slice p 0 0,w, ?_, .inl ⟨⟨p,rfl⟩,rfl,hy⟩⟩
  cases p<;>cases q<;>simp [Builtin.append_,run_underlying hu,sizeOf,typeInfo,e1,Builtin.lenOf,Builtin.firstCells,loadCells,loadCellsFrom,storeCells]
 ·by_cases hn:ys.length=0
  ·have hy:ys= []:=List.eq_nil_of_length_eq_zero hn
   subst hy
   refine ⟨.slice p 0 0,w, ?_, .inl ⟨⟨p,rfl⟩,rfl,rfl⟩⟩
   cases p<;>simp [Builtin.append_,run_underlying hu,sizeOf,typeInfo,e1,Builtin.lenOf,Builtin.firstCells,loadCells,loadCellsFrom,storeCells]
  ·have hm':ys.length≤9223372036854775807:=by simpa only [maxLen] using hm
   have hzs:z.cells.size=te.sz:=by rw [← Array.length_toList,e5];simpa using e7
   have hge:=grownCap_ge w ys.length 0 e
   cases p with
   |none=>
    have hr:=run_append_nil (P:=P) w t ty e i z hu e1 e4 ⟨b,off,none⟩ ys.length c bp.flatten (by rw [hl,e2]) (fun j v hj=>by rw [Addr.add_mid];exact hc j v hj) (by omega) (by omega) (by rw [e3];omega)
    refine ⟨_,_,hr, .inr ⟨rfl,rfl,rfl,by simp,fun _=>rfl,fun k hk _=>heap_alloc_old w.drew _ hk, ?_⟩⟩
    refine ⟨_,grownCap w ys.length 0 e,heap_alloc_new w.drew _,rfl,hge, ?_,grownCap_le_maxLen w ys.length 0 e hm, ?_⟩
    ·simp only [Array.size_append,List.size_toArray,size_zeroCells,hzs,hl, ← Nat.add_mul]
     congr 1;omega
    ·simp only [Array.toList_append]
     rw [← hl];exact List.take_left
   |some ad=>
    have hr:=run_append_grow (P:=P) w t ty e i z hu e1 e4 ad 0 0 [] (by simp) (fun j v hj=>by simp at hj) ⟨b,off,none⟩ ys.length c bp.flatten (by rw [hl,e2]) (fun j v hj=>by rw [Addr.add_mid];exact hc j v hj) (by omega) (by omega) (growslice_fits (by omega) (by rw [e3,Nat.zero_add];exact hb))
    simp only [Nat.zero_add,List.nil_append,List.length_nil] at hr
    refine ⟨_,_,hr, .inr ⟨rfl,rfl,rfl,by simp,fun _=>rfl,fun k hk _=>heap_alloc_old w.drew _ hk, ?_⟩⟩
    refine ⟨_,grownCap w ys.length 0 e,heap_alloc_new w.drew _,rfl,hge, ?_,grownCap_le_maxLen w ys.length 0 e hm, ?_⟩
    ·simp only [Array.size_append,List.size_toArray,size_zeroCells,hzs,hl, ← Nat.add_mul,List.length_append,List.length_nil,Nat.zero_add]
     congr 1;omega
    ·simp only [Array.toList_append,List.nil_append]
     rw [← hl];exact List.take_left
theorem fR (w:World) {t ty e:Nat} {te:TI} (hu:P.underlying t=some (.slice e)) (he:ak P e te) {E:Env} {y:Value} {bp:List (List Value)} {ys:List (List D)} (hs:Src w E te.sz y bp ys)
 {g n cap:Nat} {cur:Array Value} (hg:w.heap[g]? =some (.cells cur e (0,0))) (hnc:n≤cap) (hcs:cap*te.sz=cur.size) (zT:cap≤maxLen)
 (hb:(n+ys.length)*te.au≤140737488355328) (hm:n+ys.length≤maxLen) (hpos:0<te.sz):
 ∃v' w' g' stay,(Builtin.append_ #[t,t] ty #[.slice (some ⟨g,0,none⟩) n cap,y]).run P w= .ok v' w'∧pQ w w' e te.sz g' v' (n+ys.length) (cur.toList.take (n*te.sz)++bp.flatten) stay∧(stay=true→g'=g):=by
 obtain ⟨⟨i,z,e1,e2,e3,e4,e5,e6,e7⟩,_⟩:=he
 have vV:g<w.heap.size:=(Array.getElem?_eq_some_iff.1 hg).1
 have hl:bp.flatten.length=ys.length*te.sz:=by rw [dA hs.rr.lens.1,hs.rr.1]
 have mw:n*te.sz≤cap*te.sz:=Nat.mul_le_mul_right _ hnc
 have pg:(cur.toList.take (n*te.sz)).length=n*te.sz:=by simp;omega
 rcases hs.val with ⟨⟨q,rfl⟩,rfl⟩|⟨b,off,c,rfl,hc⟩
 ·have hy:ys.length=0:=by rw [← hs.rr.1];rfl
  refine ⟨.slice (some ⟨g,0,none⟩) n cap,w,g,true, ?_,⟨rfl,rfl,rfl,rfl,fun h=>by simp at h,fun k _ _=>rfl,cur,cap,hg,by rw [hy];rfl,by omega,hcs,zT,by simp [hy]⟩,fun _=>rfl⟩
  cases q<;>simp [Builtin.append_,run_underlying hu,sizeOf,typeInfo,e1,Builtin.lenOf,Builtin.firstCells,hnc,storeCells,loadCells,loadCellsFrom]
 ·have hcells:∀j v,bp.flatten[j]? =some v→w.cell? ((⟨b,off,none⟩:Addr).add j)=some v:=fun j v hj=>by rw [Addr.add_mid];exact hc j v hj
  have hm':n+ys.length≤9223372036854775807:=by simpa only [maxLen] using hm
  by_cases hroom:n+ys.length≤cap
  ·have hle:(n+ys.length)*te.sz≤cap*te.sz:=Nat.mul_le_mul_right _ hroom
   rw [Nat.add_mul] at hle
   have hr:=run_append_room (P:=P) w t ty e i hu e1 g n cap cur hg ⟨b,off,none⟩ ys.length c bp.flatten (by rw [hl,e2]) hcells hs.rr.one hroom (by rw [hl,e2];omega)
   refine ⟨_,_,g,true,hr,⟨rfl,rfl,rfl,by simp [size_setRow],fun h=>by simp at h,fun k _ hk=>setRow_other w g k _ hk,_,cap,cN hg,rfl,hroom, ?_,zT, ?_⟩,fun _=>rfl⟩
   ·simp only [List.size_toArray,List.length_append,List.length_take,List.length_drop,Array.length_toList,e2,hl]
    omega
   ·simp only [e2]
    rw [Nat.add_mul, ← hl]
    rw [List.take_append_of_le_length (by simp only [List.length_append,pg];omega),List.take_of_length_le (by simp only [List.length_append,pg];omega)]
  ·have hge:=grownCap_ge w (n+ys.length) cap e
   have hr:=run_append_grow (P:=P) w t ty e i z hu e1 e4 ⟨g,0,none⟩ n cap (cur.toList.take (n*te.sz)) (by rw [pg,e2]) (fun j v hj=>by
    rw [Addr.add_mid,Nat.zero_add]
    rw [List.getElem?_take] at hj
    split at hj
    ·simp only [World.cell?,hg];simpa using hj
    ·cases hj) ⟨b,off,none⟩ ys.length c bp.flatten (by rw [hl,e2]) hcells (by omega) (by omega) (growslice_fits (by omega) (by rw [e3];exact hb))
   have hzs:z.cells.size=te.sz:=by rw [← Array.length_toList,e5];simpa using e7
   refine ⟨_,_,w.heap.size,false,hr,⟨rfl,rfl,rfl,by simp,fun _=>rfl,fun k hk _=>heap_alloc_old w.drew _ hk,_,grownCap w (n+ys.length) cap e,heap_alloc_new w.drew _,rfl,hge, ?_,grownCap_le_maxLen w _ cap e hm, ?_⟩,fun h=>by simp at h⟩
   ·simp only [Array.size_append,List.size_toArray,size_zeroCells,hzs,pg,hl, ← Nat.add_mul]
    congr 1;omega
   ·simp only [Array.toList_append]
    rw [List.take_append_of_le_length (by simp only [List.length_append,pg,hl,Nat.add_mul];omega),List.take_of_length_le (by simp only [List.length_append,pg,hl,Nat.add_mul];omega)]
end
end Go.Ab
end
section
namespace Go.Ab
theorem aC.move {X:Ctx} (hX:X.Ok) {E:Env} {s:ASt} {a:Act} {w:World} (h:aC X E s a w) {d l g:Nat} {old:AObj} (hl:look s.m l=some old) (hro:old.ro=false) (hg:E.ρ l=some g)
 {kill:List (Nat × Option D)} (o9:kl kill d≠none) (bf:kl kill l≠none) (hd:d<10000) (di:∀l,kl kill l≠none→l<20000) {rs:List (Nat × AV)} {ms:List (Nat × AObj)} {ob:AObj} {v:Value} {zb:Nat}
 {w':World} {pO:AV} {dst:Option Nat} {v':Value}
 (hsize:w'.heap.size=w.heap.size) (hh:∀b,b<w.heap.size→b≠g→w'.heap[b]? =w.heap[b]?) (hos:w'.os=w.os) (ez:w'.tape=w.tape) (hout:w'.output=w.output)
 (FG:E.z g≤zb) (hcells:∀o,o<E.z g→w'.cell? ⟨g,o,none⟩=w.cell? ⟨g,o,none⟩)
 (hkx:∀l x,kl kill l=some (some x)→dh (E.σ l)→Rd w' (aN E d g v zb).z (E.σ l) x)
 (fA:aA w' (aN E d g v zb) d ob) (hv:aO w' (aN E d g v zb) pO v') (aJ:∀k,dst=some k→k<X.n) (nB:ob.isNest=false:=by rfl):
 aC X (aN E d g v zb) ((⟨rs,ms,kill, [(d,ob)],dst,pO⟩:LA).app s) (a.put dst v') w':=by
 have aU:∀l,look [(d,ob)] l=if d=l then some ob else none:=fun l=>by simp [look]
 have vV:g<w.heap.size:=(h.good.obj l old hl).lt hg
 refine h.app ⟨rs,ms,kill, [(d,ob)],dst,pO⟩ _ w' v' (fun b=> ?_) hos ez hout (by omega) (fun k hk=> ?_) hkx (fun k hk=> ?_) di (fun k o hk=> ?_) (fun b hb=> ?_) (fun k o hk=> ?_) (fun k k' hk hk'=> ?_) (fun k b hk hb=> ?_) (fun b hb=> ?_) hv aJ
 ·simp only [aN]
  by_cases ye:b=g
  ·subst ye;simp only [if_true];exact ⟨FG,hcells⟩
  ·simp only [ye,if_false]
   refine ⟨Nat.le_refl _,fun o ho=> ?_⟩
   by_cases hlt:b<w.heap.size
   ·exact cell?_of_heap (hh b hlt ye) o
   ·rw [h.good.fresh b (by omega)] at ho;omega
 ·have:k≠d:=fun e=>o9 (e ▸ hk)
  simp [aN,this]
 ·have h1:=hX.low k hk
  have:k≠d:=by omega
  simp [aN,this]
 ·simp only [aU] at hk
  split at hk
  ·rename_i hdl;subst hdl;cases hk;exact ⟨by omega,nB⟩
  ·cases hk
 ·by_cases ye:b=g
  ·subst ye;exact .inr ⟨l,old,h.good.aH hl,hro,hg, .inl bf⟩
  ·left;exact ⟨hh b hb ye,by simp [aN,ye]⟩
 ·simp only [aU] at hk
  split at hk
  ·rename_i hdl;subst hdl;cases hk;exact fA
  ·cases hk
 ·simp only [aU] at hk hk'
  split at hk
  ·split at hk'
   ·omega
   ·simp at hk'
  ·simp at hk
 ·simp only [aU] at hk
  split at hk
  ·rename_i hdl
   subst hdl
   simp only [aN,if_true,Option.some.injEq] at hb
   subst hb
   exact .inr ⟨l,old,h.good.aH hl,hro,hg, .inl bf⟩
  ·simp at hk
 ·have h1:b≠g:=by omega
  simp only [aN,h1,if_false]
  exact h.good.fresh b (by omega)
def cU (E:Env) (d:Nat) (p:Option Addr):Env:=⟨fun l=>if l=d then none else E.ρ l,fun l=>if l=d then .slice p 0 0 else E.σ l,E.z⟩
theorem aC.mz {X:Ctx} (hX:X.Ok) {E:Env} {s:ASt} {a:Act} {w:World} (h:aC X E s a w) {d:Nat} {kill:List (Nat × Option D)} (o9:kl kill d≠none) (hd:d<10000) (di:∀l,kl kill l≠none→l<20000)
 {rs:List (Nat × AV)} {ms:List (Nat × AObj)} {ob:AObj} {pO:AV} {dst:Option Nat} {v':Value}
 (hkx:∀l x,kl kill l=some (some x)→dh (E.σ l)→Rd w E.z (E.σ l) x)
 {p:Option Addr} (fA:aA w (cU E d p) d ob) (hv:aO w (cU E d p) pO v') (aJ:∀k,dst=some k→k<X.n) (nB:ob.isNest=false:=by rfl):
 aC X (cU E d p) ((⟨rs,ms,kill, [(d,ob)],dst,pO⟩:LA).app s) (a.put dst v') w:=by
 have aU:∀l,look [(d,ob)] l=if d=l then some ob else none:=fun l=>by simp [look]
 refine h.app ⟨rs,ms,kill, [(d,ob)],dst,pO⟩ _ w v' (aj.refl _ _) rfl rfl rfl (Nat.le_refl _) (fun k hk=> ?_) hkx (fun k hk=> ?_) di (fun k o hk=> ?_) (fun b hb=> .inl ⟨rfl,rfl⟩) (fun k o hk=> ?_) (fun k k' hk hk'=> ?_) (fun k b hk hb=> ?_) h.good.fresh hv aJ
 ·have:k≠d:=fun e=>o9 (e ▸ hk)
  simp [cU,this]
 ·have h1:=hX.low k hk
  have:k≠d:=by omega
  simp [cU,this]
 ·simp only [aU] at hk
  split at hk
  ·rename_i hdl;subst hdl;cases hk;exact ⟨by omega,nB⟩
  ·cases hk
 ·simp only [aU] at hk
  split at hk
  ·rename_i hdl;subst hdl;cases hk;exact fA
  ·cases hk
 ·simp only [aU] at hk hk'
  split at hk
  ·split at hk'
   ·omega
   ·simp at hk'
  ·simp at hk
 ·simp only [aU] at hk
  split at hk
  ·rename_i hdl
   subst hdl
   simp [cU] at hb
  ·simp at hk
theorem aC.mA {X:Ctx} (hX:X.Ok) {E:Env} {s:ASt} {a:Act} {w:World} (h:aC X E s a w) {b i d e' e sz:Nat} {rows:List (List (List D))} {r R:List (List D)} {rs:List (Nat × AV)} {ms:List (Nat × AObj)} {dst:Option Nat} {v v':Value} {ob:Option Nat} {z':Nat→Nat} {w':World}
 (hl:look s.m b=some (.nest e' e sz rows none)) (hi:rows[i]? =some r) (hd:d<10000) (hdb:d≠b) (vZ:ob=none∨ob=some w.heap.size∨ob=E.ρ (nn b i))
 (hst:aj w E.z w' z') (hz:∀x,some x≠ob→z' x=E.z x) (hh:∀k,k<w.heap.size→some k≠ob→w'.heap[k]? =w.heap[k]?) (hos:w'.os=w.os) (ez:w'.tape=w.tape) (hout:w'.output=w.output) (hsize:w.heap.size≤w'.heap.size)
 (gJ:∀x,w'.heap.size≤x→z' x=0)
 (fA:aA w' ⟨fun q=>if q=d then ob else E.ρ q,fun q=>if q=d then v else E.σ q,z'⟩ d (.tip e sz R)) (hv:v'=v∧dh v) (aJ:∀k,dst=some k→k<X.n):
 aC X ⟨fun q=>if q=d then ob else E.ρ q,fun q=>if q=d then v else E.σ q,z'⟩ ((⟨rs,ms, [(nn b i,some (.sl sz r)),(d,none)], [(d, .tip e sz R),(b, .nest e' e sz rows (some i))],dst, .ref d⟩:LA).app s) (a.put dst v') w':=by
 have tE:=h.good.low b (by simp [hl])
 have hil:i<rows.length:=(List.getElem?_eq_some_iff.1 hi).1
 have aU:∀k,look [(d,AObj.tip e sz R),(b, .nest e' e sz rows (some i))] k=if d=k then some (.tip e sz R) else if b=k then some (.nest e' e sz rows (some i)) else none:=fun k=>by simp [look]
 have zh:aH s.m b=some (.nest e' e sz rows none):=h.good.aH hl
 have tw:∀j (hj:j<rows.length),aH s.m (nn b j)=some (.tip e sz rows[j]):=by
  intro j hj
  rw [fL tE,hl]
  simp [inner,hj]
 have gK:∀ {j j'},nn b j=nn b j'→j=j':=fun {j j'} hjj=>by unfold nn at hjj;omega
 have yf:∀j,nn b j≠d:=fun j=>by unfold nn;omega
 have Ez:∀j,nn b j≠b:=fun j=>by unfold nn;omega
 have nj:∀q o,aH [(d,AObj.tip e sz R),(b, .nest e' e sz rows (some i))] q=some o→(q=d∧o= .tip e sz R)∨(q=b∧o= .nest e' e sz rows (some i))∨∃j,∃hj:j<rows.length,j≠i∧q=nn b j∧o= .tip e sz rows[j]:=by
  intro q o hq
  unfold aH at hq
  cases b9:nd q with
  |none=>
   rw [b9] at hq
   simp only [aU] at hq
   split at hq
   ·rename_i sR;cases hq;exact .inl ⟨sR.symm,rfl⟩
   ·split at hq
    ·rename_i sR;cases hq;exact .inr (.inl ⟨sR.symm,rfl⟩)
    ·cases hq
  |some p=>
   obtain ⟨b',j⟩:=p
   obtain ⟨rfl,hb'⟩:=jH b9
   rw [b9] at hq
   simp only [aU] at hq
   split at hq
   ·simp [inner] at hq
   ·split at hq
    ·rename_i hlb
     subst hlb
     simp only [inner] at hq
     split at hq
     ·cases hq
     ·rename_i hne
      cases hr:rows[j]? with
      |none=>simp [hr] at hq
      |some rr=>
       simp [hr] at hq
       obtain ⟨hj,BQ⟩:=List.getElem?_eq_some_iff.1 hr
       exact .inr (.inr ⟨j,hj,fun e=>hne (by rw [e]),rfl,by rw [BQ,hq]⟩)
    ·simp [inner] at hq
 have js:∀ {q c},aH s.m q≠none→q≠nn b i→E.ρ q=some c→some c≠ob:=by
  intro q c hq hne hc he
  obtain ⟨o,ho⟩:=Option.ne_none_iff_exists'.1 hq
  have hlt:=(h.good.dR q o ho).lt hc
  rcases vZ with h1|h1|h1
  ·rw [h1] at he;cases he
  ·rw [h1] at he;cases he;omega
  ·rw [h1] at he
   exact hne (h.good.inj _ _ c hq (by rw [tw i hil];simp) hc he.symm)
 refine h.s9 ⟨rs,ms, [(nn b i,some (.sl sz r)),(d,none)], [(d, .tip e sz R),(b, .nest e' e sz rows (some i))],dst, .ref d⟩ _ w' v' hst hos ez hout hsize (fun q hq=> ?_) (fun q x hq hs=> ?_) (fun q hq=> ?_) (fun q hq=> ?_) (fun q hq=> ?_) (fun c hc=> ?_) (fun q o hq=> ?_) (fun q q' c hq fH hc pP=> ?_) (fun q c hq hc=> ?_) gJ ?_ aJ
 ·have:q≠d:=fun e=>by
   subst e
   simp only [kl] at hq
   split at hq
   ·cases hq
   ·rename_i h1;simp at hq
  simp [this]
 ·simp only [kl] at hq
  split at hq
  ·rename_i BO;subst BO;cases hq
   have:=h.good.dR _ _ (tw i hil)
   rw [(List.getElem?_eq_some_iff.1 hi).2] at this
   exact (fz this).mono hst
  ·split at hq<;>cases hq
 ·have h1:=hX.low q hq
  have:q≠d:=by omega
  simp [this]
 ·simp only [kl] at hq
  split at hq
  ·rename_i BP;right;subst BP;unfold hit;rw [nd_nn tE];simp only [aU];split<;>simp
  ·split at hq
   ·rename_i BP;left;exact nd_low (by omega)
   ·exact absurd rfl hq
 ·simp only [aU] at hq
  split at hq
  ·omega
  ·split at hq
   ·omega
   ·exact absurd rfl hq
 ·by_cases hcb:some c=ob
  ·right
   rcases vZ with h1|h1|h1
   ·rw [h1] at hcb;cases hcb
   ·rw [h1] at hcb;cases hcb;omega
   ·exact ⟨nn b i,_,tw i hil,rfl,by rw [← h1,hcb], .inl (by simp [kl])⟩
  ·exact .inl ⟨hh c hc hcb,hz c hcb⟩
 ·
  rcases nj q o hq with ⟨rfl,rfl⟩|⟨rfl,rfl⟩|⟨j,hj,hji,rfl,rfl⟩
  ·exact fA
  ·obtain ⟨b1,cur,cap,g1,g2,g3,g4,g5,g6,g7,g8⟩:=h.good.dR _ _ zh
   have bT:b1<w.heap.size:=(Array.getElem?_eq_some_iff.1 g2).1
   have hne:=js (by rw [zh];simp) (fun e=>Ez i e.symm) g1
   refine ⟨b1,cur,cap,(if_neg (fun e=>hdb e.symm)).trans g1,by rw [hh b1 bT hne];exact g2,(if_neg (fun e=>hdb e.symm)).trans g3,g4,g5,g6,(hz b1 hne).trans g7,fun j hj hne=> ?_⟩
   show cur[j]? =some (if nn q j=d then v else E.σ (nn q j))∧dh (if nn q j=d then v else E.σ (nn q j))
   rw [if_neg (yf j)]
   exact g8 j hj (by simp)
  ·obtain ⟨k1,k2,k3⟩:=h.good.dR _ _ (tw j hj)
   refine ⟨k1,k2, ?_⟩
   rcases k3 with ⟨m1,m2,p,m3⟩|⟨b1,x9,ya,m1,m2,m3,m4,m5,m6,m7,m8⟩
   ·exact .inl ⟨(if_neg (yf j)).trans m1,m2,p,(if_neg (yf j)).trans m3⟩
   ·have bT:b1<w.heap.size:=(Array.getElem?_eq_some_iff.1 m2).1
    have hne:=js (by rw [tw j hj];simp) (fun e=>hji (gK e)) m1
    refine .inr ⟨b1,x9,ya,(if_neg (yf j)).trans m1,by rw [hh b1 bT hne];exact m2,(if_neg (yf j)).trans m3,m4,m5,m6,(hz b1 hne).trans m7,fun p j' r x hp hj'=> ?_⟩
    obtain ⟨v,hv,hx⟩:=m8 p j' r x hp hj'
    exact ⟨v,hv,hx.mono hst⟩
 ·
  obtain ⟨o,ho⟩:=Option.ne_none_iff_exists'.1 hq
  obtain ⟨o',ho'⟩:=Option.ne_none_iff_exists'.1 fH
  have old:∀q o,aH [(d,AObj.tip e sz R),(b, .nest e' e sz rows (some i))] q=some o→q=d∨(q≠d∧aH s.m q≠none∧q≠nn b i):=by
   intro q o hq
   rcases nj q o hq with ⟨rfl,rfl⟩|⟨rfl,rfl⟩|⟨j,hj,hji,rfl,rfl⟩
   ·exact .inl rfl
   ·exact .inr ⟨fun e=>hdb e.symm,by rw [zh];simp,fun e=>Ez i e.symm⟩
   ·exact .inr ⟨yf j,by rw [tw j hj];simp,fun e=>hji (gK e)⟩
  rcases old q o ho with rfl|⟨h1,h2,h3⟩<;>rcases old q' o' ho' with rfl|⟨jJ,pn,zU⟩
  ·rfl
  ·simp only [jJ,if_true,if_false] at hc pP
   exact absurd hc.symm (js pn zU pP)
  ·simp only [h1,if_true,if_false] at hc pP
   exact absurd pP.symm (js h2 h3 hc)
  ·simp only [h1,jJ,if_false] at hc pP
   exact h.good.inj _ _ c h2 pn hc pP
 ·obtain ⟨o,ho⟩:=Option.ne_none_iff_exists'.1 hq
  rcases nj q o ho with ⟨rfl,rfl⟩|⟨rfl,rfl⟩|⟨j,hj,hji,rfl,rfl⟩
  ·simp only [if_true] at hc
   rcases vZ with h1|h1|h1
   ·rw [h1] at hc;cases hc
   ·rw [h1] at hc;cases hc;exact .inl (Nat.le_refl _)
   ·exact .inr ⟨nn b i,_,tw i hil,rfl,by rw [← h1,hc], .inl (by simp [kl])⟩
  ·have pP:E.ρ q=some c:=by rw [← hc];exact (if_neg (fun e=>hdb e.symm)).symm
   exact .inr ⟨q,_,zh,rfl,pP, .inr (by rw [jI (by omega)];simp only [aU];split<;>simp)⟩
  ·have pP:E.ρ (nn b j)=some c:=by rw [← hc];exact (if_neg (yf j)).symm
   exact .inr ⟨nn b j,_,tw j hj,rfl,pP, .inr (by unfold hit;rw [nd_nn tE];simp only [aU];split<;>simp)⟩
 ·simp only [aO,if_true]
  exact ⟨hv.1,hv.1 ▸ hv.2⟩
theorem j5 {w':World} {E':Env} {w:World} {E:Env} {d g e sz n:Nat} {v':Value} {rows ys:List (List D)} {olds:List Value} {bp:List (List Value)} {stay:Bool}
 (hg:pQ w w' e sz g v' n (olds++bp.flatten) stay) (hpos:0<sz) (hn:n=rows.length+ys.length) (ho:olds.length=rows.length*sz) (hrows:∀r∈rows,r.length=sz)
 (hold:∀(i j:Nat) (r:List D) (x:D),rows[i]? =some r→r[j]? =some x→∃v,olds[i*sz+j]? =some v∧Rd w' E'.z v x) (hnew:bA w' E' sz bp ys)
 (hb:E'.ρ d=some g) (hs:E'.σ d=v'):(E'.z g=0→aA w' E' d (.own e sz (rows++ys)))∧(E'.z g=n*sz→aA w' E' d (.tip e sz (rows++ys))):=by
 obtain ⟨cur,cap,b1,b2,b3,b4,b5,b6⟩:=hg.blk
 have hR:bA w' E' sz (cut sz rows.length olds++bp) (rows++ys):=by
  have h1:=gl ho hrows hold
  refine ⟨by simp [h1.1,hnew.1],fun i vs r hi hr=> ?_⟩
  by_cases hil:i<rows.length
  ·rw [List.getElem?_append_left (by rw [h1.1];exact hil)] at hi
   rw [List.getElem?_append_left hil] at hr
   exact h1.2 i vs r hi hr
  ·rw [List.getElem?_append_right (by rw [h1.1];omega),h1.1] at hi
   rw [List.getElem?_append_right (by omega)] at hr
   exact hnew.2 _ vs r hi hr
 have zV:(cut sz rows.length olds++bp).flatten=olds++bp.flatten:=by rw [List.flatten_append,fQ sz _ _ ho]
 have hnl:n=(rows++ys).length:=by simp [hn]
 have:=tB (w:=w') (E:=E') (d:=d) hpos hb b1 (by rw [hs,b2,hnl]) (by omega) b4 b5 hR (fun k v hv=>by
  rw [zV, ← b6,List.getElem?_take] at hv
  split at hv
  ·simpa using hv
  ·cases hv)
 exact ⟨this.1,fun hz=>this.2 (by rw [hz,hnl])⟩
section
variable {X:Ctx} {o:Oper} {s:ASt} {K:LA→Prop}
theorem rH (hX:X.Ok) {x y:Operand} {t t':Nat} {c:Call} (ho:o.op= .call c) (hc:c.callee= .builtin .append) (ha:c.args.toList= [x,y]) (ht:c.argTypes.toList= [t,t'])
 (h:vcBuiltin X.C s o .append [x,y] [t,t'] K):∃la,ai X o la∧Sat la s∧K la:=by
 simp only [vcBuiltin] at h
 split at h
 ·rename_i d e vU FH zc BR aJ hT
  split at h
  ·rename_i s7 FF Hp e' n zL hx hy
   obtain ⟨⟨hd,hsz,hby,hn,hle⟩,hK⟩:=h
   obtain ⟨N,rfl⟩:∃N:Nat,n=N:=⟨n.toNat,by omega⟩
   have hu:=(hX.C.T _ _ hT).2
   simp only at hu
   have fN:=(hX.C.T _ _ zL).2
   simp only at fN
   obtain ⟨te,hte,cK,bF⟩:=nE hX.C hsz
   refine ⟨_,ai.mk aJ.symm fun s' E a w hdn hs hE=> ?_,⟨ah s _,by simp⟩,hK⟩
   have ex:=hE.evs hs.1 X.C t (x:=x) (by simp)
   have ey:=hE.evs hs.1 X.C 3 (x:=y) (by simp)
   rw [hx] at ex;rw [hy] at ey
   have ex:a.eval x= .slice none 0 0:=ex
   obtain ⟨i,z,e1,e2,e3,e4,e5⟩:=dy cK w E
   have hib:i.size=X.C.sz e∧i.bytes=X.C.au e:=by
    obtain ⟨⟨i',z',f1,f2,f3,_⟩,_⟩:=cK
    rw [e1] at f1;cases f1
    exact ⟨by rw [f2,bF],by rw [f3];simp [Cfg.au,hte]⟩
   have Cy:∀a∈te.zc,a.cv.oneCell'=true:=by
    obtain ⟨⟨i',z',f1,f2,f3,f4,f5,f6,_⟩,_⟩:=cK;exact f6
   have zR:X.C.zrow e=zrowOf X.C te.zc:=by simp [Cfg.zrow,hte]
   obtain ⟨zl,zr⟩:=mo (C:=X.C) Cy e4
   have ia:z.cells.size=X.C.sz e:=by rw [e3,bF]
   have hrow:(X.C.zrow e).length=X.C.sz e:=by rw [zR,zl, ← ia, ← e4.length];simp
   have hle':N*X.C.au e≤140737488355328:=by have h:=hle;rw [← Int.natCast_mul] at h;omega
   have Hq:N≤N*X.C.au e:=by
    have:=Nat.mul_le_mul_left N hby;omega
   have j4:N≤maxLen:=by simp only [maxLen];omega
   have nF:=Go.Lib.run_append_nil_zeros (P:=X.P) w t t' o.type e i z .i64 .i64 hu fN e1 e2 N (by omega) (by rw [hib.1];exact hsz) (by omega) (by rw [hib.2];omega)
   have hrun:(execOp a.eval o).run X.P w= .ok (.value (.slice (some ⟨w.heap.size,0,none⟩) N (grownCap w N 0 e))) (w.drew.alloc (.cells (Builtin.zeroCells z.cells N++Builtin.zeroCells z.cells (grownCap w N 0 e - N)) e)):=by
    have hargs:c.args.map a.eval= #[a.eval x,a.eval y]:=by apply Array.toList_inj.1;simp [ha]
    have tj:c.argTypes= #[t,t']:=by apply Array.toList_inj.1;simpa using ht
    rw [ex,aG ey] at hargs
    simp only [execOp,ho,resolve,hc,Sem.run_bind,Sem.run_pure,Result.andThen_ok,invoke,builtin,hargs,tj,nF]
   refine ⟨_,_,aN E d w.heap.size (.slice (some ⟨w.heap.size,0,none⟩) N (grownCap w N 0 e)) 0,hrun, ?_⟩
   rw [aJ]
   have hge:=grownCap_ge w N 0 e
   refine hE.create hX hd (kill:= [(d,none)]) (by simp [kl]) (fun l hl=>by have:=fP d l hl;unfold dlow at hd;omega) (by simp) (fun b hb=>heap_alloc_old w.drew _ hb) rfl rfl rfl
    (fun l x hl=>absurd hl (bh d l x)) ?_ ⟨by simp [aN],trivial⟩ (fun k hk=>hdn k (by rw [aJ];exact hk)) rfl
   refine ⟨fun r hr=>by rw [(List.mem_replicate.1 hr).2,hrow],hsz, .inr ⟨w.heap.size,_,grownCap w N 0 e,by simp [aN],heap_alloc_new w.drew _,by simp [aN],by simpa using hge, ?_,grownCap_le_maxLen w N 0 e j4,by simp [aN],fun q j r x hq hj=> ?_⟩⟩
   ·simp only [Array.size_append,size_zeroCells,ia, ← Nat.add_mul]
    congr 1;omega
   have qC:q<N:=by have:=(List.getElem?_eq_some_iff.1 hq).1;simpa using this
   simp only [Int.toNat_natCast] at hq
   rw [List.getElem?_replicate,if_pos qC] at hq
   cases hq
   have hjl:j<X.C.sz e:=by rw [← hrow];exact (List.getElem?_eq_some_iff.1 hj).1
   have zS:j<z.cells.size:=by rw [ia];exact hjl
   have hidx:q*X.C.sz e+j<N*z.cells.size:=by
    rw [ia]
    have:(q+1)*X.C.sz e≤N*X.C.sz e:=Nat.mul_le_mul_right _ qC
    rw [Nat.add_mul] at this;omega
   refine ⟨z.cells[j], ?_,zr _ _ j x _ (by rw [← zR];exact hj) (by simp [zS])⟩
   have hmod:(q*X.C.sz e+j) % z.cells.size=j:=by rw [ia,Nat.mul_comm,Nat.mul_add_mod,Nat.mod_eq_of_lt hjl]
   rw [Array.getElem?_append_left (by rw [size_zeroCells];exact hidx)]
   unfold Builtin.zeroCells
   rw [Array.getElem?_map,Array.getElem?_range,if_pos hidx]
   simp [hmod,zS]
  ·exact h.elim
 ·rename_i d e vU FH zc BR aJ hT
  have BR:t=t':=by simpa using BR
  subst BR
  obtain ⟨⟨hd,hsz,hby⟩,h⟩:=h
  have hu:=(hX.C.T _ _ hT).2
  simp only at hu
  obtain ⟨te,hte,cK,bF⟩:=nE hX.C hsz
  have nG:te.au=X.C.au e:=by simp [Cfg.au,hte]
  split at h
  ·exact h.elim
  ·rename_i ys hys
   have hrun:∀ {a:Act} {w:World} {v':Value} {w':World},(Builtin.append_ #[t,t] o.type #[a.eval x,a.eval y]).run X.P w= .ok v' w'→(execOp a.eval o).run X.P w= .ok (.value v') w':=by
    intro a w v' w' hr
    have hargs:c.args.map a.eval= #[a.eval x,a.eval y]:=by apply Array.toList_inj.1;simp [ha]
    have tj:c.argTypes= #[t,t]:=by apply Array.toList_inj.1;simpa using ht
    simp only [execOp,ho,resolve,hc,Sem.run_bind,Sem.run_pure,Result.andThen_ok,invoke,builtin,hargs,tj,hr]
   have j4:∀n:Nat,n*X.C.au e≤140737488355328→n≤maxLen:=by
    intro n hn
    have:n*1≤n*X.C.au e:=Nat.mul_le_mul_left _ hby
    simp only [maxLen];omega
   have hsrc:∀ {s':ASt} {E:Env} {a:Act} {w:World} {rs:List (Nat × AV)} {ms:List (Nat × AObj)} {k:List (Nat × Option D)} {u:List (Nat × AObj)} {dst:Option Nat} {v:AV},(∀p∈rsOf s [x,y],get s'.t p.1=p.2)→(∀p∈msOf s [aev X.C t s y],look s'.m p.1=some p.2)→aC X E s' a w→
    ∃bp,Src w E te.sz (a.eval y) bp ys:=by
    intro s' E a w rs ms k u dst v h1 h2 hE
    have ey:=hE.evs h1 X.C t (x:=y) (by simp)
    obtain ⟨bp,hs⟩:=yd hys hsz (fun p hp=>hE.good.obj _ _ (h2 p hp)) ey
    rw [bF]
    exact ⟨bp,hs⟩
   have qE:∀ {pv:AV},aev X.C t s x=pv→(∀w E v,aO w E pv v→∃p,v= .slice p 0 0)→ys.length*X.C.au e≤140737488355328→
    K ⟨rsOf s [x,y],msOf s [aev X.C t s y], [(d,none)], [(d,if d∈X.C.own then .own e (X.C.sz e) ys else .tip e (X.C.sz e) ys)],some d, .ref d⟩→∃la,ai X o la∧Sat la s∧K la:=by
    intro pv hx hpv hle hK
    refine ⟨_,ai.mk aJ.symm fun s' E a w hdn hs hE=> ?_,⟨ah s _,cr s _⟩,hK⟩
    have ex:=hE.evs hs.1 X.C t (x:=x) (by simp)
    rw [hx] at ex
    obtain ⟨p,ex⟩:=hpv w E _ ex
    obtain ⟨bp,hsrc⟩:=hsrc (rs:= []) (ms:= []) (k:= []) (u:= []) (dst:=none) (v:= .cD) hs.1 hs.2 hE
    obtain ⟨v',w',hr,nH⟩:=cm (ty:=o.type) w hu cK hsrc (by rw [nG];exact hle) (j4 _ hle) (by omega) p
    rw [← ex] at hr
    rw [aJ]
    have zW:∀l,kl [(d,(none:Option D))] l≠none→l<20000:=fun l hl=>by have:=fP d l hl;unfold dlow at hd;omega
    have fE:∀k,some d=some k→k<X.n:=fun k hk=>hdn k (by rw [aJ];exact hk)
    rcases nH with ⟨⟨q,rfl⟩,rfl,hy0⟩|cB
    ·refine ⟨_,_,cU E d q,hrun hr,hE.mz hX (kill:= [(d,none)]) (by simp [kl]) hd zW (fun l x hl=>absurd hl (bh d l x)) ?_ ⟨by simp [cU],trivial⟩ fE (by split<;>rfl)⟩
     subst hy0
     split
     ·exact ⟨by simp,hsz, .inl ⟨by simp [cU],rfl,q,by simp [cU]⟩⟩
     ·exact ⟨by simp,hsz, .inl ⟨by simp [cU],rfl,q,by simp [cU]⟩⟩
    ·refine ⟨_,_,aN E d w.heap.size v' (if d∈X.C.own then 0 else ys.length*te.sz),hrun hr, ?_⟩
     have Cz:=cB
     obtain ⟨cur,cap,b1,b2,_⟩:=Cz.blk
     refine hE.create hX hd (kill:= [(d,none)]) (by simp [kl]) zW (by simpa using cB.size) (fun b hb=>cB.other b hb (by omega)) cB.os cB.tape cB.output
      (fun l x hl=>absurd hl (bh d l x)) ?_ ⟨by simp [aN],by rw [b2];trivial⟩ fE (by split<;>rfl)
     have hst:=bS (w':=w') (E:=E) (d:=d) (v:=v') (zb:=if d∈X.C.own then 0 else ys.length*te.sz) hE.good.fresh (fun b hb=>cB.other b hb (by omega))
     have:=j5 (E':=aN E d w.heap.size v' (if d∈X.C.own then 0 else ys.length*te.sz)) (E:=E) (d:=d) (rows:= []) (olds:= []) (by simpa using cB) (by omega) (by simp) (by simp) (by simp) (fun i j r x h=>by simp at h) (hsrc.rr.mono hst) (by simp [aN]) (by simp [aN])
     simp only [List.nil_append,bF] at this
     by_cases hown:d∈X.C.own
     ·simp only [hown,if_true] at this ⊢
      exact this.1 (by simp [aN])
     ·simp only [hown,if_false] at this ⊢
      simp only [bF]
      exact this.2 (by simp [aN])
   split at h
   ·
    rename_i e' hx
    exact qE hx (fun w E v hv=>⟨none,hv⟩) h.1 h.2
   ·rename_i e' hx
    exact qE hx (fun w E v hv=>hv) h.1 h.2
   ·rename_i l hx
    have core:∀(old:AObj) (rows:List (List D)) (kill:List (Nat × Option D)) (mk:List (List D)→AObj) (zz:Nat→Nat),look s.m l=some old→old.ro=false→
     (old= .tip e (X.C.sz e) rows∧mk= .tip e (X.C.sz e)∧zz=(fun n=>n*X.C.sz e)∧kill= [(l,some (.sl (X.C.sz e) rows)),(d,none)])∨(old= .own e (X.C.sz e) rows∧mk= .own e (X.C.sz e)∧zz=(fun _=>0)∧kill= [(l,none),(d,none)])→
     (rows.length+ys.length)*X.C.au e≤140737488355328→
     K ⟨rsOf s [x,y],(l,old)::msOf s [aev X.C t s y],kill, [(d,mk (rows++ys))],some d, .ref d⟩→∃la,ai X o la∧Sat la s∧K la:=by
     intro old rows kill mk zz hl hro gF hle hK
     refine ⟨_,ai.mk aJ.symm fun s' E a w hdn hs hE=> ?_,⟨ah s _,fun p hp=>by
      rcases List.mem_cons.1 hp with rfl|hp
      ·exact hl
      ·exact cr s _ p hp⟩,hK⟩
     have hl':=hs.2 (l,old) (by simp)
     have ex:=hE.evs hs.1 X.C t (x:=x) (by simp)
     rw [hx] at ex
     simp only [aO] at ex
     obtain ⟨bp,hsrc⟩:=hsrc (rs:= []) (ms:= []) (k:= []) (u:= []) (dst:=none) (v:= .cD) hs.1 (fun p hp=>hs.2 p (by simp [hp])) hE
     have fA:=hE.good.obj l old hl'
     have j6:(∀r∈rows,r.length=X.C.sz e)∧((E.ρ l=none∧rows= []∧∃p,E.σ l= .slice p 0 0)∨
      ∃b cur cap,E.ρ l=some b∧w.heap[b]? =some (.cells cur e (0,0))∧E.σ l= .slice (some ⟨b,0,none⟩) rows.length cap∧rows.length≤cap∧cap*X.C.sz e=cur.size∧cap≤maxLen∧
       E.z b=zz rows.length∧∀(i j:Nat) (r:List D) (x:D),rows[i]? =some r→r[j]? =some x→∃v,cur[i*X.C.sz e+j]? =some v∧Rd w E.z v x):=by
      rcases gF with ⟨rfl,rfl,rfl,rfl⟩|⟨rfl,rfl,rfl,rfl⟩<;>exact ⟨fA.1,fA.2.2⟩
     have o9:kl kill d≠none:=by
      rcases gF with ⟨_,_,_,rfl⟩|⟨_,_,_,rfl⟩<;>simp only [kl]<;>(split<;>simp)
     have bf:kl kill l≠none:=by
      rcases gF with ⟨_,_,_,rfl⟩|⟨_,_,_,rfl⟩<;>simp [kl]
     have eX:l<20000:=hE.good.low l (by simp [hl'])
     have di:∀q,kl kill q≠none→q<20000:=by
      intro q hq
      unfold dlow at hd
      rcases gF with ⟨_,_,_,rfl⟩|⟨_,_,_,rfl⟩<;>simp only [kl] at hq<;>(split at hq;omega;split at hq;omega;exact absurd rfl hq)
     have hkx:∀(w':World) (z':Nat→Nat),aj w E.z w' z'→∀q x,kl kill q=some (some x)→dh (E.σ q)→Rd w' z' (E.σ q) x:=by
      intro w' z' hst q x hq _
      rcases gF with ⟨rfl,_,_,rfl⟩|⟨rfl,_,_,rfl⟩
      ·simp only [kl] at hq
       split at hq
       ·rename_i sR;subst sR
        cases hq
        exact (fz fA).mono hst
       ·split at hq<;>cases hq
      ·simp only [kl] at hq
       split at hq
       ·cases hq
       ·split at hq<;>cases hq
     have fE:∀k,some d=some k→k<X.n:=fun k hk=>hdn k (by rw [aJ];exact hk)
     rw [aJ]
     obtain ⟨hrl,j6⟩:=j6
     have hmk:∀(w':World) (E':Env) (R:List (List D)) (g n:Nat),((E'.z g=0→aA w' E' d (.own e (X.C.sz e) R))∧(E'.z g=n*X.C.sz e→aA w' E' d (.tip e (X.C.sz e) R)))→E'.z g=zz n→aA w' E' d (mk R):=by
      intro w' E' R g n h hz
      rcases gF with ⟨_,rfl,rfl,_⟩|⟨_,rfl,rfl,_⟩
      ·exact h.2 hz
      ·exact h.1 hz
     have nB:(mk (rows++ys)).isNest=false:=by rcases gF with ⟨_,rfl,_,_⟩|⟨_,rfl,_,_⟩<;>rfl
     rcases j6 with ⟨g1,g2,p,g3⟩|⟨b,cur,cap,g1,g2,g3,g4,g5,g6,g7,g8⟩
     ·
      subst g2
      simp only [List.length_nil,Nat.zero_add] at hle
      obtain ⟨v',w',hr,nH⟩:=cm (ty:=o.type) w hu cK hsrc (by rw [nG];exact hle) (j4 _ hle) (by omega) p
      rw [← g3, ← ex.1] at hr
      rcases nH with ⟨⟨q,rfl⟩,rfl,hy0⟩|cB
      ·refine ⟨_,_,cU E d q,hrun hr,hE.mz hX o9 hd di (hkx _ _ (aj.refl _ _)) ?_ ⟨by simp [cU],trivial⟩ fE nB⟩
       subst hy0
       rcases gF with ⟨_,rfl,_,_⟩|⟨_,rfl,_,_⟩
       ·exact ⟨by simp,hsz, .inl ⟨by simp [cU],rfl,q,by simp [cU]⟩⟩
       ·exact ⟨by simp,hsz, .inl ⟨by simp [cU],rfl,q,by simp [cU]⟩⟩
      ·refine ⟨_,_,aN E d w.heap.size v' (zz ys.length),hrun hr, ?_⟩
       have hst:=bS (w':=w') (E:=E) (d:=d) (v:=v') (zb:=zz ys.length) hE.good.fresh (fun b hb=>cB.other b hb (by omega))
       obtain ⟨cur,cap,b1,b2,_⟩:=cB.blk
       refine hE.create hX hd o9 di (by simpa using cB.size) (fun b hb=>cB.other b hb (by omega)) cB.os cB.tape cB.output (hkx _ _ hst) ?_ ⟨by simp [aN],by rw [b2];trivial⟩ fE nB
       have:=j5 (E':=aN E d w.heap.size v' (zz ys.length)) (E:=E) (d:=d) (rows:= []) (olds:= []) (by simpa using cB) (by omega) (by simp) (by simp) (by simp) (fun i j r x h=>by simp at h) (hsrc.rr.mono hst) (by simp [aN]) (by simp [aN])
       rw [bF] at this
       exact hmk _ _ _ _ _ this (by simp [aN])
     ·obtain ⟨v',w',g',stay,hr,cB,js⟩:=fR (ty:=o.type) w hu cK hsrc g2 g4 (by rw [bF];exact g5) g6 (by rw [nG];exact hle) (j4 _ hle) (by omega)
      rw [← g3, ← ex.1] at hr
      have CA:rows.length*X.C.sz e≤cap*X.C.sz e:=Nat.mul_le_mul_right _ g4
      have zX:(cur.toList.take (rows.length*te.sz)).length=rows.length*te.sz:=by rw [bF];simp;omega
      have lJ:b<w.heap.size:=(Array.getElem?_eq_some_iff.1 g2).1
      obtain ⟨cur',cap',c1,c2,c3,c4,c5,c6⟩:=cB.blk
      have nJ:∀(E':Env),aj w E.z w' E'.z→E'.ρ d=some g'→E'.σ d=v'→E'.z g'=zz (rows.length+ys.length)→aA w' E' d (mk (rows++ys)):=by
       intro E' hst h1 h2 h3
       have:=j5 (E':=E') (E:=E) (d:=d) (rows:=rows) (ys:=ys) cB (by omega) rfl zX (by rw [bF];exact hrl) (fun i j r x hi hj=>by
        obtain ⟨v,hv,hx⟩:=g8 i j r x hi hj
        refine ⟨v, ?_,hx.mono hst⟩
        have hil:i<rows.length:=(List.getElem?_eq_some_iff.1 hi).1
        have hjl:j<X.C.sz e:=by rw [← hrl r (List.mem_of_getElem? hi)];exact (List.getElem?_eq_some_iff.1 hj).1
        have hle:(i+1)*X.C.sz e≤rows.length*X.C.sz e:=Nat.mul_le_mul_right _ hil
        rw [Nat.add_mul] at hle
        rw [bF,List.getElem?_take,if_pos (by omega)];simpa using hv) (hsrc.rr.mono hst) h1 h2
       rw [bF] at this
       exact hmk _ _ _ _ _ this h3
      cases stay with
      |true=>
       have yg:=js rfl
       subst yg
       refine ⟨_,_,aN E d g' v' (zz (rows.length+ys.length)),hrun hr, ?_⟩
       have v7:E.z g'≤zz (rows.length+ys.length):=by
        rw [g7]
        rcases gF with ⟨_,_,rfl,_⟩|⟨_,_,rfl,_⟩
        ·exact Nat.mul_le_mul_right _ (by omega)
        ·exact Nat.le_refl _
       have hcell:∀o,o<E.z g'→w'.cell? ⟨g',o,none⟩=w.cell? ⟨g',o,none⟩:=by
        intro o ho
        have ho':o<rows.length*te.sz:=by
         rw [g7] at ho
         rcases gF with ⟨_,_,rfl,_⟩|⟨_,_,rfl,_⟩
         ·rw [bF];exact ho
         ·simp at ho
        have h1:cur'.toList[o]? =cur.toList[o]? :=by
         have:=congrArg (·[o]?) c6
         simp only [List.getElem?_take] at this
         rw [if_pos (by rw [Nat.add_mul];omega),List.getElem?_append_left (by rw [zX];exact ho'),List.getElem?_take,if_pos ho'] at this
         exact this
        simp only [World.cell?,c1,g2]
        simpa using h1
       have hst:aj w E.z w' (aN E d g' v' (zz (rows.length+ys.length))).z:=by
        intro q
        simp only [aN]
        by_cases hq:q=g'
        ·subst hq;simp only [if_true];exact ⟨v7,hcell⟩
        ·simp only [hq,if_false]
         refine ⟨Nat.le_refl _,fun o ho=> ?_⟩
         by_cases hlt:q<w.heap.size
         ·exact cell?_of_heap (cB.other q hlt hq) o
         ·rw [hE.good.fresh q (by omega)] at ho;omega
       exact hE.move hX hl' hro g1 o9 bf hd di (by simpa using cB.size) (fun q hq hne=>cB.other q hq hne) cB.os cB.tape cB.output v7 hcell (hkx _ _ hst) (nJ _ hst (by simp [aN]) (by simp [aN]) (by simp [aN])) ⟨by simp [aN],by rw [c2];trivial⟩ fE nB
      |false=>
       have yg:=cB.at_ rfl
       subst yg
       refine ⟨_,_,aN E d w.heap.size v' (zz (rows.length+ys.length)),hrun hr, ?_⟩
       have hst:=bS (w':=w') (E:=E) (d:=d) (v:=v') (zb:=zz (rows.length+ys.length)) hE.good.fresh (fun q hq=>cB.other q hq (by omega))
       exact hE.create hX hd o9 di (by simpa using cB.size) (fun q hq=>cB.other q hq (by omega)) cB.os cB.tape cB.output (hkx _ _ hst) (nJ _ hst (by simp [aN]) (by simp [aN]) (by simp [aN])) ⟨by simp [aN],by rw [c2];trivial⟩ fE nB
    split at h
    ·
     rename_i b i b9
     obtain ⟨rfl,_⟩:=jH b9
     split at h
     ·rename_i e0 e' sz rows hl
      split at h
      ·rename_i r me
       obtain ⟨⟨rfl,rfl,hdb⟩,hle,hK⟩:=h
       refine ⟨_,ai.mk aJ.symm fun s' E a w hdn hs hE=> ?_,⟨ah s _,fun p hp=>by
        rcases List.mem_cons.1 hp with rfl|hp
        ·exact hl
        ·exact cr s _ p hp⟩,hK⟩
       have hl':=hs.2 (b, .nest e0 e' (X.C.sz e') rows none) (by simp)
       have tE:=hE.good.low b (by simp [hl'])
       have hil:i<rows.length:=(List.getElem?_eq_some_iff.1 me).1
       have cV:aH s'.m (nn b i)=some (.tip e' (X.C.sz e') r):=by
        rw [fL tE,hl'];simp [inner,me]
       have fA:=hE.good.dR _ _ cV
       have ex:=hE.evs hs.1 X.C t (x:=x) (by simp)
       rw [hx] at ex
       simp only [aO] at ex
       obtain ⟨bp,hsrc⟩:=hsrc (rs:= []) (ms:= []) (k:= []) (u:= []) (dst:=none) (v:= .cD) hs.1 (fun p hp=>hs.2 p (by simp [hp])) hE
       have fE:∀k,some d=some k→k<X.n:=fun k hk=>hdn k (by rw [aJ];exact hk)
       rw [aJ]
       obtain ⟨hrl,_,j6⟩:=fA
       rcases j6 with ⟨g1,g2,p,g3⟩|⟨bb,cur,cap,g1,g2,g3,g4,g5,g6,g7,g8⟩
       ·subst g2
        simp only [List.length_nil,Nat.zero_add] at hle
        obtain ⟨v',w',hr,nH⟩:=cm (ty:=o.type) w hu cK hsrc (by rw [nG];exact hle) (j4 _ hle) (by omega) p
        rw [← g3, ← ex.1] at hr
        rcases nH with ⟨⟨q,rfl⟩,rfl,hy0⟩|cB
        ·subst hy0
         exact ⟨_,_,_,hrun hr,hE.mA hX hl' me hd hdb (.inl rfl) (aj.refl _ _) (fun _ _=>rfl) (fun _ _ _=>rfl) rfl rfl rfl (Nat.le_refl _) hE.good.fresh ⟨by simp,hsz, .inl ⟨by simp,by simp,q,by simp⟩⟩ ⟨rfl,trivial⟩ fE⟩
        ·obtain ⟨cur,cap,b1,b2,_⟩:=cB.blk
         have hst:=bS (w':=w') (E:=E) (d:=d) (v:=v') (zb:=ys.length*X.C.sz e') hE.good.fresh (fun b hb=>cB.other b hb (by omega))
         have:=j5 (E':=aN E d w.heap.size v' (ys.length*X.C.sz e')) (E:=E) (d:=d) (rows:= []) (olds:= []) (by simpa using cB) (by omega) (by simp) (by simp) (by simp) (fun i j r x h=>by simp at h) (hsrc.rr.mono hst) (by simp [aN]) (by simp [aN])
         rw [bF] at this
         refine ⟨_,_,_,hrun hr,hE.mA hX (z':=(aN E d w.heap.size v' (ys.length*X.C.sz e')).z) hl' me hd hdb (.inr (.inl rfl)) hst (fun x hx=> ?_) (fun k hk _=>cB.other k hk (by omega)) cB.os cB.tape cB.output (by rw [cB.size];simp) (fun x hx=> ?_) (this.2 (by simp [aN])) ⟨rfl,by rw [b2];trivial⟩ fE⟩
         ·have:x≠w.heap.size:=fun e=>hx (by rw [e])
          simp [aN,this]
         ·rw [cB.size] at hx
          simp only [Bool.false_eq_true,if_false] at hx
          have:x≠w.heap.size:=by omega
          simp only [aN,this,if_false]
          exact hE.good.fresh x (by omega)
       ·obtain ⟨v',w',g',stay,hr,cB,js⟩:=fR (ty:=o.type) w hu cK hsrc g2 g4 (by rw [bF];exact g5) g6 (by rw [nG];exact hle) (j4 _ hle) (by omega)
        rw [← g3, ← ex.1] at hr
        have CA:r.length*X.C.sz e'≤cap*X.C.sz e':=Nat.mul_le_mul_right _ g4
        have zX:(cur.toList.take (r.length*te.sz)).length=r.length*te.sz:=by rw [bF];simp;omega
        have lJ:bb<w.heap.size:=(Array.getElem?_eq_some_iff.1 g2).1
        obtain ⟨cur',cap',c1,c2,c3,c4,c5,c6⟩:=cB.blk
        have nJ:∀(E':Env),aj w E.z w' E'.z→E'.ρ d=some g'→E'.σ d=v'→E'.z g'=(r.length+ys.length)*X.C.sz e'→aA w' E' d (.tip e' (X.C.sz e') (r++ys)):=by
         intro E' hst h1 h2 h3
         have:=j5 (E':=E') (E:=E) (d:=d) (rows:=r) (ys:=ys) cB (by omega) rfl zX (by rw [bF];exact hrl) (fun i j r' x hi hj=>by
          obtain ⟨v,hv,hx⟩:=g8 i j r' x hi hj
          refine ⟨v, ?_,hx.mono hst⟩
          have hil:i<r.length:=(List.getElem?_eq_some_iff.1 hi).1
          have hjl:j<X.C.sz e':=by rw [← hrl r' (List.mem_of_getElem? hi)];exact (List.getElem?_eq_some_iff.1 hj).1
          have hle:(i+1)*X.C.sz e'≤r.length*X.C.sz e':=Nat.mul_le_mul_right _ hil
          rw [Nat.add_mul] at hle
          rw [bF,List.getElem?_take,if_pos (by omega)];simpa using hv) (hsrc.rr.mono hst) h1 h2
         rw [bF] at this
         exact this.2 h3
        have qF:∀x,some x≠some g'→(aN E d g' v' ((r.length+ys.length)*X.C.sz e')).z x=E.z x:=fun x hx=>by
         have:x≠g':=fun e=>hx (by rw [e])
         simp [aN,this]
        cases stay with
        |true=>
         have yg:=js rfl
         subst yg
         have hst:aj w E.z w' (aN E d g' v' ((r.length+ys.length)*X.C.sz e')).z:=by
          intro q
          simp only [aN]
          by_cases hq:q=g'
          ·subst hq;simp only [if_true]
           refine ⟨by rw [g7];exact Nat.mul_le_mul_right _ (by omega),fun o ho=> ?_⟩
           have ho':o<r.length*te.sz:=by rw [g7] at ho;rw [bF];exact ho
           have h1:cur'.toList[o]? =cur.toList[o]? :=by
            have:=congrArg (·[o]?) c6
            simp only [List.getElem?_take] at this
            rw [if_pos (by rw [Nat.add_mul];omega),List.getElem?_append_left (by rw [zX];exact ho'),List.getElem?_take,if_pos ho'] at this
            exact this
           simp only [World.cell?,c1,g2]
           simpa using h1
          ·simp only [hq,if_false]
           refine ⟨Nat.le_refl _,fun o ho=> ?_⟩
           by_cases hlt:q<w.heap.size
           ·exact cell?_of_heap (cB.other q hlt hq) o
           ·rw [hE.good.fresh q (by omega)] at ho;omega
         refine ⟨_,_,_,hrun hr,hE.mA hX (ob:=some g') (z':=(aN E d g' v' ((r.length+ys.length)*X.C.sz e')).z) hl' me hd hdb (.inr (.inr g1.symm)) hst qF (fun k hk hne=>cB.other k hk (fun e=>hne (by rw [e]))) cB.os cB.tape cB.output (by rw [cB.size];simp) (fun x hx=> ?_) (nJ _ hst (by simp) (by simp) (by simp [aN])) ⟨rfl,by rw [c2];trivial⟩ fE⟩
         rw [cB.size] at hx
         simp only [if_true] at hx
         rw [qF x (fun e=>by cases e;omega)]
         exact hE.good.fresh x hx
        |false=>
         have yg:=cB.at_ rfl
         subst yg
         have hst:=bS (w':=w') (E:=E) (d:=d) (v:=v') (zb:=(r.length+ys.length)*X.C.sz e') hE.good.fresh (fun q hq=>cB.other q hq (by omega))
         refine ⟨_,_,_,hrun hr,hE.mA hX (ob:=some w.heap.size) (z':=(aN E d w.heap.size v' ((r.length+ys.length)*X.C.sz e')).z) hl' me hd hdb (.inr (.inl rfl)) hst qF (fun k hk _=>cB.other k hk (by omega)) cB.os cB.tape cB.output (by rw [cB.size];simp) (fun x hx=> ?_) (nJ _ hst (by simp) (by simp) (by simp [aN])) ⟨rfl,by rw [c2];trivial⟩ fE⟩
         rw [cB.size] at hx
         simp only [Bool.false_eq_true,if_false] at hx
         rw [qF x (fun e=>by cases e;omega)]
         exact hE.good.fresh x (by omega)
      ·exact h.elim
     ·exact h.elim
    split at h
    ·rename_i e' sz rows hl
     obtain ⟨⟨rfl,rfl⟩,hle,hK⟩:=h
     exact core _ rows _ (.tip e' (X.C.sz e')) _ hl rfl (.inl ⟨rfl,rfl,rfl,rfl⟩) hle hK
    ·rename_i e' sz rows hl
     obtain ⟨⟨rfl,rfl⟩,hle,hK⟩:=h
     exact core _ rows _ (.own e' (X.C.sz e')) _ hl rfl (.inr ⟨rfl,rfl,rfl,rfl⟩) hle hK
    ·exact h.elim
   ·exact h.elim
 ·exact h.elim
end
end Go.Ab
end
section
namespace Go.Ab
def BV (ov:Option Value) (d i:Int):Prop:=(ov=none∧i=d)∨∃k,ov=some (.int k i)
theorem bq {P:Program} (w:World) (len cap:Nat) {lo hi mx:Option Value} {l h m:Int} (hl:BV lo 0 l) (hh:BV hi len h) (hm:BV mx cap m) (hno:hi=none→mx=none)
 (h0:0≤l) (h1:l≤h) (h2:h≤m) (h3:m≤cap):(Instr.sliceBounds true len cap lo hi mx).run P w= .ok (l.toNat,h.toNat,m.toNat) w:=by
 have hb:∀(k:IntKind) (i:Int) (y:Nat) (c:BoundsCode),0≤i→i≤y→(Instr.sliceBound (.int k i) y c).run P w= .ok i.toNat w:=fun k i y c a b=>run_sliceBound w k i y c a b
 have e1:((m.toNat:Nat):Int)=m:=Int.toNat_of_nonneg (by omega)
 have e2:((h.toNat:Nat):Int)=h:=Int.toNat_of_nonneg (by omega)
 rcases hm with ⟨rfl,rfl⟩|⟨km,rfl⟩
 ·rcases hh with ⟨rfl,rfl⟩|⟨kh,rfl⟩
  ·rcases hl with ⟨rfl,rfl⟩|⟨kl,rfl⟩
   ·simp [Instr.sliceBounds]
   ·simp [Instr.sliceBounds,hb kl l len _ h0 h1]
  ·rcases hl with ⟨rfl,rfl⟩|⟨kl,rfl⟩
   ·simp [Instr.sliceBounds,hb kh h cap _ (by omega) h2]
   ·simp [Instr.sliceBounds,hb kh h cap _ (by omega) h2,hb kl l h.toNat _ h0 (by omega)]
 ·rcases hh with ⟨rfl,rfl⟩|⟨kh,rfl⟩
  ·cases hno rfl
  ·rcases hl with ⟨rfl,rfl⟩|⟨kl,rfl⟩
   ·simp [Instr.sliceBounds,hb km m cap _ (by omega) h3,hb kh h m.toNat _ (by omega) (by omega)]
   ·simp [Instr.sliceBounds,hb km m cap _ (by omega) h3,hb kh h m.toNat _ (by omega) (by omega),hb kl l h.toNat _ h0 (by omega)]
theorem rJ {w:World} {z:Nat→Nat} {a:Option Addr} {n c sz:Nat} {rows:List (List D)} (h:Rd w z (.slice a n c) (.sl sz rows)) {l k m:Nat} (h1:l≤k) (h2:k≤n) (h3:k≤m):
 Rd w z (sliced a l k m sz) (.sl sz ((rows.take k).drop l))∨(c=0∧rows= []):=by
 generalize hv:Value.slice a n c=v at h
 cases h with
 |nil p=>cases hv;exact .inr ⟨rfl,rfl⟩
 |sl b off n' cap _ _ vs hn hsz hz hcap hc hr=>
  cases hv
  left
  unfold sliced
  have hlen:((rows.take k).drop l).length=k - l:=by simp;omega
  by_cases hml:m=l
  ·have bf:k=l:=by omega
   subst hml;subst bf
   simp only [if_true,Nat.sub_self]
   have:(rows.take k).drop k= []:=by simp
   rw [this]
   exact .sl b off 0 0 sz [] vs rfl (by simp) (by omega) (Nat.le_refl _) (fun j hj=>by omega) (fun i j r x hi=>by simp at hi)
  ·simp only [hml,if_false,Option.map_some,Addr.add_mid]
   have hle:k*sz≤n*sz:=Nat.mul_le_mul_right _ h2
   have bf:(k - l)*sz+l*sz=k*sz:=by rw [← Nat.add_mul];congr 1;omega
   refine .sl b (off+l*sz) (k - l) (m - l) sz _ (fun j=>vs (l*sz+j)) hlen (fun r hr=>hsz r (List.mem_of_mem_take (List.mem_of_mem_drop hr))) (by omega) (by omega) (fun j hj=> ?_) (fun i j r x hi hj=> ?_)
   ·rw [Nat.add_assoc];exact hc _ (by omega)
   ·rw [List.getElem?_drop,List.getElem?_take] at hi
    split at hi
    ·have:=hr (l+i) j r x hi hj
     rw [show l*sz+(i*sz+j)=(l+i)*sz+j from by rw [Nat.add_mul];omega]
     exact this
    ·cases hi
theorem nK {w:World} {E:Env} {d e sz b off cap:Nat} {cur:Array Value} {rows:List (List D)} {p k:Nat} (g1:∀r∈rows,r.length=sz) (g2:0<sz) (h2:w.heap[b]? =some (.cells cur e (0,0)))
 (h4:rows.length≤cap) (h5:off+cap*sz≤cur.size) (h6:cap≤maxLen) (h7:E.z b=0)
 (h8:∀(i j:Nat) (r:List D) (x:D),rows[i]? =some r→r[j]? =some x→∃v,cur[off+(i*sz+j)]? =some v∧Rd w E.z v x) (hpk:p≤k) (hk:k≤rows.length):
 aA w (aN E d b (sliced (some ⟨b,off,none⟩) p k cap sz) 0) d (.part e sz ((rows.take k).drop p)):=by
 have hz:∀x,(aN E d b (sliced (some ⟨b,off,none⟩) p k cap sz) 0).z x=E.z x:=fun x=>by
  simp only [aN];split
  ·rename_i h;subst h;exact h7.symm
  ·rfl
 have hst:aj w E.z w (aN E d b (sliced (some ⟨b,off,none⟩) p k cap sz) 0).z:=fun x=>⟨by rw [hz];exact Nat.le_refl _,fun _ _=>rfl⟩
 have hlen:((rows.take k).drop p).length=k - p:=by simp;omega
 refine ⟨fun r hr=>g1 r (List.mem_of_mem_take (List.mem_of_mem_drop hr)),g2, .inr ⟨b,if cap=p then off else off+p*sz,cur,cap - p,by simp [aN],h2, ?_,by omega, ?_,by omega,by rw [hz];exact h7,fun i j r x hi hj=> ?_⟩⟩
 ·simp only [aN,if_true,sliced,hlen]
  split<;>simp [Addr.add_mid]
 ·split
  ·rename_i FI;rw [FI,Nat.sub_self,Nat.zero_mul];have:=Nat.mul_le_mul_right sz (show p≤cap by omega);omega
  ·have:p*sz+(cap - p)*sz=cap*sz:=by rw [← Nat.add_mul];congr 1;omega
   omega
 ·rw [List.getElem?_drop,List.getElem?_take] at hi
  split at hi
  ·rename_i hlt
   obtain ⟨v,hv,hx⟩:=h8 (p+i) j r x hi hj
   refine ⟨v, ?_,hx.mono hst⟩
   rw [if_neg (by omega), ← hv]
   congr 1
   rw [Nat.add_mul];omega
  ·cases hi
section
variable {X:Ctx} {o:Oper} {s:ASt} {K:LA→Prop}
theorem tF (hX:X.Ok) {t:Nat} {x:Operand} {lo hi mx:Option Operand} (ho:o.op= .slice t x lo hi mx) (h:vcOp X X.C o s K):∃la,ai X o la∧Sat la s∧K la:=by
 simp only [vcOp,ho] at h
 split at h
 ·rename_i e vU au zc hT
  have hu:=(hX.C.T _ _ hT).2
  simp only at hu
  have hte:∀sz,sz=X.C.sz e→0<sz→∃te,ak X.P e te∧te.sz=sz:=by
   intro sz h1 h2
   unfold Cfg.sz at h1
   split at h1
   ·rename_i te hte;exact ⟨te,hX.C.T _ _ hte,h1.symm⟩
   ·omega
  have core:∀(ms:List (Nat × AObj)) (sz:Nat) (rows:List (List D)),(∀p∈ms,look s.m p.1=some p.2)→sz=X.C.sz e→0<sz→mxOk hi mx→
   (∀(s':ASt) (E:Env) (a:Act) (w:World) (av:AV),Sat ⟨rsOf s (x::(lo.toList++hi.toList++mx.toList)),ms, [], [],o.dst,av⟩ s'→aC X E s' a w→Rd w E.z (a.eval x) (.sl sz rows))→
   (vcSlice (optLo (lo.map (aev X.C 3 s))) (optHi rows.length (hi.map (aev X.C 3 s))) (mx.map fun m=>optHi rows.length (some (aev X.C 3 s m))) rows.length fun a b=>
     K ⟨rsOf s (x::(lo.toList++hi.toList++mx.toList)),ms, [], [],o.dst,if mxLo (optLo (lo.map (aev X.C 3 s))) (mx.map fun m=>optHi rows.length (some (aev X.C 3 s m)))=true then .emp e else .d (.sl sz ((rows.take b).drop a))⟩)→∃la,ai X o la∧Sat la s∧K la:=by
   intro ms sz rows lH hsz hpos sV hrd ic
   obtain ⟨te,ee,dz⟩:=hte sz hsz hpos
   have fin:∀(z0:Bool) (l k m:Int),(z0=true→mx≠none∧l=m)→(∀(s':ASt) (E:Env) (a:Act) (w:World) (av:AV),Sat ⟨rsOf s (x::(lo.toList++hi.toList++mx.toList)),ms, [], [],o.dst,av⟩ s'→aC X E s' a w→
         BV (lo.map a.eval) 0 l∧BV (hi.map a.eval) rows.length k∧∀c:Nat,rows.length≤c→BV (mx.map a.eval) c (if mx=none then c else m))→
    (0≤l∧l≤k∧k≤rows.length∧(mx≠none→k≤m∧m≤rows.length))→K ⟨rsOf s (x::(lo.toList++hi.toList++mx.toList)),ms, [], [],o.dst,if z0=true then .emp e else .d (.sl sz ((rows.take k.toNat).drop l.toNat))⟩→∃la,ai X o la∧Sat la s∧K la:=by
    intro z0 l k m sW CB ⟨b1,b2,b3,b4⟩ hK
    refine ⟨_,ai.val fun s' E a w hs hE=> ?_,⟨ah s _,lH⟩,hK⟩
    have hr:=hrd s' E a w _ hs hE
    obtain ⟨g1,g2,g3⟩:=CB s' E a w _ hs hE
    obtain ⟨ao,c,hv,hc⟩:=th hr
    rw [hv] at hr
    have hbd:∃m':Nat,k.toNat≤m'∧(z0=true→m'=l.toNat)∧(Instr.sliceBounds true rows.length c (lo.map a.eval) (hi.map a.eval) (mx.map a.eval)).run X.P w= .ok (l.toNat,k.toNat,m') w:=by
     by_cases hmn:mx=none
     ·subst hmn
      have:=bq (P:=X.P) w rows.length c g1 g2 (g3 c hc) (by simp) b1 b2 (by simp;omega) (by simp)
      exact ⟨c,by omega,fun hz=>absurd rfl (sW hz).1,by simpa using this⟩
     ·have zY:=g3 c hc
      simp only [hmn,if_false] at zY
      obtain ⟨b5,b6⟩:=b4 hmn
      refine ⟨m.toNat,by omega,fun hz=>by rw [(sW hz).2],bq (P:=X.P) w rows.length c g1 g2 zY (fun hh=> ?_) b1 b2 b5 (by omega)⟩
      exfalso
      unfold mxOk at sV
      cases hi<;>cases mx<;>simp_all
    obtain ⟨m',hm',FJ,hbd⟩:=hbd
    obtain ⟨⟨ie,z,e1,e2,_⟩,_⟩:=ee
    have nC:(Instr.sliceAt t (a.eval x) (lo.map a.eval) (hi.map a.eval) (mx.map a.eval)).run X.P w= .ok (sliced ao l.toNat k.toNat m' sz) w:=by
     rw [hv]
     simp [Instr.sliceAt,Instr.slice,run_underlying hu,hbd,sizeOf,typeInfo,e1,e2,dz,sliced]
    refine ⟨sliced ao l.toNat k.toNat m' sz,by simp only [execOp,ho,Sem.run_bind,nC,Result.andThen_ok,Sem.run_pure], ?_⟩
    by_cases hz:z0=true
    ·simp only [hz,if_true]
     have:=FJ hz
     unfold sliced
     exact ⟨_,by rw [this,show k.toNat - l.toNat=0 by omega,Nat.sub_self]⟩
    simp only [hz]
    rcases rJ hr (l:=l.toNat) (k:=k.toNat) (m:=m') (by omega) (by omega) hm' with h|h
    ·exact h
    ·obtain ⟨rfl,rfl⟩:=h
     simp only [List.length_nil] at b3
     have hl0:l.toNat=0:=by omega
     have yh:k.toNat=0:=by omega
     have hm0:m'=0:=by
      by_cases hmn:mx=none
      ·subst hmn
       have:=bq (P:=X.P) w 0 0 g1 g2 (g3 0 (by simp)) (by simp) b1 b2 (by simp;omega) (by simp)
       rw [List.length_nil] at hbd
       rw [hbd] at this
       simp only [Result.ok.injEq,Prod.mk.injEq] at this
       simpa using this.1.2.2
      ·obtain ⟨b5,b6⟩:=b4 hmn
       have zY:=g3 0 (by simp)
       simp only [hmn,if_false] at zY
       have:=bq (P:=X.P) w 0 0 g1 g2 zY (fun hh=>by
        exfalso
        unfold mxOk at sV
        cases hi<;>cases mx<;>simp_all) b1 b2 b5 (by simpa using b6)
       rw [List.length_nil] at hbd
       rw [hbd] at this
       simp only [Result.ok.injEq,Prod.mk.injEq] at this
       have h3:=this.1.2.2
       simp only [List.length_nil] at b6
       omega
     simp only [hl0,yh,hm0,sliced,aO]
     exact .nil _ sz
   have hlo:∀l,optLo (lo.map (aev X.C 3 s))=some l→∀(s':ASt) (E:Env) (a:Act) (w:World) (av:AV),Sat ⟨rsOf s (x::(lo.toList++hi.toList++mx.toList)),ms, [], [],o.dst,av⟩ s'→aC X E s' a w→BV (lo.map a.eval) 0 l:=by
    intro l hl s' E a w av hs hE
    cases lo with
    |none=>simp only [Option.map_none,optLo,Option.some.injEq] at hl;exact .inl ⟨rfl,hl.symm⟩
    |some q=>
     simp only [Option.map_some] at hl ⊢
     have eq:=hE.evs hs.1 X.C 3 (x:=q) (by simp)
     unfold optLo at hl
     split at hl
     ·rename_i hq;cases hq
     ·rename_i k i hq;cases hl;rw [Option.some.inj hq] at eq;exact .inr ⟨k,by rw [aG eq]⟩
     ·cases hl
   have hhi:∀(q0:Option Operand) (l:Int),optHi rows.length (q0.map (aev X.C 3 s))=some l→(∀q,q0=some q→q∈x::(lo.toList++hi.toList++mx.toList))→∀(s':ASt) (E:Env) (a:Act) (w:World) (av:AV),Sat ⟨rsOf s (x::(lo.toList++hi.toList++mx.toList)),ms, [], [],o.dst,av⟩ s'→aC X E s' a w→BV (q0.map a.eval) rows.length l:=by
    intro q0 l hl hmem s' E a w av hs hE
    cases q0 with
    |none=>simp only [Option.map_none,optHi,Option.some.injEq] at hl;exact .inl ⟨rfl,hl.symm⟩
    |some q=>
     simp only [Option.map_some] at hl ⊢
     have eq:=hE.evs hs.1 X.C 3 (x:=q) (hmem q rfl)
     unfold optHi at hl
     split at hl
     ·rename_i hq;cases hq
     ·rename_i k i hq;cases hl;rw [Option.some.inj hq] at eq;exact .inr ⟨k,by rw [aG eq]⟩
     ·cases hl
   unfold vcSlice at ic
   split at ic
   ·rename_i l k mB pq lp
    obtain ⟨⟨c1,c2,c3⟩,hK⟩:=ic
    have hmn:mx=none:=by cases mx<;>simp_all
    have sW:mxLo (optLo (lo.map (aev X.C 3 s))) (mx.map fun m=>optHi rows.length (some (aev X.C 3 s m)))=false:=by rw [lp];unfold mxLo;split<;>simp_all
    rw [sW] at hK
    refine fin false l k 0 (by simp) (fun s' E a w av hs hE=>⟨hlo l mB s' E a w av hs hE,hhi hi k pq (fun q hq=>by simp [hq]) s' E a w av hs hE,fun c _=> ?_⟩) ⟨c1,c2,c3,fun h=>absurd hmn h⟩ hK
    subst hmn
    exact .inl ⟨rfl,by simp⟩
   ·rename_i l k m mB pq lp
    obtain ⟨⟨c1,c2,c3,c4⟩,hK⟩:=ic
    obtain ⟨q,hq⟩:∃q,mx=some q:=by cases mx with|none=>simp at lp|some q=>exact ⟨q,rfl⟩
    subst hq
    refine fin _ l k m (fun hz=>⟨by simp, ?_⟩) (fun s' E a w av hs hE=>⟨hlo l mB s' E a w av hs hE,hhi hi k pq (fun q hq=>by simp [hq]) s' E a w av hs hE,fun c _=> ?_⟩) ⟨c1,c2,by omega,fun _=>⟨c3,c4⟩⟩ hK
    ·rw [mB,lp] at hz;simpa [mxLo] using hz
    ·simp only [Option.map_some,Option.some.injEq] at lp
     have eq:=hE.evs hs.1 X.C 3 (x:=q) (by simp)
     unfold optHi at lp
     split at lp
     ·rename_i hq;cases hq
     ·rename_i kk i hq;cases lp;rw [Option.some.inj hq] at eq;exact .inr ⟨kk,by simp [aG eq]⟩
     ·cases lp
   ·exact ic.elim
  have BS:∀l,optLo (lo.map (aev X.C 3 s))=some l→∀(s':ASt) (E:Env) (a:Act) (w:World),(∀p∈rsOf s (x::(lo.toList++hi.toList++mx.toList)),get s'.t p.1=p.2)→aC X E s' a w→BV (lo.map a.eval) 0 l:=by
   intro l hl s' E a w hs hE
   cases lo with
   |none=>simp only [Option.map_none,optLo,Option.some.injEq] at hl;exact .inl ⟨rfl,hl.symm⟩
   |some q=>
    simp only [Option.map_some] at hl ⊢
    have eq:=hE.evs hs X.C 3 (x:=q) (by simp)
    unfold optLo at hl
    split at hl
    ·rename_i hq;cases hq
    ·rename_i k i hq;cases hl;rw [Option.some.inj hq] at eq;exact .inr ⟨k,by rw [aG eq]⟩
    ·cases hl
  have BT:∀(n:Nat) (l:Int),optHi n (hi.map (aev X.C 3 s))=some l→∀(s':ASt) (E:Env) (a:Act) (w:World),(∀p∈rsOf s (x::(lo.toList++hi.toList++mx.toList)),get s'.t p.1=p.2)→aC X E s' a w→BV (hi.map a.eval) n l:=by
   intro n l hl s' E a w hs hE
   cases hi with
   |none=>simp only [Option.map_none,optHi,Option.some.injEq] at hl;exact .inl ⟨rfl,hl.symm⟩
   |some q=>
    simp only [Option.map_some] at hl ⊢
    have eq:=hE.evs hs X.C 3 (x:=q) (by simp)
    unfold optHi at hl
    split at hl
    ·rename_i hq;cases hq
    ·rename_i k i hq;cases hl;rw [Option.some.inj hq] at eq;exact .inr ⟨k,by rw [aG eq]⟩
    ·cases hl
  have zZ:∀(e' l sz:Nat) (rows:List (List D)),look s.m l=some (.own e' sz rows)→aev X.C t s x= .ref l→sz=X.C.sz e→0<sz→mx=none→
   (vcSlice (optLo (lo.map (aev X.C 3 s))) (optHi rows.length (hi.map (aev X.C 3 s))) none rows.length fun a b=>(a<rows.length∧b=rows.length)∧
     K ⟨rsOf s (x::(lo.toList++hi.toList++mx.toList)), [(l, .own e' sz rows)], [], [],o.dst, .vw l sz a⟩)→∃la,ai X o la∧Sat la s∧K la:=by
   intro e' l sz rows hl hx hsz hpos sV ic
   obtain ⟨te,ee,dz⟩:=hte sz hsz hpos
   unfold vcSlice at ic
   split at ic
   ·rename_i p k mB pq lp
    obtain ⟨⟨c1,c2,c3⟩,⟨c4,c5⟩,hK⟩:=ic
    refine ⟨_,ai.val fun s' E a w hs hE=> ?_,⟨ah s _,by simp [hl]⟩,hK⟩
    have hl':=hs.2 (l, .own e' sz rows) (by simp)
    have ex:=hE.evs hs.1 X.C t (x:=x) (by simp)
    rw [hx] at ex
    simp only [aO] at ex
    have g1:=BS p mB s' E a w hs.1 hE
    have g2:=BT rows.length k pq s' E a w hs.1 hE
    obtain ⟨⟨ie,z,e1,e2,_⟩,_⟩:=ee
    obtain ⟨k1,k2,⟨h1,h2,ad,h3⟩|⟨b,cur,cap,h1,h2,h3,h4,h5,h6,h7,h8⟩⟩:=hE.good.obj l _ hl'
    ·subst h2;simp at c4
    ·have hbd:=bq (P:=X.P) w rows.length cap g1 g2 (mx:=none) (m:=cap) (.inl ⟨rfl,rfl⟩) (by simp) c1 c2 (by omega) (by simp)
     have hrun:(Instr.sliceAt t (a.eval x) (lo.map a.eval) (hi.map a.eval) (mx.map a.eval)).run X.P w= .ok (sliced (some ⟨b,0,none⟩) p.toNat k.toNat cap sz) w:=by
      rw [ex.1,h3,sV]
      simp only [Option.map_none]
      simp [Instr.sliceAt,Instr.slice,run_underlying hu,hbd,sizeOf,typeInfo,e1,e2,dz,sliced]
     refine ⟨sliced (some ⟨b,0,none⟩) p.toNat k.toNat cap sz,by simp only [execOp,ho,Sem.run_bind,hrun,Result.andThen_ok,Sem.run_pure],b,0,rows.length,cap,h3,c4, ?_⟩
     unfold sliced
     rw [if_neg (by omega),c5]
     simp [Addr.add_mid]
   ·rename_i lp;simp at lp
   ·exact ic.elim
  have xE:∀(old:AObj) (l d sz:Nat) (rows:List (List D)),look s.m l=some old→old.ro=false→aev X.C t s x= .ref l→o.dst=some d→(∀w E,aA w E l old→aA w E l (.part e sz rows))→sz=X.C.sz e→0<sz→mx=none→dlow d→
   (vcSlice (optLo (lo.map (aev X.C 3 s))) (optHi rows.length (hi.map (aev X.C 3 s))) none rows.length fun a b=>
     K ⟨rsOf s (x::(lo.toList++hi.toList++mx.toList)), [(l,old)], [(l,none),(d,none)], [(d, .part e sz ((rows.take b).drop a))],some d, .ref d⟩)→∃la,ai X o la∧Sat la s∧K la:=by
   intro old l d sz rows hl hro hx aJ fA hsz hpos sV hd ic
   obtain ⟨te,ee,dz⟩:=hte sz hsz hpos
   unfold vcSlice at ic
   split at ic
   ·rename_i p k mB pq lp
    obtain ⟨⟨c1,c2,c3⟩,hK⟩:=ic
    refine ⟨_,ai.mk aJ.symm fun s' E a w hdn hs hE=> ?_,⟨ah s _,by simp [hl]⟩,hK⟩
    have hl':=hs.2 (l,old) (by simp)
    have ex:=hE.evs hs.1 X.C t (x:=x) (by simp)
    rw [hx] at ex
    simp only [aO] at ex
    have g1:=BS p mB s' E a w hs.1 hE
    have g2:=BT rows.length k pq s' E a w hs.1 hE
    have eX:l<20000:=hE.good.low l (by simp [hl'])
    have o9:kl [(l,(none:Option D)),(d,none)] d≠none:=by simp only [kl];split<;>simp
    have bf:kl [(l,(none:Option D)),(d,none)] l≠none:=by simp [kl]
    have di:∀q,kl [(l,(none:Option D)),(d,none)] q≠none→q<20000:=by
     intro q hq
     unfold dlow at hd
     simp only [kl] at hq;split at hq;omega;split at hq;omega;exact absurd rfl hq
    have hkx:∀q y,kl [(l,(none:Option D)),(d,none)] q≠some (some y):=by
     intro q y hq
     simp only [kl] at hq
     split at hq
     ·cases hq
     ·split at hq<;>cases hq
    have fE:∀k,some d=some k→k<X.n:=fun k hk=>hdn k (by rw [aJ];exact hk)
    obtain ⟨⟨ie,z,e1,e2,_⟩,_⟩:=ee
    obtain ⟨k1,k2,⟨h1,h2,ad,h3⟩|⟨b,off,cur,cap,h1,h2,h3,h4,h5,h6,h7,h8⟩⟩:=fA w E (hE.good.obj l old hl')
    ·subst h2
     simp only [List.length_nil] at c3 g2
     have sS:p=0:=by omega
     have yh:k=0:=by omega
     subst sS;subst yh
     have hbd:=bq (P:=X.P) w 0 0 g1 g2 (mx:=none) (m:=0) (.inl ⟨rfl,rfl⟩) (by simp) c1 c2 (by simp) (by simp)
     have hrun:(execOp a.eval o).run X.P w= .ok (.value (.slice ad 0 0)) w:=by
      have:(Instr.sliceAt t (a.eval x) (lo.map a.eval) (hi.map a.eval) (mx.map a.eval)).run X.P w= .ok (.slice ad 0 0) w:=by
       rw [ex.1,h3,sV]
       simp only [Option.map_none]
       simp [Instr.sliceAt,Instr.slice,run_underlying hu,hbd,sizeOf,typeInfo,e1,e2,dz]
      simp only [execOp,ho,Sem.run_bind,this,Result.andThen_ok,Sem.run_pure]
     rw [aJ]
     refine ⟨_,_,cU E d ad,hrun,hE.mz hX o9 hd di (fun q y hq=>absurd hq (hkx q y)) ?_ ⟨by simp [cU],trivial⟩ fE⟩
     exact ⟨by simp,k2, .inl ⟨by simp [cU],by simp,ad,by simp [cU]⟩⟩
    ·have hbd:=bq (P:=X.P) w rows.length cap g1 g2 (mx:=none) (m:=cap) (.inl ⟨rfl,rfl⟩) (by simp) c1 c2 (by omega) (by simp)
     have hrun:(execOp a.eval o).run X.P w= .ok (.value (sliced (some ⟨b,off,none⟩) p.toNat k.toNat cap sz)) w:=by
      have:(Instr.sliceAt t (a.eval x) (lo.map a.eval) (hi.map a.eval) (mx.map a.eval)).run X.P w= .ok (sliced (some ⟨b,off,none⟩) p.toNat k.toNat cap sz) w:=by
       rw [ex.1,h3,sV]
       simp only [Option.map_none]
       simp [Instr.sliceAt,Instr.slice,run_underlying hu,hbd,sizeOf,typeInfo,e1,e2,dz,sliced]
      simp only [execOp,ho,Sem.run_bind,this,Result.andThen_ok,Sem.run_pure]
     rw [aJ]
     refine ⟨_,_,aN E d b (sliced (some ⟨b,off,none⟩) p.toNat k.toNat cap sz) 0,hrun,hE.move hX hl' hro h1 o9 bf hd di rfl (fun _ _ _=>rfl) rfl rfl rfl (by omega) (fun _ _=>rfl) (fun q y hq=>absurd hq (hkx q y)) ?_ ⟨by simp [aN],by unfold sliced;trivial⟩ fE⟩
     exact nK k1 k2 h2 h4 h5 h6 h7 h8 (by omega) (by omega)
   ·rename_i lp;simp at lp
   ·exact ic.elim
  have z1:lo=none→∀(old:AObj) (l d sz:Nat) (rows:List (List D)),look s.m l=some old→old.ro=false→aev X.C t s x= .ref l→o.dst=some d→(∀w E,aA w E l old→aA w E l (.own e sz rows))→sz=X.C.sz e→0<sz→mx=none→dlow d→
   (vcSlice (optLo (lo.map (aev X.C 3 s))) (optHi rows.length (hi.map (aev X.C 3 s))) none rows.length fun a b=>
     K ⟨rsOf s (x::(lo.toList++hi.toList++mx.toList)), [(l,old)], [(l,none),(d,none)], [(d, .own e sz (rows.take b))],some d, .ref d⟩)→∃la,ai X o la∧Sat la s∧K la:=by
   intro v8 old l d sz rows hl hro hx aJ fA hsz hpos sV hd ic
   obtain ⟨te,ee,dz⟩:=hte sz hsz hpos
   unfold vcSlice at ic
   split at ic
   ·rename_i p k mB pq lp
    obtain ⟨⟨c1,c2,c3⟩,hK⟩:=ic
    refine ⟨_,ai.mk aJ.symm fun s' E a w hdn hs hE=> ?_,⟨ah s _,by simp [hl]⟩,hK⟩
    have hl':=hs.2 (l,old) (by simp)
    have ex:=hE.evs hs.1 X.C t (x:=x) (by simp)
    rw [hx] at ex
    simp only [aO] at ex
    have g1:=BS p mB s' E a w hs.1 hE
    have g2:=BT rows.length k pq s' E a w hs.1 hE
    have eX:l<20000:=hE.good.low l (by simp [hl'])
    have o9:kl [(l,(none:Option D)),(d,none)] d≠none:=by simp only [kl];split<;>simp
    have bf:kl [(l,(none:Option D)),(d,none)] l≠none:=by simp [kl]
    have di:∀q,kl [(l,(none:Option D)),(d,none)] q≠none→q<20000:=by
     intro q hq
     unfold dlow at hd
     simp only [kl] at hq;split at hq;omega;split at hq;omega;exact absurd rfl hq
    have hkx:∀q y,kl [(l,(none:Option D)),(d,none)] q≠some (some y):=by
     intro q y hq
     simp only [kl] at hq
     split at hq
     ·cases hq
     ·split at hq<;>cases hq
    have fE:∀k,some d=some k→k<X.n:=fun k hk=>hdn k (by rw [aJ];exact hk)
    obtain ⟨⟨ie,z,e1,e2,_⟩,_⟩:=ee
    obtain ⟨k1,k2,⟨h1,h2,ad,h3⟩|⟨b,cur,cap,h1,h2,h3,h4,h5,h6,h7,h8⟩⟩:=fA w E (hE.good.obj l old hl')
    ·subst h2
     simp only [List.length_nil] at c3 g2
     have sS:p=0:=by omega
     have yh:k=0:=by omega
     subst sS;subst yh
     have hbd:=bq (P:=X.P) w 0 0 g1 g2 (mx:=none) (m:=0) (.inl ⟨rfl,rfl⟩) (by simp) c1 c2 (by simp) (by simp)
     have hrun:(execOp a.eval o).run X.P w= .ok (.value (.slice ad 0 0)) w:=by
      have:(Instr.sliceAt t (a.eval x) (lo.map a.eval) (hi.map a.eval) (mx.map a.eval)).run X.P w= .ok (.slice ad 0 0) w:=by
       rw [ex.1,h3,sV]
       simp only [Option.map_none]
       simp [Instr.sliceAt,Instr.slice,run_underlying hu,hbd,sizeOf,typeInfo,e1,e2,dz]
      simp only [execOp,ho,Sem.run_bind,this,Result.andThen_ok,Sem.run_pure]
     rw [aJ]
     refine ⟨_,_,cU E d ad,hrun,hE.mz hX o9 hd di (fun q y hq=>absurd hq (hkx q y)) ?_ ⟨by simp [cU],trivial⟩ fE⟩
     exact ⟨by simp,k2, .inl ⟨by simp [cU],by simp,ad,by simp [cU]⟩⟩
    ·have hbd:=bq (P:=X.P) w rows.length cap g1 g2 (mx:=none) (m:=cap) (.inl ⟨rfl,rfl⟩) (by simp) c1 c2 (by omega) (by simp)
     have hrun:(execOp a.eval o).run X.P w= .ok (.value (sliced (some ⟨b,0,none⟩) p.toNat k.toNat cap sz)) w:=by
      have:(Instr.sliceAt t (a.eval x) (lo.map a.eval) (hi.map a.eval) (mx.map a.eval)).run X.P w= .ok (sliced (some ⟨b,0,none⟩) p.toNat k.toNat cap sz) w:=by
       rw [ex.1,h3,sV]
       simp only [Option.map_none]
       simp [Instr.sliceAt,Instr.slice,run_underlying hu,hbd,sizeOf,typeInfo,e1,e2,dz,sliced]
      simp only [execOp,ho,Sem.run_bind,this,Result.andThen_ok,Sem.run_pure]
     rw [aJ]
     refine ⟨_,_,aN E d b (sliced (some ⟨b,0,none⟩) p.toNat k.toNat cap sz) 0,hrun,hE.move hX hl' hro h1 o9 bf hd di rfl (fun _ _ _=>rfl) rfl rfl rfl (by omega) (fun _ _=>rfl) (fun q y hq=>absurd hq (hkx q y)) ?_ ⟨by simp [aN],by unfold sliced;trivial⟩ fE⟩
     have sS:p=0:=by subst v8;simp only [Option.map_none,optLo,Option.some.injEq] at mB;exact mB.symm
     subst sS
     have BU:∀x,(aN E d b (sliced (some ⟨b,0,none⟩) (0:Int).toNat k.toNat cap sz) 0).z x=E.z x:=fun x=>by
      simp only [aN];split
      ·rename_i h;subst h;exact h7.symm
      ·rfl
     have hst:aj w E.z w (aN E d b (sliced (some ⟨b,0,none⟩) (0:Int).toNat k.toNat cap sz) 0).z:=fun x=>⟨by rw [BU];exact Nat.le_refl _,fun _ _=>rfl⟩
     refine ⟨fun r hr=>k1 r (List.mem_of_mem_take hr),k2, .inr ⟨b,cur,cap,by simp [aN],h2,by simp [aN,sliced,List.length_take,Addr.add_mid];omega,by rw [List.length_take];omega,h5,h6,by simp [aN],fun i j r y hi hj=> ?_⟩⟩
     rw [List.getElem?_take] at hi
     split at hi
     ·obtain ⟨v,hv,hr⟩:=h8 i j r y hi hj
      exact ⟨v,hv,hr.mono hst⟩
     ·cases hi
   ·rename_i lp;simp at lp
   ·exact ic.elim
  split at h
  ·rename_i e0 hx
   obtain ⟨⟨hpos,sV⟩,ic⟩:=h
   obtain ⟨te,ee,dz⟩:=hte _ rfl hpos
   unfold vcSlice at ic
   split at ic
   ·rename_i p k mB pq lp
    obtain ⟨⟨c1,c2,c3⟩,hK⟩:=ic
    refine ⟨_,ai.val fun s' E a w hs hE=>⟨.slice none 0 0, ?_, ?_⟩,⟨ah s _,by simp⟩,hK⟩
    rotate_left
    ·simp [aO]
    have ex:=hE.evs hs.1 X.C t (x:=x) (by simp)
    rw [hx] at ex
    have ex:a.eval x= .slice none 0 0:=ex
    have g1:=BS p mB s' E a w hs.1 hE
    have g2:=BT 0 k pq s' E a w hs.1 hE
    have sS:p=0:=by omega
    have yh:k=0:=by omega
    subst sS;subst yh
    obtain ⟨⟨ie,z,e1,e2,_⟩,_⟩:=ee
    have hbd:=bq (P:=X.P) w 0 0 g1 g2 (mx:=none) (m:=0) (.inl ⟨rfl,rfl⟩) (by simp) c1 c2 (by simp) (by simp)
    have:(Instr.sliceAt t (a.eval x) (lo.map a.eval) (hi.map a.eval) (mx.map a.eval)).run X.P w= .ok (.slice none 0 0) w:=by
     rw [ex,sV]
     simp only [Option.map_none]
     simp [Instr.sliceAt,Instr.slice,run_underlying hu,hbd,sizeOf,typeInfo,e1,e2,dz]
    simp only [execOp,ho,Sem.run_bind,this,Result.andThen_ok,Sem.run_pure]
   ·rename_i lp;simp at lp
   ·exact ic.elim
  ·rename_i l hx
   split at h
   ·rename_i e' sz rows hl
    obtain ⟨⟨c1,c2,hpos,c3⟩,h⟩:=h
    refine core [(l, .tip e' sz rows)] sz rows (by simp [hl]) c2 hpos c3 (fun s' E a w av hs hE=> ?_) h
    have ex:=hE.evs hs.1 X.C t (x:=x) (by simp)
    rw [hx] at ex
    have:=fz (hE.good.obj l _ (hs.2 (l, .tip e' sz rows) (by simp)))
    rw [ex.1];exact this
   ·rename_i e' sz rows hl
    split at h
    ·rename_i d aJ
     split at h
     ·obtain ⟨⟨c0,c2,hpos,c3⟩,h⟩:=h
      exact zZ e' l sz rows hl hx c2 hpos c3 h
     obtain ⟨⟨rfl,c2,hpos,c3,c4⟩,h⟩:=h
     cases v8:lo with
     |none=>
      subst v8
      exact z1 rfl _ l d sz rows hl rfl hx aJ (fun w E fA=>fA) c2 hpos c3 c4 h
     |some q0=>
     subst v8
     refine xE _ l d sz rows hl rfl hx aJ (fun w E fA=> ?_) c2 hpos c3 c4 h
     obtain ⟨g1,g2,h|⟨b,cur,cap,h1,h2,h3,h4,h5,h6,h7,h8⟩⟩:=fA
     ·exact ⟨g1,g2, .inl h⟩
     ·exact ⟨g1,g2, .inr ⟨b,0,cur,cap,h1,h2,h3,h4,by omega,h6,h7,fun i j r x hi hj=>by rw [Nat.zero_add];exact h8 i j r x hi hj⟩⟩
    ·exact h.elim
   ·rename_i e' sz rows hl
    split at h
    ·rename_i d aJ
     obtain ⟨⟨rfl,c2,hpos,c3,c4⟩,h⟩:=h
     exact xE _ l d sz rows hl rfl hx aJ (fun w E fA=>fA) c2 hpos c3 c4 h
    ·exact h.elim
   ·exact h.elim
  ·rename_i sz rows hx
   obtain ⟨⟨c1,c2,c3⟩,h⟩:=h
   refine core [] sz rows (by simp) c1 c2 c3 (fun s' E a w av hs hE=> ?_) h
   have ex:=hE.evs hs.1 X.C t (x:=x) (by simp)
   rw [hx] at ex
   exact ex
  ·exact h.elim
 ·exact h.elim
end
end Go.Ab
end
