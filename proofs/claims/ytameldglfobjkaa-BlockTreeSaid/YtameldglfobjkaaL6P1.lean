/- A part of the proof. -/
import Derived.WalkKit
import Derived.Deep.MidRow
set_option linter.unusedSimpArgs false
set_option linter.unusedVariables false
section
namespace Go.Ab
inductive D where
 |sc (v:Value)
 |sl (sz:Nat) (rows:List (List D))
 |pt (cells:List D)
 deriving Inhabited
inductive AV where
 |cK
 |nil (e:Nat)
 |d (x:D)
 |ref (l:Nat)
 |ptr (l o:Nat)
 |ep (l sz i o:Nat)
 |agg (vs:List AV)
 |tup (vs:List AV)
 |fn (f:Nat) (first caps:List AV)
 |cV (p:Prop)
 |mref (l:Nat)
 |emp (e:Nat)
 |vw (l sz a:Nat)
 deriving Inhabited
inductive AObj where
 |box (cells:List AV)
 |rob (cells:List AV)
 |own (e sz:Nat) (rows:List (List D))
 |tip (e sz:Nat) (rows:List (List D))
 |mp (n:Nat) (ag:List (List Int × Int))
 |part (e sz:Nat) (rows:List (List D))
 |nest (e' e sz:Nat) (rows:List (List (List D))) (hole:Option Nat)
 |nils (e' e sz n:Nat)
 |orh (e:Nat) (rows:List (List D)) (i:Nat) (g:Option Nat)
 deriving Inhabited
def AObj.ro:AObj→Bool
 | .rob _=>true
 |_=>false
structure Env where
 ρ:Nat→Option Nat
 σ:Nat→Value
 z:Nat→Nat
inductive Rd (w:World) (z:Nat→Nat):Value→D→Prop
 |sc (v:Value) (h:v.oneCell'=true):Rd w z v (.sc v)
 |nil (p:Option Addr) (sz:Nat):Rd w z (.slice p 0 0) (.sl sz [])
 |sl (b off n cap sz:Nat) (rows:List (List D)) (vs:Nat→Value)
   (hn:rows.length=n) (hsz:∀r∈rows,r.length=sz) (hz:off+n*sz≤z b) (hcap:n≤cap)
   (hc:∀k,k<n*sz→w.cell? ⟨b,off+k,none⟩=some (vs k))
   (hr:∀(i j:Nat) (r:List D) (x:D),rows[i]? =some r→r[j]? =some x→Rd w z (vs (i*sz+j)) x):
   Rd w z (.slice (some ⟨b,off,none⟩) n cap) (.sl sz rows)
 |pt (b off:Nat) (cells:List D) (vs:Nat→Value) (hz:off+cells.length≤z b)
   (hc:∀k,k<cells.length→w.cell? ⟨b,off+k,none⟩=some (vs k))
   (hr:∀(j:Nat) (x:D),cells[j]? =some x→Rd w z (vs j) x):Rd w z (.pointer (some ⟨b,off,none⟩)) (.pt cells)
def ak (w:World) (z:Nat→Nat) (w':World) (z':Nat→Nat):Prop:=
 ∀b,z b≤z' b∧∀o,o<z b→w'.cell? ⟨b,o,none⟩=w.cell? ⟨b,o,none⟩
theorem ak.refl (w:World) (z:Nat→Nat):ak w z w z:=fun _=>⟨Nat.le_refl _,fun _ _=>rfl⟩
theorem ak.trans {w w' w'':World} {z z' FJ:Nat→Nat} (h:ak w z w' z') (k:ak w' z' w'' FJ):ak w z w'' FJ:=
 fun b=>⟨Nat.le_trans (h b).1 (k b).1,fun o ho=>((k b).2 o (Nat.lt_of_lt_of_le ho (h b).1)).trans ((h b).2 o ho)⟩
theorem Rd.mono {w:World} {z:Nat→Nat} {w':World} {z':Nat→Nat} (hs:ak w z w' z') {v:Value} {x:D} (h:Rd w z v x):Rd w' z' v x:=by
 induction h with
 |sc v h=>exact .sc v h
 |nil p sz=>exact .nil p sz
 |sl b off n cap sz rows vs hn hsz hz hcap hc hr ih=>
  exact .sl b off n cap sz rows vs hn hsz (Nat.le_trans hz (hs b).1) hcap
   (fun k hk=>by rw [(hs b).2 _ (by omega)];exact hc k hk) ih
 |pt b off cells vs hz hc hr ih=>
  exact .pt b off cells vs (Nat.le_trans hz (hs b).1) (fun k hk=>by rw [(hs b).2 _ (by omega)];exact hc k hk) ih
theorem Rd.one {w:World} {z:Nat→Nat} {v:Value} {x:D} (h:Rd w z v x):v.oneCell'=true:=by
 cases h<;>first|assumption|rfl
def dx:Value→Prop
 | .slice .. =>True
 |_=>False
mutual
def aQ (w:World) (E:Env):AV→Value→Prop
 | .cK,_=>True
 | .nil _,v=>v= .slice none 0 0
 | .d x,v=>Rd w E.z v x
 | .ref l,v=>v=E.σ l∧dx v
 | .ptr l o,v=>∃b,E.ρ l=some b∧v= .pointer (some ⟨b,o,none⟩)
 | .ep l sz i o,v=>∃b off n cap,E.σ l= .slice (some ⟨b,off,none⟩) n cap∧v= .pointer (some ⟨b,off+(i*sz+o),none⟩)
 | .agg vs,v=>∃us:List Value,v= .agg us.toArray∧AVrs w E vs us
 | .tup vs,v=>∃us:List Value,v= .tuple us.toArray∧AVrs w E vs us
 | .fn f first caps,v=>∃us vs:List Value,v= .func (.func f) us.toArray vs.toArray∧AVrs w E first us∧AVrs w E caps vs
 | .cV p,v=>∃b:Bool,v= .bool b∧(b=true→p)
 | .mref l,v=>∃b,E.ρ l=some b∧v= .map (some b)
 | .emp _,v=>∃p,v= .slice p 0 0
 | .vw l sz a,v=>∃b off n cap,E.σ l= .slice (some ⟨b,off,none⟩) n cap∧a<n∧v= .slice (some ⟨b,off+a*sz,none⟩) (n - a) (cap - a)
def AVrs (w:World) (E:Env):List AV→List Value→Prop
 | [],us=>us= []
 |a::as,us=>∃u us',us=u::us'∧aQ w E a u∧AVrs w E as us'
end
theorem bU {w:World} {E:Env} :∀ {as:List AV} {us:List Value},AVrs w E as us↔us.length=as.length∧∀(i:Nat) a u,as[i]? =some a→us[i]? =some u→aQ w E a u
 | [],us=>by simp [AVrs]
 |a::as,us=>by
  simp only [AVrs]
  constructor
  ·rintro ⟨u,us',rfl,h1,h2⟩
   obtain ⟨hl,h3⟩:=bU.1 h2
   refine ⟨by simp [hl],fun i a' u' ha hu=> ?_⟩
   cases i with
   |zero=>simp at ha hu;subst ha;subst hu;exact h1
   |succ i=>simp at ha hu;exact h3 i _ _ ha hu
  ·rintro ⟨hl,h⟩
   cases us with
   |nil=>simp at hl
   |cons u us=>
    refine ⟨u,us,rfl,h 0 _ _ rfl rfl,bU.2 ⟨by simpa using hl,fun i a' u' ha hu=>h (i+1) _ _ (by simpa using ha) (by simpa using hu)⟩⟩
structure kD (w:World) (E:Env) (w':World) (E':Env) (live:Nat→Prop):Prop where
 st:ak w E.z w' E'.z
 ρ:∀l,live l→E'.ρ l=E.ρ l
 σ:∀l,live l→E'.σ l=E.σ l
mutual
def AV.ids:AV→List Nat
 | .ref l=> [l]
 | .ptr l _=> [l]
 | .ep l _ _ _=> [l]
 | .vw l _ _=> [l]
 | .mref l=> [l]
 | .agg vs=>AV.idss vs
 | .tup vs=>AV.idss vs
 | .fn _ us vs=>AV.idss us++AV.idss vs
 |_=> []
def AV.idss:List AV→List Nat
 | []=> []
 |a::as=>AV.ids a++AV.idss as
end
mutual
theorem aQ.mono {w:World} {E:Env} {w':World} {E':Env} {live:Nat→Prop} (hk:kD w E w' E' live):∀ {a:AV} {v:Value},(∀l∈a.ids,live l)→aQ w E a v→aQ w' E' a v
 | .cK,_,_,_=>trivial
 | .nil _,_,_,h=>h
 | .d x,_,_,h=>Rd.mono hk.st h
 | .cV _,_,_,h=>h
 | .emp _,_,_,h=>h
 | .mref l,_,hl,h=>by simp only [aQ] at h ⊢;rw [hk.ρ l (hl l (by simp [AV.ids]))];exact h
 | .ref l,_,hl,h=>by simp only [aQ] at h ⊢;rw [hk.σ l (hl l (by simp [AV.ids]))];exact h
 | .ptr l o,_,hl,h=>by simp only [aQ] at h ⊢;rw [hk.ρ l (hl l (by simp [AV.ids]))];exact h
 | .ep l sz i o,_,hl,h=>by simp only [aQ] at h ⊢;rw [hk.σ l (hl l (by simp [AV.ids]))];exact h
 | .vw l sz a,_,hl,h=>by simp only [aQ] at h ⊢;rw [hk.σ l (hl l (by simp [AV.ids]))];exact h
 | .agg vs,_,hl,h=>by obtain ⟨us,rfl,h⟩:=h;exact ⟨us,rfl,AVrs.mono hk (fun l hm=>hl l (by simpa [AV.ids] using hm)) h⟩
 | .tup vs,_,hl,h=>by obtain ⟨us,rfl,h⟩:=h;exact ⟨us,rfl,AVrs.mono hk (fun l hm=>hl l (by simpa [AV.ids] using hm)) h⟩
 | .fn f as bs,_,hl,h=>by obtain ⟨us,vs,rfl,h,k⟩:=h;exact ⟨us,vs,rfl,AVrs.mono hk (fun l hm=>hl l (by simp [AV.ids,hm])) h,AVrs.mono hk (fun l hm=>hl l (by simp [AV.ids,hm])) k⟩
theorem AVrs.mono {w:World} {E:Env} {w':World} {E':Env} {live:Nat→Prop} (hk:kD w E w' E' live):∀ {as:List AV} {us:List Value},(∀l∈AV.idss as,live l)→AVrs w E as us→AVrs w' E' as us
 | [],_,_,h=>h
 |a::as,_,hl,h=>by
  obtain ⟨u,us',rfl,h1,h2⟩:=h
  exact ⟨u,us',rfl,aQ.mono hk (fun l hm=>hl l (by simp [AV.idss,hm])) h1,AVrs.mono hk (fun l hm=>hl l (by simp [AV.idss,hm])) h2⟩
end
def kW (n:Nat):Nat:=match n with|0=>1|n=>n
def kV (n:Nat) (key:List Int):Value:=match n with|0=> .int .i64 (key.getD 0 0)|_=> .agg (key.map (Value.int .i64)).toArray
structure eL (n:Nat) (ag:List (List Int × Int)) (es:Array MapEntry):Prop where
 size:es.size=ag.length
 len:∀p∈ag,p.1.length=kW n
 apart:(ag.map (·.1)).Nodup
 nV:∀(i:Nat) p,ag[i]? =some p→es[i]? =some ⟨kV n p.1, .int .i64 p.2,i⟩
def nn (l i:Nat):Nat:=1000000+i*20000+l
def nd (l:Nat):Option (Nat × Nat):=if 1000000≤l then some ((l - 1000000) % 20000,(l - 1000000) / 20000) else none
theorem nd_low {l:Nat} (h:l<1000000):nd l=none:=by unfold nd;rw [if_neg (by omega)]
theorem nd_nn {l i:Nat} (h:l<20000):nd (nn l i)=some (l,i):=by
 unfold nd nn
 rw [if_pos (by omega)]
 have e:1000000+i*20000+l - 1000000=l+20000*i:=by omega
 rw [e,Nat.add_mul_mod_self_left,Nat.mod_eq_of_lt h,Nat.add_mul_div_left _ _ (by omega),Nat.div_eq_of_lt h,Nat.zero_add]
theorem j7 {l b i:Nat} (h:nd l=some (b,i)):l=nn b i∧b<20000:=by
 unfold nd at h
 split at h
 ·simp only [Option.some.injEq,Prod.mk.injEq] at h
  obtain ⟨rfl,rfl⟩:=h
  unfold nn
  have:=Nat.mod_add_div (l - 1000000) 20000
  have:=Nat.mod_lt (l - 1000000) (show 0<20000 by omega)
  omega
 ·cases h
def aF (w:World) (E:Env) (l:Nat):AObj→Prop
 | .box cells| .rob cells=>∃b vs e,E.ρ l=some b∧w.heap[b]? =some (.cells (vs:List Value).toArray e (0,0))∧E.z b=0∧AVrs w E cells vs∧∀v∈vs,v.oneCell'=true
 | .own e sz rows=>(∀r∈rows,r.length=sz)∧0<sz∧((E.ρ l=none∧rows= []∧∃p,E.σ l= .slice p 0 0)∨
     ∃b cur cap,E.ρ l=some b∧w.heap[b]? =some (.cells cur e (0,0))∧E.σ l= .slice (some ⟨b,0,none⟩) rows.length cap∧rows.length≤cap∧cap*sz=cur.size∧cap≤maxLen∧
      E.z b=0∧∀(i j:Nat) (r:List D) (x:D),rows[i]? =some r→r[j]? =some x→∃v,cur[i*sz+j]? =some v∧Rd w E.z v x)
 | .tip e sz rows=>(∀r∈rows,r.length=sz)∧0<sz∧((E.ρ l=none∧rows= []∧∃p,E.σ l= .slice p 0 0)∨
     ∃b cur cap,E.ρ l=some b∧w.heap[b]? =some (.cells cur e (0,0))∧E.σ l= .slice (some ⟨b,0,none⟩) rows.length cap∧rows.length≤cap∧cap*sz=cur.size∧cap≤maxLen∧
      E.z b=rows.length*sz∧∀(i j:Nat) (r:List D) (x:D),rows[i]? =some r→r[j]? =some x→∃v,cur[i*sz+j]? =some v∧Rd w E.z v x)
 | .part e sz rows=>(∀r∈rows,r.length=sz)∧0<sz∧((E.ρ l=none∧rows= []∧∃p,E.σ l= .slice p 0 0)∨
     ∃b off cur cap,E.ρ l=some b∧w.heap[b]? =some (.cells cur e (0,0))∧E.σ l= .slice (some ⟨b,off,none⟩) rows.length cap∧rows.length≤cap∧off+cap*sz≤cur.size∧cap≤maxLen∧
      E.z b=0∧∀(i j:Nat) (r:List D) (x:D),rows[i]? =some r→r[j]? =some x→∃v,cur[off+(i*sz+j)]? =some v∧Rd w E.z v x)
 | .nils e' e sz n=>∃b cur cap,E.ρ l=some b∧w.heap[b]? =some (.cells cur e' (0,0))∧E.σ l= .slice (some ⟨b,0,none⟩) n cap∧n≤cap∧cap=cur.size∧cap≤maxLen∧E.z b=0∧0<sz∧∀i,i<n→cur[i]? =some (.slice none 0 0)
 | .nest e' e sz rows hole=>∃b cur cap,E.ρ l=some b∧w.heap[b]? =some (.cells cur e' (0,0))∧E.σ l= .slice (some ⟨b,0,none⟩) rows.length cap∧rows.length≤cap∧cap=cur.size∧cap≤maxLen∧E.z b=0∧
     ∀i,i<rows.length→hole≠some i→cur[i]? =some (E.σ (nn l i))∧dx (E.σ (nn l i))
 | .mp n ag=>∃b es,E.ρ l=some b∧w.heap[b]? =some (.map es es.size)∧E.z b=0∧eL n ag es
 | .orh e rows i g=>i<rows.length∧(∀r∈rows,r.length=1)∧∃b cur cap,E.ρ l=some b∧w.heap[b]? =some (.cells cur e (0,0))∧E.σ l= .slice (some ⟨b,0,none⟩) rows.length cap∧rows.length≤cap∧cap*1=cur.size∧cap≤maxLen∧
     E.z b=0∧(∀(p j:Nat) (r:List D) (x:D),p≠i→rows[p]? =some r→r[j]? =some x→∃v,cur[p*1+j]? =some v∧Rd w E.z v x)∧∀g',g=some g'→cur[i]? =some (E.σ g')∧dx (E.σ g')
def get (t:List (Nat × AV)) (k:Nat):AV:=
 match t with
 | []=> .cK
 |(i,v)::r=>if i=k then v else get r k
def look (m:List (Nat × AObj)) (l:Nat):Option AObj:=
 match m with
 | []=>none
 |(i,o)::r=>if i=l then some o else look r l
def inner (i:Nat):Option AObj→Option AObj
 |some (.nest _ e sz rows hole)=>if hole=some i then none else match rows[i]? with|some r=>some (.tip e sz r)|none=>none
 |_=>none
def aJ (m:List (Nat × AObj)) (l:Nat):Option AObj:=
 match nd l with
 |none=>look m l
 |some (b,i)=>inner i (look m b)
theorem bP {m:List (Nat × AObj)} {l:Nat} (h:l<1000000):aJ m l=look m l:=by unfold aJ;rw [nd_low h]
theorem ga {m:List (Nat × AObj)} {l i:Nat} (h:l<20000):aJ m (nn l i)=inner i (look m l):=by unfold aJ;rw [nd_nn h]
def AObj.isNest:AObj→Bool
 | .nest .. =>true
 |_=>false
structure ASt where
 t:List (Nat × AV)
 m:List (Nat × AObj)
def AObj.ids:AObj→List Nat
 | .box cells| .rob cells=>AV.idss cells
 | .orh _ _ _ (some g)=> [g]
 |_=> []
structure Good (m:List (Nat × AObj)) (E:Env) (w:World):Prop where
 low:∀l,look m l≠none→l<20000
 inj:∀l l' b,aJ m l≠none→aJ m l'≠none→E.ρ l=some b→E.ρ l'=some b→l=l'
 dY:∀l o,aJ m l=some o→aF w E l o
 fresh:∀b,w.heap.size≤b→E.z b=0
theorem Good.Dp {m:List (Nat × AObj)} {E:Env} {w:World} (h:Good m E w) {l:Nat} (hl:look m l≠none):aJ m l=look m l:=bP (by have:=h.low l hl;omega)
theorem Good.aJ {m:List (Nat × AObj)} {E:Env} {w:World} (h:Good m E w) {l:Nat} {o:AObj} (hl:look m l=some o):aJ m l=some o:=by rw [h.Dp (by simp [hl]),hl]
theorem Good.obj {m:List (Nat × AObj)} {E:Env} {w:World} (h:Good m E w) (l:Nat) (o:AObj) (hl:look m l=some o):aF w E l o:=h.dY l o (h.aJ hl)
def tZ (m:List (Nat × AObj)) (E:Env) (b:Nat):Prop:=∃l o,Ab.aJ m l=some o∧o.ro=false∧E.ρ l=some b
structure yw (m0:List (Nat × AObj)) (E0:Env) (w0:World) (E:Env) (w:World):Prop where
 os:w.os=w0.os
 tape:w.tape=w0.tape
 output:w.output=w0.output
 size:w0.heap.size≤w.heap.size
 st:ak w0 E0.z w E.z
 frame:∀b,b<w0.heap.size→¬tZ m0 E0 b→w.heap[b]? =w0.heap[b]? ∧E.z b=E0.z b
 yx:∀l,Ab.aJ m0 l≠none→E.ρ l=E0.ρ l∧E.σ l=E0.σ l
theorem yw.refl (m0:List (Nat × AObj)) (E0:Env) (w0:World):yw m0 E0 w0 E0 w0:=
 ⟨rfl,rfl,rfl,Nat.le_refl _,ak.refl _ _,fun _ _ _=>⟨rfl,rfl⟩,fun _ _=>⟨rfl,rfl⟩⟩
end Go.Ab
end
section
namespace Go.Ab
inductive TK where
 |sc
 |bool
 |int (k:IntKind)
 |sl (e:Nat)
 |st (fs:List (Nat × Nat))
 |ar (n e:Nat)
 |pt (e:Nat)
 |mp (k e:Nat)
 deriving Inhabited
def TK.isRow:TK→Bool
 | .st _| .ar _ _=>true
 |_=>false
structure TI where
 k:TK
 sz:Nat
 az:Nat
 zc:List AV
 deriving Inhabited
structure Cfg where
 T:Nat→Option TI
 own:List Nat
 p8:Nat→Option Nat
 nW:List Nat
def Cfg.sz (C:Cfg) (e:Nat):Nat:=match C.T e with|some ti=>ti.sz|none=>0
def Cfg.az (C:Cfg) (e:Nat):Nat:=match C.T e with|some ti=>ti.az|none=>0
def zrowOf (C:Cfg):List AV→List D
 | []=> []
 | .nil e::r=> .sl (C.sz e) []::zrowOf C r
 | .d x::r=>x::zrowOf C r
 |_::r=> .sl 0 []::zrowOf C r
def Cfg.zrow (C:Cfg) (e:Nat):List D:=match C.T e with|some ti=>zrowOf C ti.zc|none=> []
def AV.cv:AV→Value
 | .nil _=> .slice none 0 0
 | .d (.sc v)=>v
 |_=> .tuple #[]
def an (P:Program) (t:Nat) (ti:TI):Prop:=
 (∃i z,P.info? t=some i∧i.size=ti.sz∧i.bytes=ti.az∧i.zero=some z∧z.cells.toList=ti.zc.map AV.cv∧(∀a∈ti.zc,a.cv.oneCell'=true)∧ti.zc.length=ti.sz)∧
 match ti.k with
 | .sc=>∃d,P.underlying t=some d∧(match d with| .struct _| .array _ _=>False|_=>True)
 | .bool=>P.underlying t=some .bool
 | .int k=>P.underlying t=some (.int k)
 | .sl e=>P.underlying t=some (.slice e)
 | .pt e=>P.underlying t=some (.pointer e)
 | .st fs=>∃fields:Array Field,P.underlying t=some (.struct fields)∧fields.toList.map (fun f=>(f.offset,f.type))=fs
 | .ar n e=>P.underlying t=some (.array n e)
 | .mp k e=>P.underlying t=some (.map k e)∧∀w,(zeroValue e).run P w= .ok (.int .i64 0) w
def gQ (P:Program) (t n:Nat):Prop:=P.eqGuardType P.depth t=false∧match n with
 |0=>∀(w:World) (p q:Bool) (xs ys:List Int),xs.length=2→ys.length=2→
  (Op.equalIn 10000 t (.agg (Value.bool p::xs.map (Value.int .i64)).toArray) (.agg (Value.bool q::ys.map (Value.int .i64)).toArray)).run P w= .ok ((p==q)&&decide (xs=ys)) w
 |n+1=>∀(w:World) (xs ys:List Int),xs.length=n+1→ys.length=n+1→
  (Op.equalIn 10000 t (.agg (xs.map (Value.int .i64)).toArray) (.agg (ys.map (Value.int .i64)).toArray)).run P w= .ok (decide (xs=ys)) w∧∀em,(Instr.checkKey em 10000 t (.agg (xs.map (Value.int .i64)).toArray)).run P w= .ok () w
structure Cfg.Ok (P:Program) (C:Cfg):Prop where
 T:∀t ti,C.T t=some ti→an P t ti
 p8:∀t n,C.p8 t=some n→gQ P t n
def cst (C:Cfg) (ty:Nat) (v:Value):AV:=
 match v with
 | .slice none 0 0=>match C.T ty with|some ⟨.sl e,_,_,_⟩=> .nil e|_=> .cK
 | .int k n=> .d (.sc (.int k n))
 | .bool b=> .d (.sc (.bool b))
 | .pointer none=> .d (.sc (.pointer none))
 | .string s=> .d (.sc (.string s))
 |_=> .cK
def aev (C:Cfg) (ty:Nat) (s:ASt):Operand→AV
 | .tmp t=>get s.t t
 | .const v=>cst C ty v
 | .global _=> .cK
 | .func f=> .fn f [] []
def rsOf (s:ASt):List Operand→List (Nat × AV)
 | []=> []
 | .tmp t::r=>(t,get s.t t)::rsOf s r
 |_::r=>rsOf s r
structure LA where
 rs:List (Nat × AV)
 ms:List (Nat × AObj)
 kill:List (Nat × Option D)
 cz:List (Nat × AObj)
 dst:Option Nat
 v:AV
def kl (kill:List (Nat × Option D)) (l:Nat):Option (Option D):=
 match kill with
 | []=>none
 |(i,x)::r=>if i=l then some x else kl r l
mutual
def AV.sub (k:List (Nat × Option D)):AV→AV
 | .ref l=>match kl k l with|none=> .ref l|some none=> .cK|some (some x)=> .d x
 | .ptr l o=>match kl k l with|none=> .ptr l o|some _=> .cK
 | .ep l sz i o=>match kl k l with|none=> .ep l sz i o|some _=> .cK
 | .vw l sz a=>match kl k l with|none=> .vw l sz a|some _=> .cK
 | .agg vs=> .agg (AV.subs k vs)
 | .tup vs=> .tup (AV.subs k vs)
 | .fn f us vs=> .fn f (AV.subs k us) (AV.subs k vs)
 | .cK=> .cK
 | .nil e=> .nil e
 | .d x=> .d x
 | .cV p=> .cV p
 | .mref l=>match kl k l with|none=> .mref l|some _=> .cK
 | .emp e=> .emp e
def AV.subs (k:List (Nat × Option D)):List AV→List AV
 | []=> []
 |a::as=>AV.sub k a::AV.subs k as
end
def AObj.sub (k:List (Nat × Option D)):AObj→AObj
 | .box cells=> .box (AV.subs k cells)
 | .rob cells=> .rob (AV.subs k cells)
 | .orh e rows i (some g)=>match kl k g with|none=> .orh e rows i (some g)|some none=> .orh e rows i none|some (some x)=> .own e 1 (rows.set i [x])
 |o=>o
def subT (k:List (Nat × Option D)):List (Nat × AV)→List (Nat × AV)
 | []=> []
 |(i,a)::r=>(i,a.sub k)::subT k r
def rmk (k:List (Nat × Option D)):List (Nat × AObj)→List (Nat × AObj)
 | []=> []
 |(i,o)::r=>match kl k i with|none=>(i,o.sub k)::rmk k r|some _=>rmk k r
def rml (l:Nat):List (Nat × AObj)→List (Nat × AObj)
 | []=> []
 |(i,o)::r=>if i=l then rml l r else (i,o)::rml l r
def putM:List (Nat × AObj)→List (Nat × AObj)→List (Nat × AObj)
 | [],m=>m
 |(i,o)::r,m=>(i,o)::rml i (putM r m)
def ASt.put (s:ASt) (dst:Option Nat) (v:AV):ASt:=
 match dst with
 |some d=>⟨(d,v)::s.t,s.m⟩
 |none=>s
def ASt.kill (s:ASt) (k:List (Nat × Option D)):ASt:=
 match k with
 | []=>s
 |_=>⟨subT k s.t,rmk k s.m⟩
def LA.app (la:LA) (s:ASt):ASt:=
 ASt.put ⟨(s.kill la.kill).t,putM la.cz (s.kill la.kill).m⟩ la.dst la.v
def Sat (la:LA) (s:ASt):Prop:=(∀p∈la.rs,get s.t p.1=p.2)∧∀p∈la.ms,look s.m p.1=some p.2
def toD (C:Cfg) (s:ASt):AV→Option D
 | .d x=>some x
 | .nil e=>some (.sl (C.sz e) [])
 | .emp e=>some (.sl (C.sz e) [])
 | .ref l=>match look s.m l with|some (.tip _ sz rows)=>some (.sl sz rows)|_=>none
 |_=>none
def toDs (C:Cfg) (s:ASt):List AV→Option (List D)
 | []=>some []
 |a::as=>match toD C s a,toDs C s as with|some x,some xs=>some (x::xs)|_,_=>none
def avCells:AV→List AV
 | .agg cs=>cs
 |a=> [a]
def AV.isOne:AV→Bool
 | .nil _| .emp _| .d _| .ref _| .ptr _ _| .ep _ _ _ _| .fn _ _ _| .mref _| .vw _ _ _=>true
 |_=>false
def AV.fit:AV→Bool
 | .agg _=>true
 |a=>a.isOne
def msOf (s:ASt):List AV→List (Nat × AObj)
 | []=> []
 | .ref l::r=>match look s.m l with|some o=>(l,o)::msOf s r|none=>msOf s r
 |_::r=>msOf s r
def over (cs:List AV) (o:Nat) (vs:List AV):List AV:=cs.take o++vs++cs.drop (o+vs.length)
def overD (cs:List D) (o:Nat) (vs:List D):List D:=cs.take o++vs++cs.drop (o+vs.length)
def fillAV (place:Nat→Option (Nat × Nat)) (cells:List AV):List (Nat × AV)→Option (List AV)
 | []=>some cells
 |(i,v)::rest=>
  match place i with
  |none=>none
  |some (off,size)=>
   if v.fit=true∧(avCells v).length=size∧off+size≤cells.length then fillAV place (over cells off (avCells v)) rest else none
def InR (n:Int):Prop:= -9223372036854775808≤n∧n≤9223372036854775807
def vcInt (op:BinOp) (a b:Int) (K:AV→Prop):Prop:=
 match op with
 | .add=>InR (a+b)∧K (.d (.sc (.int .i64 (a+b))))
 | .sub=>InR (a - b)∧K (.d (.sc (.int .i64 (a - b))))
 | .mul=>InR (a*b)∧K (.d (.sc (.int .i64 (a*b))))
 | .quo=>b≠0∧InR (a.tdiv b)∧K (.d (.sc (.int .i64 (a.tdiv b))))
 | .rem=>b≠0∧K (.d (.sc (.int .i64 (a.tmod b))))
 | .eql=>K (.d (.sc (.bool (decide (a=b)))))
 | .neq=>K (.d (.sc (.bool (!decide (a=b)))))
 | .lss=>K (.d (.sc (.bool (decide (a<b)))))
 | .leq=>K (.d (.sc (.bool (decide (a≤b)))))
 | .gtr=>K (.d (.sc (.bool (decide (b<a)))))
 | .geq=>K (.d (.sc (.bool (decide (b≤a)))))
 | .and=>b=65535∧K (.d (.sc (.int .i64 (a % 65536))))
 |_=>False
def InU (n:Int):Prop:=0≤n∧n<18446744073709551616
def vcU (op:BinOp) (a b:Int) (K:AV→Prop):Prop:=
 match op with
 | .or=>(InU a∧InU b)∧K (.d (.sc (.int .u64 ((a.toNat ||| b.toNat:Nat):Int))))
 | .and=>(InU a∧InU b)∧K (.d (.sc (.int .u64 ((a.toNat &&& b.toNat:Nat):Int))))
 | .andNot=>(InU a∧InU b)∧K (.d (.sc (.int .u64 (((BitVec.ofNat 64 a.toNat &&& ~~~BitVec.ofNat 64 b.toNat).toNat:Nat):Int))))
 | .eql=>K (.d (.sc (.bool (decide (a=b)))))
 | .neq=>K (.d (.sc (.bool (!decide (a=b)))))
 |_=>False
def vcSh (op:BinOp) (a b:Int) (K:AV→Prop):Prop:=
 match op with
 | .shl=>(InU a∧0≤b∧b<64)∧K (.d (.sc (.int .u64 ((a.toNat <<< b.toNat % 18446744073709551616:Nat):Int))))
 | .shr=>(InU a∧0≤b∧b<64)∧K (.d (.sc (.int .u64 ((a.toNat >>> b.toNat:Nat):Int))))
 |_=>False
def bL (ag:List (List Int × Int)) (k:List Int):Option Nat:=ag.findIdx? fun p=>decide (k=p.1)
def j0 (ag:List (List Int × Int)) (k:List Int):Int:=match bL ag k with|some i=>(ag[i]?.map (·.2)).getD 0|none=>0
def dD (ag:List (List Int × Int)) (k:List Int):List (List Int × Int):=match bL ag k with|some _=>ag|none=>ag++ [(k,0)]
def gh (ag:List (List Int × Int)) (k:List Int):Nat:=match bL ag k with|some i=>i|none=>ag.length
def lW (ag:List (List Int × Int)) (i:Nat) (v:Int):List (List Int × Int):=ag.modify i fun p=>(p.1,v)
def intsOf:List AV→Option (List Int)
 | []=>some []
 | .d (.sc (.int .i64 a))::r=>match intsOf r with|some q=>some (a::q)|none=>none
 |_=>none
def keyOf:Nat→AV→Option (List Int)
 |0, .d (.sc (.int .i64 a))=>some [a]
 |0,_=>none
 |_, .agg ks=>intsOf ks
 |_,_=>none
def qh (ag:List (List Int × Int)) (k:List Int) (v:Int):List (List Int × Int):=lW (dD ag k) (gh ag k) v
def mpOk (C:Cfg) (t:Nat):Option Nat:=
 match C.T t with
 |some ⟨.mp k _,_,_,_⟩=>match C.T k with
  |some ⟨.int .i64,_,_,_⟩=>some 0
  |some ⟨.st _,_,_,_⟩=>match C.p8 k with
   |some (n+1)=>some (n+1)
   |_=>none
  |_=>none
 |_=>none
def eqInts:List AV→List AV→Option Bool
 | [], []=>some true
 | .d (.sc (.int .i64 a))::r, .d (.sc (.int .i64 b))::q=>match eqInts r q with|some e=>some (decide (a=b)&&e)|none=>none
 |_,_=>none
def boOf:AV→Option Bool
 | .d (.sc (.bool p))=>some p
 |_=>none
def eqBI:List AV→List AV→Option Bool
 |x::xs,y::ys=>match boOf x,boOf y,eqInts xs ys with|some p,some q,some e=>some ((p==q)&&e)|_,_,_=>none
 |_,_=>none
def isSlT:Option TI→Prop
 |some ⟨.sl _,_,_,_⟩=>True
 |_=>False
def isBoT:Option TI→Prop
 |some ⟨.bool,_,_,_⟩=>True
 |_=>False
def isPtT:Option TI→Prop
 |some ⟨.pt _,_,_,_⟩=>True
 |_=>False
def vcEq (C:Cfg) (xt:Nat) (s:ASt) (neg:Bool) (x y:AV) (K:List (Nat × AObj)→AV→Prop):Prop:=
 match x,y with
 | .d (.sc (.bool a)), .d (.sc (.bool b))=>isBoT (C.T xt)∧K [] (.d (.sc (.bool (neg ^^ (a==b)))))
 | .agg xs, .agg ys=>match C.p8 xt with
   |some 0=>match eqBI xs ys with|some e=>xs.length=3∧K [] (.d (.sc (.bool (neg ^^ e))))|none=>False
   |some (n+1)=>match eqInts xs ys with|some e=>xs.length=n+1∧K [] (.d (.sc (.bool (neg ^^ e))))|none=>False
   |none=>False
 | .nil _, .nil _=>isSlT (C.T xt)∧K [] (.d (.sc (.bool (neg ^^ true))))
 | .d (.sl _ rows), .nil _=>(neg=false∧isSlT (C.T xt))∧K [] (.cV (rows= []))
 | .ref l, .nil _=>match look s.m l with
   |some (.tip e sz rows)=>(neg=false∧isSlT (C.T xt))∧K [(l, .tip e sz rows)] (.cV (rows= []))
   |some (.own e sz rows)=>(neg=false∧isSlT (C.T xt))∧K [(l, .own e sz rows)] (.cV (rows= []))
   |_=>False
 | .ptr _ _, .d (.sc (.pointer none))=>isPtT (C.T xt)∧K [] (.d (.sc (.bool (neg ^^ false))))
 | .d (.pt _), .d (.sc (.pointer none))=>isPtT (C.T xt)∧K [] (.d (.sc (.bool (neg ^^ false))))
 | .d (.sc (.pointer none)), .d (.sc (.pointer none))=>isPtT (C.T xt)∧K [] (.d (.sc (.bool (neg ^^ true))))
 |_,_=>False
end Go.Ab
end
section
namespace Go.Ab
structure Ctx where
 P:Program
 C:Cfg
 n:Nat
 m0:List (Nat × AObj)
 E0:Env
 w0:World
 bk:List (Nat × Obj)
 lo:Nat
def bQ:Obj→Bool
 | .deferred _=>true
 | .loop _=>true
 | .mapIter .. =>true
 |_=>false
structure Marks (lo:Nat) (bk:List (Nat × Obj)) (ds:List Deferred) (w:World):Prop where
 all:∀d∈ds,∃D,d= {target:= .collected D,args:= #[]} ∧lo≤D∧w.heap[D]? =some (.deferred (some []))
 nd:ds.Nodup
 bk:∀p∈bk,bQ p.2=true∧w.heap[p.1]? =some p.2
theorem Marks.nil {lo:Nat} {w:World} :Marks lo [] [] w:=⟨by simp,List.nodup_nil,by simp⟩
structure aG (X:Ctx) (E:Env) (s:ASt) (a:Act) (w:World):Prop where
 defers:Marks X.lo X.bk a.defers w
 size:a.tmps.size=X.n
 good:Good s.m E w
 dZ:yw X.m0 X.E0 X.w0 E w
 mine:∀l o b,aJ s.m l=some o→o.ro=false→E.ρ l=some b→X.w0.heap.size≤b∨tZ X.m0 X.E0 b
 slot:∀k,aQ w E (get s.t k) (a.tmps.getD k undef)
def Rel (X:Ctx) (s:ASt) (a:Act) (w:World):Prop:=∃E,aG X E s a w
def AU:Exit→Act→World→Prop:=fun _ _ _=>False
def aj (X:Ctx) (o:Oper) (la:LA):Prop:=la.dst=o.dst∧∀s a w,(∀d,o.dst=some d→d<X.n)→Sat la s→Rel X s a w→o.wp X.P a w (fun a' w'=>Rel X (la.app s) a' w') AU
structure Ctx.Ok (X:Ctx):Prop where
 C:X.C.Ok X.P
 low:∀l,aJ X.m0 l≠none→10000≤l
 lo:X.lo≤X.w0.heap.size
structure ACall (X:Ctx) (o:Oper) (f:AV) (as:List AV) (s:ASt) (K:LA→Prop):Prop where
 run:∃la,aj X o la∧Sat la s∧K la
theorem ACall.congr {X:Ctx} {o:Oper} {f f':AV} {as as':List AV} {s:ASt} {K:LA→Prop} (h1:f=f') (h2:as=as'):ACall X o f as s K=ACall X o f' as' s K:=by rw [h1,h2]
def vcLoad (ti:Option TI) (cells:List AV) (o:Nat) (K:AV→Prop):Prop:=
 match ti with
 |some ⟨.st _,sz,_,_⟩|some ⟨.ar _ _,sz,_,_⟩=>o+sz≤cells.length∧K (.agg ((cells.drop o).take sz))
 |some _=>match cells[o]? with|some v=>K v|none=>False
 |none=>False
def rowsOf (C:Cfg) (e:Nat) (s:ASt):AV→Option (List (List D))
 | .nil _=>some []
 | .emp _=>some []
 | .d (.sl sz rows)=>if sz=C.sz e then some rows else none
 | .ref l=>match look s.m l with
   |some (.tip e' sz rows)=>if e'=e∧sz=C.sz e then some rows else none
   |some (.own e' sz rows)=>if e'=e∧sz=C.sz e then some rows else none
   |some (.part e' sz rows)=>if e'=e∧sz=C.sz e then some rows else none
   |_=>none
 |_=>none
def partRows (C:Cfg) (e:Nat) (s:ASt):Nat→List (Nat × AV)→Option (List (List D))
 |_, []=>some []
 |k,(i,v)::r=>if i=k then match toDs C s (avCells v),partRows C e s (k+1) r with
    |some ds,some rs=>if ds.length=C.sz e then some (ds::rs) else none
    |_,_=>none
  else none
def allOne:List AV→Bool
 | []=>true
 |a::as=>a.isOne&&allOne as
def evA (C:Cfg) (s:ASt):List Operand→List Nat→List AV
 |x::xs,t::ts=>aev C t s x::evA C s xs ts
 |x::xs, []=>aev C 0 s x::evA C s xs []
 | [],_=> []
def evs (C:Cfg) (ty:Nat) (s:ASt) (xs:List Operand):List AV:=xs.map (aev C ty s)
def optHi (n:Nat):Option AV→Option Int
 |none=>some n
 |some (.d (.sc (.int _ k)))=>some k
 |_=>none
def optLo:Option AV→Option Int
 |none=>some 0
 |some (.d (.sc (.int _ k)))=>some k
 |_=>none
def vcSlice (lo hi:Option Int) (mx:Option (Option Int)) (len:Nat) (K:Nat→Nat→Prop):Prop:=
 match lo,hi,mx with
 |some l,some h,none=>(0≤l∧l≤h∧h≤len)∧K l.toNat h.toNat
 |some l,some h,some (some m)=>(0≤l∧l≤h∧h≤m∧m≤len)∧K l.toNat h.toNat
 |_,_,_=>False
def mxLo (lo:Option Int) (mx:Option (Option Int)):Bool:=match lo,mx with|some l,some (some m)=>decide (l=m)|_,_=>false
def mxOk (hi mx:Option Operand):Prop:=match hi,mx with|none,some _=>False|_,_=>True
def dlow (d:Nat):Prop:=d<10000
def vcBuiltin (C:Cfg) (s:ASt) (o:Oper) (b:Builtin) (args:List Operand) (tys:List Nat) (K:LA→Prop):Prop:=
 match b,args,tys with
 | .len, [x], [t]=>match C.T t with
   |some ⟨.sl e,_,_,_⟩=>match rowsOf C e s (aev C t s x) with
    |some rows=>K ⟨rsOf s [x],msOf s [aev C t s x], [], [],o.dst, .d (.sc (.int .i64 (rows.length:Int)))⟩
    |none=>match aev C t s x with
     | .ref l=>match look s.m l with
       |some (.nest e' e0 sz rows h)=>K ⟨rsOf s [x], [(l, .nest e' e0 sz rows h)], [], [],o.dst, .d (.sc (.int .i64 (rows.length:Int)))⟩
       |_=>False
     |_=>False
   |some ⟨.mp _ _,_,_,_⟩=>match aev C t s x with
    | .mref l=>match look s.m l with
      |some (.mp n ag)=>K ⟨rsOf s [x], [(l, .mp n ag)], [], [],o.dst, .d (.sc (.int .i64 (ag.length:Int)))⟩
      |_=>False
    |_=>False
   |_=>False
 | .cap, [x], [t]=>match C.T t,aev C t s x with
   |some ⟨.sl _,_,_,_⟩, .nil _=>K ⟨rsOf s [x], [], [], [],o.dst, .d (.sc (.int .i64 0))⟩
   |_,_=>False
 | .append, [x,y], [t,t']=>match t==t',o.dst,C.T t with
   |false,some d,some ⟨.sl e,_,_,_⟩=>match C.T t',aev C t s x,aev C 3 s y with
    |some ⟨.int .i64,_,_,_⟩, .nil _, .d (.sc (.int .i64 n))=>(dlow d∧0<C.sz e∧0<C.az e∧0<n∧n*C.az e≤140737488355328)∧
      K ⟨rsOf s [x,y], [], [(d,none)], [(d, .own e (C.sz e) (List.replicate n.toNat (C.zrow e)))],some d, .ref d⟩
    |_,_,_=>False
   |true,some d,some ⟨.sl e,_,_,_⟩=>(dlow d∧0<C.sz e∧0<C.az e)∧match rowsOf C e s (aev C t s y) with
    |none=>False
    |some ys=>match aev C t s x with
     | .nil _=>ys.length*C.az e≤140737488355328∧K ⟨rsOf s [x,y],msOf s [aev C t s y], [(d,none)], [(d,if d∈C.own then .own e (C.sz e) ys else .tip e (C.sz e) ys)],some d, .ref d⟩
     | .emp _=>ys.length*C.az e≤140737488355328∧K ⟨rsOf s [x,y],msOf s [aev C t s y], [(d,none)], [(d,if d∈C.own then .own e (C.sz e) ys else .tip e (C.sz e) ys)],some d, .ref d⟩
     | .ref l=>match nd l with
       |some (b,i)=>match look s.m b with
        |some (.nest e0 e' sz rows none)=>match rows[i]? with
         |some r=>(e'=e∧sz=C.sz e∧d≠b)∧(r.length+ys.length)*C.az e≤140737488355328∧
           K ⟨rsOf s [x,y],(b, .nest e0 e' sz rows none)::msOf s [aev C t s y], [(l,some (.sl sz r)),(d,none)], [(d, .tip e sz (r++ys)),(b, .nest e0 e' sz rows (some i))],some d, .ref d⟩
         |none=>False
        |_=>False
       |none=>match look s.m l with
       |some (.tip e' sz rows)=>(e'=e∧sz=C.sz e)∧(rows.length+ys.length)*C.az e≤140737488355328∧
         K ⟨rsOf s [x,y],(l, .tip e' sz rows)::msOf s [aev C t s y], [(l,some (.sl sz rows)),(d,none)], [(d, .tip e sz (rows++ys))],some d, .ref d⟩
       |some (.own e' sz rows)=>(e'=e∧sz=C.sz e)∧(rows.length+ys.length)*C.az e≤140737488355328∧
         K ⟨rsOf s [x,y],(l, .own e' sz rows)::msOf s [aev C t s y], [(l,none),(d,none)], [(d, .own e sz (rows++ys))],some d, .ref d⟩
       |_=>False
     |_=>False
   |_,_,_=>False
 | .min, [x,y],_=>match aev C 0 s x,aev C 0 s y with
   | .d (.sc (.int .i64 a)), .d (.sc (.int .i64 b))=>K ⟨rsOf s [x,y], [], [], [],o.dst, .d (.sc (.int .i64 (min a b)))⟩
   |_,_=>False
 | .max, [x,y],_=>match aev C 0 s x,aev C 0 s y with
   | .d (.sc (.int .i64 a)), .d (.sc (.int .i64 b))=>K ⟨rsOf s [x,y], [], [], [],o.dst, .d (.sc (.int .i64 (max a b)))⟩
   |_,_=>False
 |_,_,_=>False
def place (C:Cfg) (ti:TI) (i:Nat):Option (Nat × Nat):=
 match ti.k with
 | .st fs=>match fs[i]? with|some (off,t)=>some (off,C.sz t)|none=>none
 | .ar _ e=>some (i*C.sz e,C.sz e)
 |_=>none
def allF (C:Cfg):List (Nat × Nat)→Prop
 | []=>True
 |(_,t)::r=>(match C.T t with|some _=>True|none=>False)∧allF C r
def allT (C:Cfg):TK→Prop
 | .st fs=>allF C fs
 | .ar _ e=>match C.T e with|some _=>True|none=>False
 |_=>False
def evParts (C:Cfg) (ti:TI) (s:ASt):List (Nat × Operand)→List (Nat × AV)
 | []=> []
 |(i,x)::r=>(i,aev C (match ti.k with| .st fs=>(match fs[i]? with|some (_,t)=>t|none=>0)| .ar _ e=>e| .sl e=>e|_=>0) s x)::evParts C ti s r
def partOps:List (Nat × Operand)→List Operand
 | []=> []
 |(_,x)::r=>x::partOps r
def partAVs:List (Nat × AV)→List AV
 | []=> []
 |(_,x)::r=>avCells x++partAVs r
def vcOp (X:Ctx) (C:Cfg) (o:Oper) (s:ASt) (K:LA→Prop):Prop:=
 match o.op with
 | .move x=>K ⟨rsOf s [x], [], [], [],o.dst,aev C o.type s x⟩
 | .assign x=>K ⟨rsOf s [x], [], [], [],o.dst,aev C o.type s x⟩
 | .pick c a b=>match aev C 4 s c with
   | .d (.sc (.bool t))=>(t=true→K ⟨rsOf s [c,a], [], [], [],o.dst,aev C o.type s a⟩)∧(t=false→K ⟨rsOf s [c,b], [], [], [],o.dst,aev C o.type s b⟩)
   |_=>False
 | .binOp op xt x y _=>match aev C xt s x,aev C xt s y with
   | .d (.sc (.int .i64 a)), .d (.sc (.int .i64 b))=>vcInt op a b fun v=>K ⟨rsOf s [x,y], [], [], [],o.dst,v⟩
   | .d (.sc (.int .u64 a)), .d (.sc (.int .u64 b))=>vcU op a b fun v=>K ⟨rsOf s [x,y], [], [], [],o.dst,v⟩
   | .d (.sc (.int .u64 a)), .d (.sc (.int .i64 b))=>vcSh op a b fun v=>K ⟨rsOf s [x,y], [], [], [],o.dst,v⟩
   |ax,ay=>match op with
    | .eql=>vcEq C xt s false ax ay fun ms v=>K ⟨rsOf s [x,y],ms, [], [],o.dst,v⟩
    | .neq=>vcEq C xt s true ax ay fun ms v=>K ⟨rsOf s [x,y],ms, [], [],o.dst,v⟩
    |_=>False
 | .unOp op xt x=>match op,aev C xt s x with
   | .not, .d (.sc (.bool b))=>K ⟨rsOf s [x], [], [], [],o.dst, .d (.sc (.bool (!b)))⟩
   | .neg, .d (.sc (.int .i64 a))=>InR (-a)∧K ⟨rsOf s [x], [], [], [],o.dst, .d (.sc (.int .i64 (-a)))⟩
   |_,_=>False
 | .alloc e=>match o.dst,C.T e with
   |some d,some ti=>dlow d∧K ⟨[], [], [(d,none)], [(d, .box ti.zc)],some d, .ptr d 0⟩
   |_,_=>False
 | .box e x=>match o.dst with
   |some d=>dlow d∧(allOne (avCells (aev C e s x))=true∧¬d∈AV.idss (avCells (aev C e s x)))∧
     K ⟨rsOf s [x], [], [(d,none)], [(d, .box (avCells (aev C e s x)))],some d, .ptr d 0⟩
   |none=>False
 | .build t parts=>match C.T t with
   |some ti=>allT C ti.k∧match fillAV (place C ti) ti.zc (evParts C ti s parts.toList) with
    |some cells=>K ⟨rsOf s (partOps parts.toList), [], [], [],o.dst, .agg cells⟩
    |none=>False
   |none=>False
 | .buildSlice t n parts=>match o.dst,C.T t with
   |some d,some ⟨.sl e,sz,az,zc⟩=>dlow d∧match partRows C e s 0 (evParts C ⟨.sl e,sz,az,zc⟩ s parts.toList) with
    |some rows=>(rows.length=n∧n≤1024∧C.sz e≤64∧0<C.sz e)∧K ⟨rsOf s (partOps parts.toList),msOf s (partAVs (evParts C ⟨.sl e,sz,az,zc⟩ s parts.toList)), [(d,none)], [(d,if d∈C.own then .own e (C.sz e) rows else .tip e (C.sz e) rows)],some d, .ref d⟩
    |none=>False
   |_,_=>False
 | .load t x=>match aev C 0 s x with
   | .ptr l q=>match look s.m l with
     |some (.box cells)=>vcLoad (C.T t) cells q fun v=>K ⟨rsOf s [x], [(l, .box cells)], [], [],o.dst,v⟩
     |some (.rob cells)=>vcLoad (C.T t) cells q fun v=>K ⟨rsOf s [x], [(l, .rob cells)], [], [],o.dst,v⟩
     |_=>False
   | .d (.pt cells)=>vcLoad (C.T t) (cells.map .d) 0 fun v=>K ⟨rsOf s [x], [], [], [],o.dst,v⟩
   | .ep l sz i q=>match look s.m l with
     |some (.own e sz' rows)=>(sz=sz'∧i<rows.length)∧vcLoad (C.T t) ((rows.getD i (C.zrow e)).map .d) q fun v=>K ⟨rsOf s [x], [(l, .own e sz' rows)], [], [],o.dst,v⟩
     |some (.part e sz' rows)=>(sz=sz'∧i<rows.length)∧vcLoad (C.T t) ((rows.getD i (C.zrow e)).map .d) q fun v=>K ⟨rsOf s [x], [(l, .part e sz' rows)], [], [],o.dst,v⟩
     |some (.nest e' e sz' rows h)=>(sz=1∧q=0∧i<rows.length∧h≠some i∧isSlT (C.T t))∧K ⟨rsOf s [x], [(l, .nest e' e sz' rows h)], [], [],o.dst, .ref (nn l i)⟩
     |some (.orh e rows h (some g))=>(sz=1∧q=0∧i=h∧isSlT (C.T t))∧K ⟨rsOf s [x], [(l, .orh e rows h (some g))], [], [],o.dst, .ref g⟩
     |_=>False
   |_=>False
 | .store t x y=>match aev C 0 s x with
   | .ptr l q=>match look s.m l with
     |some (.box cells)=>(allOne (avCells (aev C t s y))=true∧(avCells (aev C t s y)).length=C.sz t∧q+C.sz t≤cells.length∧0<C.sz t)∧
       K ⟨rsOf s [x,y], [(l, .box cells)], [], [(l, .box (over cells q (avCells (aev C t s y))))],o.dst, .cK⟩
     |_=>False
   | .ep l sz i q=>match look s.m l,toDs C s (avCells (aev C t s y)) with
     |some (.own e sz' rows),some ds=>(sz=sz'∧i<rows.length∧q+ds.length≤sz∧ds.length=C.sz t∧0<C.sz t)∧
       K ⟨rsOf s [x,y],(l, .own e sz' rows)::msOf s (avCells (aev C t s y)), [], [(l, .own e sz' (rows.set i (overD (rows.getD i (C.zrow e)) q ds)))],o.dst, .cK⟩
     |some (.part e sz' rows),some ds=>(sz=sz'∧i<rows.length∧q+ds.length≤sz∧ds.length=C.sz t∧0<C.sz t)∧
       K ⟨rsOf s [x,y],(l, .part e sz' rows)::msOf s (avCells (aev C t s y)), [], [(l, .part e sz' (rows.set i (overD (rows.getD i (C.zrow e)) q ds)))],o.dst, .cK⟩
     |some (.nest e' e sz' rows h),_=>match aev C t s y with
      | .ref g=>match look s.m g with
        |some (.tip e1 ua r)=>(sz=1∧q=0∧h=some i∧i<rows.length∧e1=e∧ua=sz'∧isSlT (C.T t)∧C.sz t=1∧g≠l∧dlow l)∧
          K ⟨rsOf s [x,y], [(l, .nest e' e sz' rows h),(g, .tip e1 ua r)], [(g,some (.sl ua r)),(nn l i,none)], [(l, .nest e' e sz' (rows.set i r) none)],o.dst, .cK⟩
        |_=>False
      |_=>False
     |some (.orh e rows h g0),_=>match aev C t s y with
      | .ref g=>match look s.m g with
        |some (.tip e1 ua r)=>(sz=1∧q=0∧h=i∧C.sz t=1)∧
          K ⟨rsOf s [x,y], [(l, .orh e rows h g0),(g, .tip e1 ua r)], [], [(l, .orh e rows h (some g))],o.dst, .cK⟩
        |_=>False
      |_=>False
     |_,_=>False
   |_=>False
 | .fieldAddr st x f=>match C.T st with
   |some ⟨.st fs,_,_,_⟩=>match fs[f]? with
    |some (off,ft)=>C.sz ft≠0∧match aev C 0 s x with
     | .ptr l q=>K ⟨rsOf s [x], [], [], [],o.dst, .ptr l (q+off)⟩
     | .d (.pt cells)=>off≤cells.length∧K ⟨rsOf s [x], [], [], [],o.dst, .d (.pt (cells.drop off))⟩
     | .ep l sz i q=>K ⟨rsOf s [x], [], [], [],o.dst, .ep l sz i (q+off)⟩
     |_=>False
    |none=>False
   |_=>False
 | .indexAddr t x i=>match aev C 3 s i,C.T t with
   | .d (.sc (.int _ n)),some ⟨.sl e,_,_,_⟩=>match aev C t s x with
     | .d (.sl sz rows)=>(sz=C.sz e∧0≤n∧n<rows.length∧0<sz)∧K ⟨rsOf s [x,i], [], [], [],o.dst, .d (.pt (rows.getD n.toNat (C.zrow e)))⟩
     | .ref l=>match look s.m l with
       |some (.tip e' sz rows)=>(e'=e∧sz=C.sz e∧0≤n∧n<rows.length)∧K ⟨rsOf s [x,i], [(l, .tip e' sz rows)], [], [],o.dst, .d (.pt (rows.getD n.toNat (C.zrow e)))⟩
       |some (.own e' sz rows)=>(e'=e∧sz=C.sz e∧0≤n∧n<rows.length)∧K ⟨rsOf s [x,i], [(l, .own e' sz rows)], [], [],o.dst, .ep l sz n.toNat 0⟩
       |some (.part e' sz rows)=>(e'=e∧sz=C.sz e∧0≤n∧n<rows.length)∧K ⟨rsOf s [x,i], [(l, .part e' sz rows)], [], [],o.dst, .ep l sz n.toNat 0⟩
       |some (.nest e' e0 sz rows h)=>(e'=e∧C.sz e=1∧0≤n∧n<rows.length)∧K ⟨rsOf s [x,i], [(l, .nest e' e0 sz rows h)], [], [],o.dst, .ep l 1 n.toNat 0⟩
       |some (.orh e' rows h g)=>(e'=e∧C.sz e=1∧0≤n∧n<rows.length)∧K ⟨rsOf s [x,i], [(l, .orh e' rows h g)], [], [],o.dst, .ep l 1 n.toNat 0⟩
       |_=>False
     |_=>False
   |_,_=>False
 | .field st x f=>match C.T st,aev C st s x with
   |some ⟨.st fs,_,_,_⟩, .agg cs=>match fs[f]? with
    |some (off,ft)=>vcLoad (C.T ft) cs off fun v=>K ⟨rsOf s [x], [], [], [],o.dst,v⟩
    |none=>False
   |_,_=>False
 | .index t x i=>match C.T t,aev C t s x,aev C 3 s i with
   |some ⟨.ar n e,_,_,_⟩, .agg cs, .d (.sc (.int _ k))=>(0≤k∧k<n)∧vcLoad (C.T e) cs (k.toNat*C.sz e) fun v=>K ⟨rsOf s [x,i], [], [], [],o.dst,v⟩
   |_,_,_=>False
 | .nilCheck x=>match aev C 0 s x with
   | .ptr l q=>K ⟨rsOf s [x], [], [], [],o.dst, .ptr l q⟩
   | .d (.pt cells)=>K ⟨rsOf s [x], [], [], [],o.dst, .d (.pt cells)⟩
   | .ep l sz i q=>K ⟨rsOf s [x], [], [], [],o.dst, .ep l sz i q⟩
   |_=>False
 | .makeFunc (.func f) first captured=>K ⟨rsOf s (first.toList++captured.toList), [], [], [],o.dst, .fn f (evs C 0 s first.toList) (evs C 0 s captured.toList)⟩
 | .makeSlice t x y=>match o.dst,C.T t,aev C 3 s x,aev C 3 s y with
   |some d,some ⟨.sl e,_,_,_⟩, .d (.sc (.int .i64 n)), .d (.sc (.int .i64 k))=>dlow d∧(n=k∧0≤n∧n≤9223372036854775807∧C.az e*n≤140737488355328∧0<C.sz e)∧
     (if d∈C.nW then match C.T e with
         |some ⟨.sl e0,_,_, [.nil _]⟩=>(C.sz e=1∧0<C.sz e0)∧K ⟨rsOf s [x,y], [], [(d,none)], [(d, .nils e e0 (C.sz e0) n.toNat)],some d, .ref d⟩
         |_=>False
       else K ⟨rsOf s [x,y], [], [(d,none)], [(d, .own e (C.sz e) (List.replicate n.toNat (C.zrow e)))],some d, .ref d⟩)
   |_,_,_,_=>False
 | .slice t x lo hi mx=>match C.T t with
   |some ⟨.sl e,_,_,_⟩=>match aev C t s x with
    | .nil e0=>(0<C.sz e∧mx=none)∧vcSlice (optLo (lo.map (aev C 3 s))) (optHi 0 (hi.map (aev C 3 s))) none 0 fun _ _=>K ⟨rsOf s (x::(lo.toList++hi.toList++mx.toList)), [], [], [],o.dst, .nil e0⟩
    | .ref l=>match look s.m l with
      |some (.tip e' sz rows)=>(e'=e∧sz=C.sz e∧0<sz∧mxOk hi mx)∧vcSlice (optLo (lo.map (aev C 3 s))) (optHi rows.length (hi.map (aev C 3 s))) (mx.map fun m=>optHi rows.length (some (aev C 3 s m))) rows.length fun a b=>
        K ⟨rsOf s (x::(lo.toList++hi.toList++mx.toList)), [(l, .tip e' sz rows)], [], [],o.dst,if mxLo (optLo (lo.map (aev C 3 s))) (mx.map fun m=>optHi rows.length (some (aev C 3 s m)))=true then .emp e else .d (.sl sz ((rows.take b).drop a))⟩
      |some (.own e' sz rows)=>match o.dst with
       |some d=>if d∈C.nW then (e'=e∧sz=C.sz e∧0<sz∧mx=none)∧vcSlice (optLo (lo.map (aev C 3 s))) (optHi rows.length (hi.map (aev C 3 s))) none rows.length fun a b=>(a<rows.length∧b=rows.length)∧
        K ⟨rsOf s (x::(lo.toList++hi.toList++mx.toList)), [(l, .own e' sz rows)], [], [],o.dst, .vw l sz a⟩
        else (e'=e∧sz=C.sz e∧0<sz∧mx=none∧dlow d)∧vcSlice (optLo (lo.map (aev C 3 s))) (optHi rows.length (hi.map (aev C 3 s))) none rows.length fun a b=>
        K ⟨rsOf s (x::(lo.toList++hi.toList++mx.toList)), [(l, .own e' sz rows)], [(l,none),(d,none)], [(d,match lo with|none=> .own e' sz (rows.take b)|some _=> .part e' sz ((rows.take b).drop a))],some d, .ref d⟩
       |none=>False
      |some (.part e' sz rows)=>match o.dst with
       |some d=>(e'=e∧sz=C.sz e∧0<sz∧mx=none∧dlow d)∧vcSlice (optLo (lo.map (aev C 3 s))) (optHi rows.length (hi.map (aev C 3 s))) none rows.length fun a b=>
        K ⟨rsOf s (x::(lo.toList++hi.toList++mx.toList)), [(l, .part e' sz rows)], [(l,none),(d,none)], [(d, .part e' sz ((rows.take b).drop a))],some d, .ref d⟩
       |none=>False
      |_=>False
    | .d (.sl sz rows)=>(sz=C.sz e∧0<sz∧mxOk hi mx)∧vcSlice (optLo (lo.map (aev C 3 s))) (optHi rows.length (hi.map (aev C 3 s))) (mx.map fun m=>optHi rows.length (some (aev C 3 s m))) rows.length fun a b=>
          K ⟨rsOf s (x::(lo.toList++hi.toList++mx.toList)), [], [], [],o.dst,if mxLo (optLo (lo.map (aev C 3 s))) (mx.map fun m=>optHi rows.length (some (aev C 3 s m)))=true then .emp e else .d (.sl sz ((rows.take b).drop a))⟩
    |_=>False
   |_=>False
 | .makeMap t none=>match o.dst,mpOk C t with
   |some d,some n=>dlow d∧K ⟨[], [], [(d,none)], [(d, .mp n [])],some d, .mref d⟩
   |_,_=>False
 | .lookup t x i false=>match mpOk C t,aev C 0 s x with
   |some n', .mref l=>match look s.m l,keyOf n' (aev C 0 s i) with
    |some (.mp n ag),some key=>(n=n'∧key.length=kW n)∧K ⟨rsOf s [x,i], [(l, .mp n ag)], [], [],o.dst, .d (.sc (.int .i64 (j0 ag key)))⟩
    |_,_=>False
   |_,_=>False
 | .lookup t x i true=>match mpOk C t,aev C 0 s x with
   |some n', .mref l=>match look s.m l,keyOf n' (aev C 0 s i) with
    |some (.mp n ag),some key=>(n=n'∧key.length=kW n)∧K ⟨rsOf s [x,i], [(l, .mp n ag)], [], [],o.dst, .tup [.d (.sc (.int .i64 (j0 ag key))), .d (.sc (.bool (bL ag key).isSome))]⟩
    |_,_=>False
   |_,_=>False
 | .mapUpdate t x i y=>match mpOk C t,aev C 0 s x,aev C 0 s y with
   |some n', .mref l, .d (.sc (.int .i64 v))=>match look s.m l,keyOf n' (aev C 0 s i) with
    |some (.mp n ag),some key=>(n=n'∧key.length=kW n)∧K ⟨rsOf s [x,i,y], [(l, .mp n ag)], [], [(l, .mp n (qh ag key v))],o.dst, .cK⟩
    |_,_=>False
   |_,_,_=>False
 | .mapEntry t x i=>match mpOk C t,aev C 0 s x with
   |some n', .mref l=>match look s.m l,keyOf n' (aev C 0 s i) with
    |some (.mp n ag),some key=>(n=n'∧key.length=kW n)∧
      K ⟨rsOf s [x,i], [(l, .mp n ag)], [], [(l, .mp n (dD ag key))],o.dst, .tup [.d (.sc (.int .i64 (j0 ag key))), .d (.sc (.int .i64 (gh ag key:Nat)))]⟩
    |_,_=>False
   |_,_=>False
 | .entryStore _ x st y=>match aev C 0 s x,aev C 0 s st,aev C 0 s y with
   | .mref l, .d (.sc (.int .i64 i)), .d (.sc (.int .i64 v))=>match look s.m l with
     |some (.mp n ag)=>(0≤i∧i<ag.length)∧K ⟨rsOf s [x,st,y], [(l, .mp n ag)], [], [(l, .mp n (lW ag i.toNat v))],o.dst, .cK⟩
     |_=>False
   |_,_,_=>False
 | .extract x i=>match aev C 0 s x with
   | .tup vs=>match vs[i]? with
     |some v=>K ⟨rsOf s [x], [], [], [],o.dst,v⟩
     |none=>False
   |_=>False
 | .convert t' t x=>match C.T t',C.T t,aev C t s x with
   |some _,some ⟨.int .i64,_,_,_⟩, .d (.sc (.int .i64 n))=>InR n∧K ⟨rsOf s [x], [], [], [],o.dst, .d (.sc (.int .i64 n))⟩
   |_,_,_=>False
 | .call c=>match c.callee with
   | .builtin b=>vcBuiltin C s o b c.args.toList c.argTypes.toList K
   | .value f=>ACall X o (aev C 0 s f) (evA C s c.args.toList c.argTypes.toList) s K
   |_=>False
 |_=>False
end Go.Ab
end
section
namespace Go.Ab
mutual
theorem AV.fk:∀a:AV,a.sub []=a
 | .cK=>rfl
 | .nil _=>rfl
 | .emp _=>rfl
 | .d _=>rfl
 | .cV _=>rfl
 | .mref _=>rfl
 | .ref _=>rfl
 | .ptr _ _=>rfl
 | .ep _ _ _ _=>rfl
 | .vw _ _ _=>rfl
 | .agg vs=>by simp [AV.sub,AV.eM vs]
 | .tup vs=>by simp [AV.sub,AV.eM vs]
 | .fn f us vs=>by simp [AV.sub,AV.eM us,AV.eM vs]
theorem AV.eM:∀as:List AV,AV.subs [] as=as
 | []=>rfl
 |a::as=>by simp [AV.subs,AV.fk a,AV.eM as]
end
theorem AObj.fk (o:AObj):o.sub []=o:=by
 cases o<;>first|(simp [AObj.sub,AV.eM];done)|(rename_i e rows i g;cases g<;>simp [AObj.sub,kl])
theorem AObj.yY (k:List (Nat × Option D)) (o:AObj):(o.sub k).ro=o.ro:=by
 cases o<;>first|rfl|(rename_i e rows i g;cases g<;>first|rfl|(simp only [AObj.sub];split<;>rfl))
theorem nZ (k:List (Nat × Option D)):∀(t:List (Nat × AV)) (i:Nat),get (subT k t) i=(get t i).sub k
 | [],i=>rfl
 |(j,a)::r,i=>by
  simp only [subT,get]
  split
  ·rfl
  ·exact nZ k r i
theorem n4 (k:List (Nat × Option D)):∀(m:List (Nat × AObj)) (l:Nat),look (rmk k m) l=if kl k l=none then (look m l).map (AObj.sub k) else none
 | [],l=>by simp [rmk,look]
 |(j,o)::r,l=>by
  simp only [rmk]
  have ih:=n4 k r l
  split
  ·rename_i hj
   simp only [look]
   by_cases hjl:j=l
   ·subst hjl;simp [hj]
   ·simp only [hjl,if_false];exact ih
  ·rename_i x hj
   simp only [look]
   by_cases hjl:j=l
   ·subst hjl;simp [hj] at ih ⊢;exact ih
   ·simp only [hjl,if_false];exact ih
theorem kE (i:Nat):∀(m:List (Nat × AObj)) (l:Nat),look (rml i m) l=if i=l then none else look m l
 | [],l=>by simp [rml,look]
 |(j,o)::r,l=>by
  have ih:=kE i r l
  simp only [rml]
  by_cases hji:j=i
  ·subst hji
   simp only [if_true,look]
   by_cases hjl:j=l
   ·subst hjl;simpa using ih
   ·simp [ih,hjl]
  ·simp only [hji,if_false,look]
   by_cases hjl:j=l
   ·subst hjl;simp [Ne.symm hji]
   ·simp only [hjl,if_false,ih]
theorem bF:∀(u m:List (Nat × AObj)) (l:Nat),look (putM u m) l=match look u l with|some o=>some o|none=>look m l
 | [],m,l=>rfl
 |(i,o)::r,m,l=>by
  have ih:=bF r m l
  simp only [putM,look]
  by_cases hil:i=l
  ·simp [hil]
  ·simp only [hil,if_false,kE,ih]
theorem bY (s:ASt) (k:List (Nat × Option D)) (i:Nat):get (s.kill k).t i=(get s.t i).sub k:=by
 unfold ASt.kill
 split
 ·rw [AV.fk]
 ·exact nZ k _ _
theorem b8 (s:ASt) (k:List (Nat × Option D)) (l:Nat):look (s.kill k).m l=if kl k l=none then (look s.m l).map (AObj.sub k) else none:=by
 unfold ASt.kill
 split
 ·simp only [kl,if_true];cases look s.m l<;>simp [AObj.fk]
 ·exact n4 k _ _
theorem aF.lt {w:World} {E:Env} {l:Nat} {o:AObj} (h:aF w E l o) {b:Nat} (hb:E.ρ l=some b):b<w.heap.size:=by
 have key:∀ {x:Obj},w.heap[b]? =some x→b<w.heap.size:=fun hx=>(Array.getElem?_eq_some_iff.1 hx).1
 cases o with
 |box cells=>obtain ⟨b',vs,e,h1,h2,_⟩:=h;rw [hb] at h1;cases h1;exact key h2
 |rob cells=>obtain ⟨b',vs,e,h1,h2,_⟩:=h;rw [hb] at h1;cases h1;exact key h2
 |own e sz rows=>
  obtain ⟨_,_,⟨h1,_⟩|⟨b',cur,cap,h1,h2,_⟩⟩:=h
  ·rw [hb] at h1;cases h1
  ·rw [hb] at h1;cases h1;exact key h2
 |tip e sz rows=>
  obtain ⟨_,_,⟨h1,_⟩|⟨b',cur,cap,h1,h2,_⟩⟩:=h
  ·rw [hb] at h1;cases h1
  ·rw [hb] at h1;cases h1;exact key h2
 |mp n ag=>obtain ⟨b',es,h1,h2,_⟩:=h;rw [hb] at h1;cases h1;exact key h2
 |part e sz rows=>
  obtain ⟨_,_,⟨h1,_⟩|⟨b',off,cur,cap,h1,h2,_⟩⟩:=h
  ·rw [hb] at h1;cases h1
  ·rw [hb] at h1;cases h1;exact key h2
 |nest e' e sz rows hole=>obtain ⟨b',cur,cap,h1,h2,_⟩:=h;rw [hb] at h1;cases h1;exact key h2
 |nils e' e sz n=>obtain ⟨b',cur,cap,h1,h2,_⟩:=h;rw [hb] at h1;cases h1;exact key h2
 |orh e rows i g=>obtain ⟨_,_,b',cur,cap,h1,h2,_⟩:=h;rw [hb] at h1;cases h1;exact key h2
section
variable {w:World} {E:Env} {w':World} {E':Env} {k:List (Nat × Option D)}
 (hst:ak w E.z w' E'.z) (hkeep:∀l,kl k l=none→E'.ρ l=E.ρ l∧E'.σ l=E.σ l)
 (bp:∀l x,kl k l=some (some x)→dx (E.σ l)→Rd w' E'.z (E.σ l) x)
mutual
theorem aQ.sub (hst:ak w E.z w' E'.z) (hkeep:∀l,kl k l=none→E'.ρ l=E.ρ l∧E'.σ l=E.σ l)
 (bp:∀l x,kl k l=some (some x)→dx (E.σ l)→Rd w' E'.z (E.σ l) x):∀ {a:AV} {v:Value},aQ w E a v→aQ w' E' (a.sub k) v
 | .cK,_,_=>trivial
 | .nil _,_,h=>h
 | .emp _,_,h=>h
 | .d x,_,h=>Rd.mono hst h
 | .cV _,_,h=>h
 | .mref l,v,h=>by
   simp only [aQ] at h
   simp only [AV.sub]
   cases hq:kl k l with
   |none=>simp only [aQ];rw [(hkeep l hq).1];exact h
   |some y=>trivial
 | .ref l,v,h=>by
   simp only [aQ] at h
   simp only [AV.sub]
   cases hq:kl k l with
   |none=>simp only [aQ];rw [(hkeep l hq).2];exact h
   |some y=>
    cases y with
    |none=>trivial
    |some x=>simp only [aQ];rw [h.1];exact bp l x hq (h.1 ▸ h.2)
 | .ptr l o,v,h=>by
   simp only [aQ] at h
   simp only [AV.sub]
   cases hq:kl k l with
   |none=>simp only [aQ];rw [(hkeep l hq).1];exact h
   |some y=>trivial
 | .ep l sz i o,v,h=>by
   simp only [aQ] at h
   simp only [AV.sub]
   cases hq:kl k l with
   |none=>simp only [aQ];rw [(hkeep l hq).2];exact h
   |some y=>trivial
 | .vw l sz a,v,h=>by
   simp only [aQ] at h
   simp only [AV.sub]
   cases hq:kl k l with
   |none=>simp only [aQ];rw [(hkeep l hq).2];exact h
   |some y=>trivial
 | .agg vs,_,h=>by obtain ⟨us,rfl,h⟩:=h;exact ⟨us,rfl,AVrs.sub hst hkeep bp h⟩
 | .tup vs,_,h=>by obtain ⟨us,rfl,h⟩:=h;exact ⟨us,rfl,AVrs.sub hst hkeep bp h⟩
 | .fn f as bs,_,h=>by obtain ⟨us,vs,rfl,h,k⟩:=h;exact ⟨us,vs,rfl,AVrs.sub hst hkeep bp h,AVrs.sub hst hkeep bp k⟩
theorem AVrs.sub (hst:ak w E.z w' E'.z) (hkeep:∀l,kl k l=none→E'.ρ l=E.ρ l∧E'.σ l=E.σ l)
 (bp:∀l x,kl k l=some (some x)→dx (E.σ l)→Rd w' E'.z (E.σ l) x):∀ {as:List AV} {us:List Value},AVrs w E as us→AVrs w' E' (AV.subs k as) us
 | [],_,h=>h
 |a::as,_,h=>by
  obtain ⟨u,us',rfl,h1,h2⟩:=h
  exact ⟨u,us',rfl,aQ.sub hst hkeep bp h1,AVrs.sub hst hkeep bp h2⟩
end
theorem aF.keep (hst:ak w E.z w' E'.z) (hkeep:∀l,kl k l=none→E'.ρ l=E.ρ l∧E'.σ l=E.σ l)
 (bp:∀l x,kl k l=some (some x)→dx (E.σ l)→Rd w' E'.z (E.σ l) x) {l:Nat} {o:AObj} (hl:kl k l=none) (hn:o.isNest=true→∀i,kl k (nn l i)=none)
 (hb:∀b,E.ρ l=some b→w'.heap[b]? =w.heap[b]? ∧E'.z b=E.z b) (h:aF w E l o):aF w' E' l (o.sub k):=by
 obtain ⟨hr,hs⟩:=hkeep l hl
 cases o with
 |box cells=>
  obtain ⟨b,vs,e,h1,h2,h3,h4,h5⟩:=h
  exact ⟨b,vs,e,by rw [hr];exact h1,by rw [(hb b h1).1];exact h2,by rw [(hb b h1).2];exact h3,AVrs.sub hst hkeep bp h4,h5⟩
 |rob cells=>
  obtain ⟨b,vs,e,h1,h2,h3,h4,h5⟩:=h
  exact ⟨b,vs,e,by rw [hr];exact h1,by rw [(hb b h1).1];exact h2,by rw [(hb b h1).2];exact h3,AVrs.sub hst hkeep bp h4,h5⟩
 |own e sz rows=>
  obtain ⟨g1,g2,g3⟩:=h
  refine ⟨g1,g2, ?_⟩
  rcases g3 with ⟨h1,h2,h3⟩|⟨b,cur,cap,h1,h2,h3,h4,h5,h6,h7,h8⟩
  ·exact .inl ⟨by rw [hr];exact h1,h2,by rw [hs];exact h3⟩
  ·refine .inr ⟨b,cur,cap,by rw [hr];exact h1,by rw [(hb b h1).1];exact h2,by rw [hs];exact h3,h4,h5,h6,by rw [(hb b h1).2];exact h7,fun i j r x hi hj=> ?_⟩
   obtain ⟨v,hv,hx⟩:=h8 i j r x hi hj
   exact ⟨v,hv,Rd.mono hst hx⟩
 |tip e sz rows=>
  obtain ⟨g1,g2,g3⟩:=h
  refine ⟨g1,g2, ?_⟩
  rcases g3 with ⟨h1,h2,h3⟩|⟨b,cur,cap,h1,h2,h3,h4,h5,h6,h7,h8⟩
  ·exact .inl ⟨by rw [hr];exact h1,h2,by rw [hs];exact h3⟩
  ·refine .inr ⟨b,cur,cap,by rw [hr];exact h1,by rw [(hb b h1).1];exact h2,by rw [hs];exact h3,h4,h5,h6,by rw [(hb b h1).2];exact h7,fun i j r x hi hj=> ?_⟩
   obtain ⟨v,hv,hx⟩:=h8 i j r x hi hj
   exact ⟨v,hv,Rd.mono hst hx⟩
 |mp n ag=>
  obtain ⟨b,es,h1,h2,h3,h4⟩:=h
  exact ⟨b,es,by rw [hr];exact h1,by rw [(hb b h1).1];exact h2,by rw [(hb b h1).2];exact h3,h4⟩
 |part e sz rows=>
  obtain ⟨g1,g2,g3⟩:=h
  refine ⟨g1,g2, ?_⟩
  rcases g3 with ⟨h1,h2,h3⟩|⟨b,off,cur,cap,h1,h2,h3,h4,h5,h6,h7,h8⟩
  ·exact .inl ⟨by rw [hr];exact h1,h2,by rw [hs];exact h3⟩
  ·refine .inr ⟨b,off,cur,cap,by rw [hr];exact h1,by rw [(hb b h1).1];exact h2,by rw [hs];exact h3,h4,h5,h6,by rw [(hb b h1).2];exact h7,fun i j r x hi hj=> ?_⟩
   obtain ⟨v,hv,hx⟩:=h8 i j r x hi hj
   exact ⟨v,hv,Rd.mono hst hx⟩
 |nils e' e sz n=>
  obtain ⟨b,cur,cap,h1,h2,h3,h4,h5,h6,h7,h8⟩:=h
  exact ⟨b,cur,cap,by rw [hr];exact h1,by rw [(hb b h1).1];exact h2,by rw [hs];exact h3,h4,h5,h6,by rw [(hb b h1).2];exact h7,h8⟩
 |nest e' e sz rows hole=>
  obtain ⟨b,cur,cap,h1,h2,h3,h4,h5,h6,h7,h8⟩:=h
  refine ⟨b,cur,cap,by rw [hr];exact h1,by rw [(hb b h1).1];exact h2,by rw [hs];exact h3,h4,h5,h6,by rw [(hb b h1).2];exact h7,fun i hi hh=> ?_⟩
  rw [(hkeep _ (hn rfl i)).2];exact h8 i hi hh
 |orh e rows i g=>
  obtain ⟨g1,g2,b,cur,cap,h1,h2,h3,h4,h5,h6,h7,h8,h9⟩:=h
  have base:∀gg,(∀g',gg=some g'→cur[i]? =some (E'.σ g')∧dx (E'.σ g'))→aF w' E' l (.orh e rows i gg):=fun gg hg=>
   ⟨g1,g2,b,cur,cap,by rw [hr];exact h1,by rw [(hb b h1).1];exact h2,by rw [hs];exact h3,h4,h5,h6,by rw [(hb b h1).2];exact h7,fun p j r x hp hi hj=>by
     obtain ⟨v,hv,hx⟩:=h8 p j r x hp hi hj
     exact ⟨v,hv,Rd.mono hst hx⟩,hg⟩
  cases g with
  |none=>exact base none (fun g' e=>by cases e)
  |some g=>
   obtain ⟨c1,c2⟩:=h9 g rfl
   simp only [AObj.sub]
   split
   ·rename_i hq
    refine base _ (fun g' e=> ?_)
    cases e
    rw [(hkeep g hq).2];exact ⟨c1,c2⟩
   ·exact base none (fun g' e=>by cases e)
   ·rename_i x hq
    have hx:=bp g x hq c2
    refine ⟨fun r hr=> ?_,by omega, .inr ⟨b,cur,cap,by rw [hr];exact h1,by rw [(hb b h1).1];exact h2,by rw [hs,List.length_set];exact h3,by rw [List.length_set];exact h4,h5,h6,by rw [(hb b h1).2];exact h7,fun p j r x' hp hj=> ?_⟩⟩
    ·rcases List.mem_or_eq_of_mem_set hr with h|h
     ·exact g2 r h
     ·rw [h];rfl
    ·rw [List.getElem?_set] at hp
     split at hp
     ·rename_i Dq;subst Dq
      try rw [if_pos g1] at hp
      cases hp
      cases j with
      |zero=>cases hj;exact ⟨_,by rw [Nat.mul_one,Nat.add_zero];exact c1,hx⟩
      |succ j=>cases hj
     ·rename_i Dq
      obtain ⟨v,hv,hx⟩:=h8 p j r x' (fun e=>Dq e.symm) hp hj
      exact ⟨v,hv,Rd.mono hst hx⟩
end
def hit (u:List (Nat × AObj)) (l:Nat):Prop:=match nd l with|none=>look u l≠none|some (b,_)=>look u b≠none
theorem j8 {u:List (Nat × AObj)} {l:Nat} (h:l<1000000):hit u l↔look u l≠none:=by unfold hit;rw [nd_low h]
theorem sK {k:List (Nat × Option D)} {i:Nat} {x:Option AObj} :inner i (x.map (AObj.sub k))=(inner i x).map (AObj.sub k):=by
 cases x with
 |none=>rfl
 |some o=>
  cases o<;>try rfl
  ·rename_i e' e sz rows hole
   simp only [Option.map_some,AObj.sub,inner]
   split
   ·rfl
   ·split<;>rfl
  ·rename_i e rows i g
   cases g with
   |none=>rfl
   |some g=>simp only [Option.map_some,AObj.sub];split<;>rfl
theorem aF.uc {w:World} {E:Env} {l:Nat} {o:AObj} (h:aF w E l o) {b:Nat} (hb:E.ρ l=some b) (q:Obj) (hk:bQ q=true):w.heap[b]? ≠some q:=by
 intro hq
 have fin:∀ {b':Nat} {q':Obj},E.ρ l=some b'→w.heap[b']? =some q'→bQ q'=true:=fun h1 h2=>by rw [hb] at h1;cases h1;rw [hq] at h2;cases h2;exact hk
 cases o with
 |box cells=>obtain ⟨b',vs,e,h1,h2,_⟩:=h;exact absurd (fin h1 h2) (by simp [bQ])
 |rob cells=>obtain ⟨b',vs,e,h1,h2,_⟩:=h;exact absurd (fin h1 h2) (by simp [bQ])
 |own e sz rows=>
  obtain ⟨_,_,⟨h1,_⟩|⟨b',cur,cap,h1,h2,_⟩⟩:=h
  ·rw [hb] at h1;cases h1
  ·exact absurd (fin h1 h2) (by simp [bQ])
 |tip e sz rows=>
  obtain ⟨_,_,⟨h1,_⟩|⟨b',cur,cap,h1,h2,_⟩⟩:=h
  ·rw [hb] at h1;cases h1
  ·exact absurd (fin h1 h2) (by simp [bQ])
 |part e sz rows=>
  obtain ⟨_,_,⟨h1,_⟩|⟨b',off,cur,cap,h1,h2,_⟩⟩:=h
  ·rw [hb] at h1;cases h1
  ·exact absurd (fin h1 h2) (by simp [bQ])
 |mp n ag=>obtain ⟨b',es,h1,h2,_⟩:=h;exact absurd (fin h1 h2) (by simp [bQ])
 |nest e' e sz rows hh=>obtain ⟨b',cur,cap,h1,h2,_⟩:=h;exact absurd (fin h1 h2) (by simp [bQ])
 |nils e' e sz n=>obtain ⟨b',cur,cap,h1,h2,_⟩:=h;exact absurd (fin h1 h2) (by simp [bQ])
 |orh e rows i g=>obtain ⟨_,_,b',cur,cap,h1,h2,_⟩:=h;exact absurd (fin h1 h2) (by simp [bQ])
theorem aG.ud {X:Ctx} {E:Env} {s:ASt} {a:Act} {w:World} (h:aG X E s a w) (la:LA) (E':Env) (w':World) (v':Value)
 (hst:ak w E.z w' E'.z) (hos:w'.os=w.os) (eO:w'.tape=w.tape) (hout:w'.output=w.output) (hsz:w.heap.size≤w'.heap.size)
 (hkeep:∀l,kl la.kill l=none→E'.ρ l=E.ρ l∧E'.σ l=E.σ l)
 (bp:∀l x,kl la.kill l=some (some x)→dx (E.σ l)→Rd w' E'.z (E.σ l) x)
 (sM:∀l,aJ X.m0 l≠none→E'.ρ l=E.ρ l∧E'.σ l=E.σ l)
 (Ax:∀l,kl la.kill l≠none→nd l=none∨hit la.cz l) (yy:∀l,look la.cz l≠none→l<20000)
 (hfr:∀b,b<w.heap.size→(w'.heap[b]? =w.heap[b]? ∧E'.z b=E.z b)∨∃l o,aJ s.m l=some o∧o.ro=false∧E.ρ l=some b∧(kl la.kill l≠none∨hit la.cz l))
 (ue:∀l o,aJ la.cz l=some o→aF w' E' l o)
 (hone:∀l l' b,aJ la.cz l≠none→aJ la.cz l'≠none→E'.ρ l=some b→E'.ρ l'=some b→l=l')
 (hblk:∀l b,aJ la.cz l≠none→E'.ρ l=some b→w.heap.size≤b∨∃l0 o,aJ s.m l0=some o∧o.ro=false∧E.ρ l0=some b∧(kl la.kill l0≠none∨hit la.cz l0))
 (ij:∀b,w'.heap.size≤b→E'.z b=0)
 (hv:aQ w' E' la.v v') (aK:∀d,la.dst=some d→d<X.n):aG X E' (la.app s) (a.put la.dst v') w':=by
 have hlm:∀l,look (la.app s).m l=match look la.cz l with|some o=>some o|none=>if kl la.kill l=none then (look s.m l).map (AObj.sub la.kill) else none:=by
  intro l
  have:(la.app s).m=putM la.cz (s.kill la.kill).m:=by unfold LA.app ASt.put;split<;>rfl
  rw [this,bF,b8]
 have hold:∀l o',¬hit la.cz l→aJ (la.app s).m l=some o'→kl la.kill l=none∧∃o,aJ s.m l=some o∧o'=o.sub la.kill:=by
  intro l o' hu hl
  unfold aJ at hl
  unfold hit at hu
  cases bG:nd l with
  |none=>
   simp only [bG,ne_eq,Decidable.not_not] at hl hu
   rw [hlm,hu] at hl
   by_cases hk:kl la.kill l=none
   ·refine ⟨hk, ?_⟩
    simp only [hk,if_true] at hl
    cases hq:look s.m l with
    |none=>simp [hq] at hl
    |some o=>simp [hq] at hl;exact ⟨o,by unfold aJ;rw [bG];exact hq,hl.symm⟩
   ·simp [hk] at hl
  |some p=>
   obtain ⟨b,i⟩:=p
   simp only [bG,ne_eq,Decidable.not_not] at hl hu
   rw [hlm,hu] at hl
   have Dr:kl la.kill l=none:=by
    cases hq:kl la.kill l with
    |none=>rfl
    |some x=>
     rcases Ax l (by simp [hq]) with h1|h1
     ·rw [bG] at h1;cases h1
     ·unfold hit at h1;rw [bG] at h1;exact absurd hu h1
   refine ⟨Dr, ?_⟩
   by_cases hk:kl la.kill b=none
   ·simp only [hk,if_true,sK] at hl
    cases hq:inner i (look s.m b) with
    |none=>simp [hq] at hl
    |some o=>simp [hq] at hl;exact ⟨o,by unfold aJ;rw [bG];exact hq,hl.symm⟩
   ·simp [hk,inner] at hl
 have hnew:∀l o',hit la.cz l→aJ (la.app s).m l=some o'→aJ la.cz l=some o':=by
  intro l o' hu hl
  unfold aJ at hl ⊢
  unfold hit at hu
  cases bG:nd l with
  |none=>
   simp only [bG] at hl hu ⊢
   rw [hlm] at hl
   cases hq:look la.cz l with
   |none=>exact absurd hq hu
   |some o=>rw [hq] at hl;exact hl
  |some p=>
   obtain ⟨b,i⟩:=p
   simp only [bG] at hl hu ⊢
   rw [hlm] at hl
   cases hq:look la.cz b with
   |none=>exact absurd hq hu
   |some o=>rw [hq] at hl;exact hl
 have xk:∀l o,¬hit la.cz l→kl la.kill l=none→aJ s.m l=some o→∀b,E.ρ l=some b→w'.heap[b]? =w.heap[b]? ∧E'.z b=E.z b:=by
  intro l o hu hk hl b hb
  have hlt:=(h.good.dY l o hl).lt hb
  rcases hfr b hlt with h1|⟨l1,o1,h1,h2,h3,h4⟩
  ·exact h1
  ·have:l1=l:=h.good.inj l1 l b (by simp [h1]) (by simp [hl]) h3 hb
   subst this
   rcases h4 with h4|h4
   ·exact absurd hk h4
   ·exact absurd h4 hu
 refine ⟨?_, ?_,⟨?_, ?_, ?_,ij⟩, ?_, ?_, ?_⟩
 ·have same:∀D q,bQ q=true→w.heap[D]? =some q→w'.heap[D]? =some q:=fun D q hq h3=>by
   rcases hfr D (Array.getElem?_eq_some_iff.1 h3).1 with h4|⟨l,o,h4,h5,h6,_⟩
   ·rw [h4.1];exact h3
   ·exact absurd h3 ((h.good.dY l o h4).uc h6 _ hq)
  have hd:Marks X.lo X.bk a.defers w':=⟨fun d hd=>by
   obtain ⟨D,h1,h2,h3⟩:=h.defers.all d hd
   exact ⟨D,h1,h2,same D _ rfl h3⟩,h.defers.nd,fun p hp=>⟨(h.defers.bk p hp).1,same _ _ (h.defers.bk p hp).1 (h.defers.bk p hp).2⟩⟩
  unfold Act.put;split<;>exact hd
 ·unfold Act.put;split<;>simp [h.size]
 ·
  intro l hl
  rw [hlm] at hl
  cases hq:look la.cz l with
  |some o=>exact yy l (by simp [hq])
  |none=>
   rw [hq] at hl
   refine h.good.low l fun h0=> ?_
   simp [h0] at hl
 ·
  intro l l' b hl hl' hb hb'
  have aux:∀l l',hit la.cz l→aJ (la.app s).m l≠none→¬hit la.cz l'→aJ (la.app s).m l'≠none→E'.ρ l=some b→E'.ρ l'=some b→l=l':=by
   intro l l' hu hl gi hl' hb hb'
   obtain ⟨o1,AW⟩:=Option.ne_none_iff_exists'.1 hl
   obtain ⟨o',ho'⟩:=Option.ne_none_iff_exists'.1 hl'
   obtain ⟨hk,o,ho, -⟩:=hold l' o' gi ho'
   rw [(hkeep l' hk).1] at hb'
   have hlt:=(h.good.dY l' o ho).lt hb'
   rcases hblk l b (by rw [hnew l o1 hu AW];simp) hb with h1|⟨l0,o0,h1,h2,h3,h4⟩
   ·omega
   ·have:l0=l':=h.good.inj l0 l' b (by simp [h1]) (by simp [ho]) h3 hb'
    subst this
    rcases h4 with h4|h4
    ·exact absurd hk h4
    ·exact absurd h4 gi
  by_cases hu:hit la.cz l
  ·by_cases gi:hit la.cz l'
   ·obtain ⟨o1,AW⟩:=Option.ne_none_iff_exists'.1 hl
    obtain ⟨o2,Ds⟩:=Option.ne_none_iff_exists'.1 hl'
    exact hone l l' b (by rw [hnew l o1 hu AW];simp) (by rw [hnew l' o2 gi Ds];simp) hb hb'
   ·exact aux l l' hu hl gi hl' hb hb'
  ·by_cases gi:hit la.cz l'
   ·exact (aux l' l gi hl' hu hl hb' hb).symm
   ·obtain ⟨o1,AW⟩:=Option.ne_none_iff_exists'.1 hl
    obtain ⟨o2,Ds⟩:=Option.ne_none_iff_exists'.1 hl'
    obtain ⟨j3,p1,hp1, -⟩:=hold l o1 hu AW
    obtain ⟨hk2,p2,hp2, -⟩:=hold l' o2 gi Ds
    rw [(hkeep l j3).1] at hb
    rw [(hkeep l' hk2).1] at hb'
    exact h.good.inj l l' b (by simp [hp1]) (by simp [hp2]) hb hb'
 ·
  intro l o' hl
  by_cases hu:hit la.cz l
  ·exact ue l o' (hnew l o' hu hl)
  ·obtain ⟨hk,o,ho,rfl⟩:=hold l o' hu hl
   refine aF.keep hst hkeep bp hk (fun hn i=> ?_) (xk l o hu hk ho) (h.good.dY l o ho)
   have fm:l<20000:=by
    unfold aJ at ho
    cases bG:nd l with
    |none=>rw [bG] at ho;exact h.good.low l (by simp only at ho;rw [ho];simp)
    |some p=>
     obtain ⟨b,j⟩:=p
     rw [bG] at ho
     simp only at ho
     exfalso
     cases hq:look s.m b with
     |none=>rw [hq] at ho;simp [inner] at ho
     |some q=>
      rw [hq] at ho
      cases q<;>simp only [inner] at ho<;>try cases ho
      split at ho
      ·cases ho
      ·split at ho
       ·cases ho;simp [AObj.isNest] at hn
       ·cases ho
   cases hq:kl la.kill (nn l i) with
   |none=>rfl
   |some x=>
    exfalso
    have bG:=nd_nn (l:=l) (i:=i) fm
    rcases Ax (nn l i) (by simp [hq]) with h1|h1
    ·rw [bG] at h1;cases h1
    ·unfold hit at h1;rw [bG] at h1
     exact hu (by unfold hit;rw [nd_low (by omega)];exact h1)
 ·
  refine ⟨hos.trans h.dZ.os,eO.trans h.dZ.tape,hout.trans h.dZ.output,Nat.le_trans h.dZ.size hsz,h.dZ.st.trans hst,fun b hb hn=> ?_,fun l hl=> ?_⟩
  ·have hf:=h.dZ.frame b hb hn
   rcases hfr b (Nat.lt_of_lt_of_le hb h.dZ.size) with h1|⟨l1,o1,h1,h2,h3,h4⟩
   ·exact ⟨h1.1.trans hf.1,h1.2.trans hf.2⟩
   ·rcases h.mine l1 o1 b h1 h2 h3 with h5|h5
    ·omega
    ·exact absurd h5 hn
  ·exact ⟨(sM l hl).1.trans (h.dZ.yx l hl).1,(sM l hl).2.trans (h.dZ.yx l hl).2⟩
 ·intro l o' b hl hro hb
  by_cases hu:hit la.cz l
  ·rcases hblk l b (by rw [hnew l o' hu hl];simp) hb with h1|⟨l0,o0,h1,h2,h3,h4⟩
   ·exact .inl (Nat.le_trans h.dZ.size h1)
   ·exact h.mine l0 o0 b h1 h2 h3
  ·obtain ⟨hk,o,ho,rfl⟩:=hold l o' hu hl
   rw [(hkeep l hk).1] at hb
   exact h.mine l o b ho (by rw [← hro,AObj.yY]) hb
 ·intro i
  have hold':aQ w' E' ((get s.t i).sub la.kill) (a.tmps.getD i undef):=aQ.sub hst hkeep bp (h.slot i)
  unfold LA.app ASt.put Act.put
  cases hd:la.dst with
  |none=>simp only [bY];exact hold'
  |some d=>
   simp only [get]
   by_cases tO:d=i
   ·subst tO
    simp only [if_true]
    have:d<a.tmps.size:=by rw [h.size];exact aK d hd
    simpa [Array.getD_eq_getD_getElem?,this] using hv
   ·simp only [tO,if_false,bY]
    have:(a.tmps.setIfInBounds d v').getD i undef=a.tmps.getD i undef:=by
     simp only [Array.getD_eq_getD_getElem?,Array.getElem?_setIfInBounds_ne tO]
    rw [this];exact hold'
theorem aG.app' {X:Ctx} {E:Env} {s:ASt} {a:Act} {w:World} (h:aG X E s a w) (la:LA) (E':Env) (w':World) (v':Value)
 (hst:ak w E.z w' E'.z) (hos:w'.os=w.os) (eO:w'.tape=w.tape) (hout:w'.output=w.output) (hsz:w.heap.size≤w'.heap.size)
 (hkeep:∀l,kl la.kill l=none→E'.ρ l=E.ρ l∧E'.σ l=E.σ l)
 (bp:∀l x,kl la.kill l=some (some x)→dx (E.σ l)→Rd w' E'.z (E.σ l) x)
 (sM:∀l,aJ X.m0 l≠none→E'.ρ l=E.ρ l∧E'.σ l=E.σ l)
 (Ax:∀l,kl la.kill l≠none→l<20000) (yy:∀l o,look la.cz l=some o→l<20000∧o.isNest=false)
 (hfr:∀b,b<w.heap.size→(w'.heap[b]? =w.heap[b]? ∧E'.z b=E.z b)∨∃l o,aJ s.m l=some o∧o.ro=false∧E.ρ l=some b∧(kl la.kill l≠none∨look la.cz l≠none))
 (ue:∀l o,look la.cz l=some o→aF w' E' l o)
 (hone:∀l l' b,look la.cz l≠none→look la.cz l'≠none→E'.ρ l=some b→E'.ρ l'=some b→l=l')
 (hblk:∀l b,look la.cz l≠none→E'.ρ l=some b→w.heap.size≤b∨∃l0 o,aJ s.m l0=some o∧o.ro=false∧E.ρ l0=some b∧(kl la.kill l0≠none∨look la.cz l0≠none))
 (ij:∀b,w'.heap.size≤b→E'.z b=0)
 (hv:aQ w' E' la.v v') (aK:∀d,la.dst=some d→d<X.n):aG X E' (la.app s) (a.put la.dst v') w':=by
 have hs:∀l o,aJ la.cz l=some o→look la.cz l=some o:=by
  intro l o hl
  unfold aJ at hl
  split at hl
  ·exact hl
  ·rename_i b i _
   exfalso
   cases hq:look la.cz b with
   |none=>rw [hq] at hl;simp [inner] at hl
   |some q=>
    have:=(yy b q hq).2
    rw [hq] at hl
    cases q<;>simp [inner] at hl<;>simp [AObj.isNest] at this
 have hs':∀l,aJ la.cz l≠none→look la.cz l≠none:=fun l hl=>by
  obtain ⟨o,ho⟩:=Option.ne_none_iff_exists'.1 hl
  rw [hs l o ho];simp
 have ht:∀l,look la.cz l≠none→hit la.cz l:=fun l hl=>by
  obtain ⟨o,ho⟩:=Option.ne_none_iff_exists'.1 hl
  have:=(yy l o ho).1
  rw [j8 (by omega)];exact hl
 exact h.ud la E' w' v' hst hos eO hout hsz hkeep bp sM (fun l hl=> .inl (nd_low (by have:=Ax l hl;omega))) (fun l hl=>by
  obtain ⟨o,ho⟩:=Option.ne_none_iff_exists'.1 hl
  exact (yy l o ho).1)
  (fun b hb=>(hfr b hb).imp id fun ⟨l,o,h1,h2,h3,h4⟩=>⟨l,o,h1,h2,h3,h4.imp id (ht l)⟩)
  (fun l o hl=>ue l o (hs l o hl)) (fun l l' b hl hl'=>hone l l' b (hs' l hl) (hs' l' hl'))
  (fun l b hl hb=>(hblk l b (hs' l hl) hb).imp id fun ⟨l,o,h1,h2,h3,h4⟩=>⟨l,o,h1,h2,h3,h4.imp id (ht l)⟩) ij hv aK
theorem aG.app {X:Ctx} {E:Env} {s:ASt} {a:Act} {w:World} (h:aG X E s a w) (la:LA) (E':Env) (w':World) (v':Value)
 (hst:ak w E.z w' E'.z) (hos:w'.os=w.os) (eO:w'.tape=w.tape) (hout:w'.output=w.output) (hsz:w.heap.size≤w'.heap.size)
 (hkeep:∀l,kl la.kill l=none→E'.ρ l=E.ρ l∧E'.σ l=E.σ l)
 (bp:∀l x,kl la.kill l=some (some x)→dx (E.σ l)→Rd w' E'.z (E.σ l) x)
 (sM:∀l,aJ X.m0 l≠none→E'.ρ l=E.ρ l∧E'.σ l=E.σ l)
 (Ax:∀l,kl la.kill l≠none→l<20000) (yy:∀l o,look la.cz l=some o→l<20000∧o.isNest=false)
 (hfr:∀b,b<w.heap.size→(w'.heap[b]? =w.heap[b]? ∧E'.z b=E.z b)∨∃l o,aJ s.m l=some o∧o.ro=false∧E.ρ l=some b∧(kl la.kill l≠none∨look la.cz l≠none))
 (ue:∀l o,look la.cz l=some o→aF w' E' l o)
 (hone:∀l l',look la.cz l≠none→look la.cz l'≠none→l=l')
 (hblk:∀l b,look la.cz l≠none→E'.ρ l=some b→w.heap.size≤b∨∃l0 o,aJ s.m l0=some o∧o.ro=false∧E.ρ l0=some b∧(kl la.kill l0≠none∨l0=l))
 (ij:∀b,w'.heap.size≤b→E'.z b=0)
 (hv:aQ w' E' la.v v') (aK:∀d,la.dst=some d→d<X.n):aG X E' (la.app s) (a.put la.dst v') w':=
 h.app' la E' w' v' hst hos eO hout hsz hkeep bp sM Ax yy hfr ue (fun l l' _ hl hl' _ _=>hone l l' hl hl')
   (fun l b hl hb=>(hblk l b hl hb).imp id fun ⟨l0,o,h1,h2,h3,h4⟩=>⟨l0,o,h1,h2,h3,h4.imp id fun h=>by rw [h];exact hl⟩) ij hv aK
end Go.Ab
end
