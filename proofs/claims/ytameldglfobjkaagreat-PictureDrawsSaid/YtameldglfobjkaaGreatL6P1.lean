/- A part of the proof. -/
import Derived.WalkKit
import Derived.Deep.MidRow
set_option linter.unusedSimpArgs false
set_option linter.unusedVariables false
namespace Go.Ab
abbrev aas:=@List.getD_eq_getElem?_getD
abbrev acF:=@List.getElem?_eq_getElem
abbrev ac5:=@decide_eq_false
abbrev ac6:=@decide_eq_true
abbrev ac7:=@if_neg
abbrev ac8:=@List.mem_append
abbrev ac9:=@if_pos
abbrev ada:=@List.mem_map
abbrev adb:=@decide_eq_true_eq
abbrev ade:=@Option.ne_none_iff_exists'
abbrev adf:=@Bool.and_eq_true
abbrev adg:=@Nat.le_refl
abbrev adh:=@List.getElem?_eq_some_iff
abbrev adi:=@List.length_append
abbrev adj:=@Nat.lt_or_ge
abbrev adk:=@List.mem_range
abbrev adl:=@Decidable.byContradiction
abbrev adm:=@List.getElem?_map
abbrev adn:=@List.length_map
abbrev ado:=@List.getElem?_eq_none
abbrev adp:=@List.getElem?_range
abbrev adq:=@Array.getElem?_eq_some_iff
abbrev adr:=@List.mem_iff_getElem
abbrev ads:=@List.map_append
abbrev adt:=@List.nodup_append
abbrev adu:=@List.mem_singleton
abbrev adv:=@List.mem_cons
abbrev adw:=@List.getElem?_append_right
abbrev adx:=@List.getElem?_append_left
abbrev ady:=@Option.some.injEq
abbrev adz:=@List.mem_cons_of_mem
abbrev adA:=@List.cons.injEq
abbrev adB:=@List.take_of_length_le
abbrev adC:=@List.map_cons
abbrev adD:=@List.getElem?_take
abbrev adE:=@List.eq_nil_of_length_eq_zero
abbrev adF:=@Nat.mul_le_mul_right
abbrev adG:=@List.length_take
abbrev adH:=@List.mem_cons_self
abbrev adI:=@List.mem_filter
abbrev adJ:=@Bool.not_eq_true'
abbrev adK:=@Bool.or_eq_true
abbrev adL:=@decide_eq_false_iff_not
abbrev adM:=@List.mem_of_getElem?
abbrev adN:=@List.append_assoc
abbrev adO:=@List.map_nil
abbrev adP:=@List.length_set
abbrev adQ:=@List.any_eq_true
abbrev adR:=@List.mem_append_left
abbrev adS:=@Array.getD_eq_getD_getElem?
abbrev adT:=@Nat.zero_add
abbrev adU:=@List.any_eq_false
abbrev adV:=@List.range_succ
abbrev adW:=@Array.toList_inj
abbrev adX:=@Array.getElem?_eq_getElem
abbrev adY:=@List.ext_getElem?
abbrev adZ:=@List.mem_append_right
abbrev ad0:=@Bool.eq_iff_iff
abbrev ad1:=@List.take_add_one
abbrev ad2:=@List.getElem_mem
abbrev ad3:=@List.getElem?_drop
abbrev ad4:=@List.append_nil
abbrev ad5:=@List.nodup_cons
abbrev ad6:=@Nat.add_mul
abbrev ad7:=@List.all_eq_true
abbrev ad8:=@List.filter_append
abbrev ad9:=@Option.map_eq_some_iff
abbrev aea:=@List.getElem?_set
abbrev aeb:=@List.perm_ext_iff_of_nodup
abbrev aec:=@Bool.false_eq_true
abbrev aed:=@List.size_toArray
abbrev aee:=@List.take_length
abbrev aef:=@List.pairwise_append
abbrev aeg:=@Array.getElem?_eq_none
abbrev aeh:=@List.pairwise_iff_getElem
abbrev aei:=@List.mem_iff_getElem?
abbrev aej:=@Nat.le_trans
abbrev aek:=@of_decide_eq_true
abbrev ael:=@Array.getElem?_toList
abbrev aem:=@List.findIdx?_eq_some_iff_getElem
abbrev aen:=@List.not_mem_nil
abbrev aeo:=@Bool.true_and
abbrev aep:=@Bool.or_eq_false_iff
abbrev aeq:=@List.getElem?_toArray
abbrev aer:=@List.drop_succ_cons
abbrev aes:=@Array.getElem?_append_left
abbrev aet:=@Bool.not_true
abbrev aeu:=@List.map_take
abbrev aew:=@Nat.lt_trichotomy
abbrev aex:=@List.Pairwise.map
abbrev aey:=@List.take_append_of_le_length
abbrev aez:=@List.filter_eq_nil_iff
abbrev aeA:=@Rat.mul_nonneg
abbrev aeB:=@Nat.mod_eq_of_lt
abbrev aeC:=@List.length_drop
abbrev aeD:=@List.filter_cons
abbrev aeE:=@List.map_map
abbrev aeF:=@List.map_eq_nil_iff
abbrev aeG:=@Array.getElem?_modify
abbrev aeH:=@List.length_filter_le
abbrev aeI:=@List.pairwise_map
abbrev aeJ:=@Rat.mul_pos
abbrev aeK:=@Bool.false_or
abbrev aeL:=@List.map_drop
abbrev aeM:=@List.countP_append
abbrev aeN:=@List.findIdx?_eq_none_iff
abbrev aeO:=@List.mem_map_of_mem
abbrev aeP:=@List.length_reverse
abbrev aeQ:=@List.countP_le_length
abbrev aeR:=@List.map_set
abbrev aeS:=@Bool.and_eq_false_iff
abbrev aeT:=@List.Pairwise.imp_of_mem
abbrev aeU:=@Option.some.inj
abbrev aeV:=@List.pairwise_cons
abbrev aeW:=@List.append_of_mem
abbrev aeX:=@List.mem_reverse
abbrev aeY:=@Bool.and_true
abbrev aeZ:=@Array.getElem?_setIfInBounds_ne
abbrev ae0:=@List.nodup_nil
abbrev ae1:=@List.drop_zero
abbrev ae2:=@List.length_range
abbrev ae3:=@List.getElem_of_mem
abbrev ae4:=@List.countP_eq_zero
abbrev ae5:=@List.map_congr_left
abbrev ae6:=@List.length_pos_iff
abbrev ae7:=@List.eq_nil_iff_forall_not_mem
abbrev ae8:=@List.append_eq_append_iff
abbrev ae9:=@Classical.byContradiction
abbrev afa:=@List.getElem?_reverse
abbrev afb:=@Nat.lt_of_lt_of_le
abbrev afc:=@and_true
abbrev afd:=@Bool.true_or
abbrev afe:=@Prod.mk.injEq
abbrev aff:=@List.getElem?_modify
abbrev afg:=@List.getElem?_replicate
abbrev afh:=@Array.size_append
abbrev afi:=@List.countP_congr
abbrev afj:=@Int.toNat_of_nonneg
abbrev afk:=@List.filter_eq_self
abbrev afl:=@List.getD_cons_zero
abbrev afm:=@Int.mul_pos
abbrev afn:=@Bool.or_true
abbrev afo:=@Int.ofNat.inj
abbrev afp:=@Bool.or_false
abbrev afq:=@List.mem_flatMap
abbrev afr:=@Prod.ext
abbrev afs:=@Bool.not_false
abbrev aft:=@List.eq_nil_or_concat
abbrev afu:=@List.mem_of_mem_take
abbrev afv:=@List.mem_of_mem_drop
abbrev afw:=@Int.mul_eq_zero
abbrev afx:=@Array.replicate_succ
abbrev afy:=@Int.lt_trichotomy
abbrev afz:=@Nat.exists_eq_add_of_le
abbrev afA:=@List.append_toArray
abbrev afB:=@Nat.zero_le
abbrev afC:=@List.length_pos_of_mem
abbrev afD:=@Rat.not_lt
abbrev afE:=@Bool.not_eq_false'
abbrev afF:=@List.take_append_drop
abbrev afG:=@Int.mul_ne_zero
abbrev afH:=@List.countP_eq_length
abbrev afI:=@Decidable.not_not
abbrev afJ:=@Int.mul_nonneg_of_nonpos_of_nonpos
abbrev afK:=@List.push_toArray
abbrev afL:=@Int.mul_pos_of_neg_of_neg
abbrev afM:=@Int.mul_neg_of_neg_of_pos
abbrev afN:=@Int.mul_neg_of_pos_of_neg
abbrev afO:=@List.mem_erase_of_ne
abbrev afP:=@Int.le_refl
abbrev afQ:=@Nat.mul_le_mul
abbrev afR:=@Bool.and_false
abbrev afS:=@Nat.testBit_or
abbrev afT:=@List.countP_cons
abbrev afU:=@List.getElem?_take_of_lt
abbrev afV:=@List.nodup_range
abbrev afW:=@List.length_erase_of_mem
abbrev afX:=@List.append_inj'
abbrev afY:=@List.getElem_map
abbrev afZ:=@List.flatten_append
abbrev af0:=@List.countP_pos_iff
abbrev af1:=@List.sublist_append_iff
abbrev af2:=@Nat.add_sub_cancel_left
abbrev af3:=@Nat.add_assoc
abbrev af4:=@List.cons.inj
abbrev af5:=@Nat.eq_zero_or_pos
abbrev af6:=@Nat.mul_one
abbrev af7:=@List.getElem?_set_self
abbrev af8:=@List.map_eq_append_iff
abbrev af9:=@List.getElem_take
abbrev aga:=@Nat.le_of_lt
abbrev agb:=@Bool.false_and
abbrev agc:=@Nat.le_of_ble_eq_true
abbrev agd:=@List.length_replicate
abbrev age:=@List.countP_eq_length_filter
abbrev agf:=@Int.mul_nonneg
abbrev agh:=@List.concat_eq_append
abbrev agi:=@Rat.le_of_lt
abbrev agj:=@Nat.le_max_right
abbrev agk:=@List.reverse_reverse
abbrev agl:=@List.getElem_inj
abbrev agm:=@List.ext_getElem
abbrev agn:=@Nat.le_of_not_lt
abbrev ago:=@Array.getElem?_push
abbrev agp:=@List.mem_or_eq_of_mem_set
abbrev agq:=@Nat.min_eq_left
abbrev agr:=@Nat.le_max_left
abbrev ags:=@Nat.sub_self
abbrev agt:=@List.findIdx?_cons
abbrev agu:=@Int.le_total
abbrev agv:=@List.idxOf_lt_length_iff
abbrev agw:=@List.Perm.eq_of_pairwise
abbrev agx:=@Int.not_lt
abbrev agy:=@List.length_eq_zero_iff
abbrev agz:=@List.reverse_eq_nil_iff
abbrev agA:=@Int.mul_nonpos_of_nonpos_of_nonneg
abbrev agB:=@List.Sublist.refl
abbrev agC:=@List.filter_congr
abbrev agD:=@List.getElem?_eraseIdx
abbrev agE:=@List.map_id
abbrev agF:=@Array.getElem?_range
abbrev agG:=@List.Pairwise.filter
abbrev agH:=@Array.toList_append
abbrev agI:=@List.getD_cons_succ
abbrev agJ:=@List.Sublist.append
abbrev agK:=@Array.getElem?_setIfInBounds
abbrev agL:=@List.Perm.refl
abbrev agM:=@Array.getElem?_map
abbrev agN:=@List.mem_replicate
abbrev agO:=@Array.ext_getElem?
abbrev agP:=@Nat.lt_irrefl
abbrev agQ:=@Array.size_modify
abbrev agR:=@List.exists_mem_of_ne_nil
abbrev agS:=@Nat.lt_pow_two_of_testBit
abbrev agT:=@List.mem_flatten
abbrev agU:=@Bool.not_not
abbrev agV:=@Nat.testBit_two_pow_self
abbrev agW:=@List.filter_cons_of_pos
abbrev agX:=@Array.size_push
abbrev agY:=@List.any_append
abbrev agZ:=@Int.neg_mul_neg
abbrev ag0:=@Nat.le_antisymm
abbrev ag1:=@List.drop_eq_nil_of_le
abbrev ag2:=@List.pairwise_lt_range
abbrev ag3:=@List.append_eq_nil_iff
abbrev ag4:=@List.mapM_cons
abbrev ag5:=@List.take_left
abbrev ag6:=@List.drop_left
abbrev ag7:=@List.pairwise_flatten
abbrev ag8:=@List.Perm.append_left
abbrev ag9:=@List.pairwise_flatMap
abbrev aha:=@Nat.mod_lt
abbrev ahb:=@Int.not_le
abbrev ahc:=@Int.le_of_lt
abbrev ahd:=@Nat.zero_mul
abbrev ahe:=@Int.mul_comm
abbrev ahf:=@Nat.mod_self
end Go.Ab
section
namespace Go.Ab
inductive D where
 |sc (v:Value)
 |sl (sz:Nat) (rows:List (List D))
 |pt (cells:List D)
 deriving Inhabited
inductive AV where
 |jA
 |nil (e:Nat)
 |d (x:D)
 |ref (l:Nat)
 |ptr (l o:Nat)
 |ep (l sz i o:Nat)
 |agg (vs:List AV)
 |tup (vs:List AV)
 |fn (f:Nat) (first caps:List AV)
 |jE (p:Prop)
 |mref (l:Nat)
 |emp (e:Nat)
 |vw (l sz a:Nat)
 deriving Inhabited
inductive AObj where
 |box (cells:List AV)
 |rob (cells:List AV)
 |own (e sz:Nat) (rows:List (List D))
 |tip (e sz:Nat) (rows:List (List D))
 |mp (n:Nat) (ak:List (List Int × Int))
 |part (e sz:Nat) (rows:List (List D))
 |nest (e' e sz:Nat) (rows:List (List (List D))) (hole:Option Nat)
 |nils (e' e sz n:Nat)
 |orh (e:Nat) (rows:List (List D)) (i:Nat) (g:Option Nat)
 deriving Inhabited
def AObj.ro:AObj->Bool
 | .rob _=>true
 |_=>false
structure Env where
 ρ:Nat->Option Nat
 σ:Nat->Value
 z:Nat->Nat
inductive Rd (w:World) (z:Nat->Nat):Value->D->Prop
 |sc (v:Value) (h:v.oneCell'=true):Rd w z v (.sc v)
 |nil (p:Option Addr) (sz:Nat):Rd w z (.slice p 0 0) (.sl sz [])
 |sl (b off n cap sz:Nat) (rows:List (List D)) (vs:Nat->Value)
   (hn:rows.length=n) (hsz:∀r∈rows,r.length=sz) (hz:off+n*sz<=z b) (hcap:n<=cap)
   (hc:∀k,k<n*sz->w.cell? ⟨b,off+k,none⟩=some (vs k))
   (hr:∀(i j:Nat) (r:List D) (x:D),rows[i]? =some r->r[j]? =some x->Rd w z (vs (i*sz+j)) x):
   Rd w z (.slice (some ⟨b,off,none⟩) n cap) (.sl sz rows)
 |pt (b off:Nat) (cells:List D) (vs:Nat->Value) (hz:off+cells.length<=z b)
   (hc:∀k,k<cells.length->w.cell? ⟨b,off+k,none⟩=some (vs k))
   (hr:∀(j:Nat) (x:D),cells[j]? =some x->Rd w z (vs j) x):Rd w z (.pointer (some ⟨b,off,none⟩)) (.pt cells)
def aK(w:World)(z:Nat->Nat)(w':World)(z':Nat->Nat):Prop:=
 ∀b,z b<=z' b/\∀o,o<z b->w'.cell? ⟨b,o,none⟩=w.cell? ⟨b,o,none⟩
theorem aK.refl(w:World)(z:Nat->Nat):aK w z w z:=fun _=>⟨adg _,fun _ _=>rfl⟩
theorem aK.trans{w w' w'':World}{z z' z'':Nat->Nat}(h:aK w z w' z')(k:aK w' z' w'' z''):aK w z w'' z'':=
 fun b=>⟨aej (h b).1 (k b).1,fun o ho=>((k b).2 o (afb ho (h b).1)).trans ((h b).2 o ho)⟩
theorem Rd.mono{w:World}{z:Nat->Nat}{w':World}{z':Nat->Nat}(hs:aK w z w' z'){v:Value}{x:D}(h:Rd w z v x):Rd w' z' v x:=by
 induction h with
 |sc v h=>exact .sc v h
 |nil p sz=>exact .nil p sz
 |sl b off n cap sz rows vs hn hsz hz hcap hc hr ih=>
  exact .sl b off n cap sz rows vs hn hsz (aej hz (hs b).1) hcap
   (fun k hk=>by rw[(hs b).2 _ (by omega)];exact hc k hk) ih
 |pt b off cells vs hz hc hr ih=>
  exact .pt b off cells vs (aej hz (hs b).1) (fun k hk=>by rw[(hs b).2 _ (by omega)];exact hc k hk) ih
theorem Rd.one{w:World}{z:Nat->Nat}{v:Value}{x:D}(h:Rd w z v x):v.oneCell'=true:=by
 cases h<;>first|assumption|rfl
def kN:Value->Prop
 | .slice .. =>True
 |_=>False
mutual
def cG(w:World)(E:Env):AV->Value->Prop
 | .jA,_=>True
 | .nil _,v=>v= .slice none 0 0
 | .d x,v=>Rd w E.z v x
 | .ref l,v=>v=E.σ l/\kN v
 | .ptr l o,v=>∃b,E.ρ l=some b/\v= .pointer (some ⟨b,o,none⟩)
 | .ep l sz i o,v=>∃b off n cap,E.σ l= .slice (some ⟨b,off,none⟩) n cap/\v= .pointer (some ⟨b,off+(i*sz+o),none⟩)
 | .agg vs,v=>∃us:List Value,v= .agg us.toArray/\AVrs w E vs us
 | .tup vs,v=>∃us:List Value,v= .tuple us.toArray/\AVrs w E vs us
 | .fn f first caps,v=>∃us vs:List Value,v= .func (.func f) us.toArray vs.toArray/\AVrs w E first us/\AVrs w E caps vs
 | .jE p,v=>∃b:Bool,v= .bool b/\(b=true->p)
 | .mref l,v=>∃b,E.ρ l=some b/\v= .map (some b)
 | .emp _,v=>∃p,v= .slice p 0 0
 | .vw l sz a,v=>∃b off n cap,E.σ l= .slice (some ⟨b,off,none⟩) n cap/\a<n/\v= .slice (some ⟨b,off+a*sz,none⟩) (n - a) (cap - a)
def AVrs(w:World)(E:Env):List AV->List Value->Prop
 | [],us=>us= []
 |a::as,us=>∃u us',us=u::us'/\cG w E a u/\AVrs w E as us'
end
theorem dW{w:World}{E:Env} :∀ {as:List AV} {us:List Value},AVrs w E as us↔us.length=as.length/\∀(i:Nat) a u,as[i]? =some a->us[i]? =some u->cG w E a u
 | [],us=>by simp[AVrs]
 |a::as,us=>by
  simp only[AVrs]
  constructor
  ·rintro⟨u,us',rfl,h1,h2⟩
   obtain⟨hl,h3⟩:=dW.1 h2
   refine⟨by simp[hl],fun i a' u' ha hu=> ?_⟩
   cases i with
   |zero=>simp at ha hu;subst ha;subst hu;exact h1
   |succ i=>simp at ha hu;exact h3 i _ _ ha hu
  ·rintro⟨hl,h⟩
   cases us with
   |nil=>simp at hl
   |cons u us=>
    refine⟨u,us,rfl,h 0 _ _ rfl rfl,dW.2 ⟨by simpa using hl,fun i a' u' ha hu=>h (i+1) _ _ (by simpa using ha) (by simpa using hu)⟩⟩
structure Am (w:World) (E:Env) (w':World) (E':Env) (live:Nat->Prop):Prop where
 st:aK w E.z w' E'.z
 ρ:∀l,live l->E'.ρ l=E.ρ l
 σ:∀l,live l->E'.σ l=E.σ l
mutual
def AV.ids:AV->List Nat
 | .ref l=> [l]
 | .ptr l _=> [l]
 | .ep l _ _ _=> [l]
 | .vw l _ _=> [l]
 | .mref l=> [l]
 | .agg vs=>AV.idss vs
 | .tup vs=>AV.idss vs
 | .fn _ us vs=>AV.idss us++AV.idss vs
 |_=> []
def AV.idss:List AV->List Nat
 | []=> []
 |a::as=>AV.ids a++AV.idss as
end
mutual
theorem cG.mono{w:World}{E:Env}{w':World}{E':Env}{live:Nat->Prop}(hk:Am w E w' E' live):∀ {a:AV} {v:Value},(∀l∈a.ids,live l)->cG w E a v->cG w' E' a v
 | .jA,_,_,_=>trivial
 | .nil _,_,_,h=>h
 | .d x,_,_,h=>Rd.mono hk.st h
 | .jE _,_,_,h=>h
 | .emp _,_,_,h=>h
 | .mref l,_,hl,h=>by simp only[cG]at h ⊢;rw[hk.ρ l (hl l (by simp[AV.ids]))];exact h
 | .ref l,_,hl,h=>by simp only[cG]at h ⊢;rw[hk.σ l (hl l (by simp[AV.ids]))];exact h
 | .ptr l o,_,hl,h=>by simp only[cG]at h ⊢;rw[hk.ρ l (hl l (by simp[AV.ids]))];exact h
 | .ep l sz i o,_,hl,h=>by simp only[cG]at h ⊢;rw[hk.σ l (hl l (by simp[AV.ids]))];exact h
 | .vw l sz a,_,hl,h=>by simp only[cG]at h ⊢;rw[hk.σ l (hl l (by simp[AV.ids]))];exact h
 | .agg vs,_,hl,h=>by obtain⟨us,rfl,h⟩:=h;exact⟨us,rfl,AVrs.mono hk (fun l hm=>hl l (by simpa[AV.ids]using hm)) h⟩
 | .tup vs,_,hl,h=>by obtain⟨us,rfl,h⟩:=h;exact⟨us,rfl,AVrs.mono hk (fun l hm=>hl l (by simpa[AV.ids]using hm)) h⟩
 | .fn f as bs,_,hl,h=>by obtain⟨us,vs,rfl,h,k⟩:=h;exact⟨us,vs,rfl,AVrs.mono hk (fun l hm=>hl l (by simp[AV.ids,hm])) h,AVrs.mono hk (fun l hm=>hl l (by simp[AV.ids,hm])) k⟩
theorem AVrs.mono{w:World}{E:Env}{w':World}{E':Env}{live:Nat->Prop}(hk:Am w E w' E' live):∀ {as:List AV} {us:List Value},(∀l∈AV.idss as,live l)->AVrs w E as us->AVrs w' E' as us
 | [],_,_,h=>h
 |a::as,_,hl,h=>by
  obtain⟨u,us',rfl,h1,h2⟩:=h
  exact⟨u,us',rfl,cG.mono hk (fun l hm=>hl l (by simp[AV.idss,hm])) h1,AVrs.mono hk (fun l hm=>hl l (by simp[AV.idss,hm])) h2⟩
end
def kW(n:Nat):Nat:=match n with|0=>1|n=>n
def kV(n:Nat)(key:List Int):Value:=match n with|0=> .int .i64 (key.getD 0 0)|_=> .agg (key.map (Value.int .i64)).toArray
structure lP (n:Nat) (ak:List (List Int × Int)) (es:Array MapEntry):Prop where
 size:es.size=ak.length
 len:∀p∈ak,p.1.length=kW n
 apart:(ak.map (·.1)).Nodup
 N9:∀(i:Nat) p,ak[i]? =some p->es[i]? =some ⟨kV n p.1, .int .i64 p.2,i⟩
def nn(l i:Nat):Nat:=1000000+i*20000+l
def nd(l:Nat):Option (Nat × Nat):=if 1000000<=l then some ((l - 1000000) % 20000,(l - 1000000) / 20000) else none
theorem nd_low{l:Nat}(h:l<1000000):nd l=none:=by unfold nd;rw[ac7 (by omega)]
theorem nd_nn{l i:Nat}(h:l<20000):nd (nn l i)=some (l,i):=by
 unfold nd nn
 rw[ac9 (by omega)]
 have e:1000000+i*20000+l - 1000000=l+20000*i:=by omega
 rw[e,Nat.add_mul_mod_self_left,aeB h,Nat.add_mul_div_left _ _ (by omega),Nat.div_eq_of_lt h,adT]
theorem zJ{l b i:Nat}(h:nd l=some (b,i)):l=nn b i/\b<20000:=by
 unfold nd at h
 split at h
 ·simp only[ady,afe]at h
  obtain⟨rfl,rfl⟩:=h
  unfold nn
  have:=Nat.mod_add_div (l - 1000000) 20000
  have:=aha (l - 1000000) (show 0<20000 by omega)
  omega
 ·cases h
def bF(w:World)(E:Env)(l:Nat):AObj->Prop
 | .box cells| .rob cells=>∃b vs e,E.ρ l=some b/\w.heap[b]? =some (.cells (vs:List Value).toArray e (0,0))/\E.z b=0/\AVrs w E cells vs/\∀v∈vs,v.oneCell'=true
 | .own e sz rows=>(∀r∈rows,r.length=sz)/\0<sz/\((E.ρ l=none/\rows= []/\∃p,E.σ l= .slice p 0 0)\/
     ∃b cur cap,E.ρ l=some b/\w.heap[b]? =some (.cells cur e (0,0))/\E.σ l= .slice (some ⟨b,0,none⟩) rows.length cap/\rows.length<=cap/\cap*sz=cur.size/\cap<=maxLen/\
      E.z b=0/\∀(i j:Nat) (r:List D) (x:D),rows[i]? =some r->r[j]? =some x->∃v,cur[i*sz+j]? =some v/\Rd w E.z v x)
 | .tip e sz rows=>(∀r∈rows,r.length=sz)/\0<sz/\((E.ρ l=none/\rows= []/\∃p,E.σ l= .slice p 0 0)\/
     ∃b cur cap,E.ρ l=some b/\w.heap[b]? =some (.cells cur e (0,0))/\E.σ l= .slice (some ⟨b,0,none⟩) rows.length cap/\rows.length<=cap/\cap*sz=cur.size/\cap<=maxLen/\
      E.z b=rows.length*sz/\∀(i j:Nat) (r:List D) (x:D),rows[i]? =some r->r[j]? =some x->∃v,cur[i*sz+j]? =some v/\Rd w E.z v x)
 | .part e sz rows=>(∀r∈rows,r.length=sz)/\0<sz/\((E.ρ l=none/\rows= []/\∃p,E.σ l= .slice p 0 0)\/
     ∃b off cur cap,E.ρ l=some b/\w.heap[b]? =some (.cells cur e (0,0))/\E.σ l= .slice (some ⟨b,off,none⟩) rows.length cap/\rows.length<=cap/\off+cap*sz<=cur.size/\cap<=maxLen/\
      E.z b=0/\∀(i j:Nat) (r:List D) (x:D),rows[i]? =some r->r[j]? =some x->∃v,cur[off+(i*sz+j)]? =some v/\Rd w E.z v x)
 | .nils e' e sz n=>∃b cur cap,E.ρ l=some b/\w.heap[b]? =some (.cells cur e' (0,0))/\E.σ l= .slice (some ⟨b,0,none⟩) n cap/\n<=cap/\cap=cur.size/\cap<=maxLen/\E.z b=0/\0<sz/\∀i,i<n->cur[i]? =some (.slice none 0 0)
 | .nest e' e sz rows hole=>∃b cur cap,E.ρ l=some b/\w.heap[b]? =some (.cells cur e' (0,0))/\E.σ l= .slice (some ⟨b,0,none⟩) rows.length cap/\rows.length<=cap/\cap=cur.size/\cap<=maxLen/\E.z b=0/\
     ∀i,i<rows.length->hole≠some i->cur[i]? =some (E.σ (nn l i))/\kN (E.σ (nn l i))
 | .mp n ak=>∃b es,E.ρ l=some b/\w.heap[b]? =some (.map es es.size)/\E.z b=0/\lP n ak es
 | .orh e rows i g=>i<rows.length/\(∀r∈rows,r.length=1)/\∃b cur cap,E.ρ l=some b/\w.heap[b]? =some (.cells cur e (0,0))/\E.σ l= .slice (some ⟨b,0,none⟩) rows.length cap/\rows.length<=cap/\cap*1=cur.size/\cap<=maxLen/\
     E.z b=0/\(∀(p j:Nat) (r:List D) (x:D),p≠i->rows[p]? =some r->r[j]? =some x->∃v,cur[p*1+j]? =some v/\Rd w E.z v x)/\∀g',g=some g'->cur[i]? =some (E.σ g')/\kN (E.σ g')
def get(t:List (Nat × AV))(k:Nat):AV:=
 match t with
 | []=> .jA
 |(i,v)::r=>if i=k then v else get r k
def look(m:List (Nat × AObj))(l:Nat):Option AObj:=
 match m with
 | []=>none
 |(i,o)::r=>if i=l then some o else look r l
def inner(i:Nat):Option AObj->Option AObj
 |some (.nest _ e sz rows hole)=>if hole=some i then none else match rows[i]? with|some r=>some (.tip e sz r)|none=>none
 |_=>none
def bM(m:List (Nat × AObj))(l:Nat):Option AObj:=
 match nd l with
 |none=>look m l
 |some (b,i)=>inner i (look m b)
theorem bJ{m:List (Nat × AObj)}{l:Nat}(h:l<1000000):bM m l=look m l:=by unfold bM;rw[nd_low h]
theorem uh{m:List (Nat × AObj)}{l i:Nat}(h:l<20000):bM m (nn l i)=inner i (look m l):=by unfold bM;rw[nd_nn h]
def AObj.isNest:AObj->Bool
 | .nest .. =>true
 |_=>false
structure ASt where
 t:List (Nat × AV)
 m:List (Nat × AObj)
def AObj.ids:AObj->List Nat
 | .box cells| .rob cells=>AV.idss cells
 | .orh _ _ _ (some g)=> [g]
 |_=> []
structure Good (m:List (Nat × AObj)) (E:Env) (w:World):Prop where
 low:∀l,look m l≠none->l<20000
 inj:∀l l' b,bM m l≠none->bM m l'≠none->E.ρ l=some b->E.ρ l'=some b->l=l'
 gw:∀l o,bM m l=some o->bF w E l o
 fresh:∀b,w.heap.size<=b->E.z b=0
theorem Good.ZK{m:List (Nat × AObj)}{E:Env}{w:World}(h:Good m E w){l:Nat}(hl:look m l≠none):bM m l=look m l:=bJ (by have:=h.low l hl;omega)
theorem Good.bM{m:List (Nat × AObj)}{E:Env}{w:World}(h:Good m E w){l:Nat}{o:AObj}(hl:look m l=some o):bM m l=some o:=by rw[h.ZK (by simp[hl]),hl]
theorem Good.obj{m:List (Nat × AObj)}{E:Env}{w:World}(h:Good m E w)(l:Nat)(o:AObj)(hl:look m l=some o):bF w E l o:=h.gw l o (h.bM hl)
def Oa(m:List (Nat × AObj))(E:Env)(b:Nat):Prop:=∃l o,Ab.bM m l=some o/\o.ro=false/\E.ρ l=some b
structure Ob (m0:List (Nat × AObj)) (E0:Env) (w0:World) (E:Env) (w:World):Prop where
 os:w.os=w0.os
 tape:w.tape=w0.tape
 output:w.output=w0.output
 size:w0.heap.size<=w.heap.size
 st:aK w0 E0.z w E.z
 frame:∀b,b<w0.heap.size->¬Oa m0 E0 b->w.heap[b]? =w0.heap[b]? /\E.z b=E0.z b
 RG:∀l,Ab.bM m0 l≠none->E.ρ l=E0.ρ l/\E.σ l=E0.σ l
theorem Ob.refl(m0:List (Nat × AObj))(E0:Env)(w0:World):Ob m0 E0 w0 E0 w0:=
 ⟨rfl,rfl,rfl,adg _,aK.refl _ _,fun _ _ _=>⟨rfl,rfl⟩,fun _ _=>⟨rfl,rfl⟩⟩
inductive TK where
 |sc
 |bool
 |int (k:IntKind)
 |sl (e:Nat)
 |st (fs:List (Nat × Nat))
 |ar (n e:Nat)
 |pt (e:Nat)
 |mp (k e:Nat)
 deriving Inhabited
def TK.isRow:TK->Bool
 | .st _| .ar _ _=>true
 |_=>false
structure TI where
 k:TK
 sz:Nat
 iu:Nat
 zc:List AV
 deriving Inhabited
structure Cfg where
 T:Nat->Option TI
 own:List Nat
 HZ:Nat->Option Nat
 tM:List Nat
def Cfg.sz(C:Cfg)(e:Nat):Nat:=match C.T e with|some ti=>ti.sz|none=>0
def Cfg.iu(C:Cfg)(e:Nat):Nat:=match C.T e with|some ti=>ti.iu|none=>0
def zrowOf(C:Cfg):List AV->List D
 | []=> []
 | .nil e::r=> .sl (C.sz e) []::zrowOf C r
 | .d x::r=>x::zrowOf C r
 |_::r=> .sl 0 []::zrowOf C r
def Cfg.zrow(C:Cfg)(e:Nat):List D:=match C.T e with|some ti=>zrowOf C ti.zc|none=> []
def AV.cv:AV->Value
 | .nil _=> .slice none 0 0
 | .d (.sc v)=>v
 |_=> .tuple #[]
def bG(P:Program)(t:Nat)(ti:TI):Prop:=
 (∃i z,P.info? t=some i/\i.size=ti.sz/\i.bytes=ti.iu/\i.zero=some z/\z.cells.toList=ti.zc.map AV.cv/\(∀a∈ti.zc,a.cv.oneCell'=true)/\ti.zc.length=ti.sz)/\
 match ti.k with
 | .sc=>∃d,P.underlying t=some d/\(match d with| .struct _| .array _ _=>False|_=>True)
 | .bool=>P.underlying t=some .bool
 | .int k=>P.underlying t=some (.int k)
 | .sl e=>P.underlying t=some (.slice e)
 | .pt e=>P.underlying t=some (.pointer e)
 | .st fs=>∃fields:Array Field,P.underlying t=some (.struct fields)/\fields.toList.map (fun f=>(f.offset,f.type))=fs
 | .ar n e=>P.underlying t=some (.array n e)
 | .mp k e=>P.underlying t=some (.map k e)/\∀w,(zeroValue e).run P w= .ok (.int .i64 0) w
def vl(P:Program)(t n:Nat):Prop:=P.eqGuardType P.depth t=false/\match n with
 |0=>∀(w:World) (p q:Bool) (xs ys:List Int),xs.length=2->ys.length=2->
  (Op.equalIn 10000 t (.agg (Value.bool p::xs.map (Value.int .i64)).toArray) (.agg (Value.bool q::ys.map (Value.int .i64)).toArray)).run P w= .ok ((p==q)&&decide (xs=ys)) w
 |n+1=>∀(w:World) (xs ys:List Int),xs.length=n+1->ys.length=n+1->
  (Op.equalIn 10000 t (.agg (xs.map (Value.int .i64)).toArray) (.agg (ys.map (Value.int .i64)).toArray)).run P w= .ok (decide (xs=ys)) w/\∀em,(Instr.checkKey em 10000 t (.agg (xs.map (Value.int .i64)).toArray)).run P w= .ok () w
structure Cfg.Ok (P:Program) (C:Cfg):Prop where
 T:∀t ti,C.T t=some ti->bG P t ti
 HZ:∀t n,C.HZ t=some n->vl P t n
def cst(C:Cfg)(ty:Nat)(v:Value):AV:=
 match v with
 | .slice none 0 0=>match C.T ty with|some ⟨.sl e,_,_,_⟩=> .nil e|_=> .jA
 | .int k n=> .d (.sc (.int k n))
 | .bool b=> .d (.sc (.bool b))
 | .pointer none=> .d (.sc (.pointer none))
 | .string s=> .d (.sc (.string s))
 |_=> .jA
def aev(C:Cfg)(ty:Nat)(s:ASt):Operand->AV
 | .tmp t=>get s.t t
 | .const v=>cst C ty v
 | .global _=> .jA
 | .func f=> .fn f [] []
def rsOf(s:ASt):List Operand->List (Nat × AV)
 | []=> []
 | .tmp t::r=>(t,get s.t t)::rsOf s r
 |_::r=>rsOf s r
structure LA where
 rs:List (Nat × AV)
 ms:List (Nat × AObj)
 kill:List (Nat × Option D)
 iw:List (Nat × AObj)
 dst:Option Nat
 v:AV
def kl(kill:List (Nat × Option D))(l:Nat):Option (Option D):=
 match kill with
 | []=>none
 |(i,x)::r=>if i=l then some x else kl r l
mutual
def AV.sub(k:List (Nat × Option D)):AV->AV
 | .ref l=>match kl k l with|none=> .ref l|some none=> .jA|some (some x)=> .d x
 | .ptr l o=>match kl k l with|none=> .ptr l o|some _=> .jA
 | .ep l sz i o=>match kl k l with|none=> .ep l sz i o|some _=> .jA
 | .vw l sz a=>match kl k l with|none=> .vw l sz a|some _=> .jA
 | .agg vs=> .agg (AV.subs k vs)
 | .tup vs=> .tup (AV.subs k vs)
 | .fn f us vs=> .fn f (AV.subs k us) (AV.subs k vs)
 | .jA=> .jA
 | .nil e=> .nil e
 | .d x=> .d x
 | .jE p=> .jE p
 | .mref l=>match kl k l with|none=> .mref l|some _=> .jA
 | .emp e=> .emp e
def AV.subs(k:List (Nat × Option D)):List AV->List AV
 | []=> []
 |a::as=>AV.sub k a::AV.subs k as
end
def AObj.sub(k:List (Nat × Option D)):AObj->AObj
 | .box cells=> .box (AV.subs k cells)
 | .rob cells=> .rob (AV.subs k cells)
 | .orh e rows i (some g)=>match kl k g with|none=> .orh e rows i (some g)|some none=> .orh e rows i none|some (some x)=> .own e 1 (rows.set i [x])
 |o=>o
def subT(k:List (Nat × Option D)):List (Nat × AV)->List (Nat × AV)
 | []=> []
 |(i,a)::r=>(i,a.sub k)::subT k r
def rmk(k:List (Nat × Option D)):List (Nat × AObj)->List (Nat × AObj)
 | []=> []
 |(i,o)::r=>match kl k i with|none=>(i,o.sub k)::rmk k r|some _=>rmk k r
def rml(l:Nat):List (Nat × AObj)->List (Nat × AObj)
 | []=> []
 |(i,o)::r=>if i=l then rml l r else(i,o)::rml l r
def putM:List (Nat × AObj)->List (Nat × AObj)->List (Nat × AObj)
 | [],m=>m
 |(i,o)::r,m=>(i,o)::rml i (putM r m)
def ASt.put(s:ASt)(dst:Option Nat)(v:AV):ASt:=
 match dst with
 |some d=>⟨(d,v)::s.t,s.m⟩
 |none=>s
def ASt.kill(s:ASt)(k:List (Nat × Option D)):ASt:=
 match k with
 | []=>s
 |_=>⟨subT k s.t,rmk k s.m⟩
def LA.app(la:LA)(s:ASt):ASt:=
 ASt.put ⟨(s.kill la.kill).t,putM la.iw (s.kill la.kill).m⟩ la.dst la.v
def Sat(la:LA)(s:ASt):Prop:=(∀p∈la.rs,get s.t p.1=p.2)/\∀p∈la.ms,look s.m p.1=some p.2
def toD(C:Cfg)(s:ASt):AV->Option D
 | .d x=>some x
 | .nil e=>some (.sl (C.sz e) [])
 | .emp e=>some (.sl (C.sz e) [])
 | .ref l=>match look s.m l with|some (.tip _ sz rows)=>some (.sl sz rows)|_=>none
 |_=>none
def toDs(C:Cfg)(s:ASt):List AV->Option (List D)
 | []=>some []
 |a::as=>match toD C s a,toDs C s as with|some x,some xs=>some (x::xs)|_,_=>none
def avCells:AV->List AV
 | .agg cs=>cs
 |a=> [a]
def AV.isOne:AV->Bool
 | .nil _| .emp _| .d _| .ref _| .ptr _ _| .ep _ _ _ _| .fn _ _ _| .mref _| .vw _ _ _=>true
 |_=>false
def AV.fit:AV->Bool
 | .agg _=>true
 |a=>a.isOne
def msOf(s:ASt):List AV->List (Nat × AObj)
 | []=> []
 | .ref l::r=>match look s.m l with|some o=>(l,o)::msOf s r|none=>msOf s r
 |_::r=>msOf s r
def over(cs:List AV)(o:Nat)(vs:List AV):List AV:=cs.take o++vs++cs.drop (o+vs.length)
def overD(cs:List D)(o:Nat)(vs:List D):List D:=cs.take o++vs++cs.drop (o+vs.length)
def fillAV(place:Nat->Option (Nat × Nat))(cells:List AV):List (Nat × AV)->Option (List AV)
 | []=>some cells
 |(i,v)::rest=>
  match place i with
  |none=>none
  |some (off,size)=>
   if v.fit=true/\(avCells v).length=size/\off+size<=cells.length then fillAV place (over cells off (avCells v)) rest else none
def InR(n:Int):Prop:= -9223372036854775808<=n/\n<=9223372036854775807
def vcInt(op:BinOp)(a b:Int)(K:AV->Prop):Prop:=
 match op with
 | .add=>InR (a+b)/\K (.d (.sc (.int .i64 (a+b))))
 | .sub=>InR (a - b)/\K (.d (.sc (.int .i64 (a - b))))
 | .mul=>InR (a*b)/\K (.d (.sc (.int .i64 (a*b))))
 | .quo=>b≠0/\InR (a.tdiv b)/\K (.d (.sc (.int .i64 (a.tdiv b))))
 | .rem=>b≠0/\K (.d (.sc (.int .i64 (a.tmod b))))
 | .eql=>K (.d (.sc (.bool (decide (a=b)))))
 | .neq=>K (.d (.sc (.bool (!decide (a=b)))))
 | .lss=>K (.d (.sc (.bool (decide (a<b)))))
 | .leq=>K (.d (.sc (.bool (decide (a<=b)))))
 | .gtr=>K (.d (.sc (.bool (decide (b<a)))))
 | .geq=>K (.d (.sc (.bool (decide (b<=a)))))
 | .and=>b=65535/\K (.d (.sc (.int .i64 (a % 65536))))
 |_=>False
def InU(n:Int):Prop:=0<=n/\n<18446744073709551616
def vcU(op:BinOp)(a b:Int)(K:AV->Prop):Prop:=
 match op with
 | .or=>(InU a/\InU b)/\K (.d (.sc (.int .u64 ((a.toNat ||| b.toNat:Nat):Int))))
 | .and=>(InU a/\InU b)/\K (.d (.sc (.int .u64 ((a.toNat &&& b.toNat:Nat):Int))))
 | .andNot=>(InU a/\InU b)/\K (.d (.sc (.int .u64 (((BitVec.ofNat 64 a.toNat &&& ~~~BitVec.ofNat 64 b.toNat).toNat:Nat):Int))))
 | .eql=>K (.d (.sc (.bool (decide (a=b)))))
 | .neq=>K (.d (.sc (.bool (!decide (a=b)))))
 |_=>False
def vcSh(op:BinOp)(a b:Int)(K:AV->Prop):Prop:=
 match op with
 | .shl=>(InU a/\0<=b/\b<64)/\K (.d (.sc (.int .u64 ((a.toNat <<< b.toNat % 18446744073709551616:Nat):Int))))
 | .shr=>(InU a/\0<=b/\b<64)/\K (.d (.sc (.int .u64 ((a.toNat >>> b.toNat:Nat):Int))))
 |_=>False
def cA(ak:List (List Int × Int))(k:List Int):Option Nat:=ak.findIdx? fun p=>decide (k=p.1)
def gO(ak:List (List Int × Int))(k:List Int):Int:=match cA ak k with|some i=>(ak[i]?.map (·.2)).getD 0|none=>0
def eH(ak:List (List Int × Int))(k:List Int):List (List Int × Int):=match cA ak k with|some _=>ak|none=>ak++ [(k,0)]
def jF(ak:List (List Int × Int))(k:List Int):Nat:=match cA ak k with|some i=>i|none=>ak.length
def mL(ak:List (List Int × Int))(i:Nat)(v:Int):List (List Int × Int):=ak.modify i fun p=>(p.1,v)
def intsOf:List AV->Option (List Int)
 | []=>some []
 | .d (.sc (.int .i64 a))::r=>match intsOf r with|some q=>some (a::q)|none=>none
 |_=>none
def keyOf:Nat->AV->Option (List Int)
 |0, .d (.sc (.int .i64 a))=>some [a]
 |0,_=>none
 |_, .agg ks=>intsOf ks
 |_,_=>none
def zo(ak:List (List Int × Int))(k:List Int)(v:Int):List (List Int × Int):=mL (eH ak k) (jF ak k) v
def mpOk(C:Cfg)(t:Nat):Option Nat:=
 match C.T t with
 |some ⟨.mp k _,_,_,_⟩=>match C.T k with
  |some ⟨.int .i64,_,_,_⟩=>some 0
  |some ⟨.st _,_,_,_⟩=>match C.HZ k with
   |some (n+1)=>some (n+1)
   |_=>none
  |_=>none
 |_=>none
def eqInts:List AV->List AV->Option Bool
 | [], []=>some true
 | .d (.sc (.int .i64 a))::r, .d (.sc (.int .i64 b))::q=>match eqInts r q with|some e=>some (decide (a=b)&&e)|none=>none
 |_,_=>none
def boOf:AV->Option Bool
 | .d (.sc (.bool p))=>some p
 |_=>none
def eqBI:List AV->List AV->Option Bool
 |x::xs,y::ys=>match boOf x,boOf y,eqInts xs ys with|some p,some q,some e=>some ((p==q)&&e)|_,_,_=>none
 |_,_=>none
def isSlT:Option TI->Prop
 |some ⟨.sl _,_,_,_⟩=>True
 |_=>False
def isBoT:Option TI->Prop
 |some ⟨.bool,_,_,_⟩=>True
 |_=>False
def isPtT:Option TI->Prop
 |some ⟨.pt _,_,_,_⟩=>True
 |_=>False
def vcEq(C:Cfg)(xt:Nat)(s:ASt)(neg:Bool)(x y:AV)(K:List (Nat × AObj)->AV->Prop):Prop:=
 match x,y with
 | .d (.sc (.bool a)), .d (.sc (.bool b))=>isBoT (C.T xt)/\K [] (.d (.sc (.bool (neg ^^ (a==b)))))
 | .agg xs, .agg ys=>match C.HZ xt with
   |some 0=>match eqBI xs ys with|some e=>xs.length=3/\K [] (.d (.sc (.bool (neg ^^ e))))|none=>False
   |some (n+1)=>match eqInts xs ys with|some e=>xs.length=n+1/\K [] (.d (.sc (.bool (neg ^^ e))))|none=>False
   |none=>False
 | .nil _, .nil _=>isSlT (C.T xt)/\K [] (.d (.sc (.bool (neg ^^ true))))
 | .d (.sl _ rows), .nil _=>(neg=false/\isSlT (C.T xt))/\K [] (.jE (rows= []))
 | .ref l, .nil _=>match look s.m l with
   |some (.tip e sz rows)=>(neg=false/\isSlT (C.T xt))/\K [(l, .tip e sz rows)] (.jE (rows= []))
   |some (.own e sz rows)=>(neg=false/\isSlT (C.T xt))/\K [(l, .own e sz rows)] (.jE (rows= []))
   |_=>False
 | .ptr _ _, .d (.sc (.pointer none))=>isPtT (C.T xt)/\K [] (.d (.sc (.bool (neg ^^ false))))
 | .d (.pt _), .d (.sc (.pointer none))=>isPtT (C.T xt)/\K [] (.d (.sc (.bool (neg ^^ false))))
 | .d (.sc (.pointer none)), .d (.sc (.pointer none))=>isPtT (C.T xt)/\K [] (.d (.sc (.bool (neg ^^ true))))
 |_,_=>False
structure Ctx where
 P:Program
 C:Cfg
 n:Nat
 m0:List (Nat × AObj)
 E0:Env
 w0:World
 bk:List (Nat × Obj)
 lo:Nat
def dJ:Obj->Bool
 | .deferred _=>true
 | .loop _=>true
 | .mapIter .. =>true
 |_=>false
structure Marks (lo:Nat) (bk:List (Nat × Obj)) (ds:List Deferred) (w:World):Prop where
 all:∀d∈ds,∃D,d= {target:= .collected D,args:= #[]} /\lo<=D/\w.heap[D]? =some (.deferred (some []))
 nd:ds.Nodup
 bk:∀p∈bk,dJ p.2=true/\w.heap[p.1]? =some p.2
theorem Marks.nil{lo:Nat}{w:World} :Marks lo [] [] w:=⟨by simp,ae0,by simp⟩
structure bh (X:Ctx) (E:Env) (s:ASt) (a:Act) (w:World):Prop where
 defers:Marks X.lo X.bk a.defers w
 size:a.tmps.size=X.n
 good:Good s.m E w
 j6:Ob X.m0 X.E0 X.w0 E w
 mine:∀l o b,bM s.m l=some o->o.ro=false->E.ρ l=some b->X.w0.heap.size<=b\/Oa X.m0 X.E0 b
 slot:∀k,cG w E (get s.t k) (a.tmps.getD k undef)
def Rel(X:Ctx)(s:ASt)(a:Act)(w:World):Prop:=∃E,bh X E s a w
def W6:Exit->Act->World->Prop:=fun _ _ _=>False
def aN(X:Ctx)(o:Oper)(la:LA):Prop:=la.dst=o.dst/\∀s a w,(∀d,o.dst=some d->d<X.n)->Sat la s->Rel X s a w->o.wp X.P a w (fun a' w'=>Rel X (la.app s) a' w') W6
structure Ctx.Ok (X:Ctx):Prop where
 C:X.C.Ok X.P
 low:∀l,bM X.m0 l≠none->10000<=l
 lo:X.lo<=X.w0.heap.size
def evA(C:Cfg)(s:ASt):List Operand->List Nat->List AV
 |x::xs,t::ts=>aev C t s x::evA C s xs ts
 |x::xs, []=>aev C 0 s x::evA C s xs []
 | [],_=> []
structure ACall (X:Ctx) (o:Oper) (f:AV) (as:List AV) (s:ASt) (K:LA->Prop):Prop where
 run:(∃c fo,o.op= .call c/\c.callee= .value fo/\aev X.C 0 s fo=f/\evA X.C s c.args.toList c.argTypes.toList=as)->∃la,aN X o la/\Sat la s/\K la
def rsO(s:ASt)(o:Oper):List (Nat × AV):=match o.op with
 | .call c=>match c.callee with| .value fo=>rsOf s (fo::c.args.toList)|_=> []
 |_=> []
theorem o5{s:ASt}{o:Oper}{c:Call}{fo:Operand}(ho:o.op= .call c)(hc:c.callee= .value fo):rsO s o=rsOf s (fo::c.args.toList):=by unfold rsO;rw[ho];simp only;rw[hc]
theorem ACall.congr{X:Ctx}{o:Oper}{f f':AV}{as as':List AV}{s:ASt}{K:LA->Prop}(h1:f=f')(h2:as=as'):ACall X o f as s K=ACall X o f' as' s K:=by rw[h1,h2]
def vcLoad(ti:Option TI)(cells:List AV)(o:Nat)(K:AV->Prop):Prop:=
 match ti with
 |some ⟨.st _,sz,_,_⟩|some ⟨.ar _ _,sz,_,_⟩=>o+sz<=cells.length/\K (.agg ((cells.drop o).take sz))
 |some _=>match cells[o]? with|some v=>K v|none=>False
 |none=>False
def rowsOf(C:Cfg)(e:Nat)(s:ASt):AV->Option (List (List D))
 | .nil _=>some []
 | .emp _=>some []
 | .d (.sl sz rows)=>if sz=C.sz e then some rows else none
 | .ref l=>match look s.m l with
   |some (.tip e' sz rows)=>if e'=e/\sz=C.sz e then some rows else none
   |some (.own e' sz rows)=>if e'=e/\sz=C.sz e then some rows else none
   |some (.part e' sz rows)=>if e'=e/\sz=C.sz e then some rows else none
   |_=>none
 |_=>none
def partRows(C:Cfg)(e:Nat)(s:ASt):Nat->List (Nat × AV)->Option (List (List D))
 |_, []=>some []
 |k,(i,v)::r=>if i=k then match toDs C s (avCells v),partRows C e s (k+1) r with
    |some ds,some rs=>if ds.length=C.sz e then some (ds::rs) else none
    |_,_=>none
  else none
def allOne:List AV->Bool
 | []=>true
 |a::as=>a.isOne&&allOne as
def evs(C:Cfg)(ty:Nat)(s:ASt)(xs:List Operand):List AV:=xs.map (aev C ty s)
def optHi(n:Nat):Option AV->Option Int
 |none=>some n
 |some (.d (.sc (.int _ k)))=>some k
 |_=>none
def optLo:Option AV->Option Int
 |none=>some 0
 |some (.d (.sc (.int _ k)))=>some k
 |_=>none
def vcSlice(lo hi:Option Int)(mx:Option (Option Int))(len:Nat)(K:Nat->Nat->Prop):Prop:=
 match lo,hi,mx with
 |some l,some h,none=>(0<=l/\l<=h/\h<=len)/\K l.toNat h.toNat
 |some l,some h,some (some m)=>(0<=l/\l<=h/\h<=m/\m<=len)/\K l.toNat h.toNat
 |_,_,_=>False
def mxLo(lo:Option Int)(mx:Option (Option Int)):Bool:=match lo,mx with|some l,some (some m)=>decide (l=m)|_,_=>false
def mxOk(hi mx:Option Operand):Prop:=match hi,mx with|none,some _=>False|_,_=>True
def dlow(d:Nat):Prop:=d<10000
def vcBuiltin(C:Cfg)(s:ASt)(o:Oper)(b:Builtin)(args:List Operand)(tys:List Nat)(K:LA->Prop):Prop:=
 match b,args,tys with
 | .len, [x], [t]=>match C.T t with
   |some ⟨.sl e,_,_,_⟩=>match rowsOf C e s (aev C t s x) with
    |some rows=>K ⟨rsOf s [x],msOf s [aev C t s x], [], [],o.dst, .d (.sc (.int .i64 (rows.length:Int)))⟩
    |none=>match aev C t s x with
     | .ref l=>match look s.m l with
       |some (.nest e' e0 sz rows h)=>K ⟨rsOf s [x], [(l, .nest e' e0 sz rows h)], [], [],o.dst, .d (.sc (.int .i64 (rows.length:Int)))⟩
       |_=>False
     |_=>False
   |some ⟨.mp _ _,_,_,_⟩=>match aev C t s x with
    | .mref l=>match look s.m l with
      |some (.mp n ak)=>K ⟨rsOf s [x], [(l, .mp n ak)], [], [],o.dst, .d (.sc (.int .i64 (ak.length:Int)))⟩
      |_=>False
    |_=>False
   |_=>False
 | .cap, [x], [t]=>match C.T t,aev C t s x with
   |some ⟨.sl _,_,_,_⟩, .nil _=>K ⟨rsOf s [x], [], [], [],o.dst, .d (.sc (.int .i64 0))⟩
   |_,_=>False
 | .append, [x,y], [t,t']=>match t==t',o.dst,C.T t with
   |false,some d,some ⟨.sl e,_,_,_⟩=>match C.T t',aev C t s x,aev C 3 s y with
    |some ⟨.int .i64,_,_,_⟩, .nil _, .d (.sc (.int .i64 n))=>(dlow d/\0<C.sz e/\0<C.iu e/\0<n/\n*C.iu e<=140737488355328)/\
      K ⟨rsOf s [x,y], [], [(d,none)], [(d, .own e (C.sz e) (List.replicate n.toNat (C.zrow e)))],some d, .ref d⟩
    |_,_,_=>False
   |true,some d,some ⟨.sl e,_,_,_⟩=>(dlow d/\0<C.sz e/\0<C.iu e)/\match rowsOf C e s (aev C t s y) with
    |none=>False
    |some ys=>match aev C t s x with
     | .nil _=>ys.length*C.iu e<=140737488355328/\K ⟨rsOf s [x,y],msOf s [aev C t s y], [(d,none)], [(d,if d∈C.own then .own e (C.sz e) ys else .tip e (C.sz e) ys)],some d, .ref d⟩
     | .emp _=>ys.length*C.iu e<=140737488355328/\K ⟨rsOf s [x,y],msOf s [aev C t s y], [(d,none)], [(d,if d∈C.own then .own e (C.sz e) ys else .tip e (C.sz e) ys)],some d, .ref d⟩
     | .ref l=>match nd l with
       |some (b,i)=>match look s.m b with
        |some (.nest e0 e' sz rows none)=>match rows[i]? with
         |some r=>(e'=e/\sz=C.sz e/\d≠b)/\(r.length+ys.length)*C.iu e<=140737488355328/\
           K ⟨rsOf s [x,y],(b, .nest e0 e' sz rows none)::msOf s [aev C t s y], [(l,some (.sl sz r)),(d,none)], [(d, .tip e sz (r++ys)),(b, .nest e0 e' sz rows (some i))],some d, .ref d⟩
         |none=>False
        |_=>False
       |none=>match look s.m l with
       |some (.tip e' sz rows)=>(e'=e/\sz=C.sz e)/\(rows.length+ys.length)*C.iu e<=140737488355328/\
         K ⟨rsOf s [x,y],(l, .tip e' sz rows)::msOf s [aev C t s y], [(l,some (.sl sz rows)),(d,none)], [(d, .tip e sz (rows++ys))],some d, .ref d⟩
       |some (.own e' sz rows)=>(e'=e/\sz=C.sz e)/\(rows.length+ys.length)*C.iu e<=140737488355328/\
         K ⟨rsOf s [x,y],(l, .own e' sz rows)::msOf s [aev C t s y], [(l,none),(d,none)], [(d, .own e sz (rows++ys))],some d, .ref d⟩
       |_=>False
     |_=>False
   |_,_,_=>False
 | .min, [x,y],_=>match aev C 0 s x,aev C 0 s y with
   | .d (.sc (.int .i64 a)), .d (.sc (.int .i64 b))=>K ⟨rsOf s [x,y], [], [], [],o.dst, .d (.sc (.int .i64 (min a b)))⟩
   |_,_=>False
 | .max, [x,y],_=>match aev C 0 s x,aev C 0 s y with
   | .d (.sc (.int .i64 a)), .d (.sc (.int .i64 b))=>K ⟨rsOf s [x,y], [], [], [],o.dst, .d (.sc (.int .i64 (max a b)))⟩
   |_,_=>False
 |_,_,_=>False
def place(C:Cfg)(ti:TI)(i:Nat):Option (Nat × Nat):=
 match ti.k with
 | .st fs=>match fs[i]? with|some (off,t)=>some (off,C.sz t)|none=>none
 | .ar _ e=>some (i*C.sz e,C.sz e)
 |_=>none
def allF(C:Cfg):List (Nat × Nat)->Prop
 | []=>True
 |(_,t)::r=>(match C.T t with|some _=>True|none=>False)/\allF C r
def allT(C:Cfg):TK->Prop
 | .st fs=>allF C fs
 | .ar _ e=>match C.T e with|some _=>True|none=>False
 |_=>False
def evParts(C:Cfg)(ti:TI)(s:ASt):List (Nat × Operand)->List (Nat × AV)
 | []=> []
 |(i,x)::r=>(i,aev C (match ti.k with| .st fs=>(match fs[i]? with|some (_,t)=>t|none=>0)| .ar _ e=>e| .sl e=>e|_=>0) s x)::evParts C ti s r
def partOps:List (Nat × Operand)->List Operand
 | []=> []
 |(_,x)::r=>x::partOps r
def partAVs:List (Nat × AV)->List AV
 | []=> []
 |(_,x)::r=>avCells x++partAVs r
def vcOp(X:Ctx)(C:Cfg)(o:Oper)(s:ASt)(K:LA->Prop):Prop:=
 match o.op with
 | .move x=>K ⟨rsOf s [x], [], [], [],o.dst,aev C o.type s x⟩
 | .assign x=>K ⟨rsOf s [x], [], [], [],o.dst,aev C o.type s x⟩
 | .pick c a b=>match aev C 4 s c with
   | .d (.sc (.bool t))=>(t=true->K ⟨rsOf s [c,a], [], [], [],o.dst,aev C o.type s a⟩)/\(t=false->K ⟨rsOf s [c,b], [], [], [],o.dst,aev C o.type s b⟩)
   |_=>False
 | .binOp op xt x y _=>match aev C xt s x,aev C xt s y with
   | .d (.sc (.int .i64 a)), .d (.sc (.int .i64 b))=>vcInt op a b fun v=>K ⟨rsOf s [x,y], [], [], [],o.dst,v⟩
   | .d (.sc (.int .u64 a)), .d (.sc (.int .u64 b))=>vcU op a b fun v=>K ⟨rsOf s [x,y], [], [], [],o.dst,v⟩
   | .d (.sc (.int .u64 a)), .d (.sc (.int .i64 b))=>vcSh op a b fun v=>K ⟨rsOf s [x,y], [], [], [],o.dst,v⟩
   |ax,ay=>match op with
    | .eql=>vcEq C xt s false ax ay fun ms v=>K ⟨rsOf s [x,y],ms, [], [],o.dst,v⟩
    | .neq=>vcEq C xt s true ax ay fun ms v=>K ⟨rsOf s [x,y],ms, [], [],o.dst,v⟩
    |_=>False
 | .unOp op xt x=>match op,aev C xt s x with
   | .not, .d (.sc (.bool b))=>K ⟨rsOf s [x], [], [], [],o.dst, .d (.sc (.bool (!b)))⟩
   | .neg, .d (.sc (.int .i64 a))=>InR (-a)/\K ⟨rsOf s [x], [], [], [],o.dst, .d (.sc (.int .i64 (-a)))⟩
   |_,_=>False
 | .alloc e=>match o.dst,C.T e with
   |some d,some ti=>dlow d/\K ⟨[], [], [(d,none)], [(d, .box ti.zc)],some d, .ptr d 0⟩
   |_,_=>False
 | .box e x=>match o.dst with
   |some d=>dlow d/\(allOne (avCells (aev C e s x))=true/\¬d∈AV.idss (avCells (aev C e s x)))/\
     K ⟨rsOf s [x], [], [(d,none)], [(d, .box (avCells (aev C e s x)))],some d, .ptr d 0⟩
   |none=>False
 | .build t parts=>match C.T t with
   |some ti=>allT C ti.k/\match fillAV (place C ti) ti.zc (evParts C ti s parts.toList) with
    |some cells=>K ⟨rsOf s (partOps parts.toList), [], [], [],o.dst, .agg cells⟩
    |none=>False
   |none=>False
 | .buildSlice t n parts=>match o.dst,C.T t with
   |some d,some ⟨.sl e,sz,iu,zc⟩=>dlow d/\match partRows C e s 0 (evParts C ⟨.sl e,sz,iu,zc⟩ s parts.toList) with
    |some rows=>(rows.length=n/\n<=1024/\C.sz e<=64/\0<C.sz e)/\K ⟨rsOf s (partOps parts.toList),msOf s (partAVs (evParts C ⟨.sl e,sz,iu,zc⟩ s parts.toList)), [(d,none)], [(d,if d∈C.own then .own e (C.sz e) rows else .tip e (C.sz e) rows)],some d, .ref d⟩
    |none=>False
   |_,_=>False
 | .load t x=>match aev C 0 s x with
   | .ptr l q=>match look s.m l with
     |some (.box cells)=>vcLoad (C.T t) cells q fun v=>K ⟨rsOf s [x], [(l, .box cells)], [], [],o.dst,v⟩
     |some (.rob cells)=>vcLoad (C.T t) cells q fun v=>K ⟨rsOf s [x], [(l, .rob cells)], [], [],o.dst,v⟩
     |_=>False
   | .d (.pt cells)=>vcLoad (C.T t) (cells.map .d) 0 fun v=>K ⟨rsOf s [x], [], [], [],o.dst,v⟩
   | .ep l sz i q=>match look s.m l with
     |some (.own e sz' rows)=>(sz=sz'/\i<rows.length)/\vcLoad (C.T t) ((rows.getD i (C.zrow e)).map .d) q fun v=>K ⟨rsOf s [x], [(l, .own e sz' rows)], [], [],o.dst,v⟩
     |some (.part e sz' rows)=>(sz=sz'/\i<rows.length)/\vcLoad (C.T t) ((rows.getD i (C.zrow e)).map .d) q fun v=>K ⟨rsOf s [x], [(l, .part e sz' rows)], [], [],o.dst,v⟩
     |some (.nest e' e sz' rows h)=>(sz=1/\q=0/\i<rows.length/\h≠some i/\isSlT (C.T t))/\K ⟨rsOf s [x], [(l, .nest e' e sz' rows h)], [], [],o.dst, .ref (nn l i)⟩
     |some (.orh e rows h (some g))=>(sz=1/\q=0/\i=h/\isSlT (C.T t))/\K ⟨rsOf s [x], [(l, .orh e rows h (some g))], [], [],o.dst, .ref g⟩
     |_=>False
   |_=>False
 | .store t x y=>match aev C 0 s x with
   | .ptr l q=>match look s.m l with
     |some (.box cells)=>(allOne (avCells (aev C t s y))=true/\(avCells (aev C t s y)).length=C.sz t/\q+C.sz t<=cells.length/\0<C.sz t)/\
       K ⟨rsOf s [x,y], [(l, .box cells)], [], [(l, .box (over cells q (avCells (aev C t s y))))],o.dst, .jA⟩
     |_=>False
   | .ep l sz i q=>match look s.m l,toDs C s (avCells (aev C t s y)) with
     |some (.own e sz' rows),some ds=>(sz=sz'/\i<rows.length/\q+ds.length<=sz/\ds.length=C.sz t/\0<C.sz t)/\
       K ⟨rsOf s [x,y],(l, .own e sz' rows)::msOf s (avCells (aev C t s y)), [], [(l, .own e sz' (rows.set i (overD (rows.getD i (C.zrow e)) q ds)))],o.dst, .jA⟩
     |some (.part e sz' rows),some ds=>(sz=sz'/\i<rows.length/\q+ds.length<=sz/\ds.length=C.sz t/\0<C.sz t)/\
       K ⟨rsOf s [x,y],(l, .part e sz' rows)::msOf s (avCells (aev C t s y)), [], [(l, .part e sz' (rows.set i (overD (rows.getD i (C.zrow e)) q ds)))],o.dst, .jA⟩
     |some (.nest e' e sz' rows h),_=>match aev C t s y with
      | .ref g=>match look s.m g with
        |some (.tip e1 Oc r)=>(sz=1/\q=0/\h=some i/\i<rows.length/\e1=e/\Oc=sz'/\isSlT (C.T t)/\C.sz t=1/\g≠l/\dlow l)/\
          K ⟨rsOf s [x,y], [(l, .nest e' e sz' rows h),(g, .tip e1 Oc r)], [(g,some (.sl Oc r)),(nn l i,none)], [(l, .nest e' e sz' (rows.set i r) none)],o.dst, .jA⟩
        |_=>False
      |_=>False
     |some (.orh e rows h g0),_=>match aev C t s y with
      | .ref g=>match look s.m g with
        |some (.tip e1 Oc r)=>(sz=1/\q=0/\h=i/\C.sz t=1)/\
          K ⟨rsOf s [x,y], [(l, .orh e rows h g0),(g, .tip e1 Oc r)], [], [(l, .orh e rows h (some g))],o.dst, .jA⟩
        |_=>False
      |_=>False
     |_,_=>False
   |_=>False
 | .fieldAddr st x f=>match C.T st with
   |some ⟨.st fs,_,_,_⟩=>match fs[f]? with
    |some (off,ft)=>C.sz ft≠0/\match aev C 0 s x with
     | .ptr l q=>K ⟨rsOf s [x], [], [], [],o.dst, .ptr l (q+off)⟩
     | .d (.pt cells)=>off<=cells.length/\K ⟨rsOf s [x], [], [], [],o.dst, .d (.pt (cells.drop off))⟩
     | .ep l sz i q=>K ⟨rsOf s [x], [], [], [],o.dst, .ep l sz i (q+off)⟩
     |_=>False
    |none=>False
   |_=>False
 | .indexAddr t x i=>match aev C 3 s i,C.T t with
   | .d (.sc (.int _ n)),some ⟨.sl e,_,_,_⟩=>match aev C t s x with
     | .d (.sl sz rows)=>(sz=C.sz e/\0<=n/\n<rows.length/\0<sz)/\K ⟨rsOf s [x,i], [], [], [],o.dst, .d (.pt (rows.getD n.toNat (C.zrow e)))⟩
     | .ref l=>match look s.m l with
       |some (.tip e' sz rows)=>(e'=e/\sz=C.sz e/\0<=n/\n<rows.length)/\K ⟨rsOf s [x,i], [(l, .tip e' sz rows)], [], [],o.dst, .d (.pt (rows.getD n.toNat (C.zrow e)))⟩
       |some (.own e' sz rows)=>(e'=e/\sz=C.sz e/\0<=n/\n<rows.length)/\K ⟨rsOf s [x,i], [(l, .own e' sz rows)], [], [],o.dst, .ep l sz n.toNat 0⟩
       |some (.part e' sz rows)=>(e'=e/\sz=C.sz e/\0<=n/\n<rows.length)/\K ⟨rsOf s [x,i], [(l, .part e' sz rows)], [], [],o.dst, .ep l sz n.toNat 0⟩
       |some (.nest e' e0 sz rows h)=>(e'=e/\C.sz e=1/\0<=n/\n<rows.length)/\K ⟨rsOf s [x,i], [(l, .nest e' e0 sz rows h)], [], [],o.dst, .ep l 1 n.toNat 0⟩
       |some (.orh e' rows h g)=>(e'=e/\C.sz e=1/\0<=n/\n<rows.length)/\K ⟨rsOf s [x,i], [(l, .orh e' rows h g)], [], [],o.dst, .ep l 1 n.toNat 0⟩
       |_=>False
     |_=>False
   |_,_=>False
 | .field st x f=>match C.T st,aev C st s x with
   |some ⟨.st fs,_,_,_⟩, .agg cs=>match fs[f]? with
    |some (off,ft)=>vcLoad (C.T ft) cs off fun v=>K ⟨rsOf s [x], [], [], [],o.dst,v⟩
    |none=>False
   |_,_=>False
 | .index t x i=>match C.T t,aev C t s x,aev C 3 s i with
   |some ⟨.ar n e,_,_,_⟩, .agg cs, .d (.sc (.int _ k))=>(0<=k/\k<n)/\vcLoad (C.T e) cs (k.toNat*C.sz e) fun v=>K ⟨rsOf s [x,i], [], [], [],o.dst,v⟩
   |_,_,_=>False
 | .nilCheck x=>match aev C 0 s x with
   | .ptr l q=>K ⟨rsOf s [x], [], [], [],o.dst, .ptr l q⟩
   | .d (.pt cells)=>K ⟨rsOf s [x], [], [], [],o.dst, .d (.pt cells)⟩
   | .ep l sz i q=>K ⟨rsOf s [x], [], [], [],o.dst, .ep l sz i q⟩
   |_=>False
 | .makeFunc (.func f) first captured=>K ⟨rsOf s (first.toList++captured.toList), [], [], [],o.dst, .fn f (evs C 0 s first.toList) (evs C 0 s captured.toList)⟩
 | .makeSlice t x y=>match o.dst,C.T t,aev C 3 s x,aev C 3 s y with
   |some d,some ⟨.sl e,_,_,_⟩, .d (.sc (.int .i64 n)), .d (.sc (.int .i64 k))=>dlow d/\(n=k/\0<=n/\n<=9223372036854775807/\C.iu e*n<=140737488355328/\0<C.sz e)/\
     (if d∈C.tM then match C.T e with
         |some ⟨.sl e0,_,_, [.nil _]⟩=>(C.sz e=1/\0<C.sz e0)/\K ⟨rsOf s [x,y], [], [(d,none)], [(d, .nils e e0 (C.sz e0) n.toNat)],some d, .ref d⟩
         |_=>False
       else K ⟨rsOf s [x,y], [], [(d,none)], [(d, .own e (C.sz e) (List.replicate n.toNat (C.zrow e)))],some d, .ref d⟩)
   |_,_,_,_=>False
 | .slice t x lo hi mx=>match C.T t with
   |some ⟨.sl e,_,_,_⟩=>match aev C t s x with
    | .nil e0=>(0<C.sz e/\mx=none)/\vcSlice (optLo (lo.map (aev C 3 s))) (optHi 0 (hi.map (aev C 3 s))) none 0 fun _ _=>K ⟨rsOf s (x::(lo.toList++hi.toList++mx.toList)), [], [], [],o.dst, .nil e0⟩
    | .ref l=>match look s.m l with
      |some (.tip e' sz rows)=>(e'=e/\sz=C.sz e/\0<sz/\mxOk hi mx)/\vcSlice (optLo (lo.map (aev C 3 s))) (optHi rows.length (hi.map (aev C 3 s))) (mx.map fun m=>optHi rows.length (some (aev C 3 s m))) rows.length fun a b=>
        K ⟨rsOf s (x::(lo.toList++hi.toList++mx.toList)), [(l, .tip e' sz rows)], [], [],o.dst,if mxLo (optLo (lo.map (aev C 3 s))) (mx.map fun m=>optHi rows.length (some (aev C 3 s m)))=true then .emp e else .d (.sl sz ((rows.take b).drop a))⟩
      |some (.own e' sz rows)=>match o.dst with
       |some d=>if d∈C.tM then(e'=e/\sz=C.sz e/\0<sz/\mx=none)/\vcSlice (optLo (lo.map (aev C 3 s))) (optHi rows.length (hi.map (aev C 3 s))) none rows.length fun a b=>(a<rows.length/\b=rows.length)/\
        K ⟨rsOf s (x::(lo.toList++hi.toList++mx.toList)), [(l, .own e' sz rows)], [], [],o.dst, .vw l sz a⟩
        else(e'=e/\sz=C.sz e/\0<sz/\mx=none/\dlow d)/\vcSlice (optLo (lo.map (aev C 3 s))) (optHi rows.length (hi.map (aev C 3 s))) none rows.length fun a b=>
        K ⟨rsOf s (x::(lo.toList++hi.toList++mx.toList)), [(l, .own e' sz rows)], [(l,none),(d,none)], [(d,match lo with|none=> .own e' sz (rows.take b)|some _=> .part e' sz ((rows.take b).drop a))],some d, .ref d⟩
       |none=>False
      |some (.part e' sz rows)=>match o.dst with
       |some d=>(e'=e/\sz=C.sz e/\0<sz/\mx=none/\dlow d)/\vcSlice (optLo (lo.map (aev C 3 s))) (optHi rows.length (hi.map (aev C 3 s))) none rows.length fun a b=>
        K ⟨rsOf s (x::(lo.toList++hi.toList++mx.toList)), [(l, .part e' sz rows)], [(l,none),(d,none)], [(d, .part e' sz ((rows.take b).drop a))],some d, .ref d⟩
       |none=>False
      |_=>False
    | .d (.sl sz rows)=>(sz=C.sz e/\0<sz/\mxOk hi mx)/\vcSlice (optLo (lo.map (aev C 3 s))) (optHi rows.length (hi.map (aev C 3 s))) (mx.map fun m=>optHi rows.length (some (aev C 3 s m))) rows.length fun a b=>
          K ⟨rsOf s (x::(lo.toList++hi.toList++mx.toList)), [], [], [],o.dst,if mxLo (optLo (lo.map (aev C 3 s))) (mx.map fun m=>optHi rows.length (some (aev C 3 s m)))=true then .emp e else .d (.sl sz ((rows.take b).drop a))⟩
    |_=>False
   |_=>False
 | .makeMap t none=>match o.dst,mpOk C t with
   |some d,some n=>dlow d/\K ⟨[], [], [(d,none)], [(d, .mp n [])],some d, .mref d⟩
   |_,_=>False
 | .lookup t x i false=>match mpOk C t,aev C 0 s x with
   |some n', .mref l=>match look s.m l,keyOf n' (aev C 0 s i) with
    |some (.mp n ak),some key=>(n=n'/\key.length=kW n)/\K ⟨rsOf s [x,i], [(l, .mp n ak)], [], [],o.dst, .d (.sc (.int .i64 (gO ak key)))⟩
    |_,_=>False
   |_,_=>False
 | .lookup t x i true=>match mpOk C t,aev C 0 s x with
   |some n', .mref l=>match look s.m l,keyOf n' (aev C 0 s i) with
    |some (.mp n ak),some key=>(n=n'/\key.length=kW n)/\K ⟨rsOf s [x,i], [(l, .mp n ak)], [], [],o.dst, .tup [.d (.sc (.int .i64 (gO ak key))), .d (.sc (.bool (cA ak key).isSome))]⟩
    |_,_=>False
   |_,_=>False
 | .mapUpdate t x i y=>match mpOk C t,aev C 0 s x,aev C 0 s y with
   |some n', .mref l, .d (.sc (.int .i64 v))=>match look s.m l,keyOf n' (aev C 0 s i) with
    |some (.mp n ak),some key=>(n=n'/\key.length=kW n)/\K ⟨rsOf s [x,i,y], [(l, .mp n ak)], [], [(l, .mp n (zo ak key v))],o.dst, .jA⟩
    |_,_=>False
   |_,_,_=>False
 | .mapEntry t x i=>match mpOk C t,aev C 0 s x with
   |some n', .mref l=>match look s.m l,keyOf n' (aev C 0 s i) with
    |some (.mp n ak),some key=>(n=n'/\key.length=kW n)/\
      K ⟨rsOf s [x,i], [(l, .mp n ak)], [], [(l, .mp n (eH ak key))],o.dst, .tup [.d (.sc (.int .i64 (gO ak key))), .d (.sc (.int .i64 (jF ak key:Nat)))]⟩
    |_,_=>False
   |_,_=>False
 | .entryStore _ x st y=>match aev C 0 s x,aev C 0 s st,aev C 0 s y with
   | .mref l, .d (.sc (.int .i64 i)), .d (.sc (.int .i64 v))=>match look s.m l with
     |some (.mp n ak)=>(0<=i/\i<ak.length)/\K ⟨rsOf s [x,st,y], [(l, .mp n ak)], [], [(l, .mp n (mL ak i.toNat v))],o.dst, .jA⟩
     |_=>False
   |_,_,_=>False
 | .extract x i=>match aev C 0 s x with
   | .tup vs=>match vs[i]? with
     |some v=>K ⟨rsOf s [x], [], [], [],o.dst,v⟩
     |none=>False
   |_=>False
 | .convert t' t x=>match C.T t',C.T t,aev C t s x with
   |some _,some ⟨.int .i64,_,_,_⟩, .d (.sc (.int .i64 n))=>InR n/\K ⟨rsOf s [x], [], [], [],o.dst, .d (.sc (.int .i64 n))⟩
   |_,_,_=>False
 | .call c=>match c.callee with
   | .builtin b=>vcBuiltin C s o b c.args.toList c.argTypes.toList K
   | .value f=>ACall X o (aev C 0 s f) (evA C s c.args.toList c.argTypes.toList) s K
   |_=>False
 |_=>False
end Go.Ab
end
section
namespace Go.Ab
mutual
theorem AV.mR:∀a:AV,a.sub []=a
 | .jA=>rfl
 | .nil _=>rfl
 | .emp _=>rfl
 | .d _=>rfl
 | .jE _=>rfl
 | .mref _=>rfl
 | .ref _=>rfl
 | .ptr _ _=>rfl
 | .ep _ _ _ _=>rfl
 | .vw _ _ _=>rfl
 | .agg vs=>by simp[AV.sub,AV.nM vs]
 | .tup vs=>by simp[AV.sub,AV.nM vs]
 | .fn f us vs=>by simp[AV.sub,AV.nM us,AV.nM vs]
theorem AV.nM:∀as:List AV,AV.subs [] as=as
 | []=>rfl
 |a::as=>by simp[AV.subs,AV.mR a,AV.nM as]
end
theorem AObj.mR(o:AObj):o.sub []=o:=by
 cases o<;>first|(simp[AObj.sub,AV.nM];done)|(rename_i e rows i g;cases g<;>simp[AObj.sub,kl])
theorem AObj.Ux(k:List (Nat × Option D))(o:AObj):(o.sub k).ro=o.ro:=by
 cases o<;>first|rfl|(rename_i e rows i g;cases g<;>first|rfl|(simp only[AObj.sub];split<;>rfl))
theorem FC(k:List (Nat × Option D)):∀(t:List (Nat × AV)) (i:Nat),get (subT k t) i=(get t i).sub k
 | [],i=>rfl
 |(j,a)::r,i=>by
  simp only[subT,get]
  split
  ·rfl
  ·exact FC k r i
theorem FD(k:List (Nat × Option D)):∀(m:List (Nat × AObj)) (l:Nat),look (rmk k m) l=if kl k l=none then(look m l).map (AObj.sub k) else none
 | [],l=>by simp[rmk,look]
 |(j,o)::r,l=>by
  simp only[rmk]
  have ih:=FD k r l
  split
  ·rename_i hj
   simp only[look]
   by_cases hjl:j=l
   ·subst hjl;simp[hj]
   ·simp only[hjl,if_false];exact ih
  ·rename_i x hj
   simp only[look]
   by_cases hjl:j=l
   ·subst hjl;simp[hj]at ih ⊢;exact ih
   ·simp only[hjl,if_false];exact ih
theorem An(i:Nat):∀(m:List (Nat × AObj)) (l:Nat),look (rml i m) l=if i=l then none else look m l
 | [],l=>by simp[rml,look]
 |(j,o)::r,l=>by
  have ih:=An i r l
  simp only[rml]
  by_cases hji:j=i
  ·subst hji
   simp only[if_true,look]
   by_cases hjl:j=l
   ·subst hjl;simpa using ih
   ·simp[ih,hjl]
  ·simp only[hji,if_false,look]
   by_cases hjl:j=l
   ·subst hjl;simp[Ne.symm hji]
   ·simp only[hjl,if_false,ih]
theorem eY:∀(u m:List (Nat × AObj)) (l:Nat),look (putM u m) l=match look u l with|some o=>some o|none=>look m l
 | [],m,l=>rfl
 |(i,o)::r,m,l=>by
  have ih:=eY r m l
  simp only[putM,look]
  by_cases hil:i=l
  ·simp[hil]
  ·simp only[hil,if_false,An,ih]
theorem fO(s:ASt)(k:List (Nat × Option D))(i:Nat):get (s.kill k).t i=(get s.t i).sub k:=by
 unfold ASt.kill
 split
 ·rw[AV.mR]
 ·exact FC k _ _
theorem gy(s:ASt)(k:List (Nat × Option D))(l:Nat):look (s.kill k).m l=if kl k l=none then(look s.m l).map (AObj.sub k) else none:=by
 unfold ASt.kill
 split
 ·simp only[kl,if_true];cases look s.m l<;>simp[AObj.mR]
 ·exact FD k _ _
theorem bF.lt{w:World}{E:Env}{l:Nat}{o:AObj}(h:bF w E l o){b:Nat}(hb:E.ρ l=some b):b<w.heap.size:=by
 have key:∀ {x:Obj},w.heap[b]? =some x->b<w.heap.size:=fun hx=>(adq.1 hx).1
 cases o with
 |box cells=>obtain⟨b',vs,e,h1,h2,_⟩:=h;rw[hb]at h1;cases h1;exact key h2
 |rob cells=>obtain⟨b',vs,e,h1,h2,_⟩:=h;rw[hb]at h1;cases h1;exact key h2
 |own e sz rows=>
  obtain⟨_,_,⟨h1,_⟩|⟨b',cur,cap,h1,h2,_⟩⟩:=h
  ·rw[hb]at h1;cases h1
  ·rw[hb]at h1;cases h1;exact key h2
 |tip e sz rows=>
  obtain⟨_,_,⟨h1,_⟩|⟨b',cur,cap,h1,h2,_⟩⟩:=h
  ·rw[hb]at h1;cases h1
  ·rw[hb]at h1;cases h1;exact key h2
 |mp n ak=>obtain⟨b',es,h1,h2,_⟩:=h;rw[hb]at h1;cases h1;exact key h2
 |part e sz rows=>
  obtain⟨_,_,⟨h1,_⟩|⟨b',off,cur,cap,h1,h2,_⟩⟩:=h
  ·rw[hb]at h1;cases h1
  ·rw[hb]at h1;cases h1;exact key h2
 |nest e' e sz rows hole=>obtain⟨b',cur,cap,h1,h2,_⟩:=h;rw[hb]at h1;cases h1;exact key h2
 |nils e' e sz n=>obtain⟨b',cur,cap,h1,h2,_⟩:=h;rw[hb]at h1;cases h1;exact key h2
 |orh e rows i g=>obtain⟨_,_,b',cur,cap,h1,h2,_⟩:=h;rw[hb]at h1;cases h1;exact key h2
section
variable {w:World} {E:Env} {w':World} {E':Env} {k:List (Nat × Option D)}
 (hst:aK w E.z w' E'.z) (hkeep:∀l,kl k l=none->E'.ρ l=E.ρ l/\E'.σ l=E.σ l)
 (cM:∀l x,kl k l=some (some x)->kN (E.σ l)->Rd w' E'.z (E.σ l) x)
mutual
theorem cG.sub(hst:aK w E.z w' E'.z)(hkeep:∀l,kl k l=none->E'.ρ l=E.ρ l/\E'.σ l=E.σ l)
 (cM:∀l x,kl k l=some (some x)->kN (E.σ l)->Rd w' E'.z (E.σ l) x):∀ {a:AV} {v:Value},cG w E a v->cG w' E' (a.sub k) v
 | .jA,_,_=>trivial
 | .nil _,_,h=>h
 | .emp _,_,h=>h
 | .d x,_,h=>Rd.mono hst h
 | .jE _,_,h=>h
 | .mref l,v,h=>by
   simp only[cG]at h
   simp only[AV.sub]
   cases hq:kl k l with
   |none=>simp only[cG];rw[(hkeep l hq).1];exact h
   |some y=>trivial
 | .ref l,v,h=>by
   simp only[cG]at h
   simp only[AV.sub]
   cases hq:kl k l with
   |none=>simp only[cG];rw[(hkeep l hq).2];exact h
   |some y=>
    cases y with
    |none=>trivial
    |some x=>simp only[cG];rw[h.1];exact cM l x hq (h.1 ▸ h.2)
 | .ptr l o,v,h=>by
   simp only[cG]at h
   simp only[AV.sub]
   cases hq:kl k l with
   |none=>simp only[cG];rw[(hkeep l hq).1];exact h
   |some y=>trivial
 | .ep l sz i o,v,h=>by
   simp only[cG]at h
   simp only[AV.sub]
   cases hq:kl k l with
   |none=>simp only[cG];rw[(hkeep l hq).2];exact h
   |some y=>trivial
 | .vw l sz a,v,h=>by
   simp only[cG]at h
   simp only[AV.sub]
   cases hq:kl k l with
   |none=>simp only[cG];rw[(hkeep l hq).2];exact h
   |some y=>trivial
 | .agg vs,_,h=>by obtain⟨us,rfl,h⟩:=h;exact⟨us,rfl,AVrs.sub hst hkeep cM h⟩
 | .tup vs,_,h=>by obtain⟨us,rfl,h⟩:=h;exact⟨us,rfl,AVrs.sub hst hkeep cM h⟩
 | .fn f as bs,_,h=>by obtain⟨us,vs,rfl,h,k⟩:=h;exact⟨us,vs,rfl,AVrs.sub hst hkeep cM h,AVrs.sub hst hkeep cM k⟩
theorem AVrs.sub(hst:aK w E.z w' E'.z)(hkeep:∀l,kl k l=none->E'.ρ l=E.ρ l/\E'.σ l=E.σ l)
 (cM:∀l x,kl k l=some (some x)->kN (E.σ l)->Rd w' E'.z (E.σ l) x):∀ {as:List AV} {us:List Value},AVrs w E as us->AVrs w' E' (AV.subs k as) us
 | [],_,h=>h
 |a::as,_,h=>by
  obtain⟨u,us',rfl,h1,h2⟩:=h
  exact⟨u,us',rfl,cG.sub hst hkeep cM h1,AVrs.sub hst hkeep cM h2⟩
end
theorem bF.keep(hst:aK w E.z w' E'.z)(hkeep:∀l,kl k l=none->E'.ρ l=E.ρ l/\E'.σ l=E.σ l)
 (cM:∀l x,kl k l=some (some x)->kN (E.σ l)->Rd w' E'.z (E.σ l) x) {l:Nat} {o:AObj} (hl:kl k l=none) (hn:o.isNest=true->∀i,kl k (nn l i)=none)
 (hb:∀b,E.ρ l=some b->w'.heap[b]? =w.heap[b]? /\E'.z b=E.z b) (h:bF w E l o):bF w' E' l (o.sub k):=by
 obtain⟨hr,hs⟩:=hkeep l hl
 cases o with
 |box cells=>
  obtain⟨b,vs,e,h1,h2,h3,h4,h5⟩:=h
  exact⟨b,vs,e,by rw[hr];exact h1,by rw[(hb b h1).1];exact h2,by rw[(hb b h1).2];exact h3,AVrs.sub hst hkeep cM h4,h5⟩
 |rob cells=>
  obtain⟨b,vs,e,h1,h2,h3,h4,h5⟩:=h
  exact⟨b,vs,e,by rw[hr];exact h1,by rw[(hb b h1).1];exact h2,by rw[(hb b h1).2];exact h3,AVrs.sub hst hkeep cM h4,h5⟩
 |own e sz rows=>
  obtain⟨g1,g2,g3⟩:=h
  refine⟨g1,g2, ?_⟩
  rcases g3 with ⟨h1,h2,h3⟩|⟨b,cur,cap,h1,h2,h3,h4,h5,h6,h7,h8⟩
  ·exact .inl ⟨by rw[hr];exact h1,h2,by rw[hs];exact h3⟩
  ·refine .inr ⟨b,cur,cap,by rw[hr];exact h1,by rw[(hb b h1).1];exact h2,by rw[hs];exact h3,h4,h5,h6,by rw[(hb b h1).2];exact h7,fun i j r x hi hj=> ?_⟩
   obtain⟨v,hv,hx⟩:=h8 i j r x hi hj
   exact⟨v,hv,Rd.mono hst hx⟩
 |tip e sz rows=>
  obtain⟨g1,g2,g3⟩:=h
  refine⟨g1,g2, ?_⟩
  rcases g3 with ⟨h1,h2,h3⟩|⟨b,cur,cap,h1,h2,h3,h4,h5,h6,h7,h8⟩
  ·exact .inl ⟨by rw[hr];exact h1,h2,by rw[hs];exact h3⟩
  ·refine .inr ⟨b,cur,cap,by rw[hr];exact h1,by rw[(hb b h1).1];exact h2,by rw[hs];exact h3,h4,h5,h6,by rw[(hb b h1).2];exact h7,fun i j r x hi hj=> ?_⟩
   obtain⟨v,hv,hx⟩:=h8 i j r x hi hj
   exact⟨v,hv,Rd.mono hst hx⟩
 |mp n ak=>
  obtain⟨b,es,h1,h2,h3,h4⟩:=h
  exact⟨b,es,by rw[hr];exact h1,by rw[(hb b h1).1];exact h2,by rw[(hb b h1).2];exact h3,h4⟩
 |part e sz rows=>
  obtain⟨g1,g2,g3⟩:=h
  refine⟨g1,g2, ?_⟩
  rcases g3 with ⟨h1,h2,h3⟩|⟨b,off,cur,cap,h1,h2,h3,h4,h5,h6,h7,h8⟩
  ·exact .inl ⟨by rw[hr];exact h1,h2,by rw[hs];exact h3⟩
  ·refine .inr ⟨b,off,cur,cap,by rw[hr];exact h1,by rw[(hb b h1).1];exact h2,by rw[hs];exact h3,h4,h5,h6,by rw[(hb b h1).2];exact h7,fun i j r x hi hj=> ?_⟩
   obtain⟨v,hv,hx⟩:=h8 i j r x hi hj
   exact⟨v,hv,Rd.mono hst hx⟩
 |nils e' e sz n=>
  obtain⟨b,cur,cap,h1,h2,h3,h4,h5,h6,h7,h8⟩:=h
  exact⟨b,cur,cap,by rw[hr];exact h1,by rw[(hb b h1).1];exact h2,by rw[hs];exact h3,h4,h5,h6,by rw[(hb b h1).2];exact h7,h8⟩
 |nest e' e sz rows hole=>
  obtain⟨b,cur,cap,h1,h2,h3,h4,h5,h6,h7,h8⟩:=h
  refine⟨b,cur,cap,by rw[hr];exact h1,by rw[(hb b h1).1];exact h2,by rw[hs];exact h3,h4,h5,h6,by rw[(hb b h1).2];exact h7,fun i hi hh=> ?_⟩
  rw[(hkeep _ (hn rfl i)).2];exact h8 i hi hh
 |orh e rows i g=>
  obtain⟨g1,g2,b,cur,cap,h1,h2,h3,h4,h5,h6,h7,h8,h9⟩:=h
  have base:∀gg,(∀g',gg=some g'->cur[i]? =some (E'.σ g')/\kN (E'.σ g'))->bF w' E' l (.orh e rows i gg):=fun gg hg=>
   ⟨g1,g2,b,cur,cap,by rw[hr];exact h1,by rw[(hb b h1).1];exact h2,by rw[hs];exact h3,h4,h5,h6,by rw[(hb b h1).2];exact h7,fun p j r x hp hi hj=>by
     obtain⟨v,hv,hx⟩:=h8 p j r x hp hi hj
     exact⟨v,hv,Rd.mono hst hx⟩,hg⟩
  cases g with
  |none=>exact base none (fun g' e=>by cases e)
  |some g=>
   obtain⟨c1,c2⟩:=h9 g rfl
   simp only[AObj.sub]
   split
   ·rename_i hq
    refine base _ (fun g' e=> ?_)
    cases e
    rw[(hkeep g hq).2];exact⟨c1,c2⟩
   ·exact base none (fun g' e=>by cases e)
   ·rename_i x hq
    have hx:=cM g x hq c2
    refine⟨fun r hr=> ?_,by omega, .inr ⟨b,cur,cap,by rw[hr];exact h1,by rw[(hb b h1).1];exact h2,by rw[hs,adP];exact h3,by rw[adP];exact h4,h5,h6,by rw[(hb b h1).2];exact h7,fun p j r x' hp hj=> ?_⟩⟩
    ·rcases agp hr with h|h
     ·exact g2 r h
     ·rw[h];rfl
    ·rw[aea]at hp
     split at hp
     ·rename_i ZL;subst ZL
      try rw[ac9 g1]at hp
      cases hp
      cases j with
      |zero=>cases hj;exact⟨_,by rw[af6,Nat.add_zero];exact c1,hx⟩
      |succ j=>cases hj
     ·rename_i ZL
      obtain⟨v,hv,hx⟩:=h8 p j r x' (fun e=>ZL e.symm) hp hj
      exact⟨v,hv,Rd.mono hst hx⟩
end
def hit(u:List (Nat × AObj))(l:Nat):Prop:=match nd l with|none=>look u l≠none|some (b,_)=>look u b≠none
theorem zK{u:List (Nat × AObj)}{l:Nat}(h:l<1000000):hit u l↔look u l≠none:=by unfold hit;rw[nd_low h]
theorem LY{k:List (Nat × Option D)}{i:Nat}{x:Option AObj} :inner i (x.map (AObj.sub k))=(inner i x).map (AObj.sub k):=by
 cases x with
 |none=>rfl
 |some o=>
  cases o<;>try rfl
  ·rename_i e' e sz rows hole
   simp only[Option.map_some,AObj.sub,inner]
   split
   ·rfl
   ·split<;>rfl
  ·rename_i e rows i g
   cases g with
   |none=>rfl
   |some g=>simp only[Option.map_some,AObj.sub];split<;>rfl
theorem bF.Od{w:World}{E:Env}{l:Nat}{o:AObj}(h:bF w E l o){b:Nat}(hb:E.ρ l=some b)(q:Obj)(hk:dJ q=true):w.heap[b]? ≠some q:=by
 intro hq
 have fin:∀ {b':Nat} {q':Obj},E.ρ l=some b'->w.heap[b']? =some q'->dJ q'=true:=fun h1 h2=>by rw[hb]at h1;cases h1;rw[hq]at h2;cases h2;exact hk
 cases o with
 |box cells=>obtain⟨b',vs,e,h1,h2,_⟩:=h;exact absurd (fin h1 h2) (by simp[dJ])
 |rob cells=>obtain⟨b',vs,e,h1,h2,_⟩:=h;exact absurd (fin h1 h2) (by simp[dJ])
 |own e sz rows=>
  obtain⟨_,_,⟨h1,_⟩|⟨b',cur,cap,h1,h2,_⟩⟩:=h
  ·rw[hb]at h1;cases h1
  ·exact absurd (fin h1 h2) (by simp[dJ])
 |tip e sz rows=>
  obtain⟨_,_,⟨h1,_⟩|⟨b',cur,cap,h1,h2,_⟩⟩:=h
  ·rw[hb]at h1;cases h1
  ·exact absurd (fin h1 h2) (by simp[dJ])
 |part e sz rows=>
  obtain⟨_,_,⟨h1,_⟩|⟨b',off,cur,cap,h1,h2,_⟩⟩:=h
  ·rw[hb]at h1;cases h1
  ·exact absurd (fin h1 h2) (by simp[dJ])
 |mp n ak=>obtain⟨b',es,h1,h2,_⟩:=h;exact absurd (fin h1 h2) (by simp[dJ])
 |nest e' e sz rows hh=>obtain⟨b',cur,cap,h1,h2,_⟩:=h;exact absurd (fin h1 h2) (by simp[dJ])
 |nils e' e sz n=>obtain⟨b',cur,cap,h1,h2,_⟩:=h;exact absurd (fin h1 h2) (by simp[dJ])
 |orh e rows i g=>obtain⟨_,_,b',cur,cap,h1,h2,_⟩:=h;exact absurd (fin h1 h2) (by simp[dJ])
theorem bh.Oe{X:Ctx}{E:Env}{s:ASt}{a:Act}{w:World}(h:bh X E s a w)(la:LA)(E':Env)(w':World)(v':Value)
 (hst:aK w E.z w' E'.z) (hos:w'.os=w.os) (nN:w'.tape=w.tape) (hout:w'.output=w.output) (hsz:w.heap.size<=w'.heap.size)
 (hkeep:∀l,kl la.kill l=none->E'.ρ l=E.ρ l/\E'.σ l=E.σ l)
 (cM:∀l x,kl la.kill l=some (some x)->kN (E.σ l)->Rd w' E'.z (E.σ l) x)
 (LZ:∀l,bM X.m0 l≠none->E'.ρ l=E.ρ l/\E'.σ l=E.σ l)
 (Wo:∀l,kl la.kill l≠none->nd l=none\/hit la.iw l) (Uy:∀l,look la.iw l≠none->l<20000)
 (hfr:∀b,b<w.heap.size->(w'.heap[b]? =w.heap[b]? /\E'.z b=E.z b)\/∃l o,bM s.m l=some o/\o.ro=false/\E.ρ l=some b/\(kl la.kill l≠none\/hit la.iw l))
 (Of:∀l o,bM la.iw l=some o->bF w' E' l o)
 (hone:∀l l' b,bM la.iw l≠none->bM la.iw l'≠none->E'.ρ l=some b->E'.ρ l'=some b->l=l')
 (hblk:∀l b,bM la.iw l≠none->E'.ρ l=some b->w.heap.size<=b\/∃l0 o,bM s.m l0=some o/\o.ro=false/\E.ρ l0=some b/\(kl la.kill l0≠none\/hit la.iw l0))
 (uo:∀b,w'.heap.size<=b->E'.z b=0)
 (hv:cG w' E' la.v v') (bV:∀d,la.dst=some d->d<X.n):bh X E' (la.app s) (a.put la.dst v') w':=by
 have hlm:∀l,look (la.app s).m l=match look la.iw l with|some o=>some o|none=>if kl la.kill l=none then(look s.m l).map (AObj.sub la.kill) else none:=by
  intro l
  have:(la.app s).m=putM la.iw (s.kill la.kill).m:=by unfold LA.app ASt.put;split<;>rfl
  rw[this,eY,gy]
 have hold:∀l o',¬hit la.iw l->bM (la.app s).m l=some o'->kl la.kill l=none/\∃o,bM s.m l=some o/\o'=o.sub la.kill:=by
  intro l o' hu hl
  unfold bM at hl
  unfold hit at hu
  cases bR:nd l with
  |none=>
   simp only[bR,ne_eq,afI]at hl hu
   rw[hlm,hu]at hl
   by_cases hk:kl la.kill l=none
   ·refine⟨hk, ?_⟩
    simp only[hk,if_true]at hl
    cases hq:look s.m l with
    |none=>simp[hq]at hl
    |some o=>simp[hq]at hl;exact⟨o,by unfold bM;rw[bR];exact hq,hl.symm⟩
   ·simp[hk]at hl
  |some p=>
   obtain⟨b,i⟩:=p
   simp only[bR,ne_eq,afI]at hl hu
   rw[hlm,hu]at hl
   have ZM:kl la.kill l=none:=by
    cases hq:kl la.kill l with
    |none=>rfl
    |some x=>
     rcases Wo l (by simp[hq]) with h1|h1
     ·rw[bR]at h1;cases h1
     ·unfold hit at h1;rw[bR]at h1;exact absurd hu h1
   refine⟨ZM, ?_⟩
   by_cases hk:kl la.kill b=none
   ·simp only[hk,if_true,LY]at hl
    cases hq:inner i (look s.m b) with
    |none=>simp[hq]at hl
    |some o=>simp[hq]at hl;exact⟨o,by unfold bM;rw[bR];exact hq,hl.symm⟩
   ·simp[hk,inner]at hl
 have hnew:∀l o',hit la.iw l->bM (la.app s).m l=some o'->bM la.iw l=some o':=by
  intro l o' hu hl
  unfold bM at hl ⊢
  unfold hit at hu
  cases bR:nd l with
  |none=>
   simp only[bR]at hl hu ⊢
   rw[hlm]at hl
   cases hq:look la.iw l with
   |none=>exact absurd hq hu
   |some o=>rw[hq]at hl;exact hl
  |some p=>
   obtain⟨b,i⟩:=p
   simp only[bR]at hl hu ⊢
   rw[hlm]at hl
   cases hq:look la.iw b with
   |none=>exact absurd hq hu
   |some o=>rw[hq]at hl;exact hl
 have RY:∀l o,¬hit la.iw l->kl la.kill l=none->bM s.m l=some o->∀b,E.ρ l=some b->w'.heap[b]? =w.heap[b]? /\E'.z b=E.z b:=by
  intro l o hu hk hl b hb
  have hlt:=(h.good.gw l o hl).lt hb
  rcases hfr b hlt with h1|⟨l1,o1,h1,h2,h3,h4⟩
  ·exact h1
  ·have:l1=l:=h.good.inj l1 l b (by simp[h1]) (by simp[hl]) h3 hb
   subst this
   rcases h4 with h4|h4
   ·exact absurd hk h4
   ·exact absurd h4 hu
 refine⟨?_, ?_,⟨?_, ?_, ?_,uo⟩, ?_, ?_, ?_⟩
 ·have same:∀D q,dJ q=true->w.heap[D]? =some q->w'.heap[D]? =some q:=fun D q hq h3=>by
   rcases hfr D (adq.1 h3).1 with h4|⟨l,o,h4,h5,h6,_⟩
   ·rw[h4.1];exact h3
   ·exact absurd h3 ((h.good.gw l o h4).Od h6 _ hq)
  have hd:Marks X.lo X.bk a.defers w':=⟨fun d hd=>by
   obtain⟨D,h1,h2,h3⟩:=h.defers.all d hd
   exact⟨D,h1,h2,same D _ rfl h3⟩,h.defers.nd,fun p hp=>⟨(h.defers.bk p hp).1,same _ _ (h.defers.bk p hp).1 (h.defers.bk p hp).2⟩⟩
  unfold Act.put;split<;>exact hd
 ·unfold Act.put;split<;>simp[h.size]
 ·
  intro l hl
  rw[hlm]at hl
  cases hq:look la.iw l with
  |some o=>exact Uy l (by simp[hq])
  |none=>
   rw[hq]at hl
   refine h.good.low l fun h0=> ?_
   simp[h0]at hl
 ·
  intro l l' b hl hl' hb hb'
  have aux:∀l l',hit la.iw l->bM (la.app s).m l≠none->¬hit la.iw l'->bM (la.app s).m l'≠none->E'.ρ l=some b->E'.ρ l'=some b->l=l':=by
   intro l l' hu hl xN hl' hb hb'
   obtain⟨o1,W7⟩:=ade.1 hl
   obtain⟨o',ho'⟩:=ade.1 hl'
   obtain⟨hk,o,ho, -⟩:=hold l' o' xN ho'
   rw[(hkeep l' hk).1]at hb'
   have hlt:=(h.good.gw l' o ho).lt hb'
   rcases hblk l b (by rw[hnew l o1 hu W7];simp) hb with h1|⟨l0,o0,h1,h2,h3,h4⟩
   ·omega
   ·have:l0=l':=h.good.inj l0 l' b (by simp[h1]) (by simp[ho]) h3 hb'
    subst this
    rcases h4 with h4|h4
    ·exact absurd hk h4
    ·exact absurd h4 xN
  by_cases hu:hit la.iw l
  ·by_cases xN:hit la.iw l'
   ·obtain⟨o1,W7⟩:=ade.1 hl
    obtain⟨o2,YX⟩:=ade.1 hl'
    exact hone l l' b (by rw[hnew l o1 hu W7];simp) (by rw[hnew l' o2 xN YX];simp) hb hb'
   ·exact aux l l' hu hl xN hl' hb hb'
  ·by_cases xN:hit la.iw l'
   ·exact(aux l' l xN hl' hu hl hb' hb).symm
   ·obtain⟨o1,W7⟩:=ade.1 hl
    obtain⟨o2,YX⟩:=ade.1 hl'
    obtain⟨Ao,p1,hp1, -⟩:=hold l o1 hu W7
    obtain⟨hk2,p2,hp2, -⟩:=hold l' o2 xN YX
    rw[(hkeep l Ao).1]at hb
    rw[(hkeep l' hk2).1]at hb'
    exact h.good.inj l l' b (by simp[hp1]) (by simp[hp2]) hb hb'
 ·
  intro l o' hl
  by_cases hu:hit la.iw l
  ·exact Of l o' (hnew l o' hu hl)
  ·obtain⟨hk,o,ho,rfl⟩:=hold l o' hu hl
   refine bF.keep hst hkeep cM hk (fun hn i=> ?_) (RY l o hu hk ho) (h.good.gw l o ho)
   have o6:l<20000:=by
    unfold bM at ho
    cases bR:nd l with
    |none=>rw[bR]at ho;exact h.good.low l (by simp only at ho;rw[ho];simp)
    |some p=>
     obtain⟨b,j⟩:=p
     rw[bR]at ho
     simp only at ho
     exfalso
     cases hq:look s.m b with
     |none=>rw[hq]at ho;simp[inner]at ho
     |some q=>
      rw[hq]at ho
      cases q<;>simp only[inner]at ho<;>try cases ho
      split at ho
      ·cases ho
      ·split at ho
       ·cases ho;simp[AObj.isNest]at hn
       ·cases ho
   cases hq:kl la.kill (nn l i) with
   |none=>rfl
   |some x=>
    exfalso
    have bR:=nd_nn (l:=l) (i:=i) o6
    rcases Wo (nn l i) (by simp[hq]) with h1|h1
    ·rw[bR]at h1;cases h1
    ·unfold hit at h1;rw[bR]at h1
     exact hu (by unfold hit;rw[nd_low (by omega)];exact h1)
 ·
  refine⟨hos.trans h.j6.os,nN.trans h.j6.tape,hout.trans h.j6.output,aej h.j6.size hsz,h.j6.st.trans hst,fun b hb hn=> ?_,fun l hl=> ?_⟩
  ·have hf:=h.j6.frame b hb hn
   rcases hfr b (afb hb h.j6.size) with h1|⟨l1,o1,h1,h2,h3,h4⟩
   ·exact⟨h1.1.trans hf.1,h1.2.trans hf.2⟩
   ·rcases h.mine l1 o1 b h1 h2 h3 with h5|h5
    ·omega
    ·exact absurd h5 hn
  ·exact⟨(LZ l hl).1.trans (h.j6.RG l hl).1,(LZ l hl).2.trans (h.j6.RG l hl).2⟩
 ·intro l o' b hl hro hb
  by_cases hu:hit la.iw l
  ·rcases hblk l b (by rw[hnew l o' hu hl];simp) hb with h1|⟨l0,o0,h1,h2,h3,h4⟩
   ·exact .inl (aej h.j6.size h1)
   ·exact h.mine l0 o0 b h1 h2 h3
  ·obtain⟨hk,o,ho,rfl⟩:=hold l o' hu hl
   rw[(hkeep l hk).1]at hb
   exact h.mine l o b ho (by rw[<- hro,AObj.Ux]) hb
 ·intro i
  have hold':cG w' E' ((get s.t i).sub la.kill) (a.tmps.getD i undef):=cG.sub hst hkeep cM (h.slot i)
  unfold LA.app ASt.put Act.put
  cases hd:la.dst with
  |none=>simp only[fO];exact hold'
  |some d=>
   simp only[get]
   by_cases ZN:d=i
   ·subst ZN
    simp only[if_true]
    have:d<a.tmps.size:=by rw[h.size];exact bV d hd
    simpa[adS,this]using hv
   ·simp only[ZN,if_false,fO]
    have:(a.tmps.setIfInBounds d v').getD i undef=a.tmps.getD i undef:=by
     simp only[adS,aeZ ZN]
    rw[this];exact hold'
theorem bh.app'{X:Ctx}{E:Env}{s:ASt}{a:Act}{w:World}(h:bh X E s a w)(la:LA)(E':Env)(w':World)(v':Value)
 (hst:aK w E.z w' E'.z) (hos:w'.os=w.os) (nN:w'.tape=w.tape) (hout:w'.output=w.output) (hsz:w.heap.size<=w'.heap.size)
 (hkeep:∀l,kl la.kill l=none->E'.ρ l=E.ρ l/\E'.σ l=E.σ l)
 (cM:∀l x,kl la.kill l=some (some x)->kN (E.σ l)->Rd w' E'.z (E.σ l) x)
 (LZ:∀l,bM X.m0 l≠none->E'.ρ l=E.ρ l/\E'.σ l=E.σ l)
 (Wo:∀l,kl la.kill l≠none->l<20000) (Uy:∀l o,look la.iw l=some o->l<20000/\o.isNest=false)
 (hfr:∀b,b<w.heap.size->(w'.heap[b]? =w.heap[b]? /\E'.z b=E.z b)\/∃l o,bM s.m l=some o/\o.ro=false/\E.ρ l=some b/\(kl la.kill l≠none\/look la.iw l≠none))
 (Of:∀l o,look la.iw l=some o->bF w' E' l o)
 (hone:∀l l' b,look la.iw l≠none->look la.iw l'≠none->E'.ρ l=some b->E'.ρ l'=some b->l=l')
 (hblk:∀l b,look la.iw l≠none->E'.ρ l=some b->w.heap.size<=b\/∃l0 o,bM s.m l0=some o/\o.ro=false/\E.ρ l0=some b/\(kl la.kill l0≠none\/look la.iw l0≠none))
 (uo:∀b,w'.heap.size<=b->E'.z b=0)
 (hv:cG w' E' la.v v') (bV:∀d,la.dst=some d->d<X.n):bh X E' (la.app s) (a.put la.dst v') w':=by
 have hs:∀l o,bM la.iw l=some o->look la.iw l=some o:=by
  intro l o hl
  unfold bM at hl
  split at hl
  ·exact hl
  ·rename_i b i _
   exfalso
   cases hq:look la.iw b with
   |none=>rw[hq]at hl;simp[inner]at hl
   |some q=>
    have:=(Uy b q hq).2
    rw[hq]at hl
    cases q<;>simp[inner]at hl<;>simp[AObj.isNest]at this
 have hs':∀l,bM la.iw l≠none->look la.iw l≠none:=fun l hl=>by
  obtain⟨o,ho⟩:=ade.1 hl
  rw[hs l o ho];simp
 have ht:∀l,look la.iw l≠none->hit la.iw l:=fun l hl=>by
  obtain⟨o,ho⟩:=ade.1 hl
  have:=(Uy l o ho).1
  rw[zK (by omega)];exact hl
 exact h.Oe la E' w' v' hst hos nN hout hsz hkeep cM LZ (fun l hl=> .inl (nd_low (by have:=Wo l hl;omega))) (fun l hl=>by
  obtain⟨o,ho⟩:=ade.1 hl
  exact(Uy l o ho).1)
  (fun b hb=>(hfr b hb).imp id fun ⟨l,o,h1,h2,h3,h4⟩=>⟨l,o,h1,h2,h3,h4.imp id (ht l)⟩)
  (fun l o hl=>Of l o (hs l o hl)) (fun l l' b hl hl'=>hone l l' b (hs' l hl) (hs' l' hl'))
  (fun l b hl hb=>(hblk l b (hs' l hl) hb).imp id fun ⟨l,o,h1,h2,h3,h4⟩=>⟨l,o,h1,h2,h3,h4.imp id (ht l)⟩) uo hv bV
theorem bh.app{X:Ctx}{E:Env}{s:ASt}{a:Act}{w:World}(h:bh X E s a w)(la:LA)(E':Env)(w':World)(v':Value)
 (hst:aK w E.z w' E'.z) (hos:w'.os=w.os) (nN:w'.tape=w.tape) (hout:w'.output=w.output) (hsz:w.heap.size<=w'.heap.size)
 (hkeep:∀l,kl la.kill l=none->E'.ρ l=E.ρ l/\E'.σ l=E.σ l)
 (cM:∀l x,kl la.kill l=some (some x)->kN (E.σ l)->Rd w' E'.z (E.σ l) x)
 (LZ:∀l,bM X.m0 l≠none->E'.ρ l=E.ρ l/\E'.σ l=E.σ l)
 (Wo:∀l,kl la.kill l≠none->l<20000) (Uy:∀l o,look la.iw l=some o->l<20000/\o.isNest=false)
 (hfr:∀b,b<w.heap.size->(w'.heap[b]? =w.heap[b]? /\E'.z b=E.z b)\/∃l o,bM s.m l=some o/\o.ro=false/\E.ρ l=some b/\(kl la.kill l≠none\/look la.iw l≠none))
 (Of:∀l o,look la.iw l=some o->bF w' E' l o)
 (hone:∀l l',look la.iw l≠none->look la.iw l'≠none->l=l')
 (hblk:∀l b,look la.iw l≠none->E'.ρ l=some b->w.heap.size<=b\/∃l0 o,bM s.m l0=some o/\o.ro=false/\E.ρ l0=some b/\(kl la.kill l0≠none\/l0=l))
 (uo:∀b,w'.heap.size<=b->E'.z b=0)
 (hv:cG w' E' la.v v') (bV:∀d,la.dst=some d->d<X.n):bh X E' (la.app s) (a.put la.dst v') w':=
 h.app' la E' w' v' hst hos nN hout hsz hkeep cM LZ Wo Uy hfr Of (fun l l' _ hl hl' _ _=>hone l l' hl hl')
   (fun l b hl hb=>(hblk l b hl hb).imp id fun ⟨l0,o,h1,h2,h3,h4⟩=>⟨l0,o,h1,h2,h3,h4.imp id fun h=>by rw[h];exact hl⟩) uo hv bV
end Go.Ab
end
