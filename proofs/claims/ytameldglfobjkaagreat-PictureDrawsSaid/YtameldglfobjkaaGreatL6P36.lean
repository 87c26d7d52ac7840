/- A part of the proof. -/
import Derived.Deep.SlicePairs
import Derived.Test.YtameldglfobjkaaGreatL6P35
set_option linter.unusedSimpArgs false
set_option linter.unusedVariables false
set_option linter.unusedSectionVars false
section
namespace Go.Ab
open Go.ChangeShapes Go.WideShapes Go.ChangeAt Go.RowKit
theorem DT{H:Type}{enc:TypeId × Value->H}{P:Program}(hl:laidOutB P=true){W W':World}(hb:Below W.heap.size W W'):
 ∀ {ts:List TypeId} {vs:List Value} {ds:List (DataW H)} {ps:List MemPlace},(ts.all fun t=>P.readableRec t&&decide (t<P.types.size))=true->
   DataW.TrodAll enc P W 0 (fun _=>true) true ts vs ds ps->DataW.TrodAll enc P W' 0 (fun b=>decide (b<W.heap.size)) true ts vs ds ps
 | [], [], [],_,_,h=>h
 |t::ts,v::vs,d::ds,ps,ht,h=>by
  have hlt:=h.lt
  obtain⟨p,q,h1,h2,rfl⟩:=h
  simp only[List.all_cons,adf,adb]at ht
  exact⟨p,q,Below.trod hl ht.1.1 ht.1.2 h1 hb (fun x hx=>hlt x (adR _ hx)),DT hl hb (by simpa using ht.2) h2,rfl⟩
 | [],_::_,_,_,_,h=>h.elim
 | [], [],_::_,_,_,h=>h.elim
 |_::_, [],_,_,_,h=>h.elim
 |_::_,_::_, [],_,_,h=>h.elim
theorem RF{H:Type}{enc:TypeId × Value->H}{P:Program}{W:World}{t e:TypeId}{f0 f1:Field}{fuel:Nat}{v:Value}{x:DataW H × List MemPlace}(ht:P.underlying t=some (.slice e))(he:P.underlying e=some (.struct #[f0,f1]))
 (ce:P.cellsOf e=2) (o0:f0.offset=0) (o1:f1.offset=1) (c0:P.cellsOf f0.type=1) (c1:P.cellsOf f1.type=1) (i0:P.underlying f0.type=some (.int .i64)) (i1:P.underlying f1.type=some (.int .i64))
 (h:DataW.trod enc P W 0 (fun _=>true) true fuel t [v]=some x):∃es:List Edge,Rd W (tE W).z v (sE es)/\es.length<=maxLen/\∀p∈es,(-9223372036854775808<=p.1/\p.1<=9223372036854775807)/\(-9223372036854775808<=p.2/\p.2<=9223372036854775807):=by
 rcases Go.Deep.open_slice_pairs ht he ce o0 o1 c0 c1 h with ⟨h1,_⟩|⟨a,len,cap,m,n,V0,V1,D0,D1,P0,P1,h1,_,hlc,UN,hm,_,hc⟩
 ·simp only[adA,afc]at h1
  exact⟨[],by rw[h1];exact .nil _ _,by simp,by simp⟩
 ·simp only[adA,afc]at h1
  simp only[if_true]at hm
  subst hm
  have hx:∀i,i<m->∃q:Int × Int,V0 i= .int .i64 q.1/\V1 i= .int .i64 q.2/\(-9223372036854775808<=q.1/\q.1<=9223372036854775807)/\(-9223372036854775808<=q.2/\q.2<=9223372036854775807):=by
   intro i hi
   obtain⟨_,_,g3,g4⟩:=hc i hi
   obtain⟨p,DZ,_,hp2⟩:=DataW.trod_int i0 g3
   obtain⟨q,NX,_,Mb⟩:=DataW.trod_int i1 g4
   simp only[adA,afc]at DZ NX
   exact⟨(p,q),DZ,NX,wf_i64 hp2,wf_i64 Mb⟩
  rcases af5 m with h0|hpos
  ·subst h0
   have:len=0:=by omega
   subst this
   exact⟨[],by rw[h1];exact .nil _ _,by simp,by simp⟩
  ·obtain⟨q,hq⟩:=Go.Deep.choose_lt hx
   have zn:a.spot=none:=by
    have:=World.cell?_spot (hc 0 hpos).1
    simpa[Addr.add]using this
   obtain⟨b,off,sp⟩:=a
   simp only at zn
   subst zn
   have hcell:∀k,k<m*2->W.cell? ⟨b,off+k,none⟩=some (if k % 2=0 then V0 (k / 2) else V1 (k / 2)):=by
    intro k hk
    obtain⟨g1,g2,_⟩:=hc (k / 2) (by omega)
    simp only[Addr.add_mid,af3]at g1 g2
    split
    ·rw[<- g1];congr 2;omega
    ·rw[<- g2];congr 2;omega
   have hz:off+m*2<=(tE W).z b:=by
    have:=hcell (m*2 - 1) (by omega)
    unfold World.cell? at this
    simp only[tE]
    split at this
    ·rename_i c _ _ hb
     simp only[Option.isSome_none,aec,if_false]at this
     have hlt:=(adq.1 this).1
     simp only[hb];omega
    ·cases this
   refine⟨(List.range len).map q, ?_,by simp;omega, ?_⟩
   ·rw[h1]
    refine .sl b off len m 2 _ (fun k=>if k % 2=0 then V0 (k / 2) else V1 (k / 2)) (by simp) (by simp[rE]) (by have:=adF 2 hlc;omega) hlc (fun k hk=>hcell k (by have:=adF 2 hlc;omega)) ?_
    intro i j r y hi hj
    have hil:i<len:=by have:=(adh.1 hi).1;simpa using this
    simp only[aeE,adm,adp hil,Option.map_some,ady,Function.comp]at hi
    subst hi
    obtain⟨e0,e1,_⟩:=hq i (by omega)
    match j,hj with
    |0,hj=>
     simp only[rE,List.getElem?_cons_zero,ady]at hj
     subst hj
     simp only[Nat.add_zero,Nat.mul_mod_left,if_true,Nat.mul_div_cancel _ (show 0<2 by omega),e0]
     exact .sc _ rfl
    |1,hj=>
     simp only[rE,List.getElem?_cons_succ,List.getElem?_cons_zero,ady]at hj
     subst hj
     rw[ac7 (by omega),show(i*2+1) / 2=i from by omega,e1]
     exact .sc _ rfl
    |j+2,hj=>simp[rE]at hj
   ·intro p hp
    obtain⟨i,hi,rfl⟩:=ada.1 hp
    have:=adk.1 hi
    exact(hq i (by omega)).2.2
theorem LX{H:Type}{enc:TypeId × Value->H}{P:Program}{W:World}{t e:TypeId}{fuel:Nat}{v:Value}{x:DataW H × List MemPlace}(ht:P.underlying t=some (.slice e))(he:P.underlying e=some (.int .i64))
 (ce:P.cellsOf e=1) (h:DataW.trod enc P W 0 (fun _=>true) true fuel t [v]=some x):∃l:List Int,Rd W (tE W).z v (sI l)/\l.length<=maxLen/\∀n∈l, -9223372036854775808<=n/\n<=9223372036854775807:=by
 rcases Go.Deep.open_slice1 ht ce h with ⟨h1,_⟩|⟨a,len,cap,m,n,V,D0,P0,h1,_,hlc,UN,hm,_,hc⟩
 ·simp only[adA,afc]at h1
  exact⟨[],by rw[h1];exact .nil _ _,by simp,by simp⟩
 ·simp only[adA,afc]at h1
  simp only[if_true]at hm
  subst hm
  have hx:∀i,i<m->∃q:Int,V i= .int .i64 q/\(-9223372036854775808<=q/\q<=9223372036854775807):=by
   intro i hi
   obtain⟨_,g3⟩:=hc i hi
   obtain⟨p,DZ,_,hp2⟩:=DataW.trod_int he g3
   simp only[adA,afc]at DZ
   exact⟨p,DZ,wf_i64 hp2⟩
  rcases af5 m with h0|hpos
  ·subst h0
   have:len=0:=by omega
   subst this
   exact⟨[],by rw[h1];exact .nil _ _,by simp,by simp⟩
  ·obtain⟨q,hq⟩:=Go.Deep.choose_lt hx
   have zn:a.spot=none:=by
    have:=World.cell?_spot (hc 0 hpos).1
    simpa[Addr.add]using this
   obtain⟨b,off,sp⟩:=a
   simp only at zn
   subst zn
   have hcell:∀k,k<m->W.cell? ⟨b,off+k,none⟩=some (V k):=by
    intro k hk
    have g1:=(hc k hk).1
    simpa only[Addr.add_mid]using g1
   have hz:off+m<=(tE W).z b:=by
    have:=hcell (m - 1) (by omega)
    unfold World.cell? at this
    simp only[tE]
    split at this
    ·rename_i c _ _ hb
     simp only[Option.isSome_none,aec,if_false]at this
     have hlt:=(adq.1 this).1
     simp only[hb];omega
    ·cases this
   refine⟨(List.range len).map q, ?_,by simp;omega, ?_⟩
   ·rw[h1]
    refine .sl b off len m 1 _ V (by simp) (by simp[rI]) (by omega) hlc (fun k hk=>hcell k (by omega)) ?_
    intro i j r y hi hj
    have hil:i<len:=by have:=(adh.1 hi).1;simpa using this
    simp only[aeE,adm,adp hil,Option.map_some,ady,Function.comp]at hi
    subst hi
    obtain⟨e0,_⟩:=hq i (by omega)
    match j,hj with
    |0,hj=>
     simp only[rI,List.getElem?_cons_zero,ady]at hj
     subst hj
     simp only[Nat.add_zero,af6,e0]
     exact .sc _ rfl
    |j+1,hj=>simp[rI]at hj
   ·intro n hn
    obtain⟨i,hi,rfl⟩:=ada.1 hn
    have:=adk.1 hi
    exact(hq i (by omega)).2
theorem NQ{H:Type}{enc:TypeId × Value->H}{P:Program}{W:World}{t0 t e:TypeId}{fuel:Nat}{v:Value}{x:DataW H × List MemPlace}(QN:P.underlying t0=some (.slice t))(ct:P.cellsOf t=1)(ht:P.underlying t=some (.slice e))(he:P.underlying e=some (.int .i64))(ce:P.cellsOf e=1)
 (h:DataW.trod enc P W 0 (fun _=>true) true fuel t0 [v]=some x):∃ls:List (List Int),Rd W (tE W).z v (.sl 1 (vI ls))/\ls.length<=maxLen/\∀l∈ls,l.length<=maxLen:=by
 rcases Go.Deep.open_slice1 QN ct h with ⟨h1,_⟩|⟨a,len,cap,m,n,V,D0,P0,h1,_,hlc,UN,hm,_,hc⟩
 ·simp only[adA,afc]at h1
  exact⟨[],by rw[h1];exact .nil _ _,by simp,by simp⟩
 ·simp only[adA,afc]at h1
  simp only[if_true]at hm
  subst hm
  have hx:∀i,i<m->∃q:List Int,Rd W (tE W).z (V i) (sI q)/\q.length<=maxLen:=by
   intro i hi
   obtain⟨_,g3⟩:=hc i hi
   obtain⟨es,h5,h6,_⟩:=LX ht he ce g3
   exact⟨es,h5,h6⟩
  rcases af5 m with h0|hpos
  ·subst h0
   have:len=0:=by omega
   subst this
   exact⟨[],by rw[h1];exact .nil _ _,by simp,by simp⟩
  ·obtain⟨q,hq⟩:=Go.Deep.choose_lt hx
   have zn:a.spot=none:=by
    have:=World.cell?_spot (hc 0 hpos).1
    simpa[Addr.add]using this
   obtain⟨b,off,sp⟩:=a
   simp only at zn
   subst zn
   have hcell:∀k,k<m->W.cell? ⟨b,off+k,none⟩=some (V k):=by
    intro k hk
    have g1:=(hc k hk).1
    simpa only[Addr.add_mid]using g1
   have hz:off+m<=(tE W).z b:=by
    have:=hcell (m - 1) (by omega)
    unfold World.cell? at this
    simp only[tE]
    split at this
    ·rename_i c _ _ hb
     simp only[Option.isSome_none,aec,if_false]at this
     have hlt:=(adq.1 this).1
     simp only[hb];omega
    ·cases this
   refine⟨(List.range len).map q, ?_,by simp;omega,fun l hl=>by
    obtain⟨i,hi,rfl⟩:=ada.1 hl
    have:=adk.1 hi
    exact(hq i (by omega)).2⟩
   rw[h1]
   refine .sl b off len m 1 _ V (by simp[vI]) (by simp[vI]) (by omega) hlc (fun k hk=>hcell k (by omega)) ?_
   intro i j r y hi hj
   have hil:i<len:=by have:=(adh.1 hi).1;simpa[vI]using this
   simp only[vI,aeE,adm,adp hil,Option.map_some,ady,Function.comp]at hi
   subst hi
   match j,hj with
   |0,hj=>
    simp only[List.getElem?_cons_zero,ady]at hj
    subst hj
    simp only[Nat.add_zero,af6]
    exact(hq i (by omega)).1
   |j+1,hj=>simp at hj
end Go.Ab
end
