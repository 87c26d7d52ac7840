/- From contracts to what the given statements ask: the world in which a law is called, its arguments, what it leaves. -/
import Derived.ProofKit
import Derived.Test.YtameldglfobjkaaGreatL6P13
set_option linter.unusedSimpArgs false
set_option linter.unusedVariables false
namespace Go.Ab
open Go.ChangeShapes Go.WideShapes Go.ChangeAt Go.RowKit
def tE(W:World):Env:=⟨fun _=>none,fun _=>default,fun b=>match W.heap[b]? with|some (.cells cs _ _)=>cs.size|_=>0⟩
theorem Mf(W:World):Good [] (tE W) W:=by
 have hs:∀l,bM [] l=none:=fun l=>by unfold bM;split<;>rfl
 refine⟨fun l h=>by simp[look]at h,fun l l' b h=>by simp[hs]at h,fun l o h=>by simp[hs]at h,fun b hb=> ?_⟩
 simp[tE,aeg hb]
theorem Mg{P:Program}{f:Nat}{XE:List AV}{b:Bool}(hs:Spec P f (Args XE) [] (.d (.sc (.bool b))) []){W:World}{args:Array Value}(hA:AVrs W (tE W) XE args.toList):
 Calls P f args W fun e W'=>e= .returned (.bool b)/\Below W.heap.size W W':=by
 have h:=hs.calls (tE W) W args.toList (Mf W) hA
 rw[Array.toArray_toList]at h
 refine h.mono fun e W' ⟨v,E',he,hst,_,_,hv⟩=> ?_
 refine⟨by rw[he,dM hv],hst.os,hst.tape,hst.output,hst.size,fun k hk=>(hst.frame k hk (by rintro⟨l,o,hl,_⟩;have hs:bM [] l=none:=(by unfold bM;split<;>rfl);simp[hs]at hl)).1⟩
theorem wf_i64{n:Int}(h:(Lit.int .i64 n).wf=true): -9223372036854775808<=n/\n<=9223372036854775807:=by
 simp only[Lit.wf,adf,adb]at h
 have e1:IntKind.i64.min= -9223372036854775808:=by decide
 have e2:IntKind.i64.max=9223372036854775807:=by decide
 rw[e1,e2]at h
 omega
end Go.Ab
